/- A part of the proof of a statement of this seat (see the text that ends in Proof): DtOk. No conditions of its own. -/
import Derived.Test.YthkblcgadmdkgaaGreatDoorDtBC
import Derived.Test.YthkblcgadmdkgaaGreatDoorDtPA
import Derived.Test.YthkblcgadmdkgaaGreatDoorDtHA
import Derived.Test.YthkblcgadmdkgaaGreatDoorProg
import Derived.KernelRfl
set_option linter.unusedVariables false
set_option linter.unusedSimpArgs false
set_option maxRecDepth 10000
namespace Go.Proofs.YthkblcgadmdkgaaGreatDoor
open Go Go.Lv Go.Pl Go.Rx Go.Rx.PS
noncomputable section
def Tryz.g2 : List Value := [.int .i64 2, .int .i64 2, .int .i64 2, .int .i64 4, .int .i64 4]
def Tryz.g6 : List Value := [.int .u8 0, .int .u8 1, .int .u8 56, .int .u8 2, .int .u8 57, .int .u8 49, .int .u8 28, .int .u8 3, .int .u8 61, .int .u8 58, .int .u8 42, .int .u8 50, .int .u8 38, .int .u8 29, .int .u8 17, .int .u8 4, .int .u8 62, .int .u8 47, .int .u8 59, .int .u8 36, .int .u8 45, .int .u8 43, .int .u8 51, .int .u8 22, .int .u8 53, .int .u8 39, .int .u8 33, .int .u8 30, .int .u8 24, .int .u8 18, .int .u8 12, .int .u8 5, .int .u8 63, .int .u8 55, .int .u8 48, .int .u8 27, .int .u8 60, .int .u8 41, .int .u8 37, .int .u8 16, .int .u8 46, .int .u8 35, .int .u8 44, .int .u8 21, .int .u8 52, .int .u8 32, .int .u8 23, .int .u8 11, .int .u8 54, .int .u8 26, .int .u8 40, .int .u8 15, .int .u8 34, .int .u8 20, .int .u8 31, .int .u8 10, .int .u8 25, .int .u8 14, .int .u8 19, .int .u8 9, .int .u8 13, .int .u8 8, .int .u8 7, .int .u8 6]
def Tryz.gl : List (Nat × List Value) := []
def Tryz.Az7 : List (Nat × List Value) := [(2, Tryz.g2)]
def Tryz.gl_2_6 : List (Nat × List Value) := [(2, Tryz.g2), (6, Tryz.g6)]
def Tryz.Avu : List (Nat × List Value) := [(6, Tryz.g6)]
theorem Tryz.mixed : Tryz.prog.follows .mixedOrders = true := by kernel_rfl
noncomputable abbrev P_ := Tryz.prog
theorem Tryz.cr (H : Hd) {f : Nat} {F : LTy (shL H.p) → Option (LTy (shL H.r))} (hf : P_.funcs[f]? = some H.f) (hT : Ano P_ H.T) (hA : ∀ p ∈ H.s, Ent P_ p.1) (hb : okH H = true) (h : ∀ x, H.u P_ x = F x) : ConOk P_ H.T.gl f ⟨H.p, H.r, F⟩ := Hd.con Tryz.mixed H hf hT hA hb h
theorem Tryz.co (H : Hd) {f : Nat} {F : LTy (shL H.p) → Option (LTy (shL H.r))} (hf : P_.funcs[f]? = some H.f) (hT : Ano P_ H.T) (hb : (H.s.isEmpty && okH H) = true) (h : ∀ x, H.u P_ x = F x) : ConOk P_ H.T.gl f ⟨H.p, H.r, F⟩ := Hd.Bwd Tryz.mixed H hf hT hb h
theorem Tryz.ent61 : Ent Tryz.prog 61 := Ent.mk Tryz.func61 (by kernel_rfl) rfl
theorem Tryz.ent62 : Ent Tryz.prog 62 := Ent.mk Tryz.func62 (by kernel_rfl) rfl
theorem Tryz.ent92 : Ent Tryz.prog 92 := Ent.mk Tryz.func92 (by kernel_rfl) rfl
theorem Tryz.ent98 : Ent Tryz.prog 98 := Ent.mk Tryz.func98 (by kernel_rfl) rfl
theorem Tryz.ent110 : Ent Tryz.prog 110 := Ent.mk Tryz.func110 (by kernel_rfl) rfl
theorem Tryz.ent152 : Ent Tryz.prog 152 := Ent.mk Tryz.func152 (by kernel_rfl) rfl
theorem Tryz.ent215 : Ent Tryz.prog 215 := Ent.mk Tryz.func215 (by kernel_rfl) rfl
theorem Tryz.ent217 : Ent Tryz.prog 217 := Ent.mk Tryz.func217 (by kernel_rfl) rfl
theorem Tryz.ent218 : Ent Tryz.prog 218 := Ent.mk Tryz.func218 (by kernel_rfl) rfl
theorem Tryz.ent219 : Ent Tryz.prog 219 := Ent.mk Tryz.func219 (by kernel_rfl) rfl
theorem Tryz.ent222 : Ent Tryz.prog 222 := Ent.mk Tryz.func222 (by kernel_rfl) rfl
theorem Tryz.ent229 : Ent Tryz.prog 229 := Ent.mk Tryz.func229 (by kernel_rfl) rfl
theorem Tryz.ent256 : Ent Tryz.prog 256 := Ent.mk Tryz.func256 (by kernel_rfl) rfl
theorem Tryz.ent261 : Ent Tryz.prog 261 := Ent.mk Tryz.func261 (by kernel_rfl) rfl
theorem Tryz.ent284 : Ent Tryz.prog 284 := Ent.mk Tryz.func284 (by kernel_rfl) rfl
theorem Tryz.ent286 : Ent Tryz.prog 286 := Ent.mk Tryz.func286 (by kernel_rfl) rfl
theorem Tryz.ent288 : Ent Tryz.prog 288 := Ent.mk Tryz.func288 (by kernel_rfl) rfl
namespace F13
noncomputable def H : Hd := ⟨[Sb], [Sz], .d, ⟨[], Tryz.gl, false⟩, [], Tryz.f13⟩
noncomputable def F (x : LB) := Abx x
theorem rn (x : LB) : H.u P_ x = F x := by kernel_rfl
noncomputable def c : Con := ⟨H.p, H.r, F⟩
theorem ok : ConOk P_ Tryz.gl 13 c := Tryz.co H Tryz.func13 .nil (by kernel_rfl) rn
end F13
namespace F150
noncomputable def H : Hd := ⟨[Sb, Sb], [Sz], .d, ⟨[], Tryz.gl, false⟩, [], Tryz.f150⟩
noncomputable def F (x : LB × LB) := Gj x.1 x.2
theorem rn (x : LB × LB) : H.u P_ x = F x := by kernel_rfl
noncomputable def c : Con := ⟨H.p, H.r, F⟩
theorem ok : ConOk P_ Tryz.gl 150 c := Tryz.co H Tryz.func150 .nil (by kernel_rfl) rn
end F150
namespace F169
noncomputable def H : Hd := ⟨[Sb, Sb], [Sz], .d, ⟨[(150, F150.c)], Tryz.gl, false⟩, [], Tryz.f169⟩
noncomputable def F (x : LB × LB) := Jt x.1 x.2
theorem rn (x : LB × LB) : H.u P_ x = F x := by kernel_rfl
noncomputable def c : Con := ⟨H.p, H.r, F⟩
theorem ok : ConOk P_ Tryz.gl 169 c := Tryz.co H Tryz.func169 (.cons F150.ok .nil) (by kernel_rfl) rn
end F169
namespace F285
abbrev R_ := (Int × Int)
noncomputable def H : Hd := ⟨[Sb], [Si, Si], (.seq .d (.seq .d (.seq .d (.cut [4] [] (.seq .d (.blk (.loop [4, 10, 11, 12] [] .d))) .d)))), ⟨[], Tryz.gl, false⟩, [], Tryz.f285⟩
def t4 (a : LB) (b f : Int) : S := ⟨[(4, vi b), (10, vb a), (11, vi (Ac a)), (12, vi f)], [], []⟩
def z4 : Nat → S → Option R_ := H.i P_ [r,r,r,l,r,d]
def x6 (b : Int) : Option R_ := H.e P_ [r,r,r,r] ⟨[(4, vi b)], [], []⟩
def x4 (a : LB) (b f : Int) : Option R_ := H.e P_ [r,r,r,l,r,d] (t4 a b f)
theorem e6 : x6 = Alo := by kernel_rfl
theorem i4 (a : LB) : ∀ (q : Nat) (b f : Int), z4 q (t4 a b f) = Kt a q b f :=
 ind (fun _ _ => by kernel_rfl) fun q ih b f => Eq.trans (b := Xa x6 (fun b f => (z4 q) (t4 a b f)) a b f) (by kernel_rfl) (by simp only [e6, ih] <;> rfl)
theorem e4 : x4 = Adk := by funext a b f; exact Eq.trans (by kernel_rfl) ((i4 a Bk b f).trans (by rw [Aj]; rfl))
noncomputable def F (x : LB) := Aed x
theorem rn (x : LB) : H.u P_ x = F x := Eq.trans (b := Adf x4 x) (by kernel_rfl) (by simp only [e4] <;> rfl)
noncomputable def c : Con := ⟨H.p, H.r, F⟩
theorem ok : ConOk P_ Tryz.gl 285 c := Tryz.co H Tryz.func285 .nil (by kernel_rfl) rn
end F285
namespace F254
def Ads (j5 : LB → UInt8 → UInt8 → Option (Int × Int)) (a : LB) : Option (Int × Int) :=
(Jt a ([(73 : UInt8), (68 : UInt8), (51 : UInt8)] : LB)).bind fun n =>
if (!n) then
some (0, 6)
else
if (Cu (Ac a) 10) then
some (0, 24)
else
(getI a 3).bind fun f =>
(getI a 5).bind fun b =>
both (
both (
bo (
j5 a f b)) [
both (
j5 a f b) [
bo (
j5 a f b)],
both (
j5 a f b) [
bo (
j5 a f b)]]) [
bo2 (
bo (
j5 a f b)),
both (
both (
j5 a f b) [
bo (
j5 a f b)]) [
bo (
j5 a f b),
both (
bo (
j5 a f b)) [
j5 a f b]],
both (
both (
j5 a f b) [
bo (
j5 a f b)]) [
bo (
j5 a f b),
both (
bo (
j5 a f b)) [
j5 a f b]]]
theorem Aqt : @Ads = @Yy := by
  unfold Ads Yy
  repeat (refine funext fun _ => ?_)
  repeat' first
    | with_reducible rfl
    | with_reducible refine Nl ?_ ?_
    | with_reducible refine Mw ?_ ?_ ?_
    | with_reducible refine Od ?_ ?_ ?_ ?_
    | ((with_reducible refine Vb ?_ ?_); focus (intro h; first | (subst h; rfl) | (simp only [h]; rfl) | (simp [Iy, Ac, h]; done)))
    | with_reducible refine Up fun x => ?_
    | with_reducible refine Aav (fun _ => ?_) (fun _ => ?_)
    | (refine Hb (fun h => by simp only [h, Uq, Ev, El, ite_self]) (fun x h => ?_); (try simp only [h, Ev]))
    | (refine Jp (fun h => ?_) (fun h => ?_) <;> simp only [h, if_true, if_false, Bool.false_eq_true])
abbrev R_ := (Int × Int)
noncomputable def H : Hd := ⟨[Sb], [Si, Si], (.seq .d (.seq .d (.seq .d (.cut [0, 4, 5] [] (.mode false) (.seq .d (.seq .d (.cut [0, 5, 6] [] (.cut [0, 5, 6, 43] [] (.keep [0, 5, 6, 7, 8, 31, 32, 33, 34, 35, 36, 37, 38, 39, 40, 41, 42, 43] true) .d) (.seq .d (.cut [0, 5, 6] [] .d .d))))))))), ⟨[(150, F150.c), (169, F169.c), (285, F285.c)], Tryz.gl, false⟩, [(286, .d)], Tryz.f254⟩
def x8 (a : LB) (b : UInt8) (h : Int) : Option R_ := H.e P_ [r,r,r,r,r,r,r,r,r] ⟨[(0, vb a), (5, .ptr 0 []), (6, vi h)], [.box 5 (vc b)], []⟩
def x7 (a : LB) (g : Int) (b : UInt8) : Option R_ := H.e P_ [r,r,r,r,r,r,r] ⟨[(0, vb a), (5, .ptr 0 []), (6, vi g)], [.box 5 (vc b)], []⟩
def x6 (a : LB) (g : Int) (b : UInt8) (m : Bool) : Option R_ := H.e P_ [r,r,r,r,r,r,l,r] ⟨[(0, vb a), (5, .ptr 0 []), (6, vi g), (43, vt m)], [.box 5 (vc b)], []⟩
def x5 (a : LB) (f b : UInt8) : Option R_ := H.e P_ [r,r,r,r] ⟨[(0, vb a), (4, .ptr 0 []), (5, .ptr 1 [])], [.box 5 (vc f), .box 5 (vc b)], []⟩
theorem e8 : x8 = Yu := by kernel_rfl
theorem e7 : x7 = Yx := Eq.trans (b := Af8 x8) (by kernel_rfl) (by simp only [e8] <;> rfl)
theorem e6 : x6 = Af9 := Eq.trans (b := Af2 x7) (by kernel_rfl) (by simp only [e7] <;> rfl)
theorem e5 : x5 = Af4 := Eq.trans (b := Afs x6) (by kernel_rfl) (by simp only [e6] <;> rfl)
noncomputable def F (x : LB) := Agx x
theorem rn (x : LB) : H.u P_ x = F x := Eq.trans (b := Ads x5 x) (by kernel_rfl) (by rw [Aqt]; simp only [e5] <;> rfl)
noncomputable def c : Con := ⟨H.p, H.r, F⟩
theorem ok : ConOk P_ Tryz.gl 254 c := Tryz.cr H Tryz.func254 (.cons F150.ok (.cons F169.ok (.cons F285.ok .nil))) (AnsOk.cons Tryz.ent286 AnsOk.nil) (by kernel_rfl) rn
end F254
namespace F157
abbrev R_ := (UInt64 × Int)
noncomputable def H : Hd := ⟨[Sb], [Sq, Si], (.seq .d (.seq .d (.seq .d (.cut [4] [] (.seq .d (.blk (.loop [4, 15, 16, 17] [] .d))) .d)))), ⟨[], Tryz.gl, false⟩, [], Tryz.f157⟩
def t4 (a : LB) (b : UInt64) (f : Int) : S := ⟨[(4, vq b), (15, vb a), (16, vi (Ac a)), (17, vi f)], [], []⟩
def z4 : Nat → S → Option R_ := H.i P_ [r,r,r,l,r,d]
def x6 (b : UInt64) : Option R_ := H.e P_ [r,r,r,r] ⟨[(4, vq b)], [], []⟩
def x4 (a : LB) (b : UInt64) (f : Int) : Option R_ := H.e P_ [r,r,r,l,r,d] (t4 a b f)
theorem e6 : x6 = Au2 := by kernel_rfl
theorem i4 (a : LB) : ∀ (q : Nat) (b : UInt64) (f : Int), z4 q (t4 a b f) = Aah a q b f :=
 ind (fun _ _ => by kernel_rfl) fun q ih b f => Eq.trans (b := Ajj x6 (fun b f => (z4 q) (t4 a b f)) a b f) (by kernel_rfl) (by simp only [e6, ih] <;> rfl)
theorem e4 : x4 = Ao5 := by funext a b f; exact Eq.trans (by kernel_rfl) ((i4 a Bk b f).trans (by rw [Aj]; rfl))
noncomputable def F (x : LB) := Aom x
theorem rn (x : LB) : H.u P_ x = F x := Eq.trans (b := Apo x4 x) (by kernel_rfl) (by simp only [e4] <;> rfl)
noncomputable def c : Con := ⟨H.p, H.r, F⟩
theorem ok : ConOk P_ Tryz.gl 157 c := Tryz.co H Tryz.func157 .nil (by kernel_rfl) rn
end F157
namespace F142
noncomputable def H : Hd := ⟨[Sb, Si, Si], [Sq, Si], .d, ⟨[(157, F157.c)], Tryz.gl, false⟩, [], Tryz.f142⟩
noncomputable def F (x : LB × Int × Int) := Alp x.1 x.2.1 x.2.2
theorem rn (x : LB × Int × Int) : H.u P_ x = F x := by kernel_rfl
noncomputable def c : Con := ⟨H.p, H.r, F⟩
theorem ok : ConOk P_ Tryz.gl 142 c := Tryz.co H Tryz.func142 (.cons F157.ok .nil) (by kernel_rfl) rn
end F142
namespace F248
noncomputable def H : Hd := ⟨[Sq, Si], [Sz], .d, ⟨[], Tryz.gl, false⟩, [], Tryz.f248⟩
noncomputable def F (x : UInt64 × Int) := Av0 x.1 x.2
theorem rn (x : UInt64 × Int) : H.u P_ x = F x := by kernel_rfl
noncomputable def c : Con := ⟨H.p, H.r, F⟩
theorem ok : ConOk P_ Tryz.gl 248 c := Tryz.co H Tryz.func248 .nil (by kernel_rfl) rn
end F248
namespace F194
abbrev R_ := (LB × Int)
noncomputable def H : Hd := ⟨[Sq, Si], [Ob 5, Si], (.seq .d (.seq .d (.seq .d (.seq .d (.cut [6] [] (.seq .d (.blk (.loop [0, 6, 21, 22] [] .d))) .d))))), ⟨[(248, F248.c)], Tryz.gl, false⟩, [], Tryz.f194⟩
def t4 (f : UInt64) (g : LB) (b : Int) (a : LB) : S := ⟨[(0, vq f), (6, .own 0), (21, vi (Ac g)), (22, vi b)], [Ab 5 a], []⟩
def z4 : Nat → S → Option R_ := H.i P_ [r,r,r,r,l,r,d]
def x6 (a : LB) : Option R_ := H.e P_ [r,r,r,r,r] ⟨[(6, .own 0)], [Ab 5 a], []⟩
def x4 (f : UInt64) (g : LB) (b : Int) (a : LB) : Option R_ := H.e P_ [r,r,r,r,l,r,d] (t4 f g b a)
theorem e6 : x6 = Apr := by kernel_rfl
theorem i4 (f : UInt64) (g : LB) : ∀ (q : Nat) (b : Int) (a : LB), z4 q (t4 f g b a) = Zz f g q b a :=
 ind (fun _ _ => by kernel_rfl) fun q ih b a => Eq.trans (b := Ajt x6 (fun b a => (z4 q) (t4 f g b a)) f g b a) (by kernel_rfl) (by simp only [e6, ih] <;> rfl)
theorem e4 : x4 = Apl := by funext f g b a; exact Eq.trans (by kernel_rfl) ((i4 f g Bk b a).trans (by rw [Aj]; rfl))
noncomputable def F (x : UInt64 × Int) := Aoz x.1 x.2
theorem rn (x : UInt64 × Int) : H.u P_ x = F x := Eq.trans (b := Api x4 x.1 x.2) (by kernel_rfl) (by simp only [e4] <;> rfl)
noncomputable def c : Con := ⟨H.p, H.r, F⟩
theorem ok : ConOk P_ Tryz.gl 194 c := Tryz.co H Tryz.func194 (.cons F248.ok .nil) (by kernel_rfl) rn
end F194
namespace F171
abbrev R_ := LB
noncomputable def H : Hd := ⟨[Si, Si, Sq], [Ob 5], (.seq .d (.seq .d (.cut [7] [] (.seq .d (.blk (.loop [7, 20, 21, 22] [] .d))) .d))), ⟨[(194, F194.c)], Tryz.gl, false⟩, [], Tryz.f171⟩
def t4 (a b : Int) (f : UInt64) (h : Int) (g : LB) : S := ⟨[(7, .own 0), (20, .own 1), (21, vi (Ac ([(2000 : UInt64), (Ad (Ae a (32 : Int)) : UInt64), (Ad b : UInt64), f, (0 : UInt64), (0 : UInt64)] : LQ))), (22, vi h)], [Ab 5 g, .arr 157 (.int .u64) ([(2000 : UInt64), (Ad (Ae a (32 : Int)) : UInt64), (Ad b : UInt64), f, (0 : UInt64), (0 : UInt64)] : LQ)], []⟩
def z4 : Nat → S → Option R_ := H.i P_ [r,r,l,r,d]
def x6 (g : LB) : Option R_ := H.e P_ [r,r,r] ⟨[(7, .own 0)], [Ab 5 g], []⟩
def x4 (a b : Int) (f : UInt64) (h : Int) (g : LB) : Option R_ := H.e P_ [r,r,l,r,d] (t4 a b f h g)
theorem e6 : x6 = Ary := by kernel_rfl
theorem i4 (a b : Int) (f : UInt64) : ∀ (q : Nat) (h : Int) (g : LB), z4 q (t4 a b f h g) = Ze a b f q h g :=
 ind (fun _ _ => by kernel_rfl) fun q ih h g => Eq.trans (b := Am9 x6 (fun h g => (z4 q) (t4 a b f h g)) a b f h g) (by kernel_rfl) (by simp only [e6, ih] <;> rfl)
theorem e4 : x4 = Arm := by funext a b f h g; exact Eq.trans (by kernel_rfl) ((i4 a b f Bk h g).trans (by rw [Aj]; rfl))
noncomputable def F (x : Int × Int × UInt64) := Aqe x.1 x.2.1 x.2.2
theorem rn (x : Int × Int × UInt64) : H.u P_ x = F x := Eq.trans (b := Ark x4 x.1 x.2.1 x.2.2) (by kernel_rfl) (by simp only [e4] <;> rfl)
noncomputable def c : Con := ⟨H.p, H.r, F⟩
theorem ok : ConOk P_ Tryz.gl 171 c := Tryz.co H Tryz.func171 (.cons F194.ok .nil) (by kernel_rfl) rn
end F171
namespace F170
noncomputable def H : Hd := ⟨[Sb, Sq], [.agg [Si, Si], Sz], .d, ⟨[(142, F142.c), (150, F150.c), (171, F171.c)], Tryz.gl, false⟩, [], Tryz.f170⟩
noncomputable def F (x : LB × UInt64) := Ag4 x.1 x.2
theorem rn (x : LB × UInt64) : H.u P_ x = F x := by kernel_rfl
noncomputable def c : Con := ⟨H.p, H.r, F⟩
theorem ok : ConOk P_ Tryz.gl 170 c := Tryz.co H Tryz.func170 (.cons F142.ok (.cons F150.ok (.cons F171.ok .nil))) (by kernel_rfl) rn
end F170
namespace F255
noncomputable def H : Hd := ⟨[Sb], [Si, Si], .d, ⟨[(150, F150.c), (169, F169.c), (170, F170.c), (171, F171.c)], Tryz.gl, false⟩, [], Tryz.f255⟩
noncomputable def F (x : LB) := Aqh x
theorem rn (x : LB) : H.u P_ x = F x := by kernel_rfl
noncomputable def c : Con := ⟨H.p, H.r, F⟩
theorem ok : ConOk P_ Tryz.gl 255 c := Tryz.co H Tryz.func255 (.cons F150.ok (.cons F169.ok (.cons F170.ok (.cons F171.ok .nil)))) (by kernel_rfl) rn
end F255
namespace F208
noncomputable def H : Hd := ⟨[Sb], [Si, Si], .d, ⟨[(254, F254.c), (255, F255.c)], Tryz.gl, false⟩, [], Tryz.f208⟩
noncomputable def F (x : LB) := Vu x
theorem rn (x : LB) : H.u P_ x = F x := by kernel_rfl
noncomputable def c : Con := ⟨H.p, H.r, F⟩
theorem ok : ConOk P_ Tryz.gl 208 c := Tryz.co H Tryz.func208 (.cons F254.ok (.cons F255.ok .nil)) (by kernel_rfl) rn
end F208
theorem Ah2 : ConOk Tryz.prog Tryz.gl 92 Yd := Axp Tryz.ent92 F208.ok
namespace F209
noncomputable def H : Hd := ⟨[Ss, Ss], [Sz], .d, ⟨[], Tryz.gl, false⟩, [], Tryz.f209⟩
noncomputable def F (x : LB × LB) := Ih x.1 x.2
theorem rn (x : LB × LB) : H.u P_ x = F x := by kernel_rfl
noncomputable def c : Con := ⟨H.p, H.r, F⟩
theorem ok : ConOk P_ Tryz.gl 209 c := Tryz.co H Tryz.func209 .nil (by kernel_rfl) rn
end F209
namespace F141
noncomputable def H : Hd := ⟨[Ss, Ss], [Sz], .d, ⟨[(209, F209.c)], Tryz.gl, false⟩, [], Tryz.f141⟩
noncomputable def F (x : LB × LB) := Ut x.1 x.2
theorem rn (x : LB × LB) : H.u P_ x = F x := by kernel_rfl
noncomputable def c : Con := ⟨H.p, H.r, F⟩
theorem ok : ConOk P_ Tryz.gl 141 c := Tryz.co H Tryz.func141 (.cons F209.ok .nil) (by kernel_rfl) rn
end F141
namespace F210
abbrev R_ := (UInt32 × Int)
abbrev K_ := S → Option R_
noncomputable def H : Hd := ⟨[Su, Sb], [Su, Si], (.seq .d (.seq .d (.cut [0, 1, 6] [] (.keep [0, 1, 6, 12] true) (.cut [0] [] (.seq .d (.blk (.loop [0, 6, 13, 14, 15] [] .d))) .d)))), ⟨[], Tryz.gl, false⟩, [(256, (.seq .d (.seq .d (.cut [1] [] (.seq .d (.blk (.loop [1, 5] [] (.seq .d (.seq .d (.cut [1, 5] [] (.blk (.seq .d (.seq .d (.cut [1, 2, 3, 5] [] (.seq .d (.blk (.loop [1, 2, 3, 5, 10] [] .d))) .d)))) .d)))))) .d))))], Tryz.f210⟩
def t28 (a : LB) (b : LU) (h : UInt32) (m : Int) : S := ⟨[(0, vu h), (6, .ptr 0 []), (13, vb a), (14, vi (Ac a)), (15, vi m)], [.box 375 (.val (.vec 256 (.int .u32)) b)], []⟩
def z28 : Nat → S → Option R_ := H.i P_ [r,r,r,l,r,d]
def t21 (f : UInt32) (a : LB) (g : Int) (b : LU) (k : UInt32) (n : Int) : S := ⟨[(1, .ptr 0 []), (2, vi g), (3, vu k), (5, vi g), (10, vi n)], [.box 375 (.val (.vec 256 (.int .u32)) b)], [[(0, vu f), (1, vb a)]]⟩
def z21 (kn16 : K_) : Nat → S → Option R_ := H.i P_ [r,r,l,(call 0 256),r,r,l,r,d,(lp kn16),r,r,l,d,r,r,l,r,d]
def t16 (f : UInt32) (a : LB) (g : Int) (b : LU) : S := ⟨[(1, .ptr 0 []), (5, vi g)], [.box 375 (.val (.vec 256 (.int .u32)) b)], [[(0, vu f), (1, vb a)]]⟩
def z16 : Nat → S → Option R_ := H.i P_ [r,r,l,(call 0 256),r,r,l,r,d]
def x30 (h : UInt32) : Option R_ := H.e P_ [r,r,r,r] ⟨[(0, vu h)], [], []⟩
def x28 (a : LB) (b : LU) (h : UInt32) (m : Int) : Option R_ := H.e P_ [r,r,r,l,r,d] (t28 a b h m)
def x27 (f : UInt32) (a : LB) (b : LU) : Option R_ := H.e P_ [r,r,r] ⟨[(0, vu f), (1, vb a), (6, .ptr 0 [])], [.box 375 (.val (.vec 256 (.int .u32)) b)], []⟩
def x26 (f : UInt32) (a : LB) (b : LU) : Option R_ := H.e P_ [r,r,l,(call 0 256),r,r,r] ⟨[(1, .ptr 0 [])], [.box 375 (.val (.vec 256 (.int .u32)) b)], [[(0, vu f), (1, vb a)]]⟩
def x24 (kn16 : K_) (f : UInt32) (a : LB) (g : Int) (o : LU) : Option R_ := H.e P_ [r,r,l,(call 0 256),r,r,l,r,d,(lp kn16),r,r,r] ⟨[(1, .ptr 0 []), (5, vi g)], [.box 375 (.val (.vec 256 (.int .u32)) o)], [[(0, vu f), (1, vb a)]]⟩
def x23 (kn16 : K_) (f : UInt32) (a : LB) (g : Int) (k : UInt32) (b : LU) : Option R_ := H.e P_ [r,r,l,(call 0 256),r,r,l,r,d,(lp kn16),r,r,l,d,r,r,r] ⟨[(1, .ptr 0 []), (2, vi g), (3, vu k), (5, vi g)], [.box 375 (.val (.vec 256 (.int .u32)) b)], [[(0, vu f), (1, vb a)]]⟩
def x21 (kn16 : K_) (f : UInt32) (a : LB) (g : Int) (b : LU) (k : UInt32) (n : Int) : Option R_ := H.e P_ [r,r,l,(call 0 256),r,r,l,r,d,(lp kn16),r,r,l,d,r,r,l,r,d] (t21 f a g b k n)
def x16 (f : UInt32) (a : LB) (g : Int) (b : LU) : Option R_ := H.e P_ [r,r,l,(call 0 256),r,r,l,r,d] (t16 f a g b)
theorem e30 : x30 = Ah5 := by kernel_rfl
theorem i28 (a : LB) (b : LU) : ∀ (q : Nat) (h : UInt32) (m : Int), z28 q (t28 a b h m) = Qh a b q h m :=
 ind (fun _ _ => by kernel_rfl) fun q ih h m => Eq.trans (b := Abi x30 (fun h m => (z28 q) (t28 a b h m)) a b h m) (by kernel_rfl) (by simp only [e30, ih] <;> rfl)
theorem e28 : x28 = Ail := by funext a b h m; exact Eq.trans (by kernel_rfl) ((i28 a b Bk h m).trans (by rw [Aj]; rfl))
theorem e27 : x27 = Ah9 := Eq.trans (b := Ah4 x28) (by kernel_rfl) (by simp only [e28] <;> rfl)
theorem e26 : x26 = Aa8 := Eq.trans (b := Aiq x27) (by kernel_rfl) (by simp only [e27] <;> rfl)
theorem e24 (kn16 : K_) (f : UInt32) (a : LB) : x24 kn16 f a = Ahs (fun g b => kn16 (t16 f a g b)) f a := by kernel_rfl
theorem e23 (kn16 : K_) (f : UInt32) (a : LB) : x23 kn16 f a = Abe (fun g b => kn16 (t16 f a g b)) f a := Eq.trans (b := Ah6 (x24 kn16 f a) f a) (by kernel_rfl) (by simp only [e24] <;> rfl)
theorem i21 (kn16 : K_) (f : UInt32) (a : LB) (g : Int) (b : LU) : ∀ (q : Nat) (k : UInt32) (n : Int), z21 kn16 q (t21 f a g b k n) = Qr (fun g b => kn16 (t16 f a g b)) f a g b q k n :=
 ind (fun _ _ => by kernel_rfl) fun q ih k n => Eq.trans (b := Ab1 (x23 kn16 f a) (fun k n => (z21 kn16 q) (t21 f a g b k n)) f a g b k n) (by kernel_rfl) (by simp only [e23, ih] <;> rfl)
theorem e21 (kn16 : K_) (f : UInt32) (a : LB) : x21 kn16 f a = Ahk (fun g b => kn16 (t16 f a g b)) f a := by funext g b k n; exact Eq.trans (by kernel_rfl) ((i21 kn16 f a g b Bk k n).trans (by rw [Aj]; rfl))
theorem i16 (f : UInt32) (a : LB) : ∀ (q : Nat) (g : Int) (b : LU), z16 q (t16 f a g b) = Lh f a q g b :=
 ind (fun _ _ => by kernel_rfl) fun q ih g b => Eq.trans (b := Aaz (x21 (z16 q) f a) x26 f a g b) (by kernel_rfl) (by simp only [e21, e26, ih] <;> rfl)
theorem e16 : x16 = Ai8 := by funext f a g b; exact Eq.trans (by kernel_rfl) ((i16 f a Bk g b).trans (by rw [Aj]; rfl))
noncomputable def F (x : UInt32 × LB) := Amz x.1 x.2
theorem rn (x : UInt32 × LB) : H.u P_ x = F x := Eq.trans (b := Akg x16 x.1 x.2) (by kernel_rfl) (by simp only [e16] <;> rfl)
noncomputable def c : Con := ⟨H.p, H.r, F⟩
theorem ok : ConOk P_ Tryz.gl 210 c := Tryz.cr H Tryz.func210 .nil (AnsOk.cons Tryz.ent256 AnsOk.nil) (by kernel_rfl) rn
end F210
namespace F143
noncomputable def H : Hd := ⟨[Sb], [Su, Si], .d, ⟨[(210, F210.c)], Tryz.gl, false⟩, [], Tryz.f143⟩
noncomputable def F (x : LB) := Ag8 x
theorem rn (x : LB) : H.u P_ x = F x := by kernel_rfl
noncomputable def c : Con := ⟨H.p, H.r, F⟩
theorem ok : ConOk P_ Tryz.gl 143 c := Tryz.co H Tryz.func143 (.cons F210.ok .nil) (by kernel_rfl) rn
end F143
namespace F144
abbrev R_ := Bool
noncomputable def H : Hd := ⟨[.agg [Si, Si, Si, Si, Si]], [Sz], (.seq .d (.cut [1] [] .d .d)), ⟨[], Tryz.gl, false⟩, [], Tryz.f144⟩
def x2 (b f a g h : Int) : Option R_ := H.e P_ [r,r] ⟨[(1, .ptr 0 [])], [.box 24 (.agg [vi b, vi f, vi a, vi g, vi h])], []⟩
theorem e2 : x2 = Xg := by kernel_rfl
noncomputable def F (x : Int × Int × Int × Int × Int) := Yi x.1 x.2.1 x.2.2.1 x.2.2.2.1 x.2.2.2.2
theorem rn (x : Int × Int × Int × Int × Int) : H.u P_ x = F x := Eq.trans (b := Ado x2 x.1 x.2.1 x.2.2.1 x.2.2.2.1 x.2.2.2.2) (by kernel_rfl) (by simp only [e2] <;> rfl)
noncomputable def c : Con := ⟨H.p, H.r, F⟩
theorem ok : ConOk P_ Tryz.gl 144 c := Tryz.co H Tryz.func144 .nil (by kernel_rfl) rn
end F144
namespace F204
noncomputable def H : Hd := ⟨[Si], [Si, Si], .d, ⟨[], Tryz.gl, false⟩, [], Tryz.f204⟩
noncomputable def F (x : Int) := Ab2 x
theorem rn (x : Int) : H.u P_ x = F x := by kernel_rfl
noncomputable def c : Con := ⟨H.p, H.r, F⟩
theorem ok : ConOk P_ Tryz.gl 204 c := Tryz.co H Tryz.func204 .nil (by kernel_rfl) rn
end F204
namespace F203
noncomputable def H : Hd := ⟨[Si, Si], [Si, Si], .d, ⟨[(204, F204.c)], Tryz.gl, false⟩, [], Tryz.f203⟩
noncomputable def F (x : Int × Int) := Yk x.1 x.2
theorem rn (x : Int × Int) : H.u P_ x = F x := by kernel_rfl
noncomputable def c : Con := ⟨H.p, H.r, F⟩
theorem ok : ConOk P_ Tryz.gl 203 c := Tryz.co H Tryz.func203 (.cons F204.ok .nil) (by kernel_rfl) rn
end F203
namespace F145
noncomputable def H : Hd := ⟨[.agg [Si, Si, Si, Si, Si]], [Sz], .d, ⟨[(203, F203.c)], Tryz.gl, false⟩, [], Tryz.f145⟩
noncomputable def F (x : Int × Int × Int × Int × Int) := Afi x.1 x.2.1 x.2.2.1 x.2.2.2.1 x.2.2.2.2
theorem rn (x : Int × Int × Int × Int × Int) : H.u P_ x = F x := by kernel_rfl
noncomputable def c : Con := ⟨H.p, H.r, F⟩
theorem ok : ConOk P_ Tryz.gl 145 c := Tryz.co H Tryz.func145 (.cons F203.ok .nil) (by kernel_rfl) rn
end F145
namespace F93
abbrev R_ := (Int × Int × Int × Int × Int × Int)
noncomputable def H : Hd := ⟨[Sb], [.agg [Si, Si, Si, Si, Si], Si], (.seq .d (.seq .d (.seq .d (.seq .d (.seq .d (.seq .d (.seq .d (.cut [2, 8] [] (.seq .d (.blk (.loop [0, 2, 8, 9, 44, 45] [] .d))) .d)))))))), ⟨[(141, F141.c), (142, F142.c), (143, F143.c), (144, F144.c), (145, F145.c)], Tryz.Az7, false⟩, [], Tryz.f93⟩
def t4 (b : LB) (g f : Int) (a : LI) : S := ⟨[(0, vb b), (2, .ptr 0 []), (8, .ptr 1 []), (9, vi g), (44, .val (.vec 5 (.int .i64)) ([(2 : Int), (2 : Int), (2 : Int), (4 : Int), (4 : Int)] : LI)), (45, vi f)], [.box 24 (.agg [vi 0, vi 0, vi 0, vi 0, vi 0]), .box 209 (.val (.vec 5 (.int .i64)) a)], []⟩
def z4 : Nat → S → Option R_ := H.i P_ [r,r,r,r,r,r,r,l,r,d]
def x6 (a : LI) : Option R_ := H.e P_ [r,r,r,r,r,r,r,r] ⟨[(2, .ptr 0 []), (8, .ptr 1 [])], [.box 24 (.agg [vi 0, vi 0, vi 0, vi 0, vi 0]), .box 209 (.val (.vec 5 (.int .i64)) a)], []⟩
def x4 (b : LB) (g f : Int) (a : LI) : Option R_ := H.e P_ [r,r,r,r,r,r,r,l,r,d] (t4 b g f a)
theorem e6 : x6 = Abo := by kernel_rfl
theorem i4 (b : LB) : ∀ (q : Nat) (g f : Int) (a : LI), z4 q (t4 b g f a) = Lb b q g f a :=
 ind (fun _ _ _ => by kernel_rfl) fun q ih g f a => Eq.trans (b := Acd x6 (fun g f a => (z4 q) (t4 b g f a)) b g f a) (by kernel_rfl) (by simp only [e6, ih] <;> rfl)
theorem e4 : x4 = Ace := by funext b g f a; exact Eq.trans (by kernel_rfl) ((i4 b Bk g f a).trans (by rw [Aj]; rfl))
noncomputable def F (x : LB) := Zs x
theorem rn (x : LB) : H.u P_ x = F x := Eq.trans (b := Aic x4 x) (by kernel_rfl) (by simp only [e4] <;> rfl)
noncomputable def c : Con := ⟨H.p, H.r, F⟩
theorem ok : ConOk P_ Tryz.Az7 93 c := Tryz.co H Tryz.func93 (.cons (F141.ok.mono (.cons _ .slnil)) (.cons (F142.ok.mono (.cons _ .slnil)) (.cons (F143.ok.mono (.cons _ .slnil)) (.cons (F144.ok.mono (.cons _ .slnil)) (.cons (F145.ok.mono (.cons _ .slnil)) .nil))))) (by kernel_rfl) rn
end F93
namespace F131
noncomputable def H : Hd := ⟨[.agg [Si, Si, Si, Si, Si]], [Si], .d, ⟨[(144, F144.c), (145, F145.c)], Tryz.gl, false⟩, [], Tryz.f131⟩
noncomputable def F (x : Int × Int × Int × Int × Int) := Agr x.1 x.2.1 x.2.2.1 x.2.2.2.1 x.2.2.2.2
theorem rn (x : Int × Int × Int × Int × Int) : H.u P_ x = F x := by kernel_rfl
noncomputable def c : Con := ⟨H.p, H.r, F⟩
theorem ok : ConOk P_ Tryz.gl 131 c := Tryz.co H Tryz.func131 (.cons F144.ok (.cons F145.ok .nil)) (by kernel_rfl) rn
end F131
namespace F283
noncomputable def H : Hd := ⟨[Sq, Sq], [Sq, Sq], .d, ⟨[], Tryz.gl, false⟩, [], Tryz.f283⟩
noncomputable def F (x : UInt64 × UInt64) := Af1 x.1 x.2
theorem rn (x : UInt64 × UInt64) : H.u P_ x = F x := by kernel_rfl
noncomputable def c : Con := ⟨H.p, H.r, F⟩
theorem ok : ConOk P_ Tryz.gl 283 c := Tryz.co H Tryz.func283 .nil (by kernel_rfl) rn
end F283
namespace F252
noncomputable def H : Hd := ⟨[Sq, Sq], [Sq, Sq], .d, ⟨[(283, F283.c)], Tryz.gl, false⟩, [], Tryz.f252⟩
noncomputable def F (x : UInt64 × UInt64) := Ad7 x.1 x.2
theorem rn (x : UInt64 × UInt64) : H.u P_ x = F x := by kernel_rfl
noncomputable def c : Con := ⟨H.p, H.r, F⟩
theorem ok : ConOk P_ Tryz.gl 252 c := Tryz.co H Tryz.func252 (.cons F283.ok .nil) (by kernel_rfl) rn
end F252
namespace F205
def Mp (j10 : LI → Option (LI)) (bk8 : Int → LI → Option (LI)) (b : Int) (a : LI) : Option (LI) :=
if (Cu b (Ac a)) then
both (
(vwI (Ac a) b (Ac a)).bind fun _ =>
(vwI (Ac a) 0 b).bind fun _ =>
bk8 (Ae b (Aie ((Ac a) - b) (Alh a 0 (b - (0 : Int))).length)) (Ue a b ((Ac a) - b) (Alh a 0 (b - (0 : Int))))) [
(vwI (Ac a) 0 b).bind fun _ =>
(vwI (Ac a) b (Ac a)).bind fun _ =>
bk8 (Ae b (Aie ((Ac a) - b) (Alh a 0 (b - (0 : Int))).length)) (Ue a b ((Ac a) - b) (Alh a 0 (b - (0 : Int))))]
else
j10 a
theorem Afz : @Mp = @Fx := by
  unfold Mp Fx
  repeat (refine funext fun _ => ?_)
  repeat' first
    | with_reducible rfl
    | with_reducible refine Nl ?_ ?_
    | with_reducible refine Mw ?_ ?_ ?_
    | with_reducible refine Od ?_ ?_ ?_ ?_
    | ((with_reducible refine Vb ?_ ?_); focus (intro h; first | (subst h; rfl) | (simp only [h]; rfl) | (simp [Iy, Ac, h]; done)))
    | with_reducible refine Up fun x => ?_
    | with_reducible refine Aav (fun _ => ?_) (fun _ => ?_)
    | (refine Hb (fun h => by simp only [h, Uq, Ev, El, ite_self]) (fun x h => ?_); (try simp only [h, Ev]))
    | (refine Jp (fun h => ?_) (fun h => ?_) <;> simp only [h, if_true, if_false, Bool.false_eq_true])
abbrev R_ := LI
noncomputable def H : Hd := ⟨[Sl, Si], [Ol 3], (.seq .d (.cut [0, 1] [] .d (.seq .d (.cut [0, 6] [] .d (.seq .d (.seq .d (.cut [7] [] (.blk (.loop [7, 8] [] (.seq .d (.blk (.mode false))))) .d))))))), ⟨[(252, F252.c)], Tryz.gl, true⟩, [], Tryz.f205⟩
def t8 (b : Int) (a : LI) : S := ⟨[(7, .own 0), (8, vi b)], [Ai 3 a], []⟩
def z8 : Nat → S → Option R_ := H.i P_ [r,r,r,r,r,r,l,d]
def x10 (a : LI) : Option R_ := H.e P_ [r,r,r,r,r,r,r] ⟨[(7, .own 0)], [Ai 3 a], []⟩
def x8 (b : Int) (a : LI) : Option R_ := H.e P_ [r,r,r,r,r,r,l,d] (t8 b a)
def x7 (f : LI) (g : UInt64) : Option R_ := H.e P_ [r,r,r,r] ⟨[(0, vl f), (6, vq g)], [], []⟩
def x6 (f : LI) (h : Int) : Option R_ := H.e P_ [r,r] ⟨[(0, vl f), (1, vi h)], [], []⟩
theorem e10 : x10 = Hu := by kernel_rfl
theorem i8 : ∀ (q : Nat) (b : Int) (a : LI), z8 q (t8 b a) = Ee q b a :=
 ind (fun _ _ => by kernel_rfl) fun q ih b a => Eq.trans (b := Mp x10 (fun b a => (z8 q) (t8 b a)) b a) (by kernel_rfl) (by rw [Afz]; simp only [e10, ih] <;> rfl)
theorem e8 : x8 = Oq := by funext b a; exact Eq.trans (by kernel_rfl) ((i8 Bk b a).trans (by rw [Aj]; rfl))
theorem e7 : x7 = Ok := Eq.trans (b := Of x8) (by kernel_rfl) (by simp only [e8] <;> rfl)
theorem e6 : x6 = Ou := Eq.trans (b := Oh x7) (by kernel_rfl) (by simp only [e7] <;> rfl)
noncomputable def F (x : LI × Int) := Ma x.1 x.2
theorem rn (x : LI × Int) : H.u P_ x = F x := Eq.trans (b := Oj x6 x.1 x.2) (by kernel_rfl) (by simp only [e6] <;> rfl)
noncomputable def c : Con := ⟨H.p, H.r, F⟩
theorem ok : ConOk P_ Tryz.gl 205 c := Tryz.co H Tryz.func205 (.cons F252.ok .nil) (by kernel_rfl) rn
end F205
namespace F253
abbrev R_ := LI
noncomputable def H : Hd := ⟨[.lf (.list (.list (.int .i64))) none], [Ol 3], (.seq .d (.seq .d (.cut [0, 3] [] (.seq .d (.blk (.loop [0, 3, 9, 10, 11] [] .d))) (.cut [0, 6] [⟨6, [], .own 3 (.int .i64)⟩] (.keep [0, 3, 6, 23, 24] true) (.cut [6] [] (.seq .d (.blk (.loop [6, 25, 26, 27] [] .d))) .d))))), ⟨[], Tryz.gl, true⟩, [(284, (.seq .d (.cut [0, 1] [] .d .d)))], Tryz.f253⟩
def t14 (a : List LI) (g : Int) (f : LI) : S := ⟨[(6, .own 0), (25, .val (.list (.list (.int .i64))) a), (26, vi (Ac a)), (27, vi g)], [Ai 3 f], []⟩
def z14 : Nat → S → Option R_ := H.i P_ [r,r,r,r,l,r,d]
def t9 (a : List LI) (b h : Int) : S := ⟨[(0, .val (.list (.list (.int .i64))) a), (3, vi b), (9, .val (.list (.list (.int .i64))) a), (10, vi (Ac a)), (11, vi h)], [], []⟩
def z9 : Nat → S → Option R_ := H.i P_ [r,r,l,r,d]
def x16 (f : LI) : Option R_ := H.e P_ [r,r,r,r,r] ⟨[(6, .own 0)], [Ai 3 f], []⟩
def x14 (a : List LI) (g : Int) (f : LI) : Option R_ := H.e P_ [r,r,r,r,l,r,d] (t14 a g f)
def x13 (a : List LI) (k : LI) : Option R_ := H.e P_ [r,r,r,r] ⟨[(0, .val (.list (.list (.int .i64))) a), (6, .own 0)], [Ai 3 k], []⟩
def x12 (b : Int) (a : List LI) : Option R_ := H.e P_ [r,r,r,l,(call 1 284),r,r] ⟨[(0, .nils), (1, vi b)], [], [[(0, .val (.list (.list (.int .i64))) a), (3, vi b), (23, vi b)]]⟩
def x11 (a : List LI) (b : Int) : Option R_ := H.e P_ [r,r,r] ⟨[(0, .val (.list (.list (.int .i64))) a), (3, vi b)], [], []⟩
def x9 (a : List LI) (b h : Int) : Option R_ := H.e P_ [r,r,l,r,d] (t9 a b h)
theorem e16 : x16 = Xj := by kernel_rfl
theorem i14 (a : List LI) : ∀ (q : Nat) (g : Int) (f : LI), z14 q (t14 a g f) = Ea a q g f :=
 ind (fun _ _ => by kernel_rfl) fun q ih g f => Eq.trans (b := Ff x16 (fun g f => (z14 q) (t14 a g f)) a g f) (by kernel_rfl) (by simp only [e16, ih] <;> rfl)
theorem e14 : x14 = Ml := by funext a g f; exact Eq.trans (by kernel_rfl) ((i14 a Bk g f).trans (by rw [Aj]; rfl))
theorem e13 : x13 = Hv := Eq.trans (b := Mj x14) (by kernel_rfl) (by simp only [e14] <;> rfl)
theorem e12 : x12 = Mi := Eq.trans (b := Mo x13) (by kernel_rfl) (by simp only [e13] <;> rfl)
theorem e11 : x11 = Mk := Eq.trans (b := Mn x12) (by kernel_rfl) (by simp only [e12] <;> rfl)
theorem i9 (a : List LI) : ∀ (q : Nat) (b h : Int), z9 q (t9 a b h) = Ef a q b h :=
 ind (fun _ _ => by kernel_rfl) fun q ih b h => Eq.trans (b := Fy x11 (fun b h => (z9 q) (t9 a b h)) a b h) (by kernel_rfl) (by simp only [e11, ih] <;> rfl)
theorem e9 : x9 = Og := by funext a b h; exact Eq.trans (by kernel_rfl) ((i9 a Bk b h).trans (by rw [Aj]; rfl))
noncomputable def F (x : List LI) := Mg x
theorem rn (x : List LI) : H.u P_ x = F x := Eq.trans (b := Om x9 x) (by kernel_rfl) (by simp only [e9] <;> rfl)
noncomputable def c : Con := ⟨H.p, H.r, F⟩
theorem ok : ConOk P_ Tryz.gl 253 c := Tryz.cr H Tryz.func253 .nil (AnsOk.cons Tryz.ent284 AnsOk.nil) (by kernel_rfl) rn
end F253
namespace F206
noncomputable def H : Hd := ⟨[Sl, Sl], [Ol 3], .d, ⟨[(253, F253.c)], Tryz.gl, false⟩, [], Tryz.f206⟩
noncomputable def F (x : LI × LI) := Aid x.1 x.2
theorem rn (x : LI × LI) : H.u P_ x = F x := by kernel_rfl
noncomputable def c : Con := ⟨H.p, H.r, F⟩
theorem ok : ConOk P_ Tryz.gl 206 c := Tryz.co H Tryz.func206 (.cons F253.ok .nil) (by kernel_rfl) rn
end F206
namespace F132
noncomputable def H : Hd := ⟨[Si, Si], [Ol 3, Si], .d, ⟨[(203, F203.c), (204, F204.c), (205, F205.c), (206, F206.c)], Tryz.gl, false⟩, [], Tryz.f132⟩
noncomputable def F (x : Int × Int) := Ajy x.1 x.2
theorem rn (x : Int × Int) : H.u P_ x = F x := by kernel_rfl
noncomputable def c : Con := ⟨H.p, H.r, F⟩
theorem ok : ConOk P_ Tryz.gl 132 c := Tryz.co H Tryz.func132 (.cons F203.ok (.cons F204.ok (.cons F205.ok (.cons F206.ok .nil)))) (by kernel_rfl) rn
end F132
namespace F76
noncomputable def H : Hd := ⟨[.agg [Si, Si, Si, Si, Si]], [Ol 3, Si], .d, ⟨[(131, F131.c), (132, F132.c)], Tryz.gl, false⟩, [], Tryz.f76⟩
noncomputable def F (x : Int × Int × Int × Int × Int) := Oo x.1 x.2.1 x.2.2.1 x.2.2.2.1 x.2.2.2.2
theorem rn (x : Int × Int × Int × Int × Int) : H.u P_ x = F x := by kernel_rfl
noncomputable def c : Con := ⟨H.p, H.r, F⟩
theorem ok : ConOk P_ Tryz.gl 76 c := Tryz.co H Tryz.func76 (.cons F131.ok (.cons F132.ok .nil)) (by kernel_rfl) rn
end F76
namespace F60
noncomputable def H : Hd := ⟨[Sb], [.agg [.agg [Si, Si, Si, Si, Si], .agg [Si, Si, Si, Si, Si], Ol 3], Si], .d, ⟨[(76, F76.c), (92, Yd), (93, F93.c)], Tryz.Az7, false⟩, [], Tryz.f60⟩
noncomputable def F (x : LB) := Qw x
theorem rn (x : LB) : H.u P_ x = F x := by kernel_rfl
noncomputable def c : Con := ⟨H.p, H.r, F⟩
theorem ok : ConOk P_ Tryz.Az7 60 c := Tryz.co H Tryz.func60 (.cons (F76.ok.mono (.cons _ .slnil)) (.cons (Ah2.mono (.cons _ .slnil)) (.cons F93.ok .nil))) (by kernel_rfl) rn
end F60
namespace F155
abbrev R_ := (UInt64 × Int)
abbrev K_ := S → Option R_
noncomputable def H : Hd := ⟨[Sq, Sb], [Sq, Si], (.seq .d (.seq .d (.cut [4, 5] [] (.keep [0, 1, 4, 5, 9, 10, 11, 12] true) .d))), ⟨[], Tryz.gl, false⟩, [(217, (.seq .d (.cut [1] [] (.seq .d (.blk (.loop [0, 1, 9, 10, 11] [] .d))) .d))), (218, (.seq .d (.seq .d (.cut [1] [] (.seq .d (.blk (.loop [1, 5] [] (.seq .d (.seq .d (.cut [1, 5] [] (.blk (.seq .d (.seq .d (.cut [1, 2, 3, 5] [] (.seq .d (.blk (.loop [1, 2, 3, 5, 11] [] .d))) .d)))) .d)))))) .d))))], Tryz.f155⟩
def t27 (a : LB) (b : UInt64) (f : LQ) (h : UInt64) (m : Int) : S := ⟨[(0, .ptr 0 []), (1, vq h), (9, vb a), (10, vi (Ac a)), (11, vi m)], [.box 345 (.val (.vec 256 (.int .u64)) f)], [[(0, vq b), (1, vb a), (4, vq 0), (5, vi 0), (9, .ptr 0 []), (10, vq b), (11, vb a)]]⟩
def z27 : Nat → S → Option R_ := H.i P_ [r,r,l,(call 3 217),r,l,r,d]
def t21 (b : UInt64) (a : LB) (g : Int) (f : LQ) (k : UInt64) (n : Int) : S := ⟨[(1, .ptr 0 []), (2, vi g), (3, vq k), (5, vi g), (11, vi n)], [.box 345 (.val (.vec 256 (.int .u64)) f)], [[(0, vq b), (1, vb a), (4, vq 0), (5, vi 0)]]⟩
def z21 (kn16 : K_) : Nat → S → Option R_ := H.i P_ [r,r,l,(call 0 218),r,r,l,r,d,(lp kn16),r,r,l,d,r,r,l,r,d]
def t16 (b : UInt64) (a : LB) (g : Int) (f : LQ) : S := ⟨[(1, .ptr 0 []), (5, vi g)], [.box 345 (.val (.vec 256 (.int .u64)) f)], [[(0, vq b), (1, vb a), (4, vq 0), (5, vi 0)]]⟩
def z16 : Nat → S → Option R_ := H.i P_ [r,r,l,(call 0 218),r,r,l,r,d]
def x30 (h : UInt64) : Option R_ := H.e P_ [r,r,r] ⟨[(4, vq h), (5, vi 0)], [], []⟩
def x29 (h b : UInt64) (a : LB) (f : LQ) : Option R_ := H.e P_ [r,r,l,(call 3 217),r,r] ⟨[(1, vq h)], [.box 345 (.val (.vec 256 (.int .u64)) f)], [[(0, vq b), (1, vb a), (4, vq 0), (5, vi 0), (9, .ptr 0 []), (10, vq b), (11, vb a)]]⟩
def x27 (a : LB) (b : UInt64) (f : LQ) (h : UInt64) (m : Int) : Option R_ := H.e P_ [r,r,l,(call 3 217),r,l,r,d] (t27 a b f h m)
def x26 (b : UInt64) (a : LB) (f : LQ) : Option R_ := H.e P_ [r,r,l,(call 0 218),r,r,r] ⟨[(1, .ptr 0 [])], [.box 345 (.val (.vec 256 (.int .u64)) f)], [[(0, vq b), (1, vb a), (4, vq 0), (5, vi 0)]]⟩
def x24 (kn16 : K_) (b : UInt64) (a : LB) (g : Int) (o : LQ) : Option R_ := H.e P_ [r,r,l,(call 0 218),r,r,l,r,d,(lp kn16),r,r,r] ⟨[(1, .ptr 0 []), (5, vi g)], [.box 345 (.val (.vec 256 (.int .u64)) o)], [[(0, vq b), (1, vb a), (4, vq 0), (5, vi 0)]]⟩
def x23 (kn16 : K_) (b : UInt64) (a : LB) (g : Int) (k : UInt64) (f : LQ) : Option R_ := H.e P_ [r,r,l,(call 0 218),r,r,l,r,d,(lp kn16),r,r,l,d,r,r,r] ⟨[(1, .ptr 0 []), (2, vi g), (3, vq k), (5, vi g)], [.box 345 (.val (.vec 256 (.int .u64)) f)], [[(0, vq b), (1, vb a), (4, vq 0), (5, vi 0)]]⟩
def x21 (kn16 : K_) (b : UInt64) (a : LB) (g : Int) (f : LQ) (k : UInt64) (n : Int) : Option R_ := H.e P_ [r,r,l,(call 0 218),r,r,l,r,d,(lp kn16),r,r,l,d,r,r,l,r,d] (t21 b a g f k n)
def x16 (b : UInt64) (a : LB) (g : Int) (f : LQ) : Option R_ := H.e P_ [r,r,l,(call 0 218),r,r,l,r,d] (t16 b a g f)
theorem e30 : x30 = Ahi := by kernel_rfl
theorem e29 : x29 = Ahe := Eq.trans (b := Aio x30) (by kernel_rfl) (by simp only [e30] <;> rfl)
theorem i27 (a : LB) (b : UInt64) (f : LQ) : ∀ (q : Nat) (h : UInt64) (m : Int), z27 q (t27 a b f h m) = Pw a b f q h m :=
 ind (fun _ _ => by kernel_rfl) fun q ih h m => Eq.trans (b := Ab7 x29 (fun h m => (z27 q) (t27 a b f h m)) a b f h m) (by kernel_rfl) (by simp only [e29, ih] <;> rfl)
theorem e27 : x27 = Ahp := by funext a b f h m; exact Eq.trans (by kernel_rfl) ((i27 a b f Bk h m).trans (by rw [Aj]; rfl))
theorem e26 : x26 = Abb := Eq.trans (b := Ah7 x27) (by kernel_rfl) (by simp only [e27] <;> rfl)
theorem e24 (kn16 : K_) (b : UInt64) (a : LB) : x24 kn16 b a = Ai2 (fun g f => kn16 (t16 b a g f)) b a := by kernel_rfl
theorem e23 (kn16 : K_) (b : UInt64) (a : LB) : x23 kn16 b a = Ab3 (fun g f => kn16 (t16 b a g f)) b a := Eq.trans (b := Ah8 (x24 kn16 b a) b a) (by kernel_rfl) (by simp only [e24] <;> rfl)
theorem i21 (kn16 : K_) (b : UInt64) (a : LB) (g : Int) (f : LQ) : ∀ (q : Nat) (k : UInt64) (n : Int), z21 kn16 q (t21 b a g f k n) = Qf (fun g f => kn16 (t16 b a g f)) b a g f q k n :=
 ind (fun _ _ => by kernel_rfl) fun q ih k n => Eq.trans (b := Ab0 (x23 kn16 b a) (fun k n => (z21 kn16 q) (t21 b a g f k n)) b a g f k n) (by kernel_rfl) (by simp only [e23, ih] <;> rfl)
theorem e21 (kn16 : K_) (b : UInt64) (a : LB) : x21 kn16 b a = Ahy (fun g f => kn16 (t16 b a g f)) b a := by funext g f k n; exact Eq.trans (by kernel_rfl) ((i21 kn16 b a g f Bk k n).trans (by rw [Aj]; rfl))
theorem i16 (b : UInt64) (a : LB) : ∀ (q : Nat) (g : Int) (f : LQ), z16 q (t16 b a g f) = La b a q g f :=
 ind (fun _ _ => by kernel_rfl) fun q ih g f => Eq.trans (b := Abk (x21 (z16 q) b a) x26 b a g f) (by kernel_rfl) (by simp only [e21, e26, ih] <;> rfl)
theorem e16 : x16 = Ahv := by funext b a g f; exact Eq.trans (by kernel_rfl) ((i16 b a Bk g f).trans (by rw [Aj]; rfl))
noncomputable def F (x : UInt64 × LB) := Al8 x.1 x.2
theorem rn (x : UInt64 × LB) : H.u P_ x = F x := Eq.trans (b := Aj2 x16 x.1 x.2) (by kernel_rfl) (by simp only [e16] <;> rfl)
noncomputable def c : Con := ⟨H.p, H.r, F⟩
theorem ok : ConOk P_ Tryz.gl 155 c := Tryz.cr H Tryz.func155 .nil (AnsOk.cons Tryz.ent217 (AnsOk.cons Tryz.ent218 AnsOk.nil)) (by kernel_rfl) rn
end F155
namespace F102
noncomputable def H : Hd := ⟨[Sb], [Sq, Si], .d, ⟨[(155, F155.c)], Tryz.gl, false⟩, [], Tryz.f102⟩
noncomputable def F (x : LB) := Alg x
theorem rn (x : LB) : H.u P_ x = F x := by kernel_rfl
noncomputable def c : Con := ⟨H.p, H.r, F⟩
theorem ok : ConOk P_ Tryz.gl 102 c := Tryz.co H Tryz.func102 (.cons F155.ok .nil) (by kernel_rfl) rn
end F102
namespace F214
noncomputable def H : Hd := ⟨[Ss], [Sq, Si], .d, ⟨[(102, F102.c)], Tryz.gl, false⟩, [], Tryz.f214⟩
noncomputable def F (x : LB) := Atr x
theorem rn (x : LB) : H.u P_ x = F x := by kernel_rfl
noncomputable def c : Con := ⟨H.p, H.r, F⟩
theorem ok : ConOk P_ Tryz.gl 214 c := Tryz.co H Tryz.func214 (.cons F102.ok .nil) (by kernel_rfl) rn
end F214
namespace F149
noncomputable def H : Hd := ⟨[Ss], [Ob 5, Si], .d, ⟨[(194, F194.c), (214, F214.c)], Tryz.gl, false⟩, [], Tryz.f149⟩
noncomputable def F (x : LB) := Agt x
theorem rn (x : LB) : H.u P_ x = F x := by kernel_rfl
noncomputable def c : Con := ⟨H.p, H.r, F⟩
theorem ok : ConOk P_ Tryz.gl 149 c := Tryz.co H Tryz.func149 (.cons F194.ok (.cons F214.ok .nil)) (by kernel_rfl) rn
end F149
namespace F96
noncomputable def H : Hd := ⟨[Sb, Ss], [Sz, Si], .d, ⟨[(149, F149.c), (150, F150.c)], Tryz.gl, false⟩, [], Tryz.f96⟩
noncomputable def F (x : LB × LB) := Xc x.1 x.2
theorem rn (x : LB × LB) : H.u P_ x = F x := by kernel_rfl
noncomputable def c : Con := ⟨H.p, H.r, F⟩
theorem ok : ConOk P_ Tryz.gl 96 c := Tryz.co H Tryz.func96 (.cons F149.ok (.cons F150.ok .nil)) (by kernel_rfl) rn
end F96
namespace F78
abbrev R_ := Int
noncomputable def H : Hd := ⟨[Sl], [Si], (.seq .d (.seq .d (.seq .d (.cut [] [] (.seq .d (.blk (.loop [3, 14, 15, 16] [] .d))) .d)))), ⟨[], Tryz.gl, false⟩, [], Tryz.f78⟩
def t4 (a : LI) (f b : Int) : S := ⟨[(3, vi f), (14, vl a), (15, vi (Ac a)), (16, vi b)], [], []⟩
def z4 : Nat → S → Option R_ := H.i P_ [r,r,r,l,r,d]
def x6 : Option R_ := H.e P_ [r,r,r,r] ⟨[], [], []⟩
def x4 (a : LI) (f b : Int) : Option R_ := H.e P_ [r,r,r,l,r,d] (t4 a f b)
theorem e6 : x6 = Aob := by kernel_rfl
theorem i4 (a : LI) : ∀ (q : Nat) (f b : Int), z4 q (t4 a f b) = Qm a q f b :=
 ind (fun _ _ => by kernel_rfl) fun q ih f b => Eq.trans (b := Aa9 x6 (fun f b => (z4 q) (t4 a f b)) a f b) (by kernel_rfl) (by simp only [e6, ih] <;> rfl)
theorem e4 : x4 = Ait := by funext a f b; exact Eq.trans (by kernel_rfl) ((i4 a Bk f b).trans (by rw [Aj]; rfl))
noncomputable def F (x : LI) := Aen x
theorem rn (x : LI) : H.u P_ x = F x := Eq.trans (b := Ain x4 x) (by kernel_rfl) (by simp only [e4] <;> rfl)
noncomputable def c : Con := ⟨H.p, H.r, F⟩
theorem ok : ConOk P_ Tryz.gl 78 c := Tryz.co H Tryz.func78 .nil (by kernel_rfl) rn
end F78
namespace F97
abbrev R_ := (LI × Int)
noncomputable def H : Hd := ⟨[Sb, Si], [Ol 3, Si], (.seq .d (.seq .d (.seq .d (.seq .d (.seq .d (.seq .d (.cut [10] [] (.seq .d (.blk (.loop [0, 10, 48, 49] [] .d))) .d))))))), ⟨[(78, F78.c), (142, F142.c), (143, F143.c)], Tryz.gl, false⟩, [], Tryz.f97⟩
def t4 (b : LB) (f : LI) (g : Int) (a : LI) : S := ⟨[(0, vb b), (10, .own 0), (48, vi (Ac f)), (49, vi g)], [Ai 3 a], []⟩
def z4 : Nat → S → Option R_ := H.i P_ [r,r,r,r,r,r,l,r,d]
def x6 (a : LI) : Option R_ := H.e P_ [r,r,r,r,r,r,r] ⟨[(10, .own 0)], [Ai 3 a], []⟩
def x4 (b : LB) (f : LI) (g : Int) (a : LI) : Option R_ := H.e P_ [r,r,r,r,r,r,l,r,d] (t4 b f g a)
theorem e6 : x6 = Ad9 := by kernel_rfl
theorem i4 (b : LB) (f : LI) : ∀ (q : Nat) (g : Int) (a : LI), z4 q (t4 b f g a) = Tc b f q g a :=
 ind (fun _ _ => by kernel_rfl) fun q ih g a => Eq.trans (b := Ad4 x6 (fun g a => (z4 q) (t4 b f g a)) b f g a) (by kernel_rfl) (by simp only [e6, ih] <;> rfl)
theorem e4 : x4 = Akh := by funext b f g a; exact Eq.trans (by kernel_rfl) ((i4 b f Bk g a).trans (by rw [Aj]; rfl))
noncomputable def F (x : LB × Int) := Adc x.1 x.2
theorem rn (x : LB × Int) : H.u P_ x = F x := Eq.trans (b := Akq x4 x.1 x.2) (by kernel_rfl) (by simp only [e4] <;> rfl)
noncomputable def c : Con := ⟨H.p, H.r, F⟩
theorem ok : ConOk P_ Tryz.gl 97 c := Tryz.co H Tryz.func97 (.cons F78.ok (.cons F142.ok (.cons F143.ok .nil))) (by kernel_rfl) rn
end F97
namespace F103
abbrev R_ := LX
noncomputable def H : Hd := ⟨[Sq], [.lf (.vec 16 (.int .i32)) none], (.seq .d (.seq .d (.cut [2, 3] [] (.seq .d (.blk (.loop [0, 2, 3, 5] [] .d))) .d))), ⟨[], Tryz.gl, false⟩, [], Tryz.f103⟩
def t4 (f : UInt64) (b : Int) (a : LX) : S := ⟨[(0, vq f), (2, .ptr 0 []), (3, .ptr 1 []), (5, vi b)], [.box 110 (.val (.vec 16 (.int .i32)) (List.replicate 16 (0 : Int32))), .box 110 (.val (.vec 16 (.int .i32)) a)], []⟩
def z4 : Nat → S → Option R_ := H.i P_ [r,r,l,r,d]
def x6 (a : LX) : Option R_ := H.e P_ [r,r,r] ⟨[(2, .ptr 0 []), (3, .ptr 1 [])], [.box 110 (.val (.vec 16 (.int .i32)) (List.replicate 16 (0 : Int32))), .box 110 (.val (.vec 16 (.int .i32)) a)], []⟩
def x4 (f : UInt64) (b : Int) (a : LX) : Option R_ := H.e P_ [r,r,l,r,d] (t4 f b a)
theorem e6 : x6 = Axw := by kernel_rfl
theorem i4 (f : UInt64) : ∀ (q : Nat) (b : Int) (a : LX), z4 q (t4 f b a) = Ade f q b a :=
 ind (fun _ _ => by kernel_rfl) fun q ih b a => Eq.trans (b := Amk x6 (fun b a => (z4 q) (t4 f b a)) f b a) (by kernel_rfl) (by simp only [e6, ih] <;> rfl)
theorem e4 : x4 = Azb := by funext f b a; exact Eq.trans (by kernel_rfl) ((i4 f Bk b a).trans (by rw [Aj]; rfl))
noncomputable def F (x : UInt64) := Bdr x
theorem rn (x : UInt64) : H.u P_ x = F x := Eq.trans (b := Axf x4 x) (by kernel_rfl) (by simp only [e4] <;> rfl)
noncomputable def c : Con := ⟨H.p, H.r, F⟩
theorem ok : ConOk P_ Tryz.gl 103 c := Tryz.co H Tryz.func103 .nil (by kernel_rfl) rn
end F103
namespace F63
noncomputable def H : Hd := ⟨[Ss], [.lf (.vec 16 (.int .i32)) none, Si], .d, ⟨[(102, F102.c), (103, F103.c)], Tryz.gl, false⟩, [], Tryz.f63⟩
noncomputable def F (x : LB) := Aky x
theorem rn (x : LB) : H.u P_ x = F x := by kernel_rfl
noncomputable def c : Con := ⟨H.p, H.r, F⟩
theorem ok : ConOk P_ Tryz.gl 63 c := Tryz.co H Tryz.func63 (.cons F102.ok (.cons F103.ok .nil)) (by kernel_rfl) rn
end F63
namespace F156
abbrev R_ := (Int32 × Int32 × Int)
noncomputable def H : Hd := ⟨[Si], [Sx, Sx, Si], (.seq .d (.seq (.seq .d (.blk (.cut [0, 7] [] .d .d))) .d)), ⟨[], Tryz.gl, false⟩, [], Tryz.f156⟩
def x2 (a : Int) (b : Bool) : Option R_ := H.e P_ [r,l,r,d,r] ⟨[(0, vi a), (7, vt b)], [], []⟩
theorem e2 : x2 = Apu := by kernel_rfl
noncomputable def F (x : Int) := Aem x
theorem rn (x : Int) : H.u P_ x = F x := Eq.trans (b := Aoq x2 x) (by kernel_rfl) (by simp only [e2] <;> rfl)
noncomputable def c : Con := ⟨H.p, H.r, F⟩
theorem ok : ConOk P_ Tryz.gl 156 c := Tryz.co H Tryz.func156 .nil (by kernel_rfl) rn
end F156
namespace F104
noncomputable def H : Hd := ⟨[.agg [Si, Si]], [Si], .d, ⟨[(156, F156.c)], Tryz.gl, false⟩, [], Tryz.f104⟩
noncomputable def F (x : Int × Int) := Ad2 x.1 x.2
theorem rn (x : Int × Int) : H.u P_ x = F x := by kernel_rfl
noncomputable def c : Con := ⟨H.p, H.r, F⟩
theorem ok : ConOk P_ Tryz.gl 104 c := Tryz.co H Tryz.func104 (.cons F156.ok .nil) (by kernel_rfl) rn
end F104
namespace F105
noncomputable def H : Hd := ⟨[Sb], [Sb, Si], .d, ⟨[(143, F143.c), (157, F157.c)], Tryz.gl, false⟩, [], Tryz.f105⟩
noncomputable def F (x : LB) := Abs x
theorem rn (x : LB) : H.u P_ x = F x := by kernel_rfl
noncomputable def c : Con := ⟨H.p, H.r, F⟩
theorem ok : ConOk P_ Tryz.gl 105 c := Tryz.co H Tryz.func105 (.cons F143.ok (.cons F157.ok .nil)) (by kernel_rfl) rn
end F105
namespace F158
def Lf (a : LB) : Option (LB) :=
Bcz a (
some ([] : LB)) (
(Iy ([] : LB) a).bind fun b =>
some b)
theorem Afe : @Lf = @Hc := by
  unfold Lf Hc
  repeat (refine funext fun _ => ?_)
  repeat' first
    | with_reducible rfl
    | with_reducible refine Nl ?_ ?_
    | with_reducible refine Mw ?_ ?_ ?_
    | with_reducible refine Od ?_ ?_ ?_ ?_
    | ((with_reducible refine Vb ?_ ?_); focus (intro h; first | (subst h; rfl) | (simp only [h]; rfl) | (simp [Iy, Ac, h]; done)))
    | with_reducible refine Up fun x => ?_
    | with_reducible refine Aav (fun _ => ?_) (fun _ => ?_)
    | (refine Hb (fun h => by simp only [h, Uq, Ev, El, ite_self]) (fun x h => ?_); (try simp only [h, Ev]))
    | (refine Jp (fun h => ?_) (fun h => ?_) <;> simp only [h, if_true, if_false, Bool.false_eq_true])
noncomputable def H : Hd := ⟨[Sb], [Ob 5], .d, ⟨[], Tryz.gl, false⟩, [], Tryz.f158⟩
noncomputable def F (x : LB) := Hc x
theorem rn (x : LB) : H.u P_ x = F x := Eq.trans (b := Lf x) (by kernel_rfl) (by rw [Afe]; rfl)
noncomputable def c : Con := ⟨H.p, H.r, F⟩
theorem ok : ConOk P_ Tryz.gl 158 c := Tryz.co H Tryz.func158 .nil (by kernel_rfl) rn
end F158
namespace F106
noncomputable def H : Hd := ⟨[Sb], [.agg [Ob 5, Si], Si], .d, ⟨[(158, F158.c)], Tryz.gl, false⟩, [], Tryz.f106⟩
noncomputable def F (x : LB) := Bcq x
theorem rn (x : LB) : H.u P_ x = F x := by kernel_rfl
noncomputable def c : Con := ⟨H.p, H.r, F⟩
theorem ok : ConOk P_ Tryz.gl 106 c := Tryz.co H Tryz.func106 (.cons F158.ok .nil) (by kernel_rfl) rn
end F106
namespace F159
noncomputable def H : Hd := ⟨[], [.agg [Si, Si, Sq, Sq]], .d, ⟨[], Tryz.gl, false⟩, [], Tryz.f159⟩
noncomputable def F (x : Unit) := Aws
theorem rn (x : Unit) : H.u P_ x = F x := by kernel_rfl
noncomputable def c : Con := ⟨H.p, H.r, F⟩
theorem ok : ConOk P_ Tryz.gl 159 c := Tryz.co H Tryz.func159 .nil (by kernel_rfl) rn
end F159
namespace F162
noncomputable def H : Hd := ⟨[.agg [Sb, Si]], [Si], .d, ⟨[], Tryz.gl, false⟩, [], Tryz.f162⟩
noncomputable def F (x : LB × Int) := Sd x.1 x.2
theorem rn (x : LB × Int) : H.u P_ x = F x := by kernel_rfl
noncomputable def c : Con := ⟨H.p, H.r, F⟩
theorem ok : ConOk P_ Tryz.gl 162 c := Tryz.co H Tryz.func162 .nil (by kernel_rfl) rn
end F162
namespace F163
abbrev R_ := UInt64
noncomputable def H : Hd := ⟨[.agg [Sb, Si], Si, Si], [Sq], (.seq .d (.seq .d (.cut [7] [] (.blk (.loop [1, 2, 3, 7, 8] [] .d)) .d))), ⟨[], Tryz.gl, false⟩, [], Tryz.f163⟩
def t4 (b f : Int) (h : LB) (k : Int) (g : UInt64) (a : Int) : S := ⟨[(1, vi b), (2, vi f), (3, .ptr 0 []), (7, vq g), (8, vi a)], [.box 164 (.agg [vb h, vi k])], []⟩
def z4 : Nat → S → Option R_ := H.i P_ [r,r,l,d]
def x6 (g : UInt64) : Option R_ := H.e P_ [r,r,r] ⟨[(7, vq g)], [], []⟩
def x4 (b f : Int) (h : LB) (k : Int) (g : UInt64) (a : Int) : Option R_ := H.e P_ [r,r,l,d] (t4 b f h k g a)
theorem e6 : x6 = Au7 := by kernel_rfl
theorem i4 (b f : Int) (h : LB) (k : Int) : ∀ (q : Nat) (g : UInt64) (a : Int), z4 q (t4 b f h k g a) = Afa b f h k q g a :=
 ind (fun _ _ => by kernel_rfl) fun q ih g a => Eq.trans (b := Aoy x6 (fun g a => (z4 q) (t4 b f h k g a)) b f h k g a) (by kernel_rfl) (by simp only [e6, ih] <;> rfl)
theorem e4 : x4 = Avm := by funext b f h k g a; exact Eq.trans (by kernel_rfl) ((i4 b f h k Bk g a).trans (by rw [Aj]; rfl))
noncomputable def F (x : LB × Int × Int × Int) := Asr x.1 x.2.1 x.2.2.1 x.2.2.2
theorem rn (x : LB × Int × Int × Int) : H.u P_ x = F x := Eq.trans (b := Aux x4 x.1 x.2.1 x.2.2.1 x.2.2.2) (by kernel_rfl) (by simp only [e4] <;> rfl)
noncomputable def c : Con := ⟨H.p, H.r, F⟩
theorem ok : ConOk P_ Tryz.gl 163 c := Tryz.co H Tryz.func163 .nil (by kernel_rfl) rn
end F163
namespace F160
abbrev R_ := (LB × Int × Int)
abbrev K_ := S → Option R_
noncomputable def H : Hd := ⟨[.agg [Sb, Si], Si, Si], [.agg [Ob 5, Si], Si], (.seq .d (.seq .d (.seq .d (.seq .d (.cut [6, 8] [] (.seq .d (.blk (.loop [2, 3, 6, 8, 9] [⟨8, [0], .own 5 (.int .u8)⟩] (.seq .d (.cut [2, 3, 6, 8, 9] [] (.blk (.seq .d (.keep [2, 3, 6, 8, 9, 10, 39, 40, 41, 42, 43] true))) .d))))) .d))))), ⟨[(162, F162.c), (163, F163.c)], Tryz.gl, false⟩, [(219, (.blk (.loop [0, 1, 2] [] (.seq .d (.blk (.cut [0, 1, 2] [] .d (.seq .d (.cut [0, 1, 2, 7] [] .d .d))))))))], Tryz.f160⟩
def t44 (a : Int) (g : LB) (f b : Int) (k n : UInt64) (m h : Int) (u : LB) : S := ⟨[(0, .ptr 0 []), (1, vq n), (2, vi m)], [.box 164 (.agg [.own 3, vi h]), .box 164 (.agg [vb g, vi f]), .box 164 (.agg [.nils, vi 0]), Ab 5 u], [[(2, vi a), (3, .ptr 1 []), (6, .ptr 2 []), (8, .ptr 0 []), (9, vi b), (10, vi (Gd (64 : Int) (Al a b))), (39, .agg [vb g, vi f]), (40, vi b), (41, vi (Gd (64 : Int) (Al a b))), (42, vq k), (43, vi (Gd (64 : Int) (Al a b)))]]⟩
def z44 (kn27 : K_) : Nat → S → Option R_ := H.i P_ [r,r,r,r,l,r,d,(lp kn27),r,l,d,r,(call 5 219),d]
def t27 (a : Int) (g : LB) (f b o : Int) (p : LB) : S := ⟨[(2, vi a), (3, .ptr 0 []), (6, .ptr 1 []), (8, .ptr 2 []), (9, vi b)], [.box 164 (.agg [vb g, vi f]), .box 164 (.agg [.nils, vi 0]), .box 164 (.agg [.own 3, vi o]), Ab 5 p], []⟩
def z27 : Nat → S → Option R_ := H.i P_ [r,r,r,r,l,r,d]
def x52 (o : Int) (p : LB) : Option R_ := H.e P_ [r,r,r,r,r] ⟨[(6, .ptr 0 []), (8, .ptr 1 [])], [.box 164 (.agg [.nils, vi 0]), .box 164 (.agg [.own 2, vi o]), Ab 5 p], []⟩
def x50 (kn27 : K_) (a : Int) (g : LB) (f b h : Int) (u : LB) : Option R_ := H.e P_ [r,r,r,r,l,r,d,(lp kn27),r,r] ⟨[(2, vi a), (3, .ptr 0 []), (6, .ptr 1 []), (8, .ptr 2 []), (9, vi b)], [.box 164 (.agg [vb g, vi f]), .box 164 (.agg [.nils, vi 0]), .box 164 (.agg [.own 3, vi h]), Ab 5 u], []⟩
def x48 (kn27 kn44 : K_) (a b : Int) (g : LB) (f : Int) (k n : UInt64) (m h : Int) (w : LB) : Option R_ := H.e P_ [r,r,r,r,l,r,d,(lp kn27),r,l,d,r,(call 5 219),d,(lp kn44),r,d,r,r,r] ⟨[(0, .ptr 0 []), (1, vq n), (2, vi m), (7, vi (Gd m (Al (8 : Int) (Il h (7 : Int)))))], [.box 164 (.agg [.own 3, vi h]), .box 164 (.agg [vb g, vi f]), .box 164 (.agg [.nils, vi 0]), Ab 5 w], [[(2, vi a), (3, .ptr 1 []), (6, .ptr 2 []), (8, .ptr 0 []), (9, vi b), (10, vi (Gd (64 : Int) (Al a b))), (39, .agg [vb g, vi f]), (40, vi b), (41, vi (Gd (64 : Int) (Al a b))), (42, vq k), (43, vi (Gd (64 : Int) (Al a b)))]]⟩
def x47 (kn27 kn44 : K_) (a b : Int) (g : LB) (f : Int) (k n : UInt64) (m h : Int) (v : LB) : Option R_ := H.e P_ [r,r,r,r,l,r,d,(lp kn27),r,l,d,r,(call 5 219),d,(lp kn44),r,d,r] ⟨[(0, .ptr 0 []), (1, vq n), (2, vi m)], [.box 164 (.agg [.own 3, vi h]), .box 164 (.agg [vb g, vi f]), .box 164 (.agg [.nils, vi 0]), Ab 5 v], [[(2, vi a), (3, .ptr 1 []), (6, .ptr 2 []), (8, .ptr 0 []), (9, vi b), (10, vi (Gd (64 : Int) (Al a b))), (39, .agg [vb g, vi f]), (40, vi b), (41, vi (Gd (64 : Int) (Al a b))), (42, vq k), (43, vi (Gd (64 : Int) (Al a b)))]]⟩
def x44 (kn27 : K_) (a : Int) (g : LB) (f b : Int) (k n : UInt64) (m h : Int) (u : LB) : Option R_ := H.e P_ [r,r,r,r,l,r,d,(lp kn27),r,l,d,r,(call 5 219),d] (t44 a g f b k n m h u)
def x27 (a : Int) (g : LB) (f b o : Int) (p : LB) : Option R_ := H.e P_ [r,r,r,r,l,r,d] (t27 a g f b o p)
theorem e52 : x52 = Amj := by kernel_rfl
theorem e50 (kn27 : K_) (a : Int) (g : LB) (f : Int) : x50 kn27 a g f = Agv (fun b o p => kn27 (t27 a g f b o p)) a g f := by kernel_rfl
theorem e48 (kn27 kn44 : K_) (a : Int) (g : LB) (f b : Int) (k : UInt64) : x48 kn27 kn44 a b g f k = Amo (fun n m h u => kn44 (t44 a g f b k n m h u)) a b g f k := by kernel_rfl
theorem e47 (kn27 kn44 : K_) (a : Int) (g : LB) (f b : Int) (k : UInt64) : x47 kn27 kn44 a b g f k = Ag1 (fun n m h u => kn44 (t44 a g f b k n m h u)) a b g f k := Eq.trans (b := Anf (x48 kn27 kn44 a b g f k) a b g f k) (by kernel_rfl) (by simp only [e48] <;> rfl)
theorem i44 (kn27 : K_) (a : Int) (g : LB) (f b : Int) (k : UInt64) : ∀ (q : Nat) (n : UInt64) (m h : Int) (u : LB), z44 kn27 q (t44 a g f b k n m h u) = Nw (fun b o p => kn27 (t27 a g f b o p)) a g f b k q n m h u :=
 ind (fun _ _ _ _ => by kernel_rfl) fun q ih n m h u => Eq.trans (b := Agw (x47 kn27 (z44 kn27 q) a b g f k) (x50 kn27 a g f) a g f b k n m h u) (by kernel_rfl) (by simp only [e47, e50, ih] <;> rfl)
theorem e44 (kn27 : K_) (a : Int) (g : LB) (f : Int) : x44 kn27 a g f = Ana (fun b o p => kn27 (t27 a g f b o p)) a g f := by funext b k n m h u; exact Eq.trans (by kernel_rfl) ((i44 kn27 a g f b k Bk n m h u).trans (by rw [Aj]; rfl))
theorem i27 (a : Int) (g : LB) (f : Int) : ∀ (q : Nat) (b o : Int) (p : LB), z27 q (t27 a g f b o p) = Xf a g f q b o p :=
 ind (fun _ _ _ => by kernel_rfl) fun q ih b o p => Eq.trans (b := Amc (x44 (z27 q) a g f) x52 a g f b o p) (by kernel_rfl) (by simp only [e44, e52, ih] <;> rfl)
theorem e27 : x27 = Ame := by funext a g f b o p; exact Eq.trans (by kernel_rfl) ((i27 a g f Bk b o p).trans (by rw [Aj]; rfl))
noncomputable def F (x : LB × Int × Int × Int) := Apa x.1 x.2.1 x.2.2.1 x.2.2.2
theorem rn (x : LB × Int × Int × Int) : H.u P_ x = F x := Eq.trans (b := Aod x27 x.1 x.2.1 x.2.2.1 x.2.2.2) (by kernel_rfl) (by simp only [e27] <;> rfl)
noncomputable def c : Con := ⟨H.p, H.r, F⟩
theorem ok : ConOk P_ Tryz.gl 160 c := Tryz.cr H Tryz.func160 (.cons F162.ok (.cons F163.ok .nil)) (AnsOk.cons Tryz.ent219 AnsOk.nil) (by kernel_rfl) rn
end F160
namespace F220
def Aiu (j4 : Int → Int → UInt64 → UInt64 → Option Int) (a b : Int) (f g : UInt64) : Option Int :=
both (
bo (
j4 a b f g)) [
j4 a b f g]
theorem As8 : @Aiu = @Ad3 := by
  unfold Aiu Ad3
  repeat (refine funext fun _ => ?_)
  repeat' first
    | with_reducible rfl
    | with_reducible refine Nl ?_ ?_
    | with_reducible refine Mw ?_ ?_ ?_
    | with_reducible refine Od ?_ ?_ ?_ ?_
    | ((with_reducible refine Vb ?_ ?_); focus (intro h; first | (subst h; rfl) | (simp only [h]; rfl) | (simp [Iy, Ac, h]; done)))
    | with_reducible refine Up fun x => ?_
    | with_reducible refine Aav (fun _ => ?_) (fun _ => ?_)
    | (refine Hb (fun h => by simp only [h, Uq, Ev, El, ite_self]) (fun x h => ?_); (try simp only [h, Ev]))
    | (refine Jp (fun h => ?_) (fun h => ?_) <;> simp only [h, if_true, if_false, Bool.false_eq_true])
def Ahz (j3 : Int → Int → UInt64 → UInt64 → Option Int) (a b : Int) (f g : UInt64) : Option Int :=
both (
bo (
j3 a b f g)) [
j3 a b f g]
theorem As9 : @Ahz = @Aeb := by
  unfold Ahz Aeb
  repeat (refine funext fun _ => ?_)
  repeat' first
    | with_reducible rfl
    | with_reducible refine Nl ?_ ?_
    | with_reducible refine Mw ?_ ?_ ?_
    | with_reducible refine Od ?_ ?_ ?_ ?_
    | ((with_reducible refine Vb ?_ ?_); focus (intro h; first | (subst h; rfl) | (simp only [h]; rfl) | (simp [Iy, Ac, h]; done)))
    | with_reducible refine Up fun x => ?_
    | with_reducible refine Aav (fun _ => ?_) (fun _ => ?_)
    | (refine Hb (fun h => by simp only [h, Uq, Ev, El, ite_self]) (fun x h => ?_); (try simp only [h, Ev]))
    | (refine Jp (fun h => ?_) (fun h => ?_) <;> simp only [h, if_true, if_false, Bool.false_eq_true])
abbrev R_ := Int
noncomputable def H : Hd := ⟨[.agg [Si, Si, Sq, Sq]], [Si], (.seq .d (.seq .d (.cut [1, 3] [] (.mode false) (.cut [1, 3] [] (.mode false) .d)))), ⟨[], Tryz.gl, false⟩, [], Tryz.f220⟩
def x4 (a b : Int) (f g : UInt64) : Option R_ := H.e P_ [r,r,r,r] ⟨[(1, .ptr 0 []), (3, .ptr 1 [])], [.box 223 (.agg [vi a, vi b, vq f, vq g]), .box 223 (.agg [vi (Gd (Aqs a (0 : Int)) (24 : Int)), vi (Gd (Aqs b (0 : Int)) (24 : Int)), vq (Gd f (68719476735 : UInt64)), vq (Gd g (68719476735 : UInt64))])], []⟩
def x3 (a b : Int) (f g : UInt64) : Option R_ := H.e P_ [r,r,r] ⟨[(1, .ptr 0 []), (3, .ptr 1 [])], [.box 223 (.agg [vi a, vi b, vq f, vq g]), .box 223 (.agg [vi (Gd (Aqs a (0 : Int)) (24 : Int)), vi (Gd (Aqs b (0 : Int)) (24 : Int)), vq f, vq g])], []⟩
theorem e4 : x4 = Ako := by kernel_rfl
theorem e3 : x3 = Akp := Eq.trans (b := Aiu x4) (by kernel_rfl) (by rw [As8]; simp only [e4] <;> rfl)
noncomputable def F (x : Int × Int × UInt64 × UInt64) := Amg x.1 x.2.1 x.2.2.1 x.2.2.2
theorem rn (x : Int × Int × UInt64 × UInt64) : H.u P_ x = F x := Eq.trans (b := Ahz x3 x.1 x.2.1 x.2.2.1 x.2.2.2) (by kernel_rfl) (by rw [As9]; simp only [e3] <;> rfl)
noncomputable def c : Con := ⟨H.p, H.r, F⟩
theorem ok : ConOk P_ Tryz.gl 220 c := Tryz.co H Tryz.func220 .nil (by kernel_rfl) rn
end F220
namespace F108
noncomputable def H : Hd := ⟨[.agg [Sb, Si], Si, Si], [Sq, Si], .d, ⟨[(162, F162.c), (163, F163.c)], Tryz.gl, false⟩, [], Tryz.f108⟩
noncomputable def F (x : LB × Int × Int × Int) := Acg x.1 x.2.1 x.2.2.1 x.2.2.2
theorem rn (x : LB × Int × Int × Int) : H.u P_ x = F x := by kernel_rfl
noncomputable def c : Con := ⟨H.p, H.r, F⟩
theorem ok : ConOk P_ Tryz.gl 108 c := Tryz.co H Tryz.func108 (.cons F162.ok (.cons F163.ok .nil)) (by kernel_rfl) rn
end F108
namespace F289
noncomputable def H : Hd := ⟨[Sq], [Si], .d, ⟨[], Tryz.Avu, false⟩, [], Tryz.f289⟩
noncomputable def F (x : UInt64) := Fg x
theorem rn (x : UInt64) : H.u P_ x = F x := by kernel_rfl
noncomputable def c : Con := ⟨H.p, H.r, F⟩
theorem ok : ConOk P_ Tryz.Avu 289 c := Tryz.co H Tryz.func289 .nil (by kernel_rfl) rn
end F289
namespace F259
def Ajc (j6 : Int → UInt64 → Int → LB → Int → Option (Int × Int × Int)) (g : LB) (b a : Int) : Option (Int × Int × Int) :=
(Sd g b).bind fun m =>
if (Ck m 0) then
some (0, 0, m)
else
if (Cu a 0) then
some (0, 0, 2)
else
if (Sr a b) then
some (0, 0, 24)
else
bo2 (
bo (
(Acg g b a (Gd 48 (Al b a))).bind fun (k, h) =>
j6 h k a g b))
theorem Atj : @Ajc = @Yf := by
  unfold Ajc Yf
  simp only [Bjl, Bcl, Bdt]
abbrev R_ := (Int × Int × Int)
noncomputable def H : Hd := ⟨[.agg [Sb, Si], Si], [Si, Si, Si], (.seq .d (.seq .d (.seq .d (.seq .d (.seq .d (.cut [3, 5, 6, 8, 9] [] (.keep [2, 3, 5, 6, 8, 9, 22, 23, 24, 25, 26, 27, 28, 29] false) (.seq .d (.seq .d (.cut [] [] (.blk (.seq (.blk (.seq (.blk (.cut [] [] (.cut [3, 4, 5] [] (.cut [3, 4, 5, 36] [] (.keep [3, 4, 5, 8, 36, 37, 38, 39, 40] true) .d) .d) .d)) .d)) .d)) .d))))))))), ⟨[(108, F108.c), (162, F162.c), (289, F289.c)], Tryz.Avu, false⟩, [(288, .d)], Tryz.f259⟩
def x10 : Option R_ := H.e P_ [r,r,r,r,r,r,r,r,r] ⟨[], [], []⟩
def x9 : Option R_ := H.e P_ [r,r,r,r,r,r,r,r,l,d,l,d,l,d,r] ⟨[], [], []⟩
def x8 (f a : Int) : Option R_ := H.e P_ [r,r,r,r,r,r,r,r,l,d,l,d,l,d,l,r] ⟨[(3, .ptr 0 []), (4, vi f), (5, vi 0)], [.box 3 (vi a)], []⟩
def x7 (f b a : Int) : Option R_ := H.e P_ [r,r,r,r,r,r,r,r,l,d,l,d,l,d,l,l,r] ⟨[(3, .ptr 0 []), (4, vi f), (5, vi 0), (36, vt (Cu f (Gd (48 : Int) (Al b a))))], [.box 3 (vi a)], []⟩
def x6 (h : Int) (k : UInt64) (a : Int) (g : LB) (b : Int) : Option R_ := H.e P_ [r,r,r,r,r,r] ⟨[(3, .ptr 0 []), (5, vi 0), (6, vi h), (8, .fn 288 [.ptr 1 [], .ptr 0 []]), (9, vq k)], [.box 3 (vi a), .box 164 (.agg [vb g, vi b])], []⟩
theorem e10 : x10 = Apf := by kernel_rfl
theorem e9 : x9 = Aqu := Eq.trans (b := Aq1 x10) (by kernel_rfl) (by simp only [e10] <;> rfl)
theorem e8 : x8 = Aj0 := Eq.trans (b := Aj8 x9) (by kernel_rfl) (by simp only [e9] <;> rfl)
theorem e7 : x7 = Akj := Eq.trans (b := Akm x8) (by kernel_rfl) (by simp only [e8] <;> rfl)
theorem e6 : x6 = Akc := Eq.trans (b := Akd x7) (by kernel_rfl) (by simp only [e7] <;> rfl)
noncomputable def F (x : LB × Int × Int) := Adn x.1 x.2.1 x.2.2
theorem rn (x : LB × Int × Int) : H.u P_ x = F x := Eq.trans (b := Ajc x6 x.1 x.2.1 x.2.2) (by kernel_rfl) (by rw [Atj]; simp only [e6] <;> rfl)
noncomputable def c : Con := ⟨H.p, H.r, F⟩
theorem ok : ConOk P_ Tryz.Avu 259 c := Tryz.cr H Tryz.func259 (.cons (F108.ok.mono (.cons _ .slnil)) (.cons (F162.ok.mono (.cons _ .slnil)) (.cons F289.ok .nil))) (AnsOk.cons Tryz.ent288 AnsOk.nil) (by kernel_rfl) rn
end F259
namespace F260
noncomputable def H : Hd := ⟨[Su, Si], [Sz], .d, ⟨[], Tryz.gl, false⟩, [], Tryz.f260⟩
noncomputable def F (x : UInt32 × Int) := Amm x.1 x.2
theorem rn (x : UInt32 × Int) : H.u P_ x = F x := by kernel_rfl
noncomputable def c : Con := ⟨H.p, H.r, F⟩
theorem ok : ConOk P_ Tryz.gl 260 c := Tryz.co H Tryz.func260 .nil (by kernel_rfl) rn
end F260
namespace F221
abbrev R_ := (UInt32 × Int × Int)
noncomputable def H : Hd := ⟨[.agg [Sb, Si], Si, Si], [Su, Si, Si], (.seq .d (.seq .d (.seq .d (.seq .d (.seq .d (.seq .d (.cut [2, 3, 7, 10, 11] [] .d .d))))))), ⟨[(108, F108.c), (162, F162.c), (259, F259.c), (260, F260.c)], Tryz.Avu, false⟩, [], Tryz.f221⟩
def x2 (a b f : Int) (g : LB) (h k : Int) : Option R_ := H.e P_ [r,r,r,r,r,r,r] ⟨[(2, vi a), (3, .ptr 0 []), (7, vi b), (10, vi f), (11, vi k)], [.box 164 (.agg [vb g, vi h])], []⟩
theorem e2 : x2 = Agp := by kernel_rfl
noncomputable def F (x : LB × Int × Int × Int) := Ap2 x.1 x.2.1 x.2.2.1 x.2.2.2
theorem rn (x : LB × Int × Int × Int) : H.u P_ x = F x := Eq.trans (b := Am6 x2 x.1 x.2.1 x.2.2.1 x.2.2.2) (by kernel_rfl) (by simp only [e2] <;> rfl)
noncomputable def c : Con := ⟨H.p, H.r, F⟩
theorem ok : ConOk P_ Tryz.Avu 221 c := Tryz.co H Tryz.func221 (.cons (F108.ok.mono (.cons _ .slnil)) (.cons (F162.ok.mono (.cons _ .slnil)) (.cons F259.ok (.cons (F260.ok.mono (.cons _ .slnil)) .nil)))) (by kernel_rfl) rn
end F221
namespace F262
noncomputable def H : Hd := ⟨[.agg [Si, Si, Sq, Sq], Su], [Si, Su], .d, ⟨[], Tryz.gl, false⟩, [], Tryz.f262⟩
noncomputable def F (x : Int × Int × UInt64 × UInt64 × UInt32) := Amf x.1 x.2.1 x.2.2.1 x.2.2.2.1 x.2.2.2.2
theorem rn (x : Int × Int × UInt64 × UInt64 × UInt32) : H.u P_ x = F x := by kernel_rfl
noncomputable def c : Con := ⟨H.p, H.r, F⟩
theorem ok : ConOk P_ Tryz.gl 262 c := Tryz.co H Tryz.func262 .nil (by kernel_rfl) rn
end F262
namespace F161
abbrev R_ := (UInt32 × Int × Int × Int × UInt64 × UInt64 × Int)
noncomputable def H : Hd := ⟨[.agg [Sb, Si], Si, .agg [Si, Si, Sq, Sq]], [Su, Si, .agg [Si, Si, Sq, Sq], Si], (.seq .d (.cut [1, 3, 5, 8] [] .d (.seq .d (.seq .d (.cut [5, 6, 7, 8] [] .d (.cut [5, 6, 7, 8] [] (.keep [5, 6, 7, 8, 81] true) .d)))))), ⟨[(108, F108.c), (162, F162.c), (220, F220.c), (221, F221.c), (262, F262.c)], Tryz.Avu, false⟩, [(222, (.seq .d (.seq .d (.seq .d (.blk (.cut [0, 1, 4] [] (.blk (.seq .d (.keep [0, 1, 4, 6, 18, 19, 20, 21, 22, 23, 24, 25] true))) (.cut [] [] (.keep [0, 1, 4, 27, 28, 29, 30, 31, 32, 33, 34] true) .d))))))), (261, .d)], Tryz.f161⟩
def x10 (f : UInt32) (k w m : Int) (a n : UInt64) : Option R_ := H.e P_ [r,r,r,r,r,r] ⟨[(5, .ptr 0 []), (6, vu f), (7, vi k), (8, .ptr 1 [])], [.box 223 (.agg [vi w, vi m, vq (Ae a (Al (Ad f : UInt64) (Cy a (GI.toZ (4 : UInt64)).toNat))), vq n]), .box 223 (.agg [vi 0, vi 0, vq 0, vq 0])], []⟩
def x9 (f : UInt32) (k m : Int) (a n : UInt64) (w : Int) : Option R_ := H.e P_ [r,r,r,r,r,l,(call 1 222),r,r,r,d,r,r] ⟨[], [.box 223 (.agg [vi w, vi m, vq (Ae a (Al (Ad f : UInt64) (Cy a (GI.toZ (4 : UInt64)).toNat))), vq n]), .box 223 (.agg [vi 0, vi 0, vq 0, vq 0])], [[(5, .ptr 0 []), (6, vu f), (7, vi k), (8, .ptr 1 []), (81, vu f)]]⟩
def x8 (f : UInt32) (k b : Int) (a : UInt64) (m : Int) (n : UInt64) : Option R_ := H.e P_ [r,r,r,r,r,l,(call 1 222),r,r,r,d,r] ⟨[(0, .ptr 0 []), (1, vu f), (4, .fn 261 [])], [.box 223 (.agg [vi b, vi m, vq a, vq n]), .box 223 (.agg [vi 0, vi 0, vq 0, vq 0])], [[(5, .ptr 0 []), (6, vu f), (7, vi k), (8, .ptr 1 []), (81, vu f)]]⟩
def x7 (b h : Int) (a g : UInt64) (f : UInt32) (k : Int) : Option R_ := H.e P_ [r,r,r,r,r] ⟨[(5, .ptr 0 []), (6, vu f), (7, vi k), (8, .ptr 1 [])], [.box 223 (.agg [vi b, vi h, vq a, vq g]), .box 223 (.agg [vi 0, vi 0, vq 0, vq 0])], []⟩
def x6 (p : Int) (u : LB) (v b h : Int) (a g : UInt64) : Option R_ := H.e P_ [r,r] ⟨[(1, vi p), (3, .ptr 0 []), (5, .ptr 1 []), (8, .ptr 2 [])], [.box 164 (.agg [vb u, vi v]), .box 223 (.agg [vi b, vi h, vq a, vq g]), .box 223 (.agg [vi 0, vi 0, vq 0, vq 0])], []⟩
theorem e10 : x10 = Aj5 := by kernel_rfl
theorem e9 : x9 = Al5 := Eq.trans (b := Amv x10) (by kernel_rfl) (by simp only [e10] <;> rfl)
theorem e8 : x8 = Aa5 := Eq.trans (b := Amq x9) (by kernel_rfl) (by simp only [e9] <;> rfl)
theorem e7 : x7 = Ags := Eq.trans (b := Anc x8) (by kernel_rfl) (by simp only [e8] <;> rfl)
theorem e6 : x6 = Am1 := Eq.trans (b := Anb x7) (by kernel_rfl) (by simp only [e7] <;> rfl)
noncomputable def F (x : LB × Int × Int × Int × Int × UInt64 × UInt64) := Ww x.1 x.2.1 x.2.2.1 x.2.2.2.1 x.2.2.2.2.1 x.2.2.2.2.2.1 x.2.2.2.2.2.2
theorem rn (x : LB × Int × Int × Int × Int × UInt64 × UInt64) : H.u P_ x = F x := Eq.trans (b := Al4 x6 x.1 x.2.1 x.2.2.1 x.2.2.2.1 x.2.2.2.2.1 x.2.2.2.2.2.1 x.2.2.2.2.2.2) (by kernel_rfl) (by simp only [e6] <;> rfl)
noncomputable def c : Con := ⟨H.p, H.r, F⟩
theorem ok : ConOk P_ Tryz.Avu 161 c := Tryz.cr H Tryz.func161 (.cons (F108.ok.mono (.cons _ .slnil)) (.cons (F162.ok.mono (.cons _ .slnil)) (.cons (F220.ok.mono (.cons _ .slnil)) (.cons F221.ok (.cons (F262.ok.mono (.cons _ .slnil)) .nil))))) (AnsOk.cons Tryz.ent222 (AnsOk.cons Tryz.ent261 AnsOk.nil)) (by kernel_rfl) rn
end F161
namespace F107
def Xo (j21 : Int → Int → Int → UInt32 → Int → (List (Int × Int × UInt64 × UInt64 × Unit)) → LU → Int → Int → UInt64 → UInt64 → Option (LU × Int × Int)) (j24 : Int → LU → Option (LU × Int × Int)) (a f : Int) (g : LB) (b k h : Int) (n : List (Int × Int × UInt64 × UInt64 × Unit)) (m : LU) : Option (LU × Int × Int) :=
if (Cu h (Be f a)) then
(Apa g b k (Gd (Ae k 81) b)).bind fun (af, ae, ag) =>
if (Ck ag 0) then
some (([] : LU), 0, ag)
else
(Vd (Ck a 0)).bind fun _ =>
(getI n (Kf h a)).bind fun _ =>
both (
both (
(getI n (Kf h a)).bind fun o =>
bo (
(Ww af ae 0 o.1 o.2.1 o.2.2.1 o.2.2.2.1).bind fun (v, u, aa, ab, ac, ad, y) =>
j21 k h y v u n m aa ab ac ad)) [
(getI n (Kf h a)).bind fun o =>
(Ww af ae 0 o.1 o.2.1 o.2.2.1 o.2.2.2.1).bind fun (v, u, aa, ab, ac, ad, y) =>
j21 k h y v u n m aa ab ac ad]) [
(getI n (Kf h a)).bind fun o =>
both (
bo (
(Ww af ae 0 o.1 o.2.1 o.2.2.1 o.2.2.2.1).bind fun (v, u, aa, ab, ac, ad, y) =>
j21 k h y v u n m aa ab ac ad)) [
(Ww af ae 0 o.1 o.2.1 o.2.2.1 o.2.2.2.1).bind fun (v, u, aa, ab, ac, ad, y) =>
j21 k h y v u n m aa ab ac ad],
bo (
(getI n (Kf h a)).bind fun o =>
(Ww af ae 0 o.1 o.2.1 o.2.2.1 o.2.2.2.1).bind fun (v, u, aa, ab, ac, ad, y) =>
j21 k h y v u n m aa ab ac ad)]
else
j24 k m
theorem Ane : @Xo = @Rz := by
  unfold Xo Rz
  repeat (refine funext fun _ => ?_)
  repeat' first
    | with_reducible rfl
    | with_reducible refine Nl ?_ ?_
    | with_reducible refine Mw ?_ ?_ ?_
    | with_reducible refine Od ?_ ?_ ?_ ?_
    | ((with_reducible refine Vb ?_ ?_); focus (intro h; first | (subst h; rfl) | (simp only [h]; rfl) | (simp [Iy, Ac, h]; done)))
    | with_reducible refine Up fun x => ?_
    | with_reducible refine Aav (fun _ => ?_) (fun _ => ?_)
    | (refine Hb (fun h => by simp only [h, Uq, Ev, El, ite_self]) (fun x h => ?_); (try simp only [h, Ev]))
    | (refine Jp (fun h => ?_) (fun h => ?_) <;> simp only [h, if_true, if_false, Bool.false_eq_true])
abbrev R_ := (LU × Int × Int)
abbrev K_ := S → Option R_
noncomputable def H : Hd := ⟨[Si, Si, .agg [Sb, Si]], [Ov 206, Si, Si], (.seq .d (.seq .d (.cut [0, 1, 5, 9] [] (.seq .d (.blk (.loop [0, 1, 5, 9, 19] [] .d))) (.seq .d (.seq .d (.cut [11, 12] [] (.seq .d (.blk (.loop [0, 5, 9, 11, 12, 28, 29] [⟨11, [], .own 206 (.int .u32)⟩] (.seq .d (.seq .d (.seq (.blk (.seq .d (.seq .d (.seq .d (.cut [0, 5, 9, 11, 12, 13, 15, 16, 17, 18, 28, 29] [] (.mode false) (.seq .d (.cut [0, 5, 9, 11, 12, 16, 28, 29] [] .d .d))))))) .d)))))) .d)))))), ⟨[(159, F159.c), (160, F160.c), (161, F161.c)], Tryz.Avu, false⟩, [], Tryz.f107⟩
def t16 (a f : Int) (g : LB) (b k h : Int) (n : List (Int × Int × UInt64 × UInt64 × Unit)) (m : LU) : S := ⟨[(0, vi a), (5, .ptr 0 []), (9, .ptr 1 []), (11, .own 2), (12, vi k), (28, vi (Be f a)), (29, vi h)], [.box 164 (.agg [vb g, vi b]), .box 224 (.val (.vec 6 (.cons (.int .i64) (.cons (.int .i64) (.cons (.int .u64) (.cons (.int .u64) .nil))))) n), Av 206 m], []⟩
def z16 : Nat → S → Option R_ := H.i P_ [r,r,r,r,r,l,r,d]
def t13 (a f : Int) (g : LB) (b w : Int) (p : List (Int × Int × UInt64 × UInt64 × Unit)) : S := ⟨[(0, vi a), (1, vi f), (5, .ptr 0 []), (9, .ptr 1 []), (19, vi w)], [.box 164 (.agg [vb g, vi b]), .box 224 (.val (.vec 6 (.cons (.int .i64) (.cons (.int .i64) (.cons (.int .u64) (.cons (.int .u64) .nil))))) p)], []⟩
def z13 : Nat → S → Option R_ := H.i P_ [r,r,l,r,d]
def x24 (k : Int) (m : LU) : Option R_ := H.e P_ [r,r,r,r,r,r] ⟨[(11, .own 0), (12, vi k)], [Av 206 m], []⟩
def x22 (kn16 : K_) (a f : Int) (g : LB) (b k u : Int) (v : UInt32) (h : Int) (ah : List (Int × Int × UInt64 × UInt64 × Unit)) (m : LU) : Option R_ := H.e P_ [r,r,r,r,r,l,r,d,(lp kn16),r,r,l,d,r,r,r,r,r,r] ⟨[(0, vi a), (5, .ptr 0 []), (9, .ptr 1 []), (11, .own 2), (12, vi (Ae k u)), (16, vu v), (28, vi (Be f a)), (29, vi h)], [.box 164 (.agg [vb g, vi b]), .box 224 (.val (.vec 6 (.cons (.int .i64) (.cons (.int .i64) (.cons (.int .u64) (.cons (.int .u64) .nil))))) ah), Av 206 m], []⟩
def x21 (kn16 : K_) (a f : Int) (g : LB) (b k h y : Int) (v : UInt32) (u : Int) (n : List (Int × Int × UInt64 × UInt64 × Unit)) (m : LU) (aa ab : Int) (ac ad : UInt64) : Option R_ := H.e P_ [r,r,r,r,r,l,r,d,(lp kn16),r,r,l,d,r,r,r,r] ⟨[(0, vi a), (5, .ptr 0 []), (9, .ptr 1 []), (11, .own 2), (12, vi k), (13, vi h), (15, vi y), (16, vu v), (17, vi u), (18, .ptr 3 []), (28, vi (Be f a)), (29, vi h)], [.box 164 (.agg [vb g, vi b]), .box 224 (.val (.vec 6 (.cons (.int .i64) (.cons (.int .i64) (.cons (.int .u64) (.cons (.int .u64) .nil))))) n), Av 206 m, .box 223 (.agg [vi aa, vi ab, vq ac, vq ad])], []⟩
def x16 (a f : Int) (g : LB) (b k h : Int) (n : List (Int × Int × UInt64 × UInt64 × Unit)) (m : LU) : Option R_ := H.e P_ [r,r,r,r,r,l,r,d] (t16 a f g b k h n m)
def x15 (a f : Int) (g : LB) (b : Int) (p : List (Int × Int × UInt64 × UInt64 × Unit)) : Option R_ := H.e P_ [r,r,r] ⟨[(0, vi a), (1, vi f), (5, .ptr 0 []), (9, .ptr 1 [])], [.box 164 (.agg [vb g, vi b]), .box 224 (.val (.vec 6 (.cons (.int .i64) (.cons (.int .i64) (.cons (.int .u64) (.cons (.int .u64) .nil))))) p)], []⟩
def x13 (a f : Int) (g : LB) (b w : Int) (p : List (Int × Int × UInt64 × UInt64 × Unit)) : Option R_ := H.e P_ [r,r,l,r,d] (t13 a f g b w p)
theorem e24 : x24 = Aig := by kernel_rfl
theorem e22 (kn16 : K_) (a f : Int) (g : LB) (b : Int) : x22 kn16 a f g b = Zi (fun k h n m => kn16 (t16 a f g b k h n m)) a f g b := by kernel_rfl
theorem e21 (kn16 : K_) (a f : Int) (g : LB) (b : Int) : x21 kn16 a f g b = Rf (fun k h n m => kn16 (t16 a f g b k h n m)) a f g b := Eq.trans (b := Rn (x22 kn16 a f g b) a f g b) (by kernel_rfl) (by simp only [e22] <;> rfl)
theorem i16 (a f : Int) (g : LB) (b : Int) : ∀ (q : Nat) (k h : Int) (n : List (Int × Int × UInt64 × UInt64 × Unit)) (m : LU), z16 q (t16 a f g b k h n m) = Ll a f g b q k h n m :=
 ind (fun _ _ _ _ => by kernel_rfl) fun q ih k h n m => Eq.trans (b := Xo (x21 (z16 q) a f g b) x24 a f g b k h n m) (by kernel_rfl) (by rw [Ane]; simp only [e21, e24, ih] <;> rfl)
theorem e16 : x16 = Aho := by funext a f g b k h n m; exact Eq.trans (by kernel_rfl) ((i16 a f g b Bk k h n m).trans (by rw [Aj]; rfl))
theorem e15 : x15 = Zk := Eq.trans (b := Aii x16) (by kernel_rfl) (by simp only [e16] <;> rfl)
theorem i13 (a f : Int) (g : LB) (b : Int) : ∀ (q : Nat) (w : Int) (p : List (Int × Int × UInt64 × UInt64 × Unit)), z13 q (t13 a f g b w p) = Zc a f g b q w p :=
 ind (fun _ _ => by kernel_rfl) fun q ih w p => Eq.trans (b := Aja x15 (fun w p => (z13 q) (t13 a f g b w p)) a f g b w p) (by kernel_rfl) (by simp only [e15, ih] <;> rfl)
theorem e13 : x13 = Rq := by funext a f g b w p; exact Eq.trans (by kernel_rfl) ((i13 a f g b Bk w p).trans (by rw [Aj]; rfl))
noncomputable def F (x : Int × Int × LB × Int) := Abp x.1 x.2.1 x.2.2.1 x.2.2.2
theorem rn (x : Int × Int × LB × Int) : H.u P_ x = F x := Eq.trans (b := Abr x13 x.1 x.2.1 x.2.2.1 x.2.2.2) (by kernel_rfl) (by simp only [e13] <;> rfl)
noncomputable def c : Con := ⟨H.p, H.r, F⟩
theorem ok : ConOk P_ Tryz.Avu 107 c := Tryz.co H Tryz.func107 (.cons (F159.ok.mono (.cons _ .slnil)) (.cons (F160.ok.mono (.cons _ .slnil)) (.cons F161.ok .nil))) (by kernel_rfl) rn
end F107
namespace F223
abbrev R_ := (Int × LX × LX × Int)
noncomputable def H : Hd := ⟨[Si, .lf (.vec 16 (.int .i32)) none], [.agg [Si, .lf (.vec 16 (.int .i32)) none, .lf (.vec 16 (.int .i32)) none], Si], (.seq .d (.seq .d (.seq (.seq .d (.blk (.cut [4, 6, 9, 11] [] .d .d))) .d))), ⟨[], Tryz.gl, false⟩, [], Tryz.f223⟩
def x2 (a : Int) (b : LX) (f : Bool) : Option R_ := H.e P_ [r,r,l,r,d,r] ⟨[(4, .ptr 0 []), (6, .ptr 1 []), (9, vi a), (11, vt f)], [.box 232 (.agg [vi 0, .val (.vec 16 (.int .i32)) (List.replicate 16 (0 : Int32)), .val (.vec 16 (.int .i32)) (List.replicate 16 (0 : Int32))]), .box 232 (.agg [vi 10, .val (.vec 16 (.int .i32)) b, .val (.vec 16 (.int .i32)) (List.replicate 16 (0 : Int32))])], []⟩
theorem e2 : x2 = Auw := by kernel_rfl
noncomputable def F (x : Int × LX) := As1 x.1 x.2
theorem rn (x : Int × LX) : H.u P_ x = F x := Eq.trans (b := Au0 x2 x.1 x.2) (by kernel_rfl) (by simp only [e2] <;> rfl)
noncomputable def c : Con := ⟨H.p, H.r, F⟩
theorem ok : ConOk P_ Tryz.gl 223 c := Tryz.co H Tryz.func223 .nil (by kernel_rfl) rn
end F223
namespace F164
noncomputable def H : Hd := ⟨[Si, .lf (.vec 16 (.int .i32)) none], [.agg [Si, Sx, .agg [Si, .lf (.vec 16 (.int .i32)) none, .lf (.vec 16 (.int .i32)) none]], Si], .d, ⟨[(223, F223.c)], Tryz.gl, false⟩, [], Tryz.f164⟩
noncomputable def F (x : Int × LX) := Bby x.1 x.2
theorem rn (x : Int × LX) : H.u P_ x = F x := by kernel_rfl
noncomputable def c : Con := ⟨H.p, H.r, F⟩
theorem ok : ConOk P_ Tryz.gl 164 c := Tryz.co H Tryz.func164 (.cons F223.ok .nil) (by kernel_rfl) rn
end F164
namespace F166
noncomputable def H : Hd := ⟨[Su], [Sx], .d, ⟨[], Tryz.gl, false⟩, [], Tryz.f166⟩
noncomputable def F (x : UInt32) := Xi x
theorem rn (x : UInt32) : H.u P_ x = F x := by kernel_rfl
noncomputable def c : Con := ⟨H.p, H.r, F⟩
theorem ok : ConOk P_ Tryz.gl 166 c := Tryz.co H Tryz.func166 .nil (by kernel_rfl) rn
end F166
namespace F224
noncomputable def H : Hd := ⟨[.agg [Si, Sx, .agg [Si, .lf (.vec 16 (.int .i32)) none, .lf (.vec 16 (.int .i32)) none]]], [Si], .d, ⟨[(223, F223.c)], Tryz.gl, false⟩, [], Tryz.f224⟩
noncomputable def F (x : Int × Int32 × Int × LX × LX) := Aek x.1 x.2.1 x.2.2.1 x.2.2.2.1 x.2.2.2.2
theorem rn (x : Int × Int32 × Int × LX × LX) : H.u P_ x = F x := by kernel_rfl
noncomputable def c : Con := ⟨H.p, H.r, F⟩
theorem ok : ConOk P_ Tryz.gl 224 c := Tryz.co H Tryz.func224 (.cons F223.ok .nil) (by kernel_rfl) rn
end F224
namespace F263
noncomputable def H : Hd := ⟨[Si], [Si, Si], .d, ⟨[], Tryz.gl, false⟩, [], Tryz.f263⟩
noncomputable def F (x : Int) := Aoi x
theorem rn (x : Int) : H.u P_ x = F x := by kernel_rfl
noncomputable def c : Con := ⟨H.p, H.r, F⟩
theorem ok : ConOk P_ Tryz.gl 263 c := Tryz.co H Tryz.func263 .nil (by kernel_rfl) rn
end F263
namespace F264
noncomputable def H : Hd := ⟨[Si, Sx], [Sx], .d, ⟨[], Tryz.gl, false⟩, [], Tryz.f264⟩
noncomputable def F (x : Int × Int32) := Ajh x.1 x.2
theorem rn (x : Int × Int32) : H.u P_ x = F x := by kernel_rfl
noncomputable def c : Con := ⟨H.p, H.r, F⟩
theorem ok : ConOk P_ Tryz.gl 264 c := Tryz.co H Tryz.func264 .nil (by kernel_rfl) rn
end F264
namespace F225
noncomputable def H : Hd := ⟨[Si, Sx], [Sx, Si], .d, ⟨[(263, F263.c), (264, F264.c)], Tryz.gl, false⟩, [], Tryz.f225⟩
noncomputable def F (x : Int × Int32) := Ae8 x.1 x.2
theorem rn (x : Int × Int32) : H.u P_ x = F x := by kernel_rfl
noncomputable def c : Con := ⟨H.p, H.r, F⟩
theorem ok : ConOk P_ Tryz.gl 225 c := Tryz.co H Tryz.func225 (.cons F263.ok (.cons F264.ok .nil)) (by kernel_rfl) rn
end F225
namespace F290
noncomputable def H : Hd := ⟨[.agg [Si, .lf (.vec 16 (.int .i32)) none, .lf (.vec 16 (.int .i32)) none]], [Si], .d, ⟨[], Tryz.gl, false⟩, [], Tryz.f290⟩
noncomputable def F (x : Int × LX × LX) := Adv x.1 x.2.1 x.2.2
theorem rn (x : Int × LX × LX) : H.u P_ x = F x := by kernel_rfl
noncomputable def c : Con := ⟨H.p, H.r, F⟩
theorem ok : ConOk P_ Tryz.gl 290 c := Tryz.co H Tryz.func290 .nil (by kernel_rfl) rn
end F290
namespace F265
abbrev R_ := (Int32 × Int)
noncomputable def H : Hd := ⟨[.agg [Si, .lf (.vec 16 (.int .i32)) none, .lf (.vec 16 (.int .i32)) none]], [Sx, Si], (.seq .d (.seq .d (.seq .d (.cut [1, 5] [] (.seq .d (.blk (.loop [1, 5, 18, 19] [] .d))) .d)))), ⟨[(290, F290.c)], Tryz.gl, false⟩, [], Tryz.f265⟩
def t4 (b : LX) (a : Int) (f : LX) (g : Int32) (h : Int) : S := ⟨[(1, .ptr 0 []), (5, vx g), (18, .val (.vec 16 (.int .i32)) b), (19, vi h)], [.box 232 (.agg [vi a, .val (.vec 16 (.int .i32)) b, .val (.vec 16 (.int .i32)) f])], []⟩
def z4 : Nat → S → Option R_ := H.i P_ [r,r,r,l,r,d]
def x6 (g : Int32) (a : Int) (b f : LX) : Option R_ := H.e P_ [r,r,r,r] ⟨[(1, .ptr 0 []), (5, vx g)], [.box 232 (.agg [vi a, .val (.vec 16 (.int .i32)) b, .val (.vec 16 (.int .i32)) f])], []⟩
def x4 (b : LX) (a : Int) (f : LX) (g : Int32) (h : Int) : Option R_ := H.e P_ [r,r,r,l,r,d] (t4 b a f g h)
theorem e6 : x6 = Akt := by kernel_rfl
theorem i4 (b : LX) (a : Int) (f : LX) : ∀ (q : Nat) (g : Int32) (h : Int), z4 q (t4 b a f g h) = Tg b a f q g h :=
 ind (fun _ _ => by kernel_rfl) fun q ih g h => Eq.trans (b := Aef x6 (fun g h => (z4 q) (t4 b a f g h)) b a f g h) (by kernel_rfl) (by simp only [e6, ih] <;> rfl)
theorem e4 : x4 = Aj9 := by funext b a f g h; exact Eq.trans (by kernel_rfl) ((i4 b a f Bk g h).trans (by rw [Aj]; rfl))
noncomputable def F (x : Int × LX × LX) := Am3 x.1 x.2.1 x.2.2
theorem rn (x : Int × LX × LX) : H.u P_ x = F x := Eq.trans (b := Akb x4 x.1 x.2.1 x.2.2) (by kernel_rfl) (by simp only [e4] <;> rfl)
noncomputable def c : Con := ⟨H.p, H.r, F⟩
theorem ok : ConOk P_ Tryz.gl 265 c := Tryz.co H Tryz.func265 (.cons F290.ok .nil) (by kernel_rfl) rn
end F265
namespace F298
noncomputable def H : Hd := ⟨[Si], [Sx], .d, ⟨[], Tryz.gl, false⟩, [], Tryz.f298⟩
noncomputable def F (x : Int) := Alq x
theorem rn (x : Int) : H.u P_ x = F x := by kernel_rfl
noncomputable def c : Con := ⟨H.p, H.r, F⟩
theorem ok : ConOk P_ Tryz.gl 298 c := Tryz.co H Tryz.func298 .nil (by kernel_rfl) rn
end F298
namespace F291
abbrev R_ := (Int × LX × LX × Int)
noncomputable def H : Hd := ⟨[.agg [Si, .lf (.vec 16 (.int .i32)) none, .lf (.vec 16 (.int .i32)) none], Sx], [.agg [Si, .lf (.vec 16 (.int .i32)) none, .lf (.vec 16 (.int .i32)) none], Si], (.seq .d (.seq .d (.seq .d (.cut [2, 4] [] (.seq .d (.blk (.loop [1, 2, 4, 19, 20] [] .d))) .d)))), ⟨[(290, F290.c), (298, F298.c)], Tryz.gl, false⟩, [], Tryz.f291⟩
def t4 (h : Int32) (f : LX) (g a : Int) (b : LX) : S := ⟨[(1, vx h), (2, .ptr 0 []), (4, .ptr 1 []), (19, .val (.vec 16 (.int .i32)) f), (20, vi a)], [.box 232 (.agg [vi g, .val (.vec 16 (.int .i32)) b, .val (.vec 16 (.int .i32)) f]), .box 232 (.agg [vi 0, .val (.vec 16 (.int .i32)) (List.replicate 16 (0 : Int32)), .val (.vec 16 (.int .i32)) (List.replicate 16 (0 : Int32))])], []⟩
def z4 : Nat → S → Option R_ := H.i P_ [r,r,r,l,r,d]
def x6 (g : Int) (b f : LX) : Option R_ := H.e P_ [r,r,r,r] ⟨[(2, .ptr 0 []), (4, .ptr 1 [])], [.box 232 (.agg [vi g, .val (.vec 16 (.int .i32)) b, .val (.vec 16 (.int .i32)) f]), .box 232 (.agg [vi 0, .val (.vec 16 (.int .i32)) (List.replicate 16 (0 : Int32)), .val (.vec 16 (.int .i32)) (List.replicate 16 (0 : Int32))])], []⟩
def x4 (h : Int32) (f : LX) (g a : Int) (b : LX) : Option R_ := H.e P_ [r,r,r,l,r,d] (t4 h f g a b)
theorem e6 : x6 = Aqy := by kernel_rfl
theorem i4 (h : Int32) (f : LX) (g : Int) : ∀ (q : Nat) (a : Int) (b : LX), z4 q (t4 h f g a b) = Th h f g q a b :=
 ind (fun _ _ => by kernel_rfl) fun q ih a b => Eq.trans (b := Ad8 x6 (fun a b => (z4 q) (t4 h f g a b)) h f g a b) (by kernel_rfl) (by simp only [e6, ih] <;> rfl)
theorem e4 : x4 = Aq9 := by funext h f g a b; exact Eq.trans (by kernel_rfl) ((i4 h f g Bk a b).trans (by rw [Aj]; rfl))
noncomputable def F (x : Int × LX × LX × Int32) := Al9 x.1 x.2.1 x.2.2.1 x.2.2.2
theorem rn (x : Int × LX × LX × Int32) : H.u P_ x = F x := Eq.trans (b := Aj3 x4 x.1 x.2.1 x.2.2.1 x.2.2.2) (by kernel_rfl) (by simp only [e4] <;> rfl)
noncomputable def c : Con := ⟨H.p, H.r, F⟩
theorem ok : ConOk P_ Tryz.gl 291 c := Tryz.co H Tryz.func291 (.cons F290.ok (.cons F298.ok .nil)) (by kernel_rfl) rn
end F291
namespace F292
def Akf (j2 : Int32 → Int → LX → LX → Option (Int × LX × LX × Int)) (b : Int) (f a : LX) (g : Int32) : Option (Int × LX × LX × Int) :=
(Adv b f a).bind fun h =>
if (Ck h 0) then
some (0, (List.replicate 16 (0 : Int32)), (List.replicate 16 (0 : Int32)), h)
else
both (
(vwI 16 1 16).bind fun _ =>
(vwI 16 0 16).bind fun _ =>
j2 g b f a) [
(vwI 16 0 16).bind fun _ =>
(vwI 16 1 16).bind fun _ =>
j2 g b f a]
theorem Aug : @Akf = @Ago := by
  unfold Akf Ago
  repeat (refine funext fun _ => ?_)
  repeat' first
    | with_reducible rfl
    | with_reducible refine Nl ?_ ?_
    | with_reducible refine Mw ?_ ?_ ?_
    | with_reducible refine Od ?_ ?_ ?_ ?_
    | ((with_reducible refine Vb ?_ ?_); focus (intro h; first | (subst h; rfl) | (simp only [h]; rfl) | (simp [Iy, Ac, h]; done)))
    | with_reducible refine Up fun x => ?_
    | with_reducible refine Aav (fun _ => ?_) (fun _ => ?_)
    | (refine Hb (fun h => by simp only [h, Uq, Ev, El, ite_self]) (fun x h => ?_); (try simp only [h, Ev]))
    | (refine Jp (fun h => ?_) (fun h => ?_) <;> simp only [h, if_true, if_false, Bool.false_eq_true])
abbrev R_ := (Int × LX × LX × Int)
noncomputable def H : Hd := ⟨[.agg [Si, .lf (.vec 16 (.int .i32)) none, .lf (.vec 16 (.int .i32)) none], Sx], [.agg [Si, .lf (.vec 16 (.int .i32)) none, .lf (.vec 16 (.int .i32)) none], Si], (.seq .d (.seq .d (.cut [1, 2, 4] [] .d .d))), ⟨[(290, F290.c)], Tryz.gl, false⟩, [], Tryz.f292⟩
def x2 (g : Int32) (b : Int) (f a : LX) : Option R_ := H.e P_ [r,r,r] ⟨[(1, vx g), (2, .ptr 0 []), (4, .ptr 1 [])], [.box 232 (.agg [vi b, .val (.vec 16 (.int .i32)) f, .val (.vec 16 (.int .i32)) (Ue a (1 : Int) ((16 : Int) - (1 : Int)) (Alh a (0 : Int) ((16 : Int) - (0 : Int))))]), .box 232 (.agg [vi 0, .val (.vec 16 (.int .i32)) (List.replicate 16 (0 : Int32)), .val (.vec 16 (.int .i32)) (List.replicate 16 (0 : Int32))])], []⟩
theorem e2 : x2 = Amb := by kernel_rfl
noncomputable def F (x : Int × LX × LX × Int32) := Aqf x.1 x.2.1 x.2.2.1 x.2.2.2
theorem rn (x : Int × LX × LX × Int32) : H.u P_ x = F x := Eq.trans (b := Akf x2 x.1 x.2.1 x.2.2.1 x.2.2.2) (by kernel_rfl) (by rw [Aug]; simp only [e2] <;> rfl)
noncomputable def c : Con := ⟨H.p, H.r, F⟩
theorem ok : ConOk P_ Tryz.gl 292 c := Tryz.co H Tryz.func292 (.cons F290.ok .nil) (by kernel_rfl) rn
end F292
namespace F266
noncomputable def H : Hd := ⟨[.agg [Si, .lf (.vec 16 (.int .i32)) none, .lf (.vec 16 (.int .i32)) none], Sx, Sx], [.agg [Si, .lf (.vec 16 (.int .i32)) none, .lf (.vec 16 (.int .i32)) none]], .d, ⟨[(291, F291.c), (292, F292.c)], Tryz.gl, false⟩, [], Tryz.f266⟩
noncomputable def F (x : Int × LX × LX × Int32 × Int32) := Ar6 x.1 x.2.1 x.2.2.1 x.2.2.2.1 x.2.2.2.2
theorem rn (x : Int × LX × LX × Int32 × Int32) : H.u P_ x = F x := by kernel_rfl
noncomputable def c : Con := ⟨H.p, H.r, F⟩
theorem ok : ConOk P_ Tryz.gl 266 c := Tryz.co H Tryz.func266 (.cons F291.ok (.cons F292.ok .nil)) (by kernel_rfl) rn
end F266
namespace F226
noncomputable def H : Hd := ⟨[.agg [Si, .lf (.vec 16 (.int .i32)) none, .lf (.vec 16 (.int .i32)) none], Sx], [Sx, .agg [Si, .lf (.vec 16 (.int .i32)) none, .lf (.vec 16 (.int .i32)) none], Si], .d, ⟨[(265, F265.c), (266, F266.c)], Tryz.gl, false⟩, [], Tryz.f226⟩
noncomputable def F (x : Int × LX × LX × Int32) := Aox x.1 x.2.1 x.2.2.1 x.2.2.2
theorem rn (x : Int × LX × LX × Int32) : H.u P_ x = F x := by kernel_rfl
noncomputable def c : Con := ⟨H.p, H.r, F⟩
theorem ok : ConOk P_ Tryz.gl 226 c := Tryz.co H Tryz.func226 (.cons F265.ok (.cons F266.ok .nil)) (by kernel_rfl) rn
end F226
namespace F165
def Ahm (a : Int) (b : Int32) (f : Int) (g h : LX) (o : Int32) : Option (Int32 × Int × Int32 × Int × LX × LX × Int) :=
(Aek a b f g h).bind fun k =>
if (Ck k 0) then
some (0, 0, 0, 0, (List.replicate 16 (0 : Int32)), (List.replicate 16 (0 : Int32)), k)
else
(Ae8 a b).bind fun (m, y) =>
(Aox f g h o).bind fun (n, p, u, v, w) =>
bo (
some ((Ae n m), a, (Ae n m), p, u, v, w))
theorem Asl : @Ahm = @Ju := by
  unfold Ahm Ju
  simp only [Bjl, Bcl, Bdt]
noncomputable def H : Hd := ⟨[.agg [Si, Sx, .agg [Si, .lf (.vec 16 (.int .i32)) none, .lf (.vec 16 (.int .i32)) none]], Sx], [Sx, .agg [Si, Sx, .agg [Si, .lf (.vec 16 (.int .i32)) none, .lf (.vec 16 (.int .i32)) none]], Si], (.seq .d (.seq .d (.seq .d (.seq .d (.seq (.mode false) .d))))), ⟨[(224, F224.c), (225, F225.c), (226, F226.c)], Tryz.gl, false⟩, [], Tryz.f165⟩
noncomputable def F (x : Int × Int32 × Int × LX × LX × Int32) := Ju x.1 x.2.1 x.2.2.1 x.2.2.2.1 x.2.2.2.2.1 x.2.2.2.2.2
theorem rn (x : Int × Int32 × Int × LX × LX × Int32) : H.u P_ x = F x := Eq.trans (b := Ahm x.1 x.2.1 x.2.2.1 x.2.2.2.1 x.2.2.2.2.1 x.2.2.2.2.2) (by kernel_rfl) (by rw [Asl]; rfl)
noncomputable def c : Con := ⟨H.p, H.r, F⟩
theorem ok : ConOk P_ Tryz.gl 165 c := Tryz.co H Tryz.func165 (.cons F224.ok (.cons F225.ok (.cons F226.ok .nil))) (by kernel_rfl) rn
end F165
namespace F227
noncomputable def H : Hd := ⟨[Si, Sw], [Si], .d, ⟨[], Tryz.gl, false⟩, [], Tryz.f227⟩
noncomputable def F (x : Int × LX) := Ap7 x.1 x.2
theorem rn (x : Int × LX) : H.u P_ x = F x := by kernel_rfl
noncomputable def c : Con := ⟨H.p, H.r, F⟩
theorem ok : ConOk P_ Tryz.gl 227 c := Tryz.co H Tryz.func227 .nil (by kernel_rfl) rn
end F227
namespace F228
def Js (a : LX) : Option (LX) :=
Bcz a (
some ([] : LX)) (
(Iy ([] : LX) a).bind fun b =>
some b)
theorem Ach : @Js = @Ga := by
  unfold Js Ga
  repeat (refine funext fun _ => ?_)
  repeat' first
    | with_reducible rfl
    | with_reducible refine Nl ?_ ?_
    | with_reducible refine Mw ?_ ?_ ?_
    | with_reducible refine Od ?_ ?_ ?_ ?_
    | ((with_reducible refine Vb ?_ ?_); focus (intro h; first | (subst h; rfl) | (simp only [h]; rfl) | (simp [Iy, Ac, h]; done)))
    | with_reducible refine Up fun x => ?_
    | with_reducible refine Aav (fun _ => ?_) (fun _ => ?_)
    | (refine Hb (fun h => by simp only [h, Uq, Ev, El, ite_self]) (fun x h => ?_); (try simp only [h, Ev]))
    | (refine Jp (fun h => ?_) (fun h => ?_) <;> simp only [h, if_true, if_false, Bool.false_eq_true])
noncomputable def H : Hd := ⟨[Sw], [Ow 21], .d, ⟨[], Tryz.gl, false⟩, [], Tryz.f228⟩
noncomputable def F (x : LX) := Ga x
theorem rn (x : LX) : H.u P_ x = F x := Eq.trans (b := Js x) (by kernel_rfl) (by rw [Ach]; rfl)
noncomputable def c : Con := ⟨H.p, H.r, F⟩
theorem ok : ConOk P_ Tryz.gl 228 c := Tryz.co H Tryz.func228 .nil (by kernel_rfl) rn
end F228
namespace F167
abbrev R_ := (LX × Int)
abbrev K_ := S → Option R_
noncomputable def H : Hd := ⟨[Si, Sw], [Ow 21, Si], (.seq .d (.seq .d (.seq .d (.cut [7] [] (.seq .d (.blk (.loop [0, 7, 8] [] (.seq .d (.cut [0, 7, 8] [] (.blk (.keep [0, 7, 8, 24, 25, 26, 27, 28, 29] true)) .d))))) .d)))), ⟨[(227, F227.c), (228, F228.c)], Tryz.gl, true⟩, [(229, (.seq .d (.cut [0, 2] [] .d (.seq .d (.blk (.loop [0, 3] [] .d))))))], Tryz.f167⟩
def t18 (b a g : Int) (h : LX) : S := ⟨[(0, .view true 0 [] (.int .i32) a ((Ae a b) - a)), (3, vi g)], [Aw 21 h], [[(0, vi b), (7, .own 0), (8, vi a), (24, .own 0), (25, vi a), (26, vi a), (27, vi b), (28, vi (Ae a b)), (29, .view true 0 [] (.int .i32) a ((Ae a b) - a))]]⟩
def z18 (kn12 : K_) : Nat → S → Option R_ := H.i P_ [r,r,r,l,r,d,(lp kn12),r,l,d,(call 6 229),r,r,r,d]
def t12 (b a : Int) (f : LX) : S := ⟨[(0, vi b), (7, .own 0), (8, vi a)], [Aw 21 f], []⟩
def z12 : Nat → S → Option R_ := H.i P_ [r,r,r,l,r,d]
def x22 (f : LX) : Option R_ := H.e P_ [r,r,r,r] ⟨[(7, .own 0)], [Aw 21 f], []⟩
def x20 (kn12 : K_) (b a : Int) (h : LX) : Option R_ := H.e P_ [r,r,r,l,r,d,(lp kn12),r,r] ⟨[(0, vi b), (7, .own 0), (8, vi a)], [Aw 21 h], []⟩
def x18 (kn12 : K_) (b a g : Int) (h : LX) : Option R_ := H.e P_ [r,r,r,l,r,d,(lp kn12),r,l,d,(call 6 229),r,r,r,d] (t18 b a g h)
def x17 (kn12 : K_) (b a : Int) (k : LX) : Option R_ := H.e P_ [r,r,r,l,r,d,(lp kn12),r,l,d,(call 6 229),r,r] ⟨[(0, .view true 0 [] (.int .i32) a ((Ae a b) - a)), (2, vi (Al ((Ae a b) - a) (1 : Int)))], [Aw 21 k], [[(0, vi b), (7, .own 0), (8, vi a), (24, .own 0), (25, vi a), (26, vi a), (27, vi b), (28, vi (Ae a b)), (29, .view true 0 [] (.int .i32) a ((Ae a b) - a))]]⟩
def x12 (b a : Int) (f : LX) : Option R_ := H.e P_ [r,r,r,l,r,d] (t12 b a f)
theorem e22 : x22 = Atg := by kernel_rfl
theorem e20 (kn12 : K_) (b : Int) : x20 kn12 b = Am8 (fun a f => kn12 (t12 b a f)) b := by kernel_rfl
theorem i18 (kn12 : K_) (b a : Int) : ∀ (q : Nat) (g : Int) (h : LX), z18 kn12 q (t18 b a g h) = Xh (fun a f => kn12 (t12 b a f)) b a q g h :=
 ind (fun _ _ => by kernel_rfl) fun q ih g h => Eq.trans (b := Agy (x20 kn12 b) (fun g h => (z18 kn12 q) (t18 b a g h)) b a g h) (by kernel_rfl) (by simp only [e20, ih] <;> rfl)
theorem e18 (kn12 : K_) (b : Int) : x18 kn12 b = Am7 (fun a f => kn12 (t12 b a f)) b := by funext a g h; exact Eq.trans (by kernel_rfl) ((i18 kn12 b a Bk g h).trans (by rw [Aj]; rfl))
theorem e17 (kn12 : K_) (b : Int) : x17 kn12 b = Ag0 (fun a f => kn12 (t12 b a f)) b := Eq.trans (b := Ang (x18 kn12 b) b) (by kernel_rfl) (by simp only [e18] <;> rfl)
theorem i12 (b : Int) : ∀ (q : Nat) (a : Int) (f : LX), z12 q (t12 b a f) = Rp b q a f :=
 ind (fun _ _ => by kernel_rfl) fun q ih a f => Eq.trans (b := Anh (x17 (z12 q) b) x22 b a f) (by kernel_rfl) (by simp only [e17, e22, ih] <;> rfl)
theorem e12 : x12 = Amp := by funext b a f; exact Eq.trans (by kernel_rfl) ((i12 b Bk a f).trans (by rw [Aj]; rfl))
noncomputable def F (x : Int × LX) := Aso x.1 x.2
theorem rn (x : Int × LX) : H.u P_ x = F x := Eq.trans (b := Ao8 x12 x.1 x.2) (by kernel_rfl) (by simp only [e12] <;> rfl)
noncomputable def c : Con := ⟨H.p, H.r, F⟩
theorem ok : ConOk P_ Tryz.gl 167 c := Tryz.cr H Tryz.func167 (.cons F227.ok (.cons F228.ok .nil)) (AnsOk.cons Tryz.ent229 AnsOk.nil) (by kernel_rfl) rn
end F167
namespace F168
abbrev R_ := Int
noncomputable def H : Hd := ⟨[Si, Sw], [Si], (.seq .d (.seq .d (.seq .d (.seq .d (.cut [] [] (.seq .d (.blk (.loop [5, 6, 22, 23, 24] [] .d))) .d))))), ⟨[(156, F156.c)], Tryz.gl, false⟩, [], Tryz.f168⟩
def t4 (b f : Int32) (a : LX) (g : Int) : S := ⟨[(5, vx b), (6, vx f), (22, vw a), (23, vi (Ac a)), (24, vi g)], [], []⟩
def z4 : Nat → S → Option R_ := H.i P_ [r,r,r,r,l,r,d]
def x6 : Option R_ := H.e P_ [r,r,r,r,r] ⟨[], [], []⟩
def x4 (b f : Int32) (a : LX) (g : Int) : Option R_ := H.e P_ [r,r,r,r,l,r,d] (t4 b f a g)
theorem e6 : x6 = Aoa := by kernel_rfl
theorem i4 (b f : Int32) (a : LX) : ∀ (q : Nat) (g : Int), z4 q (t4 b f a g) = Pu b f a q g :=
 ind (fun _ => by kernel_rfl) fun q ih g => Eq.trans (b := Abj x6 (fun g => (z4 q) (t4 b f a g)) b f a g) (by kernel_rfl) (by simp only [e6, ih] <;> rfl)
theorem e4 : x4 = Apj := by funext b f a g; exact Eq.trans (by kernel_rfl) ((i4 b f a Bk g).trans (by rw [Aj]; rfl))
noncomputable def F (x : Int × LX) := Ae3 x.1 x.2
theorem rn (x : Int × LX) : H.u P_ x = F x := Eq.trans (b := Ahu x4 x.1 x.2) (by kernel_rfl) (by simp only [e4] <;> rfl)
noncomputable def c : Con := ⟨H.p, H.r, F⟩
theorem ok : ConOk P_ Tryz.gl 168 c := Tryz.co H Tryz.func168 (.cons F156.ok .nil) (by kernel_rfl) rn
end F168
namespace F109
def Wk (j16 : Int → Int32 → Int → (List (Int × Int32 × (Int × LX × LX × Unit) × Unit)) → LX → Int → Int32 → Int → LX → LX → Option (LX × Int)) (j18 : Int → Int → LX → Option (LX × Int)) (f : LU) (a b g : Int) (h : List (Int × Int32 × (Int × LX × LX × Unit) × Unit)) (k : LX) : Option (LX × Int) :=
if (Cu g (Ac f)) then
(getI f g).bind fun ag =>
(Vd (Ck a 0)).bind fun _ =>
(getI h (Kf g a)).bind fun _ =>
both (
(getI h (Kf g a)).bind fun m =>
both (
(Xi ag).bind fun ae =>
bo (
(Ju m.1 m.2.1 m.2.2.1.1 m.2.2.1.2.1 m.2.2.1.2.2.1 ae).bind fun (w, y, v, aa, ab, ac, u) =>
j16 g w u h k y v aa ab ac)) [
(Xi ag).bind fun ae =>
(Ju m.1 m.2.1 m.2.2.1.1 m.2.2.1.2.1 m.2.2.1.2.2.1 ae).bind fun (w, y, v, aa, ab, ac, u) =>
j16 g w u h k y v aa ab ac]) [
(Xi ag).bind fun af =>
both (
(getI h (Kf g a)).bind fun ad =>
bo (
(Ju ad.1 ad.2.1 ad.2.2.1.1 ad.2.2.1.2.1 ad.2.2.1.2.2.1 af).bind fun (w, y, v, aa, ab, ac, u) =>
j16 g w u h k y v aa ab ac)) [
(getI h (Kf g a)).bind fun ad =>
(Ju ad.1 ad.2.1 ad.2.2.1.1 ad.2.2.1.2.1 ad.2.2.1.2.2.1 af).bind fun (w, y, v, aa, ab, ac, u) =>
j16 g w u h k y v aa ab ac],
both (
(getI h (Kf g a)).bind fun m =>
(Xi ag).bind fun ae =>
(Ju m.1 m.2.1 m.2.2.1.1 m.2.2.1.2.1 m.2.2.1.2.2.1 ae).bind fun (w, y, v, aa, ab, ac, u) =>
j16 g w u h k y v aa ab ac) [
(Xi ag).bind fun af =>
(getI h (Kf g a)).bind fun ad =>
(Ju ad.1 ad.2.1 ad.2.2.1.1 ad.2.2.1.2.1 ad.2.2.1.2.2.1 af).bind fun (w, y, v, aa, ab, ac, u) =>
j16 g w u h k y v aa ab ac]]
else
j18 a b k
theorem Alr : @Wk = @Jz := by
  unfold Wk Jz
  repeat (refine funext fun _ => ?_)
  repeat' first
    | with_reducible rfl
    | with_reducible refine Nl ?_ ?_
    | with_reducible refine Mw ?_ ?_ ?_
    | with_reducible refine Od ?_ ?_ ?_ ?_
    | ((with_reducible refine Vb ?_ ?_); focus (intro h; first | (subst h; rfl) | (simp only [h]; rfl) | (simp [Iy, Ac, h]; done)))
    | with_reducible refine Up fun x => ?_
    | with_reducible refine Aav (fun _ => ?_) (fun _ => ?_)
    | (refine Hb (fun h => by simp only [h, Uq, Ev, El, ite_self]) (fun x h => ?_); (try simp only [h, Ev]))
    | (refine Jp (fun h => ?_) (fun h => ?_) <;> simp only [h, if_true, if_false, Bool.false_eq_true])
abbrev R_ := (LX × Int)
abbrev K_ := S → Option R_
noncomputable def H : Hd := ⟨[.agg [Si, Si], .lf (.vec 16 (.int .i32)) none, Sv], [Ow 21, Si], (.seq .d (.seq .d (.cut [2, 3, 8] [] (.seq .d (.blk (.loop [2, 3, 4, 8, 20] [] .d))) (.seq .d (.cut [3, 10] [] (.seq .d (.blk (.loop [3, 8, 10, 33, 34, 35] [⟨10, [], .own 21 (.int .i32)⟩] (.seq .d (.seq .d (.seq (.blk (.seq .d (.seq .d (.cut [3, 8, 10, 13, 14, 15, 16, 33, 34, 35] [] (.mode false) .d)))) .d)))))) .d))))), ⟨[(164, F164.c), (165, F165.c), (166, F166.c), (167, F167.c), (168, F168.c)], Tryz.gl, false⟩, [], Tryz.f109⟩
def t13 (f : LU) (a b g : Int) (h : List (Int × Int32 × (Int × LX × LX × Unit) × Unit)) (k : LX) : S := ⟨[(3, .ptr 0 []), (8, .ptr 1 []), (10, .own 2), (33, vv f), (34, vi (Ac f)), (35, vi g)], [.box 109 (.agg [vi a, vi b]), .box 235 (.val (.vec 6 (.cons (.int .i64) (.cons (.int .i32) (.cons (.cons (.int .i64) (.cons (.vec 16 (.int .i32)) (.cons (.vec 16 (.int .i32)) .nil))) .nil)))) h), Aw 21 k], []⟩
def z13 : Nat → S → Option R_ := H.i P_ [r,r,r,r,l,r,d]
def t10 (f : LU) (a b : Int) (o : LX) (p : Int) (n : List (Int × Int32 × (Int × LX × LX × Unit) × Unit)) : S := ⟨[(2, vv f), (3, .ptr 0 []), (4, .ptr 1 []), (8, .ptr 2 []), (20, vi p)], [.box 109 (.agg [vi a, vi b]), .box 110 (.val (.vec 16 (.int .i32)) o), .box 235 (.val (.vec 6 (.cons (.int .i64) (.cons (.int .i32) (.cons (.cons (.int .i64) (.cons (.vec 16 (.int .i32)) (.cons (.vec 16 (.int .i32)) .nil))) .nil)))) n)], []⟩
def z10 : Nat → S → Option R_ := H.i P_ [r,r,l,r,d]
def x18 (a b : Int) (k : LX) : Option R_ := H.e P_ [r,r,r,r,r] ⟨[(3, .ptr 0 []), (10, .own 1)], [.box 109 (.agg [vi a, vi b]), Aw 21 k], []⟩
def x16 (kn13 : K_) (a : Int) (f : LU) (b g : Int) (w : Int32) (u : Int) (h : List (Int × Int32 × (Int × LX × LX × Unit) × Unit)) (k : LX) (y : Int) (v : Int32) (aa : Int) (ab ac : LX) : Option R_ := H.e P_ [r,r,r,r,l,r,d,(lp kn13),r,r,l,d,r,r,r] ⟨[(3, .ptr 0 []), (8, .ptr 1 []), (10, .own 2), (13, .ptr 1 [.idx (Kf g a) 35]), (14, vx w), (15, .ptr 3 []), (16, vi u), (33, vv f), (34, vi (Ac f)), (35, vi g)], [.box 109 (.agg [vi a, vi b]), .box 235 (.val (.vec 6 (.cons (.int .i64) (.cons (.int .i32) (.cons (.cons (.int .i64) (.cons (.vec 16 (.int .i32)) (.cons (.vec 16 (.int .i32)) .nil))) .nil)))) h), Aw 21 k, .box 234 (.agg [vi y, vx v, .agg [vi aa, .val (.vec 16 (.int .i32)) ab, .val (.vec 16 (.int .i32)) ac]])], []⟩
def x13 (f : LU) (a b g : Int) (h : List (Int × Int32 × (Int × LX × LX × Unit) × Unit)) (k : LX) : Option R_ := H.e P_ [r,r,r,r,l,r,d] (t13 f a b g h k)
def x12 (f : LU) (a b : Int) (n : List (Int × Int32 × (Int × LX × LX × Unit) × Unit)) : Option R_ := H.e P_ [r,r,r] ⟨[(2, vv f), (3, .ptr 0 []), (8, .ptr 1 [])], [.box 109 (.agg [vi a, vi b]), .box 235 (.val (.vec 6 (.cons (.int .i64) (.cons (.int .i32) (.cons (.cons (.int .i64) (.cons (.vec 16 (.int .i32)) (.cons (.vec 16 (.int .i32)) .nil))) .nil)))) n)], []⟩
def x10 (f : LU) (a b : Int) (o : LX) (p : Int) (n : List (Int × Int32 × (Int × LX × LX × Unit) × Unit)) : Option R_ := H.e P_ [r,r,l,r,d] (t10 f a b o p n)
theorem e18 : x18 = Jy := by kernel_rfl
theorem e16 (kn13 : K_) (f : LU) (a b : Int) : x16 kn13 a f b = Xn (fun g h k => kn13 (t13 f a b g h k)) a f b := by kernel_rfl
theorem i13 (f : LU) (a b : Int) : ∀ (q : Nat) (g : Int) (h : List (Int × Int32 × (Int × LX × LX × Unit) × Unit)) (k : LX), z13 q (t13 f a b g h k) = Hk f a b q g h k :=
 ind (fun _ _ _ => by kernel_rfl) fun q ih g h k => Eq.trans (b := Wk (x16 (z13 q) a f b) x18 f a b g h k) (by kernel_rfl) (by rw [Alr]; simp only [e16, e18, ih] <;> rfl)
theorem e13 : x13 = Agc := by funext f a b g h k; exact Eq.trans (by kernel_rfl) ((i13 f a b Bk g h k).trans (by rw [Aj]; rfl))
theorem e12 : x12 = Xq := Eq.trans (b := Agf x13) (by kernel_rfl) (by simp only [e13] <;> rfl)
theorem i10 (f : LU) (a b : Int) (o : LX) : ∀ (q : Nat) (p : Int) (n : List (Int × Int32 × (Int × LX × LX × Unit) × Unit)), z10 q (t10 f a b o p n) = Xs f a b o q p n :=
 ind (fun _ _ => by kernel_rfl) fun q ih p n => Eq.trans (b := Agn x12 (fun p n => (z10 q) (t10 f a b o p n)) f a b o p n) (by kernel_rfl) (by simp only [e12, ih] <;> rfl)
theorem e10 : x10 = Pe := by funext f a b o p n; exact Eq.trans (by kernel_rfl) ((i10 f a b o Bk p n).trans (by rw [Aj]; rfl))
noncomputable def F (x : Int × Int × LX × LU) := Sy x.1 x.2.1 x.2.2.1 x.2.2.2
theorem rn (x : Int × Int × LX × LU) : H.u P_ x = F x := Eq.trans (b := Zr x10 x.1 x.2.1 x.2.2.1 x.2.2.2) (by kernel_rfl) (by simp only [e10] <;> rfl)
noncomputable def c : Con := ⟨H.p, H.r, F⟩
theorem ok : ConOk P_ Tryz.gl 109 c := Tryz.co H Tryz.func109 (.cons F164.ok (.cons F165.ok (.cons F166.ok (.cons F167.ok (.cons F168.ok .nil))))) (by kernel_rfl) rn
end F109
namespace F64
noncomputable def H : Hd := ⟨[.agg [Si, Si], .lf (.vec 16 (.int .i32)) none, Si, Sb], [Ow 21, Si], .d, ⟨[(104, F104.c), (105, F105.c), (106, F106.c), (107, F107.c), (108, F108.c), (109, F109.c)], Tryz.Avu, false⟩, [], Tryz.f64⟩
noncomputable def F (x : Int × Int × LX × Int × LB) := deframe_Decode x.1 x.2.1 x.2.2.1 x.2.2.2.1 x.2.2.2.2
theorem rn (x : Int × Int × LX × Int × LB) : H.u P_ x = F x := by kernel_rfl
noncomputable def c : Con := ⟨H.p, H.r, F⟩
theorem ok : ConOk P_ Tryz.Avu 64 c := Tryz.co H Tryz.func64 (.cons (F104.ok.mono (.cons _ .slnil)) (.cons (F105.ok.mono (.cons _ .slnil)) (.cons (F106.ok.mono (.cons _ .slnil)) (.cons F107.ok (.cons (F108.ok.mono (.cons _ .slnil)) (.cons (F109.ok.mono (.cons _ .slnil)) .nil)))))) (by kernel_rfl) rn
end F64
namespace F111
abbrev R_ := (Int × Int)
noncomputable def H : Hd := ⟨[Sb], [Si, Si], (.seq .d (.seq .d (.cut [0, 4] [] .d .d))), ⟨[(150, F150.c), (169, F169.c), (170, F170.c), (171, F171.c)], Tryz.gl, false⟩, [], Tryz.f111⟩
def x2 (a : LB) : Option R_ := H.e P_ [r,r,r] ⟨[(0, vb a), (4, vi (Al (Ac a) (32 : Int)))], [], []⟩
theorem e2 : x2 = Apc := by kernel_rfl
noncomputable def F (x : LB) := Atc x
theorem rn (x : LB) : H.u P_ x = F x := Eq.trans (b := Aph x2 x) (by kernel_rfl) (by simp only [e2] <;> rfl)
noncomputable def c : Con := ⟨H.p, H.r, F⟩
theorem ok : ConOk P_ Tryz.gl 111 c := Tryz.co H Tryz.func111 (.cons F150.ok (.cons F169.ok (.cons F170.ok (.cons F171.ok .nil)))) (by kernel_rfl) rn
end F111
namespace F65
abbrev R_ := (Int × Int)
abbrev K_ := S → Option R_
noncomputable def H : Hd := ⟨[Sb], [Si, Si], (.seq .d (.seq .d (.seq .d (.seq .d (.cut [5] [] (.blk (.loop [1, 4, 5] [] (.seq .d (.cut [1, 4, 5] [] (.blk (.cut [1, 4, 5, 6] [] (.keep [1, 4, 5, 6, 16, 17] true) .d)) .d)))) .d))))), ⟨[(111, F111.c)], Tryz.gl, false⟩, [(110, .d)], Tryz.f65⟩
def t8 (a : Int) (b : LB) : S := ⟨[(1, .ptr 0 []), (4, .fn 110 [.ptr 0 []]), (5, vi a)], [.box 22 (vb b)], []⟩
def z8 : Nat → S → Option R_ := H.i P_ [r,r,r,r,l,d]
def x14 (a : Int) : Option R_ := H.e P_ [r,r,r,r,r] ⟨[(5, vi a)], [], []⟩
def x12 (kn8 : K_) (a : Int) (g : LB) : Option R_ := H.e P_ [r,r,r,r,l,d,(lp kn8),r,r] ⟨[(1, .ptr 0 []), (4, .fn 110 [.ptr 0 []]), (5, vi a)], [.box 22 (vb g)], []⟩
def x11 (kn8 : K_) (a f : Int) (b : LB) : Option R_ := H.e P_ [r,r,r,r,l,d,(lp kn8),r,l,d,r] ⟨[(1, .ptr 0 []), (4, .fn 110 [.ptr 0 []]), (5, vi a), (6, vi f)], [.box 22 (vb b)], []⟩
def x8 (a : Int) (b : LB) : Option R_ := H.e P_ [r,r,r,r,l,d] (t8 a b)
theorem e14 : x14 = Ale := by kernel_rfl
theorem e12 (kn8 : K_) : x12 kn8 = Adh (fun a b => kn8 (t8 a b)) := by kernel_rfl
theorem e11 (kn8 : K_) : x11 kn8 = Adx (fun a b => kn8 (t8 a b)) := Eq.trans (b := Adq (x12 kn8)) (by kernel_rfl) (by simp only [e12] <;> rfl)
theorem i8 : ∀ (q : Nat) (a : Int) (b : LB), z8 q (t8 a b) = Sp q a b :=
 ind (fun _ _ => by kernel_rfl) fun q ih a b => Eq.trans (b := Afw (x11 (z8 q)) x14 a b) (by kernel_rfl) (by simp only [e11, e14, ih] <;> rfl)
theorem e8 : x8 = Ann := by funext a b; exact Eq.trans (by kernel_rfl) ((i8 Bk a b).trans (by rw [Aj]; rfl))
noncomputable def F (x : LB) := Agq x
theorem rn (x : LB) : H.u P_ x = F x := Eq.trans (b := Afy x8 x) (by kernel_rfl) (by simp only [e8] <;> rfl)
noncomputable def c : Con := ⟨H.p, H.r, F⟩
theorem ok : ConOk P_ Tryz.gl 65 c := Tryz.cr H Tryz.func65 (.cons F111.ok .nil) (AnsOk.cons Tryz.ent110 AnsOk.nil) (by kernel_rfl) rn
end F65
namespace F26
abbrev R_ := (Int × Int × Int × LX × Int)
abbrev K_ := S → Option R_
noncomputable def H : Hd := ⟨[Sb, Ss], [.agg [Si, Si, Si, Ow 21], Si], (.seq .d (.seq .d (.seq .d (.seq .d (.cut [0, 1, 4, 6] [] (.cut [0, 1, 4, 6, 8] [] (.keep [0, 1, 4, 6, 8, 34, 35, 36] true) .d) (.cut [0, 1, 4, 6, 7, 9] [⟨9, [], .own 3 (.int .i64)⟩] (.keep [0, 1, 4, 6, 7, 9, 41, 42, 43, 44, 45] true) (.seq .d (.seq .d (.seq .d (.seq .d (.seq .d (.cut [0, 4, 10, 14] [] (.seq .d (.blk (.loop [0, 4, 6, 10, 11, 12, 14, 75, 76, 77] [⟨10, [3], .own 21 (.int .i32)⟩] (.seq .d (.seq .d (.seq (.blk (.seq .d (.seq .d (.cut [0, 4, 6, 10, 11, 12, 14, 16, 17, 18, 75, 76, 77] [] .d .d)))) .d)))))) .d)))))))))))), ⟨[(60, F60.c), (63, F63.c), (64, F64.c), (65, F65.c), (96, F96.c), (97, F97.c)], Tryz.gl_2_6, false⟩, [(61, .d), (62, (.seq .d (.seq .d (.cut [0, 6, 7] [] .d (.seq .d (.seq .d (.seq .d (.cut [6] [] (.seq .d (.blk (.loop [0, 6, 60, 61, 62] [] .d))) .d))))))))], Tryz.f26⟩
def t21 (a : LB) (w : LI) (m b f h o p n g y ab : Int) (ac : LX) (k : LI) (aa ae : Int) (ad : LX) : S := ⟨[(0, vb a), (4, .ptr 0 []), (6, .ptr 1 []), (10, .ptr 2 []), (11, .ptr 3 []), (12, .ptr 4 []), (14, vi aa), (75, .own 5), (76, vi (Ac w)), (77, vi ae)], [.box 60 (.agg [vi 0, vi 0, vi 0, .nils]), .box 103 (.agg [.agg [vi m, vi b, vi f, vi h, vi o], .agg [vi p, vi n, vi g, vi y, vi ab], .own 6]), .box 60 (.agg [vi b, vi f, vi h, .own 7]), .box 109 (.agg [vi b, vi f]), .box 110 (.val (.vec 16 (.int .i32)) ac), Ai 3 w, Ai 3 k, Aw 21 ad], []⟩
def z21 : Nat → S → Option R_ := H.i P_ [r,r,r,r,r,r,r,r,r,r,r,l,r,d]
def t17 (v : LI) (a u : LB) (m b f h o p n g : Int) (k : LI) (ag af : Int) : S := ⟨[(0, .ptr 0 []), (6, .own 1), (60, .own 1), (61, vi (Ac v)), (62, vi ag)], [.box 103 (.agg [.agg [vi m, vi b, vi f, vi h, vi o], .agg [vi p, vi n, vi g, vi (Ae (Ae g (Be (4 : Int) (Ac v))) (4 : Int)), vi af], .own 3]), Ai 3 v, .box 60 (.agg [vi 0, vi 0, vi 0, .nils]), Ai 3 k], [[(0, vb a), (1, vs u), (4, .ptr 2 []), (6, .ptr 0 []), (42, vb a)]]⟩
def z17 : Nat → S → Option R_ := H.i P_ [r,r,r,r,r,l,(call 1 62),r,r,r,r,r,r,l,r,d]
def x26 (a : LB) (aa b f h : Int) (ad : LX) : Option R_ := H.e P_ [r,r,r,r,r,r,r,r,r,r,r,r] ⟨[(0, vb a), (4, .ptr 0 []), (10, .ptr 1 []), (14, vi aa)], [.box 60 (.agg [vi 0, vi 0, vi 0, .nils]), .box 60 (.agg [vi b, vi f, vi h, .own 2]), Aw 21 ad], []⟩
def x24 (kn21 : K_) (a : LB) (w : LI) (m b f h o p n g y ab : Int) (ac : LX) (k : LI) (aa aj ak ae : Int) (am ad : LX) : Option R_ := H.e P_ [r,r,r,r,r,r,r,r,r,r,r,l,r,d,(lp kn21),r,r,l,d,r,r,r] ⟨[(0, vb a), (4, .ptr 0 []), (6, .ptr 1 []), (10, .ptr 2 []), (11, .ptr 3 []), (12, .ptr 4 []), (14, vi aa), (16, vi aj), (17, .own 5), (18, vi ak), (75, .own 6), (76, vi (Ac w)), (77, vi ae)], [.box 60 (.agg [vi 0, vi 0, vi 0, .nils]), .box 103 (.agg [.agg [vi m, vi b, vi f, vi h, vi o], .agg [vi p, vi n, vi g, vi y, vi ab], .own 7]), .box 60 (.agg [vi b, vi f, vi h, .own 8]), .box 109 (.agg [vi b, vi f]), .box 110 (.val (.vec 16 (.int .i32)) ac), Aw 21 am, Ai 3 w, Ai 3 k, Aw 21 ad], []⟩
def x21 (a : LB) (w : LI) (m b f h o p n g y ab : Int) (ac : LX) (k : LI) (aa ae : Int) (ad : LX) : Option R_ := H.e P_ [r,r,r,r,r,r,r,r,r,r,r,l,r,d] (t21 a w m b f h o p n g y ab ac k aa ae ad)
def x20 (a u : LB) (m b f h o p n g : Int) (k : LI) (an y ab : Int) (w : LI) : Option R_ := H.e P_ [r,r,r,r,r,r] ⟨[(0, vb a), (1, vs u), (4, .ptr 0 []), (6, .ptr 1 []), (7, vi an), (9, .own 2)], [.box 60 (.agg [vi 0, vi 0, vi 0, .nils]), .box 103 (.agg [.agg [vi m, vi b, vi f, vi h, vi o], .agg [vi p, vi n, vi g, vi y, vi ab], .own 3]), Ai 3 w, Ai 3 k], []⟩
def x19 (a u : LB) (v : LI) (m b f h o p n g af : Int) (k : LI) : Option R_ := H.e P_ [r,r,r,r,r,l,(call 1 62),r,r,r,r,r,r,r] ⟨[(6, .own 0)], [Ai 3 v, .box 60 (.agg [vi 0, vi 0, vi 0, .nils]), .box 103 (.agg [.agg [vi m, vi b, vi f, vi h, vi o], .agg [vi p, vi n, vi g, vi (Ae (Ae g (Be (4 : Int) (Ac v))) (4 : Int)), vi af], .own 3]), Ai 3 k], [[(0, vb a), (1, vs u), (4, .ptr 1 []), (6, .ptr 2 []), (42, vb a)]]⟩
def x17 (v : LI) (a u : LB) (m b f h o p n g : Int) (k : LI) (ag af : Int) : Option R_ := H.e P_ [r,r,r,r,r,l,(call 1 62),r,r,r,r,r,r,l,r,d] (t17 v a u m b f h o p n g k ag af)
def x16 (al : Int) (a u : LB) (m b f h o p n g ah ai : Int) (v k : LI) : Option R_ := H.e P_ [r,r,r,r,r,l,(call 1 62),r,r,r] ⟨[(0, .ptr 0 []), (6, .own 1), (7, vi al)], [.box 103 (.agg [.agg [vi m, vi b, vi f, vi h, vi o], .agg [vi p, vi n, vi g, vi ah, vi ai], .own 3]), Ai 3 v, .box 60 (.agg [vi 0, vi 0, vi 0, .nils]), Ai 3 k], [[(0, vb a), (1, vs u), (4, .ptr 2 []), (6, .ptr 0 []), (42, vb a)]]⟩
def x15 (a u : LB) (m b f h o p n g ah ai : Int) (k : LI) : Option R_ := H.e P_ [r,r,r,r,r] ⟨[(0, vb a), (1, vs u), (4, .ptr 0 []), (6, .ptr 1 [])], [.box 60 (.agg [vi 0, vi 0, vi 0, .nils]), .box 103 (.agg [.agg [vi m, vi b, vi f, vi h, vi o], .agg [vi p, vi n, vi g, vi ah, vi ai], .own 2]), Ai 3 k], []⟩
def x14 (a u : LB) (m b f h o p n g ah ai : Int) (k : LI) (ao : Int) : Option R_ := H.e P_ [r,r,r,r,l,r] ⟨[(0, vb a), (1, vs u), (4, .ptr 0 []), (6, .ptr 1 []), (8, vi ao)], [.box 60 (.agg [vi 0, vi 0, vi 0, .nils]), .box 103 (.agg [.agg [vi m, vi b, vi f, vi h, vi o], .agg [vi p, vi n, vi g, vi ah, vi ai], .own 2]), Ai 3 k], []⟩
theorem e26 : x26 = Ahw := by kernel_rfl
theorem e24 (kn21 : K_) (a : LB) (w : LI) (m b f h o p n g y ab : Int) (ac : LX) (k : LI) : x24 kn21 a w m b f h o p n g y ab ac k = Ah3 (fun aa ae ad => kn21 (t21 a w m b f h o p n g y ab ac k aa ae ad)) a w m b f h o p n g y ab ac k := by kernel_rfl
theorem i21 (a : LB) (w : LI) (m b f h o p n g y ab : Int) (ac : LX) (k : LI) : ∀ (q : Nat) (aa ae : Int) (ad : LX), z21 q (t21 a w m b f h o p n g y ab ac k aa ae ad) = Qd a w m b f h o p n g y ab ac k q aa ae ad :=
 ind (fun _ _ _ => by kernel_rfl) fun q ih aa ae ad => Eq.trans (b := Ab9 (x24 (z21 q) a w m b f h o p n g y ab ac k) x26 a w m b f h o p n g y ab ac k aa ae ad) (by kernel_rfl) (by simp only [e24, e26, ih] <;> rfl)
theorem e21 : x21 = Aoh := by funext a w m b f h o p n g y ab ac k aa ae ad; exact Eq.trans (by kernel_rfl) ((i21 a w m b f h o p n g y ab ac k Bk aa ae ad).trans (by rw [Aj]; rfl))
theorem e20 : x20 = Kx := Eq.trans (b := Aa7 x21) (by kernel_rfl) (by simp only [e21] <;> rfl)
theorem e19 : x19 = Abw := Eq.trans (b := Aij x20) (by kernel_rfl) (by simp only [e20] <;> rfl)
theorem i17 (v : LI) (a u : LB) (m b f h o p n g : Int) (k : LI) : ∀ (q : Nat) (ag af : Int), z17 q (t17 v a u m b f h o p n g k ag af) = Qq v a u m b f h o p n g k q ag af :=
 ind (fun _ _ => by kernel_rfl) fun q ih ag af => Eq.trans (b := Abn x19 (fun ag af => (z17 q) (t17 v a u m b f h o p n g k ag af)) v a u m b f h o p n g k ag af) (by kernel_rfl) (by simp only [e19, ih] <;> rfl)
theorem e17 : x17 = Ah0 := by funext v a u m b f h o p n g k ag af; exact Eq.trans (by kernel_rfl) ((i17 v a u m b f h o p n g k Bk ag af).trans (by rw [Aj]; rfl))
theorem e16 : x16 = Abf := Eq.trans (b := Aay x20 x17) (by kernel_rfl) (by simp only [e20, e17] <;> rfl)
theorem e15 : x15 = Wb := Eq.trans (b := Ahl x20 x16) (by kernel_rfl) (by simp only [e20, e16] <;> rfl)
theorem e14 : x14 = Pv := Eq.trans (b := Abl x15) (by kernel_rfl) (by simp only [e15] <;> rfl)
noncomputable def F (x : LB × LB) := Ky x.1 x.2
theorem rn (x : LB × LB) : H.u P_ x = F x := Eq.trans (b := Aec x14 x.1 x.2) (by kernel_rfl) (by simp only [e14] <;> rfl)
noncomputable def c : Con := ⟨H.p, H.r, F⟩
theorem ok : ConOk P_ Tryz.gl_2_6 26 c := Tryz.cr H Tryz.func26 (.cons (F60.ok.mono (.cons_cons _ (.cons _ .slnil))) (.cons (F63.ok.mono (.cons _ (.cons _ .slnil))) (.cons (F64.ok.mono (.cons _ (.cons_cons _ .slnil))) (.cons (F65.ok.mono (.cons _ (.cons _ .slnil))) (.cons (F96.ok.mono (.cons _ (.cons _ .slnil))) (.cons (F97.ok.mono (.cons _ (.cons _ .slnil))) .nil)))))) (AnsOk.cons Tryz.ent61 (AnsOk.cons Tryz.ent62 AnsOk.nil)) (by kernel_rfl) rn
end F26
namespace F31
noncomputable def H : Hd := ⟨[Sb, Ss], [Si], .d, ⟨[(26, F26.c)], Tryz.gl_2_6, false⟩, [], Tryz.f31⟩
noncomputable def F (x : LB × LB) := Aeq x.1 x.2
theorem rn (x : LB × LB) : H.u P_ x = F x := by kernel_rfl
noncomputable def c : Con := ⟨H.p, H.r, F⟩
theorem ok : ConOk P_ Tryz.gl_2_6 31 c := Tryz.co H Tryz.func31 (.cons F26.ok .nil) (by kernel_rfl) rn
end F31
namespace F48
abbrev R_ := (Int × Int × Int × Int × Int × Int × LI × Int)
noncomputable def H : Hd := ⟨[Sb, Ss], [.agg [.agg [Si, Si, Si, Si, Si], Si, Ol 3], Si], (.seq .d (.seq .d (.seq .d (.seq .d (.seq .d (.seq .d (.seq .d (.seq .d (.seq .d (.cut [0, 4, 6, 8] [] .d .d)))))))))), ⟨[(76, F76.c), (92, Yd), (93, F93.c), (96, F96.c), (97, F97.c)], Tryz.Az7, false⟩, [], Tryz.f48⟩
def x2 (a : LB) (b f g h k n : Int) : Option R_ := H.e P_ [r,r,r,r,r,r,r,r,r,r] ⟨[(0, vb a), (4, .ptr 0 []), (6, vi n), (8, .ptr 1 [])], [.box 82 (.agg [.agg [vi 0, vi 0, vi 0, vi 0, vi 0], vi 0, .nils]), .box 24 (.agg [vi b, vi f, vi g, vi h, vi k])], []⟩
theorem e2 : x2 = Lg := by kernel_rfl
noncomputable def F (x : LB × LB) := seekto_Open x.1 x.2
theorem rn (x : LB × LB) : H.u P_ x = F x := Eq.trans (b := Qk x2 x.1 x.2) (by kernel_rfl) (by simp only [e2] <;> rfl)
noncomputable def c : Con := ⟨H.p, H.r, F⟩
theorem ok : ConOk P_ Tryz.Az7 48 c := Tryz.co H Tryz.func48 (.cons (F76.ok.mono (.cons _ .slnil)) (.cons (Ah2.mono (.cons _ .slnil)) (.cons F93.ok (.cons (F96.ok.mono (.cons _ .slnil)) (.cons (F97.ok.mono (.cons _ .slnil)) .nil))))) (by kernel_rfl) rn
end F48
namespace F49
noncomputable def H : Hd := ⟨[Sb, Ss, Si], [Sc], .d, ⟨[(92, Yd), (93, F93.c)], Tryz.Az7, false⟩, [], Tryz.f49⟩
noncomputable def F (x : LB × LB × Int) := Xe x.1 x.2.1 x.2.2
theorem rn (x : LB × LB × Int) : H.u P_ x = F x := by kernel_rfl
noncomputable def c : Con := ⟨H.p, H.r, F⟩
theorem ok : ConOk P_ Tryz.Az7 49 c := Tryz.co H Tryz.func49 (.cons (Ah2.mono (.cons _ .slnil)) (.cons F93.ok .nil)) (by kernel_rfl) rn
end F49
namespace F151
abbrev R_ := (LI × Int)
abbrev K_ := S → Option R_
noncomputable def H : Hd := ⟨[Sl], [Ol 3, Si], (.seq .d (.seq .d (.seq .d (.seq .d (.seq .d (.cut [7] [] (.seq .d (.blk (.loop [6, 7, 17, 18, 19] [] (.seq .d (.seq .d (.cut [6, 7, 17, 18, 19] [] (.blk (.seq .d (.keep [6, 7, 9, 17, 18, 19, 23, 24, 25, 26, 27, 28] true))) .d)))))) .d)))))), ⟨[(78, F78.c)], Tryz.gl, false⟩, [(215, .d)], Tryz.f151⟩
def t6 (a : LI) (b g : Int) (f : LI) : S := ⟨[(6, .fn 215 [.ptr 0 []]), (7, .own 1), (17, vl a), (18, vi (Ac a)), (19, vi b)], [.box 3 (vi g), Ai 3 f], []⟩
def z6 : Nat → S → Option R_ := H.i P_ [r,r,r,r,r,l,r,d]
def x10 (f : LI) : Option R_ := H.e P_ [r,r,r,r,r,r] ⟨[(7, .own 0)], [Ai 3 f], []⟩
def x8 (kn6 : K_) (a : LI) (b g h : Int) (k : LI) : Option R_ := H.e P_ [r,r,r,r,r,l,r,d,(lp kn6),r,r,r] ⟨[(6, .fn 215 [.ptr 0 []]), (7, .own 1), (17, vl a), (18, vi (Ac a)), (19, vi b)], [.box 3 (vi (Ae g h)), Ai 3 k], []⟩
def x6 (a : LI) (b g : Int) (f : LI) : Option R_ := H.e P_ [r,r,r,r,r,l,r,d] (t6 a b g f)
theorem e10 : x10 = Ajg := by kernel_rfl
theorem e8 (kn6 : K_) (a : LI) : x8 kn6 a = Adj (fun b g f => kn6 (t6 a b g f)) a := by kernel_rfl
theorem i6 (a : LI) : ∀ (q : Nat) (b g : Int) (f : LI), z6 q (t6 a b g f) = Kv a q b g f :=
 ind (fun _ _ _ => by kernel_rfl) fun q ih b g f => Eq.trans (b := Wv (x8 (z6 q) a) x10 a b g f) (by kernel_rfl) (by simp only [e8, e10, ih] <;> rfl)
theorem e6 : x6 = Alm := by funext a b g f; exact Eq.trans (by kernel_rfl) ((i6 a Bk b g f).trans (by rw [Aj]; rfl))
noncomputable def F (x : LI) := Ad6 x
theorem rn (x : LI) : H.u P_ x = F x := Eq.trans (b := Adr x6 x) (by kernel_rfl) (by simp only [e6] <;> rfl)
noncomputable def c : Con := ⟨H.p, H.r, F⟩
theorem ok : ConOk P_ Tryz.gl 151 c := Tryz.cr H Tryz.func151 (.cons F78.ok .nil) (AnsOk.cons Tryz.ent215 AnsOk.nil) (by kernel_rfl) rn
end F151
namespace F125
abbrev R_ := (LB × Int)
abbrev K_ := S → Option R_
noncomputable def H : Hd := ⟨[Si, Sw], [Ob 5, Si], (.seq .d (.seq .d (.seq .d (.cut [7] [] (.seq .d (.blk (.loop [0, 7, 17, 18, 19] [⟨7, [], .own 5 (.int .u8)⟩] (.seq .d (.seq .d (.cut [0, 7, 17, 18, 19] [] (.blk (.seq .d (.cut [0, 7, 9, 17, 18, 19] [] .d (.seq .d (.blk (.loop [0, 7, 9, 17, 18, 19, 28, 29] [] .d)))))) .d)))))) .d)))), ⟨[(168, F168.c)], Tryz.gl, false⟩, [], Tryz.f125⟩
def t26 (b : Int) (a : LX) (k : Int32) (f m : Int) (h : LB) : S := ⟨[(0, vi b), (7, .own 0), (9, vx k), (17, vw a), (18, vi (Ac a)), (19, vi f), (28, vi (Df b (8 : Int))), (29, vi m)], [Ab 5 h], []⟩
def z26 (kn16 : K_) : Nat → S → Option R_ := H.i P_ [r,r,r,l,r,d,(lp kn16),r,r,l,d,r,r,r,d]
def t16 (b : Int) (a : LX) (f : Int) (g : LB) : S := ⟨[(0, vi b), (7, .own 0), (17, vw a), (18, vi (Ac a)), (19, vi f)], [Ab 5 g], []⟩
def z16 : Nat → S → Option R_ := H.i P_ [r,r,r,l,r,d]
def x30 (g : LB) : Option R_ := H.e P_ [r,r,r,r] ⟨[(7, .own 0)], [Ab 5 g], []⟩
def x28 (kn16 : K_) (b : Int) (a : LX) (f : Int) (h : LB) : Option R_ := H.e P_ [r,r,r,l,r,d,(lp kn16),r,r,r] ⟨[(0, vi b), (7, .own 0), (17, vw a), (18, vi (Ac a)), (19, vi f)], [Ab 5 h], []⟩
def x26 (kn16 : K_) (b : Int) (a : LX) (k : Int32) (f m : Int) (h : LB) : Option R_ := H.e P_ [r,r,r,l,r,d,(lp kn16),r,r,l,d,r,r,r,d] (t26 b a k f m h)
def x25 (kn16 : K_) (b : Int) (a : LX) (f : Int) (g : LB) (k : Int32) : Option R_ := H.e P_ [r,r,r,l,r,d,(lp kn16),r,r,l,d,r,r] ⟨[(0, vi b), (7, .own 0), (9, vx k), (17, vw a), (18, vi (Ac a)), (19, vi f)], [Ab 5 g], []⟩
def x16 (b : Int) (a : LX) (f : Int) (g : LB) : Option R_ := H.e P_ [r,r,r,l,r,d] (t16 b a f g)
theorem e30 : x30 = Anu := by kernel_rfl
theorem e28 (kn16 : K_) (b : Int) (a : LX) : x28 kn16 b a = Afn (fun f g => kn16 (t16 b a f g)) b a := by kernel_rfl
theorem i26 (kn16 : K_) (b : Int) (a : LX) (k : Int32) (f : Int) : ∀ (q : Nat) (m : Int) (h : LB), z26 kn16 q (t26 b a k f m h) = Hs (fun f g => kn16 (t16 b a f g)) b a k f q m h :=
 ind (fun _ _ => by kernel_rfl) fun q ih m h => Eq.trans (b := Zb (x28 kn16 b a) (fun m h => (z26 kn16 q) (t26 b a k f m h)) b a k f m h) (by kernel_rfl) (by simp only [e28, ih] <;> rfl)
theorem e26 (kn16 : K_) (b : Int) (a : LX) : x26 kn16 b a = Aft (fun f g => kn16 (t16 b a f g)) b a := by funext k f m h; exact Eq.trans (by kernel_rfl) ((i26 kn16 b a k f Bk m h).trans (by rw [Aj]; rfl))
theorem e25 (kn16 : K_) (b : Int) (a : LX) : x25 kn16 b a = Jv (fun f g => kn16 (t16 b a f g)) b a := Eq.trans (b := Afo (x26 kn16 b a) b a) (by kernel_rfl) (by simp only [e26] <;> rfl)
theorem i16 (b : Int) (a : LX) : ∀ (q : Nat) (f : Int) (g : LB), z16 q (t16 b a f g) = Ez b a q f g :=
 ind (fun _ _ => by kernel_rfl) fun q ih f g => Eq.trans (b := Yv (x25 (z16 q) b a) x30 b a f g) (by kernel_rfl) (by simp only [e25, e30, ih] <;> rfl)
theorem e16 : x16 = Ank := by funext b a f g; exact Eq.trans (by kernel_rfl) ((i16 b a Bk f g).trans (by rw [Aj]; rfl))
noncomputable def F (x : Int × LX) := width_Bytes x.1 x.2
theorem rn (x : Int × LX) : H.u P_ x = F x := Eq.trans (b := Ahq x16 x.1 x.2) (by kernel_rfl) (by simp only [e16] <;> rfl)
noncomputable def c : Con := ⟨H.p, H.r, F⟩
theorem ok : ConOk P_ Tryz.gl 125 c := Tryz.co H Tryz.func125 (.cons F168.ok .nil) (by kernel_rfl) rn
end F125
namespace F50
abbrev R_ := (LB × Int)
noncomputable def H : Hd := ⟨[Sb, Ss, Si], [Ob 5, Si], (.seq .d (.cut [2, 8, 9, 11] [] (.keep [0, 1, 2, 8, 9, 11, 12, 13, 14, 15, 16, 17, 18, 19] true) (.seq .d (.seq .d (.cut [6, 7] [⟨6, [], .own 5 (.int .u8)⟩] (.keep [2, 6, 7, 8, 30, 31, 32, 33, 34] true) .d))))), ⟨[(48, F48.c), (63, F63.c), (64, F64.c), (76, F76.c), (125, F125.c), (151, F151.c)], Tryz.gl_2_6, false⟩, [(98, .d), (152, (.seq .d (.cut [0, 3, 4, 5, 6, 10, 11] [] .d (.seq .d (.cut [4, 12, 13] [] .d .d)))))], Tryz.f50⟩
def x6 (a ac : Int) : Option R_ := H.e P_ [r,r] ⟨[(2, vi a), (8, .cst .nilFunc), (9, vi 0), (11, vi ac)], [], []⟩
def x10 (ad : Int) (ae : LB) : Option R_ := H.e P_ [r,r,r,r,r] ⟨[(6, .own 0), (7, vi ad)], [Ab 5 ae], []⟩
def x9 (w a h b : Int) (aa : LX) (n o p k : Int) (m : LB) (u : LX) (v f g : LI) : Option R_ := H.e P_ [r,r,r,r,l,(call 2 152),r,r,r,r] ⟨[(4, .ptr 0 []), (12, .own 1), (13, vi w)], [.box 109 (.agg [vi h, vi b]), Aw 21 aa, .box 82 (.agg [.agg [vi n, vi h, vi b, vi o, vi p], vi k, .own 7]), .box 25 (.own 8), .box 22 (vb m), .box 110 (.val (.vec 16 (.int .i32)) u), .box 25 (.own 9), Ai 3 v, Ai 3 f, Ai 3 g], [[(2, vi a), (8, .fn 152 [.ptr 2 [], .ptr 3 [], .ptr 4 [], .ptr 0 [], .ptr 5 [], .ptr 6 []]), (30, .fn 152 [.ptr 2 [], .ptr 3 [], .ptr 4 [], .ptr 0 [], .ptr 5 [], .ptr 6 []]), (31, vi a)]]⟩
def x8 (a k ab y : Int) (m : LB) (h b : Int) (u : LX) (n o p : Int) (g v f : LI) : Option R_ := H.e P_ [r,r,r,r,l,(call 2 152),r,r] ⟨[(0, vi a), (3, .ptr 0 []), (4, .ptr 1 []), (5, .ptr 2 []), (6, .ptr 3 []), (10, vi (Ae k ab)), (11, vi (Ae k y))], [.box 22 (vb m), .box 109 (.agg [vi h, vi b]), .box 110 (.val (.vec 16 (.int .i32)) u), .box 25 (.own 6), .box 82 (.agg [.agg [vi n, vi h, vi b, vi o, vi p], vi k, .own 7]), .box 25 (.own 8), Ai 3 g, Ai 3 v, Ai 3 f], [[(2, vi a), (8, .fn 152 [.ptr 4 [], .ptr 5 [], .ptr 0 [], .ptr 1 [], .ptr 2 [], .ptr 3 []]), (30, .fn 152 [.ptr 4 [], .ptr 5 [], .ptr 0 [], .ptr 1 [], .ptr 2 [], .ptr 3 []]), (31, vi a)]]⟩
def x7 (a : Int) (g : LI) (n h b o p k : Int) (m : LB) (u : LX) (v f : LI) : Option R_ := H.e P_ [r,r] ⟨[(2, vi a), (8, .fn 152 [.ptr 0 [], .ptr 1 [], .ptr 2 [], .ptr 3 [], .ptr 4 [], .ptr 5 []]), (9, vi (Ac g)), (11, vi 0)], [.box 82 (.agg [.agg [vi n, vi h, vi b, vi o, vi p], vi k, .own 6]), .box 25 (.own 7), .box 22 (vb m), .box 109 (.agg [vi h, vi b]), .box 110 (.val (.vec 16 (.int .i32)) u), .box 25 (.own 8), Ai 3 v, Ai 3 f, Ai 3 g], []⟩
theorem e6 : x6 = Anm := by kernel_rfl
theorem e10 : x10 = Adl := by kernel_rfl
theorem e9 : x9 = Af6 := Eq.trans (b := Af5 x10) (by kernel_rfl) (by simp only [e10] <;> rfl)
theorem e8 : x8 = Afr := Eq.trans (b := Afx x10 x9) (by kernel_rfl) (by simp only [e10, e9] <;> rfl)
theorem e7 : x7 = Ta := Eq.trans (b := Afl x8) (by kernel_rfl) (by simp only [e8] <;> rfl)
noncomputable def F (x : LB × LB × Int) := Aat x.1 x.2.1 x.2.2
theorem rn (x : LB × LB × Int) : H.u P_ x = F x := Eq.trans (b := Afv x6 x7 x.1 x.2.1 x.2.2) (by kernel_rfl) (by simp only [e6, e7] <;> rfl)
noncomputable def c : Con := ⟨H.p, H.r, F⟩
theorem ok : ConOk P_ Tryz.gl_2_6 50 c := Tryz.cr H Tryz.func50 (.cons (F48.ok.mono (.cons_cons _ (.cons _ .slnil))) (.cons (F63.ok.mono (.cons _ (.cons _ .slnil))) (.cons (F64.ok.mono (.cons _ (.cons_cons _ .slnil))) (.cons (F76.ok.mono (.cons _ (.cons _ .slnil))) (.cons (F125.ok.mono (.cons _ (.cons _ .slnil))) (.cons (F151.ok.mono (.cons _ (.cons _ .slnil))) .nil)))))) (AnsOk.cons Tryz.ent98 (AnsOk.cons Tryz.ent152 AnsOk.nil)) (by kernel_rfl) rn
end F50
namespace F51
abbrev R_ := (Int × Int)
noncomputable def H : Hd := ⟨[.agg [Si, Si, Si, Si, Si], Si], [Si, Si], (.seq .d (.seq .d (.seq .d (.seq .d (.cut [2, 8] [] (.seq .d (.blk (.loop [2, 6, 8, 23, 24] [] .d))) .d))))), ⟨[(76, F76.c)], Tryz.gl, false⟩, [], Tryz.f51⟩
def t4 (n f a b g h : Int) (m : LI) (k o : Int) : S := ⟨[(2, .ptr 0 []), (6, .own 1), (8, vi k), (23, vi n), (24, vi o)], [.box 24 (.agg [vi f, vi a, vi b, vi g, vi h]), Ai 3 m], []⟩
def z4 : Nat → S → Option R_ := H.i P_ [r,r,r,r,l,r,d]
def x6 (k f a b g h : Int) : Option R_ := H.e P_ [r,r,r,r,r] ⟨[(2, .ptr 0 []), (8, vi k)], [.box 24 (.agg [vi f, vi a, vi b, vi g, vi h])], []⟩
def x4 (n f a b g h : Int) (m : LI) (k o : Int) : Option R_ := H.e P_ [r,r,r,r,l,r,d] (t4 n f a b g h m k o)
theorem e6 : x6 = Ahx := by kernel_rfl
theorem i4 (n f a b g h : Int) (m : LI) : ∀ (q : Nat) (k o : Int), z4 q (t4 n f a b g h m k o) = Pq n f a b g h m q k o :=
 ind (fun _ _ => by kernel_rfl) fun q ih k o => Eq.trans (b := Abg x6 (fun k o => (z4 q) (t4 n f a b g h m k o)) n f a b g h m k o) (by kernel_rfl) (by simp only [e6, ih] <;> rfl)
theorem e4 : x4 = Ao6 := by funext n f a b g h m k o; exact Eq.trans (by kernel_rfl) ((i4 n f a b g h m Bk k o).trans (by rw [Aj]; rfl))
noncomputable def F (x : Int × Int × Int × Int × Int × Int) := Aeu x.1 x.2.1 x.2.2.1 x.2.2.2.1 x.2.2.2.2.1 x.2.2.2.2.2
theorem rn (x : Int × Int × Int × Int × Int × Int) : H.u P_ x = F x := Eq.trans (b := Ai7 x4 x.1 x.2.1 x.2.2.1 x.2.2.2.1 x.2.2.2.2.1 x.2.2.2.2.2) (by kernel_rfl) (by simp only [e4] <;> rfl)
noncomputable def c : Con := ⟨H.p, H.r, F⟩
theorem ok : ConOk P_ Tryz.gl 51 c := Tryz.co H Tryz.func51 (.cons F76.ok .nil) (by kernel_rfl) rn
end F51
namespace F21
abbrev R_ := (Int × UInt8 × Int × Int × Int)
noncomputable def H : Hd := ⟨[Sb, Ss], [.agg [Si, Sc, Si, Si], Si], (.seq .d (.seq .d (.seq .d (.seq .d (.seq .d (.cut [0, 1, 4, 6, 7] [] .d (.seq .d (.cut [4, 6, 7, 9] [] (.seq .d (.blk (.loop [0, 1, 4, 6, 7, 9, 42, 43] [] .d))) .d)))))))), ⟨[(31, F31.c), (48, F48.c), (49, F49.c), (50, F50.c), (51, F51.c)], Tryz.gl_2_6, false⟩, [], Tryz.f21⟩
def t6 (p o : LB) (a : LI) (b : Int) (u : UInt8) (f g h k m n v : Int) : S := ⟨[(0, vb p), (1, vs o), (4, .ptr 0 []), (6, .ptr 1 []), (7, .ptr 2 []), (9, vi (Ac a)), (42, vi (Ac a)), (43, vi v)], [.box 50 (.agg [vi 0, vc 0, vi 0, vi 0]), .box 50 (.agg [vi b, vc u, vi 0, vi 0]), .box 82 (.agg [.agg [vi f, vi g, vi h, vi k, vi m], vi n, .own 3]), Ai 3 a], []⟩
def z6 : Nat → S → Option R_ := H.i P_ [r,r,r,r,r,r,r,l,r,d]
def x8 (b f g h k m n : Int) (a : LI) (w : Int) (y : UInt8) (aa : Int) : Option R_ := H.e P_ [r,r,r,r,r,r,r,r] ⟨[(4, .ptr 0 []), (6, .ptr 1 []), (7, .ptr 2 []), (9, vi w)], [.box 50 (.agg [vi 0, vc 0, vi 0, vi 0]), .box 50 (.agg [vi b, vc y, vi aa, vi 0]), .box 82 (.agg [.agg [vi f, vi g, vi h, vi k, vi m], vi n, .own 3]), Ai 3 a], []⟩
def x6 (p o : LB) (a : LI) (b : Int) (u : UInt8) (f g h k m n v : Int) : Option R_ := H.e P_ [r,r,r,r,r,r,r,l,r,d] (t6 p o a b u f g h k m n v)
def x5 (p o : LB) (b f g h k m n : Int) (a : LI) (u : UInt8) : Option R_ := H.e P_ [r,r,r,r,r,r] ⟨[(0, vb p), (1, vs o), (4, .ptr 0 []), (6, .ptr 1 []), (7, .ptr 2 [])], [.box 50 (.agg [vi 0, vc 0, vi 0, vi 0]), .box 50 (.agg [vi b, vc u, vi 0, vi 0]), .box 82 (.agg [.agg [vi f, vi g, vi h, vi k, vi m], vi n, .own 3]), Ai 3 a], []⟩
theorem e8 : x8 = Ve := by kernel_rfl
theorem i6 (p o : LB) (a : LI) (b : Int) (u : UInt8) (f g h k m n : Int) : ∀ (q : Nat) (v : Int), z6 q (t6 p o a b u f g h k m n v) = Lc p o a b u f g h k m n q v :=
 ind (fun _ => by kernel_rfl) fun q ih v => Eq.trans (b := Wd x8 (fun v => (z6 q) (t6 p o a b u f g h k m n v)) p o a b u f g h k m n v) (by kernel_rfl) (by simp only [e8, ih] <;> rfl)
theorem e6 : x6 = Ai1 := by funext p o a b u f g h k m n v; exact Eq.trans (by kernel_rfl) ((i6 p o a b u f g h k m n Bk v).trans (by rw [Aj]; rfl))
theorem e5 : x5 = Ai5 := Eq.trans (b := Air x6) (by kernel_rfl) (by simp only [e6] <;> rfl)
noncomputable def F (x : LB × LB) := Aaf x.1 x.2
theorem rn (x : LB × LB) : H.u P_ x = F x := Eq.trans (b := Ai0 x5 x.1 x.2) (by kernel_rfl) (by simp only [e5] <;> rfl)
noncomputable def c : Con := ⟨H.p, H.r, F⟩
theorem ok : ConOk P_ Tryz.gl_2_6 21 c := Tryz.co H Tryz.func21 (.cons F31.ok (.cons (F48.ok.mono (.cons_cons _ (.cons _ .slnil))) (.cons (F49.ok.mono (.cons_cons _ (.cons _ .slnil))) (.cons F50.ok (.cons (F51.ok.mono (.cons _ (.cons _ .slnil))) .nil))))) (by kernel_rfl) rn
end F21
namespace F257
abbrev R_ := (Int × Int)
noncomputable def H : Hd := ⟨[Sb], [Si, Si], (.seq .d (.seq .d (.seq .d (.cut [4] [] (.seq .d (.blk (.loop [0, 4, 5] [] .d))) .d)))), ⟨[], Tryz.gl, false⟩, [], Tryz.f257⟩
def t4 (b : LB) (a f : Int) : S := ⟨[(0, vb b), (4, vi a), (5, vi f)], [], []⟩
def z4 : Nat → S → Option R_ := H.i P_ [r,r,r,l,r,d]
def x6 (a : Int) : Option R_ := H.e P_ [r,r,r,r] ⟨[(4, vi a)], [], []⟩
def x4 (b : LB) (a f : Int) : Option R_ := H.e P_ [r,r,r,l,r,d] (t4 b a f)
theorem e6 : x6 = Ac9 := by kernel_rfl
theorem i4 (b : LB) : ∀ (q : Nat) (a f : Int), z4 q (t4 b a f) = Fu b q a f :=
 ind (fun _ _ => by kernel_rfl) fun q ih a f => Eq.trans (b := Mb x6 (fun a f => (z4 q) (t4 b a f)) b a f) (by kernel_rfl) (by simp only [e6, ih] <;> rfl)
theorem e4 : x4 = Ty := by funext b a f; exact Eq.trans (by kernel_rfl) ((i4 b Bk a f).trans (by rw [Aj]; rfl))
noncomputable def F (x : LB) := Se x
theorem rn (x : LB) : H.u P_ x = F x := Eq.trans (b := Tt x4 x) (by kernel_rfl) (by simp only [e4] <;> rfl)
noncomputable def c : Con := ⟨H.p, H.r, F⟩
theorem ok : ConOk P_ Tryz.gl 257 c := Tryz.co H Tryz.func257 .nil (by kernel_rfl) rn
end F257
namespace F211
abbrev R_ := (Int × Int)
noncomputable def H : Hd := ⟨[Sb], [Si, Si], (.seq .d (.cut [0] [] .d (.seq .d (.seq .d (.cut [0, 4] [] .d (.seq .d (.cut [0, 6] [] .d .d))))))), ⟨[(257, F257.c)], Tryz.gl, false⟩, [], Tryz.f211⟩
def x6 (a : LB) (g : Int) : Option R_ := H.e P_ [r,r,r,r,r,r,r] ⟨[(0, vb a), (6, vi g)], [], []⟩
def x5 (a : LB) (b : Int) : Option R_ := H.e P_ [r,r,r,r,r] ⟨[(0, vb a), (4, vi b)], [], []⟩
def x4 (a : LB) : Option R_ := H.e P_ [r,r] ⟨[(0, vb a)], [], []⟩
theorem e6 : x6 = Nv := by kernel_rfl
theorem e5 : x5 = Mt := Eq.trans (b := Vl x6) (by kernel_rfl) (by simp only [e6] <;> rfl)
theorem e4 : x4 = Vw := Eq.trans (b := Vn x5) (by kernel_rfl) (by simp only [e5] <;> rfl)
noncomputable def F (x : LB) := Vc x
theorem rn (x : LB) : H.u P_ x = F x := Eq.trans (b := Vy x4 x) (by kernel_rfl) (by simp only [e4] <;> rfl)
noncomputable def c : Con := ⟨H.p, H.r, F⟩
theorem ok : ConOk P_ Tryz.gl 211 c := Tryz.co H Tryz.func211 (.cons F257.ok .nil) (by kernel_rfl) rn
end F211
namespace F147
abbrev R_ := UInt64
noncomputable def H : Hd := ⟨[Sb], [Sq], (.seq .d (.seq .d (.cut [3] [] (.seq .d (.blk (.loop [0, 3, 4] [] .d))) .d))), ⟨[], Tryz.gl, false⟩, [], Tryz.f147⟩
def t4 (b : LB) (a : UInt64) (f : Int) : S := ⟨[(0, vb b), (3, vq a), (4, vi f)], [], []⟩
def z4 : Nat → S → Option R_ := H.i P_ [r,r,l,r,d]
def x6 (a : UInt64) : Option R_ := H.e P_ [r,r,r] ⟨[(3, vq a)], [], []⟩
def x4 (b : LB) (a : UInt64) (f : Int) : Option R_ := H.e P_ [r,r,l,r,d] (t4 b a f)
theorem e6 : x6 = Zl := by kernel_rfl
theorem i4 (b : LB) : ∀ (q : Nat) (a : UInt64) (f : Int), z4 q (t4 b a f) = Ik b q a f :=
 ind (fun _ _ => by kernel_rfl) fun q ih a f => Eq.trans (b := Sm x6 (fun a f => (z4 q) (t4 b a f)) b a f) (by kernel_rfl) (by simp only [e6, ih] <;> rfl)
theorem e4 : x4 = Zq := by funext b a f; exact Eq.trans (by kernel_rfl) ((i4 b Bk a f).trans (by rw [Aj]; rfl))
noncomputable def F (x : LB) := Ak x
theorem rn (x : LB) : H.u P_ x = F x := Eq.trans (b := Zm x4 x) (by kernel_rfl) (by simp only [e4] <;> rfl)
noncomputable def c : Con := ⟨H.p, H.r, F⟩
theorem ok : ConOk P_ Tryz.gl 147 c := Tryz.co H Tryz.func147 .nil (by kernel_rfl) rn
end F147
namespace F186
noncomputable def H : Hd := ⟨[Sb], [Si, Si, Sz], .d, ⟨[(147, F147.c)], Tryz.gl, false⟩, [], Tryz.f186⟩
noncomputable def F (x : LB) := Jb x
theorem rn (x : LB) : H.u P_ x = F x := by kernel_rfl
noncomputable def c : Con := ⟨H.p, H.r, F⟩
theorem ok : ConOk P_ Tryz.gl 186 c := Tryz.co H Tryz.func186 (.cons F147.ok .nil) (by kernel_rfl) rn
end F186
namespace F172
abbrev R_ := LB
noncomputable def H : Hd := ⟨[Sq, Si], [Ob 5], (.seq .d (.seq .d (.cut [5] [] (.seq .d (.blk (.loop [0, 1, 5, 6] [⟨5, [], .own 5 (.int .u8)⟩] .d))) .d))), ⟨[], Tryz.gl, false⟩, [], Tryz.f172⟩
def t4 (b : Int) (f : UInt64) (g : Int) (a : LB) : S := ⟨[(0, vq f), (1, vi b), (5, .own 0), (6, vi g)], [Ab 5 a], []⟩
def z4 : Nat → S → Option R_ := H.i P_ [r,r,l,r,d]
def x6 (a : LB) : Option R_ := H.e P_ [r,r,r] ⟨[(5, .own 0)], [Ab 5 a], []⟩
def x4 (b : Int) (f : UInt64) (g : Int) (a : LB) : Option R_ := H.e P_ [r,r,l,r,d] (t4 b f g a)
theorem e6 : x6 = Ql := by kernel_rfl
theorem i4 (b : Int) : ∀ (q : Nat) (f : UInt64) (g : Int) (a : LB), z4 q (t4 b f g a) = Er b q f g a :=
 ind (fun _ _ _ => by kernel_rfl) fun q ih f g a => Eq.trans (b := Ja x6 (fun f g a => (z4 q) (t4 b f g a)) b f g a) (by kernel_rfl) (by simp only [e6, ih] <;> rfl)
theorem e4 : x4 = Qp := by funext b f g a; exact Eq.trans (by kernel_rfl) ((i4 b Bk f g a).trans (by rw [Aj]; rfl))
noncomputable def F (x : UInt64 × Int) := Dg x.1 x.2
theorem rn (x : UInt64 × Int) : H.u P_ x = F x := Eq.trans (b := Qt x4 x.1 x.2) (by kernel_rfl) (by simp only [e4] <;> rfl)
noncomputable def c : Con := ⟨H.p, H.r, F⟩
theorem ok : ConOk P_ Tryz.gl 172 c := Tryz.co H Tryz.func172 .nil (by kernel_rfl) rn
end F172
namespace F242
noncomputable def H : Hd := ⟨[Si, Si, Sq], [Ob 5], .d, ⟨[(172, F172.c)], Tryz.gl, false⟩, [], Tryz.f242⟩
noncomputable def F (x : Int × Int × UInt64) := Kr x.1 x.2.1 x.2.2
theorem rn (x : Int × Int × UInt64) : H.u P_ x = F x := by kernel_rfl
noncomputable def c : Con := ⟨H.p, H.r, F⟩
theorem ok : ConOk P_ Tryz.gl 242 c := Tryz.co H Tryz.func242 (.cons F172.ok .nil) (by kernel_rfl) rn
end F242
namespace F188
noncomputable def H : Hd := ⟨[Si, Si], [Ob 5], .d, ⟨[(242, F242.c)], Tryz.gl, false⟩, [], Tryz.f188⟩
noncomputable def F (x : Int × Int) := Nn x.1 x.2
theorem rn (x : Int × Int) : H.u P_ x = F x := by kernel_rfl
noncomputable def c : Con := ⟨H.p, H.r, F⟩
theorem ok : ConOk P_ Tryz.gl 188 c := Tryz.co H Tryz.func188 (.cons F242.ok .nil) (by kernel_rfl) rn
end F188
namespace F187
noncomputable def H : Hd := ⟨[Si, Si, Sz], [Ob 5], .d, ⟨[(242, F242.c)], Tryz.gl, false⟩, [], Tryz.f187⟩
noncomputable def F (x : Int × Int × Bool) := Dw x.1 x.2.1 x.2.2
theorem rn (x : Int × Int × Bool) : H.u P_ x = F x := by kernel_rfl
noncomputable def c : Con := ⟨H.p, H.r, F⟩
theorem ok : ConOk P_ Tryz.gl 187 c := Tryz.co H Tryz.func187 (.cons F242.ok .nil) (by kernel_rfl) rn
end F187
namespace F212
abbrev R_ := (Int × Int)
noncomputable def H : Hd := ⟨[Sb], [Si, Si], (.seq .d (.cut [0] [] .d (.seq .d (.seq .d (.cut [0, 4, 5] [] .d .d))))), ⟨[(186, F186.c), (187, F187.c), (188, F188.c)], Tryz.gl, false⟩, [], Tryz.f212⟩
def x4 (a : LB) (b f : Int) : Option R_ := H.e P_ [r,r,r,r,r] ⟨[(0, vb a), (4, vi b), (5, vi f)], [], []⟩
def x3 (a : LB) : Option R_ := H.e P_ [r,r] ⟨[(0, vb a)], [], []⟩
theorem e4 : x4 = Uh := by kernel_rfl
theorem e3 : x3 = Uj := Eq.trans (b := Tw x4) (by kernel_rfl) (by simp only [e4] <;> rfl)
noncomputable def F (x : LB) := Re x
theorem rn (x : LB) : H.u P_ x = F x := Eq.trans (b := Ul x3 x) (by kernel_rfl) (by simp only [e3] <;> rfl)
noncomputable def c : Con := ⟨H.p, H.r, F⟩
theorem ok : ConOk P_ Tryz.gl 212 c := Tryz.co H Tryz.func212 (.cons F186.ok (.cons F187.ok (.cons F188.ok .nil))) (by kernel_rfl) rn
end F212
namespace F146
abbrev R_ := (LI × Int)
abbrev K_ := S → Option R_
noncomputable def H : Hd := ⟨[Sb], [Ol 3, Si], (.seq .d (.seq .d (.seq .d (.blk (.loop [0, 4, 5] [⟨4, [], .own 3 (.int .i64)⟩] (.blk (.seq .d (.cut [0, 4, 5, 6, 7] [] .d .d)))))))), ⟨[(211, F211.c), (212, F212.c)], Tryz.gl, false⟩, [], Tryz.f146⟩
def t6 (a : LB) (b : Int) (f : LI) : S := ⟨[(0, vb a), (4, .own 0), (5, vi b)], [Ai 3 f], []⟩
def z6 : Nat → S → Option R_ := H.i P_ [r,r,r,d]
def x9 (kn6 : K_) (a : LB) (b : Int) (f : LI) (g h : Int) : Option R_ := H.e P_ [r,r,r,d,(lp kn6),d,r,r] ⟨[(0, vb a), (4, .own 0), (5, vi b), (6, vi g), (7, vi h)], [Ai 3 f], []⟩
def x6 (a : LB) (b : Int) (f : LI) : Option R_ := H.e P_ [r,r,r,d] (t6 a b f)
theorem e9 (kn6 : K_) (a : LB) : x9 kn6 a = Ia (fun b f => kn6 (t6 a b f)) a := by kernel_rfl
theorem i6 (a : LB) : ∀ (q : Nat) (b : Int) (f : LI), z6 q (t6 a b f) = Hw a q b f :=
 ind (fun _ _ => by kernel_rfl) fun q ih b f => Eq.trans (b := Lu (x9 (z6 q) a) a b f) (by kernel_rfl) (by simp only [e9, ih] <;> rfl)
theorem e6 : x6 = Ac5 := by funext a b f; exact Eq.trans (by kernel_rfl) ((i6 a Bk b f).trans (by rw [Aj]; rfl))
noncomputable def F (x : LB) := Zd x
theorem rn (x : LB) : H.u P_ x = F x := Eq.trans (b := Acw x6 x) (by kernel_rfl) (by simp only [e6] <;> rfl)
noncomputable def c : Con := ⟨H.p, H.r, F⟩
theorem ok : ConOk P_ Tryz.gl 146 c := Tryz.co H Tryz.func146 (.cons F211.ok (.cons F212.ok .nil)) (by kernel_rfl) rn
end F146
namespace F94
abbrev R_ := (Int × Int)
noncomputable def H : Hd := ⟨[Sb], [Si, Si], (.seq .d (.seq .d (.seq .d (.cut [5, 6] [] (.seq .d (.blk (.loop [4, 5, 6, 7] [] .d))) .d)))), ⟨[(146, F146.c)], Tryz.gl, false⟩, [], Tryz.f94⟩
def t4 (a : Int) (f : LI) (b g : Int) : S := ⟨[(4, .own 0), (5, vi a), (6, vi b), (7, vi g)], [Ai 3 f], []⟩
def z4 : Nat → S → Option R_ := H.i P_ [r,r,r,l,r,d]
def x6 (a b : Int) : Option R_ := H.e P_ [r,r,r,r] ⟨[(5, vi a), (6, vi b)], [], []⟩
def x4 (a : Int) (f : LI) (b g : Int) : Option R_ := H.e P_ [r,r,r,l,r,d] (t4 a f b g)
theorem e6 : x6 = Tl := by kernel_rfl
theorem i4 (a : Int) (f : LI) : ∀ (q : Nat) (b g : Int), z4 q (t4 a f b g) = Fp a f q b g :=
 ind (fun _ _ => by kernel_rfl) fun q ih b g => Eq.trans (b := Lp x6 (fun b g => (z4 q) (t4 a f b g)) a f b g) (by kernel_rfl) (by simp only [e6, ih] <;> rfl)
theorem e4 : x4 = Lq := by funext a f b g; exact Eq.trans (by kernel_rfl) ((i4 a f Bk b g).trans (by rw [Aj]; rfl))
noncomputable def F (x : LB) := Ij x
theorem rn (x : LB) : H.u P_ x = F x := Eq.trans (b := Tn x4 x) (by kernel_rfl) (by simp only [e4] <;> rfl)
noncomputable def c : Con := ⟨H.p, H.r, F⟩
theorem ok : ConOk P_ Tryz.gl 94 c := Tryz.co H Tryz.func94 (.cons F146.ok .nil) (by kernel_rfl) rn
end F94
namespace F287
abbrev R_ := UInt32
noncomputable def H : Hd := ⟨[Su, Si], [Su], (.seq .d (.seq .d (.cut [0, 5] [] .d .d))), ⟨[], Tryz.gl, false⟩, [], Tryz.f287⟩
def x2 (a : UInt32) (b : Bool) : Option R_ := H.e P_ [r,r,r] ⟨[(0, vu a), (5, vt b)], [], []⟩
theorem e2 : x2 = Wj := by kernel_rfl
noncomputable def F (x : UInt32 × Int) := Uu x.1 x.2
theorem rn (x : UInt32 × Int) : H.u P_ x = F x := Eq.trans (b := Vi x2 x.1 x.2) (by kernel_rfl) (by simp only [e2] <;> rfl)
noncomputable def c : Con := ⟨H.p, H.r, F⟩
theorem ok : ConOk P_ Tryz.gl 287 c := Tryz.co H Tryz.func287 .nil (by kernel_rfl) rn
end F287
namespace F258
abbrev R_ := UInt32
noncomputable def H : Hd := ⟨[Su, Sc], [Su], (.seq .d (.cut [0] [] (.seq .d (.blk (.loop [0, 1, 5] [] .d))) .d)), ⟨[(287, F287.c)], Tryz.gl, false⟩, [], Tryz.f258⟩
def t4 (a : UInt32) (b : UInt8) (f : Int) : S := ⟨[(0, vu a), (1, vc b), (5, vi f)], [], []⟩
def z4 : Nat → S → Option R_ := H.i P_ [r,l,r,d]
def x6 (a : UInt32) : Option R_ := H.e P_ [r,r] ⟨[(0, vu a)], [], []⟩
def x4 (a : UInt32) (b : UInt8) (f : Int) : Option R_ := H.e P_ [r,l,r,d] (t4 a b f)
theorem e6 : x6 = Vs := by kernel_rfl
theorem i4 : ∀ (q : Nat) (a : UInt32) (b : UInt8) (f : Int), z4 q (t4 a b f) = Gs q a b f :=
 ind (fun _ _ _ => by kernel_rfl) fun q ih a b f => Eq.trans (b := Nx x6 (fun a b f => (z4 q) (t4 a b f)) a b f) (by kernel_rfl) (by simp only [e6, ih] <;> rfl)
theorem e4 : x4 = Afg := by funext a b f; exact Eq.trans (by kernel_rfl) ((i4 Bk a b f).trans (by rw [Aj]; rfl))
noncomputable def F (x : UInt32 × UInt8) := Ab4 x.1 x.2
theorem rn (x : UInt32 × UInt8) : H.u P_ x = F x := Eq.trans (b := Ae5 x4 x.1 x.2) (by kernel_rfl) (by simp only [e4] <;> rfl)
noncomputable def c : Con := ⟨H.p, H.r, F⟩
theorem ok : ConOk P_ Tryz.gl 258 c := Tryz.co H Tryz.func258 (.cons F287.ok .nil) (by kernel_rfl) rn
end F258
namespace F213
abbrev R_ := UInt32
noncomputable def H : Hd := ⟨[Su, Sb], [Su], (.seq .d (.cut [0] [] (.seq .d (.blk (.loop [0, 1, 5] [] .d))) .d)), ⟨[(258, F258.c)], Tryz.gl, false⟩, [], Tryz.f213⟩
def t4 (b : LB) (a : UInt32) (f : Int) : S := ⟨[(0, vu a), (1, vb b), (5, vi f)], [], []⟩
def z4 : Nat → S → Option R_ := H.i P_ [r,l,r,d]
def x6 (a : UInt32) : Option R_ := H.e P_ [r,r] ⟨[(0, vu a)], [], []⟩
def x4 (b : LB) (a : UInt32) (f : Int) : Option R_ := H.e P_ [r,l,r,d] (t4 b a f)
theorem e6 : x6 = Sf := by kernel_rfl
theorem i4 (b : LB) : ∀ (q : Nat) (a : UInt32) (f : Int), z4 q (t4 b a f) = Fb b q a f :=
 ind (fun _ _ => by kernel_rfl) fun q ih a f => Eq.trans (b := Ko x6 (fun a f => (z4 q) (t4 b a f)) b a f) (by kernel_rfl) (by simp only [e6, ih] <;> rfl)
theorem e4 : x4 = Rw := by funext b a f; exact Eq.trans (by kernel_rfl) ((i4 b Bk a f).trans (by rw [Aj]; rfl))
noncomputable def F (x : UInt32 × LB) := Xt x.1 x.2
theorem rn (x : UInt32 × LB) : H.u P_ x = F x := Eq.trans (b := Ra x4 x.1 x.2) (by kernel_rfl) (by simp only [e4] <;> rfl)
noncomputable def c : Con := ⟨H.p, H.r, F⟩
theorem ok : ConOk P_ Tryz.gl 213 c := Tryz.co H Tryz.func213 (.cons F258.ok .nil) (by kernel_rfl) rn
end F213
namespace F148
noncomputable def H : Hd := ⟨[Sb], [Su], .d, ⟨[(213, F213.c)], Tryz.gl, false⟩, [], Tryz.f148⟩
noncomputable def F (x : LB) := Mr x
theorem rn (x : LB) : H.u P_ x = F x := by kernel_rfl
noncomputable def c : Con := ⟨H.p, H.r, F⟩
theorem ok : ConOk P_ Tryz.gl 148 c := Tryz.co H Tryz.func148 (.cons F213.ok .nil) (by kernel_rfl) rn
end F148
namespace F136
noncomputable def H : Hd := ⟨[.agg [Si, Si, Si, Si, Si]], [Sz], .d, ⟨[], Tryz.gl, false⟩, [], Tryz.f136⟩
noncomputable def F (x : Int × Int × Int × Int × Int) := Pd x.1 x.2.1 x.2.2.1 x.2.2.2.1 x.2.2.2.2
theorem rn (x : Int × Int × Int × Int × Int) : H.u P_ x = F x := by kernel_rfl
noncomputable def c : Con := ⟨H.p, H.r, F⟩
theorem ok : ConOk P_ Tryz.gl 136 c := Tryz.co H Tryz.func136 .nil (by kernel_rfl) rn
end F136
namespace F114
noncomputable def H : Hd := ⟨[Si], [Si], .d, ⟨[], Tryz.gl, false⟩, [], Tryz.f114⟩
noncomputable def F (x : Int) := Oa x
theorem rn (x : Int) : H.u P_ x = F x := by kernel_rfl
noncomputable def c : Con := ⟨H.p, H.r, F⟩
theorem ok : ConOk P_ Tryz.gl 114 c := Tryz.co H Tryz.func114 .nil (by kernel_rfl) rn
end F114
namespace F69
abbrev R_ := LI
noncomputable def H : Hd := ⟨[Si, Si], [Ol 3], (.seq .d (.seq .d (.cut [5] [] (.seq .d (.blk (.loop [0, 5, 6] [⟨5, [], .own 3 (.int .i64)⟩] .d))) .d))), ⟨[(114, F114.c)], Tryz.gl, false⟩, [], Tryz.f69⟩
def t4 (b f : Int) (a : LI) : S := ⟨[(0, vi b), (5, .own 0), (6, vi f)], [Ai 3 a], []⟩
def z4 : Nat → S → Option R_ := H.i P_ [r,r,l,r,d]
def x6 (a : LI) : Option R_ := H.e P_ [r,r,r] ⟨[(5, .own 0)], [Ai 3 a], []⟩
def x4 (b f : Int) (a : LI) : Option R_ := H.e P_ [r,r,l,r,d] (t4 b f a)
theorem e6 : x6 = Hx := by kernel_rfl
theorem i4 (b : Int) : ∀ (q : Nat) (f : Int) (a : LI), z4 q (t4 b f a) = Dq b q f a :=
 ind (fun _ _ => by kernel_rfl) fun q ih f a => Eq.trans (b := Ft x6 (fun f a => (z4 q) (t4 b f a)) b f a) (by kernel_rfl) (by simp only [e6, ih] <;> rfl)
theorem e4 : x4 = Tm := by funext b f a; exact Eq.trans (by kernel_rfl) ((i4 b Bk f a).trans (by rw [Aj]; rfl))
noncomputable def F (x : Int × Int) := Bw x.1 x.2
theorem rn (x : Int × Int) : H.u P_ x = F x := Eq.trans (b := Tq x4 x.1 x.2) (by kernel_rfl) (by simp only [e4] <;> rfl)
noncomputable def c : Con := ⟨H.p, H.r, F⟩
theorem ok : ConOk P_ Tryz.gl 69 c := Tryz.co H Tryz.func69 (.cons F114.ok .nil) (by kernel_rfl) rn
end F69
namespace F137
def Ud (h a k f b : Int) : Option Bool :=
bo (
(Vd (Ck a 0)).bind fun _ =>
bo (
if (Gy b (Df 4000 a)) then
some true
else
(Bw f b).bind fun g =>
some (Gy (Ac g) 1000)))
theorem Aki : @Ud = @Jh := by
  unfold Ud Jh
  simp only [Bjl, Bcl, Bdt]
noncomputable def H : Hd := ⟨[.agg [Si, Si, Si, Si, Si]], [Sz], (.seq .d (.seq (.mode false) .d)), ⟨[(69, F69.c)], Tryz.gl, false⟩, [], Tryz.f137⟩
noncomputable def F (x : Int × Int × Int × Int × Int) := Jh x.1 x.2.1 x.2.2.1 x.2.2.2.1 x.2.2.2.2
theorem rn (x : Int × Int × Int × Int × Int) : H.u P_ x = F x := Eq.trans (b := Ud x.1 x.2.1 x.2.2.1 x.2.2.2.1 x.2.2.2.2) (by kernel_rfl) (by rw [Aki]; rfl)
noncomputable def c : Con := ⟨H.p, H.r, F⟩
theorem ok : ConOk P_ Tryz.gl 137 c := Tryz.co H Tryz.func137 (.cons F69.ok .nil) (by kernel_rfl) rn
end F137
namespace F95
def Uo (j6 : UInt64 → UInt64 → UInt64 → UInt64 → UInt64 → Option (Int × Int × Int × Int × Int × Int)) (a : LB) : Option (Int × Int × Int × Int × Int × Int) :=
(Bt a 4 6).bind fun u =>
(Bt a 6 8).bind fun p =>
(Bt a 8 10).bind fun o =>
(Bt a 10 14).bind fun n =>
(Bt a 14 18).bind fun m =>
both (
(Ak u).bind fun k =>
both (
(Ak p).bind fun h =>
both (
(Ak o).bind fun g =>
both (
(Ak n).bind fun f =>
both (
(Ak m).bind fun b =>
bo (
j6 k h g f b)) [
(Ak m).bind fun b =>
j6 k h g f b]) [
(Ak n).bind fun f =>
(Ak m).bind fun b =>
j6 k h g f b]) [
(Ak o).bind fun g =>
(Ak n).bind fun f =>
(Ak m).bind fun b =>
j6 k h g f b]) [
(Ak p).bind fun h =>
(Ak o).bind fun g =>
(Ak n).bind fun f =>
(Ak m).bind fun b =>
j6 k h g f b]) [
(Ak u).bind fun k =>
(Ak p).bind fun h =>
(Ak o).bind fun g =>
(Ak n).bind fun f =>
(Ak m).bind fun b =>
j6 k h g f b]
theorem Aj6 : @Uo = @Nq := by
  unfold Uo Nq
  repeat (refine funext fun _ => ?_)
  repeat' first
    | with_reducible rfl
    | with_reducible refine Nl ?_ ?_
    | with_reducible refine Mw ?_ ?_ ?_
    | with_reducible refine Od ?_ ?_ ?_ ?_
    | ((with_reducible refine Vb ?_ ?_); focus (intro h; first | (subst h; rfl) | (simp only [h]; rfl) | (simp [Iy, Ac, h]; done)))
    | with_reducible refine Up fun x => ?_
    | with_reducible refine Aav (fun _ => ?_) (fun _ => ?_)
    | (refine Hb (fun h => by simp only [h, Uq, Ev, El, ite_self]) (fun x h => ?_); (try simp only [h, Ev]))
    | (refine Jp (fun h => ?_) (fun h => ?_) <;> simp only [h, if_true, if_false, Bool.false_eq_true])
abbrev R_ := (Int × Int × Int × Int × Int × Int)
noncomputable def H : Hd := ⟨[Sb], [.agg [Si, Si, Si, Si, Si], Si], (.seq .d (.seq .d (.cut [0, 2] [] .d (.seq .d (.cut [0, 2] [] .d (.cut [2, 5] [] .d .d)))))), ⟨[(136, F136.c), (137, F137.c), (147, F147.c), (148, F148.c)], Tryz.gl, false⟩, [], Tryz.f95⟩
def x6 (k h g f b : UInt64) : Option R_ := H.e P_ [r,r,r,r,r,r] ⟨[(2, .ptr 0 []), (5, .ptr 1 [])], [.box 24 (.agg [vi 0, vi 0, vi 0, vi 0, vi 0]), .box 24 (.agg [vi (Ad k : Int), vi (Ad h : Int), vi (Ad g : Int), vi (Ad f : Int), vi (Ad b : Int)])], []⟩
def x5 (a : LB) : Option R_ := H.e P_ [r,r,r,r,r] ⟨[(0, vb a), (2, .ptr 0 [])], [.box 24 (.agg [vi 0, vi 0, vi 0, vi 0, vi 0])], []⟩
def x4 (a : LB) : Option R_ := H.e P_ [r,r,r] ⟨[(0, vb a), (2, .ptr 0 [])], [.box 24 (.agg [vi 0, vi 0, vi 0, vi 0, vi 0])], []⟩
theorem e6 : x6 = We := by kernel_rfl
theorem e5 : x5 = Ws := Eq.trans (b := Uo x6) (by kernel_rfl) (by rw [Aj6]; simp only [e6] <;> rfl)
theorem e4 : x4 = Wf := Eq.trans (b := Vj x5) (by kernel_rfl) (by simp only [e5] <;> rfl)
noncomputable def F (x : LB) := Iz x
theorem rn (x : LB) : H.u P_ x = F x := Eq.trans (b := Wo x4 x) (by kernel_rfl) (by simp only [e4] <;> rfl)
noncomputable def c : Con := ⟨H.p, H.r, F⟩
theorem ok : ConOk P_ Tryz.gl 95 c := Tryz.co H Tryz.func95 (.cons F136.ok (.cons F137.ok (.cons F147.ok (.cons F148.ok .nil)))) (by kernel_rfl) rn
end F95
namespace F66
noncomputable def H : Hd := ⟨[Sb], [Si, .agg [Si, Si, Si, Si, Si], Si], (.seq .d (.seq .d (.seq .d (.seq .d (.seq .d (.seq (.mode false) .d)))))), ⟨[(94, F94.c), (95, F95.c)], Tryz.gl, false⟩, [], Tryz.f66⟩
noncomputable def F (x : LB) := Cx x
theorem rn (x : LB) : H.u P_ x = F x := by kernel_rfl
noncomputable def c : Con := ⟨H.p, H.r, F⟩
theorem ok : ConOk P_ Tryz.gl 66 c := Tryz.co H Tryz.func66 (.cons F94.ok (.cons F95.ok .nil)) (by kernel_rfl) rn
end F66
namespace F293
abbrev R_ := UInt64
noncomputable def H : Hd := ⟨[Sq, Si], [Sq], (.seq .d (.seq .d (.cut [0, 5] [] .d .d))), ⟨[], Tryz.gl, false⟩, [], Tryz.f293⟩
def x2 (a : UInt64) (b : Bool) : Option R_ := H.e P_ [r,r,r] ⟨[(0, vq a), (5, vt b)], [], []⟩
theorem e2 : x2 = Oc := by kernel_rfl
noncomputable def F (x : UInt64 × Int) := Uw x.1 x.2
theorem rn (x : UInt64 × Int) : H.u P_ x = F x := Eq.trans (b := Vq x2 x.1 x.2) (by kernel_rfl) (by simp only [e2] <;> rfl)
noncomputable def c : Con := ⟨H.p, H.r, F⟩
theorem ok : ConOk P_ Tryz.gl 293 c := Tryz.co H Tryz.func293 .nil (by kernel_rfl) rn
end F293
namespace F267
abbrev R_ := UInt64
noncomputable def H : Hd := ⟨[Sq, Sc], [Sq], (.seq .d (.cut [0] [] (.seq .d (.blk (.loop [0, 1, 5] [] .d))) .d)), ⟨[(293, F293.c)], Tryz.gl, false⟩, [], Tryz.f267⟩
def t4 (b : UInt8) (a : UInt64) (f : Int) : S := ⟨[(0, vq a), (1, vc b), (5, vi f)], [], []⟩
def z4 : Nat → S → Option R_ := H.i P_ [r,l,r,d]
def x6 (a : UInt64) : Option R_ := H.e P_ [r,r] ⟨[(0, vq a)], [], []⟩
def x4 (b : UInt8) (a : UInt64) (f : Int) : Option R_ := H.e P_ [r,l,r,d] (t4 b a f)
theorem e6 : x6 = Wp := by kernel_rfl
theorem i4 (b : UInt8) : ∀ (q : Nat) (a : UInt64) (f : Int), z4 q (t4 b a f) = Gp b q a f :=
 ind (fun _ _ => by kernel_rfl) fun q ih a f => Eq.trans (b := Ns x6 (fun a f => (z4 q) (t4 b a f)) b a f) (by kernel_rfl) (by simp only [e6, ih] <;> rfl)
theorem e4 : x4 = Aes := by funext b a f; exact Eq.trans (by kernel_rfl) ((i4 b Bk a f).trans (by rw [Aj]; rfl))
noncomputable def F (x : UInt64 × UInt8) := Aby x.1 x.2
theorem rn (x : UInt64 × UInt8) : H.u P_ x = F x := Eq.trans (b := Ae4 x4 x.1 x.2) (by kernel_rfl) (by simp only [e4] <;> rfl)
noncomputable def c : Con := ⟨H.p, H.r, F⟩
theorem ok : ConOk P_ Tryz.gl 267 c := Tryz.co H Tryz.func267 (.cons F293.ok .nil) (by kernel_rfl) rn
end F267
namespace F230
abbrev R_ := UInt64
noncomputable def H : Hd := ⟨[Sq, Sb], [Sq], (.seq .d (.cut [0] [] (.seq .d (.blk (.loop [0, 1, 5] [] .d))) .d)), ⟨[(267, F267.c)], Tryz.gl, false⟩, [], Tryz.f230⟩
def t4 (b : LB) (a : UInt64) (f : Int) : S := ⟨[(0, vq a), (1, vb b), (5, vi f)], [], []⟩
def z4 : Nat → S → Option R_ := H.i P_ [r,l,r,d]
def x6 (a : UInt64) : Option R_ := H.e P_ [r,r] ⟨[(0, vq a)], [], []⟩
def x4 (b : LB) (a : UInt64) (f : Int) : Option R_ := H.e P_ [r,l,r,d] (t4 b a f)
theorem e6 : x6 = Sa := by kernel_rfl
theorem i4 (b : LB) : ∀ (q : Nat) (a : UInt64) (f : Int), z4 q (t4 b a f) = Fa b q a f :=
 ind (fun _ _ => by kernel_rfl) fun q ih a f => Eq.trans (b := Kg x6 (fun a f => (z4 q) (t4 b a f)) b a f) (by kernel_rfl) (by simp only [e6, ih] <;> rfl)
theorem e4 : x4 = Aau := by funext b a f; exact Eq.trans (by kernel_rfl) ((i4 b Bk a f).trans (by rw [Aj]; rfl))
noncomputable def F (x : UInt64 × LB) := Pk x.1 x.2
theorem rn (x : UInt64 × LB) : H.u P_ x = F x := Eq.trans (b := Aa1 x4 x.1 x.2) (by kernel_rfl) (by simp only [e4] <;> rfl)
noncomputable def c : Con := ⟨H.p, H.r, F⟩
theorem ok : ConOk P_ Tryz.gl 230 c := Tryz.co H Tryz.func230 (.cons F267.ok .nil) (by kernel_rfl) rn
end F230
namespace F173
noncomputable def H : Hd := ⟨[Ss], [Sq], .d, ⟨[(230, F230.c)], Tryz.gl, false⟩, [], Tryz.f173⟩
noncomputable def F (x : LB) := Abm x
theorem rn (x : LB) : H.u P_ x = F x := by kernel_rfl
noncomputable def c : Con := ⟨H.p, H.r, F⟩
theorem ok : ConOk P_ Tryz.gl 173 c := Tryz.co H Tryz.func173 (.cons F230.ok .nil) (by kernel_rfl) rn
end F173
namespace F112
noncomputable def H : Hd := ⟨[Ss], [Ob 5], .d, ⟨[(172, F172.c), (173, F173.c)], Tryz.gl, false⟩, [], Tryz.f112⟩
noncomputable def F (x : LB) := Ix x
theorem rn (x : LB) : H.u P_ x = F x := by kernel_rfl
noncomputable def c : Con := ⟨H.p, H.r, F⟩
theorem ok : ConOk P_ Tryz.gl 112 c := Tryz.co H Tryz.func112 (.cons F172.ok (.cons F173.ok .nil)) (by kernel_rfl) rn
end F112
namespace F67
noncomputable def H : Hd := ⟨[Sb, Si, .agg [Si, Si, Si, Si, Si], Ss], [Si, Si], .d, ⟨[(112, F112.c)], Tryz.gl, false⟩, [], Tryz.f67⟩
noncomputable def F (x : LB × Int × Int × Int × Int × Int × Int × LB) := Xw x.1 x.2.1 x.2.2.1 x.2.2.2.1 x.2.2.2.2.1 x.2.2.2.2.2.1 x.2.2.2.2.2.2.1 x.2.2.2.2.2.2.2
theorem rn (x : LB × Int × Int × Int × Int × Int × Int × LB) : H.u P_ x = F x := by kernel_rfl
noncomputable def c : Con := ⟨H.p, H.r, F⟩
theorem ok : ConOk P_ Tryz.gl 67 c := Tryz.co H Tryz.func67 (.cons F112.ok .nil) (by kernel_rfl) rn
end F67
namespace F86
abbrev R_ := Int
abbrev K_ := S → Option R_
noncomputable def H : Hd := ⟨[Sl], [Si], (.seq .d (.seq .d (.seq .d (.cut [3] [] (.seq .d (.blk (.loop [0, 3, 4] [] (.seq .d (.seq (.blk (.cut [0, 3, 4] [] .d .d)) .d))))) .d)))), ⟨[], Tryz.gl, false⟩, [], Tryz.f86⟩
def t6 (a : LI) (b f : Int) : S := ⟨[(0, vl a), (3, vi b), (4, vi f)], [], []⟩
def z6 : Nat → S → Option R_ := H.i P_ [r,r,r,l,r,d]
def x10 (b : Int) : Option R_ := H.e P_ [r,r,r,r] ⟨[(3, vi b)], [], []⟩
def x8 (kn6 : K_) (a : LI) (b f : Int) : Option R_ := H.e P_ [r,r,r,l,r,d,(lp kn6),r,l,d,r] ⟨[(0, vl a), (3, vi b), (4, vi f)], [], []⟩
def x6 (a : LI) (b f : Int) : Option R_ := H.e P_ [r,r,r,l,r,d] (t6 a b f)
theorem e10 : x10 = Ry := by kernel_rfl
theorem e8 (kn6 : K_) (a : LI) : x8 kn6 a = Tu (fun b f => kn6 (t6 a b f)) a := by kernel_rfl
theorem i6 (a : LI) : ∀ (q : Nat) (b f : Int), z6 q (t6 a b f) = Fj a q b f :=
 ind (fun _ _ => by kernel_rfl) fun q ih b f => Eq.trans (b := Lo (x8 (z6 q) a) x10 a b f) (by kernel_rfl) (by simp only [e8, e10, ih] <;> rfl)
theorem e6 : x6 = Uc := by funext a b f; exact Eq.trans (by kernel_rfl) ((i6 a Bk b f).trans (by rw [Aj]; rfl))
noncomputable def F (x : LI) := Sg x
theorem rn (x : LI) : H.u P_ x = F x := Eq.trans (b := Ui x6 x) (by kernel_rfl) (by simp only [e6] <;> rfl)
noncomputable def c : Con := ⟨H.p, H.r, F⟩
theorem ok : ConOk P_ Tryz.gl 86 c := Tryz.co H Tryz.func86 .nil (by kernel_rfl) rn
end F86
namespace F113
abbrev R_ := (LI × Int)
noncomputable def H : Hd := ⟨[Sb, Si], [Ol 3, Si], (.seq .d (.seq .d (.seq .d (.cut [0, 1] [] .d (.seq .d (.cut [6] [] (.seq .d (.blk (.loop [0, 1, 6, 7] [⟨6, [], .own 3 (.int .i64)⟩] .d))) .d)))))), ⟨[(86, F86.c), (147, F147.c), (148, F148.c)], Tryz.gl, false⟩, [], Tryz.f113⟩
def t6 (b : LB) (a g : Int) (f : LI) : S := ⟨[(0, vb b), (1, vi a), (6, .own 0), (7, vi g)], [Ai 3 f], []⟩
def z6 : Nat → S → Option R_ := H.i P_ [r,r,r,r,r,l,r,d]
def x8 (f : LI) : Option R_ := H.e P_ [r,r,r,r,r,r] ⟨[(6, .own 0)], [Ai 3 f], []⟩
def x6 (b : LB) (a g : Int) (f : LI) : Option R_ := H.e P_ [r,r,r,r,r,l,r,d] (t6 b a g f)
def x5 (b : LB) (a : Int) : Option R_ := H.e P_ [r,r,r,r] ⟨[(0, vb b), (1, vi a)], [], []⟩
theorem e8 : x8 = Mz := by kernel_rfl
theorem i6 (b : LB) (a : Int) : ∀ (q : Nat) (g : Int) (f : LI), z6 q (t6 b a g f) = Gg b a q g f :=
 ind (fun _ _ => by kernel_rfl) fun q ih g f => Eq.trans (b := Nk x8 (fun g f => (z6 q) (t6 b a g f)) b a g f) (by kernel_rfl) (by simp only [e8, ih] <;> rfl)
theorem e6 : x6 = Wg := by funext b a g f; exact Eq.trans (by kernel_rfl) ((i6 b a Bk g f).trans (by rw [Aj]; rfl))
theorem e5 : x5 = Wt := Eq.trans (b := Wh x6) (by kernel_rfl) (by simp only [e6] <;> rfl)
noncomputable def F (x : LB × Int) := Nt x.1 x.2
theorem rn (x : LB × Int) : H.u P_ x = F x := Eq.trans (b := Vg x5 x.1 x.2) (by kernel_rfl) (by simp only [e5] <;> rfl)
noncomputable def c : Con := ⟨H.p, H.r, F⟩
theorem ok : ConOk P_ Tryz.gl 113 c := Tryz.co H Tryz.func113 (.cons F86.ok (.cons F147.ok (.cons F148.ok .nil))) (by kernel_rfl) rn
end F113
namespace F68
noncomputable def H : Hd := ⟨[Sb, Si, .agg [Si, Si, Si, Si, Si]], [Ol 3, Si], .d, ⟨[(69, F69.c), (113, F113.c)], Tryz.gl, false⟩, [], Tryz.f68⟩
noncomputable def F (x : LB × Int × Int × Int × Int × Int × Int) := Ie x.1 x.2.1 x.2.2.1 x.2.2.2.1 x.2.2.2.2.1 x.2.2.2.2.2.1 x.2.2.2.2.2.2
theorem rn (x : LB × Int × Int × Int × Int × Int × Int) : H.u P_ x = F x := by kernel_rfl
noncomputable def c : Con := ⟨H.p, H.r, F⟩
theorem ok : ConOk P_ Tryz.gl 68 c := Tryz.co H Tryz.func68 (.cons F69.ok (.cons F113.ok .nil)) (by kernel_rfl) rn
end F68
namespace F174
noncomputable def H : Hd := ⟨[Sq, Sb], [Sq, Si], .d, ⟨[(230, F230.c)], Tryz.gl, false⟩, [], Tryz.f174⟩
noncomputable def F (x : UInt64 × LB) := Abu x.1 x.2
theorem rn (x : UInt64 × LB) : H.u P_ x = F x := by kernel_rfl
noncomputable def c : Con := ⟨H.p, H.r, F⟩
theorem ok : ConOk P_ Tryz.gl 174 c := Tryz.co H Tryz.func174 (.cons F230.ok .nil) (by kernel_rfl) rn
end F174
namespace F115
noncomputable def H : Hd := ⟨[Sb], [Sq, Si], .d, ⟨[(174, F174.c)], Tryz.gl, false⟩, [], Tryz.f115⟩
noncomputable def F (x : LB) := Adb x
theorem rn (x : LB) : H.u P_ x = F x := by kernel_rfl
noncomputable def c : Con := ⟨H.p, H.r, F⟩
theorem ok : ConOk P_ Tryz.gl 115 c := Tryz.co H Tryz.func115 (.cons F174.ok .nil) (by kernel_rfl) rn
end F115
namespace F116
abbrev R_ := LX
abbrev K_ := S → Option R_
noncomputable def H : Hd := ⟨[Sq], [.lf (.vec 16 (.int .i32)) none], (.seq .d (.seq .d (.cut [2, 3] [] (.seq .d (.blk (.loop [0, 2, 3, 4] [] (.seq .d (.seq (.blk (.seq .d (.cut [0, 2, 3, 4, 5] [] .d .d))) .d))))) .d))), ⟨[], Tryz.gl, false⟩, [], Tryz.f116⟩
def t6 (b : UInt64) (f : Int) (a : LX) : S := ⟨[(0, vq b), (2, .ptr 0 []), (3, .ptr 1 []), (4, vi f)], [.box 110 (.val (.vec 16 (.int .i32)) (List.replicate 16 (0 : Int32))), .box 110 (.val (.vec 16 (.int .i32)) a)], []⟩
def z6 : Nat → S → Option R_ := H.i P_ [r,r,l,r,d]
def x10 (a : LX) : Option R_ := H.e P_ [r,r,r] ⟨[(2, .ptr 0 []), (3, .ptr 1 [])], [.box 110 (.val (.vec 16 (.int .i32)) (List.replicate 16 (0 : Int32))), .box 110 (.val (.vec 16 (.int .i32)) a)], []⟩
def x8 (kn6 : K_) (b : UInt64) (f : Int) (a : LX) (g : Int32) : Option R_ := H.e P_ [r,r,l,r,d,(lp kn6),r,l,d,r,r] ⟨[(0, vq b), (2, .ptr 0 []), (3, .ptr 1 []), (4, vi f), (5, vx g)], [.box 110 (.val (.vec 16 (.int .i32)) (List.replicate 16 (0 : Int32))), .box 110 (.val (.vec 16 (.int .i32)) a)], []⟩
def x6 (b : UInt64) (f : Int) (a : LX) : Option R_ := H.e P_ [r,r,l,r,d] (t6 b f a)
theorem e10 : x10 = Agh := by kernel_rfl
theorem e8 (kn6 : K_) : x8 kn6 = Rt (fun b f a => kn6 (t6 b f a)) := by kernel_rfl
theorem i6 : ∀ (q : Nat) (b : UInt64) (f : Int) (a : LX), z6 q (t6 b f a) = Ge q b f a :=
 ind (fun _ _ _ => by kernel_rfl) fun q ih b f a => Eq.trans (b := Ri (x8 (z6 q)) x10 b f a) (by kernel_rfl) (by simp only [e8, e10, ih] <;> rfl)
theorem e6 : x6 = Aiw := by funext b f a; exact Eq.trans (by kernel_rfl) ((i6 Bk b f a).trans (by rw [Aj]; rfl))
noncomputable def F (x : UInt64) := Afq x
theorem rn (x : UInt64) : H.u P_ x = F x := Eq.trans (b := Aha x6 x) (by kernel_rfl) (by simp only [e6] <;> rfl)
noncomputable def c : Con := ⟨H.p, H.r, F⟩
theorem ok : ConOk P_ Tryz.gl 116 c := Tryz.co H Tryz.func116 .nil (by kernel_rfl) rn
end F116
namespace F70
noncomputable def H : Hd := ⟨[Ss], [.lf (.vec 16 (.int .i32)) none, Si], .d, ⟨[(115, F115.c), (116, F116.c)], Tryz.gl, false⟩, [], Tryz.f70⟩
noncomputable def F (x : LB) := Hi x
theorem rn (x : LB) : H.u P_ x = F x := by kernel_rfl
noncomputable def c : Con := ⟨H.p, H.r, F⟩
theorem ok : ConOk P_ Tryz.gl 70 c := Tryz.co H Tryz.func70 (.cons F115.ok (.cons F116.ok .nil)) (by kernel_rfl) rn
end F70
namespace F216
noncomputable def H : Hd := ⟨[Si], [Si], .d, ⟨[], Tryz.gl, false⟩, [], Tryz.f216⟩
noncomputable def F (x : Int) := Ng x
theorem rn (x : Int) : H.u P_ x = F x := by kernel_rfl
noncomputable def c : Con := ⟨H.p, H.r, F⟩
theorem ok : ConOk P_ Tryz.gl 216 c := Tryz.co H Tryz.func216 .nil (by kernel_rfl) rn
end F216
namespace F175
noncomputable def H : Hd := ⟨[.agg [Si, Si]], [Si], .d, ⟨[(216, F216.c)], Tryz.gl, false⟩, [], Tryz.f175⟩
noncomputable def F (x : Int × Int) := Zn x.1 x.2
theorem rn (x : Int × Int) : H.u P_ x = F x := by kernel_rfl
noncomputable def c : Con := ⟨H.p, H.r, F⟩
theorem ok : ConOk P_ Tryz.gl 175 c := Tryz.co H Tryz.func175 (.cons F216.ok .nil) (by kernel_rfl) rn
end F175
namespace F117
noncomputable def H : Hd := ⟨[.agg [Si, Si], Si], [Si], .d, ⟨[(175, F175.c)], Tryz.gl, false⟩, [], Tryz.f117⟩
noncomputable def F (x : Int × Int × Int) := Rk x.1 x.2.1 x.2.2
theorem rn (x : Int × Int × Int) : H.u P_ x = F x := by kernel_rfl
noncomputable def c : Con := ⟨H.p, H.r, F⟩
theorem ok : ConOk P_ Tryz.gl 117 c := Tryz.co H Tryz.func117 (.cons F175.ok .nil) (by kernel_rfl) rn
end F117
namespace F176
noncomputable def H : Hd := ⟨[Sb], [Ob 5], .d, ⟨[(148, F148.c)], Tryz.gl, false⟩, [], Tryz.f176⟩
noncomputable def F (x : LB) := Pb x
theorem rn (x : LB) : H.u P_ x = F x := by kernel_rfl
noncomputable def c : Con := ⟨H.p, H.r, F⟩
theorem ok : ConOk P_ Tryz.gl 176 c := Tryz.co H Tryz.func176 (.cons F148.ok .nil) (by kernel_rfl) rn
end F176
namespace F118
noncomputable def H : Hd := ⟨[Sb], [Si], .d, ⟨[(176, F176.c)], Tryz.gl, false⟩, [], Tryz.f118⟩
noncomputable def F (x : LB) := Jw x
theorem rn (x : LB) : H.u P_ x = F x := by kernel_rfl
noncomputable def c : Con := ⟨H.p, H.r, F⟩
theorem ok : ConOk P_ Tryz.gl 118 c := Tryz.co H Tryz.func118 (.cons F176.ok .nil) (by kernel_rfl) rn
end F118
namespace F177
noncomputable def H : Hd := ⟨[], [.agg [Si, Si, Sq, Sq]], .d, ⟨[], Tryz.gl, false⟩, [], Tryz.f177⟩
noncomputable def F (x : Unit) := Io
theorem rn (x : Unit) : H.u P_ x = F x := by kernel_rfl
noncomputable def c : Con := ⟨H.p, H.r, F⟩
theorem ok : ConOk P_ Tryz.gl 177 c := Tryz.co H Tryz.func177 .nil (by kernel_rfl) rn
end F177
namespace F235
abbrev R_ := UInt64
noncomputable def H : Hd := ⟨[Si], [Sq], (.seq .d (.seq .d (.cut [3] [] (.seq .d (.blk (.loop [0, 3, 4] [] .d))) .d))), ⟨[], Tryz.gl, false⟩, [], Tryz.f235⟩
def t4 (b : Int) (a : UInt64) (f : Int) : S := ⟨[(0, vi b), (3, vq a), (4, vi f)], [], []⟩
def z4 : Nat → S → Option R_ := H.i P_ [r,r,l,r,d]
def x6 (a : UInt64) : Option R_ := H.e P_ [r,r,r] ⟨[(3, vq a)], [], []⟩
def x4 (b : Int) (a : UInt64) (f : Int) : Option R_ := H.e P_ [r,r,l,r,d] (t4 b a f)
theorem e6 : x6 = Acx := by kernel_rfl
theorem i4 (b : Int) : ∀ (q : Nat) (a : UInt64) (f : Int), z4 q (t4 b a f) = Fo b q a f :=
 ind (fun _ _ => by kernel_rfl) fun q ih a f => Eq.trans (b := Ly x6 (fun a f => (z4 q) (t4 b a f)) b a f) (by kernel_rfl) (by simp only [e6, ih] <;> rfl)
theorem e4 : x4 = Ac0 := by funext b a f; exact Eq.trans (by kernel_rfl) ((i4 b Bk a f).trans (by rw [Aj]; rfl))
noncomputable def F (x : Int) := Ec x
theorem rn (x : Int) : H.u P_ x = F x := Eq.trans (b := Acj x4 x) (by kernel_rfl) (by simp only [e4] <;> rfl)
noncomputable def c : Con := ⟨H.p, H.r, F⟩
theorem ok : ConOk P_ Tryz.gl 235 c := Tryz.co H Tryz.func235 .nil (by kernel_rfl) rn
end F235
namespace F268
noncomputable def H : Hd := ⟨[.agg [Si, Si, Sq, Sq], Su], [Sz], .d, ⟨[(235, F235.c)], Tryz.gl, false⟩, [], Tryz.f268⟩
noncomputable def F (x : Int × Int × UInt64 × UInt64 × UInt32) := Qo x.1 x.2.1 x.2.2.1 x.2.2.2.1 x.2.2.2.2
theorem rn (x : Int × Int × UInt64 × UInt64 × UInt32) : H.u P_ x = F x := by kernel_rfl
noncomputable def c : Con := ⟨H.p, H.r, F⟩
theorem ok : ConOk P_ Tryz.gl 268 c := Tryz.co H Tryz.func268 (.cons F235.ok .nil) (by kernel_rfl) rn
end F268
namespace F270
noncomputable def H : Hd := ⟨[.agg [Si, Si, Sq, Sq], Su], [Su], .d, ⟨[(235, F235.c)], Tryz.gl, false⟩, [], Tryz.f270⟩
noncomputable def F (x : Int × Int × UInt64 × UInt64 × UInt32) := Di x.1 x.2.1 x.2.2.1 x.2.2.2.1 x.2.2.2.2
theorem rn (x : Int × Int × UInt64 × UInt64 × UInt32) : H.u P_ x = F x := by kernel_rfl
noncomputable def c : Con := ⟨H.p, H.r, F⟩
theorem ok : ConOk P_ Tryz.gl 270 c := Tryz.co H Tryz.func270 (.cons F235.ok .nil) (by kernel_rfl) rn
end F270
namespace F269
abbrev R_ := (Int × UInt64)
noncomputable def H : Hd := ⟨[Si, Sq, Sq], [Si, Sq], (.seq .d (.seq .d (.cut [0, 1] [] .d .d))), ⟨[(235, F235.c)], Tryz.gl, false⟩, [], Tryz.f269⟩
def x2 (b : Int) (a f : UInt64) : Option R_ := H.e P_ [r,r,r] ⟨[(0, vi b), (1, vq (Al (Ae a f) (Df a (16 : UInt64))))], [], []⟩
theorem e2 : x2 = Nr := by kernel_rfl
noncomputable def F (x : Int × UInt64 × UInt64) := Cv x.1 x.2.1 x.2.2
theorem rn (x : Int × UInt64 × UInt64) : H.u P_ x = F x := Eq.trans (b := Wa x2 x.1 x.2.1 x.2.2) (by kernel_rfl) (by simp only [e2] <;> rfl)
noncomputable def c : Con := ⟨H.p, H.r, F⟩
theorem ok : ConOk P_ Tryz.gl 269 c := Tryz.co H Tryz.func269 (.cons F235.ok .nil) (by kernel_rfl) rn
end F269
namespace F231
def Py (j2 : UInt32 → Int → Int → UInt64 → UInt64 → Int → UInt64 → Option (Int × Int × UInt64 × UInt64)) (f a : Int) (g b : UInt64) (h : UInt32) : Option (Int × Int × UInt64 × UInt64) :=
(Qo f a g b h).bind fun u =>
if (!u) then
both (
both (
(Di f a g b h).bind fun k =>
(Cv a b (Ad k : UInt64)).bind fun (m, n) =>
j2 h f a g b m n) [
bo (
(Di f a g b h).bind fun k =>
(Cv a b (Ad k : UInt64)).bind fun (m, n) =>
j2 h f a g b m n)]) [
both (
(Di f a g b h).bind fun k =>
(Cv a b (Ad k : UInt64)).bind fun (m, n) =>
j2 h f a g b m n) [
bo (
(Di f a g b h).bind fun k =>
(Cv a b (Ad k : UInt64)).bind fun (m, n) =>
j2 h f a g b m n)],
both (
bo (
(Di f a g b h).bind fun k =>
(Cv a b (Ad k : UInt64)).bind fun (m, n) =>
j2 h f a g b m n)) [
bo (
(Di f a g b h).bind fun k =>
(Cv a b (Ad k : UInt64)).bind fun (m, n) =>
j2 h f a g b m n),
(Di f a g b h).bind fun k =>
bo (
(Cv a b (Ad k : UInt64)).bind fun (m, n) =>
j2 h f a g b m n)]]
else
j2 h f a g b a b
theorem Aiy : @Py = @Kj := by
  unfold Py Kj
  repeat (refine funext fun _ => ?_)
  repeat' first
    | with_reducible rfl
    | with_reducible refine Nl ?_ ?_
    | with_reducible refine Mw ?_ ?_ ?_
    | with_reducible refine Od ?_ ?_ ?_ ?_
    | ((with_reducible refine Vb ?_ ?_); focus (intro h; first | (subst h; rfl) | (simp only [h]; rfl) | (simp [Iy, Ac, h]; done)))
    | with_reducible refine Up fun x => ?_
    | with_reducible refine Aav (fun _ => ?_) (fun _ => ?_)
    | (refine Hb (fun h => by simp only [h, Uq, Ev, El, ite_self]) (fun x h => ?_); (try simp only [h, Ev]))
    | (refine Jp (fun h => ?_) (fun h => ?_) <;> simp only [h, if_true, if_false, Bool.false_eq_true])
abbrev R_ := (Int × Int × UInt64 × UInt64)
noncomputable def H : Hd := ⟨[.agg [Si, Si, Sq, Sq], Su], [.agg [Si, Si, Sq, Sq]], (.seq .d (.seq .d (.cut [1, 2, 4, 5] [] (.seq .d (.cond (.mode false) .d)) .d))), ⟨[(268, F268.c), (269, F269.c), (270, F270.c)], Tryz.gl, false⟩, [], Tryz.f231⟩
def x2 (h : UInt32) (f a : Int) (g b : UInt64) (o : Int) (p : UInt64) : Option R_ := H.e P_ [r,r,r] ⟨[(1, vu h), (2, .ptr 0 []), (4, .ptr 1 []), (5, .ptr 2 [])], [.box 223 (.agg [vi f, vi a, vq g, vq b]), .box 223 (.agg [vi 0, vi 0, vq 0, vq 0]), .box 223 (.agg [vi f, vi o, vq g, vq p])], []⟩
theorem e2 : x2 = Kk := by kernel_rfl
noncomputable def F (x : Int × Int × UInt64 × UInt64 × UInt32) := Pf x.1 x.2.1 x.2.2.1 x.2.2.2.1 x.2.2.2.2
theorem rn (x : Int × Int × UInt64 × UInt64 × UInt32) : H.u P_ x = F x := Eq.trans (b := Py x2 x.1 x.2.1 x.2.2.1 x.2.2.2.1 x.2.2.2.2) (by kernel_rfl) (by rw [Aiy]; simp only [e2] <;> rfl)
noncomputable def c : Con := ⟨H.p, H.r, F⟩
theorem ok : ConOk P_ Tryz.gl 231 c := Tryz.co H Tryz.func231 (.cons F268.ok (.cons F269.ok (.cons F270.ok .nil))) (by kernel_rfl) rn
end F231
namespace F178
abbrev R_ := (Int × Int × UInt64 × UInt64)
noncomputable def H : Hd := ⟨[Si, Sv], [.agg [Si, Si, Sq, Sq]], (.seq .d (.seq .d (.cut [4, 5] [] (.seq .d (.blk (.loop [0, 1, 4, 5, 6] [] .d))) .d))), ⟨[(177, F177.c), (231, F231.c)], Tryz.gl, false⟩, [], Tryz.f178⟩
def t4 (h : Int) (k : LU) (m a b : Int) (f g : UInt64) : S := ⟨[(0, vi h), (1, vv k), (4, .ptr 0 []), (5, .ptr 1 []), (6, vi m)], [.box 223 (.agg [vi 0, vi 0, vq 0, vq 0]), .box 223 (.agg [vi a, vi b, vq f, vq g])], []⟩
def z4 : Nat → S → Option R_ := H.i P_ [r,r,l,r,d]
def x6 (a b : Int) (f g : UInt64) : Option R_ := H.e P_ [r,r,r] ⟨[(4, .ptr 0 []), (5, .ptr 1 [])], [.box 223 (.agg [vi 0, vi 0, vq 0, vq 0]), .box 223 (.agg [vi a, vi b, vq f, vq g])], []⟩
def x4 (h : Int) (k : LU) (m a b : Int) (f g : UInt64) : Option R_ := H.e P_ [r,r,l,r,d] (t4 h k m a b f g)
theorem e6 : x6 = Aa4 := by kernel_rfl
theorem i4 (h : Int) (k : LU) : ∀ (q : Nat) (m a b : Int) (f g : UInt64), z4 q (t4 h k m a b f g) = He h k q m a b f g :=
 ind (fun _ _ _ _ _ => by kernel_rfl) fun q ih m a b f g => Eq.trans (b := Rl x6 (fun m a b f g => (z4 q) (t4 h k m a b f g)) h k m a b f g) (by kernel_rfl) (by simp only [e6, ih] <;> rfl)
theorem e4 : x4 = Aa6 := by funext h k m a b f g; exact Eq.trans (by kernel_rfl) ((i4 h k Bk m a b f g).trans (by rw [Aj]; rfl))
noncomputable def F (x : Int × LU) := Ka x.1 x.2
theorem rn (x : Int × LU) : H.u P_ x = F x := Eq.trans (b := Sj x4 x.1 x.2) (by kernel_rfl) (by simp only [e4] <;> rfl)
noncomputable def c : Con := ⟨H.p, H.r, F⟩
theorem ok : ConOk P_ Tryz.gl 178 c := Tryz.co H Tryz.func178 (.cons F177.ok (.cons F231.ok .nil)) (by kernel_rfl) rn
end F178
namespace F181
abbrev R_ := Int
noncomputable def H : Hd := ⟨[.agg [Sb, Si], Si], [Si], (.seq .d (.seq .d (.cut [5] [] (.seq .d (.blk (.loop [1, 5, 6] [] .d))) .d))), ⟨[], Tryz.gl, false⟩, [], Tryz.f181⟩
def t4 (b a f : Int) : S := ⟨[(1, vi b), (5, vi a), (6, vi f)], [], []⟩
def z4 : Nat → S → Option R_ := H.i P_ [r,r,l,r,d]
def x6 (a : Int) : Option R_ := H.e P_ [r,r,r] ⟨[(5, vi a)], [], []⟩
def x4 (b a f : Int) : Option R_ := H.e P_ [r,r,l,r,d] (t4 b a f)
theorem e6 : x6 = Zj := by kernel_rfl
theorem i4 (b : Int) : ∀ (q : Nat) (a f : Int), z4 q (t4 b a f) = Im b q a f :=
 ind (fun _ _ => by kernel_rfl) fun q ih a f => Eq.trans (b := Sk x6 (fun a f => (z4 q) (t4 b a f)) b a f) (by kernel_rfl) (by simp only [e6, ih] <;> rfl)
theorem e4 : x4 = Zh := by funext b a f; exact Eq.trans (by kernel_rfl) ((i4 b Bk a f).trans (by rw [Aj]; rfl))
noncomputable def F (x : LB × Int × Int) := Hr x.1 x.2.1 x.2.2
theorem rn (x : LB × Int × Int) : H.u P_ x = F x := Eq.trans (b := Zp x4 x.1 x.2.1 x.2.2) (by kernel_rfl) (by simp only [e4] <;> rfl)
noncomputable def c : Con := ⟨H.p, H.r, F⟩
theorem ok : ConOk P_ Tryz.gl 181 c := Tryz.co H Tryz.func181 .nil (by kernel_rfl) rn
end F181
namespace F232
abbrev R_ := (LB × Int)
noncomputable def H : Hd := ⟨[.agg [Ob 5, Si], Si], [.agg [Ob 5, Si]], (.seq .d (.cut [1, 2, 4] [] .d (.seq .d (.cut [1, 2, 4, 5] [] (.seq .d (.blk (.loop [1, 2, 4, 5, 6] [] .d))) .d)))), ⟨[], Tryz.gl, false⟩, [], Tryz.f232⟩
def t6 (b a : Int) (f : LB) (g h : Int) : S := ⟨[(1, vi b), (2, .ptr 0 []), (4, .ptr 1 []), (5, vi g), (6, vi h)], [.box 164 (.agg [.own 2, vi a]), .box 164 (.agg [.nils, vi 0]), Ab 5 f], []⟩
def z6 : Nat → S → Option R_ := H.i P_ [r,r,r,l,r,d]
def x8 (b g a : Int) (f : LB) : Option R_ := H.e P_ [r,r,r,r] ⟨[(1, vi b), (2, .ptr 0 []), (4, .ptr 1 []), (5, vi g)], [.box 164 (.agg [.own 2, vi a]), .box 164 (.agg [.nils, vi 0]), Ab 5 f], []⟩
def x6 (b a : Int) (f : LB) (g h : Int) : Option R_ := H.e P_ [r,r,r,l,r,d] (t6 b a f g h)
def x5 (b a : Int) (f : LB) : Option R_ := H.e P_ [r,r] ⟨[(1, vi b), (2, .ptr 0 []), (4, .ptr 1 [])], [.box 164 (.agg [.own 2, vi a]), .box 164 (.agg [.nils, vi 0]), Ab 5 f], []⟩
theorem e8 : x8 = Ph := by kernel_rfl
theorem i6 (b a : Int) (f : LB) : ∀ (q : Nat) (g h : Int), z6 q (t6 b a f g h) = Hl b a f q g h :=
 ind (fun _ _ => by kernel_rfl) fun q ih g h => Eq.trans (b := Pm x8 (fun g h => (z6 q) (t6 b a f g h)) b a f g h) (by kernel_rfl) (by simp only [e8, ih] <;> rfl)
theorem e6 : x6 = Yc := by funext b a f g h; exact Eq.trans (by kernel_rfl) ((i6 b a f Bk g h).trans (by rw [Aj]; rfl))
theorem e5 : x5 = Oz := Eq.trans (b := Yb x6) (by kernel_rfl) (by simp only [e6] <;> rfl)
noncomputable def F (x : LB × Int × Int) := Qu x.1 x.2.1 x.2.2
theorem rn (x : LB × Int × Int) : H.u P_ x = F x := Eq.trans (b := Xl x5 x.1 x.2.1 x.2.2) (by kernel_rfl) (by simp only [e5] <;> rfl)
noncomputable def c : Con := ⟨H.p, H.r, F⟩
theorem ok : ConOk P_ Tryz.gl 232 c := Tryz.co H Tryz.func232 .nil (by kernel_rfl) rn
end F232
namespace F179
abbrev R_ := (LB × Int)
noncomputable def H : Hd := ⟨[.agg [Sb, Si], Si, Si], [.agg [Ob 5, Si]], (.seq .d (.seq .d (.cut [6, 7] [] (.seq .d (.blk (.loop [2, 3, 6, 7, 8] [⟨7, [0], .own 5 (.int .u8)⟩] .d))) .d))), ⟨[(181, F181.c), (232, F232.c)], Tryz.gl, false⟩, [], Tryz.f179⟩
def t4 (f : Int) (g : LB) (h k a : Int) (b : LB) : S := ⟨[(2, vi f), (3, .ptr 0 []), (6, .ptr 1 []), (7, .ptr 2 []), (8, vi k)], [.box 164 (.agg [vb g, vi h]), .box 164 (.agg [.nils, vi 0]), .box 164 (.agg [.own 3, vi a]), Ab 5 b], []⟩
def z4 : Nat → S → Option R_ := H.i P_ [r,r,l,r,d]
def x6 (a : Int) (b : LB) : Option R_ := H.e P_ [r,r,r] ⟨[(6, .ptr 0 []), (7, .ptr 1 [])], [.box 164 (.agg [.nils, vi 0]), .box 164 (.agg [.own 2, vi a]), Ab 5 b], []⟩
def x4 (f : Int) (g : LB) (h k a : Int) (b : LB) : Option R_ := H.e P_ [r,r,l,r,d] (t4 f g h k a b)
theorem e6 : x6 = Aac := by kernel_rfl
theorem i4 (f : Int) (g : LB) (h : Int) : ∀ (q : Nat) (k a : Int) (b : LB), z4 q (t4 f g h k a b) = Ep f g h q k a b :=
 ind (fun _ _ _ => by kernel_rfl) fun q ih k a b => Eq.trans (b := Jd x6 (fun k a b => (z4 q) (t4 f g h k a b)) f g h k a b) (by kernel_rfl) (by simp only [e6, ih] <;> rfl)
theorem e4 : x4 = Aae := by funext f g h k a b; exact Eq.trans (by kernel_rfl) ((i4 f g h Bk k a b).trans (by rw [Aj]; rfl))
noncomputable def F (x : LB × Int × Int × Int) := Vz x.1 x.2.1 x.2.2.1 x.2.2.2
theorem rn (x : LB × Int × Int × Int) : H.u P_ x = F x := Eq.trans (b := Zy x4 x.1 x.2.1 x.2.2.1 x.2.2.2) (by kernel_rfl) (by simp only [e4] <;> rfl)
noncomputable def c : Con := ⟨H.p, H.r, F⟩
theorem ok : ConOk P_ Tryz.gl 179 c := Tryz.co H Tryz.func179 (.cons F181.ok (.cons F232.ok .nil)) (by kernel_rfl) rn
end F179
namespace F233
abbrev R_ := UInt64
noncomputable def H : Hd := ⟨[.agg [Sb, Si], Si, Si], [Sq], (.seq .d (.seq .d (.cut [7] [] (.seq .d (.blk (.loop [1, 3, 7, 8] [] .d))) .d))), ⟨[(181, F181.c)], Tryz.gl, false⟩, [], Tryz.f233⟩
def t4 (b : Int) (f : LB) (g : Int) (a : UInt64) (h : Int) : S := ⟨[(1, vi b), (3, .ptr 0 []), (7, vq a), (8, vi h)], [.box 164 (.agg [vb f, vi g])], []⟩
def z4 : Nat → S → Option R_ := H.i P_ [r,r,l,r,d]
def x6 (a : UInt64) : Option R_ := H.e P_ [r,r,r] ⟨[(7, vq a)], [], []⟩
def x4 (b : Int) (f : LB) (g : Int) (a : UInt64) (h : Int) : Option R_ := H.e P_ [r,r,l,r,d] (t4 b f g a h)
theorem e6 : x6 = Acm := by kernel_rfl
theorem i4 (b : Int) (f : LB) (g : Int) : ∀ (q : Nat) (a : UInt64) (h : Int), z4 q (t4 b f g a h) = Fl b f g q a h :=
 ind (fun _ _ => by kernel_rfl) fun q ih a h => Eq.trans (b := Lt x6 (fun a h => (z4 q) (t4 b f g a h)) b f g a h) (by kernel_rfl) (by simp only [e6, ih] <;> rfl)
theorem e4 : x4 = Ub := by funext b f g a h; exact Eq.trans (by kernel_rfl) ((i4 b f g Bk a h).trans (by rw [Aj]; rfl))
noncomputable def F (x : LB × Int × Int × Int) := Kw x.1 x.2.1 x.2.2.1 x.2.2.2
theorem rn (x : LB × Int × Int × Int) : H.u P_ x = F x := Eq.trans (b := Tk x4 x.1 x.2.1 x.2.2.1 x.2.2.2) (by kernel_rfl) (by simp only [e4] <;> rfl)
noncomputable def c : Con := ⟨H.p, H.r, F⟩
theorem ok : ConOk P_ Tryz.gl 233 c := Tryz.co H Tryz.func233 (.cons F181.ok .nil) (by kernel_rfl) rn
end F233
namespace F271
abbrev R_ := (Int × Int)
noncomputable def H : Hd := ⟨[.agg [Sb, Si], Si], [Si, Si], (.seq .d (.seq .d (.cut [1, 2, 6] [] (.blk (.loop [1, 2, 6] [] .d)) .d))), ⟨[(181, F181.c)], Tryz.gl, false⟩, [], Tryz.f271⟩
def t4 (b : Int) (g : LB) (f a : Int) : S := ⟨[(1, vi b), (2, .ptr 0 []), (6, vi a)], [.box 164 (.agg [vb g, vi f])], []⟩
def z4 : Nat → S → Option R_ := H.i P_ [r,r,l,d]
def x6 (b a : Int) (g : LB) (f : Int) : Option R_ := H.e P_ [r,r,r] ⟨[(1, vi b), (2, .ptr 0 []), (6, vi a)], [.box 164 (.agg [vb g, vi f])], []⟩
def x4 (b : Int) (g : LB) (f a : Int) : Option R_ := H.e P_ [r,r,l,d] (t4 b g f a)
theorem e6 : x6 = Pj := by kernel_rfl
theorem i4 (b : Int) (g : LB) (f : Int) : ∀ (q : Nat) (a : Int), z4 q (t4 b g f a) = Hn b g f q a :=
 ind (fun _ => by kernel_rfl) fun q ih a => Eq.trans (b := Pp x6 (fun a => (z4 q) (t4 b g f a)) b g f a) (by kernel_rfl) (by simp only [e6, ih] <;> rfl)
theorem e4 : x4 = Agl := by funext b g f a; exact Eq.trans (by kernel_rfl) ((i4 b g f Bk a).trans (by rw [Aj]; rfl))
noncomputable def F (x : LB × Int × Int) := Adz x.1 x.2.1 x.2.2
theorem rn (x : LB × Int × Int) : H.u P_ x = F x := Eq.trans (b := Agm x4 x.1 x.2.1 x.2.2) (by kernel_rfl) (by simp only [e4] <;> rfl)
noncomputable def c : Con := ⟨H.p, H.r, F⟩
theorem ok : ConOk P_ Tryz.gl 271 c := Tryz.co H Tryz.func271 (.cons F181.ok .nil) (by kernel_rfl) rn
end F271
namespace F272
noncomputable def H : Hd := ⟨[Su, Si], [Si], .d, ⟨[(235, F235.c)], Tryz.gl, false⟩, [], Tryz.f272⟩
noncomputable def F (x : UInt32 × Int) := Va x.1 x.2
theorem rn (x : UInt32 × Int) : H.u P_ x = F x := by kernel_rfl
noncomputable def c : Con := ⟨H.p, H.r, F⟩
theorem ok : ConOk P_ Tryz.gl 272 c := Tryz.co H Tryz.func272 (.cons F235.ok .nil) (by kernel_rfl) rn
end F272
namespace F234
abbrev R_ := (UInt32 × Int × Int)
noncomputable def H : Hd := ⟨[.agg [Sb, Si], Si, Si], [Su, Si, Si], (.seq .d (.seq .d (.seq .d (.seq .d (.cut [2, 3, 9, 10, 11] [] .d .d))))), ⟨[(233, F233.c), (235, F235.c), (271, F271.c), (272, F272.c)], Tryz.gl, false⟩, [], Tryz.f234⟩
def x2 (g a b : Int) (h : LB) (f k : Int) : Option R_ := H.e P_ [r,r,r,r,r] ⟨[(2, vi g), (3, .ptr 0 []), (9, vi a), (10, vi b), (11, vi k)], [.box 164 (.agg [vb h, vi f])], []⟩
theorem e2 : x2 = Oy := by kernel_rfl
noncomputable def F (x : LB × Int × Int × Int) := Xb x.1 x.2.1 x.2.2.1 x.2.2.2
theorem rn (x : LB × Int × Int × Int) : H.u P_ x = F x := Eq.trans (b := Xy x2 x.1 x.2.1 x.2.2.1 x.2.2.2) (by kernel_rfl) (by simp only [e2] <;> rfl)
noncomputable def c : Con := ⟨H.p, H.r, F⟩
theorem ok : ConOk P_ Tryz.gl 234 c := Tryz.co H Tryz.func234 (.cons F233.ok (.cons F235.ok (.cons F271.ok (.cons F272.ok .nil)))) (by kernel_rfl) rn
end F234
namespace F180
noncomputable def H : Hd := ⟨[.agg [Sb, Si], Si, .agg [Si, Si, Sq, Sq]], [Su, Si, Si], .d, ⟨[(181, F181.c), (233, F233.c), (234, F234.c), (235, F235.c)], Tryz.gl, false⟩, [], Tryz.f180⟩
noncomputable def F (x : LB × Int × Int × Int × Int × UInt64 × UInt64) := Wz x.1 x.2.1 x.2.2.1 x.2.2.2.1 x.2.2.2.2.1 x.2.2.2.2.2.1 x.2.2.2.2.2.2
theorem rn (x : LB × Int × Int × Int × Int × UInt64 × UInt64) : H.u P_ x = F x := by kernel_rfl
noncomputable def c : Con := ⟨H.p, H.r, F⟩
theorem ok : ConOk P_ Tryz.gl 180 c := Tryz.co H Tryz.func180 (.cons F181.ok (.cons F233.ok (.cons F234.ok (.cons F235.ok .nil)))) (by kernel_rfl) rn
end F180
namespace F119
abbrev R_ := (LU × Int)
abbrev K_ := S → Option R_
noncomputable def H : Hd := ⟨[Si, Si, Sb], [Ov 206, Si], (.seq .d (.seq .d (.seq .d (.seq .d (.cut [8, 9, 10] [] (.seq .d (.blk (.loop [0, 1, 8, 9, 10, 11] [⟨9, [], .own 206 (.int .u32)⟩] (.seq .d (.seq (.blk (.seq .d (.cut [0, 1, 8, 9, 10, 11, 12] [] .d .d))) .d))))) (.seq .d (.cut [9] [] (.blk (.loop [8, 9, 10] [] .d)) .d))))))), ⟨[(177, F177.c), (178, F178.c), (179, F179.c), (180, F180.c), (181, F181.c)], Tryz.gl, false⟩, [], Tryz.f119⟩
def t16 (a : LB) (b : LU) (m : Int) : S := ⟨[(8, .ptr 0 []), (9, .own 1), (10, vi m)], [.box 164 (.agg [vb a, vi (Be (8 : Int) (Ac a))]), Av 206 b], []⟩
def z16 : Nat → S → Option R_ := H.i P_ [r,r,r,r,r,r,l,d]
def t10 (g h : Int) (a : LB) (f k : Int) (b : LU) : S := ⟨[(0, vi g), (1, vi h), (8, .ptr 0 []), (9, .own 1), (10, vi f), (11, vi k)], [.box 164 (.agg [vb a, vi (Be (8 : Int) (Ac a))]), Av 206 b], []⟩
def z10 : Nat → S → Option R_ := H.i P_ [r,r,r,r,l,r,d]
def x18 (b : LU) : Option R_ := H.e P_ [r,r,r,r,r,r,r] ⟨[(9, .own 0)], [Av 206 b], []⟩
def x16 (a : LB) (b : LU) (m : Int) : Option R_ := H.e P_ [r,r,r,r,r,r,l,d] (t16 a b m)
def x15 (f : Int) (a : LB) (b : LU) : Option R_ := H.e P_ [r,r,r,r,r] ⟨[(8, .ptr 0 []), (9, .own 1), (10, vi f)], [.box 164 (.agg [vb a, vi (Be (8 : Int) (Ac a))]), Av 206 b], []⟩
def x13 (kn10 : K_) (g h : Int) (a : LB) (f k : Int) (b : LU) (o p : Int) (u v : UInt64) : Option R_ := H.e P_ [r,r,r,r,l,r,d,(lp kn10),r,l,d,r,r] ⟨[(0, vi g), (1, vi h), (8, .ptr 0 []), (9, .own 1), (10, vi f), (11, vi k), (12, .ptr 2 [])], [.box 164 (.agg [vb a, vi (Be (8 : Int) (Ac a))]), Av 206 b, .box 223 (.agg [vi o, vi p, vq u, vq v])], []⟩
def x10 (g h : Int) (a : LB) (f k : Int) (b : LU) : Option R_ := H.e P_ [r,r,r,r,l,r,d] (t10 g h a f k b)
theorem e18 : x18 = Ack := by kernel_rfl
theorem i16 (a : LB) (b : LU) : ∀ (q : Nat) (m : Int), z16 q (t16 a b m) = Fs a b q m :=
 ind (fun _ => by kernel_rfl) fun q ih m => Eq.trans (b := Mc x18 (fun m => (z16 q) (t16 a b m)) a b m) (by kernel_rfl) (by simp only [e18, ih] <;> rfl)
theorem e16 : x16 = Tz := by funext a b m; exact Eq.trans (by kernel_rfl) ((i16 a b Bk m).trans (by rw [Aj]; rfl))
theorem e15 : x15 = Me := Eq.trans (b := Tp x16) (by kernel_rfl) (by simp only [e16] <;> rfl)
theorem e13 (kn10 : K_) (g h : Int) (a : LB) : x13 kn10 g h a = Fq (fun f k b => kn10 (t10 g h a f k b)) g h a := by kernel_rfl
theorem i10 (g h : Int) (a : LB) : ∀ (q : Nat) (f k : Int) (b : LU), z10 q (t10 g h a f k b) = Dr g h a q f k b :=
 ind (fun _ _ _ => by kernel_rfl) fun q ih f k b => Eq.trans (b := Tj (x13 (z10 q) g h a) x15 g h a f k b) (by kernel_rfl) (by simp only [e13, e15, ih] <;> rfl)
theorem e10 : x10 = Aci := by funext g h a f k b; exact Eq.trans (by kernel_rfl) ((i10 g h a Bk f k b).trans (by rw [Aj]; rfl))
noncomputable def F (x : Int × Int × LB) := Uv x.1 x.2.1 x.2.2
theorem rn (x : Int × Int × LB) : H.u P_ x = F x := Eq.trans (b := Vv x10 x.1 x.2.1 x.2.2) (by kernel_rfl) (by simp only [e10] <;> rfl)
noncomputable def c : Con := ⟨H.p, H.r, F⟩
theorem ok : ConOk P_ Tryz.gl 119 c := Tryz.co H Tryz.func119 (.cons F177.ok (.cons F178.ok (.cons F179.ok (.cons F180.ok (.cons F181.ok .nil))))) (by kernel_rfl) rn
end F119
namespace F273
noncomputable def H : Hd := ⟨[Si], [Si, Si], .d, ⟨[], Tryz.gl, false⟩, [], Tryz.f273⟩
noncomputable def F (x : Int) := Aif x
theorem rn (x : Int) : H.u P_ x = F x := by kernel_rfl
noncomputable def c : Con := ⟨H.p, H.r, F⟩
theorem ok : ConOk P_ Tryz.gl 273 c := Tryz.co H Tryz.func273 .nil (by kernel_rfl) rn
end F273
namespace F236
noncomputable def H : Hd := ⟨[Si, .lf (.vec 16 (.int .i32)) none], [.agg [Si, .lf (.vec 16 (.int .i32)) none, .lf (.vec 16 (.int .i32)) none], Si], .d, ⟨[(273, F273.c)], Tryz.gl, false⟩, [], Tryz.f236⟩
noncomputable def F (x : Int × LX) := Alz x.1 x.2
theorem rn (x : Int × LX) : H.u P_ x = F x := by kernel_rfl
noncomputable def c : Con := ⟨H.p, H.r, F⟩
theorem ok : ConOk P_ Tryz.gl 236 c := Tryz.co H Tryz.func236 (.cons F273.ok .nil) (by kernel_rfl) rn
end F236
namespace F182
noncomputable def H : Hd := ⟨[Si, .lf (.vec 16 (.int .i32)) none], [.agg [Si, Sx, .agg [Si, .lf (.vec 16 (.int .i32)) none, .lf (.vec 16 (.int .i32)) none]], Si], .d, ⟨[(236, F236.c)], Tryz.gl, false⟩, [], Tryz.f182⟩
noncomputable def F (x : Int × LX) := Adu x.1 x.2
theorem rn (x : Int × LX) : H.u P_ x = F x := by kernel_rfl
noncomputable def c : Con := ⟨H.p, H.r, F⟩
theorem ok : ConOk P_ Tryz.gl 182 c := Tryz.co H Tryz.func182 (.cons F236.ok .nil) (by kernel_rfl) rn
end F182
namespace F184
noncomputable def H : Hd := ⟨[Su], [Sx], .d, ⟨[], Tryz.gl, false⟩, [], Tryz.f184⟩
noncomputable def F (x : UInt32) := Jl x
theorem rn (x : UInt32) : H.u P_ x = F x := by kernel_rfl
noncomputable def c : Con := ⟨H.p, H.r, F⟩
theorem ok : ConOk P_ Tryz.gl 184 c := Tryz.co H Tryz.func184 .nil (by kernel_rfl) rn
end F184
namespace F238
noncomputable def H : Hd := ⟨[Si], [Sx], .d, ⟨[], Tryz.gl, false⟩, [], Tryz.f238⟩
noncomputable def F (x : Int) := Bu x
theorem rn (x : Int) : H.u P_ x = F x := by kernel_rfl
noncomputable def c : Con := ⟨H.p, H.r, F⟩
theorem ok : ConOk P_ Tryz.gl 238 c := Tryz.co H Tryz.func238 .nil (by kernel_rfl) rn
end F238
namespace F294
abbrev R_ := Int32
noncomputable def H : Hd := ⟨[.agg [Si, .lf (.vec 16 (.int .i32)) none, .lf (.vec 16 (.int .i32)) none]], [Sx], (.seq .d (.seq .d (.cut [3] [] (.seq .d (.blk (.loop [1, 3, 4] [] .d))) .d))), ⟨[(238, F238.c)], Tryz.gl, false⟩, [], Tryz.f294⟩
def t4 (h : Int) (f g : LX) (a b : Int) : S := ⟨[(1, .ptr 0 []), (3, vi a), (4, vi b)], [.box 232 (.agg [vi h, .val (.vec 16 (.int .i32)) f, .val (.vec 16 (.int .i32)) g])], []⟩
def z4 : Nat → S → Option R_ := H.i P_ [r,r,l,r,d]
def x6 (a : Int) : Option R_ := H.e P_ [r,r,r] ⟨[(3, vi a)], [], []⟩
def x4 (h : Int) (f g : LX) (a b : Int) : Option R_ := H.e P_ [r,r,l,r,d] (t4 h f g a b)
theorem e6 : x6 = Xu := by kernel_rfl
theorem i4 (h : Int) (f g : LX) : ∀ (q : Nat) (a b : Int), z4 q (t4 h f g a b) = Ho h f g q a b :=
 ind (fun _ _ => by kernel_rfl) fun q ih a b => Eq.trans (b := Pa x6 (fun a b => (z4 q) (t4 h f g a b)) h f g a b) (by kernel_rfl) (by simp only [e6, ih] <;> rfl)
theorem e4 : x4 = Agk := by funext h f g a b; exact Eq.trans (by kernel_rfl) ((i4 h f g Bk a b).trans (by rw [Aj]; rfl))
noncomputable def F (x : Int × LX × LX) := Ad1 x.1 x.2.1 x.2.2
theorem rn (x : Int × LX × LX) : H.u P_ x = F x := Eq.trans (b := Agi x4 x.1 x.2.1 x.2.2) (by kernel_rfl) (by simp only [e4] <;> rfl)
noncomputable def c : Con := ⟨H.p, H.r, F⟩
theorem ok : ConOk P_ Tryz.gl 294 c := Tryz.co H Tryz.func294 (.cons F238.ok .nil) (by kernel_rfl) rn
end F294
namespace F274
abbrev R_ := Int32
noncomputable def H : Hd := ⟨[.agg [Si, .lf (.vec 16 (.int .i32)) none, .lf (.vec 16 (.int .i32)) none]], [Sx], (.seq .d (.seq .d (.cut [1, 3] [] .d .d))), ⟨[(238, F238.c), (294, F294.c)], Tryz.gl, false⟩, [], Tryz.f274⟩
def x2 (b : Int) (f g : LX) (a : Int) : Option R_ := H.e P_ [r,r,r] ⟨[(1, .ptr 0 []), (3, vi a)], [.box 232 (.agg [vi b, .val (.vec 16 (.int .i32)) f, .val (.vec 16 (.int .i32)) g])], []⟩
theorem e2 : x2 = Nb := by kernel_rfl
noncomputable def F (x : Int × LX × LX) := Us x.1 x.2.1 x.2.2
theorem rn (x : Int × LX × LX) : H.u P_ x = F x := Eq.trans (b := Vt x2 x.1 x.2.1 x.2.2) (by kernel_rfl) (by simp only [e2] <;> rfl)
noncomputable def c : Con := ⟨H.p, H.r, F⟩
theorem ok : ConOk P_ Tryz.gl 274 c := Tryz.co H Tryz.func274 (.cons F238.ok (.cons F294.ok .nil)) (by kernel_rfl) rn
end F274
namespace F295
noncomputable def H : Hd := ⟨[Si], [Sx], .d, ⟨[], Tryz.gl, false⟩, [], Tryz.f295⟩
noncomputable def F (x : Int) := Uz x
theorem rn (x : Int) : H.u P_ x = F x := by kernel_rfl
noncomputable def c : Con := ⟨H.p, H.r, F⟩
theorem ok : ConOk P_ Tryz.gl 295 c := Tryz.co H Tryz.func295 .nil (by kernel_rfl) rn
end F295
namespace F296
noncomputable def H : Hd := ⟨[Sx], [Sx], .d, ⟨[], Tryz.gl, false⟩, [], Tryz.f296⟩
noncomputable def F (x : Int32) := Nu x
theorem rn (x : Int32) : H.u P_ x = F x := by kernel_rfl
noncomputable def c : Con := ⟨H.p, H.r, F⟩
theorem ok : ConOk P_ Tryz.gl 296 c := Tryz.co H Tryz.func296 .nil (by kernel_rfl) rn
end F296
namespace F276
abbrev R_ := (Int × LX × LX)
noncomputable def H : Hd := ⟨[.agg [Si, .lf (.vec 16 (.int .i32)) none, .lf (.vec 16 (.int .i32)) none], Sx], [.agg [Si, .lf (.vec 16 (.int .i32)) none, .lf (.vec 16 (.int .i32)) none]], (.seq .d (.cut [2, 4] [] (.seq .d (.blk (.loop [1, 2, 4, 5] [] .d))) .d)), ⟨[(295, F295.c), (296, F296.c)], Tryz.gl, false⟩, [], Tryz.f276⟩
def t4 (h : Int32) (g : Int) (a : LX) (f : Int) (b : LX) : S := ⟨[(1, vx h), (2, .ptr 0 []), (4, .ptr 1 []), (5, vi f)], [.box 232 (.agg [vi g, .val (.vec 16 (.int .i32)) b, .val (.vec 16 (.int .i32)) a]), .box 232 (.agg [vi 0, .val (.vec 16 (.int .i32)) (List.replicate 16 (0 : Int32)), .val (.vec 16 (.int .i32)) (List.replicate 16 (0 : Int32))])], []⟩
def z4 : Nat → S → Option R_ := H.i P_ [r,l,r,d]
def x6 (g : Int) (b a : LX) : Option R_ := H.e P_ [r,r] ⟨[(2, .ptr 0 []), (4, .ptr 1 [])], [.box 232 (.agg [vi g, .val (.vec 16 (.int .i32)) b, .val (.vec 16 (.int .i32)) a]), .box 232 (.agg [vi 0, .val (.vec 16 (.int .i32)) (List.replicate 16 (0 : Int32)), .val (.vec 16 (.int .i32)) (List.replicate 16 (0 : Int32))])], []⟩
def x4 (h : Int32) (g : Int) (a : LX) (f : Int) (b : LX) : Option R_ := H.e P_ [r,l,r,d] (t4 h g a f b)
theorem e6 : x6 = Zw := by kernel_rfl
theorem i4 (h : Int32) (g : Int) (a : LX) : ∀ (q : Nat) (f : Int) (b : LX), z4 q (t4 h g a f b) = En h g a q f b :=
 ind (fun _ _ => by kernel_rfl) fun q ih f b => Eq.trans (b := Jk x6 (fun f b => (z4 q) (t4 h g a f b)) h g a f b) (by kernel_rfl) (by simp only [e6, ih] <;> rfl)
theorem e4 : x4 = Aab := by funext h g a f b; exact Eq.trans (by kernel_rfl) ((i4 h g a Bk f b).trans (by rw [Aj]; rfl))
noncomputable def F (x : Int × LX × LX × Int32) := Wn x.1 x.2.1 x.2.2.1 x.2.2.2
theorem rn (x : Int × LX × LX × Int32) : H.u P_ x = F x := Eq.trans (b := Aaa x4 x.1 x.2.1 x.2.2.1 x.2.2.2) (by kernel_rfl) (by simp only [e4] <;> rfl)
noncomputable def c : Con := ⟨H.p, H.r, F⟩
theorem ok : ConOk P_ Tryz.gl 276 c := Tryz.co H Tryz.func276 (.cons F295.ok (.cons F296.ok .nil)) (by kernel_rfl) rn
end F276
namespace F275
abbrev R_ := (Int × LX × LX)
noncomputable def H : Hd := ⟨[.agg [Si, .lf (.vec 16 (.int .i32)) none, .lf (.vec 16 (.int .i32)) none], Sx], [.agg [Si, .lf (.vec 16 (.int .i32)) none, .lf (.vec 16 (.int .i32)) none]], (.seq .d (.cut [1, 2, 4] [] (.seq .d (.blk (.loop [1, 2, 4, 5] [] .d))) .d)), ⟨[], Tryz.gl, false⟩, [], Tryz.f275⟩
def t4 (b : Int32) (f : Int) (g : LX) (h : Int) (a : LX) : S := ⟨[(1, vx b), (2, .ptr 0 []), (4, .ptr 1 []), (5, vi h)], [.box 232 (.agg [vi f, .val (.vec 16 (.int .i32)) g, .val (.vec 16 (.int .i32)) a]), .box 232 (.agg [vi 0, .val (.vec 16 (.int .i32)) (List.replicate 16 (0 : Int32)), .val (.vec 16 (.int .i32)) (List.replicate 16 (0 : Int32))])], []⟩
def z4 : Nat → S → Option R_ := H.i P_ [r,l,r,d]
def x6 (b : Int32) (f : Int) (g a : LX) : Option R_ := H.e P_ [r,r] ⟨[(1, vx b), (2, .ptr 0 []), (4, .ptr 1 [])], [.box 232 (.agg [vi f, .val (.vec 16 (.int .i32)) g, .val (.vec 16 (.int .i32)) a]), .box 232 (.agg [vi 0, .val (.vec 16 (.int .i32)) (List.replicate 16 (0 : Int32)), .val (.vec 16 (.int .i32)) (List.replicate 16 (0 : Int32))])], []⟩
def x4 (b : Int32) (f : Int) (g : LX) (h : Int) (a : LX) : Option R_ := H.e P_ [r,l,r,d] (t4 b f g h a)
theorem e6 : x6 = Rg := by kernel_rfl
theorem i4 (b : Int32) (f : Int) (g : LX) : ∀ (q : Nat) (h : Int) (a : LX), z4 q (t4 b f g h a) = Fc b f g q h a :=
 ind (fun _ _ => by kernel_rfl) fun q ih h a => Eq.trans (b := Kq x6 (fun h a => (z4 q) (t4 b f g h a)) b f g h a) (by kernel_rfl) (by simp only [e6, ih] <;> rfl)
theorem e4 : x4 = Acb := by funext b f g h a; exact Eq.trans (by kernel_rfl) ((i4 b f g Bk h a).trans (by rw [Aj]; rfl))
noncomputable def F (x : Int × LX × LX × Int32) := Ya x.1 x.2.1 x.2.2.1 x.2.2.2
theorem rn (x : Int × LX × LX × Int32) : H.u P_ x = F x := Eq.trans (b := Abt x4 x.1 x.2.1 x.2.2.1 x.2.2.2) (by kernel_rfl) (by simp only [e4] <;> rfl)
noncomputable def c : Con := ⟨H.p, H.r, F⟩
theorem ok : ConOk P_ Tryz.gl 275 c := Tryz.co H Tryz.func275 .nil (by kernel_rfl) rn
end F275
namespace F237
noncomputable def H : Hd := ⟨[.agg [Si, .lf (.vec 16 (.int .i32)) none, .lf (.vec 16 (.int .i32)) none], Sx], [Sx, .agg [Si, .lf (.vec 16 (.int .i32)) none, .lf (.vec 16 (.int .i32)) none]], .d, ⟨[(238, F238.c), (274, F274.c), (275, F275.c), (276, F276.c)], Tryz.gl, false⟩, [], Tryz.f237⟩
noncomputable def F (x : Int × LX × LX × Int32) := Np x.1 x.2.1 x.2.2.1 x.2.2.2
theorem rn (x : Int × LX × LX × Int32) : H.u P_ x = F x := by kernel_rfl
noncomputable def c : Con := ⟨H.p, H.r, F⟩
theorem ok : ConOk P_ Tryz.gl 237 c := Tryz.co H Tryz.func237 (.cons F238.ok (.cons F274.ok (.cons F275.ok (.cons F276.ok .nil)))) (by kernel_rfl) rn
end F237
namespace F277
abbrev R_ := Int32
noncomputable def H : Hd := ⟨[Si, Sx], [Sx], (.seq .d (.seq .d (.cut [1, 5] [] .d .d))), ⟨[], Tryz.gl, false⟩, [], Tryz.f277⟩
def x2 (b : Int32) (a : Int) : Option R_ := H.e P_ [r,r,r] ⟨[(1, vx b), (5, vi a)], [], []⟩
theorem e2 : x2 = Kl := by kernel_rfl
noncomputable def F (x : Int × Int32) := Ke x.1 x.2
theorem rn (x : Int × Int32) : H.u P_ x = F x := Eq.trans (b := Rh x2 x.1 x.2) (by kernel_rfl) (by simp only [e2] <;> rfl)
noncomputable def c : Con := ⟨H.p, H.r, F⟩
theorem ok : ConOk P_ Tryz.gl 277 c := Tryz.co H Tryz.func277 .nil (by kernel_rfl) rn
end F277
namespace F239
noncomputable def H : Hd := ⟨[.agg [Si, Sx, .agg [Si, .lf (.vec 16 (.int .i32)) none, .lf (.vec 16 (.int .i32)) none]]], [Si], .d, ⟨[(277, F277.c)], Tryz.gl, false⟩, [], Tryz.f239⟩
noncomputable def F (x : Int × Int32 × Int × LX × LX) := Pg x.1 x.2.1 x.2.2.1 x.2.2.2.1 x.2.2.2.2
theorem rn (x : Int × Int32 × Int × LX × LX) : H.u P_ x = F x := by kernel_rfl
noncomputable def c : Con := ⟨H.p, H.r, F⟩
theorem ok : ConOk P_ Tryz.gl 239 c := Tryz.co H Tryz.func239 (.cons F277.ok .nil) (by kernel_rfl) rn
end F239
namespace F183
noncomputable def H : Hd := ⟨[.agg [Si, Sx, .agg [Si, .lf (.vec 16 (.int .i32)) none, .lf (.vec 16 (.int .i32)) none]], Sx], [Sx, .agg [Si, Sx, .agg [Si, .lf (.vec 16 (.int .i32)) none, .lf (.vec 16 (.int .i32)) none]]], .d, ⟨[(237, F237.c), (238, F238.c), (239, F239.c)], Tryz.gl, false⟩, [], Tryz.f183⟩
noncomputable def F (x : Int × Int32 × Int × LX × LX × Int32) := Gn x.1 x.2.1 x.2.2.1 x.2.2.2.1 x.2.2.2.2.1 x.2.2.2.2.2
theorem rn (x : Int × Int32 × Int × LX × LX × Int32) : H.u P_ x = F x := by kernel_rfl
noncomputable def c : Con := ⟨H.p, H.r, F⟩
theorem ok : ConOk P_ Tryz.gl 183 c := Tryz.co H Tryz.func183 (.cons F237.ok (.cons F238.ok (.cons F239.ok .nil))) (by kernel_rfl) rn
end F183
namespace F240
noncomputable def H : Hd := ⟨[Si, Sw], [Si], .d, ⟨[], Tryz.gl, false⟩, [], Tryz.f240⟩
noncomputable def F (x : Int × LX) := Lm x.1 x.2
theorem rn (x : Int × LX) : H.u P_ x = F x := by kernel_rfl
noncomputable def c : Con := ⟨H.p, H.r, F⟩
theorem ok : ConOk P_ Tryz.gl 240 c := Tryz.co H Tryz.func240 .nil (by kernel_rfl) rn
end F240
namespace F241
abbrev R_ := LX
noncomputable def H : Hd := ⟨[Sw], [Ow 21], (.seq .d (.seq .d (.seq .d (.seq .d (.cut [0, 3, 4] [] .d (.cut [4] [] (.seq .d (.blk (.loop [0, 4, 5] [] .d))) .d)))))), ⟨[(238, F238.c)], Tryz.gl, false⟩, [], Tryz.f241⟩
def t6 (a : LX) (f : Int) (b : LX) : S := ⟨[(0, vw a), (4, .own 0), (5, vi f)], [Aw 21 b], []⟩
def z6 : Nat → S → Option R_ := H.i P_ [r,r,r,r,r,l,r,d]
def x8 (b : LX) : Option R_ := H.e P_ [r,r,r,r,r,r] ⟨[(4, .own 0)], [Aw 21 b], []⟩
def x6 (a : LX) (f : Int) (b : LX) : Option R_ := H.e P_ [r,r,r,r,r,l,r,d] (t6 a f b)
def x5 (a g : LX) : Option R_ := H.e P_ [r,r,r,r,r] ⟨[(0, vw a), (3, vi (Ac a)), (4, .own 0)], [Aw 21 g], []⟩
theorem e8 : x8 = Aai := by kernel_rfl
theorem i6 (a : LX) : ∀ (q : Nat) (f : Int) (b : LX), z6 q (t6 a f b) = Es a q f b :=
 ind (fun _ _ => by kernel_rfl) fun q ih f b => Eq.trans (b := Jg x8 (fun f b => (z6 q) (t6 a f b)) a f b) (by kernel_rfl) (by simp only [e8, ih] <;> rfl)
theorem e6 : x6 = Zt := by funext a f b; exact Eq.trans (by kernel_rfl) ((i6 a Bk f b).trans (by rw [Aj]; rfl))
theorem e5 : x5 = Jn := Eq.trans (b := Pz x6) (by kernel_rfl) (by simp only [e6] <;> rfl)
noncomputable def F (x : LX) := Nz x
theorem rn (x : LX) : H.u P_ x = F x := Eq.trans (b := Qg x5 x) (by kernel_rfl) (by simp only [e5] <;> rfl)
noncomputable def c : Con := ⟨H.p, H.r, F⟩
theorem ok : ConOk P_ Tryz.gl 241 c := Tryz.co H Tryz.func241 (.cons F238.ok .nil) (by kernel_rfl) rn
end F241
namespace F185
abbrev R_ := (LX × Int)
noncomputable def H : Hd := ⟨[Si, Sw], [Ow 21, Si], (.seq .d (.seq .d (.seq .d (.cut [6] [] (.seq .d (.blk (.loop [0, 1, 6, 7] [⟨6, [], .own 21 (.int .i32)⟩] .d))) .d)))), ⟨[(240, F240.c), (241, F241.c)], Tryz.gl, false⟩, [], Tryz.f185⟩
def t4 (a : Int) (b : LX) (g : Int) (f : LX) : S := ⟨[(0, vi a), (1, vw b), (6, .own 0), (7, vi g)], [Aw 21 f], []⟩
def z4 : Nat → S → Option R_ := H.i P_ [r,r,r,l,r,d]
def x6 (f : LX) : Option R_ := H.e P_ [r,r,r,r] ⟨[(6, .own 0)], [Aw 21 f], []⟩
def x4 (a : Int) (b : LX) (g : Int) (f : LX) : Option R_ := H.e P_ [r,r,r,l,r,d] (t4 a b g f)
theorem e6 : x6 = Aeh := by kernel_rfl
theorem i4 (a : Int) (b : LX) : ∀ (q : Nat) (g : Int) (f : LX), z4 q (t4 a b g f) = Iw a b q g f :=
 ind (fun _ _ => by kernel_rfl) fun q ih g f => Eq.trans (b := Wi x6 (fun g f => (z4 q) (t4 a b g f)) a b g f) (by kernel_rfl) (by simp only [e6, ih] <;> rfl)
theorem e4 : x4 = Ael := by funext a b g f; exact Eq.trans (by kernel_rfl) ((i4 a b Bk g f).trans (by rw [Aj]; rfl))
noncomputable def F (x : Int × LX) := Ux x.1 x.2
theorem rn (x : Int × LX) : H.u P_ x = F x := Eq.trans (b := Wl x4 x.1 x.2) (by kernel_rfl) (by simp only [e4] <;> rfl)
noncomputable def c : Con := ⟨H.p, H.r, F⟩
theorem ok : ConOk P_ Tryz.gl 185 c := Tryz.co H Tryz.func185 (.cons F240.ok (.cons F241.ok .nil)) (by kernel_rfl) rn
end F185
namespace F121
def Ot (j29 : Int → Int32 → LX → Int → Int32 → Int → LX → LX → Int → Int32 → Int → LX → LX → Option (LX)) (j32 : Int → LX → Option (LX)) (b : LU) (a f : Int) (g : LX) (h k : Int) (m : LX) (n : Int) (o : Int32) (p : Int) (u v : LX) : Option (LX) :=
if (Cu k (Ac b)) then
(getI b k).bind fun ah =>
both (
(Jl ah).bind fun ag =>
bo (
(Gn n o p u v ag).bind fun (ae, y, aa, ab, ac, ad) =>
j29 k ae m n o p u v y aa ab ac ad)) [
(Jl ah).bind fun ag =>
(Gn n o p u v ag).bind fun (ae, y, aa, ab, ac, ad) =>
j29 k ae m n o p u v y aa ab ac ad]
else
j32 h m
theorem Agu : @Ot = @Je := by
  unfold Ot Je
  repeat (refine funext fun _ => ?_)
  repeat' first
    | with_reducible rfl
    | with_reducible refine Nl ?_ ?_
    | with_reducible refine Mw ?_ ?_ ?_
    | with_reducible refine Od ?_ ?_ ?_ ?_
    | ((with_reducible refine Vb ?_ ?_); focus (intro h; first | (subst h; rfl) | (simp only [h]; rfl) | (simp [Iy, Ac, h]; done)))
    | with_reducible refine Up fun x => ?_
    | with_reducible refine Aav (fun _ => ?_) (fun _ => ?_)
    | (refine Hb (fun h => by simp only [h, Uq, Ev, El, ite_self]) (fun x h => ?_); (try simp only [h, Ev]))
    | (refine Jp (fun h => ?_) (fun h => ?_) <;> simp only [h, if_true, if_false, Bool.false_eq_true])
abbrev R_ := LX
abbrev K_ := S → Option R_
noncomputable def H : Hd := ⟨[.agg [Si, Si], .lf (.vec 16 (.int .i32)) none, Sv], [Ow 21], (.seq .d (.seq .d (.cut [3, 7] [] (.seq .d (.blk (.loop [2, 3, 4, 7, 8] [] (.seq .d (.cut [2, 3, 4, 7, 8] [] (.blk (.seq .d (.seq .d (.blk (.loop [2, 3, 4, 7, 8, 9, 11] [] (.seq .d (.cut [2, 3, 4, 7, 8, 9, 11] [] (.blk (.cut [2, 3, 4, 7, 8, 9, 11, 12, 13] [] .d .d)) .d))))))) .d))))) .d))), ⟨[(182, F182.c), (183, F183.c), (184, F184.c), (185, F185.c)], Tryz.gl, false⟩, [], Tryz.f121⟩
def t26 (b : LU) (a f : Int) (g : LX) (h k : Int) (m : LX) (n : Int) (o : Int32) (p : Int) (u v : LX) : S := ⟨[(2, vv b), (3, .ptr 0 []), (4, .ptr 1 []), (7, .own 2), (8, vi h), (9, .ptr 3 []), (11, vi k)], [.box 109 (.agg [vi a, vi f]), .box 110 (.val (.vec 16 (.int .i32)) g), Aw 21 m, .box 234 (.agg [vi n, vx o, .agg [vi p, .val (.vec 16 (.int .i32)) u, .val (.vec 16 (.int .i32)) v]])], []⟩
def z26 (kn18 : K_) : Nat → S → Option R_ := H.i P_ [r,r,l,r,d,(lp kn18),r,l,d,r,r,d]
def t18 (b : LU) (a f : Int) (g : LX) (h : Int) (w : LX) : S := ⟨[(2, vv b), (3, .ptr 0 []), (4, .ptr 1 []), (7, .own 2), (8, vi h)], [.box 109 (.agg [vi a, vi f]), .box 110 (.val (.vec 16 (.int .i32)) g), Aw 21 w], []⟩
def z18 : Nat → S → Option R_ := H.i P_ [r,r,l,r,d]
def x34 (a f : Int) (w : LX) : Option R_ := H.e P_ [r,r,r] ⟨[(3, .ptr 0 []), (7, .own 1)], [.box 109 (.agg [vi a, vi f]), Aw 21 w], []⟩
def x32 (kn18 : K_) (b : LU) (a f : Int) (g : LX) (h : Int) (m : LX) : Option R_ := H.e P_ [r,r,l,r,d,(lp kn18),r,r] ⟨[(2, vv b), (3, .ptr 0 []), (4, .ptr 1 []), (7, .own 2), (8, vi h)], [.box 109 (.agg [vi a, vi f]), .box 110 (.val (.vec 16 (.int .i32)) g), Aw 21 m], []⟩
def x30 (kn18 kn26 : K_) (b : LU) (h a f : Int) (g : LX) (k : Int) (af : LX) (y : Int) (aa : Int32) (ab : Int) (ac ad : LX) : Option R_ := H.e P_ [r,r,l,r,d,(lp kn18),r,l,d,r,r,d,(lp kn26),r,r] ⟨[(2, vv b), (3, .ptr 0 []), (4, .ptr 1 []), (7, .own 2), (8, vi h), (9, .ptr 3 []), (11, vi k)], [.box 109 (.agg [vi a, vi f]), .box 110 (.val (.vec 16 (.int .i32)) g), Aw 21 af, .box 234 (.agg [vi y, vx aa, .agg [vi ab, .val (.vec 16 (.int .i32)) ac, .val (.vec 16 (.int .i32)) ad]])], []⟩
def x29 (kn18 kn26 : K_) (b : LU) (h a f : Int) (g : LX) (k : Int) (ae : Int32) (m : LX) (n : Int) (o : Int32) (p : Int) (u v : LX) (y : Int) (aa : Int32) (ab : Int) (ac ad : LX) : Option R_ := H.e P_ [r,r,l,r,d,(lp kn18),r,l,d,r,r,d,(lp kn26),r,l,d,r] ⟨[(2, vv b), (3, .ptr 0 []), (4, .ptr 1 []), (7, .own 2), (8, vi h), (9, .ptr 3 []), (11, vi k), (12, vx ae), (13, .ptr 4 [])], [.box 109 (.agg [vi a, vi f]), .box 110 (.val (.vec 16 (.int .i32)) g), Aw 21 m, .box 234 (.agg [vi n, vx o, .agg [vi p, .val (.vec 16 (.int .i32)) u, .val (.vec 16 (.int .i32)) v]]), .box 234 (.agg [vi y, vx aa, .agg [vi ab, .val (.vec 16 (.int .i32)) ac, .val (.vec 16 (.int .i32)) ad]])], []⟩
def x26 (kn18 : K_) (b : LU) (a f : Int) (g : LX) (h k : Int) (m : LX) (n : Int) (o : Int32) (p : Int) (u v : LX) : Option R_ := H.e P_ [r,r,l,r,d,(lp kn18),r,l,d,r,r,d] (t26 b a f g h k m n o p u v)
def x18 (b : LU) (a f : Int) (g : LX) (h : Int) (w : LX) : Option R_ := H.e P_ [r,r,l,r,d] (t18 b a f g h w)
theorem e34 : x34 = Ji := by kernel_rfl
theorem e32 (kn18 : K_) (b : LU) (a f : Int) (g : LX) : x32 kn18 b a f g = Qc (fun h w => kn18 (t18 b a f g h w)) b a f g := by kernel_rfl
theorem e30 (kn18 kn26 : K_) (b : LU) (a f : Int) (g : LX) (h : Int) : x30 kn18 kn26 b h a f g = Qb (fun k m n o p u v => kn26 (t26 b a f g h k m n o p u v)) b h a f g := by kernel_rfl
theorem e29 (kn18 kn26 : K_) (b : LU) (a f : Int) (g : LX) (h : Int) : x29 kn18 kn26 b h a f g = Qi (fun k m n o p u v => kn26 (t26 b a f g h k m n o p u v)) b h a f g := Eq.trans (b := Qn (x30 kn18 kn26 b h a f g) b h a f g) (by kernel_rfl) (by simp only [e30] <;> rfl)
theorem i26 (kn18 : K_) (b : LU) (a f : Int) (g : LX) (h : Int) : ∀ (q : Nat) (k : Int) (m : LX) (n : Int) (o : Int32) (p : Int) (u v : LX), z26 kn18 q (t26 b a f g h k m n o p u v) = Gm (fun h w => kn18 (t18 b a f g h w)) b a f g h q k m n o p u v :=
 ind (fun _ _ _ _ _ _ _ => by kernel_rfl) fun q ih k m n o p u v => Eq.trans (b := Ot (x29 kn18 (z26 kn18 q) b h a f g) (x32 kn18 b a f g) b a f g h k m n o p u v) (by kernel_rfl) (by rw [Agu]; simp only [e29, e32, ih] <;> rfl)
theorem e26 (kn18 : K_) (b : LU) (a f : Int) (g : LX) : x26 kn18 b a f g = Pr (fun h w => kn18 (t18 b a f g h w)) b a f g := by funext h k m n o p u v; exact Eq.trans (by kernel_rfl) ((i26 kn18 b a f g h Bk k m n o p u v).trans (by rw [Aj]; rfl))
theorem i18 (b : LU) (a f : Int) (g : LX) : ∀ (q : Nat) (h : Int) (w : LX), z18 q (t18 b a f g h w) = Du b a f g q h w :=
 ind (fun _ _ => by kernel_rfl) fun q ih h w => Eq.trans (b := Jf (x26 (z18 q) b a f g) x34 b a f g h w) (by kernel_rfl) (by simp only [e26, e34, ih] <;> rfl)
theorem e18 : x18 = Px := by funext b a f g h w; exact Eq.trans (by kernel_rfl) ((i18 b a f g Bk h w).trans (by rw [Aj]; rfl))
noncomputable def F (x : Int × Int × LX × LU) := Db x.1 x.2.1 x.2.2.1 x.2.2.2
theorem rn (x : Int × Int × LX × LU) : H.u P_ x = F x := Eq.trans (b := Ro x18 x.1 x.2.1 x.2.2.1 x.2.2.2) (by kernel_rfl) (by simp only [e18] <;> rfl)
noncomputable def c : Con := ⟨H.p, H.r, F⟩
theorem ok : ConOk P_ Tryz.gl 121 c := Tryz.co H Tryz.func121 (.cons F182.ok (.cons F183.ok (.cons F184.ok (.cons F185.ok .nil)))) (by kernel_rfl) rn
end F121
namespace F153
abbrev R_ := Int
noncomputable def H : Hd := ⟨[Si, Sw], [Si], (.seq .d (.seq .d (.seq .d (.seq .d (.cut [] [] (.seq .d (.blk (.loop [1, 5, 6] [] .d))) .d))))), ⟨[(216, F216.c)], Tryz.gl, false⟩, [], Tryz.f153⟩
def t4 (a : LX) (b f : Int) : S := ⟨[(1, vw a), (5, vi b), (6, vi f)], [], []⟩
def z4 : Nat → S → Option R_ := H.i P_ [r,r,r,r,l,r,d]
def x6 : Option R_ := H.e P_ [r,r,r,r,r] ⟨[], [], []⟩
def x4 (a : LX) (b f : Int) : Option R_ := H.e P_ [r,r,r,r,l,r,d] (t4 a b f)
theorem e6 : x6 = Ac4 := by kernel_rfl
theorem i4 (a : LX) (b : Int) : ∀ (q : Nat) (f : Int), z4 q (t4 a b f) = Br a b q f :=
 ind (fun _ => by kernel_rfl) fun q ih f => Eq.trans (b := Ei x6 (fun f => (z4 q) (t4 a b f)) a b f) (by kernel_rfl) (by simp only [e6, ih] <;> rfl)
theorem e4 : x4 = Acu := by funext a b f; exact Eq.trans (by kernel_rfl) ((i4 a b Bk f).trans (by rw [Aj]; rfl))
noncomputable def F (x : Int × LX) := cadenzaref18_Check x.1 x.2
theorem rn (x : Int × LX) : H.u P_ x = F x := Eq.trans (b := Hz x4 x.1 x.2) (by kernel_rfl) (by simp only [e4] <;> rfl)
noncomputable def c : Con := ⟨H.p, H.r, F⟩
theorem ok : ConOk P_ Tryz.gl 153 c := Tryz.co H Tryz.func153 (.cons F216.ok .nil) (by kernel_rfl) rn
end F153
namespace F120
noncomputable def H : Hd := ⟨[.agg [Si, Si], Sw], [Sw, Si], .d, ⟨[(153, F153.c)], Tryz.gl, false⟩, [], Tryz.f120⟩
noncomputable def F (x : Int × Int × LX) := Dt x.1 x.2.1 x.2.2
theorem rn (x : Int × Int × LX) : H.u P_ x = F x := by kernel_rfl
noncomputable def c : Con := ⟨H.p, H.r, F⟩
theorem ok : ConOk P_ Tryz.gl 120 c := Tryz.co H Tryz.func120 (.cons F153.ok .nil) (by kernel_rfl) rn
end F120
namespace F71
def Qe (n a b : Int) (f : LX) (g : LU) : Option (LX × Int) :=
if (Ck n 0) then
some (([] : LX), n)
else
both (
bo (
(Db a b f g).bind fun h =>
(Dt a b h).bind fun (k, m) =>
some (k, m))) [
both (
(Db a b f g).bind fun h =>
(Dt a b h).bind fun (k, m) =>
some (k, m)) [
bo (
(Db a b f g).bind fun h =>
(Dt a b h).bind fun (k, m) =>
some (k, m))],
both (
(Db a b f g).bind fun h =>
(Dt a b h).bind fun (k, m) =>
some (k, m)) [
bo (
(Db a b f g).bind fun h =>
(Dt a b h).bind fun (k, m) =>
some (k, m))]]
theorem Aim : @Qe = @Hg := by
  unfold Qe Hg
  repeat (refine funext fun _ => ?_)
  repeat' first
    | with_reducible rfl
    | with_reducible refine Nl ?_ ?_
    | with_reducible refine Mw ?_ ?_ ?_
    | with_reducible refine Od ?_ ?_ ?_ ?_
    | ((with_reducible refine Vb ?_ ?_); focus (intro h; first | (subst h; rfl) | (simp only [h]; rfl) | (simp [Iy, Ac, h]; done)))
    | with_reducible refine Up fun x => ?_
    | with_reducible refine Aav (fun _ => ?_) (fun _ => ?_)
    | (refine Hb (fun h => by simp only [h, Uq, Ev, El, ite_self]) (fun x h => ?_); (try simp only [h, Ev]))
    | (refine Jp (fun h => ?_) (fun h => ?_) <;> simp only [h, if_true, if_false, Bool.false_eq_true])
abbrev R_ := (LX × Int)
noncomputable def H : Hd := ⟨[.agg [Si, Si], .lf (.vec 16 (.int .i32)) none, Si, Sb], [Sw, Si], (.seq .d (.seq .d (.seq .d (.cut [4, 5, 10, 11] [] .d (.seq .d (.seq (.mode false) .d)))))), ⟨[(117, F117.c), (118, F118.c), (119, F119.c), (120, F120.c), (121, F121.c)], Tryz.gl, false⟩, [], Tryz.f71⟩
def x2 (n a b : Int) (f : LX) (g : LU) : Option R_ := H.e P_ [r,r,r,r] ⟨[(4, .ptr 0 []), (5, .ptr 1 []), (10, .own 2), (11, vi n)], [.box 109 (.agg [vi a, vi b]), .box 110 (.val (.vec 16 (.int .i32)) f), Av 206 g], []⟩
theorem e2 : x2 = Kn := Eq.trans (b := Qe) (by kernel_rfl) (by rw [Aim]; rfl)
noncomputable def F (x : Int × Int × LX × Int × LB) := cadenzaref21_Decode x.1 x.2.1 x.2.2.1 x.2.2.2.1 x.2.2.2.2
theorem rn (x : Int × Int × LX × Int × LB) : H.u P_ x = F x := Eq.trans (b := Rc x2 x.1 x.2.1 x.2.2.1 x.2.2.2.1 x.2.2.2.2) (by kernel_rfl) (by simp only [e2] <;> rfl)
noncomputable def c : Con := ⟨H.p, H.r, F⟩
theorem ok : ConOk P_ Tryz.gl 71 c := Tryz.co H Tryz.func71 (.cons F117.ok (.cons F118.ok (.cons F119.ok (.cons F120.ok (.cons F121.ok .nil))))) (by kernel_rfl) rn
end F71
namespace F122
def Un (j5 : LB → Int → Int → LB → LB → Option (Int × Int)) (a : LB) : Option (Int × Int) :=
(Bt a (Al (Ac a) 32) (Ac a)).bind fun b =>
(Jb b).bind fun (f, g, n) =>
if (!n) then
some (0, 12)
else
(Dw f g true).bind fun h =>
both (
if (!(b == h)) then
(Dw f g false).bind fun m =>
if (b != m) then
some (0, 12)
else
j5 a f g b h
else
j5 a f g b h) [
if (!(b == h)) then
(Dw f g false).bind fun m =>
bo (
if (b != m) then
some (0, 12)
else
j5 a f g b h)
else
j5 a f g b h]
theorem Akl : @Un = @Nf := by
  unfold Un Nf
  repeat (refine funext fun _ => ?_)
  repeat' first
    | with_reducible rfl
    | with_reducible refine Nl ?_ ?_
    | with_reducible refine Mw ?_ ?_ ?_
    | with_reducible refine Od ?_ ?_ ?_ ?_
    | ((with_reducible refine Vb ?_ ?_); focus (intro h; first | (subst h; rfl) | (simp only [h]; rfl) | (simp [Iy, Ac, h]; done)))
    | with_reducible refine Up fun x => ?_
    | with_reducible refine Aav (fun _ => ?_) (fun _ => ?_)
    | (refine Hb (fun h => by simp only [h, Uq, Ev, El, ite_self]) (fun x h => ?_); (try simp only [h, Ev]))
    | (refine Jp (fun h => ?_) (fun h => ?_) <;> simp only [h, if_true, if_false, Bool.false_eq_true])
abbrev R_ := (Int × Int)
noncomputable def H : Hd := ⟨[Sb], [Si, Si], (.seq .d (.cut [0] [] .d (.seq .d (.seq .d (.seq .d (.seq .d (.cut [0, 5, 6, 8] [] (.seq (.mode false) .d) (.seq .d (.cut [0, 5, 6, 8, 9] [] .d .d))))))))), ⟨[(186, F186.c), (187, F187.c), (188, F188.c)], Tryz.gl, false⟩, [], Tryz.f122⟩
def x6 (a : LB) (f g : Int) (b h : LB) (k : Int) : Option R_ := H.e P_ [r,r,r,r,r,r,r,r,r] ⟨[(0, vb a), (5, vi f), (6, vi g), (8, vt (b == h)), (9, vi k)], [], []⟩
def x5 (a : LB) (f g : Int) (b h : LB) : Option R_ := H.e P_ [r,r,r,r,r,r,r] ⟨[(0, vb a), (5, vi f), (6, vi g), (8, vt (b == h))], [], []⟩
def x4 (a : LB) : Option R_ := H.e P_ [r,r] ⟨[(0, vb a)], [], []⟩
theorem e6 : x6 = Mv := by kernel_rfl
theorem e5 : x5 = Nd := Eq.trans (b := Ni x6) (by kernel_rfl) (by simp only [e6] <;> rfl)
theorem e4 : x4 = Vm := Eq.trans (b := Un x5) (by kernel_rfl) (by rw [Akl]; simp only [e5] <;> rfl)
noncomputable def F (x : LB) := Uy x
theorem rn (x : LB) : H.u P_ x = F x := Eq.trans (b := Vx x4 x) (by kernel_rfl) (by simp only [e4] <;> rfl)
noncomputable def c : Con := ⟨H.p, H.r, F⟩
theorem ok : ConOk P_ Tryz.gl 122 c := Tryz.co H Tryz.func122 (.cons F186.ok (.cons F187.ok (.cons F188.ok .nil))) (by kernel_rfl) rn
end F122
namespace F72
abbrev R_ := (Int × Int)
noncomputable def H : Hd := ⟨[Sb], [Si, Si], (.seq .d (.seq .d (.seq .d (.cut [4] [] (.blk (.loop [0, 4] [] .d)) .d)))), ⟨[(122, F122.c)], Tryz.gl, false⟩, [], Tryz.f72⟩
def t4 (b : LB) (a : Int) : S := ⟨[(0, vb b), (4, vi a)], [], []⟩
def z4 : Nat → S → Option R_ := H.i P_ [r,r,r,l,d]
def x6 (a : Int) : Option R_ := H.e P_ [r,r,r,r] ⟨[(4, vi a)], [], []⟩
def x4 (b : LB) (a : Int) : Option R_ := H.e P_ [r,r,r,l,d] (t4 b a)
theorem e6 : x6 = Abv := by kernel_rfl
theorem i4 : ∀ (q : Nat) (b : LB) (a : Int), z4 q (t4 b a) = Ha q b a :=
 ind (fun _ _ => by kernel_rfl) fun q ih b a => Eq.trans (b := Rj x6 (fun b a => (z4 q) (t4 b a)) b a) (by kernel_rfl) (by simp only [e6, ih] <;> rfl)
theorem e4 : x4 = Aca := by funext b a; exact Eq.trans (by kernel_rfl) ((i4 Bk b a).trans (by rw [Aj]; rfl))
noncomputable def F (x : LB) := Pc x
theorem rn (x : LB) : H.u P_ x = F x := Eq.trans (b := Rb x4 x) (by kernel_rfl) (by simp only [e4] <;> rfl)
noncomputable def c : Con := ⟨H.p, H.r, F⟩
theorem ok : ConOk P_ Tryz.gl 72 c := Tryz.co H Tryz.func72 (.cons F122.ok .nil) (by kernel_rfl) rn
end F72
namespace F27
abbrev R_ := (Int × Int × Int × LX × Int)
abbrev K_ := S → Option R_
noncomputable def H : Hd := ⟨[Sb, Ss], [.agg [Si, Si, Si, Ow 21], Si], (.seq .d (.seq .d (.seq .d (.seq .d (.seq .d (.seq .d (.seq .d (.seq .d (.seq .d (.seq .d (.seq .d (.seq .d (.cut [0, 4, 6, 13] [] (.seq .d (.blk (.loop [0, 4, 6, 7, 9, 10, 11, 13, 14] [⟨13, [3], .own 21 (.int .i32)⟩] (.seq .d (.seq (.blk (.seq .d (.cut [0, 4, 6, 7, 9, 10, 11, 13, 14, 15, 16] [] .d .d))) .d))))) .d))))))))))))), ⟨[(66, F66.c), (67, F67.c), (68, F68.c), (69, F69.c), (70, F70.c), (71, F71.c), (72, F72.c)], Tryz.gl, false⟩, [], Tryz.f27⟩
def t7 (a : LB) (o b f g k : Int) (h p : LI) (u : LX) (n m : Int) (v : LX) : S := ⟨[(0, vb a), (4, .ptr 0 []), (6, vi n), (7, .ptr 1 []), (9, .own 2), (10, .own 3), (11, .ptr 4 []), (13, .ptr 5 []), (14, vi m)], [.box 60 (.agg [vi 0, vi 0, vi 0, .nils]), .box 24 (.agg [vi o, vi b, vi f, vi g, vi k]), Ai 3 h, Ai 3 p, .box 110 (.val (.vec 16 (.int .i32)) u), .box 60 (.agg [vi b, vi f, vi g, .own 6]), Aw 21 v], []⟩
def z7 : Nat → S → Option R_ := H.i P_ [r,r,r,r,r,r,r,r,r,r,r,r,l,r,d]
def x12 (a : LB) (n b f g : Int) (v : LX) : Option R_ := H.e P_ [r,r,r,r,r,r,r,r,r,r,r,r,r] ⟨[(0, vb a), (4, .ptr 0 []), (6, vi n), (13, .ptr 1 [])], [.box 60 (.agg [vi 0, vi 0, vi 0, .nils]), .box 60 (.agg [vi b, vi f, vi g, .own 2]), Aw 21 v], []⟩
def x10 (kn7 : K_) (a : LB) (o b f g k : Int) (h p : LI) (u : LX) (n m : Int) (y : LX) (w : Int) (v : LX) : Option R_ := H.e P_ [r,r,r,r,r,r,r,r,r,r,r,r,l,r,d,(lp kn7),r,l,d,r,r] ⟨[(0, vb a), (4, .ptr 0 []), (6, vi n), (7, .ptr 1 []), (9, .own 2), (10, .own 3), (11, .ptr 4 []), (13, .ptr 5 []), (14, vi m), (15, vw y), (16, vi w)], [.box 60 (.agg [vi 0, vi 0, vi 0, .nils]), .box 24 (.agg [vi o, vi b, vi f, vi g, vi k]), Ai 3 h, Ai 3 p, .box 110 (.val (.vec 16 (.int .i32)) u), .box 60 (.agg [vi b, vi f, vi g, .own 6]), Aw 21 v], []⟩
def x7 (a : LB) (o b f g k : Int) (h p : LI) (u : LX) (n m : Int) (v : LX) : Option R_ := H.e P_ [r,r,r,r,r,r,r,r,r,r,r,r,l,r,d] (t7 a o b f g k h p u n m v)
theorem e12 : x12 = Um := by kernel_rfl
theorem e10 (kn7 : K_) (a : LB) (o b f g k : Int) (h p : LI) (u : LX) : x10 kn7 a o b f g k h p u = Ti (fun n m v => kn7 (t7 a o b f g k h p u n m v)) a o b f g k h p u := by kernel_rfl
theorem i7 (a : LB) (o b f g k : Int) (h p : LI) (u : LX) : ∀ (q : Nat) (n m : Int) (v : LX), z7 q (t7 a o b f g k h p u n m v) = Gh a o b f g k h p u q n m v :=
 ind (fun _ _ _ => by kernel_rfl) fun q ih n m v => Eq.trans (b := Na (x10 (z7 q) a o b f g k h p u) x12 a o b f g k h p u n m v) (by kernel_rfl) (by simp only [e10, e12, ih] <;> rfl)
theorem e7 : x7 = Wc := by funext a o b f g k h p u n m v; exact Eq.trans (by kernel_rfl) ((i7 a o b f g k h p u Bk n m v).trans (by rw [Aj]; rfl))
noncomputable def F (x : LB × LB) := Dk x.1 x.2
theorem rn (x : LB × LB) : H.u P_ x = F x := Eq.trans (b := Nj x7 x.1 x.2) (by kernel_rfl) (by simp only [e7] <;> rfl)
noncomputable def c : Con := ⟨H.p, H.r, F⟩
theorem ok : ConOk P_ Tryz.gl 27 c := Tryz.co H Tryz.func27 (.cons F66.ok (.cons F67.ok (.cons F68.ok (.cons F69.ok (.cons F70.ok (.cons F71.ok (.cons F72.ok .nil))))))) (by kernel_rfl) rn
end F27
namespace F52
noncomputable def H : Hd := ⟨[Sb, Ss], [Si], .d, ⟨[(27, F27.c)], Tryz.gl, false⟩, [], Tryz.f52⟩
noncomputable def F (x : LB × LB) := Lj x.1 x.2
theorem rn (x : LB × LB) : H.u P_ x = F x := by kernel_rfl
noncomputable def c : Con := ⟨H.p, H.r, F⟩
theorem ok : ConOk P_ Tryz.gl 52 c := Tryz.co H Tryz.func52 (.cons F27.ok .nil) (by kernel_rfl) rn
end F52
namespace F99
abbrev R_ := (Int × Int × Int × Int × Int × Int × LI × Int)
noncomputable def H : Hd := ⟨[Sb, Ss], [.agg [.agg [Si, Si, Si, Si, Si], Si, Ol 3], Si], (.seq .d (.seq .d (.seq .d (.seq .d (.seq .d (.seq .d (.seq .d (.seq .d (.cut [0, 4, 6, 8] [] .d (.cut [4, 6, 7, 8, 9] [] .d .d)))))))))), ⟨[(69, F69.c), (94, F94.c), (95, F95.c), (112, F112.c), (113, F113.c)], Tryz.gl, false⟩, [], Tryz.f99⟩
def x4 (m n b h k f g : Int) (o : LI) : Option R_ := H.e P_ [r,r,r,r,r,r,r,r,r,r] ⟨[(4, .ptr 0 []), (6, vi m), (7, vi n), (8, .ptr 1 []), (9, .own 2)], [.box 82 (.agg [.agg [vi 0, vi 0, vi 0, vi 0, vi 0], vi 0, .nils]), .box 24 (.agg [vi b, vi h, vi k, vi f, vi g]), Ai 3 o], []⟩
def x3 (a : LB) (b h k f g m : Int) : Option R_ := H.e P_ [r,r,r,r,r,r,r,r,r] ⟨[(0, vb a), (4, .ptr 0 []), (6, vi m), (8, .ptr 1 [])], [.box 82 (.agg [.agg [vi 0, vi 0, vi 0, vi 0, vi 0], vi 0, .nils]), .box 24 (.agg [vi b, vi h, vi k, vi f, vi g])], []⟩
theorem e4 : x4 = Sn := by kernel_rfl
theorem e3 : x3 = Hj := Eq.trans (b := Rs x4) (by kernel_rfl) (by simp only [e4] <;> rfl)
noncomputable def F (x : LB × LB) := cadenzaref40_Opened x.1 x.2
theorem rn (x : LB × LB) : H.u P_ x = F x := Eq.trans (b := Hh x3 x.1 x.2) (by kernel_rfl) (by simp only [e3] <;> rfl)
noncomputable def c : Con := ⟨H.p, H.r, F⟩
theorem ok : ConOk P_ Tryz.gl 99 c := Tryz.co H Tryz.func99 (.cons F69.ok (.cons F94.ok (.cons F95.ok (.cons F112.ok (.cons F113.ok .nil))))) (by kernel_rfl) rn
end F99
namespace F53
noncomputable def H : Hd := ⟨[Sb, Ss], [.agg [.agg [Si, Si, Si, Si, Si], Si, Ol 3], Si], .d, ⟨[(99, F99.c)], Tryz.gl, false⟩, [], Tryz.f53⟩
noncomputable def F (x : LB × LB) := Nc x.1 x.2
theorem rn (x : LB × LB) : H.u P_ x = F x := by kernel_rfl
noncomputable def c : Con := ⟨H.p, H.r, F⟩
theorem ok : ConOk P_ Tryz.gl 53 c := Tryz.co H Tryz.func53 (.cons F99.ok .nil) (by kernel_rfl) rn
end F53
namespace F54
noncomputable def H : Hd := ⟨[Sb, Ss], [Sc], .d, ⟨[(94, F94.c), (95, F95.c), (99, F99.c)], Tryz.gl, false⟩, [], Tryz.f54⟩
noncomputable def F (x : LB × LB) := Ig x.1 x.2
theorem rn (x : LB × LB) : H.u P_ x = F x := by kernel_rfl
noncomputable def c : Con := ⟨H.p, H.r, F⟩
theorem ok : ConOk P_ Tryz.gl 54 c := Tryz.co H Tryz.func54 (.cons F94.ok (.cons F95.ok (.cons F99.ok .nil))) (by kernel_rfl) rn
end F54
namespace F100
noncomputable def H : Hd := ⟨[.agg [Si, Si]], [Si], .d, ⟨[], Tryz.gl, false⟩, [], Tryz.f100⟩
noncomputable def F (x : Int × Int) := Xm x.1 x.2
theorem rn (x : Int × Int) : H.u P_ x = F x := by kernel_rfl
noncomputable def c : Con := ⟨H.p, H.r, F⟩
theorem ok : ConOk P_ Tryz.gl 100 c := Tryz.co H Tryz.func100 .nil (by kernel_rfl) rn
end F100
namespace F55
abbrev R_ := Int
noncomputable def H : Hd := ⟨[.agg [Si, Si, Si, Si, Si], Si], [Si], (.seq .d (.seq .d (.seq .d (.cut [2, 6] [] (.seq .d (.blk (.loop [1, 2, 5, 6, 7] [] .d))) .d)))), ⟨[(69, F69.c), (100, F100.c)], Tryz.gl, false⟩, [], Tryz.f55⟩
def t4 (n h a b f g : Int) (m : LI) (k o : Int) : S := ⟨[(1, vi n), (2, .ptr 0 []), (5, .own 1), (6, vi k), (7, vi o)], [.box 24 (.agg [vi h, vi a, vi b, vi f, vi g]), Ai 3 m], []⟩
def z4 : Nat → S → Option R_ := H.i P_ [r,r,r,l,r,d]
def x6 (k h a b f g : Int) : Option R_ := H.e P_ [r,r,r,r] ⟨[(2, .ptr 0 []), (6, vi k)], [.box 24 (.agg [vi h, vi a, vi b, vi f, vi g])], []⟩
def x4 (n h a b f g : Int) (m : LI) (k o : Int) : Option R_ := H.e P_ [r,r,r,l,r,d] (t4 n h a b f g m k o)
theorem e6 : x6 = Vo := by kernel_rfl
theorem i4 (n h a b f g : Int) (m : LI) : ∀ (q : Nat) (k o : Int), z4 q (t4 n h a b f g m k o) = Gq n h a b f g m q k o :=
 ind (fun _ _ => by kernel_rfl) fun q ih k o => Eq.trans (b := Nh x6 (fun k o => (z4 q) (t4 n h a b f g m k o)) n h a b f g m k o) (by kernel_rfl) (by simp only [e6, ih] <;> rfl)
theorem e4 : x4 = Aep := by funext n h a b f g m k o; exact Eq.trans (by kernel_rfl) ((i4 n h a b f g m Bk k o).trans (by rw [Aj]; rfl))
noncomputable def F (x : Int × Int × Int × Int × Int × Int) := Jm x.1 x.2.1 x.2.2.1 x.2.2.2.1 x.2.2.2.2.1 x.2.2.2.2.2
theorem rn (x : Int × Int × Int × Int × Int × Int) : H.u P_ x = F x := Eq.trans (b := Vk x4 x.1 x.2.1 x.2.2.1 x.2.2.2.1 x.2.2.2.2.1 x.2.2.2.2.2) (by kernel_rfl) (by simp only [e4] <;> rfl)
noncomputable def c : Con := ⟨H.p, H.r, F⟩
theorem ok : ConOk P_ Tryz.gl 55 c := Tryz.co H Tryz.func55 (.cons F69.ok (.cons F100.ok .nil)) (by kernel_rfl) rn
end F55
namespace F59
abbrev R_ := Int
noncomputable def H : Hd := ⟨[.agg [.agg [Si, Si, Si, Si, Si], Si, Sl], Si], [Si], (.seq .d (.seq .d (.cut [5] [] (.seq .d (.blk (.loop [1, 2, 5, 6] [] .d))) .d))), ⟨[], Tryz.gl, false⟩, [], Tryz.f59⟩
def t4 (b h k m n o f : Int) (g : LI) (a p : Int) : S := ⟨[(1, vi b), (2, .ptr 0 []), (5, vi a), (6, vi p)], [.box 82 (.agg [.agg [vi h, vi k, vi m, vi n, vi o], vi f, vl g])], []⟩
def z4 : Nat → S → Option R_ := H.i P_ [r,r,l,r,d]
def x6 (a : Int) : Option R_ := H.e P_ [r,r,r] ⟨[(5, vi a)], [], []⟩
def x4 (b h k m n o f : Int) (g : LI) (a p : Int) : Option R_ := H.e P_ [r,r,l,r,d] (t4 b h k m n o f g a p)
theorem e6 : x6 = Ac1 := by kernel_rfl
theorem i4 (b h k m n o f : Int) (g : LI) : ∀ (q : Nat) (a p : Int), z4 q (t4 b h k m n o f g a p) = Fw b h k m n o f g q a p :=
 ind (fun _ _ => by kernel_rfl) fun q ih a p => Eq.trans (b := Mf x6 (fun a p => (z4 q) (t4 b h k m n o f g a p)) b h k m n o f g a p) (by kernel_rfl) (by simp only [e6, ih] <;> rfl)
theorem e4 : x4 = Acl := by funext b h k m n o f g a p; exact Eq.trans (by kernel_rfl) ((i4 b h k m n o f g Bk a p).trans (by rw [Aj]; rfl))
noncomputable def F (x : Int × Int × Int × Int × Int × Int × LI × Int) := Le x.1 x.2.1 x.2.2.1 x.2.2.2.1 x.2.2.2.2.1 x.2.2.2.2.2.1 x.2.2.2.2.2.2.1 x.2.2.2.2.2.2.2
theorem rn (x : Int × Int × Int × Int × Int × Int × LI × Int) : H.u P_ x = F x := Eq.trans (b := Ac6 x4 x.1 x.2.1 x.2.2.1 x.2.2.2.1 x.2.2.2.2.1 x.2.2.2.2.2.1 x.2.2.2.2.2.2.1 x.2.2.2.2.2.2.2) (by kernel_rfl) (by simp only [e4] <;> rfl)
noncomputable def c : Con := ⟨H.p, H.r, F⟩
theorem ok : ConOk P_ Tryz.gl 59 c := Tryz.co H Tryz.func59 .nil (by kernel_rfl) rn
end F59
namespace F154
abbrev R_ := LB
noncomputable def H : Hd := ⟨[Si, Sx], [Ob 5], (.seq .d (.seq .d (.seq .d (.cut [0, 5] [] .d .d)))), ⟨[(216, F216.c)], Tryz.gl, false⟩, [], Tryz.f154⟩
def x2 (a b : Int) : Option R_ := H.e P_ [r,r,r,r] ⟨[(0, vi a), (5, vi b)], [], []⟩
theorem e2 : x2 = Hm := by kernel_rfl
noncomputable def F (x : Int × Int32) := Wx x.1 x.2
theorem rn (x : Int × Int32) : H.u P_ x = F x := Eq.trans (b := Xv x2 x.1 x.2) (by kernel_rfl) (by simp only [e2] <;> rfl)
noncomputable def c : Con := ⟨H.p, H.r, F⟩
theorem ok : ConOk P_ Tryz.gl 154 c := Tryz.co H Tryz.func154 (.cons F216.ok .nil) (by kernel_rfl) rn
end F154
namespace F101
abbrev R_ := (LB × Int)
noncomputable def H : Hd := ⟨[Si, Sw], [Ob 5, Si], (.seq .d (.seq .d (.seq .d (.cut [6] [] (.seq .d (.blk (.loop [0, 1, 6, 7] [⟨6, [], .own 5 (.int .u8)⟩] .d))) .d)))), ⟨[(153, F153.c), (154, F154.c)], Tryz.gl, false⟩, [], Tryz.f101⟩
def t4 (f : Int) (a : LX) (g : Int) (b : LB) : S := ⟨[(0, vi f), (1, vw a), (6, .own 0), (7, vi g)], [Ab 5 b], []⟩
def z4 : Nat → S → Option R_ := H.i P_ [r,r,r,l,r,d]
def x6 (b : LB) : Option R_ := H.e P_ [r,r,r,r] ⟨[(6, .own 0)], [Ab 5 b], []⟩
def x4 (f : Int) (a : LX) (g : Int) (b : LB) : Option R_ := H.e P_ [r,r,r,l,r,d] (t4 f a g b)
theorem e6 : x6 = Ac7 := by kernel_rfl
theorem i4 (f : Int) (a : LX) : ∀ (q : Nat) (g : Int) (b : LB), z4 q (t4 f a g b) = Fv f a q g b :=
 ind (fun _ _ => by kernel_rfl) fun q ih g b => Eq.trans (b := Ls x6 (fun g b => (z4 q) (t4 f a g b)) f a g b) (by kernel_rfl) (by simp only [e6, ih] <;> rfl)
theorem e4 : x4 = Ac2 := by funext f a g b; exact Eq.trans (by kernel_rfl) ((i4 f a Bk g b).trans (by rw [Aj]; rfl))
noncomputable def F (x : Int × LX) := Qz x.1 x.2
theorem rn (x : Int × LX) : H.u P_ x = F x := Eq.trans (b := To x4 x.1 x.2) (by kernel_rfl) (by simp only [e4] <;> rfl)
noncomputable def c : Con := ⟨H.p, H.r, F⟩
theorem ok : ConOk P_ Tryz.gl 101 c := Tryz.co H Tryz.func101 (.cons F153.ok (.cons F154.ok .nil)) (by kernel_rfl) rn
end F101
namespace F56
def Vr (j2 : LX → Int → Int → Int → Int → Int → Int → Int → LI → Option (LB × Int)) (v y : LB) (n g b h k o : Int) (a : LI) (f : Int) : Option (LB × Int) :=
(Le n g b h k o a f).bind fun u =>
(getI a f).bind fun aa =>
if (Cu (Al (Ac v) u) aa) then
some (([] : LB), 24)
else
(Hi y).bind fun (ab, ag) =>
(getI a f).bind fun ac =>
(Bt v u (Ae u ac)).bind fun ad =>
bo (
(Bw h k).bind fun w =>
(getI w f).bind fun _ =>
(getI w f).bind fun ae =>
(cadenzaref21_Decode g b ab ae ad).bind fun (p, m) =>
j2 p m n g b h k o a)
theorem Alc : @Vr = @Kc := by
  unfold Vr Kc
  simp only [Bjl, Bcl, Bdt]
abbrev R_ := (LB × Int)
noncomputable def H : Hd := ⟨[Sb, Ss, .agg [.agg [Si, Si, Si, Si, Si], Si, Sl], Si], [Ob 5, Si], (.seq .d (.seq .d (.seq .d (.seq .d (.cut [6, 13, 14] [] .d .d))))), ⟨[(59, F59.c), (69, F69.c), (70, F70.c), (71, F71.c), (101, F101.c)], Tryz.gl, false⟩, [], Tryz.f56⟩
def x2 (p : LX) (m n g b h k o : Int) (a : LI) : Option R_ := H.e P_ [r,r,r,r,r] ⟨[(6, .ptr 0 []), (13, vw p), (14, vi m)], [.box 82 (.agg [.agg [vi n, vi g, vi b, vi h, vi k], vi o, vl a])], []⟩
theorem e2 : x2 = Po := by kernel_rfl
noncomputable def F (x : LB × LB × Int × Int × Int × Int × Int × Int × LI × Int) := cadenzaref40_Got x.1 x.2.1 x.2.2.1 x.2.2.2.1 x.2.2.2.2.1 x.2.2.2.2.2.1 x.2.2.2.2.2.2.1 x.2.2.2.2.2.2.2.1 x.2.2.2.2.2.2.2.2.1 x.2.2.2.2.2.2.2.2.2
theorem rn (x : LB × LB × Int × Int × Int × Int × Int × Int × LI × Int) : H.u P_ x = F x := Eq.trans (b := Vr x2 x.1 x.2.1 x.2.2.1 x.2.2.2.1 x.2.2.2.2.1 x.2.2.2.2.2.1 x.2.2.2.2.2.2.1 x.2.2.2.2.2.2.2.1 x.2.2.2.2.2.2.2.2.1 x.2.2.2.2.2.2.2.2.2) (by kernel_rfl) (by rw [Alc]; simp only [e2] <;> rfl)
noncomputable def c : Con := ⟨H.p, H.r, F⟩
theorem ok : ConOk P_ Tryz.gl 56 c := Tryz.co H Tryz.func56 (.cons F59.ok (.cons F69.ok (.cons F70.ok (.cons F71.ok (.cons F101.ok .nil))))) (by kernel_rfl) rn
end F56
namespace F22
abbrev R_ := (Int × UInt8 × Int × Int × Int)
noncomputable def H : Hd := ⟨[Sb, Ss], [.agg [Si, Sc, Si, Si], Si], (.seq .d (.seq .d (.seq .d (.seq .d (.seq .d (.seq .d (.seq .d (.cut [4, 6] [] (.seq .d (.blk (.loop [0, 1, 4, 6, 7, 9] [] .d))) .d)))))))), ⟨[(52, F52.c), (53, F53.c), (54, F54.c), (55, F55.c), (56, F56.c)], Tryz.gl, false⟩, [], Tryz.f22⟩
def t4 (g f : LB) (a b h k m n o v : Int) (p : LI) (u : Int) : S := ⟨[(0, vb g), (1, vs f), (4, .ptr 0 []), (6, .ptr 1 []), (7, .ptr 2 []), (9, vi u)], [.box 50 (.agg [vi 0, vc 0, vi 0, vi 0]), .box 50 (.agg [vi a, vc 0, vi 0, vi b]), .box 82 (.agg [.agg [vi h, vi k, vi m, vi n, vi o], vi v, .own 3]), Ai 3 p], []⟩
def z4 : Nat → S → Option R_ := H.i P_ [r,r,r,r,r,r,r,l,r,d]
def x6 (a b : Int) : Option R_ := H.e P_ [r,r,r,r,r,r,r,r] ⟨[(4, .ptr 0 []), (6, .ptr 1 [])], [.box 50 (.agg [vi 0, vc 0, vi 0, vi 0]), .box 50 (.agg [vi a, vc 0, vi 0, vi b])], []⟩
def x4 (g f : LB) (a b h k m n o v : Int) (p : LI) (u : Int) : Option R_ := H.e P_ [r,r,r,r,r,r,r,l,r,d] (t4 g f a b h k m n o v p u)
theorem e6 : x6 = Ae7 := by kernel_rfl
theorem i4 (g f : LB) (a b h k m n o v : Int) (p : LI) : ∀ (q : Nat) (u : Int), z4 q (t4 g f a b h k m n o v p u) = Gk g f a b h k m n o v p q u :=
 ind (fun _ => by kernel_rfl) fun q ih u => Eq.trans (b := Ny x6 (fun u => (z4 q) (t4 g f a b h k m n o v p u)) g f a b h k m n o v p u) (by kernel_rfl) (by simp only [e6, ih] <;> rfl)
theorem e4 : x4 = Afb := by funext g f a b h k m n o v p u; exact Eq.trans (by kernel_rfl) ((i4 g f a b h k m n o v p Bk u).trans (by rw [Aj]; rfl))
noncomputable def F (x : LB × LB) := Jq x.1 x.2
theorem rn (x : LB × LB) : H.u P_ x = F x := Eq.trans (b := Wm x4 x.1 x.2) (by kernel_rfl) (by simp only [e4] <;> rfl)
noncomputable def c : Con := ⟨H.p, H.r, F⟩
theorem ok : ConOk P_ Tryz.gl 22 c := Tryz.co H Tryz.func22 (.cons F52.ok (.cons F53.ok (.cons F54.ok (.cons F55.ok (.cons F56.ok .nil))))) (by kernel_rfl) rn
end F22
namespace F57
abbrev R_ := (Int × Int × Int × Int × Int × Int)
noncomputable def H : Hd := ⟨[Sb], [.agg [Si, Si, Si, Si, Si], Si], (.seq .d (.seq .d (.seq .d (.cut [0, 2, 4] [] (.cut [0, 2, 4, 7] [] (.keep [0, 2, 4, 7, 17, 18, 19, 20, 21] true) .d) .d)))), ⟨[(60, F60.c), (97, F97.c)], Tryz.Az7, false⟩, [(62, (.seq .d (.seq .d (.cut [0, 6, 7] [] .d (.seq .d (.seq .d (.seq .d (.cut [6] [] (.seq .d (.blk (.loop [0, 6, 60, 61, 62] [] .d))) .d))))))))], Tryz.f57⟩
def t8 (u : LI) (a : LB) (k m n o p f g b : Int) (h : LI) (w v : Int) : S := ⟨[(0, .ptr 0 []), (6, .own 1), (60, .own 1), (61, vi (Ac u)), (62, vi w)], [.box 103 (.agg [.agg [vi k, vi m, vi n, vi o, vi p], .agg [vi f, vi g, vi b, vi (Ae (Ae b (Be (4 : Int) (Ac u))) (4 : Int)), vi v], .own 3]), Ai 3 u, .box 96 (.agg [vi 0, vi 0, vi 0, vi 0, vi 0]), Ai 3 h], [[(0, vb a), (2, .ptr 2 []), (4, .ptr 0 []), (18, vb a)]]⟩
def z8 : Nat → S → Option R_ := H.i P_ [r,r,r,l,l,(call 1 62),r,r,r,r,r,r,l,r,d]
def x12 (a : LB) (k m n o p f g b aa y : Int) (h : LI) : Option R_ := H.e P_ [r,r,r,r] ⟨[(0, vb a), (2, .ptr 0 []), (4, .ptr 1 [])], [.box 96 (.agg [vi 0, vi 0, vi 0, vi 0, vi 0]), .box 103 (.agg [.agg [vi k, vi m, vi n, vi o, vi p], .agg [vi f, vi g, vi b, vi aa, vi y], .own 2]), Ai 3 h], []⟩
def x11 (a : LB) (k m n o p f g b : Int) (h : LI) (ae aa y : Int) : Option R_ := H.e P_ [r,r,r,l,r] ⟨[(0, vb a), (2, .ptr 0 []), (4, .ptr 1 []), (7, vi ae)], [.box 96 (.agg [vi 0, vi 0, vi 0, vi 0, vi 0]), .box 103 (.agg [.agg [vi k, vi m, vi n, vi o, vi p], .agg [vi f, vi g, vi b, vi aa, vi y], .own 2]), Ai 3 h], []⟩
def x10 (a : LB) (u : LI) (k m n o p f g b v : Int) (h : LI) : Option R_ := H.e P_ [r,r,r,l,l,(call 1 62),r,r,r,r,r,r,r] ⟨[(6, .own 0)], [Ai 3 u, .box 96 (.agg [vi 0, vi 0, vi 0, vi 0, vi 0]), .box 103 (.agg [.agg [vi k, vi m, vi n, vi o, vi p], .agg [vi f, vi g, vi b, vi (Ae (Ae b (Be (4 : Int) (Ac u))) (4 : Int)), vi v], .own 3]), Ai 3 h], [[(0, vb a), (2, .ptr 1 []), (4, .ptr 2 []), (18, vb a)]]⟩
def x8 (u : LI) (a : LB) (k m n o p f g b : Int) (h : LI) (w v : Int) : Option R_ := H.e P_ [r,r,r,l,l,(call 1 62),r,r,r,r,r,r,l,r,d] (t8 u a k m n o p f g b h w v)
def x7 (ab : Int) (a : LB) (k m n o p f g b ac ad : Int) (u h : LI) : Option R_ := H.e P_ [r,r,r,l,l,(call 1 62),r,r,r] ⟨[(0, .ptr 0 []), (6, .own 1), (7, vi ab)], [.box 103 (.agg [.agg [vi k, vi m, vi n, vi o, vi p], .agg [vi f, vi g, vi b, vi ac, vi ad], .own 3]), Ai 3 u, .box 96 (.agg [vi 0, vi 0, vi 0, vi 0, vi 0]), Ai 3 h], [[(0, vb a), (2, .ptr 2 []), (4, .ptr 0 []), (18, vb a)]]⟩
theorem e12 : x12 = Af3 := by kernel_rfl
theorem e11 : x11 = So := Eq.trans (b := Aga x12) (by kernel_rfl) (by simp only [e12] <;> rfl)
theorem e10 : x10 = Yw := Eq.trans (b := Af0 x11) (by kernel_rfl) (by simp only [e11] <;> rfl)
theorem i8 (u : LI) (a : LB) (k m n o p f g b : Int) (h : LI) : ∀ (q : Nat) (w v : Int), z8 q (t8 u a k m n o p f g b h w v) = Qj u a k m n o p f g b h q w v :=
 ind (fun _ _ => by kernel_rfl) fun q ih w v => Eq.trans (b := Aba x10 (fun w v => (z8 q) (t8 u a k m n o p f g b h w v)) u a k m n o p f g b h w v) (by kernel_rfl) (by simp only [e10, ih] <;> rfl)
theorem e8 : x8 = Aiv := by funext u a k m n o p f g b h w v; exact Eq.trans (by kernel_rfl) ((i8 u a k m n o p f g b h Bk w v).trans (by rw [Aj]; rfl))
theorem e7 : x7 = Aix := Eq.trans (b := Aia x11 x8) (by kernel_rfl) (by simp only [e11, e8] <;> rfl)
noncomputable def F (x : LB) := Ajp x
theorem rn (x : LB) : H.u P_ x = F x := Eq.trans (b := Ai9 x11 x7 x) (by kernel_rfl) (by simp only [e11, e7] <;> rfl)
noncomputable def c : Con := ⟨H.p, H.r, F⟩
theorem ok : ConOk P_ Tryz.Az7 57 c := Tryz.cr H Tryz.func57 (.cons F60.ok (.cons (F97.ok.mono (.cons _ .slnil)) .nil)) (AnsOk.cons Tryz.ent62 AnsOk.nil) (by kernel_rfl) rn
end F57
namespace F23
abbrev R_ := (Int × UInt8 × Int × Int × Int)
noncomputable def H : Hd := ⟨[Sb, Ss, Si], [.agg [Si, Sc, Si, Si], Si], (.seq .d (.seq .d (.seq .d (.seq .d (.seq .d (.seq .d (.seq .d (.seq .d (.seq .d (.cut [6] [] (.seq .d (.blk (.loop [2, 6, 11, 12, 79, 80, 81] [] .d))) .d)))))))))), ⟨[(31, F31.c), (48, F48.c), (51, F51.c), (57, F57.c)], Tryz.gl_2_6, false⟩, [], Tryz.f23⟩
def t4 (a : Int) (b : LI) (g h k m n o p f : Int) : S := ⟨[(2, vi a), (6, .ptr 0 []), (11, .ptr 1 []), (12, vi p), (79, .own 2), (80, vi (Ac b)), (81, vi f)], [.box 50 (.agg [vi 0, vc 0, vi 0, vi 0]), .box 82 (.agg [.agg [vi g, vi h, vi k, vi m, vi n], vi o, .own 2]), Ai 3 b], []⟩
def z4 : Nat → S → Option R_ := H.i P_ [r,r,r,r,r,r,r,r,r,l,r,d]
def x6 : Option R_ := H.e P_ [r,r,r,r,r,r,r,r,r,r] ⟨[(6, .ptr 0 [])], [.box 50 (.agg [vi 0, vc 0, vi 0, vi 0])], []⟩
def x4 (a : Int) (b : LI) (g h k m n o p f : Int) : Option R_ := H.e P_ [r,r,r,r,r,r,r,r,r,l,r,d] (t4 a b g h k m n o p f)
theorem e6 : x6 = Ani := by kernel_rfl
theorem i4 (a : Int) (b : LI) (g h k m n o : Int) : ∀ (q : Nat) (p f : Int), z4 q (t4 a b g h k m n o p f) = Ms a b g h k m n o q p f :=
 ind (fun _ _ => by kernel_rfl) fun q ih p f => Eq.trans (b := Yt x6 (fun p f => (z4 q) (t4 a b g h k m n o p f)) a b g h k m n o p f) (by kernel_rfl) (by simp only [e6, ih] <;> rfl)
theorem e4 : x4 = Anr := by funext a b g h k m n o p f; exact Eq.trans (by kernel_rfl) ((i4 a b g h k m n o Bk p f).trans (by rw [Aj]; rfl))
noncomputable def F (x : LB × LB × Int) := Mx x.1 x.2.1 x.2.2
theorem rn (x : LB × LB × Int) : H.u P_ x = F x := Eq.trans (b := Afu x4 x.1 x.2.1 x.2.2) (by kernel_rfl) (by simp only [e4] <;> rfl)
noncomputable def c : Con := ⟨H.p, H.r, F⟩
theorem ok : ConOk P_ Tryz.gl_2_6 23 c := Tryz.co H Tryz.func23 (.cons F31.ok (.cons (F48.ok.mono (.cons_cons _ (.cons _ .slnil))) (.cons (F51.ok.mono (.cons _ (.cons _ .slnil))) (.cons (F57.ok.mono (.cons_cons _ (.cons _ .slnil))) .nil)))) (by kernel_rfl) rn
end F23
namespace F58
abbrev R_ := (Int × Int × Int × Int × Int × Int)
noncomputable def H : Hd := ⟨[Sb], [.agg [Si, Si, Si, Si, Si], Si], (.seq .d (.seq .d (.seq .d (.seq .d (.cut [0, 2, 5, 7] [] .d (.seq .d (.seq .d (.seq .d (.seq .d (.seq .d (.cut [0, 2, 7] [] (.seq .d (.blk (.loop [0, 2, 7, 8, 9] [] .d))) .d))))))))))), ⟨[(66, F66.c), (68, F68.c)], Tryz.gl, false⟩, [], Tryz.f58⟩
def t6 (b : LB) (a f : Int) (g : LI) (k h : Int) : S := ⟨[(0, vb b), (2, .ptr 0 []), (7, .ptr 1 []), (8, .own 2), (9, vi k)], [.box 96 (.agg [vi 0, vi 0, vi 0, vi 0, vi 0]), .box 96 (.agg [vi a, vi (Ae a (22 : Int)), vi f, vi (Ae (Ae f (Be (4 : Int) (Ac g))) (4 : Int)), vi h]), Ai 3 g], []⟩
def z6 : Nat → S → Option R_ := H.i P_ [r,r,r,r,r,r,r,r,r,r,l,r,d]
def x8 (b : LB) (a f : Int) (g : LI) (h : Int) : Option R_ := H.e P_ [r,r,r,r,r,r,r,r,r,r,r] ⟨[(0, vb b), (2, .ptr 0 []), (7, .ptr 1 [])], [.box 96 (.agg [vi 0, vi 0, vi 0, vi 0, vi 0]), .box 96 (.agg [vi a, vi (Ae a (22 : Int)), vi f, vi (Ae (Ae f (Be (4 : Int) (Ac g))) (4 : Int)), vi h])], []⟩
def x6 (b : LB) (a f : Int) (g : LI) (k h : Int) : Option R_ := H.e P_ [r,r,r,r,r,r,r,r,r,r,l,r,d] (t6 b a f g k h)
def x5 (b : LB) (m n o p u a f : Int) : Option R_ := H.e P_ [r,r,r,r,r] ⟨[(0, vb b), (2, .ptr 0 []), (5, .ptr 1 []), (7, .ptr 2 [])], [.box 96 (.agg [vi 0, vi 0, vi 0, vi 0, vi 0]), .box 24 (.agg [vi m, vi n, vi o, vi p, vi u]), .box 96 (.agg [vi a, vi (Ae a (22 : Int)), vi f, vi 0, vi 0])], []⟩
theorem e8 : x8 = Lz := by kernel_rfl
theorem i6 (b : LB) (a f : Int) (g : LI) : ∀ (q : Nat) (k h : Int), z6 q (t6 b a f g k h) = Fm b a f g q k h :=
 ind (fun _ _ => by kernel_rfl) fun q ih k h => Eq.trans (b := Md x8 (fun k h => (z6 q) (t6 b a f g k h)) b a f g k h) (by kernel_rfl) (by simp only [e8, ih] <;> rfl)
theorem e6 : x6 = Tx := by funext b a f g k h; exact Eq.trans (by kernel_rfl) ((i6 b a f g Bk k h).trans (by rw [Aj]; rfl))
theorem e5 : x5 = Fk := Eq.trans (b := Ua x6) (by kernel_rfl) (by simp only [e6] <;> rfl)
noncomputable def F (x : LB) := Ru x
theorem rn (x : LB) : H.u P_ x = F x := Eq.trans (b := Ug x5 x) (by kernel_rfl) (by simp only [e5] <;> rfl)
noncomputable def c : Con := ⟨H.p, H.r, F⟩
theorem ok : ConOk P_ Tryz.gl 58 c := Tryz.co H Tryz.func58 (.cons F66.ok (.cons F68.ok .nil)) (by kernel_rfl) rn
end F58
namespace F24
abbrev R_ := (Int × UInt8 × Int × Int × Int)
noncomputable def H : Hd := ⟨[Sb, Ss, Si], [.agg [Si, Sc, Si, Si], Si], (.seq .d (.seq .d (.seq .d (.seq .d (.seq .d (.seq .d (.seq .d (.cut [6, 11, 13] [] (.blk (.loop [2, 6, 11, 13] [] .d)) .d)))))))), ⟨[(52, F52.c), (53, F53.c), (55, F55.c), (58, F58.c), (59, F59.c)], Tryz.gl, false⟩, [], Tryz.f24⟩
def t4 (a b f g h k n : Int) (o : LI) (m : Int) : S := ⟨[(2, vi a), (6, .ptr 0 []), (11, .ptr 1 []), (13, vi m)], [.box 50 (.agg [vi 0, vc 0, vi 0, vi 0]), .box 82 (.agg [.agg [vi b, vi f, vi g, vi h, vi k], vi n, .own 2]), Ai 3 o], []⟩
def z4 : Nat → S → Option R_ := H.i P_ [r,r,r,r,r,r,r,l,d]
def x6 (m b f g h k n : Int) (o : LI) : Option R_ := H.e P_ [r,r,r,r,r,r,r,r] ⟨[(6, .ptr 0 []), (11, .ptr 1 []), (13, vi m)], [.box 50 (.agg [vi 0, vc 0, vi 0, vi 0]), .box 82 (.agg [.agg [vi b, vi f, vi g, vi h, vi k], vi n, .own 2]), Ai 3 o], []⟩
def x4 (a b f g h k n : Int) (o : LI) (m : Int) : Option R_ := H.e P_ [r,r,r,r,r,r,r,l,d] (t4 a b f g h k n o m)
theorem e6 : x6 = Tr := by kernel_rfl
theorem i4 (a b f g h k n : Int) (o : LI) : ∀ (q : Nat) (m : Int), z4 q (t4 a b f g h k n o m) = Hy a b f g h k n o q m :=
 ind (fun _ => by kernel_rfl) fun q ih m => Eq.trans (b := Uk x6 (fun m => (z4 q) (t4 a b f g h k n o m)) a b f g h k n o m) (by kernel_rfl) (by simp only [e6, ih] <;> rfl)
theorem e4 : x4 = Acs := by funext a b f g h k n o m; exact Eq.trans (by kernel_rfl) ((i4 a b f g h k n o Bk m).trans (by rw [Aj]; rfl))
noncomputable def F (x : LB × LB × Int) := Gc x.1 x.2.1 x.2.2
theorem rn (x : LB × LB × Int) : H.u P_ x = F x := Eq.trans (b := Uf x4 x.1 x.2.1 x.2.2) (by kernel_rfl) (by simp only [e4] <;> rfl)
noncomputable def c : Con := ⟨H.p, H.r, F⟩
theorem ok : ConOk P_ Tryz.gl 24 c := Tryz.co H Tryz.func24 (.cons F52.ok (.cons F53.ok (.cons F55.ok (.cons F58.ok (.cons F59.ok .nil))))) (by kernel_rfl) rn
end F24
namespace F5
noncomputable def H : Hd := ⟨[Sb, Ss, Si], [Sz], .d, ⟨[(13, F13.c), (21, F21.c), (22, F22.c), (23, F23.c), (24, F24.c)], Tryz.gl_2_6, false⟩, [], Tryz.f5⟩
noncomputable def F (x : LB × LB × Int) := Ox x.1 x.2.1 x.2.2
theorem rn (x : LB × LB × Int) : H.u P_ x = F x := by kernel_rfl
noncomputable def c : Con := ⟨H.p, H.r, F⟩
theorem ok : ConOk P_ Tryz.gl_2_6 5 c := Tryz.co H Tryz.func5 (.cons (F13.ok.mono (.cons _ (.cons _ .slnil))) (.cons F21.ok (.cons (F22.ok.mono (.cons _ (.cons _ .slnil))) (.cons F23.ok (.cons (F24.ok.mono (.cons _ (.cons _ .slnil))) .nil))))) (by kernel_rfl) rn
end F5
end
end Go.Proofs.YthkblcgadmdkgaaGreatDoor
