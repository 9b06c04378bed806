/- A part of the proof of a statement of this seat (see the text that ends in Proof): MtOk. No conditions of its own. -/
import Derived.Test.YtnoflhhhiiaclaaGreatDoorMtBC
import Derived.Test.YtnoflhhhiiaclaaGreatDoorMtPA
import Derived.Test.YtnoflhhhiiaclaaGreatDoorMtHA
import Derived.Test.YtnoflhhhiiaclaaGreatDoorProg
import Derived.KernelRfl
set_option linter.unusedVariables false
set_option linter.unusedSimpArgs false
set_option maxRecDepth 10000
namespace Go.Proofs.YtnoflhhhiiaclaaGreatDoor
open Go Go.Lv Go.Pl Go.Rx Go.Rx.PS
noncomputable section
def g0 : List Value := [.bool true, .int .i64 0]
def g1 : List Value := [.bool false, .int .i64 0]
def g2 : List Value := [.int .i64 2, .int .i64 2, .int .i64 2, .int .i64 4, .int .i64 4]
def g6 : List Value := [.int .u8 0, .int .u8 1, .int .u8 56, .int .u8 2, .int .u8 57, .int .u8 49, .int .u8 28, .int .u8 3, .int .u8 61, .int .u8 58, .int .u8 42, .int .u8 50, .int .u8 38, .int .u8 29, .int .u8 17, .int .u8 4, .int .u8 62, .int .u8 47, .int .u8 59, .int .u8 36, .int .u8 45, .int .u8 43, .int .u8 51, .int .u8 22, .int .u8 53, .int .u8 39, .int .u8 33, .int .u8 30, .int .u8 24, .int .u8 18, .int .u8 12, .int .u8 5, .int .u8 63, .int .u8 55, .int .u8 48, .int .u8 27, .int .u8 60, .int .u8 41, .int .u8 37, .int .u8 16, .int .u8 46, .int .u8 35, .int .u8 44, .int .u8 21, .int .u8 52, .int .u8 32, .int .u8 23, .int .u8 11, .int .u8 54, .int .u8 26, .int .u8 40, .int .u8 15, .int .u8 34, .int .u8 20, .int .u8 31, .int .u8 10, .int .u8 25, .int .u8 14, .int .u8 19, .int .u8 9, .int .u8 13, .int .u8 8, .int .u8 7, .int .u8 6]
def gl : List (Nat × List Value) := [(0, g0), (1, g1), (2, g2), (6, g6)]
theorem mixed : Tryz.prog.follows .mixedOrders = true := by kernel_rfl
noncomputable abbrev P_ := Tryz.prog
theorem cr (H : Hd) {f : Nat} {F : LTy (shL H.p) → Option (LTy (shL H.r))} (hf : P_.funcs[f]? = some H.f) (hT : Ang P_ H.T) (hA : ∀ p ∈ H.s, Ent P_ p.1) (h : ∀ x, H.u P_ x = F x) (hb : okH H = true := by kernel_rfl) : ConOk P_ H.T.gl f ⟨H.p, H.r, F⟩ := Hd.con mixed H hf hT hA hb h
theorem co (H : Hd) {f : Nat} {F : LTy (shL H.p) → Option (LTy (shL H.r))} (hf : P_.funcs[f]? = some H.f) (hT : Ang P_ H.T) (h : ∀ x, H.u P_ x = F x) (hb : (H.s.isEmpty && okH H) = true := by kernel_rfl) : ConOk P_ H.T.gl f ⟨H.p, H.r, F⟩ := Hd.Bwv mixed H hf hT hb h
theorem ent37 : Ent Tryz.prog 37 := Ent.mk Tryz.func37 (by kernel_rfl) rfl
theorem ent75 : Ent Tryz.prog 75 := Ent.mk Tryz.func75 (by kernel_rfl) rfl
theorem ent76 : Ent Tryz.prog 76 := Ent.mk Tryz.func76 (by kernel_rfl) rfl
theorem ent77 : Ent Tryz.prog 77 := Ent.mk Tryz.func77 (by kernel_rfl) rfl
theorem ent88 : Ent Tryz.prog 88 := Ent.mk Tryz.func88 (by kernel_rfl) rfl
theorem ent203 : Ent Tryz.prog 203 := Ent.mk Tryz.func203 (by kernel_rfl) rfl
theorem ent204 : Ent Tryz.prog 204 := Ent.mk Tryz.func204 (by kernel_rfl) rfl
theorem ent220 : Ent Tryz.prog 220 := Ent.mk Tryz.func220 (by kernel_rfl) rfl
theorem ent221 : Ent Tryz.prog 221 := Ent.mk Tryz.func221 (by kernel_rfl) rfl
theorem ent222 : Ent Tryz.prog 222 := Ent.mk Tryz.func222 (by kernel_rfl) rfl
theorem ent225 : Ent Tryz.prog 225 := Ent.mk Tryz.func225 (by kernel_rfl) rfl
theorem ent232 : Ent Tryz.prog 232 := Ent.mk Tryz.func232 (by kernel_rfl) rfl
theorem ent256 : Ent Tryz.prog 256 := Ent.mk Tryz.func256 (by kernel_rfl) rfl
theorem ent261 : Ent Tryz.prog 261 := Ent.mk Tryz.func261 (by kernel_rfl) rfl
theorem ent266 : Ent Tryz.prog 266 := Ent.mk Tryz.func266 (by kernel_rfl) rfl
theorem ent289 : Ent Tryz.prog 289 := Ent.mk Tryz.func289 (by kernel_rfl) rfl
theorem ent291 : Ent Tryz.prog 291 := Ent.mk Tryz.func291 (by kernel_rfl) rfl
theorem ent293 : Ent Tryz.prog 293 := Ent.mk Tryz.func293 (by kernel_rfl) rfl
abbrev u2 {A B R : Type} (f : A → B → R) (x : A × B) := f x.1 x.2
abbrev u3 {A B C R : Type} (f : A → B → C → R) := u2 fun a => u2 (f a)
abbrev u4 {A B C D R : Type} (f : A → B → C → D → R) := u2 fun a => u3 (f a)
abbrev u5 {A B C D E R : Type} (f : A → B → C → D → E → R) := u2 fun a => u4 (f a)
abbrev u6 {A B C D E F R : Type} (f : A → B → C → D → E → F → R) := u2 fun a => u5 (f a)
abbrev u7 {A B C D E F G R : Type} (f : A → B → C → D → E → F → G → R) := u2 fun a => u6 (f a)
abbrev u8 {A B C D E F G H R : Type} (f : A → B → C → D → E → F → G → H → R) := u2 fun a => u7 (f a)
abbrev u9 {A B C D E F G H I R : Type} (f : A → B → C → D → E → F → G → H → I → R) := u2 fun a => u8 (f a)
abbrev u10 {A B C D E F G H I J R : Type} (f : A → B → C → D → E → F → G → H → I → J → R) := u2 fun a => u9 (f a)
abbrev u11 {A B C D E F G H I J K R : Type} (f : A → B → C → D → E → F → G → H → I → J → K → R) := u2 fun a => u10 (f a)
abbrev u12 {A B C D E F G H I J K L R : Type} (f : A → B → C → D → E → F → G → H → I → J → K → L → R) := u2 fun a => u11 (f a)
open Go.Proofs.Tryz
namespace F28
abbrev R_ := Bool
noncomputable def H : Hd := ⟨[.agg [.agg [Si, Si], Si, Ss, Sb, Sw, .lf (.list (.list (.int .u8))) none, Sb, Sz, Si]], [Sz], (.seq .d (.seq .d (.seq .d (.cut [3] [] (.seq .d (.blk (.loop [1, 3, 4] [] .d))) .d)))), ⟨[], gl, false⟩, [], f28⟩
def t7 (k m n : Int) (f g : LB) (h : LX) (a : List LB) (b : LB) (o : Bool) (p u w : Int) : S := ⟨[(1, .ptr 0 []), (3, vi u), (4, vi w)], [.box 67 (.agg [.agg [vi k, vi m], vi n, vs f, vb g, vw h, .val (.list (.list (.int .u8))) a, vb b, vt o, vi p])], []⟩
def z7 : Nat → S → Option R_ := H.i P_ [r,r,r,l,r,d]
def t10 (k m n : Int) (f g : LB) (h : LX) (a : List LB) (b : LB) (o : Bool) (p v y : Int) : S := ⟨[(1, .ptr 0 []), (3, vi v), (4, vi y)], [.box 67 (.agg [.agg [vi k, vi m], vi n, vs f, vb g, vw h, .val (.list (.list (.int .u8))) a, vb b, vt o, vi p])], []⟩
def z10 : Nat → S → Option R_ := H.i P_ [r,r,r,l,r,d]
def x9 (u : Int) : Option R_ := H.e P_ [r,r,r,r] ⟨[(3, vi u)], [], []⟩
def x7 (k m n : Int) (f g : LB) (h : LX) (a : List LB) (b : LB) (o : Bool) (p u w : Int) : Option R_ := H.e P_ [r,r,r,l,r,d] (t7 k m n f g h a b o p u w)
def x12 (v : Int) : Option R_ := H.e P_ [r,r,r,r] ⟨[(3, vi v)], [], []⟩
def x10 (k m n : Int) (f g : LB) (h : LX) (a : List LB) (b : LB) (o : Bool) (p v y : Int) : Option R_ := H.e P_ [r,r,r,l,r,d] (t10 k m n f g h a b o p v y)
theorem e9 : x9 = Adp := by kernel_rfl
theorem i7 (k m n : Int) (f g : LB) (h : LX) (a : List LB) (b : LB) (o : Bool) (p : Int) : ∀ (q : Nat) (u w : Int), z7 q (t7 k m n f g h a b o p u w) = Uj k m n f g h a b o p q u w :=
 ind (fun _ _ => by kernel_rfl) fun q ih u w => Eq.trans (b := Ado x9 (fun u w => (z7 q) (t7 k m n f g h a b o p u w)) k m n f g h a b o p u w) (by kernel_rfl) (by simp only [e9, ih] <;> rfl)
theorem e7 : x7 = Ad0 := by funext k m n f g h a b o p u w; exact Eq.trans (by kernel_rfl) ((i7 k m n f g h a b o p Bn u w).trans (by rw [Ak]; rfl))
theorem e12 : x12 = Adc := by kernel_rfl
theorem i10 (k m n : Int) (f g : LB) (h : LX) (a : List LB) (b : LB) (o : Bool) (p : Int) : ∀ (q : Nat) (v y : Int), z10 q (t10 k m n f g h a b o p v y) = Ek k m n f g h a b o p q v y :=
 ind (fun _ _ => by kernel_rfl) fun q ih v y => Eq.trans (b := Ks x12 (fun v y => (z10 q) (t10 k m n f g h a b o p v y)) k m n f g h a b o p v y) (by kernel_rfl) (by simp only [e12, ih] <;> rfl)
theorem e10 : x10 = Adb := by funext k m n f g h a b o p v y; exact Eq.trans (by kernel_rfl) ((i10 k m n f g h a b o p Bn v y).trans (by rw [Ak]; rfl))
noncomputable def F := u10 Sm
theorem rn x : H.u P_ x = F x := Eq.trans (b := u10 (Uk x7 x10) x) (by kernel_rfl) (by simp only [e7, e10] <;> rfl)
noncomputable def c : Con := ⟨H.p, H.r, F⟩
theorem ok : ConOk P_ gl 28 c := co H func28 .nil rn
end F28
namespace F7
noncomputable def H : Hd := ⟨[.agg [Ss, Sb, .agg [Si, Si, Si, Si, Si], Sl, Si, Sb, Sz, Si]], [Sz], .d, ⟨[], gl, false⟩, [], f7⟩
noncomputable def F := u12 Tg
theorem rn x : H.u P_ x = F x := by kernel_rfl
noncomputable def c : Con := ⟨H.p, H.r, F⟩
theorem ok : ConOk P_ gl 7 c := co H func7 .nil rn
end F7
namespace F199
noncomputable def H : Hd := ⟨[Si], [Si, Si], .d, ⟨[], gl, false⟩, [], f199⟩
noncomputable def F := Nf
theorem rn x : H.u P_ x = F x := by kernel_rfl
noncomputable def c : Con := ⟨H.p, H.r, F⟩
theorem ok : ConOk P_ gl 199 c := co H func199 .nil rn
end F199
namespace F150
abbrev R_ := (Int32 × Int32 × Int)
noncomputable def H : Hd := ⟨[Si], [Sx, Sx, Si], (.seq .d (.seq (.seq .d (.blk (.cut [0, 7] [] .d .d))) .d)), ⟨[], gl, false⟩, [], f150⟩
def x2 (a : Int) (b : Bool) : Option R_ := H.e P_ [r,l,r,d,r] ⟨[(0, vi a), (7, vt b)], [], []⟩
theorem e2 : x2 = Ai0 := by kernel_rfl
noncomputable def F := Wy
theorem rn x : H.u P_ x = F x := Eq.trans (b := Ah4 x2 x) (by kernel_rfl) (by simp only [e2] <;> rfl)
noncomputable def c : Con := ⟨H.p, H.r, F⟩
theorem ok : ConOk P_ gl 150 c := co H func150 .nil rn
end F150
namespace F96
noncomputable def H : Hd := ⟨[.agg [Si, Si]], [Si], .d, ⟨[(150, F150.c)], gl, false⟩, [], f96⟩
noncomputable def F := u2 On
theorem rn x : H.u P_ x = F x := by kernel_rfl
noncomputable def c : Con := ⟨H.p, H.r, F⟩
theorem ok : ConOk P_ gl 96 c := co H func96 (.cons F150.ok .nil) rn
end F96
namespace F123
noncomputable def H : Hd := ⟨[.agg [Si, Si], Si, Ss], [Si, Sz], .d, ⟨[(96, F96.c), (199, F199.c)], gl, false⟩, [], f123⟩
noncomputable def F := u4 Ake
theorem rn x : H.u P_ x = F x := by kernel_rfl
noncomputable def c : Con := ⟨H.p, H.r, F⟩
theorem ok : ConOk P_ gl 123 c := co H func123 (.cons F96.ok (.cons F199.ok .nil)) rn
end F123
namespace F200
noncomputable def H : Hd := ⟨[.agg [Si, Si]], [Si], .d, ⟨[], gl, false⟩, [], f200⟩
noncomputable def F := u2 Aby
theorem rn x : H.u P_ x = F x := by kernel_rfl
noncomputable def c : Con := ⟨H.p, H.r, F⟩
theorem ok : ConOk P_ gl 200 c := co H func200 .nil rn
end F200
namespace F162
abbrev R_ := Int
noncomputable def H : Hd := ⟨[Si, Sw], [Si], (.seq .d (.seq .d (.seq .d (.seq .d (.cut [] [] (.seq .d (.blk (.loop [5, 6, 22, 23, 24] [] .d))) .d))))), ⟨[(150, F150.c)], gl, false⟩, [], f162⟩
def t4 (b f : Int32) (a : LX) (g : Int) : S := ⟨[(5, vx b), (6, vx f), (22, vw a), (23, vi (Ac a)), (24, vi g)], [], []⟩
def z4 : Nat → S → Option R_ := H.i P_ [r,r,r,r,l,r,d]
def x6 : Option R_ := H.e P_ [r,r,r,r,r] ⟨[], [], []⟩
def x4 (b f : Int32) (a : LX) (g : Int) : Option R_ := H.e P_ [r,r,r,r,l,r,d] (t4 b f a g)
theorem e6 : x6 = Aph := by kernel_rfl
theorem i4 (b f : Int32) (a : LX) : ∀ (q : Nat) (g : Int), z4 q (t4 b f a g) = Qx b f a q g :=
 ind (fun _ => by kernel_rfl) fun q ih g => Eq.trans (b := Abp x6 (fun g => (z4 q) (t4 b f a g)) b f a g) (by kernel_rfl) (by simp only [e6, ih] <;> rfl)
theorem e4 : x4 = Aoy := by funext b f a g; exact Eq.trans (by kernel_rfl) ((i4 b f a Bn g).trans (by rw [Ak]; rfl))
noncomputable def F := u2 Aa3
theorem rn x : H.u P_ x = F x := Eq.trans (b := u2 (Ahu x4) x) (by kernel_rfl) (by simp only [e4] <;> rfl)
noncomputable def c : Con := ⟨H.p, H.r, F⟩
theorem ok : ConOk P_ gl 162 c := co H func162 (.cons F150.ok .nil) rn
end F162
namespace F202
noncomputable def H : Hd := ⟨[.agg [.agg [Si, Si], Si, Ss, Sb, Sw, .lf (.list (.list (.int .u8))) none, Sb, Sz, Si], Si], [Si], .d, ⟨[], gl, false⟩, [], f202⟩
noncomputable def F := u11 Akr
theorem rn x : H.u P_ x = F x := by kernel_rfl
noncomputable def c : Con := ⟨H.p, H.r, F⟩
theorem ok : ConOk P_ gl 202 c := co H func202 .nil rn
end F202
namespace F201
noncomputable def H : Hd := ⟨[.agg [.agg [Si, Si], Si, Ss, Sb, Sw, .lf (.list (.list (.int .u8))) none, Sb, Sz, Si], Si, Si], [Sz], .d, ⟨[], gl, false⟩, [], f201⟩
noncomputable def F := u12 Al0
theorem rn x : H.u P_ x = F x := by kernel_rfl
noncomputable def c : Con := ⟨H.p, H.r, F⟩
theorem ok : ConOk P_ gl 201 c := co H func201 .nil rn
end F201
namespace F124
abbrev R_ := Bool
abbrev K_ := S → Option R_
noncomputable def H : Hd := ⟨[.agg [.agg [Si, Si], Si, Ss, Sb, Sw, .lf (.list (.list (.int .u8))) none, Sb, Sz, Si], Si], [Sz], (.seq .d (.seq .d (.cut [1, 2, 5] [] .d (.seq .d (.seq .d (.cut [1, 2, 5, 6] [] .d (.cut [1, 2, 5] [] .d (.seq .d (.cut [4] [] (.keep [4, 80, 81] true) .d))))))))), ⟨[(162, F162.c), (200, F200.c), (201, F201.c), (202, F202.c)], gl, false⟩, [(203, (.seq .d (.cut [4] [] (.keep [4, 7, 8] true) .d))), (204, .d), (256, (.seq .d (.cut [] [] (.seq .d (.blk (.loop [0, 1, 7, 8] [] (.seq .d (.seq .d (.cut [0, 1, 7, 8] [] (.blk (.seq .d (.cut [0, 1, 5, 7, 8, 16] [] (.keep [0, 1, 5, 7, 8, 16] true) .d))) .d)))))) .d)))], f124⟩
def t16 (b : List LB) (f a g : Int) : S := ⟨[(0, .val (.list (.list (.int .u8))) b), (1, .fn 204 [.ptr 0 []]), (7, vi (Ac b)), (8, vi g)], [.box 3 (vi (Ae (Bq (Ae (Bb (Bb (81 : Int) f) a) (7 : Int)) (8 : Int)) (4 : Int)))], [[(4, vt false)], []]⟩
def z16 : Nat → S → Option R_ := H.i P_ [r,r,r,r,r,r,r,r,l,(call 3 203),r,l,(call 2 256),r,l,r,d]
def x24 (w : Bool) : Option R_ := H.e P_ [r,r,r,r,r,r,r,r,r] ⟨[(4, vt (!w))], [], []⟩
def x23 (w : Bool) : Option R_ := H.e P_ [r,r,r,r,r,r,r,r,l,(call 3 203),r,r] ⟨[(4, vt w)], [], [[]]⟩
def x22 : Option R_ := H.e P_ [r,r,r,r,r,r,r,r,l,(call 3 203),r,l,(call 2 256),r,r] ⟨[], [], [[(4, vt false)], []]⟩
def x20 (kn16 : K_) (b : List LB) (f a g : Int) : Option R_ := H.e P_ [r,r,r,r,r,r,r,r,l,(call 3 203),r,l,(call 2 256),r,l,r,d,(lp kn16),r,r,r] ⟨[(0, .val (.list (.list (.int .u8))) b), (1, .fn 204 [.ptr 0 []]), (7, vi (Ac b)), (8, vi g)], [.box 3 (vi (Ae (Bq (Ae (Bb (Bb (81 : Int) f) a) (7 : Int)) (8 : Int)) (4 : Int)))], [[(4, vt false)], []]⟩
def x19 (kn16 : K_) (b : List LB) (f a g : Int) (y : LB) : Option R_ := H.e P_ [r,r,r,r,r,r,r,r,l,(call 3 203),r,l,(call 2 256),r,l,r,d,(lp kn16),r,r,l,d,r,r] ⟨[(0, .val (.list (.list (.int .u8))) b), (1, .fn 204 [.ptr 0 []]), (5, vi g), (7, vi (Ac b)), (8, vi g), (16, vt ((Cj (Ac y) (5 : Int)) || (Cu (Ac y) (Ae (Bq (Ae (Bb (Bb (81 : Int) f) a) (7 : Int)) (8 : Int)) (4 : Int)))))], [.box 3 (vi (Ae (Bq (Ae (Bb (Bb (81 : Int) f) a) (7 : Int)) (8 : Int)) (4 : Int)))], [[(4, vt false)], []]⟩
def x16 (b : List LB) (f a g : Int) : Option R_ := H.e P_ [r,r,r,r,r,r,r,r,l,(call 3 203),r,l,(call 2 256),r,l,r,d] (t16 b f a g)
def x15 (f a k o : Int) (p m : LB) (h : LX) (b : List LB) (n : LB) (u : Bool) (v : Int) : Option R_ := H.e P_ [r,r,r,r,r,r,r] ⟨[(1, vi f), (2, .ptr 0 []), (5, vi a)], [.box 67 (.agg [.agg [vi a, vi k], vi o, vs p, vb m, vw h, .val (.list (.list (.int .u8))) b, vb n, vt u, vi v])], []⟩
def x14 (f a k o : Int) (p m : LB) (h : LX) (b : List LB) (n : LB) (u : Bool) (v aa : Int) : Option R_ := H.e P_ [r,r,r,r,r,r] ⟨[(1, vi f), (2, .ptr 0 []), (5, vi a), (6, vi aa)], [.box 67 (.agg [.agg [vi a, vi k], vi o, vs p, vb m, vw h, .val (.list (.list (.int .u8))) b, vb n, vt u, vi v])], []⟩
def x13 (f a k o : Int) (p m : LB) (h : LX) (b : List LB) (n : LB) (u : Bool) (v : Int) : Option R_ := H.e P_ [r,r,r] ⟨[(1, vi f), (2, .ptr 0 []), (5, vi a)], [.box 67 (.agg [.agg [vi a, vi k], vi o, vs p, vb m, vw h, .val (.list (.list (.int .u8))) b, vb n, vt u, vi v])], []⟩
theorem e24 : x24 = Ym := by kernel_rfl
theorem e23 : x23 = Pc := Eq.trans (b := Yb x24) (by kernel_rfl) (by simp only [e24] <;> rfl)
theorem e22 : x22 = Agw := Eq.trans (b := Agi x23) (by kernel_rfl) (by simp only [e23] <;> rfl)
theorem e20 (kn16 : K_) (b : List LB) (f a : Int) : x20 kn16 b f a = Ya (fun g => kn16 (t16 b f a g)) b f a := by kernel_rfl
theorem e19 (kn16 : K_) (b : List LB) (f a : Int) : x19 kn16 b f a = Yj (fun g => kn16 (t16 b f a g)) b f a := Eq.trans (b := Yc x23 (x20 kn16 b f a) b f a) (by kernel_rfl) (by simp only [e23, e20] <;> rfl)
theorem i16 (b : List LB) (f a : Int) : ∀ (q : Nat) (g : Int), z16 q (t16 b f a g) = Hn b f a q g :=
 ind (fun _ => by kernel_rfl) fun q ih g => Eq.trans (b := Pf (x19 (z16 q) b f a) x22 b f a g) (by kernel_rfl) (by simp only [e19, e22, ih] <;> rfl)
theorem e16 : x16 = Yx := by funext b f a g; exact Eq.trans (by kernel_rfl) ((i16 b f a Bn g).trans (by rw [Ak]; rfl))
theorem e15 : x15 = Yq := Eq.trans (b := Yo x16) (by kernel_rfl) (by simp only [e16] <;> rfl)
theorem e14 : x14 = Pr := Eq.trans (b := Yd x15) (by kernel_rfl) (by simp only [e15] <;> rfl)
theorem e13 : x13 = Yr := Eq.trans (b := Yt x14) (by kernel_rfl) (by simp only [e14] <;> rfl)
noncomputable def F := u11 Zr
theorem rn x : H.u P_ x = F x := Eq.trans (b := u11 (Aal x13) x) (by kernel_rfl) (by simp only [e13] <;> rfl)
noncomputable def c : Con := ⟨H.p, H.r, F⟩
theorem ok : ConOk P_ gl 124 c := cr H func124 (.cons F162.ok (.cons F200.ok (.cons F201.ok (.cons F202.ok .nil)))) (AnsOk.cons ent203 (AnsOk.cons ent204 (AnsOk.cons ent256 AnsOk.nil))) rn
end F124
namespace F66
noncomputable def H : Hd := ⟨[.agg [.agg [Si, Si], Si, Ss, Sb, Sw, .lf (.list (.list (.int .u8))) none, Sb, Sz, Si]], [Si], .d, ⟨[(123, F123.c), (124, F124.c)], gl, false⟩, [], f66⟩
noncomputable def F := u10 Aer
theorem rn x : H.u P_ x = F x := by kernel_rfl
noncomputable def c : Con := ⟨H.p, H.r, F⟩
theorem ok : ConOk P_ gl 66 c := co H func66 (.cons F123.ok (.cons F124.ok .nil)) rn
end F66
namespace F67
abbrev R_ := Int
noncomputable def H : Hd := ⟨[.agg [.agg [Si, Si], Si, Ss, Sb, Sw, .lf (.list (.list (.int .u8))) none, Sb, Sz, Si]], [Si], (.seq .d (.seq .d (.cut [3] [] (.seq .d (.blk (.loop [3, 19, 20, 21] [] .d))) .d))), ⟨[], gl, false⟩, [], f67⟩
def t4 (b : List LB) (a f : Int) : S := ⟨[(3, vi a), (19, .val (.list (.list (.int .u8))) b), (20, vi (Ac b)), (21, vi f)], [], []⟩
def z4 : Nat → S → Option R_ := H.i P_ [r,r,l,r,d]
def x6 (a : Int) : Option R_ := H.e P_ [r,r,r] ⟨[(3, vi a)], [], []⟩
def x4 (b : List LB) (a f : Int) : Option R_ := H.e P_ [r,r,l,r,d] (t4 b a f)
theorem e6 : x6 = Ant := by kernel_rfl
theorem i4 (b : List LB) : ∀ (q : Nat) (a f : Int), z4 q (t4 b a f) = Mr b q a f :=
 ind (fun _ _ => by kernel_rfl) fun q ih a f => Eq.trans (b := Zo x6 (fun a f => (z4 q) (t4 b a f)) b a f) (by kernel_rfl) (by simp only [e6, ih] <;> rfl)
theorem e4 : x4 = Anl := by funext b a f; exact Eq.trans (by kernel_rfl) ((i4 b Bn a f).trans (by rw [Ak]; rfl))
noncomputable def F := u10 Am3
theorem rn x : H.u P_ x = F x := Eq.trans (b := u10 (Anj x4) x) (by kernel_rfl) (by simp only [e4] <;> rfl)
noncomputable def c : Con := ⟨H.p, H.r, F⟩
theorem ok : ConOk P_ gl 67 c := co H func67 .nil rn
end F67
namespace F29
noncomputable def H : Hd := ⟨[.agg [.agg [Si, Si], Si, Ss, Sb, Sw, .lf (.list (.list (.int .u8))) none, Sb, Sz, Si]], [Si, Si], .d, ⟨[(66, F66.c), (67, F67.c)], gl, false⟩, [], f29⟩
noncomputable def F := u10 Aio
theorem rn x : H.u P_ x = F x := by kernel_rfl
noncomputable def c : Con := ⟨H.p, H.r, F⟩
theorem ok : ConOk P_ gl 29 c := co H func29 (.cons F66.ok (.cons F67.ok .nil)) rn
end F29
namespace F205
noncomputable def H : Hd := ⟨[Si], [Si, Si], .d, ⟨[], gl, false⟩, [], f205⟩
noncomputable def F := Ja
theorem rn x : H.u P_ x = F x := by kernel_rfl
noncomputable def c : Con := ⟨H.p, H.r, F⟩
theorem ok : ConOk P_ gl 205 c := co H func205 .nil rn
end F205
namespace F234
noncomputable def H : Hd := ⟨[Si], [Si], .d, ⟨[], gl, false⟩, [], f234⟩
noncomputable def F := Ez
theorem rn x : H.u P_ x = F x := by kernel_rfl
noncomputable def c : Con := ⟨H.p, H.r, F⟩
theorem ok : ConOk P_ gl 234 c := co H func234 .nil rn
end F234
namespace F169
noncomputable def H : Hd := ⟨[.agg [Si, Si]], [Si], .d, ⟨[(234, F234.c)], gl, false⟩, [], f169⟩
noncomputable def F := u2 Gc
theorem rn x : H.u P_ x = F x := by kernel_rfl
noncomputable def c : Con := ⟨H.p, H.r, F⟩
theorem ok : ConOk P_ gl 169 c := co H func169 (.cons F234.ok .nil) rn
end F169
namespace F125
noncomputable def H : Hd := ⟨[.agg [Si, Si], Si, Ss], [Si], .d, ⟨[(169, F169.c), (205, F205.c)], gl, false⟩, [], f125⟩
noncomputable def F := u4 Aan
theorem rn x : H.u P_ x = F x := by kernel_rfl
noncomputable def c : Con := ⟨H.p, H.r, F⟩
theorem ok : ConOk P_ gl 125 c := co H func125 (.cons F169.ok (.cons F205.ok .nil)) rn
end F125
namespace F206
noncomputable def H : Hd := ⟨[.agg [.agg [Si, Si], Si, Ss, Sb, Sw, .lf (.list (.list (.int .u8))) none, Sb, Sz, Si]], [Si], .d, ⟨[(205, F205.c)], gl, false⟩, [], f206⟩
noncomputable def F := u10 Nq
theorem rn x : H.u P_ x = F x := by kernel_rfl
noncomputable def c : Con := ⟨H.p, H.r, F⟩
theorem ok : ConOk P_ gl 206 c := co H func206 (.cons F205.ok .nil) rn
end F206
namespace F134
noncomputable def H : Hd := ⟨[.agg [Si, Si]], [Si], .d, ⟨[], gl, false⟩, [], f134⟩
noncomputable def F := u2 Hk
theorem rn x : H.u P_ x = F x := by kernel_rfl
noncomputable def c : Con := ⟨H.p, H.r, F⟩
theorem ok : ConOk P_ gl 134 c := co H func134 .nil rn
end F134
namespace F176
abbrev R_ := Int
noncomputable def H : Hd := ⟨[Si, Sw], [Si], (.seq .d (.seq .d (.seq .d (.seq .d (.cut [] [] (.seq .d (.blk (.loop [1, 5, 6] [] .d))) .d))))), ⟨[(234, F234.c)], gl, false⟩, [], f176⟩
def t4 (a : LX) (b f : Int) : S := ⟨[(1, vw a), (5, vi b), (6, vi f)], [], []⟩
def z4 : Nat → S → Option R_ := H.i P_ [r,r,r,r,l,r,d]
def x6 : Option R_ := H.e P_ [r,r,r,r,r] ⟨[], [], []⟩
def x4 (a : LX) (b f : Int) : Option R_ := H.e P_ [r,r,r,r,l,r,d] (t4 a b f)
theorem e6 : x6 = Ady := by kernel_rfl
theorem i4 (a : LX) (b : Int) : ∀ (q : Nat) (f : Int), z4 q (t4 a b f) = Bd a b q f :=
 ind (fun _ => by kernel_rfl) fun q ih f => Eq.trans (b := Cr x6 (fun f => (z4 q) (t4 a b f)) a b f) (by kernel_rfl) (by simp only [e6, ih] <;> rfl)
theorem e4 : x4 = Adv := by funext a b f; exact Eq.trans (by kernel_rfl) ((i4 a b Bn f).trans (by rw [Ak]; rfl))
noncomputable def F := u2 Au
theorem rn x : H.u P_ x = F x := Eq.trans (b := u2 (Fh x4) x) (by kernel_rfl) (by simp only [e4] <;> rfl)
noncomputable def c : Con := ⟨H.p, H.r, F⟩
theorem ok : ConOk P_ gl 176 c := co H func176 (.cons F234.ok .nil) rn
end F176
namespace F208
noncomputable def H : Hd := ⟨[.agg [.agg [Si, Si], Si, Ss, Sb, Sw, .lf (.list (.list (.int .u8))) none, Sb, Sz, Si]], [Si], .d, ⟨[(206, F206.c)], gl, false⟩, [], f208⟩
noncomputable def F := u10 Aaq
theorem rn x : H.u P_ x = F x := by kernel_rfl
noncomputable def c : Con := ⟨H.p, H.r, F⟩
theorem ok : ConOk P_ gl 208 c := co H func208 (.cons F206.ok .nil) rn
end F208
namespace F207
noncomputable def H : Hd := ⟨[.agg [.agg [Si, Si], Si, Ss, Sb, Sw, .lf (.list (.list (.int .u8))) none, Sb, Sz, Si], Si, Si], [Sz], .d, ⟨[], gl, false⟩, [], f207⟩
noncomputable def F := u12 Acg
theorem rn x : H.u P_ x = F x := by kernel_rfl
noncomputable def c : Con := ⟨H.p, H.r, F⟩
theorem ok : ConOk P_ gl 207 c := co H func207 .nil rn
end F207
namespace F126
abbrev R_ := Bool
noncomputable def H : Hd := ⟨[.agg [.agg [Si, Si], Si, Ss, Sb, Sw, .lf (.list (.list (.int .u8))) none, Sb, Sz, Si]], [Sz], (.seq .d (.seq .d (.cut [1, 3] [] .d (.seq .d (.cut [1, 3, 4] [] .d (.cut [1, 3] [] .d (.cut [] [] (.seq .d (.blk (.loop [1, 3, 5] [] .d))) .d))))))), ⟨[(134, F134.c), (176, F176.c), (206, F206.c), (207, F207.c), (208, F208.c)], gl, false⟩, [], f126⟩
def t10 (h f g n : Int) (o k : LB) (b : LX) (a : List LB) (m : LB) (p : Bool) (u v : Int) : S := ⟨[(1, .ptr 0 []), (3, vi h), (5, vi v)], [.box 67 (.agg [.agg [vi f, vi g], vi n, vs o, vb k, vw b, .val (.list (.list (.int .u8))) a, vb m, vt p, vi u])], []⟩
def z10 : Nat → S → Option R_ := H.i P_ [r,r,r,r,r,r,l,r,d]
def x12 : Option R_ := H.e P_ [r,r,r,r,r,r,r] ⟨[], [], []⟩
def x10 (h f g n : Int) (o k : LB) (b : LX) (a : List LB) (m : LB) (p : Bool) (u v : Int) : Option R_ := H.e P_ [r,r,r,r,r,r,l,r,d] (t10 h f g n o k b a m p u v)
def x9 (h f g n : Int) (o k : LB) (b : LX) (a : List LB) (m : LB) (p : Bool) (u : Int) : Option R_ := H.e P_ [r,r,r,r,r,r] ⟨[(1, .ptr 0 []), (3, vi h)], [.box 67 (.agg [.agg [vi f, vi g], vi n, vs o, vb k, vw b, .val (.list (.list (.int .u8))) a, vb m, vt p, vi u])], []⟩
def x8 (h f g n : Int) (o k : LB) (b : LX) (a : List LB) (m : LB) (p : Bool) (u w : Int) : Option R_ := H.e P_ [r,r,r,r,r] ⟨[(1, .ptr 0 []), (3, vi h), (4, vi w)], [.box 67 (.agg [.agg [vi f, vi g], vi n, vs o, vb k, vw b, .val (.list (.list (.int .u8))) a, vb m, vt p, vi u])], []⟩
def x7 (h f g n : Int) (o k : LB) (b : LX) (a : List LB) (m : LB) (p : Bool) (u : Int) : Option R_ := H.e P_ [r,r,r] ⟨[(1, .ptr 0 []), (3, vi h)], [.box 67 (.agg [.agg [vi f, vi g], vi n, vs o, vb k, vw b, .val (.list (.list (.int .u8))) a, vb m, vt p, vi u])], []⟩
theorem e12 : x12 = Zj := by kernel_rfl
theorem i10 (h f g n : Int) (o k : LB) (b : LX) (a : List LB) (m : LB) (p : Bool) (u : Int) : ∀ (q : Nat) (v : Int), z10 q (t10 h f g n o k b a m p u v) = Df h f g n o k b a m p u q v :=
 ind (fun _ => by kernel_rfl) fun q ih v => Eq.trans (b := Iq x12 (fun v => (z10 q) (t10 h f g n o k b a m p u v)) h f g n o k b a m p u v) (by kernel_rfl) (by simp only [e12, ih] <;> rfl)
theorem e10 : x10 = Oj := by funext h f g n o k b a m p u v; exact Eq.trans (by kernel_rfl) ((i10 h f g n o k b a m p u Bn v).trans (by rw [Ak]; rfl))
theorem e9 : x9 = Qe := Eq.trans (b := Qn x10) (by kernel_rfl) (by simp only [e10] <;> rfl)
theorem e8 : x8 = Jn := Eq.trans (b := Qj x9) (by kernel_rfl) (by simp only [e9] <;> rfl)
theorem e7 : x7 = Qf := Eq.trans (b := Qz x8) (by kernel_rfl) (by simp only [e8] <;> rfl)
noncomputable def F := u10 Np
theorem rn x : H.u P_ x = F x := Eq.trans (b := u10 (Qd x7) x) (by kernel_rfl) (by simp only [e7] <;> rfl)
noncomputable def c : Con := ⟨H.p, H.r, F⟩
theorem ok : ConOk P_ gl 126 c := co H func126 (.cons F134.ok (.cons F176.ok (.cons F206.ok (.cons F207.ok (.cons F208.ok .nil))))) rn
end F126
namespace F68
noncomputable def H : Hd := ⟨[.agg [.agg [Si, Si], Si, Ss, Sb, Sw, .lf (.list (.list (.int .u8))) none, Sb, Sz, Si]], [Si], .d, ⟨[(125, F125.c), (126, F126.c)], gl, false⟩, [], f68⟩
noncomputable def F := u10 Rw
theorem rn x : H.u P_ x = F x := by kernel_rfl
noncomputable def c : Con := ⟨H.p, H.r, F⟩
theorem ok : ConOk P_ gl 68 c := co H func68 (.cons F125.ok (.cons F126.ok .nil)) rn
end F68
namespace F69
abbrev R_ := Int
noncomputable def H : Hd := ⟨[.agg [.agg [Si, Si], Si, Ss, Sb, Sw, .lf (.list (.list (.int .u8))) none, Sb, Sz, Si]], [Si], (.seq .d (.seq .d (.cut [3] [] (.seq .d (.blk (.loop [1, 3, 4] [] .d))) .d))), ⟨[], gl, false⟩, [], f69⟩
def t4 (k m n : Int) (o f : LB) (g : LX) (b : List LB) (h : LB) (p : Bool) (u a v : Int) : S := ⟨[(1, .ptr 0 []), (3, vi a), (4, vi v)], [.box 67 (.agg [.agg [vi k, vi m], vi n, vs o, vb f, vw g, .val (.list (.list (.int .u8))) b, vb h, vt p, vi u])], []⟩
def z4 : Nat → S → Option R_ := H.i P_ [r,r,l,r,d]
def x6 (a : Int) : Option R_ := H.e P_ [r,r,r] ⟨[(3, vi a)], [], []⟩
def x4 (k m n : Int) (o f : LB) (g : LX) (b : List LB) (h : LB) (p : Bool) (u a v : Int) : Option R_ := H.e P_ [r,r,l,r,d] (t4 k m n o f g b h p u a v)
theorem e6 : x6 = Vo := by kernel_rfl
theorem i4 (k m n : Int) (o f : LB) (g : LX) (b : List LB) (h : LB) (p : Bool) (u : Int) : ∀ (q : Nat) (a v : Int), z4 q (t4 k m n o f g b h p u a v) = Cm k m n o f g b h p u q a v :=
 ind (fun _ _ => by kernel_rfl) fun q ih a v => Eq.trans (b := Gp x6 (fun a v => (z4 q) (t4 k m n o f g b h p u a v)) k m n o f g b h p u a v) (by kernel_rfl) (by simp only [e6, ih] <;> rfl)
theorem e4 : x4 = Vf := by funext k m n o f g b h p u a v; exact Eq.trans (by kernel_rfl) ((i4 k m n o f g b h p u Bn a v).trans (by rw [Ak]; rfl))
noncomputable def F := u10 Ny
theorem rn x : H.u P_ x = F x := Eq.trans (b := u10 (Vd x4) x) (by kernel_rfl) (by simp only [e4] <;> rfl)
noncomputable def c : Con := ⟨H.p, H.r, F⟩
theorem ok : ConOk P_ gl 69 c := co H func69 .nil rn
end F69
namespace F30
noncomputable def H : Hd := ⟨[.agg [.agg [Si, Si], Si, Ss, Sb, Sw, .lf (.list (.list (.int .u8))) none, Sb, Sz, Si]], [Si, Si], .d, ⟨[(68, F68.c), (69, F69.c)], gl, false⟩, [], f30⟩
noncomputable def F := u10 Xb
theorem rn x : H.u P_ x = F x := by kernel_rfl
noncomputable def c : Con := ⟨H.p, H.r, F⟩
theorem ok : ConOk P_ gl 30 c := co H func30 (.cons F68.ok (.cons F69.ok .nil)) rn
end F30
namespace F50
def Age (a : LB) : Option (LB) :=
Aw1 a (
some ([] : LB)) (
(Fz ([] : LB) a).bind fun b =>
some b)
theorem Aq6 : @Age = @Wt := by
  unfold Age Wt
  repeat (refine funext fun _ => ?_)
  repeat' first
    | with_reducible rfl
    | with_reducible refine Hz ?_ ?_
    | with_reducible refine Hy ?_ ?_ ?_
    | with_reducible refine Ic ?_ ?_ ?_ ?_
    | ((with_reducible refine Lz ?_ ?_); focus (intro h; first | (subst h; rfl) | (simp only [h]; rfl) | (simp [Fz, Ac, h]; done)))
    | with_reducible refine Lu fun x => ?_
    | with_reducible refine Ue (fun _ => ?_) (fun _ => ?_)
    | (refine Dn (fun h => by simp only [h, Me, Cg, Cb, ite_self]) (fun x h => ?_); (try simp only [h, Cg]))
    | (refine Fm (fun h => ?_) (fun h => ?_) <;> simp only [h, if_true, if_false, Bool.false_eq_true])
noncomputable def H : Hd := ⟨[Sb], [Ob 5], .d, ⟨[], gl, false⟩, [], f50⟩
noncomputable def F := Wt
theorem rn x : H.u P_ x = F x := Eq.trans (b := Age x) (by kernel_rfl) (by rw [Aq6]; rfl)
noncomputable def c : Con := ⟨H.p, H.r, F⟩
theorem ok : ConOk P_ gl 50 c := co H func50 .nil rn
end F50
namespace F71
def Oe (a : LI) : Option (LI) :=
Aw1 a (
some ([] : LI)) (
(Fz ([] : LI) a).bind fun b =>
some b)
theorem Ag8 : @Oe = @Iv := by
  unfold Oe Iv
  repeat (refine funext fun _ => ?_)
  repeat' first
    | with_reducible rfl
    | with_reducible refine Hz ?_ ?_
    | with_reducible refine Hy ?_ ?_ ?_
    | with_reducible refine Ic ?_ ?_ ?_ ?_
    | ((with_reducible refine Lz ?_ ?_); focus (intro h; first | (subst h; rfl) | (simp only [h]; rfl) | (simp [Fz, Ac, h]; done)))
    | with_reducible refine Lu fun x => ?_
    | with_reducible refine Ue (fun _ => ?_) (fun _ => ?_)
    | (refine Dn (fun h => by simp only [h, Me, Cg, Cb, ite_self]) (fun x h => ?_); (try simp only [h, Cg]))
    | (refine Fm (fun h => ?_) (fun h => ?_) <;> simp only [h, if_true, if_false, Bool.false_eq_true])
noncomputable def H : Hd := ⟨[Sl], [Ol 3], .d, ⟨[], gl, false⟩, [], f71⟩
noncomputable def F := Iv
theorem rn x : H.u P_ x = F x := Eq.trans (b := Oe x) (by kernel_rfl) (by rw [Ag8]; rfl)
noncomputable def c : Con := ⟨H.p, H.r, F⟩
theorem ok : ConOk P_ gl 71 c := co H func71 .nil rn
end F71
namespace F35
noncomputable def H : Hd := ⟨[.agg [Ss, Sb, .agg [Si, Si, Si, Si, Si], Sl, Si, Sb, Sz, Si]], [.agg [Ss, Ob 5, .agg [Si, Si, Si, Si, Si], Ol 3, Si, Ob 5, Sz, Si]], .d, ⟨[(50, F50.c), (71, F71.c)], gl, false⟩, [], f35⟩
noncomputable def F := u12 Aco
theorem rn x : H.u P_ x = F x := by kernel_rfl
noncomputable def c : Con := ⟨H.p, H.r, F⟩
theorem ok : ConOk P_ gl 35 c := co H func35 (.cons F50.ok (.cons F71.ok .nil)) rn
end F35
namespace F142
abbrev R_ := Bool
noncomputable def H : Hd := ⟨[.agg [Si, Si, Si, Si, Si]], [Sz], (.seq .d (.cut [1] [] .d .d)), ⟨[], gl, false⟩, [], f142⟩
def x2 (b f a g h : Int) : Option R_ := H.e P_ [r,r] ⟨[(1, .ptr 0 [])], [.box 24 (.agg [vi b, vi f, vi a, vi g, vi h])], []⟩
theorem e2 : x2 = Kx := by kernel_rfl
noncomputable def F := u5 Oh
theorem rn x : H.u P_ x = F x := Eq.trans (b := u5 (Xs x2) x) (by kernel_rfl) (by simp only [e2] <;> rfl)
noncomputable def c : Con := ⟨H.p, H.r, F⟩
theorem ok : ConOk P_ gl 142 c := co H func142 .nil rn
end F142
namespace F209
noncomputable def H : Hd := ⟨[Si, Si], [Si, Si], .d, ⟨[(199, F199.c)], gl, false⟩, [], f209⟩
noncomputable def F := u2 Zf
theorem rn x : H.u P_ x = F x := by kernel_rfl
noncomputable def c : Con := ⟨H.p, H.r, F⟩
theorem ok : ConOk P_ gl 209 c := co H func209 (.cons F199.ok .nil) rn
end F209
namespace F143
noncomputable def H : Hd := ⟨[.agg [Si, Si, Si, Si, Si]], [Sz], .d, ⟨[(209, F209.c)], gl, false⟩, [], f143⟩
noncomputable def F := u5 Ae6
theorem rn x : H.u P_ x = F x := by kernel_rfl
noncomputable def c : Con := ⟨H.p, H.r, F⟩
theorem ok : ConOk P_ gl 143 c := co H func143 (.cons F209.ok .nil) rn
end F143
namespace F127
noncomputable def H : Hd := ⟨[.agg [Si, Si, Si, Si, Si]], [Si], .d, ⟨[(142, F142.c), (143, F143.c)], gl, false⟩, [], f127⟩
noncomputable def F := u5 Xv
theorem rn x : H.u P_ x = F x := by kernel_rfl
noncomputable def c : Con := ⟨H.p, H.r, F⟩
theorem ok : ConOk P_ gl 127 c := co H func127 (.cons F142.ok (.cons F143.ok .nil)) rn
end F127
namespace F288
noncomputable def H : Hd := ⟨[Sq, Sq], [Sq, Sq], .d, ⟨[], gl, false⟩, [], f288⟩
noncomputable def F := u2 Aga
theorem rn x : H.u P_ x = F x := by kernel_rfl
noncomputable def c : Con := ⟨H.p, H.r, F⟩
theorem ok : ConOk P_ gl 288 c := co H func288 .nil rn
end F288
namespace F257
noncomputable def H : Hd := ⟨[Sq, Sq], [Sq, Sq], .d, ⟨[(288, F288.c)], gl, false⟩, [], f257⟩
noncomputable def F := u2 Aem
theorem rn x : H.u P_ x = F x := by kernel_rfl
noncomputable def c : Con := ⟨H.p, H.r, F⟩
theorem ok : ConOk P_ gl 257 c := co H func257 (.cons F288.ok .nil) rn
end F257
namespace F210
def Mj (j10 : LI → Option (LI)) (bk8 : Int → LI → Option (LI)) (b : Int) (a : LI) : Option (LI) :=
if (Cj b (Ac a)) then
both (
(vwI (Ac a) b (Ac a)).bind fun _ =>
(vwI (Ac a) 0 b).bind fun _ =>
bk8 (Ae b (Ah0 ((Ac a) - b) (Ak6 a 0 (b - (0 : Int))).length)) (Tv a b ((Ac a) - b) (Ak6 a 0 (b - (0 : Int))))) [
(vwI (Ac a) 0 b).bind fun _ =>
(vwI (Ac a) b (Ac a)).bind fun _ =>
bk8 (Ae b (Ah0 ((Ac a) - b) (Ak6 a 0 (b - (0 : Int))).length)) (Tv a b ((Ac a) - b) (Ak6 a 0 (b - (0 : Int))))]
else
j10 a
theorem Afx : @Mj = @Fv := by
  unfold Mj Fv
  repeat (refine funext fun _ => ?_)
  repeat' first
    | with_reducible rfl
    | with_reducible refine Hz ?_ ?_
    | with_reducible refine Hy ?_ ?_ ?_
    | with_reducible refine Ic ?_ ?_ ?_ ?_
    | ((with_reducible refine Lz ?_ ?_); focus (intro h; first | (subst h; rfl) | (simp only [h]; rfl) | (simp [Fz, Ac, h]; done)))
    | with_reducible refine Lu fun x => ?_
    | with_reducible refine Ue (fun _ => ?_) (fun _ => ?_)
    | (refine Dn (fun h => by simp only [h, Me, Cg, Cb, ite_self]) (fun x h => ?_); (try simp only [h, Cg]))
    | (refine Fm (fun h => ?_) (fun h => ?_) <;> simp only [h, if_true, if_false, Bool.false_eq_true])
abbrev R_ := LI
noncomputable def H : Hd := ⟨[Sl, Si], [Ol 3], (.seq .d (.cut [0, 1] [] .d (.seq .d (.cut [0, 6] [] .d (.seq .d (.seq .d (.cut [7] [] (.blk (.loop [7, 8] [] (.seq .d (.blk (.mode false))))) .d))))))), ⟨[(257, F257.c)], gl, true⟩, [], f210⟩
def t8 (b : Int) (a : LI) : S := ⟨[(7, .own 0), (8, vi b)], [Ai 3 a], []⟩
def z8 : Nat → S → Option R_ := H.i P_ [r,r,r,r,r,r,l,d]
def x10 (a : LI) : Option R_ := H.e P_ [r,r,r,r,r,r,r] ⟨[(7, .own 0)], [Ai 3 a], []⟩
def x8 (b : Int) (a : LI) : Option R_ := H.e P_ [r,r,r,r,r,r,l,d] (t8 b a)
def x7 (f : LI) (g : UInt64) : Option R_ := H.e P_ [r,r,r,r] ⟨[(0, vl f), (6, vq g)], [], []⟩
def x6 (f : LI) (h : Int) : Option R_ := H.e P_ [r,r] ⟨[(0, vl f), (1, vi h)], [], []⟩
theorem e10 : x10 = Hw := by kernel_rfl
theorem i8 : ∀ (q : Nat) (b : Int) (a : LI), z8 q (t8 b a) = Dg q b a :=
 ind (fun _ _ => by kernel_rfl) fun q ih b a => Eq.trans (b := Mj x10 (fun b a => (z8 q) (t8 b a)) b a) (by kernel_rfl) (by rw [Afx]; simp only [e10, ih] <;> rfl)
theorem e8 : x8 = Oo := by funext b a; exact Eq.trans (by kernel_rfl) ((i8 Bn b a).trans (by rw [Ak]; rfl))
theorem e7 : x7 = Ok := Eq.trans (b := Ot x8) (by kernel_rfl) (by simp only [e8] <;> rfl)
theorem e6 : x6 = Od := Eq.trans (b := Oq x7) (by kernel_rfl) (by simp only [e7] <;> rfl)
noncomputable def F := u2 Mf
theorem rn x : H.u P_ x = F x := Eq.trans (b := u2 (Og x6) x) (by kernel_rfl) (by simp only [e6] <;> rfl)
noncomputable def c : Con := ⟨H.p, H.r, F⟩
theorem ok : ConOk P_ gl 210 c := co H func210 (.cons F257.ok .nil) rn
end F210
namespace F258
abbrev R_ := LI
noncomputable def H : Hd := ⟨[.lf (.list (.list (.int .i64))) none], [Ol 3], (.seq .d (.seq .d (.cut [0, 3] [] (.seq .d (.blk (.loop [0, 3, 9, 10, 11] [] .d))) (.cut [0, 6] [⟨6, [], .own 3 (.int .i64)⟩] (.keep [0, 3, 6, 23, 24] true) (.cut [6] [] (.seq .d (.blk (.loop [6, 25, 26, 27] [] .d))) .d))))), ⟨[], gl, true⟩, [(289, (.seq .d (.cut [0, 1] [] .d .d)))], f258⟩
def t14 (a : List LI) (g : Int) (f : LI) : S := ⟨[(6, .own 0), (25, .val (.list (.list (.int .i64))) a), (26, vi (Ac a)), (27, vi g)], [Ai 3 f], []⟩
def z14 : Nat → S → Option R_ := H.i P_ [r,r,r,r,l,r,d]
def t9 (a : List LI) (b h : Int) : S := ⟨[(0, .val (.list (.list (.int .i64))) a), (3, vi b), (9, .val (.list (.list (.int .i64))) a), (10, vi (Ac a)), (11, vi h)], [], []⟩
def z9 : Nat → S → Option R_ := H.i P_ [r,r,l,r,d]
def x16 (f : LI) : Option R_ := H.e P_ [r,r,r,r,r] ⟨[(6, .own 0)], [Ai 3 f], []⟩
def x14 (a : List LI) (g : Int) (f : LI) : Option R_ := H.e P_ [r,r,r,r,l,r,d] (t14 a g f)
def x13 (a : List LI) (k : LI) : Option R_ := H.e P_ [r,r,r,r] ⟨[(0, .val (.list (.list (.int .i64))) a), (6, .own 0)], [Ai 3 k], []⟩
def x12 (b : Int) (a : List LI) : Option R_ := H.e P_ [r,r,r,l,(call 1 289),r,r] ⟨[(0, .nils), (1, vi b)], [], [[(0, .val (.list (.list (.int .i64))) a), (3, vi b), (23, vi b)]]⟩
def x11 (a : List LI) (b : Int) : Option R_ := H.e P_ [r,r,r] ⟨[(0, .val (.list (.list (.int .i64))) a), (3, vi b)], [], []⟩
def x9 (a : List LI) (b h : Int) : Option R_ := H.e P_ [r,r,l,r,d] (t9 a b h)
theorem e16 : x16 = Xw := by kernel_rfl
theorem i14 (a : List LI) : ∀ (q : Nat) (g : Int) (f : LI), z14 q (t14 a g f) = Cz a q g f :=
 ind (fun _ _ => by kernel_rfl) fun q ih g f => Eq.trans (b := Er x16 (fun g f => (z14 q) (t14 a g f)) a g f) (by kernel_rfl) (by simp only [e16, ih] <;> rfl)
theorem e14 : x14 = Mn := by funext a g f; exact Eq.trans (by kernel_rfl) ((i14 a Bn g f).trans (by rw [Ak]; rfl))
theorem e13 : x13 = Hu := Eq.trans (b := Ml x14) (by kernel_rfl) (by simp only [e14] <;> rfl)
theorem e12 : x12 = Mk := Eq.trans (b := Mm x13) (by kernel_rfl) (by simp only [e13] <;> rfl)
theorem e11 : x11 = Mo := Eq.trans (b := Mp x12) (by kernel_rfl) (by simp only [e12] <;> rfl)
theorem i9 (a : List LI) : ∀ (q : Nat) (b h : Int), z9 q (t9 a b h) = Dh a q b h :=
 ind (fun _ _ => by kernel_rfl) fun q ih b h => Eq.trans (b := Fs x11 (fun b h => (z9 q) (t9 a b h)) a b h) (by kernel_rfl) (by simp only [e11, ih] <;> rfl)
theorem e9 : x9 = Oy := by funext a b h; exact Eq.trans (by kernel_rfl) ((i9 a Bn b h).trans (by rw [Ak]; rfl))
noncomputable def F := Lt
theorem rn x : H.u P_ x = F x := Eq.trans (b := Oi x9 x) (by kernel_rfl) (by simp only [e9] <;> rfl)
noncomputable def c : Con := ⟨H.p, H.r, F⟩
theorem ok : ConOk P_ gl 258 c := cr H func258 .nil (AnsOk.cons ent289 AnsOk.nil) rn
end F258
namespace F211
noncomputable def H : Hd := ⟨[Sl, Sl], [Ol 3], .d, ⟨[(258, F258.c)], gl, false⟩, [], f211⟩
noncomputable def F := u2 Aht
theorem rn x : H.u P_ x = F x := by kernel_rfl
noncomputable def c : Con := ⟨H.p, H.r, F⟩
theorem ok : ConOk P_ gl 211 c := co H func211 (.cons F258.ok .nil) rn
end F211
namespace F128
noncomputable def H : Hd := ⟨[Si, Si], [Ol 3, Si], .d, ⟨[(199, F199.c), (209, F209.c), (210, F210.c), (211, F211.c)], gl, false⟩, [], f128⟩
noncomputable def F := u2 Aju
theorem rn x : H.u P_ x = F x := by kernel_rfl
noncomputable def c : Con := ⟨H.p, H.r, F⟩
theorem ok : ConOk P_ gl 128 c := co H func128 (.cons F199.ok (.cons F209.ok (.cons F210.ok (.cons F211.ok .nil)))) rn
end F128
namespace F72
noncomputable def H : Hd := ⟨[.agg [Si, Si, Si, Si, Si]], [Ol 3, Si], .d, ⟨[(127, F127.c), (128, F128.c)], gl, false⟩, [], f72⟩
noncomputable def F := u5 Eh
theorem rn x : H.u P_ x = F x := by kernel_rfl
noncomputable def c : Con := ⟨H.p, H.r, F⟩
theorem ok : ConOk P_ gl 72 c := co H func72 (.cons F127.ok (.cons F128.ok .nil)) rn
end F72
namespace F73
noncomputable def H : Hd := ⟨[.agg [Si, Si, Si, Si, Si], Ss], [Si], .d, ⟨[], gl, false⟩, [], f73⟩
noncomputable def F := u6 Ws
theorem rn x : H.u P_ x = F x := by kernel_rfl
noncomputable def c : Con := ⟨H.p, H.r, F⟩
theorem ok : ConOk P_ gl 73 c := co H func73 .nil rn
end F73
namespace F74
abbrev R_ := Int
noncomputable def H : Hd := ⟨[Sl], [Si], (.seq .d (.seq .d (.seq .d (.cut [] [] (.seq .d (.blk (.loop [3, 14, 15, 16] [] .d))) .d)))), ⟨[], gl, false⟩, [], f74⟩
def t4 (a : LI) (f b : Int) : S := ⟨[(3, vi f), (14, vl a), (15, vi (Ac a)), (16, vi b)], [], []⟩
def z4 : Nat → S → Option R_ := H.i P_ [r,r,r,l,r,d]
def x6 : Option R_ := H.e P_ [r,r,r,r] ⟨[], [], []⟩
def x4 (a : LI) (f b : Int) : Option R_ := H.e P_ [r,r,r,l,r,d] (t4 a f b)
theorem e6 : x6 = Apm := by kernel_rfl
theorem i4 (a : LI) : ∀ (q : Nat) (f b : Int), z4 q (t4 a f b) = Qo a q f b :=
 ind (fun _ _ => by kernel_rfl) fun q ih f b => Eq.trans (b := Ab5 x6 (fun f b => (z4 q) (t4 a f b)) a f b) (by kernel_rfl) (by simp only [e6, ih] <;> rfl)
theorem e4 : x4 = Aix := by funext a f b; exact Eq.trans (by kernel_rfl) ((i4 a Bn f b).trans (by rw [Ak]; rfl))
noncomputable def F := Re
theorem rn x : H.u P_ x = F x := Eq.trans (b := Abv x4 x) (by kernel_rfl) (by simp only [e4] <;> rfl)
noncomputable def c : Con := ⟨H.p, H.r, F⟩
theorem ok : ConOk P_ gl 74 c := co H func74 .nil rn
end F74
namespace F36
abbrev R_ := Bool
noncomputable def H : Hd := ⟨[.agg [Ss, Sb, .agg [Si, Si, Si, Si, Si], Sl, Si, Sb, Sz, Si]], [Sz], (.seq .d (.seq .d (.seq .d (.cut [1, 3] [] .d (.seq .d (.seq .d (.seq .d (.cut [1, 5] [] (.seq .d (.blk (.loop [1, 5, 83, 84, 85] [] .d))) .d)))))))), ⟨[(72, F72.c), (73, F73.c), (74, F74.c)], gl, false⟩, [], f36⟩
def t6 (y : LI) (o p : LB) (h b f k m : Int) (g : LI) (a : Int) (n : LB) (u : Bool) (v w aa : Int) : S := ⟨[(1, .ptr 0 []), (5, vi w), (83, vl y), (84, vi (Ac y)), (85, vi aa)], [.box 28 (.agg [vs o, vb p, .agg [vi h, vi b, vi f, vi k, vi m], vl g, vi a, vb n, vt u, vi v])], []⟩
def z6 : Nat → S → Option R_ := H.i P_ [r,r,r,r,r,r,r,l,r,d]
def x8 (w : Int) (o p : LB) (h b f k m : Int) (g : LI) (a : Int) (n : LB) (u : Bool) (v : Int) : Option R_ := H.e P_ [r,r,r,r,r,r,r,r] ⟨[(1, .ptr 0 []), (5, vi w)], [.box 28 (.agg [vs o, vb p, .agg [vi h, vi b, vi f, vi k, vi m], vl g, vi a, vb n, vt u, vi v])], []⟩
def x6 (y : LI) (o p : LB) (h b f k m : Int) (g : LI) (a : Int) (n : LB) (u : Bool) (v w aa : Int) : Option R_ := H.e P_ [r,r,r,r,r,r,r,l,r,d] (t6 y o p h b f k m g a n u v w aa)
def x5 (o p : LB) (h b f k m : Int) (g : LI) (a : Int) (n : LB) (u : Bool) (v : Int) (ab : LI) : Option R_ := H.e P_ [r,r,r,r] ⟨[(1, .ptr 0 []), (3, .own 1)], [.box 28 (.agg [vs o, vb p, .agg [vi h, vi b, vi f, vi k, vi m], vl g, vi a, vb n, vt u, vi v]), Ai 3 ab], []⟩
theorem e8 : x8 = Agd := by kernel_rfl
theorem i6 (y : LI) (o p : LB) (h b f k m : Int) (g : LI) (a : Int) (n : LB) (u : Bool) (v : Int) : ∀ (q : Nat) (w aa : Int), z6 q (t6 y o p h b f k m g a n u v w aa) = Mt y o p h b f k m g a n u v q w aa :=
 ind (fun _ _ => by kernel_rfl) fun q ih w aa => Eq.trans (b := Zl x8 (fun w aa => (z6 q) (t6 y o p h b f k m g a n u v w aa)) y o p h b f k m g a n u v w aa) (by kernel_rfl) (by simp only [e8, ih] <;> rfl)
theorem e6 : x6 = Af9 := by funext y o p h b f k m g a n u v w aa; exact Eq.trans (by kernel_rfl) ((i6 y o p h b f k m g a n u v Bn w aa).trans (by rw [Ak]; rfl))
theorem e5 : x5 = Afy := Eq.trans (b := Af5 x6) (by kernel_rfl) (by simp only [e6] <;> rfl)
noncomputable def F := u12 Xl
theorem rn x : H.u P_ x = F x := Eq.trans (b := u12 (Agg x5) x) (by kernel_rfl) (by simp only [e5] <;> rfl)
noncomputable def c : Con := ⟨H.p, H.r, F⟩
theorem ok : ConOk P_ gl 36 c := co H func36 (.cons F72.ok (.cons F73.ok (.cons F74.ok .nil))) rn
end F36
namespace F148
noncomputable def H : Hd := ⟨[Sb, Sb], [Sz], .d, ⟨[], gl, false⟩, [], f148⟩
noncomputable def F := u2 Kv
theorem rn x : H.u P_ x = F x := by kernel_rfl
noncomputable def c : Con := ⟨H.p, H.r, F⟩
theorem ok : ConOk P_ gl 148 c := co H func148 .nil rn
end F148
namespace F163
noncomputable def H : Hd := ⟨[Sb, Sb], [Sz], .d, ⟨[(148, F148.c)], gl, false⟩, [], f163⟩
noncomputable def F := u2 Ms
theorem rn x : H.u P_ x = F x := by kernel_rfl
noncomputable def c : Con := ⟨H.p, H.r, F⟩
theorem ok : ConOk P_ gl 163 c := co H func163 (.cons F148.ok .nil) rn
end F163
namespace F290
abbrev R_ := (Int × Int)
noncomputable def H : Hd := ⟨[Sb], [Si, Si], (.seq .d (.seq .d (.seq .d (.cut [4] [] (.seq .d (.blk (.loop [4, 10, 11, 12] [] .d))) .d)))), ⟨[], gl, false⟩, [], f290⟩
def t4 (a : LB) (b f : Int) : S := ⟨[(4, vi b), (10, vb a), (11, vi (Ac a)), (12, vi f)], [], []⟩
def z4 : Nat → S → Option R_ := H.i P_ [r,r,r,l,r,d]
def x6 (b : Int) : Option R_ := H.e P_ [r,r,r,r] ⟨[(4, vi b)], [], []⟩
def x4 (a : LB) (b f : Int) : Option R_ := H.e P_ [r,r,r,l,r,d] (t4 a b f)
theorem e6 : x6 = Ak8 := by kernel_rfl
theorem i4 (a : LB) : ∀ (q : Nat) (b f : Int), z4 q (t4 a b f) = Ky a q b f :=
 ind (fun _ _ => by kernel_rfl) fun q ih b f => Eq.trans (b := Xj x6 (fun b f => (z4 q) (t4 a b f)) a b f) (by kernel_rfl) (by simp only [e6, ih] <;> rfl)
theorem e4 : x4 = Ad2 := by funext a b f; exact Eq.trans (by kernel_rfl) ((i4 a Bn b f).trans (by rw [Ak]; rfl))
noncomputable def F := Aev
theorem rn x : H.u P_ x = F x := Eq.trans (b := Aei x4 x) (by kernel_rfl) (by simp only [e4] <;> rfl)
noncomputable def c : Con := ⟨H.p, H.r, F⟩
theorem ok : ConOk P_ gl 290 c := co H func290 .nil rn
end F290
namespace F259
def Ad4 (j5 : LB → UInt8 → UInt8 → Option (Int × Int)) (a : LB) : Option (Int × Int) :=
(Ms a ([(73 : UInt8), (68 : UInt8), (51 : UInt8)] : LB)).bind fun n =>
if (!n) then
some (0, 6)
else
if (Cj (Ac a) 10) then
some (0, 24)
else
(Aj a 3).bind fun f =>
(Aj a 5).bind fun b =>
(fun o : Option (Int × Int) =>
(fun p : Option (Int × Int) =>
both (
both (
bo (
j5 a f b)) [
o,
o]) [
bo2 (
bo (
j5 a f b)),
p,
p]) (
both (
o) [
bo (
j5 a f b),
both (
bo (
j5 a f b)) [
j5 a f b]])) (
both (
j5 a f b) [
bo (
j5 a f b)])
theorem Aqe : @Ad4 = @Zu := by
  unfold Ad4 Zu
  try simp only [Anp, Af4, Af8]
  all_goals
    repeat (refine funext fun _ => ?_)
    repeat' first
      | with_reducible rfl
      | with_reducible refine Hz ?_ ?_
      | with_reducible refine Hy ?_ ?_ ?_
      | with_reducible refine Ic ?_ ?_ ?_ ?_
      | ((with_reducible refine Lz ?_ ?_); focus (intro h; first | (subst h; rfl) | (simp only [h]; rfl) | (simp [Fz, Ac, h]; done)))
      | with_reducible refine Lu fun x => ?_
      | with_reducible refine Ue (fun _ => ?_) (fun _ => ?_)
      | (refine Dn (fun h => by simp only [h, Me, Cg, Cb, ite_self]) (fun x h => ?_); (try simp only [h, Cg]))
      | (refine Fm (fun h => ?_) (fun h => ?_) <;> simp only [h, if_true, if_false, Bool.false_eq_true])
abbrev R_ := (Int × Int)
noncomputable def H : Hd := ⟨[Sb], [Si, Si], (.seq .d (.seq .d (.seq .d (.cut [0, 4, 5] [] (.mode false) (.seq .d (.seq .d (.cut [0, 5, 6] [] (.cut [0, 5, 6, 43] [] (.keep [0, 5, 6, 7, 8, 31, 32, 33, 34, 35, 36, 37, 38, 39, 40, 41, 42, 43] true) .d) (.seq .d (.cut [0, 5, 6] [] .d .d))))))))), ⟨[(148, F148.c), (163, F163.c), (290, F290.c)], gl, false⟩, [(291, .d)], f259⟩
def x8 (a : LB) (b : UInt8) (h : Int) : Option R_ := H.e P_ [r,r,r,r,r,r,r,r,r] ⟨[(0, vb a), (5, .ptr 0 []), (6, vi h)], [.box 5 (vc b)], []⟩
def x7 (a : LB) (g : Int) (b : UInt8) : Option R_ := H.e P_ [r,r,r,r,r,r,r] ⟨[(0, vb a), (5, .ptr 0 []), (6, vi g)], [.box 5 (vc b)], []⟩
def x6 (a : LB) (g : Int) (b : UInt8) (m : Bool) : Option R_ := H.e P_ [r,r,r,r,r,r,l,r] ⟨[(0, vb a), (5, .ptr 0 []), (6, vi g), (43, vt m)], [.box 5 (vc b)], []⟩
def x5 (a : LB) (f b : UInt8) : Option R_ := H.e P_ [r,r,r,r] ⟨[(0, vb a), (4, .ptr 0 []), (5, .ptr 1 [])], [.box 5 (vc f), .box 5 (vc b)], []⟩
theorem e8 : x8 = Zt := by kernel_rfl
theorem e7 : x7 = Zv := Eq.trans (b := Af7 x8) (by kernel_rfl) (by simp only [e8] <;> rfl)
theorem e6 : x6 = Afw := Eq.trans (b := Agb x7) (by kernel_rfl) (by simp only [e7] <;> rfl)
theorem e5 : x5 = Agc := Eq.trans (b := Af2 x6) (by kernel_rfl) (by simp only [e6] <;> rfl)
noncomputable def F := Ag1
theorem rn x : H.u P_ x = F x := Eq.trans (b := Ad4 x5 x) (by kernel_rfl) (by unfold F; rw [Aqe]; simp only [e5] <;> rfl)
noncomputable def c : Con := ⟨H.p, H.r, F⟩
theorem ok : ConOk P_ gl 259 c := cr H func259 (.cons F148.ok (.cons F163.ok (.cons F290.ok .nil))) (AnsOk.cons ent291 AnsOk.nil) rn
end F259
namespace F151
abbrev R_ := (UInt64 × Int)
noncomputable def H : Hd := ⟨[Sb], [Sq, Si], (.seq .d (.seq .d (.seq .d (.cut [4] [] (.seq .d (.blk (.loop [4, 15, 16, 17] [] .d))) .d)))), ⟨[], gl, false⟩, [], f151⟩
def t4 (a : LB) (b : UInt64) (f : Int) : S := ⟨[(4, vq b), (15, vb a), (16, vi (Ac a)), (17, vi f)], [], []⟩
def z4 : Nat → S → Option R_ := H.i P_ [r,r,r,l,r,d]
def x6 (b : UInt64) : Option R_ := H.e P_ [r,r,r,r] ⟨[(4, vq b)], [], []⟩
def x4 (a : LB) (b : UInt64) (f : Int) : Option R_ := H.e P_ [r,r,r,l,r,d] (t4 a b f)
theorem e6 : x6 = Aux := by kernel_rfl
theorem i4 (a : LB) : ∀ (q : Nat) (b : UInt64) (f : Int), z4 q (t4 a b f) = Abd a q b f :=
 ind (fun _ _ => by kernel_rfl) fun q ih b f => Eq.trans (b := Ajo x6 (fun b f => (z4 q) (t4 a b f)) a b f) (by kernel_rfl) (by simp only [e6, ih] <;> rfl)
theorem e4 : x4 = Aop := by funext a b f; exact Eq.trans (by kernel_rfl) ((i4 a Bn b f).trans (by rw [Ak]; rfl))
noncomputable def F := Api
theorem rn x : H.u P_ x = F x := Eq.trans (b := Aov x4 x) (by kernel_rfl) (by simp only [e4] <;> rfl)
noncomputable def c : Con := ⟨H.p, H.r, F⟩
theorem ok : ConOk P_ gl 151 c := co H func151 .nil rn
end F151
namespace F140
noncomputable def H : Hd := ⟨[Sb, Si, Si], [Sq, Si], .d, ⟨[(151, F151.c)], gl, false⟩, [], f140⟩
noncomputable def F := u3 Ak3
theorem rn x : H.u P_ x = F x := by kernel_rfl
noncomputable def c : Con := ⟨H.p, H.r, F⟩
theorem ok : ConOk P_ gl 140 c := co H func140 (.cons F151.ok .nil) rn
end F140
namespace F252
noncomputable def H : Hd := ⟨[Sq, Si], [Sz], .d, ⟨[], gl, false⟩, [], f252⟩
noncomputable def F := u2 Avy
theorem rn x : H.u P_ x = F x := by kernel_rfl
noncomputable def c : Con := ⟨H.p, H.r, F⟩
theorem ok : ConOk P_ gl 252 c := co H func252 .nil rn
end F252
namespace F189
abbrev R_ := (LB × Int)
noncomputable def H : Hd := ⟨[Sq, Si], [Ob 5, Si], (.seq .d (.seq .d (.seq .d (.seq .d (.cut [6] [] (.seq .d (.blk (.loop [0, 6, 21, 22] [] .d))) .d))))), ⟨[(252, F252.c)], gl, false⟩, [], f189⟩
def t4 (f : UInt64) (g : LB) (b : Int) (a : LB) : S := ⟨[(0, vq f), (6, .own 0), (21, vi (Ac g)), (22, vi b)], [Ab 5 a], []⟩
def z4 : Nat → S → Option R_ := H.i P_ [r,r,r,r,l,r,d]
def x6 (a : LB) : Option R_ := H.e P_ [r,r,r,r,r] ⟨[(6, .own 0)], [Ab 5 a], []⟩
def x4 (f : UInt64) (g : LB) (b : Int) (a : LB) : Option R_ := H.e P_ [r,r,r,r,l,r,d] (t4 f g b a)
theorem e6 : x6 = Aom := by kernel_rfl
theorem i4 (f : UInt64) (g : LB) : ∀ (q : Nat) (b : Int) (a : LB), z4 q (t4 f g b a) = Abb f g q b a :=
 ind (fun _ _ => by kernel_rfl) fun q ih b a => Eq.trans (b := Ajs x6 (fun b a => (z4 q) (t4 f g b a)) f g b a) (by kernel_rfl) (by simp only [e6, ih] <;> rfl)
theorem e4 : x4 = Apb := by funext f g b a; exact Eq.trans (by kernel_rfl) ((i4 f g Bn b a).trans (by rw [Ak]; rfl))
noncomputable def F := u2 Ao2
theorem rn x : H.u P_ x = F x := Eq.trans (b := u2 (Apk x4) x) (by kernel_rfl) (by simp only [e4] <;> rfl)
noncomputable def c : Con := ⟨H.p, H.r, F⟩
theorem ok : ConOk P_ gl 189 c := co H func189 (.cons F252.ok .nil) rn
end F189
namespace F165
abbrev R_ := LB
noncomputable def H : Hd := ⟨[Si, Si, Sq], [Ob 5], (.seq .d (.seq .d (.cut [7] [] (.seq .d (.blk (.loop [7, 20, 21, 22] [] .d))) .d))), ⟨[(189, F189.c)], gl, false⟩, [], f165⟩
def t4 (a b : Int) (f : UInt64) (h : Int) (g : LB) : S := ⟨[(7, .own 0), (20, .own 1), (21, vi (Ac ([(2000 : UInt64), (Ad (Ae a (32 : Int)) : UInt64), (Ad b : UInt64), f, (0 : UInt64), (0 : UInt64)] : LQ))), (22, vi h)], [Ab 5 g, .arr 139 (.int .u64) ([(2000 : UInt64), (Ad (Ae a (32 : Int)) : UInt64), (Ad b : UInt64), f, (0 : UInt64), (0 : UInt64)] : LQ)], []⟩
def z4 : Nat → S → Option R_ := H.i P_ [r,r,l,r,d]
def x6 (g : LB) : Option R_ := H.e P_ [r,r,r] ⟨[(7, .own 0)], [Ab 5 g], []⟩
def x4 (a b : Int) (f : UInt64) (h : Int) (g : LB) : Option R_ := H.e P_ [r,r,l,r,d] (t4 a b f h g)
theorem e6 : x6 = Ary := by kernel_rfl
theorem i4 (a b : Int) (f : UInt64) : ∀ (q : Nat) (h : Int) (g : LB), z4 q (t4 a b f h g) = Aai a b f q h g :=
 ind (fun _ _ => by kernel_rfl) fun q ih h g => Eq.trans (b := Amg x6 (fun h g => (z4 q) (t4 a b f h g)) a b f h g) (by kernel_rfl) (by simp only [e6, ih] <;> rfl)
theorem e4 : x4 = Arm := by funext a b f h g; exact Eq.trans (by kernel_rfl) ((i4 a b f Bn h g).trans (by rw [Ak]; rfl))
noncomputable def F := u3 Asj
theorem rn x : H.u P_ x = F x := Eq.trans (b := u3 (Ar0 x4) x) (by kernel_rfl) (by simp only [e4] <;> rfl)
noncomputable def c : Con := ⟨H.p, H.r, F⟩
theorem ok : ConOk P_ gl 165 c := co H func165 (.cons F189.ok .nil) rn
end F165
namespace F164
noncomputable def H : Hd := ⟨[Sb, Sq], [.agg [Si, Si], Sz], .d, ⟨[(140, F140.c), (148, F148.c), (165, F165.c)], gl, false⟩, [], f164⟩
noncomputable def F := u2 Ap0
theorem rn x : H.u P_ x = F x := by kernel_rfl
noncomputable def c : Con := ⟨H.p, H.r, F⟩
theorem ok : ConOk P_ gl 164 c := co H func164 (.cons F140.ok (.cons F148.ok (.cons F165.ok .nil))) rn
end F164
namespace F260
noncomputable def H : Hd := ⟨[Sb], [Si, Si], .d, ⟨[(148, F148.c), (163, F163.c), (164, F164.c), (165, F165.c)], gl, false⟩, [], f260⟩
noncomputable def F := Ap6
theorem rn x : H.u P_ x = F x := by kernel_rfl
noncomputable def c : Con := ⟨H.p, H.r, F⟩
theorem ok : ConOk P_ gl 260 c := co H func260 (.cons F148.ok (.cons F163.ok (.cons F164.ok (.cons F165.ok .nil)))) rn
end F260
namespace F213
noncomputable def H : Hd := ⟨[Sb], [Si, Si], .d, ⟨[(259, F259.c), (260, F260.c)], gl, false⟩, [], f213⟩
noncomputable def F := Wn
theorem rn x : H.u P_ x = F x := by kernel_rfl
noncomputable def c : Con := ⟨H.p, H.r, F⟩
theorem ok : ConOk P_ gl 213 c := co H func213 (.cons F259.ok (.cons F260.ok .nil)) rn
end F213
theorem Axr : ConOk Tryz.prog gl 88 Akn := Aw0 ent88 F213.ok
namespace F78
noncomputable def H : Hd := ⟨[Si], [.agg [Sz, Si]], .d, ⟨[], gl, false⟩, [], f78⟩
noncomputable def F := Aq
theorem rn x : H.u P_ x = F x := by kernel_rfl
noncomputable def c : Con := ⟨H.p, H.r, F⟩
theorem ok : ConOk P_ gl 78 c := co H func78 .nil rn
end F78
namespace F214
noncomputable def H : Hd := ⟨[Ss, Ss], [Sz], .d, ⟨[], gl, false⟩, [], f214⟩
noncomputable def F := u2 Em
theorem rn x : H.u P_ x = F x := by kernel_rfl
noncomputable def c : Con := ⟨H.p, H.r, F⟩
theorem ok : ConOk P_ gl 214 c := co H func214 .nil rn
end F214
namespace F139
noncomputable def H : Hd := ⟨[Ss, Ss], [Sz], .d, ⟨[(214, F214.c)], gl, false⟩, [], f139⟩
noncomputable def F := u2 Hb
theorem rn x : H.u P_ x = F x := by kernel_rfl
noncomputable def c : Con := ⟨H.p, H.r, F⟩
theorem ok : ConOk P_ gl 139 c := co H func139 (.cons F214.ok .nil) rn
end F139
namespace F129
abbrev R_ := Bool
noncomputable def H : Hd := ⟨[Sb], [Sz], (.seq .d (.cut [] [] (.seq .d (.blk (.loop [0, 5, 6] [] .d))) .d)), ⟨[(139, F139.c)], gl, false⟩, [], f129⟩
def t4 (a : LB) (b : Int) : S := ⟨[(0, vb a), (5, .val (.vec 2 .str) ([([73, 68, 51] : LB), ([65, 80, 69, 84, 65, 71, 69, 88] : LB)] : List LB)), (6, vi b)], [], []⟩
def z4 : Nat → S → Option R_ := H.i P_ [r,l,r,d]
def x6 : Option R_ := H.e P_ [r,r] ⟨[], [], []⟩
def x4 (a : LB) (b : Int) : Option R_ := H.e P_ [r,l,r,d] (t4 a b)
theorem e6 : x6 = Ank := by kernel_rfl
theorem i4 (a : LB) : ∀ (q : Nat) (b : Int), z4 q (t4 a b) = Hs a q b :=
 ind (fun _ => by kernel_rfl) fun q ih b => Eq.trans (b := Tj x6 (fun b => (z4 q) (t4 a b)) a b) (by kernel_rfl) (by simp only [e6, ih] <;> rfl)
theorem e4 : x4 = Agf := by funext a b; exact Eq.trans (by kernel_rfl) ((i4 a Bn b).trans (by rw [Ak]; rfl))
noncomputable def F := Xn
theorem rn x : H.u P_ x = F x := Eq.trans (b := Af3 x4 x) (by kernel_rfl) (by simp only [e4] <;> rfl)
noncomputable def c : Con := ⟨H.p, H.r, F⟩
theorem ok : ConOk P_ gl 129 c := co H func129 (.cons F139.ok .nil) rn
end F129
namespace F215
abbrev R_ := (UInt32 × Int)
abbrev K_ := S → Option R_
noncomputable def H : Hd := ⟨[Su, Sb], [Su, Si], (.seq .d (.seq .d (.cut [0, 1, 6] [] (.keep [0, 1, 6, 12] true) (.cut [0] [] (.seq .d (.blk (.loop [0, 6, 13, 14, 15] [] .d))) .d)))), ⟨[], gl, false⟩, [(261, (.seq .d (.seq .d (.cut [1] [] (.seq .d (.blk (.loop [1, 5] [] (.seq .d (.seq .d (.cut [1, 5] [] (.blk (.seq .d (.seq .d (.cut [1, 2, 3, 5] [] (.seq .d (.blk (.loop [1, 2, 3, 5, 10] [] .d))) .d)))) .d)))))) .d))))], f215⟩
def t28 (a : LB) (b : LU) (h : UInt32) (m : Int) : S := ⟨[(0, vu h), (6, .ptr 0 []), (13, vb a), (14, vi (Ac a)), (15, vi m)], [.box 363 (.val (.vec 256 (.int .u32)) b)], []⟩
def z28 : Nat → S → Option R_ := H.i P_ [r,r,r,l,r,d]
def t21 (f : UInt32) (a : LB) (g : Int) (b : LU) (k : UInt32) (n : Int) : S := ⟨[(1, .ptr 0 []), (2, vi g), (3, vu k), (5, vi g), (10, vi n)], [.box 363 (.val (.vec 256 (.int .u32)) b)], [[(0, vu f), (1, vb a)]]⟩
def z21 (kn16 : K_) : Nat → S → Option R_ := H.i P_ [r,r,l,(call 0 261),r,r,l,r,d,(lp kn16),r,r,l,d,r,r,l,r,d]
def t16 (f : UInt32) (a : LB) (g : Int) (b : LU) : S := ⟨[(1, .ptr 0 []), (5, vi g)], [.box 363 (.val (.vec 256 (.int .u32)) b)], [[(0, vu f), (1, vb a)]]⟩
def z16 : Nat → S → Option R_ := H.i P_ [r,r,l,(call 0 261),r,r,l,r,d]
def x30 (h : UInt32) : Option R_ := H.e P_ [r,r,r,r] ⟨[(0, vu h)], [], []⟩
def x28 (a : LB) (b : LU) (h : UInt32) (m : Int) : Option R_ := H.e P_ [r,r,r,l,r,d] (t28 a b h m)
def x27 (f : UInt32) (a : LB) (b : LU) : Option R_ := H.e P_ [r,r,r] ⟨[(0, vu f), (1, vb a), (6, .ptr 0 [])], [.box 363 (.val (.vec 256 (.int .u32)) b)], []⟩
def x26 (f : UInt32) (a : LB) (b : LU) : Option R_ := H.e P_ [r,r,l,(call 0 261),r,r,r] ⟨[(1, .ptr 0 [])], [.box 363 (.val (.vec 256 (.int .u32)) b)], [[(0, vu f), (1, vb a)]]⟩
def x24 (kn16 : K_) (f : UInt32) (a : LB) (g : Int) (o : LU) : Option R_ := H.e P_ [r,r,l,(call 0 261),r,r,l,r,d,(lp kn16),r,r,r] ⟨[(1, .ptr 0 []), (5, vi g)], [.box 363 (.val (.vec 256 (.int .u32)) o)], [[(0, vu f), (1, vb a)]]⟩
def x23 (kn16 : K_) (f : UInt32) (a : LB) (g : Int) (k : UInt32) (b : LU) : Option R_ := H.e P_ [r,r,l,(call 0 261),r,r,l,r,d,(lp kn16),r,r,l,d,r,r,r] ⟨[(1, .ptr 0 []), (2, vi g), (3, vu k), (5, vi g)], [.box 363 (.val (.vec 256 (.int .u32)) b)], [[(0, vu f), (1, vb a)]]⟩
def x21 (kn16 : K_) (f : UInt32) (a : LB) (g : Int) (b : LU) (k : UInt32) (n : Int) : Option R_ := H.e P_ [r,r,l,(call 0 261),r,r,l,r,d,(lp kn16),r,r,l,d,r,r,l,r,d] (t21 f a g b k n)
def x16 (f : UInt32) (a : LB) (g : Int) (b : LU) : Option R_ := H.e P_ [r,r,l,(call 0 261),r,r,l,r,d] (t16 f a g b)
theorem e30 : x30 = Ah9 := by kernel_rfl
theorem i28 (a : LB) (b : LU) : ∀ (q : Nat) (h : UInt32) (m : Int), z28 q (t28 a b h m) = Qv a b q h m :=
 ind (fun _ _ => by kernel_rfl) fun q ih h m => Eq.trans (b := Abu x30 (fun h m => (z28 q) (t28 a b h m)) a b h m) (by kernel_rfl) (by simp only [e30, ih] <;> rfl)
theorem e28 : x28 = Aiy := by funext a b h m; exact Eq.trans (by kernel_rfl) ((i28 a b Bn h m).trans (by rw [Ak]; rfl))
theorem e27 : x27 = Ahx := Eq.trans (b := Aiu x28) (by kernel_rfl) (by simp only [e28] <;> rfl)
theorem e26 : x26 = Ac1 := Eq.trans (b := Aik x27) (by kernel_rfl) (by simp only [e27] <;> rfl)
theorem e24 (kn16 : K_) (f : UInt32) (a : LB) : x24 kn16 f a = Ahp (fun g b => kn16 (t16 f a g b)) f a := by kernel_rfl
theorem e23 (kn16 : K_) (f : UInt32) (a : LB) : x23 kn16 f a = Abk (fun g b => kn16 (t16 f a g b)) f a := Eq.trans (b := Ahr (x24 kn16 f a) f a) (by kernel_rfl) (by simp only [e24] <;> rfl)
theorem i21 (kn16 : K_) (f : UInt32) (a : LB) (g : Int) (b : LU) : ∀ (q : Nat) (k : UInt32) (n : Int), z21 kn16 q (t21 f a g b k n) = Qr (fun g b => kn16 (t16 f a g b)) f a g b q k n :=
 ind (fun _ _ => by kernel_rfl) fun q ih k n => Eq.trans (b := Abh (x23 kn16 f a) (fun k n => (z21 kn16 q) (t21 f a g b k n)) f a g b k n) (by kernel_rfl) (by simp only [e23, ih] <;> rfl)
theorem e21 (kn16 : K_) (f : UInt32) (a : LB) : x21 kn16 f a = Air (fun g b => kn16 (t16 f a g b)) f a := by funext g b k n; exact Eq.trans (by kernel_rfl) ((i21 kn16 f a g b Bn k n).trans (by rw [Ak]; rfl))
theorem i16 (f : UInt32) (a : LB) : ∀ (q : Nat) (g : Int) (b : LU), z16 q (t16 f a g b) = Lg f a q g b :=
 ind (fun _ _ => by kernel_rfl) fun q ih g b => Eq.trans (b := Acw (x21 (z16 q) f a) x26 f a g b) (by kernel_rfl) (by simp only [e21, e26, ih] <;> rfl)
theorem e16 : x16 = Ah3 := by funext f a g b; exact Eq.trans (by kernel_rfl) ((i16 f a Bn g b).trans (by rw [Ak]; rfl))
noncomputable def F := u2 Anf
theorem rn x : H.u P_ x = F x := Eq.trans (b := u2 (Akb x16) x) (by kernel_rfl) (by simp only [e16] <;> rfl)
noncomputable def c : Con := ⟨H.p, H.r, F⟩
theorem ok : ConOk P_ gl 215 c := cr H func215 .nil (AnsOk.cons ent261 AnsOk.nil) rn
end F215
namespace F141
noncomputable def H : Hd := ⟨[Sb], [Su, Si], .d, ⟨[(215, F215.c)], gl, false⟩, [], f141⟩
noncomputable def F := Ahe
theorem rn x : H.u P_ x = F x := by kernel_rfl
noncomputable def c : Con := ⟨H.p, H.r, F⟩
theorem ok : ConOk P_ gl 141 c := co H func141 (.cons F215.ok .nil) rn
end F141
namespace F89
abbrev R_ := (Int × Int × Int × Int × Int × Int)
noncomputable def H : Hd := ⟨[Sb], [.agg [Si, Si, Si, Si, Si], Si], (.seq .d (.seq .d (.seq .d (.seq .d (.seq .d (.seq .d (.seq .d (.cut [2, 8] [] (.seq .d (.blk (.loop [0, 2, 8, 9, 44, 45] [] .d))) .d)))))))), ⟨[(139, F139.c), (140, F140.c), (141, F141.c), (142, F142.c), (143, F143.c)], gl, false⟩, [], f89⟩
def t4 (b : LB) (g f : Int) (a : LI) : S := ⟨[(0, vb b), (2, .ptr 0 []), (8, .ptr 1 []), (9, vi g), (44, .val (.vec 5 (.int .i64)) ([(2 : Int), (2 : Int), (2 : Int), (4 : Int), (4 : Int)] : LI)), (45, vi f)], [.box 24 (.agg [vi 0, vi 0, vi 0, vi 0, vi 0]), .box 197 (.val (.vec 5 (.int .i64)) a)], []⟩
def z4 : Nat → S → Option R_ := H.i P_ [r,r,r,r,r,r,r,l,r,d]
def x6 (a : LI) : Option R_ := H.e P_ [r,r,r,r,r,r,r,r] ⟨[(2, .ptr 0 []), (8, .ptr 1 [])], [.box 24 (.agg [vi 0, vi 0, vi 0, vi 0, vi 0]), .box 197 (.val (.vec 5 (.int .i64)) a)], []⟩
def x4 (b : LB) (g f : Int) (a : LI) : Option R_ := H.e P_ [r,r,r,r,r,r,r,l,r,d] (t4 b g f a)
theorem e6 : x6 = Ac3 := by kernel_rfl
theorem i4 (b : LB) : ∀ (q : Nat) (g f : Int) (a : LI), z4 q (t4 b g f a) = Lk b q g f a :=
 ind (fun _ _ _ => by kernel_rfl) fun q ih g f a => Eq.trans (b := Ac2 x6 (fun g f a => (z4 q) (t4 b g f a)) b g f a) (by kernel_rfl) (by simp only [e6, ih] <;> rfl)
theorem e4 : x4 = Ab2 := by funext b g f a; exact Eq.trans (by kernel_rfl) ((i4 b Bn g f a).trans (by rw [Ak]; rfl))
noncomputable def F := Aau
theorem rn x : H.u P_ x = F x := Eq.trans (b := Aig x4 x) (by kernel_rfl) (by simp only [e4] <;> rfl)
noncomputable def c : Con := ⟨H.p, H.r, F⟩
theorem ok : ConOk P_ gl 89 c := co H func89 (.cons F139.ok (.cons F140.ok (.cons F141.ok (.cons F142.ok (.cons F143.ok .nil))))) rn
end F89
namespace F149
abbrev R_ := (UInt64 × Int)
abbrev K_ := S → Option R_
noncomputable def H : Hd := ⟨[Sq, Sb], [Sq, Si], (.seq .d (.seq .d (.cut [4, 5] [] (.keep [0, 1, 4, 5, 9, 10, 11, 12] true) .d))), ⟨[], gl, false⟩, [(220, (.seq .d (.cut [1] [] (.seq .d (.blk (.loop [0, 1, 9, 10, 11] [] .d))) .d))), (221, (.seq .d (.seq .d (.cut [1] [] (.seq .d (.blk (.loop [1, 5] [] (.seq .d (.seq .d (.cut [1, 5] [] (.blk (.seq .d (.seq .d (.cut [1, 2, 3, 5] [] (.seq .d (.blk (.loop [1, 2, 3, 5, 11] [] .d))) .d)))) .d)))))) .d))))], f149⟩
def t27 (a : LB) (b : UInt64) (f : LQ) (h : UInt64) (m : Int) : S := ⟨[(0, .ptr 0 []), (1, vq h), (9, vb a), (10, vi (Ac a)), (11, vi m)], [.box 334 (.val (.vec 256 (.int .u64)) f)], [[(0, vq b), (1, vb a), (4, vq 0), (5, vi 0), (9, .ptr 0 []), (10, vq b), (11, vb a)]]⟩
def z27 : Nat → S → Option R_ := H.i P_ [r,r,l,(call 3 220),r,l,r,d]
def t21 (b : UInt64) (a : LB) (g : Int) (f : LQ) (k : UInt64) (n : Int) : S := ⟨[(1, .ptr 0 []), (2, vi g), (3, vq k), (5, vi g), (11, vi n)], [.box 334 (.val (.vec 256 (.int .u64)) f)], [[(0, vq b), (1, vb a), (4, vq 0), (5, vi 0)]]⟩
def z21 (kn16 : K_) : Nat → S → Option R_ := H.i P_ [r,r,l,(call 0 221),r,r,l,r,d,(lp kn16),r,r,l,d,r,r,l,r,d]
def t16 (b : UInt64) (a : LB) (g : Int) (f : LQ) : S := ⟨[(1, .ptr 0 []), (5, vi g)], [.box 334 (.val (.vec 256 (.int .u64)) f)], [[(0, vq b), (1, vb a), (4, vq 0), (5, vi 0)]]⟩
def z16 : Nat → S → Option R_ := H.i P_ [r,r,l,(call 0 221),r,r,l,r,d]
def x30 (h : UInt64) : Option R_ := H.e P_ [r,r,r] ⟨[(4, vq h), (5, vi 0)], [], []⟩
def x29 (h b : UInt64) (a : LB) (f : LQ) : Option R_ := H.e P_ [r,r,l,(call 3 220),r,r] ⟨[(1, vq h)], [.box 334 (.val (.vec 256 (.int .u64)) f)], [[(0, vq b), (1, vb a), (4, vq 0), (5, vi 0), (9, .ptr 0 []), (10, vq b), (11, vb a)]]⟩
def x27 (a : LB) (b : UInt64) (f : LQ) (h : UInt64) (m : Int) : Option R_ := H.e P_ [r,r,l,(call 3 220),r,l,r,d] (t27 a b f h m)
def x26 (b : UInt64) (a : LB) (f : LQ) : Option R_ := H.e P_ [r,r,l,(call 0 221),r,r,r] ⟨[(1, .ptr 0 [])], [.box 334 (.val (.vec 256 (.int .u64)) f)], [[(0, vq b), (1, vb a), (4, vq 0), (5, vi 0)]]⟩
def x24 (kn16 : K_) (b : UInt64) (a : LB) (g : Int) (o : LQ) : Option R_ := H.e P_ [r,r,l,(call 0 221),r,r,l,r,d,(lp kn16),r,r,r] ⟨[(1, .ptr 0 []), (5, vi g)], [.box 334 (.val (.vec 256 (.int .u64)) o)], [[(0, vq b), (1, vb a), (4, vq 0), (5, vi 0)]]⟩
def x23 (kn16 : K_) (b : UInt64) (a : LB) (g : Int) (k : UInt64) (f : LQ) : Option R_ := H.e P_ [r,r,l,(call 0 221),r,r,l,r,d,(lp kn16),r,r,l,d,r,r,r] ⟨[(1, .ptr 0 []), (2, vi g), (3, vq k), (5, vi g)], [.box 334 (.val (.vec 256 (.int .u64)) f)], [[(0, vq b), (1, vb a), (4, vq 0), (5, vi 0)]]⟩
def x21 (kn16 : K_) (b : UInt64) (a : LB) (g : Int) (f : LQ) (k : UInt64) (n : Int) : Option R_ := H.e P_ [r,r,l,(call 0 221),r,r,l,r,d,(lp kn16),r,r,l,d,r,r,l,r,d] (t21 b a g f k n)
def x16 (b : UInt64) (a : LB) (g : Int) (f : LQ) : Option R_ := H.e P_ [r,r,l,(call 0 221),r,r,l,r,d] (t16 b a g f)
theorem e30 : x30 = Aim := by kernel_rfl
theorem e29 : x29 = Ahv := Eq.trans (b := Ah8 x30) (by kernel_rfl) (by simp only [e30] <;> rfl)
theorem i27 (a : LB) (b : UInt64) (f : LQ) : ∀ (q : Nat) (h : UInt64) (m : Int), z27 q (t27 a b f h m) = Qg a b f q h m :=
 ind (fun _ _ => by kernel_rfl) fun q ih h m => Eq.trans (b := Acv x29 (fun h m => (z27 q) (t27 a b f h m)) a b f h m) (by kernel_rfl) (by simp only [e29, ih] <;> rfl)
theorem e27 : x27 = Aia := by funext a b f h m; exact Eq.trans (by kernel_rfl) ((i27 a b f Bn h m).trans (by rw [Ak]; rfl))
theorem e26 : x26 = Abr := Eq.trans (b := Ain x27) (by kernel_rfl) (by simp only [e27] <;> rfl)
theorem e24 (kn16 : K_) (b : UInt64) (a : LB) : x24 kn16 b a = Aho (fun g f => kn16 (t16 b a g f)) b a := by kernel_rfl
theorem e23 (kn16 : K_) (b : UInt64) (a : LB) : x23 kn16 b a = Ac6 (fun g f => kn16 (t16 b a g f)) b a := Eq.trans (b := Aic (x24 kn16 b a) b a) (by kernel_rfl) (by simp only [e24] <;> rfl)
theorem i21 (kn16 : K_) (b : UInt64) (a : LB) (g : Int) (f : LQ) : ∀ (q : Nat) (k : UInt64) (n : Int), z21 kn16 q (t21 b a g f k n) = Qt (fun g f => kn16 (t16 b a g f)) b a g f q k n :=
 ind (fun _ _ => by kernel_rfl) fun q ih k n => Eq.trans (b := Ac0 (x23 kn16 b a) (fun k n => (z21 kn16 q) (t21 b a g f k n)) b a g f k n) (by kernel_rfl) (by simp only [e23, ih] <;> rfl)
theorem e21 (kn16 : K_) (b : UInt64) (a : LB) : x21 kn16 b a = Ahn (fun g f => kn16 (t16 b a g f)) b a := by funext g f k n; exact Eq.trans (by kernel_rfl) ((i21 kn16 b a g f Bn k n).trans (by rw [Ak]; rfl))
theorem i16 (b : UInt64) (a : LB) : ∀ (q : Nat) (g : Int) (f : LQ), z16 q (t16 b a g f) = Ll b a q g f :=
 ind (fun _ _ => by kernel_rfl) fun q ih g f => Eq.trans (b := Abq (x21 (z16 q) b a) x26 b a g f) (by kernel_rfl) (by simp only [e21, e26, ih] <;> rfl)
theorem e16 : x16 = Ahy := by funext b a g f; exact Eq.trans (by kernel_rfl) ((i16 b a Bn g f).trans (by rw [Ak]; rfl))
noncomputable def F := u2 Al3
theorem rn x : H.u P_ x = F x := Eq.trans (b := u2 (Ako x16) x) (by kernel_rfl) (by simp only [e16] <;> rfl)
noncomputable def c : Con := ⟨H.p, H.r, F⟩
theorem ok : ConOk P_ gl 149 c := cr H func149 .nil (AnsOk.cons ent220 (AnsOk.cons ent221 AnsOk.nil)) rn
end F149
namespace F94
noncomputable def H : Hd := ⟨[Sb], [Sq, Si], .d, ⟨[(149, F149.c)], gl, false⟩, [], f94⟩
noncomputable def F := Ak7
theorem rn x : H.u P_ x = F x := by kernel_rfl
noncomputable def c : Con := ⟨H.p, H.r, F⟩
theorem ok : ConOk P_ gl 94 c := co H func94 (.cons F149.ok .nil) rn
end F94
namespace F219
noncomputable def H : Hd := ⟨[Ss], [Sq, Si], .d, ⟨[(94, F94.c)], gl, false⟩, [], f219⟩
noncomputable def F := Aua
theorem rn x : H.u P_ x = F x := by kernel_rfl
noncomputable def c : Con := ⟨H.p, H.r, F⟩
theorem ok : ConOk P_ gl 219 c := co H func219 (.cons F94.ok .nil) rn
end F219
namespace F147
noncomputable def H : Hd := ⟨[Ss], [Ob 5, Si], .d, ⟨[(189, F189.c), (219, F219.c)], gl, false⟩, [], f147⟩
noncomputable def F := Aha
theorem rn x : H.u P_ x = F x := by kernel_rfl
noncomputable def c : Con := ⟨H.p, H.r, F⟩
theorem ok : ConOk P_ gl 147 c := co H func147 (.cons F189.ok (.cons F219.ok .nil)) rn
end F147
namespace F92
noncomputable def H : Hd := ⟨[Sb, Ss], [Sz, Si], .d, ⟨[(147, F147.c), (148, F148.c)], gl, false⟩, [], f92⟩
noncomputable def F := u2 Ag2
theorem rn x : H.u P_ x = F x := by kernel_rfl
noncomputable def c : Con := ⟨H.p, H.r, F⟩
theorem ok : ConOk P_ gl 92 c := co H func92 (.cons F147.ok (.cons F148.ok .nil)) rn
end F92
namespace F93
abbrev R_ := (LI × Int)
noncomputable def H : Hd := ⟨[Sb, Si], [Ol 3, Si], (.seq .d (.seq .d (.seq .d (.seq .d (.seq .d (.seq .d (.cut [10] [] (.seq .d (.blk (.loop [0, 10, 48, 49] [] .d))) .d))))))), ⟨[(74, F74.c), (140, F140.c), (141, F141.c)], gl, false⟩, [], f93⟩
def t4 (b : LB) (f : LI) (g : Int) (a : LI) : S := ⟨[(0, vb b), (10, .own 0), (48, vi (Ac f)), (49, vi g)], [Ai 3 a], []⟩
def z4 : Nat → S → Option R_ := H.i P_ [r,r,r,r,r,r,l,r,d]
def x6 (a : LI) : Option R_ := H.e P_ [r,r,r,r,r,r,r] ⟨[(10, .own 0)], [Ai 3 a], []⟩
def x4 (b : LB) (f : LI) (g : Int) (a : LI) : Option R_ := H.e P_ [r,r,r,r,r,r,l,r,d] (t4 b f g a)
theorem e6 : x6 = Aep := by kernel_rfl
theorem i4 (b : LB) (f : LI) : ∀ (q : Nat) (g : Int) (a : LI), z4 q (t4 b f g a) = Tl b f q g a :=
 ind (fun _ _ => by kernel_rfl) fun q ih g a => Eq.trans (b := Ael x6 (fun g a => (z4 q) (t4 b f g a)) b f g a) (by kernel_rfl) (by simp only [e6, ih] <;> rfl)
theorem e4 : x4 = Aj6 := by funext b f g a; exact Eq.trans (by kernel_rfl) ((i4 b f Bn g a).trans (by rw [Ak]; rfl))
noncomputable def F := u2 Ana
theorem rn x : H.u P_ x = F x := Eq.trans (b := u2 (Akp x4) x) (by kernel_rfl) (by simp only [e4] <;> rfl)
noncomputable def c : Con := ⟨H.p, H.r, F⟩
theorem ok : ConOk P_ gl 93 c := co H func93 (.cons F74.ok (.cons F140.ok (.cons F141.ok .nil))) rn
end F93
namespace F95
abbrev R_ := LX
noncomputable def H : Hd := ⟨[Sq], [.lf (.vec 16 (.int .i32)) none], (.seq .d (.seq .d (.cut [2, 3] [] (.seq .d (.blk (.loop [0, 2, 3, 5] [] .d))) .d))), ⟨[], gl, false⟩, [], f95⟩
def t4 (f : UInt64) (b : Int) (a : LX) : S := ⟨[(0, vq f), (2, .ptr 0 []), (3, .ptr 1 []), (5, vi b)], [.box 95 (.val (.vec 16 (.int .i32)) (List.replicate 16 (0 : Int32))), .box 95 (.val (.vec 16 (.int .i32)) a)], []⟩
def z4 : Nat → S → Option R_ := H.i P_ [r,r,l,r,d]
def x6 (a : LX) : Option R_ := H.e P_ [r,r,r] ⟨[(2, .ptr 0 []), (3, .ptr 1 [])], [.box 95 (.val (.vec 16 (.int .i32)) (List.replicate 16 (0 : Int32))), .box 95 (.val (.vec 16 (.int .i32)) a)], []⟩
def x4 (f : UInt64) (b : Int) (a : LX) : Option R_ := H.e P_ [r,r,l,r,d] (t4 f b a)
theorem e6 : x6 = Ay9 := by kernel_rfl
theorem i4 (f : UInt64) : ∀ (q : Nat) (b : Int) (a : LX), z4 q (t4 f b a) = Aeh f q b a :=
 ind (fun _ _ => by kernel_rfl) fun q ih b a => Eq.trans (b := Amr x6 (fun b a => (z4 q) (t4 f b a)) f b a) (by kernel_rfl) (by simp only [e6, ih] <;> rfl)
theorem e4 : x4 = Ayv := by funext f b a; exact Eq.trans (by kernel_rfl) ((i4 f Bn b a).trans (by rw [Ak]; rfl))
noncomputable def F := Bb7
theorem rn x : H.u P_ x = F x := Eq.trans (b := Aw8 x4 x) (by kernel_rfl) (by simp only [e4] <;> rfl)
noncomputable def c : Con := ⟨H.p, H.r, F⟩
theorem ok : ConOk P_ gl 95 c := co H func95 .nil rn
end F95
namespace F54
noncomputable def H : Hd := ⟨[Ss], [.lf (.vec 16 (.int .i32)) none, Si], .d, ⟨[(94, F94.c), (95, F95.c)], gl, false⟩, [], f54⟩
noncomputable def F := Ahg
theorem rn x : H.u P_ x = F x := by kernel_rfl
noncomputable def c : Con := ⟨H.p, H.r, F⟩
theorem ok : ConOk P_ gl 54 c := co H func54 (.cons F94.ok (.cons F95.ok .nil)) rn
end F54
namespace F130
noncomputable def H : Hd := ⟨[.agg [Si, Si, Si, Si, Si]], [.agg [Si, Si]], .d, ⟨[], gl, false⟩, [], f130⟩
noncomputable def F := u5 Akj
theorem rn x : H.u P_ x = F x := by kernel_rfl
noncomputable def c : Con := ⟨H.p, H.r, F⟩
theorem ok : ConOk P_ gl 130 c := co H func130 .nil rn
end F130
namespace F97
noncomputable def H : Hd := ⟨[Sb], [Sb, Si], .d, ⟨[(141, F141.c), (151, F151.c)], gl, false⟩, [], f97⟩
noncomputable def F := Ac7
theorem rn x : H.u P_ x = F x := by kernel_rfl
noncomputable def c : Con := ⟨H.p, H.r, F⟩
theorem ok : ConOk P_ gl 97 c := co H func97 (.cons F141.ok (.cons F151.ok .nil)) rn
end F97
namespace F152
def Le (a : LB) : Option (LB) :=
Aw1 a (
some ([] : LB)) (
(Fz ([] : LB) a).bind fun b =>
some b)
theorem Afm : @Le = @He := by
  unfold Le He
  repeat (refine funext fun _ => ?_)
  repeat' first
    | with_reducible rfl
    | with_reducible refine Hz ?_ ?_
    | with_reducible refine Hy ?_ ?_ ?_
    | with_reducible refine Ic ?_ ?_ ?_ ?_
    | ((with_reducible refine Lz ?_ ?_); focus (intro h; first | (subst h; rfl) | (simp only [h]; rfl) | (simp [Fz, Ac, h]; done)))
    | with_reducible refine Lu fun x => ?_
    | with_reducible refine Ue (fun _ => ?_) (fun _ => ?_)
    | (refine Dn (fun h => by simp only [h, Me, Cg, Cb, ite_self]) (fun x h => ?_); (try simp only [h, Cg]))
    | (refine Fm (fun h => ?_) (fun h => ?_) <;> simp only [h, if_true, if_false, Bool.false_eq_true])
noncomputable def H : Hd := ⟨[Sb], [Ob 5], .d, ⟨[], gl, false⟩, [], f152⟩
noncomputable def F := He
theorem rn x : H.u P_ x = F x := Eq.trans (b := Le x) (by kernel_rfl) (by rw [Afm]; rfl)
noncomputable def c : Con := ⟨H.p, H.r, F⟩
theorem ok : ConOk P_ gl 152 c := co H func152 .nil rn
end F152
namespace F98
noncomputable def H : Hd := ⟨[Sb], [.agg [Ob 5, Si], Si], .d, ⟨[(152, F152.c)], gl, false⟩, [], f98⟩
noncomputable def F := Bbt
theorem rn x : H.u P_ x = F x := by kernel_rfl
noncomputable def c : Con := ⟨H.p, H.r, F⟩
theorem ok : ConOk P_ gl 98 c := co H func98 (.cons F152.ok .nil) rn
end F98
namespace F153
noncomputable def H : Hd := ⟨[], [.agg [Si, Si, Sq, Sq]], .d, ⟨[], gl, false⟩, [], f153⟩
noncomputable def F (x : Unit) := Axj
theorem rn x : H.u P_ x = F x := by kernel_rfl
noncomputable def c : Con := ⟨H.p, H.r, F⟩
theorem ok : ConOk P_ gl 153 c := co H func153 .nil rn
end F153
namespace F156
noncomputable def H : Hd := ⟨[.agg [Sb, Si]], [Si], .d, ⟨[], gl, false⟩, [], f156⟩
noncomputable def F := u2 Se
theorem rn x : H.u P_ x = F x := by kernel_rfl
noncomputable def c : Con := ⟨H.p, H.r, F⟩
theorem ok : ConOk P_ gl 156 c := co H func156 .nil rn
end F156
namespace F157
abbrev R_ := UInt64
noncomputable def H : Hd := ⟨[.agg [Sb, Si], Si, Si], [Sq], (.seq .d (.seq .d (.cut [7] [] (.blk (.loop [1, 2, 3, 7, 8] [] .d)) .d))), ⟨[], gl, false⟩, [], f157⟩
def t4 (b f : Int) (h : LB) (k : Int) (g : UInt64) (a : Int) : S := ⟨[(1, vi b), (2, vi f), (3, .ptr 0 []), (7, vq g), (8, vi a)], [.box 146 (.agg [vb h, vi k])], []⟩
def z4 : Nat → S → Option R_ := H.i P_ [r,r,l,d]
def x6 (g : UInt64) : Option R_ := H.e P_ [r,r,r] ⟨[(7, vq g)], [], []⟩
def x4 (b f : Int) (h : LB) (k : Int) (g : UInt64) (a : Int) : Option R_ := H.e P_ [r,r,l,d] (t4 b f h k g a)
theorem e6 : x6 = Auy := by kernel_rfl
theorem i4 (b f : Int) (h : LB) (k : Int) : ∀ (q : Nat) (g : UInt64) (a : Int), z4 q (t4 b f h k g a) = Aey b f h k q g a :=
 ind (fun _ _ => by kernel_rfl) fun q ih g a => Eq.trans (b := Apo x6 (fun g a => (z4 q) (t4 b f h k g a)) b f h k g a) (by kernel_rfl) (by simp only [e6, ih] <;> rfl)
theorem e4 : x4 = Aur := by funext b f h k g a; exact Eq.trans (by kernel_rfl) ((i4 b f h k Bn g a).trans (by rw [Ak]; rfl))
noncomputable def F := u4 Asl
theorem rn x : H.u P_ x = F x := Eq.trans (b := u4 (Au2 x4) x) (by kernel_rfl) (by simp only [e4] <;> rfl)
noncomputable def c : Con := ⟨H.p, H.r, F⟩
theorem ok : ConOk P_ gl 157 c := co H func157 .nil rn
end F157
namespace F154
abbrev R_ := (LB × Int × Int)
abbrev K_ := S → Option R_
noncomputable def H : Hd := ⟨[.agg [Sb, Si], Si, Si], [.agg [Ob 5, Si], Si], (.seq .d (.seq .d (.seq .d (.seq .d (.cut [6, 8] [] (.seq .d (.blk (.loop [2, 3, 6, 8, 9] [⟨8, [0], .own 5 (.int .u8)⟩] (.seq .d (.cut [2, 3, 6, 8, 9] [] (.blk (.seq .d (.keep [2, 3, 6, 8, 9, 10, 39, 40, 41, 42, 43] true))) .d))))) .d))))), ⟨[(156, F156.c), (157, F157.c)], gl, false⟩, [(222, (.blk (.loop [0, 1, 2] [] (.seq .d (.blk (.cut [0, 1, 2] [] .d (.seq .d (.cut [0, 1, 2, 7] [] .d .d))))))))], f154⟩
def t44 (a : Int) (g : LB) (f b : Int) (k n : UInt64) (m h : Int) (u : LB) : S := ⟨[(0, .ptr 0 []), (1, vq n), (2, vi m)], [.box 146 (.agg [.own 3, vi h]), .box 146 (.agg [vb g, vi f]), .box 146 (.agg [.nils, vi 0]), Ab 5 u], [[(2, vi a), (3, .ptr 1 []), (6, .ptr 2 []), (8, .ptr 0 []), (9, vi b), (10, vi (Gs (64 : Int) (Ao a b))), (39, .agg [vb g, vi f]), (40, vi b), (41, vi (Gs (64 : Int) (Ao a b))), (42, vq k), (43, vi (Gs (64 : Int) (Ao a b)))]]⟩
def z44 (kn27 : K_) : Nat → S → Option R_ := H.i P_ [r,r,r,r,l,r,d,(lp kn27),r,l,d,r,(call 5 222),d]
def t27 (a : Int) (g : LB) (f b o : Int) (p : LB) : S := ⟨[(2, vi a), (3, .ptr 0 []), (6, .ptr 1 []), (8, .ptr 2 []), (9, vi b)], [.box 146 (.agg [vb g, vi f]), .box 146 (.agg [.nils, vi 0]), .box 146 (.agg [.own 3, vi o]), Ab 5 p], []⟩
def z27 : Nat → S → Option R_ := H.i P_ [r,r,r,r,l,r,d]
def x52 (o : Int) (p : LB) : Option R_ := H.e P_ [r,r,r,r,r] ⟨[(6, .ptr 0 []), (8, .ptr 1 [])], [.box 146 (.agg [.nils, vi 0]), .box 146 (.agg [.own 2, vi o]), Ab 5 p], []⟩
def x50 (kn27 : K_) (a : Int) (g : LB) (f b h : Int) (u : LB) : Option R_ := H.e P_ [r,r,r,r,l,r,d,(lp kn27),r,r] ⟨[(2, vi a), (3, .ptr 0 []), (6, .ptr 1 []), (8, .ptr 2 []), (9, vi b)], [.box 146 (.agg [vb g, vi f]), .box 146 (.agg [.nils, vi 0]), .box 146 (.agg [.own 3, vi h]), Ab 5 u], []⟩
def x48 (kn27 kn44 : K_) (a b : Int) (g : LB) (f : Int) (k n : UInt64) (m h : Int) (w : LB) : Option R_ := H.e P_ [r,r,r,r,l,r,d,(lp kn27),r,l,d,r,(call 5 222),d,(lp kn44),r,d,r,r,r] ⟨[(0, .ptr 0 []), (1, vq n), (2, vi m), (7, vi (Gs m (Ao (8 : Int) (Ik h (7 : Int)))))], [.box 146 (.agg [.own 3, vi h]), .box 146 (.agg [vb g, vi f]), .box 146 (.agg [.nils, vi 0]), Ab 5 w], [[(2, vi a), (3, .ptr 1 []), (6, .ptr 2 []), (8, .ptr 0 []), (9, vi b), (10, vi (Gs (64 : Int) (Ao a b))), (39, .agg [vb g, vi f]), (40, vi b), (41, vi (Gs (64 : Int) (Ao a b))), (42, vq k), (43, vi (Gs (64 : Int) (Ao a b)))]]⟩
def x47 (kn27 kn44 : K_) (a b : Int) (g : LB) (f : Int) (k n : UInt64) (m h : Int) (v : LB) : Option R_ := H.e P_ [r,r,r,r,l,r,d,(lp kn27),r,l,d,r,(call 5 222),d,(lp kn44),r,d,r] ⟨[(0, .ptr 0 []), (1, vq n), (2, vi m)], [.box 146 (.agg [.own 3, vi h]), .box 146 (.agg [vb g, vi f]), .box 146 (.agg [.nils, vi 0]), Ab 5 v], [[(2, vi a), (3, .ptr 1 []), (6, .ptr 2 []), (8, .ptr 0 []), (9, vi b), (10, vi (Gs (64 : Int) (Ao a b))), (39, .agg [vb g, vi f]), (40, vi b), (41, vi (Gs (64 : Int) (Ao a b))), (42, vq k), (43, vi (Gs (64 : Int) (Ao a b)))]]⟩
def x44 (kn27 : K_) (a : Int) (g : LB) (f b : Int) (k n : UInt64) (m h : Int) (u : LB) : Option R_ := H.e P_ [r,r,r,r,l,r,d,(lp kn27),r,l,d,r,(call 5 222),d] (t44 a g f b k n m h u)
def x27 (a : Int) (g : LB) (f b o : Int) (p : LB) : Option R_ := H.e P_ [r,r,r,r,l,r,d] (t27 a g f b o p)
theorem e52 : x52 = Am8 := by kernel_rfl
theorem e50 (kn27 : K_) (a : Int) (g : LB) (f : Int) : x50 kn27 a g f = Ag0 (fun b o p => kn27 (t27 a g f b o p)) a g f := by kernel_rfl
theorem e48 (kn27 kn44 : K_) (a : Int) (g : LB) (f b : Int) (k : UInt64) : x48 kn27 kn44 a b g f k = Am6 (fun n m h u => kn44 (t44 a g f b k n m h u)) a b g f k := by kernel_rfl
theorem e47 (kn27 kn44 : K_) (a : Int) (g : LB) (f b : Int) (k : UInt64) : x47 kn27 kn44 a b g f k = Agz (fun n m h u => kn44 (t44 a g f b k n m h u)) a b g f k := Eq.trans (b := Amp (x48 kn27 kn44 a b g f k) a b g f k) (by kernel_rfl) (by simp only [e48] <;> rfl)
theorem i44 (kn27 : K_) (a : Int) (g : LB) (f b : Int) (k : UInt64) : ∀ (q : Nat) (n : UInt64) (m h : Int) (u : LB), z44 kn27 q (t44 a g f b k n m h u) = Mz (fun b o p => kn27 (t27 a g f b o p)) a g f b k q n m h u :=
 ind (fun _ _ _ _ => by kernel_rfl) fun q ih n m h u => Eq.trans (b := Ag6 (x47 kn27 (z44 kn27 q) a b g f k) (x50 kn27 a g f) a g f b k n m h u) (by kernel_rfl) (by simp only [e47, e50, ih] <;> rfl)
theorem e44 (kn27 : K_) (a : Int) (g : LB) (f : Int) : x44 kn27 a g f = Amn (fun b o p => kn27 (t27 a g f b o p)) a g f := by funext b k n m h u; exact Eq.trans (by kernel_rfl) ((i44 kn27 a g f b k Bn n m h u).trans (by rw [Ak]; rfl))
theorem i27 (a : Int) (g : LB) (f : Int) : ∀ (q : Nat) (b o : Int) (p : LB), z27 q (t27 a g f b o p) = Xo a g f q b o p :=
 ind (fun _ _ _ => by kernel_rfl) fun q ih b o p => Eq.trans (b := Ami (x44 (z27 q) a g f) x52 a g f b o p) (by kernel_rfl) (by simp only [e44, e52, ih] <;> rfl)
theorem e27 : x27 = Am9 := by funext a g f b o p; exact Eq.trans (by kernel_rfl) ((i27 a g f Bn b o p).trans (by rw [Ak]; rfl))
noncomputable def F := u4 Aoc
theorem rn x : H.u P_ x = F x := Eq.trans (b := u4 (Apd x27) x) (by kernel_rfl) (by simp only [e27] <;> rfl)
noncomputable def c : Con := ⟨H.p, H.r, F⟩
theorem ok : ConOk P_ gl 154 c := cr H func154 (.cons F156.ok (.cons F157.ok .nil)) (AnsOk.cons ent222 AnsOk.nil) rn
end F154
namespace F223
def Ai5 (j4 : Int → Int → UInt64 → UInt64 → Option Int) (a b : Int) (f g : UInt64) : Option Int :=
both (
bo (
j4 a b f g)) [
j4 a b f g]
theorem Aso : @Ai5 = @Aej := by
  unfold Ai5 Aej
  repeat (refine funext fun _ => ?_)
  repeat' first
    | with_reducible rfl
    | with_reducible refine Hz ?_ ?_
    | with_reducible refine Hy ?_ ?_ ?_
    | with_reducible refine Ic ?_ ?_ ?_ ?_
    | ((with_reducible refine Lz ?_ ?_); focus (intro h; first | (subst h; rfl) | (simp only [h]; rfl) | (simp [Fz, Ac, h]; done)))
    | with_reducible refine Lu fun x => ?_
    | with_reducible refine Ue (fun _ => ?_) (fun _ => ?_)
    | (refine Dn (fun h => by simp only [h, Me, Cg, Cb, ite_self]) (fun x h => ?_); (try simp only [h, Cg]))
    | (refine Fm (fun h => ?_) (fun h => ?_) <;> simp only [h, if_true, if_false, Bool.false_eq_true])
def Aii (j3 : Int → Int → UInt64 → UInt64 → Option Int) (a b : Int) (f g : UInt64) : Option Int :=
both (
bo (
j3 a b f g)) [
j3 a b f g]
theorem Asd : @Aii = @Aek := by
  unfold Aii Aek
  repeat (refine funext fun _ => ?_)
  repeat' first
    | with_reducible rfl
    | with_reducible refine Hz ?_ ?_
    | with_reducible refine Hy ?_ ?_ ?_
    | with_reducible refine Ic ?_ ?_ ?_ ?_
    | ((with_reducible refine Lz ?_ ?_); focus (intro h; first | (subst h; rfl) | (simp only [h]; rfl) | (simp [Fz, Ac, h]; done)))
    | with_reducible refine Lu fun x => ?_
    | with_reducible refine Ue (fun _ => ?_) (fun _ => ?_)
    | (refine Dn (fun h => by simp only [h, Me, Cg, Cb, ite_self]) (fun x h => ?_); (try simp only [h, Cg]))
    | (refine Fm (fun h => ?_) (fun h => ?_) <;> simp only [h, if_true, if_false, Bool.false_eq_true])
abbrev R_ := Int
noncomputable def H : Hd := ⟨[.agg [Si, Si, Sq, Sq]], [Si], (.seq .d (.seq .d (.cut [1, 3] [] (.mode false) (.cut [1, 3] [] (.mode false) .d)))), ⟨[], gl, false⟩, [], f223⟩
def x4 (a b : Int) (f g : UInt64) : Option R_ := H.e P_ [r,r,r,r] ⟨[(1, .ptr 0 []), (3, .ptr 1 [])], [.box 208 (.agg [vi a, vi b, vq f, vq g]), .box 208 (.agg [vi (Gs (An1 a (0 : Int)) (24 : Int)), vi (Gs (An1 b (0 : Int)) (24 : Int)), vq (Gs f (68719476735 : UInt64)), vq (Gs g (68719476735 : UInt64))])], []⟩
def x3 (a b : Int) (f g : UInt64) : Option R_ := H.e P_ [r,r,r] ⟨[(1, .ptr 0 []), (3, .ptr 1 [])], [.box 208 (.agg [vi a, vi b, vq f, vq g]), .box 208 (.agg [vi (Gs (An1 a (0 : Int)) (24 : Int)), vi (Gs (An1 b (0 : Int)) (24 : Int)), vq f, vq g])], []⟩
theorem e4 : x4 = Aj0 := by kernel_rfl
theorem e3 : x3 = Akl := Eq.trans (b := Ai5 x4) (by kernel_rfl) (by rw [Aso]; simp only [e4] <;> rfl)
noncomputable def F := u4 Alz
theorem rn x : H.u P_ x = F x := Eq.trans (b := u4 (Aii x3) x) (by kernel_rfl) (by unfold F; rw [Asd]; simp only [e3] <;> rfl)
noncomputable def c : Con := ⟨H.p, H.r, F⟩
theorem ok : ConOk P_ gl 223 c := co H func223 .nil rn
end F223
namespace F100
noncomputable def H : Hd := ⟨[.agg [Sb, Si], Si, Si], [Sq, Si], .d, ⟨[(156, F156.c), (157, F157.c)], gl, false⟩, [], f100⟩
noncomputable def F := u4 Acs
theorem rn x : H.u P_ x = F x := by kernel_rfl
noncomputable def c : Con := ⟨H.p, H.r, F⟩
theorem ok : ConOk P_ gl 100 c := co H func100 (.cons F156.ok (.cons F157.ok .nil)) rn
end F100
namespace F294
noncomputable def H : Hd := ⟨[Sq], [Si], .d, ⟨[], gl, false⟩, [], f294⟩
noncomputable def F := Es
theorem rn x : H.u P_ x = F x := by kernel_rfl
noncomputable def c : Con := ⟨H.p, H.r, F⟩
theorem ok : ConOk P_ gl 294 c := co H func294 .nil rn
end F294
namespace F264
def Ahz (j6 : Int → UInt64 → Int → LB → Int → Option (Int × Int × Int)) (g : LB) (b a : Int) : Option (Int × Int × Int) :=
(Se g b).bind fun m =>
if (Bm m 0) then
some (0, 0, m)
else
if (Cj a 0) then
some (0, 0, 2)
else
if (Nc a b) then
some (0, 0, 24)
else
(fun n : Option (Int × Int × Int) =>
(fun o : Option (Int × Int × Int) =>
bo2 (
o)) (
bo (
n))) (
(Acs g b a (Gs 48 (Ao b a))).bind fun (k, h) =>
j6 h k a g b)
theorem Atc : @Ahz = @Zc := by
  unfold Ahz Zc
  simp only [Anp, Af4, Af8]
abbrev R_ := (Int × Int × Int)
noncomputable def H : Hd := ⟨[.agg [Sb, Si], Si], [Si, Si, Si], (.seq .d (.seq .d (.seq .d (.seq .d (.seq .d (.cut [3, 5, 6, 8, 9] [] (.keep [2, 3, 5, 6, 8, 9, 22, 23, 24, 25, 26, 27, 28, 29] false) (.seq .d (.seq .d (.cut [] [] (.blk (.seq (.blk (.seq (.blk (.cut [] [] (.cut [3, 4, 5] [] (.cut [3, 4, 5, 36] [] (.keep [3, 4, 5, 8, 36, 37, 38, 39, 40] true) .d) .d) .d)) .d)) .d)) .d))))))))), ⟨[(100, F100.c), (156, F156.c), (294, F294.c)], gl, false⟩, [(293, .d)], f264⟩
def x10 : Option R_ := H.e P_ [r,r,r,r,r,r,r,r,r] ⟨[], [], []⟩
def x9 : Option R_ := H.e P_ [r,r,r,r,r,r,r,r,l,d,l,d,l,d,r] ⟨[], [], []⟩
def x8 (f a : Int) : Option R_ := H.e P_ [r,r,r,r,r,r,r,r,l,d,l,d,l,d,l,r] ⟨[(3, .ptr 0 []), (4, vi f), (5, vi 0)], [.box 3 (vi a)], []⟩
def x7 (f b a : Int) : Option R_ := H.e P_ [r,r,r,r,r,r,r,r,l,d,l,d,l,d,l,l,r] ⟨[(3, .ptr 0 []), (4, vi f), (5, vi 0), (36, vt (Cj f (Gs (48 : Int) (Ao b a))))], [.box 3 (vi a)], []⟩
def x6 (h : Int) (k : UInt64) (a : Int) (g : LB) (b : Int) : Option R_ := H.e P_ [r,r,r,r,r,r] ⟨[(3, .ptr 0 []), (5, vi 0), (6, vi h), (8, .fn 293 [.ptr 1 [], .ptr 0 []]), (9, vq k)], [.box 3 (vi a), .box 146 (.agg [vb g, vi b])], []⟩
theorem e10 : x10 = Ao9 := by kernel_rfl
theorem e9 : x9 = Aqh := Eq.trans (b := Aqp x10) (by kernel_rfl) (by simp only [e10] <;> rfl)
theorem e8 : x8 = Aks := Eq.trans (b := Aj8 x9) (by kernel_rfl) (by simp only [e9] <;> rfl)
theorem e7 : x7 = Aj2 := Eq.trans (b := Akd x8) (by kernel_rfl) (by simp only [e8] <;> rfl)
theorem e6 : x6 = Akc := Eq.trans (b := Aku x7) (by kernel_rfl) (by simp only [e7] <;> rfl)
noncomputable def F := u3 Aeb
theorem rn x : H.u P_ x = F x := Eq.trans (b := u3 (Ahz x6) x) (by kernel_rfl) (by unfold F; rw [Atc]; simp only [e6] <;> rfl)
noncomputable def c : Con := ⟨H.p, H.r, F⟩
theorem ok : ConOk P_ gl 264 c := cr H func264 (.cons F100.ok (.cons F156.ok (.cons F294.ok .nil))) (AnsOk.cons ent293 AnsOk.nil) rn
end F264
namespace F265
noncomputable def H : Hd := ⟨[Su, Si], [Sz], .d, ⟨[], gl, false⟩, [], f265⟩
noncomputable def F := u2 Aly
theorem rn x : H.u P_ x = F x := by kernel_rfl
noncomputable def c : Con := ⟨H.p, H.r, F⟩
theorem ok : ConOk P_ gl 265 c := co H func265 .nil rn
end F265
namespace F224
abbrev R_ := (UInt32 × Int × Int)
noncomputable def H : Hd := ⟨[.agg [Sb, Si], Si, Si], [Su, Si, Si], (.seq .d (.seq .d (.seq .d (.seq .d (.seq .d (.seq .d (.cut [2, 3, 7, 10, 11] [] .d .d))))))), ⟨[(100, F100.c), (156, F156.c), (264, F264.c), (265, F265.c)], gl, false⟩, [], f224⟩
def x2 (a b f : Int) (g : LB) (h k : Int) : Option R_ := H.e P_ [r,r,r,r,r,r,r] ⟨[(2, vi a), (3, .ptr 0 []), (7, vi b), (10, vi f), (11, vi k)], [.box 146 (.agg [vb g, vi h])], []⟩
theorem e2 : x2 = Ahb := by kernel_rfl
noncomputable def F := u4 Apy
theorem rn x : H.u P_ x = F x := Eq.trans (b := u4 (Al2 x2) x) (by kernel_rfl) (by simp only [e2] <;> rfl)
noncomputable def c : Con := ⟨H.p, H.r, F⟩
theorem ok : ConOk P_ gl 224 c := co H func224 (.cons F100.ok (.cons F156.ok (.cons F264.ok (.cons F265.ok .nil)))) rn
end F224
namespace F267
noncomputable def H : Hd := ⟨[.agg [Si, Si, Sq, Sq], Su], [Si, Su], .d, ⟨[], gl, false⟩, [], f267⟩
noncomputable def F := u5 Amd
theorem rn x : H.u P_ x = F x := by kernel_rfl
noncomputable def c : Con := ⟨H.p, H.r, F⟩
theorem ok : ConOk P_ gl 267 c := co H func267 .nil rn
end F267
namespace F155
abbrev R_ := (UInt32 × Int × Int × Int × UInt64 × UInt64 × Int)
noncomputable def H : Hd := ⟨[.agg [Sb, Si], Si, .agg [Si, Si, Sq, Sq]], [Su, Si, .agg [Si, Si, Sq, Sq], Si], (.seq .d (.cut [1, 3, 5, 8] [] .d (.seq .d (.seq .d (.cut [5, 6, 7, 8] [] .d (.cut [5, 6, 7, 8] [] (.keep [5, 6, 7, 8, 81] true) .d)))))), ⟨[(100, F100.c), (156, F156.c), (223, F223.c), (224, F224.c), (267, F267.c)], gl, false⟩, [(225, (.seq .d (.seq .d (.seq .d (.blk (.cut [0, 1, 4] [] (.blk (.seq .d (.keep [0, 1, 4, 6, 18, 19, 20, 21, 22, 23, 24, 25] true))) (.cut [] [] (.keep [0, 1, 4, 27, 28, 29, 30, 31, 32, 33, 34] true) .d))))))), (266, .d)], f155⟩
def x10 (f : UInt32) (k w m : Int) (a n : UInt64) : Option R_ := H.e P_ [r,r,r,r,r,r] ⟨[(5, .ptr 0 []), (6, vu f), (7, vi k), (8, .ptr 1 [])], [.box 208 (.agg [vi w, vi m, vq (Ae a (Ao (Ad f : UInt64) (Cd a (GI.toZ (4 : UInt64)).toNat))), vq n]), .box 208 (.agg [vi 0, vi 0, vq 0, vq 0])], []⟩
def x9 (f : UInt32) (k m : Int) (a n : UInt64) (w : Int) : Option R_ := H.e P_ [r,r,r,r,r,l,(call 1 225),r,r,r,d,r,r] ⟨[], [.box 208 (.agg [vi w, vi m, vq (Ae a (Ao (Ad f : UInt64) (Cd a (GI.toZ (4 : UInt64)).toNat))), vq n]), .box 208 (.agg [vi 0, vi 0, vq 0, vq 0])], [[(5, .ptr 0 []), (6, vu f), (7, vi k), (8, .ptr 1 []), (81, vu f)]]⟩
def x8 (f : UInt32) (k b : Int) (a : UInt64) (m : Int) (n : UInt64) : Option R_ := H.e P_ [r,r,r,r,r,l,(call 1 225),r,r,r,d,r] ⟨[(0, .ptr 0 []), (1, vu f), (4, .fn 266 [])], [.box 208 (.agg [vi b, vi m, vq a, vq n]), .box 208 (.agg [vi 0, vi 0, vq 0, vq 0])], [[(5, .ptr 0 []), (6, vu f), (7, vi k), (8, .ptr 1 []), (81, vu f)]]⟩
def x7 (b h : Int) (a g : UInt64) (f : UInt32) (k : Int) : Option R_ := H.e P_ [r,r,r,r,r] ⟨[(5, .ptr 0 []), (6, vu f), (7, vi k), (8, .ptr 1 [])], [.box 208 (.agg [vi b, vi h, vq a, vq g]), .box 208 (.agg [vi 0, vi 0, vq 0, vq 0])], []⟩
def x6 (p : Int) (u : LB) (v b h : Int) (a g : UInt64) : Option R_ := H.e P_ [r,r] ⟨[(1, vi p), (3, .ptr 0 []), (5, .ptr 1 []), (8, .ptr 2 [])], [.box 146 (.agg [vb u, vi v]), .box 208 (.agg [vi b, vi h, vq a, vq g]), .box 208 (.agg [vi 0, vi 0, vq 0, vq 0])], []⟩
theorem e10 : x10 = Akq := by kernel_rfl
theorem e9 : x9 = Amz := Eq.trans (b := Amm x10) (by kernel_rfl) (by simp only [e10] <;> rfl)
theorem e8 : x8 = Ab6 := Eq.trans (b := Al1 x9) (by kernel_rfl) (by simp only [e9] <;> rfl)
theorem e7 : x7 = Ahd := Eq.trans (b := Amf x8) (by kernel_rfl) (by simp only [e8] <;> rfl)
theorem e6 : x6 = Am7 := Eq.trans (b := Amu x7) (by kernel_rfl) (by simp only [e7] <;> rfl)
noncomputable def F := u7 Aea
theorem rn x : H.u P_ x = F x := Eq.trans (b := u7 (Ane x6) x) (by kernel_rfl) (by simp only [e6] <;> rfl)
noncomputable def c : Con := ⟨H.p, H.r, F⟩
theorem ok : ConOk P_ gl 155 c := cr H func155 (.cons F100.ok (.cons F156.ok (.cons F223.ok (.cons F224.ok (.cons F267.ok .nil))))) (AnsOk.cons ent225 (AnsOk.cons ent266 AnsOk.nil)) rn
end F155
namespace F99
def Ys (j21 : Int → Int → Int → UInt32 → Int → (List (Int × Int × UInt64 × UInt64 × Unit)) → LU → Int → Int → UInt64 → UInt64 → Option (LU × Int × Int)) (j24 : Int → LU → Option (LU × Int × Int)) (a f : Int) (g : LB) (b k h : Int) (n : List (Int × Int × UInt64 × UInt64 × Unit)) (m : LU) : Option (LU × Int × Int) :=
if (Cj h (Bb f a)) then
(Aoc g b k (Gs (Ae k 81) b)).bind fun (ah, ae, af) =>
if (Bm af 0) then
some (([] : LU), 0, af)
else
(Oz (Bm a 0)).bind fun _ =>
(Aj n (Il h a)).bind fun _ =>
(fun ai : Option (LU × Int × Int) =>
both (
both (
(Aj n (Il h a)).bind fun p =>
(fun ao : Option (LU × Int × Int) =>
bo (
ao)) (
(Aea ah ae 0 p.1 p.2.1 p.2.2.1 p.2.2.2.1).bind fun (w, v, aa, ab, ac, ad, y) =>
j21 k h y w v n m aa ab ac ad)) [
ai]) [
(Aj n (Il h a)).bind fun p =>
(fun aj : Option (LU × Int × Int) =>
both (
bo (
aj)) [
aj]) (
(Aea ah ae 0 p.1 p.2.1 p.2.2.1 p.2.2.2.1).bind fun (w, v, aa, ab, ac, ad, y) =>
j21 k h y w v n m aa ab ac ad),
bo (
ai)]) (
(Aj n (Il h a)).bind fun p =>
(Aea ah ae 0 p.1 p.2.1 p.2.2.1 p.2.2.2.1).bind fun (w, v, aa, ab, ac, ad, y) =>
j21 k h y w v n m aa ab ac ad)
else
j24 k m
theorem Amo : @Ys = @Sk := by
  unfold Ys Sk
  try simp only [Anp, Af4, Af8]
  all_goals
    repeat (refine funext fun _ => ?_)
    repeat' first
      | with_reducible rfl
      | with_reducible refine Hz ?_ ?_
      | with_reducible refine Hy ?_ ?_ ?_
      | with_reducible refine Ic ?_ ?_ ?_ ?_
      | ((with_reducible refine Lz ?_ ?_); focus (intro h; first | (subst h; rfl) | (simp only [h]; rfl) | (simp [Fz, Ac, h]; done)))
      | with_reducible refine Lu fun x => ?_
      | with_reducible refine Ue (fun _ => ?_) (fun _ => ?_)
      | (refine Dn (fun h => by simp only [h, Me, Cg, Cb, ite_self]) (fun x h => ?_); (try simp only [h, Cg]))
      | (refine Fm (fun h => ?_) (fun h => ?_) <;> simp only [h, if_true, if_false, Bool.false_eq_true])
abbrev R_ := (LU × Int × Int)
abbrev K_ := S → Option R_
noncomputable def H : Hd := ⟨[Si, Si, .agg [Sb, Si]], [Ov 194, Si, Si], (.seq .d (.seq .d (.cut [0, 1, 5, 9] [] (.seq .d (.blk (.loop [0, 1, 5, 9, 19] [] .d))) (.seq .d (.seq .d (.cut [11, 12] [] (.seq .d (.blk (.loop [0, 5, 9, 11, 12, 28, 29] [⟨11, [], .own 194 (.int .u32)⟩] (.seq .d (.seq .d (.seq (.blk (.seq .d (.seq .d (.seq .d (.cut [0, 5, 9, 11, 12, 13, 15, 16, 17, 18, 28, 29] [] (.mode false) (.seq .d (.cut [0, 5, 9, 11, 12, 16, 28, 29] [] .d .d))))))) .d)))))) .d)))))), ⟨[(153, F153.c), (154, F154.c), (155, F155.c)], gl, false⟩, [], f99⟩
def t16 (a f : Int) (g : LB) (b k h : Int) (n : List (Int × Int × UInt64 × UInt64 × Unit)) (m : LU) : S := ⟨[(0, vi a), (5, .ptr 0 []), (9, .ptr 1 []), (11, .own 2), (12, vi k), (28, vi (Bb f a)), (29, vi h)], [.box 146 (.agg [vb g, vi b]), .box 209 (.val (.vec 6 (.cons (.int .i64) (.cons (.int .i64) (.cons (.int .u64) (.cons (.int .u64) .nil))))) n), Av 194 m], []⟩
def z16 : Nat → S → Option R_ := H.i P_ [r,r,r,r,r,l,r,d]
def t13 (a f : Int) (g : LB) (b u : Int) (o : List (Int × Int × UInt64 × UInt64 × Unit)) : S := ⟨[(0, vi a), (1, vi f), (5, .ptr 0 []), (9, .ptr 1 []), (19, vi u)], [.box 146 (.agg [vb g, vi b]), .box 209 (.val (.vec 6 (.cons (.int .i64) (.cons (.int .i64) (.cons (.int .u64) (.cons (.int .u64) .nil))))) o)], []⟩
def z13 : Nat → S → Option R_ := H.i P_ [r,r,l,r,d]
def x24 (k : Int) (m : LU) : Option R_ := H.e P_ [r,r,r,r,r,r] ⟨[(11, .own 0), (12, vi k)], [Av 194 m], []⟩
def x22 (kn16 : K_) (a f : Int) (g : LB) (b k v : Int) (w : UInt32) (h : Int) (ag : List (Int × Int × UInt64 × UInt64 × Unit)) (m : LU) : Option R_ := H.e P_ [r,r,r,r,r,l,r,d,(lp kn16),r,r,l,d,r,r,r,r,r,r] ⟨[(0, vi a), (5, .ptr 0 []), (9, .ptr 1 []), (11, .own 2), (12, vi (Ae k v)), (16, vu w), (28, vi (Bb f a)), (29, vi h)], [.box 146 (.agg [vb g, vi b]), .box 209 (.val (.vec 6 (.cons (.int .i64) (.cons (.int .i64) (.cons (.int .u64) (.cons (.int .u64) .nil))))) ag), Av 194 m], []⟩
def x21 (kn16 : K_) (a f : Int) (g : LB) (b k h y : Int) (w : UInt32) (v : Int) (n : List (Int × Int × UInt64 × UInt64 × Unit)) (m : LU) (aa ab : Int) (ac ad : UInt64) : Option R_ := H.e P_ [r,r,r,r,r,l,r,d,(lp kn16),r,r,l,d,r,r,r,r] ⟨[(0, vi a), (5, .ptr 0 []), (9, .ptr 1 []), (11, .own 2), (12, vi k), (13, vi h), (15, vi y), (16, vu w), (17, vi v), (18, .ptr 3 []), (28, vi (Bb f a)), (29, vi h)], [.box 146 (.agg [vb g, vi b]), .box 209 (.val (.vec 6 (.cons (.int .i64) (.cons (.int .i64) (.cons (.int .u64) (.cons (.int .u64) .nil))))) n), Av 194 m, .box 208 (.agg [vi aa, vi ab, vq ac, vq ad])], []⟩
def x16 (a f : Int) (g : LB) (b k h : Int) (n : List (Int × Int × UInt64 × UInt64 × Unit)) (m : LU) : Option R_ := H.e P_ [r,r,r,r,r,l,r,d] (t16 a f g b k h n m)
def x15 (a f : Int) (g : LB) (b : Int) (o : List (Int × Int × UInt64 × UInt64 × Unit)) : Option R_ := H.e P_ [r,r,r] ⟨[(0, vi a), (1, vi f), (5, .ptr 0 []), (9, .ptr 1 [])], [.box 146 (.agg [vb g, vi b]), .box 209 (.val (.vec 6 (.cons (.int .i64) (.cons (.int .i64) (.cons (.int .u64) (.cons (.int .u64) .nil))))) o)], []⟩
def x13 (a f : Int) (g : LB) (b u : Int) (o : List (Int × Int × UInt64 × UInt64 × Unit)) : Option R_ := H.e P_ [r,r,l,r,d] (t13 a f g b u o)
theorem e24 : x24 = Aip := by kernel_rfl
theorem e22 (kn16 : K_) (a f : Int) (g : LB) (b : Int) : x22 kn16 a f g b = Zz (fun k h n m => kn16 (t16 a f g b k h n m)) a f g b := by kernel_rfl
theorem e21 (kn16 : K_) (a f : Int) (g : LB) (b : Int) : x21 kn16 a f g b = Sy (fun k h n m => kn16 (t16 a f g b k h n m)) a f g b := Eq.trans (b := Ri (x22 kn16 a f g b) a f g b) (by kernel_rfl) (by simp only [e22] <;> rfl)
theorem i16 (a f : Int) (g : LB) (b : Int) : ∀ (q : Nat) (k h : Int) (n : List (Int × Int × UInt64 × UInt64 × Unit)) (m : LU), z16 q (t16 a f g b k h n m) = Lc a f g b q k h n m :=
 ind (fun _ _ _ _ => by kernel_rfl) fun q ih k h n m => Eq.trans (b := Ys (x21 (z16 q) a f g b) x24 a f g b k h n m) (by kernel_rfl) (by rw [Amo]; simp only [e21, e24, ih] <;> rfl)
theorem e16 : x16 = Aid := by funext a f g b k h n m; exact Eq.trans (by kernel_rfl) ((i16 a f g b Bn k h n m).trans (by rw [Ak]; rfl))
theorem e15 : x15 = Aap := Eq.trans (b := Ah6 x16) (by kernel_rfl) (by simp only [e16] <;> rfl)
theorem i13 (a f : Int) (g : LB) (b : Int) : ∀ (q : Nat) (u : Int) (o : List (Int × Int × UInt64 × UInt64 × Unit)), z13 q (t13 a f g b u o) = Zw a f g b q u o :=
 ind (fun _ _ => by kernel_rfl) fun q ih u o => Eq.trans (b := Aiv x15 (fun u o => (z13 q) (t13 a f g b u o)) a f g b u o) (by kernel_rfl) (by simp only [e15, ih] <;> rfl)
theorem e13 : x13 = Tf := by funext a f g b u o; exact Eq.trans (by kernel_rfl) ((i13 a f g b Bn u o).trans (by rw [Ak]; rfl))
noncomputable def F := u4 Acl
theorem rn x : H.u P_ x = F x := Eq.trans (b := u4 (Abz x13) x) (by kernel_rfl) (by simp only [e13] <;> rfl)
noncomputable def c : Con := ⟨H.p, H.r, F⟩
theorem ok : ConOk P_ gl 99 c := co H func99 (.cons F153.ok (.cons F154.ok (.cons F155.ok .nil))) rn
end F99
namespace F226
abbrev R_ := (Int × LX × LX × Int)
noncomputable def H : Hd := ⟨[Si, .lf (.vec 16 (.int .i32)) none], [.agg [Si, .lf (.vec 16 (.int .i32)) none, .lf (.vec 16 (.int .i32)) none], Si], (.seq .d (.seq .d (.seq (.seq .d (.blk (.cut [4, 6, 9, 11] [] .d .d))) .d))), ⟨[], gl, false⟩, [], f226⟩
def x2 (a : Int) (b : LX) (f : Bool) : Option R_ := H.e P_ [r,r,l,r,d,r] ⟨[(4, .ptr 0 []), (6, .ptr 1 []), (9, vi a), (11, vt f)], [.box 217 (.agg [vi 0, .val (.vec 16 (.int .i32)) (List.replicate 16 (0 : Int32)), .val (.vec 16 (.int .i32)) (List.replicate 16 (0 : Int32))]), .box 217 (.agg [vi 10, .val (.vec 16 (.int .i32)) b, .val (.vec 16 (.int .i32)) (List.replicate 16 (0 : Int32))])], []⟩
theorem e2 : x2 = Avd := by kernel_rfl
noncomputable def F := u2 Ash
theorem rn x : H.u P_ x = F x := Eq.trans (b := u2 (Auj x2) x) (by kernel_rfl) (by simp only [e2] <;> rfl)
noncomputable def c : Con := ⟨H.p, H.r, F⟩
theorem ok : ConOk P_ gl 226 c := co H func226 .nil rn
end F226
namespace F158
noncomputable def H : Hd := ⟨[Si, .lf (.vec 16 (.int .i32)) none], [.agg [Si, Sx, .agg [Si, .lf (.vec 16 (.int .i32)) none, .lf (.vec 16 (.int .i32)) none]], Si], .d, ⟨[(226, F226.c)], gl, false⟩, [], f158⟩
noncomputable def F := u2 Azz
theorem rn x : H.u P_ x = F x := by kernel_rfl
noncomputable def c : Con := ⟨H.p, H.r, F⟩
theorem ok : ConOk P_ gl 158 c := co H func158 (.cons F226.ok .nil) rn
end F158
namespace F160
noncomputable def H : Hd := ⟨[Su], [Sx], .d, ⟨[], gl, false⟩, [], f160⟩
noncomputable def F := Xk
theorem rn x : H.u P_ x = F x := by kernel_rfl
noncomputable def c : Con := ⟨H.p, H.r, F⟩
theorem ok : ConOk P_ gl 160 c := co H func160 .nil rn
end F160
namespace F227
noncomputable def H : Hd := ⟨[.agg [Si, Sx, .agg [Si, .lf (.vec 16 (.int .i32)) none, .lf (.vec 16 (.int .i32)) none]]], [Si], .d, ⟨[(226, F226.c)], gl, false⟩, [], f227⟩
noncomputable def F := u5 Ae7
theorem rn x : H.u P_ x = F x := by kernel_rfl
noncomputable def c : Con := ⟨H.p, H.r, F⟩
theorem ok : ConOk P_ gl 227 c := co H func227 (.cons F226.ok .nil) rn
end F227
namespace F268
noncomputable def H : Hd := ⟨[Si], [Si, Si], .d, ⟨[], gl, false⟩, [], f268⟩
noncomputable def F := Aox
theorem rn x : H.u P_ x = F x := by kernel_rfl
noncomputable def c : Con := ⟨H.p, H.r, F⟩
theorem ok : ConOk P_ gl 268 c := co H func268 .nil rn
end F268
namespace F269
noncomputable def H : Hd := ⟨[Si, Sx], [Sx], .d, ⟨[], gl, false⟩, [], f269⟩
noncomputable def F := u2 Aji
theorem rn x : H.u P_ x = F x := by kernel_rfl
noncomputable def c : Con := ⟨H.p, H.r, F⟩
theorem ok : ConOk P_ gl 269 c := co H func269 .nil rn
end F269
namespace F228
noncomputable def H : Hd := ⟨[Si, Sx], [Sx, Si], .d, ⟨[(268, F268.c), (269, F269.c)], gl, false⟩, [], f228⟩
noncomputable def F := u2 Ae5
theorem rn x : H.u P_ x = F x := by kernel_rfl
noncomputable def c : Con := ⟨H.p, H.r, F⟩
theorem ok : ConOk P_ gl 228 c := co H func228 (.cons F268.ok (.cons F269.ok .nil)) rn
end F228
namespace F295
noncomputable def H : Hd := ⟨[.agg [Si, .lf (.vec 16 (.int .i32)) none, .lf (.vec 16 (.int .i32)) none]], [Si], .d, ⟨[], gl, false⟩, [], f295⟩
noncomputable def F := u3 Ad7
theorem rn x : H.u P_ x = F x := by kernel_rfl
noncomputable def c : Con := ⟨H.p, H.r, F⟩
theorem ok : ConOk P_ gl 295 c := co H func295 .nil rn
end F295
namespace F270
abbrev R_ := (Int32 × Int)
noncomputable def H : Hd := ⟨[.agg [Si, .lf (.vec 16 (.int .i32)) none, .lf (.vec 16 (.int .i32)) none]], [Sx, Si], (.seq .d (.seq .d (.seq .d (.cut [1, 5] [] (.seq .d (.blk (.loop [1, 5, 18, 19] [] .d))) .d)))), ⟨[(295, F295.c)], gl, false⟩, [], f270⟩
def t4 (b : LX) (a : Int) (f : LX) (g : Int32) (h : Int) : S := ⟨[(1, .ptr 0 []), (5, vx g), (18, .val (.vec 16 (.int .i32)) b), (19, vi h)], [.box 217 (.agg [vi a, .val (.vec 16 (.int .i32)) b, .val (.vec 16 (.int .i32)) f])], []⟩
def z4 : Nat → S → Option R_ := H.i P_ [r,r,r,l,r,d]
def x6 (g : Int32) (a : Int) (b f : LX) : Option R_ := H.e P_ [r,r,r,r] ⟨[(1, .ptr 0 []), (5, vx g)], [.box 217 (.agg [vi a, .val (.vec 16 (.int .i32)) b, .val (.vec 16 (.int .i32)) f])], []⟩
def x4 (b : LX) (a : Int) (f : LX) (g : Int32) (h : Int) : Option R_ := H.e P_ [r,r,r,l,r,d] (t4 b a f g h)
theorem e6 : x6 = Akk := by kernel_rfl
theorem i4 (b : LX) (a : Int) (f : LX) : ∀ (q : Nat) (g : Int32) (h : Int), z4 q (t4 b a f g h) = Tm b a f q g h :=
 ind (fun _ _ => by kernel_rfl) fun q ih g h => Eq.trans (b := Aes x6 (fun g h => (z4 q) (t4 b a f g h)) b a f g h) (by kernel_rfl) (by simp only [e6, ih] <;> rfl)
theorem e4 : x4 = Aj7 := by funext b a f g h; exact Eq.trans (by kernel_rfl) ((i4 b a f Bn g h).trans (by rw [Ak]; rfl))
noncomputable def F := u3 Anc
theorem rn x : H.u P_ x = F x := Eq.trans (b := u3 (Akg x4) x) (by kernel_rfl) (by simp only [e4] <;> rfl)
noncomputable def c : Con := ⟨H.p, H.r, F⟩
theorem ok : ConOk P_ gl 270 c := co H func270 (.cons F295.ok .nil) rn
end F270
namespace F303
noncomputable def H : Hd := ⟨[Si], [Sx], .d, ⟨[], gl, false⟩, [], f303⟩
noncomputable def F := Ak4
theorem rn x : H.u P_ x = F x := by kernel_rfl
noncomputable def c : Con := ⟨H.p, H.r, F⟩
theorem ok : ConOk P_ gl 303 c := co H func303 .nil rn
end F303
namespace F296
abbrev R_ := (Int × LX × LX × Int)
noncomputable def H : Hd := ⟨[.agg [Si, .lf (.vec 16 (.int .i32)) none, .lf (.vec 16 (.int .i32)) none], Sx], [.agg [Si, .lf (.vec 16 (.int .i32)) none, .lf (.vec 16 (.int .i32)) none], Si], (.seq .d (.seq .d (.seq .d (.cut [2, 4] [] (.seq .d (.blk (.loop [1, 2, 4, 19, 20] [] .d))) .d)))), ⟨[(295, F295.c), (303, F303.c)], gl, false⟩, [], f296⟩
def t4 (h : Int32) (f : LX) (g a : Int) (b : LX) : S := ⟨[(1, vx h), (2, .ptr 0 []), (4, .ptr 1 []), (19, .val (.vec 16 (.int .i32)) f), (20, vi a)], [.box 217 (.agg [vi g, .val (.vec 16 (.int .i32)) b, .val (.vec 16 (.int .i32)) f]), .box 217 (.agg [vi 0, .val (.vec 16 (.int .i32)) (List.replicate 16 (0 : Int32)), .val (.vec 16 (.int .i32)) (List.replicate 16 (0 : Int32))])], []⟩
def z4 : Nat → S → Option R_ := H.i P_ [r,r,r,l,r,d]
def x6 (g : Int) (b f : LX) : Option R_ := H.e P_ [r,r,r,r] ⟨[(2, .ptr 0 []), (4, .ptr 1 [])], [.box 217 (.agg [vi g, .val (.vec 16 (.int .i32)) b, .val (.vec 16 (.int .i32)) f]), .box 217 (.agg [vi 0, .val (.vec 16 (.int .i32)) (List.replicate 16 (0 : Int32)), .val (.vec 16 (.int .i32)) (List.replicate 16 (0 : Int32))])], []⟩
def x4 (h : Int32) (f : LX) (g a : Int) (b : LX) : Option R_ := H.e P_ [r,r,r,l,r,d] (t4 h f g a b)
theorem e6 : x6 = Aqm := by kernel_rfl
theorem i4 (h : Int32) (f : LX) (g : Int) : ∀ (q : Nat) (a : Int) (b : LX), z4 q (t4 h f g a b) = Tp h f g q a b :=
 ind (fun _ _ => by kernel_rfl) fun q ih a b => Eq.trans (b := Aet x6 (fun a b => (z4 q) (t4 h f g a b)) h f g a b) (by kernel_rfl) (by simp only [e6, ih] <;> rfl)
theorem e4 : x4 = Aqt := by funext h f g a b; exact Eq.trans (by kernel_rfl) ((i4 h f g Bn a b).trans (by rw [Ak]; rfl))
noncomputable def F := u4 Alw
theorem rn x : H.u P_ x = F x := Eq.trans (b := u4 (Ajz x4) x) (by kernel_rfl) (by simp only [e4] <;> rfl)
noncomputable def c : Con := ⟨H.p, H.r, F⟩
theorem ok : ConOk P_ gl 296 c := co H func296 (.cons F295.ok (.cons F303.ok .nil)) rn
end F296
namespace F297
def Aj5 (j2 : Int32 → Int → LX → LX → Option (Int × LX × LX × Int)) (b : Int) (f a : LX) (g : Int32) : Option (Int × LX × LX × Int) :=
(Ad7 b f a).bind fun h =>
if (Bm h 0) then
some (0, (List.replicate 16 (0 : Int32)), (List.replicate 16 (0 : Int32)), h)
else
both (
(vwI 16 1 16).bind fun _ =>
(vwI 16 0 16).bind fun _ =>
j2 g b f a) [
(vwI 16 0 16).bind fun _ =>
(vwI 16 1 16).bind fun _ =>
j2 g b f a]
theorem Atw : @Aj5 = @Ag5 := by
  unfold Aj5 Ag5
  repeat (refine funext fun _ => ?_)
  repeat' first
    | with_reducible rfl
    | with_reducible refine Hz ?_ ?_
    | with_reducible refine Hy ?_ ?_ ?_
    | with_reducible refine Ic ?_ ?_ ?_ ?_
    | ((with_reducible refine Lz ?_ ?_); focus (intro h; first | (subst h; rfl) | (simp only [h]; rfl) | (simp [Fz, Ac, h]; done)))
    | with_reducible refine Lu fun x => ?_
    | with_reducible refine Ue (fun _ => ?_) (fun _ => ?_)
    | (refine Dn (fun h => by simp only [h, Me, Cg, Cb, ite_self]) (fun x h => ?_); (try simp only [h, Cg]))
    | (refine Fm (fun h => ?_) (fun h => ?_) <;> simp only [h, if_true, if_false, Bool.false_eq_true])
abbrev R_ := (Int × LX × LX × Int)
noncomputable def H : Hd := ⟨[.agg [Si, .lf (.vec 16 (.int .i32)) none, .lf (.vec 16 (.int .i32)) none], Sx], [.agg [Si, .lf (.vec 16 (.int .i32)) none, .lf (.vec 16 (.int .i32)) none], Si], (.seq .d (.seq .d (.cut [1, 2, 4] [] .d .d))), ⟨[(295, F295.c)], gl, false⟩, [], f297⟩
def x2 (g : Int32) (b : Int) (f a : LX) : Option R_ := H.e P_ [r,r,r] ⟨[(1, vx g), (2, .ptr 0 []), (4, .ptr 1 [])], [.box 217 (.agg [vi b, .val (.vec 16 (.int .i32)) f, .val (.vec 16 (.int .i32)) (Tv a (1 : Int) ((16 : Int) - (1 : Int)) (Ak6 a (0 : Int) ((16 : Int) - (0 : Int))))]), .box 217 (.agg [vi 0, .val (.vec 16 (.int .i32)) (List.replicate 16 (0 : Int32)), .val (.vec 16 (.int .i32)) (List.replicate 16 (0 : Int32))])], []⟩
theorem e2 : x2 = Alu := by kernel_rfl
noncomputable def F := u4 Apu
theorem rn x : H.u P_ x = F x := Eq.trans (b := u4 (Aj5 x2) x) (by kernel_rfl) (by unfold F; rw [Atw]; simp only [e2] <;> rfl)
noncomputable def c : Con := ⟨H.p, H.r, F⟩
theorem ok : ConOk P_ gl 297 c := co H func297 (.cons F295.ok .nil) rn
end F297
namespace F271
noncomputable def H : Hd := ⟨[.agg [Si, .lf (.vec 16 (.int .i32)) none, .lf (.vec 16 (.int .i32)) none], Sx, Sx], [.agg [Si, .lf (.vec 16 (.int .i32)) none, .lf (.vec 16 (.int .i32)) none]], .d, ⟨[(296, F296.c), (297, F297.c)], gl, false⟩, [], f271⟩
noncomputable def F := u5 Aq3
theorem rn x : H.u P_ x = F x := by kernel_rfl
noncomputable def c : Con := ⟨H.p, H.r, F⟩
theorem ok : ConOk P_ gl 271 c := co H func271 (.cons F296.ok (.cons F297.ok .nil)) rn
end F271
namespace F229
noncomputable def H : Hd := ⟨[.agg [Si, .lf (.vec 16 (.int .i32)) none, .lf (.vec 16 (.int .i32)) none], Sx], [Sx, .agg [Si, .lf (.vec 16 (.int .i32)) none, .lf (.vec 16 (.int .i32)) none], Si], .d, ⟨[(270, F270.c), (271, F271.c)], gl, false⟩, [], f229⟩
noncomputable def F := u4 Aot
theorem rn x : H.u P_ x = F x := by kernel_rfl
noncomputable def c : Con := ⟨H.p, H.r, F⟩
theorem ok : ConOk P_ gl 229 c := co H func229 (.cons F270.ok (.cons F271.ok .nil)) rn
end F229
namespace F159
def Aie (a : Int) (b : Int32) (f : Int) (g h : LX) (o : Int32) : Option (Int32 × Int × Int32 × Int × LX × LX × Int) :=
(Ae7 a b f g h).bind fun k =>
if (Bm k 0) then
some (0, 0, 0, 0, (List.replicate 16 (0 : Int32)), (List.replicate 16 (0 : Int32)), k)
else
(Ae5 a b).bind fun (m, y) =>
(Aot f g h o).bind fun (n, p, u, v, w) =>
(fun aa : Option (Int32 × Int × Int32 × Int × LX × LX × Int) =>
bo (
aa)) (
some ((Ae n m), a, (Ae n m), p, u, v, w))
theorem Asp : @Aie = @Jr := by
  unfold Aie Jr
  simp only [Anp, Af4, Af8]
noncomputable def H : Hd := ⟨[.agg [Si, Sx, .agg [Si, .lf (.vec 16 (.int .i32)) none, .lf (.vec 16 (.int .i32)) none]], Sx], [Sx, .agg [Si, Sx, .agg [Si, .lf (.vec 16 (.int .i32)) none, .lf (.vec 16 (.int .i32)) none]], Si], (.seq .d (.seq .d (.seq .d (.seq .d (.seq (.mode false) .d))))), ⟨[(227, F227.c), (228, F228.c), (229, F229.c)], gl, false⟩, [], f159⟩
noncomputable def F := u6 Jr
theorem rn x : H.u P_ x = F x := Eq.trans (b := u6 Aie x) (by kernel_rfl) (by rw [Asp]; rfl)
noncomputable def c : Con := ⟨H.p, H.r, F⟩
theorem ok : ConOk P_ gl 159 c := co H func159 (.cons F227.ok (.cons F228.ok (.cons F229.ok .nil))) rn
end F159
namespace F230
noncomputable def H : Hd := ⟨[Si, Sw], [Si], .d, ⟨[], gl, false⟩, [], f230⟩
noncomputable def F := u2 Aqa
theorem rn x : H.u P_ x = F x := by kernel_rfl
noncomputable def c : Con := ⟨H.p, H.r, F⟩
theorem ok : ConOk P_ gl 230 c := co H func230 .nil rn
end F230
namespace F231
def Jv (a : LX) : Option (LX) :=
Aw1 a (
some ([] : LX)) (
(Fz ([] : LX) a).bind fun b =>
some b)
theorem Ade : @Jv = @Fq := by
  unfold Jv Fq
  repeat (refine funext fun _ => ?_)
  repeat' first
    | with_reducible rfl
    | with_reducible refine Hz ?_ ?_
    | with_reducible refine Hy ?_ ?_ ?_
    | with_reducible refine Ic ?_ ?_ ?_ ?_
    | ((with_reducible refine Lz ?_ ?_); focus (intro h; first | (subst h; rfl) | (simp only [h]; rfl) | (simp [Fz, Ac, h]; done)))
    | with_reducible refine Lu fun x => ?_
    | with_reducible refine Ue (fun _ => ?_) (fun _ => ?_)
    | (refine Dn (fun h => by simp only [h, Me, Cg, Cb, ite_self]) (fun x h => ?_); (try simp only [h, Cg]))
    | (refine Fm (fun h => ?_) (fun h => ?_) <;> simp only [h, if_true, if_false, Bool.false_eq_true])
noncomputable def H : Hd := ⟨[Sw], [Ow 21], .d, ⟨[], gl, false⟩, [], f231⟩
noncomputable def F := Fq
theorem rn x : H.u P_ x = F x := Eq.trans (b := Jv x) (by kernel_rfl) (by rw [Ade]; rfl)
noncomputable def c : Con := ⟨H.p, H.r, F⟩
theorem ok : ConOk P_ gl 231 c := co H func231 .nil rn
end F231
namespace F161
abbrev R_ := (LX × Int)
abbrev K_ := S → Option R_
noncomputable def H : Hd := ⟨[Si, Sw], [Ow 21, Si], (.seq .d (.seq .d (.seq .d (.cut [7] [] (.seq .d (.blk (.loop [0, 7, 8] [] (.seq .d (.cut [0, 7, 8] [] (.blk (.keep [0, 7, 8, 24, 25, 26, 27, 28, 29] true)) .d))))) .d)))), ⟨[(230, F230.c), (231, F231.c)], gl, true⟩, [(232, (.seq .d (.cut [0, 2] [] .d (.seq .d (.blk (.loop [0, 3] [] .d))))))], f161⟩
def t18 (b a g : Int) (h : LX) : S := ⟨[(0, .view true 0 [] (.int .i32) a ((Ae a b) - a)), (3, vi g)], [Aw 21 h], [[(0, vi b), (7, .own 0), (8, vi a), (24, .own 0), (25, vi a), (26, vi a), (27, vi b), (28, vi (Ae a b)), (29, .view true 0 [] (.int .i32) a ((Ae a b) - a))]]⟩
def z18 (kn12 : K_) : Nat → S → Option R_ := H.i P_ [r,r,r,l,r,d,(lp kn12),r,l,d,(call 6 232),r,r,r,d]
def t12 (b a : Int) (f : LX) : S := ⟨[(0, vi b), (7, .own 0), (8, vi a)], [Aw 21 f], []⟩
def z12 : Nat → S → Option R_ := H.i P_ [r,r,r,l,r,d]
def x22 (f : LX) : Option R_ := H.e P_ [r,r,r,r] ⟨[(7, .own 0)], [Aw 21 f], []⟩
def x20 (kn12 : K_) (b a : Int) (h : LX) : Option R_ := H.e P_ [r,r,r,l,r,d,(lp kn12),r,r] ⟨[(0, vi b), (7, .own 0), (8, vi a)], [Aw 21 h], []⟩
def x18 (kn12 : K_) (b a g : Int) (h : LX) : Option R_ := H.e P_ [r,r,r,l,r,d,(lp kn12),r,l,d,(call 6 232),r,r,r,d] (t18 b a g h)
def x17 (kn12 : K_) (b a : Int) (k : LX) : Option R_ := H.e P_ [r,r,r,l,r,d,(lp kn12),r,l,d,(call 6 232),r,r] ⟨[(0, .view true 0 [] (.int .i32) a ((Ae a b) - a)), (2, vi (Ao ((Ae a b) - a) (1 : Int)))], [Aw 21 k], [[(0, vi b), (7, .own 0), (8, vi a), (24, .own 0), (25, vi a), (26, vi a), (27, vi b), (28, vi (Ae a b)), (29, .view true 0 [] (.int .i32) a ((Ae a b) - a))]]⟩
def x12 (b a : Int) (f : LX) : Option R_ := H.e P_ [r,r,r,l,r,d] (t12 b a f)
theorem e22 : x22 = Ase := by kernel_rfl
theorem e20 (kn12 : K_) (b : Int) : x20 kn12 b = Amv (fun a f => kn12 (t12 b a f)) b := by kernel_rfl
theorem i18 (kn12 : K_) (b a : Int) : ∀ (q : Nat) (g : Int) (h : LX), z18 kn12 q (t18 b a g h) = Xm (fun a f => kn12 (t12 b a f)) b a q g h :=
 ind (fun _ _ => by kernel_rfl) fun q ih g h => Eq.trans (b := Ag7 (x20 kn12 b) (fun g h => (z18 kn12 q) (t18 b a g h)) b a g h) (by kernel_rfl) (by simp only [e20, ih] <;> rfl)
theorem e18 (kn12 : K_) (b : Int) : x18 kn12 b = Alv (fun a f => kn12 (t12 b a f)) b := by funext a g h; exact Eq.trans (by kernel_rfl) ((i18 kn12 b a Bn g h).trans (by rw [Ak]; rfl))
theorem e17 (kn12 : K_) (b : Int) : x17 kn12 b = Ag3 (fun a f => kn12 (t12 b a f)) b := Eq.trans (b := Amq (x18 kn12 b) b) (by kernel_rfl) (by simp only [e18] <;> rfl)
theorem i12 (b : Int) : ∀ (q : Nat) (a : Int) (f : LX), z12 q (t12 b a f) = Sj b q a f :=
 ind (fun _ _ => by kernel_rfl) fun q ih a f => Eq.trans (b := Am0 (x17 (z12 q) b) x22 b a f) (by kernel_rfl) (by simp only [e17, e22, ih] <;> rfl)
theorem e12 : x12 = Amk := by funext b a f; exact Eq.trans (by kernel_rfl) ((i12 b Bn a f).trans (by rw [Ak]; rfl))
noncomputable def F := u2 Asu
theorem rn x : H.u P_ x = F x := Eq.trans (b := u2 (Ao0 x12) x) (by kernel_rfl) (by simp only [e12] <;> rfl)
noncomputable def c : Con := ⟨H.p, H.r, F⟩
theorem ok : ConOk P_ gl 161 c := cr H func161 (.cons F230.ok (.cons F231.ok .nil)) (AnsOk.cons ent232 AnsOk.nil) rn
end F161
namespace F101
def Xa (j16 : Int → Int32 → Int → (List (Int × Int32 × (Int × LX × LX × Unit) × Unit)) → LX → Int → Int32 → Int → LX → LX → Option (LX × Int)) (j18 : Int → Int → LX → Option (LX × Int)) (f : LU) (a b g : Int) (h : List (Int × Int32 × (Int × LX × LX × Unit) × Unit)) (k : LX) : Option (LX × Int) :=
if (Cj g (Ac f)) then
(Aj f g).bind fun ag =>
(Oz (Bm a 0)).bind fun _ =>
(Aj h (Il g a)).bind fun _ =>
both (
(Aj h (Il g a)).bind fun m =>
both (
(Xk ag).bind fun ae =>
(fun ao : Option (LX × Int) =>
bo (
ao)) (
(Jr m.1 m.2.1 m.2.2.1.1 m.2.2.1.2.1 m.2.2.1.2.2.1 ae).bind fun (w, y, v, aa, ab, ac, u) =>
j16 g w u h k y v aa ab ac)) [
(Xk ag).bind fun ae =>
(Jr m.1 m.2.1 m.2.2.1.1 m.2.2.1.2.1 m.2.2.1.2.2.1 ae).bind fun (w, y, v, aa, ab, ac, u) =>
j16 g w u h k y v aa ab ac]) [
(Xk ag).bind fun af =>
both (
(Aj h (Il g a)).bind fun ad =>
(fun ap : Option (LX × Int) =>
bo (
ap)) (
(Jr ad.1 ad.2.1 ad.2.2.1.1 ad.2.2.1.2.1 ad.2.2.1.2.2.1 af).bind fun (w, y, v, aa, ab, ac, u) =>
j16 g w u h k y v aa ab ac)) [
(Aj h (Il g a)).bind fun ad =>
(Jr ad.1 ad.2.1 ad.2.2.1.1 ad.2.2.1.2.1 ad.2.2.1.2.2.1 af).bind fun (w, y, v, aa, ab, ac, u) =>
j16 g w u h k y v aa ab ac],
both (
(Aj h (Il g a)).bind fun m =>
(Xk ag).bind fun ae =>
(Jr m.1 m.2.1 m.2.2.1.1 m.2.2.1.2.1 m.2.2.1.2.2.1 ae).bind fun (w, y, v, aa, ab, ac, u) =>
j16 g w u h k y v aa ab ac) [
(Xk ag).bind fun af =>
(Aj h (Il g a)).bind fun ad =>
(Jr ad.1 ad.2.1 ad.2.2.1.1 ad.2.2.1.2.1 ad.2.2.1.2.2.1 af).bind fun (w, y, v, aa, ab, ac, u) =>
j16 g w u h k y v aa ab ac]]
else
j18 a b k
theorem Alr : @Xa = @Jz := by
  unfold Xa Jz
  try simp only [Anp, Af4, Af8]
  all_goals
    repeat (refine funext fun _ => ?_)
    repeat' first
      | with_reducible rfl
      | with_reducible refine Hz ?_ ?_
      | with_reducible refine Hy ?_ ?_ ?_
      | with_reducible refine Ic ?_ ?_ ?_ ?_
      | ((with_reducible refine Lz ?_ ?_); focus (intro h; first | (subst h; rfl) | (simp only [h]; rfl) | (simp [Fz, Ac, h]; done)))
      | with_reducible refine Lu fun x => ?_
      | with_reducible refine Ue (fun _ => ?_) (fun _ => ?_)
      | (refine Dn (fun h => by simp only [h, Me, Cg, Cb, ite_self]) (fun x h => ?_); (try simp only [h, Cg]))
      | (refine Fm (fun h => ?_) (fun h => ?_) <;> simp only [h, if_true, if_false, Bool.false_eq_true])
abbrev R_ := (LX × Int)
abbrev K_ := S → Option R_
noncomputable def H : Hd := ⟨[.agg [Si, Si], .lf (.vec 16 (.int .i32)) none, Sv], [Ow 21, Si], (.seq .d (.seq .d (.cut [2, 3, 8] [] (.seq .d (.blk (.loop [2, 3, 4, 8, 20] [] .d))) (.seq .d (.cut [3, 10] [] (.seq .d (.blk (.loop [3, 8, 10, 33, 34, 35] [⟨10, [], .own 21 (.int .i32)⟩] (.seq .d (.seq .d (.seq (.blk (.seq .d (.seq .d (.cut [3, 8, 10, 13, 14, 15, 16, 33, 34, 35] [] (.mode false) .d)))) .d)))))) .d))))), ⟨[(158, F158.c), (159, F159.c), (160, F160.c), (161, F161.c), (162, F162.c)], gl, false⟩, [], f101⟩
def t13 (f : LU) (a b g : Int) (h : List (Int × Int32 × (Int × LX × LX × Unit) × Unit)) (k : LX) : S := ⟨[(3, .ptr 0 []), (8, .ptr 1 []), (10, .own 2), (33, vv f), (34, vi (Ac f)), (35, vi g)], [.box 64 (.agg [vi a, vi b]), .box 220 (.val (.vec 6 (.cons (.int .i64) (.cons (.int .i32) (.cons (.cons (.int .i64) (.cons (.vec 16 (.int .i32)) (.cons (.vec 16 (.int .i32)) .nil))) .nil)))) h), Aw 21 k], []⟩
def z13 : Nat → S → Option R_ := H.i P_ [r,r,r,r,l,r,d]
def t10 (f : LU) (a b : Int) (o : LX) (p : Int) (n : List (Int × Int32 × (Int × LX × LX × Unit) × Unit)) : S := ⟨[(2, vv f), (3, .ptr 0 []), (4, .ptr 1 []), (8, .ptr 2 []), (20, vi p)], [.box 64 (.agg [vi a, vi b]), .box 95 (.val (.vec 16 (.int .i32)) o), .box 220 (.val (.vec 6 (.cons (.int .i64) (.cons (.int .i32) (.cons (.cons (.int .i64) (.cons (.vec 16 (.int .i32)) (.cons (.vec 16 (.int .i32)) .nil))) .nil)))) n)], []⟩
def z10 : Nat → S → Option R_ := H.i P_ [r,r,l,r,d]
def x18 (a b : Int) (k : LX) : Option R_ := H.e P_ [r,r,r,r,r] ⟨[(3, .ptr 0 []), (10, .own 1)], [.box 64 (.agg [vi a, vi b]), Aw 21 k], []⟩
def x16 (kn13 : K_) (a : Int) (f : LU) (b g : Int) (w : Int32) (u : Int) (h : List (Int × Int32 × (Int × LX × LX × Unit) × Unit)) (k : LX) (y : Int) (v : Int32) (aa : Int) (ab ac : LX) : Option R_ := H.e P_ [r,r,r,r,l,r,d,(lp kn13),r,r,l,d,r,r,r] ⟨[(3, .ptr 0 []), (8, .ptr 1 []), (10, .own 2), (13, .ptr 1 [.idx (Il g a) 35]), (14, vx w), (15, .ptr 3 []), (16, vi u), (33, vv f), (34, vi (Ac f)), (35, vi g)], [.box 64 (.agg [vi a, vi b]), .box 220 (.val (.vec 6 (.cons (.int .i64) (.cons (.int .i32) (.cons (.cons (.int .i64) (.cons (.vec 16 (.int .i32)) (.cons (.vec 16 (.int .i32)) .nil))) .nil)))) h), Aw 21 k, .box 219 (.agg [vi y, vx v, .agg [vi aa, .val (.vec 16 (.int .i32)) ab, .val (.vec 16 (.int .i32)) ac]])], []⟩
def x13 (f : LU) (a b g : Int) (h : List (Int × Int32 × (Int × LX × LX × Unit) × Unit)) (k : LX) : Option R_ := H.e P_ [r,r,r,r,l,r,d] (t13 f a b g h k)
def x12 (f : LU) (a b : Int) (n : List (Int × Int32 × (Int × LX × LX × Unit) × Unit)) : Option R_ := H.e P_ [r,r,r] ⟨[(2, vv f), (3, .ptr 0 []), (8, .ptr 1 [])], [.box 64 (.agg [vi a, vi b]), .box 220 (.val (.vec 6 (.cons (.int .i64) (.cons (.int .i32) (.cons (.cons (.int .i64) (.cons (.vec 16 (.int .i32)) (.cons (.vec 16 (.int .i32)) .nil))) .nil)))) n)], []⟩
def x10 (f : LU) (a b : Int) (o : LX) (p : Int) (n : List (Int × Int32 × (Int × LX × LX × Unit) × Unit)) : Option R_ := H.e P_ [r,r,l,r,d] (t10 f a b o p n)
theorem e18 : x18 = Kc := by kernel_rfl
theorem e16 (kn13 : K_) (f : LU) (a b : Int) : x16 kn13 a f b = Yv (fun g h k => kn13 (t13 f a b g h k)) a f b := by kernel_rfl
theorem i13 (f : LU) (a b : Int) : ∀ (q : Nat) (g : Int) (h : List (Int × Int32 × (Int × LX × LX × Unit) × Unit)) (k : LX), z13 q (t13 f a b g h k) = Ho f a b q g h k :=
 ind (fun _ _ _ => by kernel_rfl) fun q ih g h k => Eq.trans (b := Xa (x16 (z13 q) a f b) x18 f a b g h k) (by kernel_rfl) (by rw [Alr]; simp only [e16, e18, ih] <;> rfl)
theorem e13 : x13 = Agu := by funext f a b g h k; exact Eq.trans (by kernel_rfl) ((i13 f a b Bn g h k).trans (by rw [Ak]; rfl))
theorem e12 : x12 = Yi := Eq.trans (b := Ags x13) (by kernel_rfl) (by simp only [e13] <;> rfl)
theorem i10 (f : LU) (a b : Int) (o : LX) : ∀ (q : Nat) (p : Int) (n : List (Int × Int32 × (Int × LX × LX × Unit) × Unit)), z10 q (t10 f a b o p n) = Yk f a b o q p n :=
 ind (fun _ _ => by kernel_rfl) fun q ih p n => Eq.trans (b := Agr x12 (fun p n => (z10 q) (t10 f a b o p n)) f a b o p n) (by kernel_rfl) (by simp only [e12, ih] <;> rfl)
theorem e10 : x10 = Pj := by funext f a b o p n; exact Eq.trans (by kernel_rfl) ((i10 f a b o Bn p n).trans (by rw [Ak]; rfl))
noncomputable def F := u4 Tk
theorem rn x : H.u P_ x = F x := Eq.trans (b := u4 (Aaj x10) x) (by kernel_rfl) (by simp only [e10] <;> rfl)
noncomputable def c : Con := ⟨H.p, H.r, F⟩
theorem ok : ConOk P_ gl 101 c := co H func101 (.cons F158.ok (.cons F159.ok (.cons F160.ok (.cons F161.ok (.cons F162.ok .nil))))) rn
end F101
namespace F55
noncomputable def H : Hd := ⟨[.agg [Si, Si], .lf (.vec 16 (.int .i32)) none, Si, Sb], [Ow 21, Si], .d, ⟨[(96, F96.c), (97, F97.c), (98, F98.c), (99, F99.c), (100, F100.c), (101, F101.c)], gl, false⟩, [], f55⟩
noncomputable def F := u5 Ace
theorem rn x : H.u P_ x = F x := by kernel_rfl
noncomputable def c : Con := ⟨H.p, H.r, F⟩
theorem ok : ConOk P_ gl 55 c := co H func55 (.cons F96.ok (.cons F97.ok (.cons F98.ok (.cons F99.ok (.cons F100.ok (.cons F101.ok .nil)))))) rn
end F55
namespace F117
abbrev R_ := (LB × Int)
abbrev K_ := S → Option R_
noncomputable def H : Hd := ⟨[Si, Sw], [Ob 5, Si], (.seq .d (.seq .d (.seq .d (.cut [7] [] (.seq .d (.blk (.loop [0, 7, 17, 18, 19] [⟨7, [], .own 5 (.int .u8)⟩] (.seq .d (.seq .d (.cut [0, 7, 17, 18, 19] [] (.blk (.seq .d (.cut [0, 7, 9, 17, 18, 19] [] .d (.seq .d (.blk (.loop [0, 7, 9, 17, 18, 19, 28, 29] [] .d)))))) .d)))))) .d)))), ⟨[(162, F162.c)], gl, false⟩, [], f117⟩
def t26 (b : Int) (a : LX) (k : Int32) (f m : Int) (h : LB) : S := ⟨[(0, vi b), (7, .own 0), (9, vx k), (17, vw a), (18, vi (Ac a)), (19, vi f), (28, vi (Bq b (8 : Int))), (29, vi m)], [Ab 5 h], []⟩
def z26 (kn16 : K_) : Nat → S → Option R_ := H.i P_ [r,r,r,l,r,d,(lp kn16),r,r,l,d,r,r,r,d]
def t16 (b : Int) (a : LX) (f : Int) (g : LB) : S := ⟨[(0, vi b), (7, .own 0), (17, vw a), (18, vi (Ac a)), (19, vi f)], [Ab 5 g], []⟩
def z16 : Nat → S → Option R_ := H.i P_ [r,r,r,l,r,d]
def x30 (g : LB) : Option R_ := H.e P_ [r,r,r,r] ⟨[(7, .own 0)], [Ab 5 g], []⟩
def x28 (kn16 : K_) (b : Int) (a : LX) (f : Int) (h : LB) : Option R_ := H.e P_ [r,r,r,l,r,d,(lp kn16),r,r,r] ⟨[(0, vi b), (7, .own 0), (17, vw a), (18, vi (Ac a)), (19, vi f)], [Ab 5 h], []⟩
def x26 (kn16 : K_) (b : Int) (a : LX) (k : Int32) (f m : Int) (h : LB) : Option R_ := H.e P_ [r,r,r,l,r,d,(lp kn16),r,r,l,d,r,r,r,d] (t26 b a k f m h)
def x25 (kn16 : K_) (b : Int) (a : LX) (f : Int) (g : LB) (k : Int32) : Option R_ := H.e P_ [r,r,r,l,r,d,(lp kn16),r,r,l,d,r,r] ⟨[(0, vi b), (7, .own 0), (9, vx k), (17, vw a), (18, vi (Ac a)), (19, vi f)], [Ab 5 g], []⟩
def x16 (b : Int) (a : LX) (f : Int) (g : LB) : Option R_ := H.e P_ [r,r,r,l,r,d] (t16 b a f g)
theorem e30 : x30 = Anm := by kernel_rfl
theorem e28 (kn16 : K_) (b : Int) (a : LX) : x28 kn16 b a = Afv (fun f g => kn16 (t16 b a f g)) b a := by kernel_rfl
theorem i26 (kn16 : K_) (b : Int) (a : LX) (k : Int32) (f : Int) : ∀ (q : Nat) (m : Int) (h : LB), z26 kn16 q (t26 b a k f m h) = Hq (fun f g => kn16 (t16 b a f g)) b a k f q m h :=
 ind (fun _ _ => by kernel_rfl) fun q ih m h => Eq.trans (b := Zm (x28 kn16 b a) (fun m h => (z26 kn16 q) (t26 b a k f m h)) b a k f m h) (by kernel_rfl) (by simp only [e28, ih] <;> rfl)
theorem e26 (kn16 : K_) (b : Int) (a : LX) : x26 kn16 b a = Agh (fun f g => kn16 (t16 b a f g)) b a := by funext k f m h; exact Eq.trans (by kernel_rfl) ((i26 kn16 b a k f Bn m h).trans (by rw [Ak]; rfl))
theorem e25 (kn16 : K_) (b : Int) (a : LX) : x25 kn16 b a = Js (fun f g => kn16 (t16 b a f g)) b a := Eq.trans (b := Af6 (x26 kn16 b a) b a) (by kernel_rfl) (by simp only [e26] <;> rfl)
theorem i16 (b : Int) (a : LX) : ∀ (q : Nat) (f : Int) (g : LB), z16 q (t16 b a f g) = Ei b a q f g :=
 ind (fun _ _ => by kernel_rfl) fun q ih f g => Eq.trans (b := Zq (x25 (z16 q) b a) x30 b a f g) (by kernel_rfl) (by simp only [e25, e30, ih] <;> rfl)
theorem e16 : x16 = Anq := by funext b a f g; exact Eq.trans (by kernel_rfl) ((i16 b a Bn f g).trans (by rw [Ak]; rfl))
noncomputable def F := u2 Afu
theorem rn x : H.u P_ x = F x := Eq.trans (b := u2 (Ai2 x16) x) (by kernel_rfl) (by simp only [e16] <;> rfl)
noncomputable def c : Con := ⟨H.p, H.r, F⟩
theorem ok : ConOk P_ gl 117 c := co H func117 (.cons F162.ok .nil) rn
end F117
namespace F131
abbrev R_ := Int
noncomputable def H : Hd := ⟨[Sl, Si], [Si], (.seq .d (.cut [] [] (.seq .d (.blk (.loop [0, 1, 7, 8] [] .d))) .d)), ⟨[], gl, false⟩, [], f131⟩
def t4 (a : LI) (b f : Int) : S := ⟨[(0, vl a), (1, vi b), (7, vi (Ac a)), (8, vi f)], [], []⟩
def z4 : Nat → S → Option R_ := H.i P_ [r,l,r,d]
def x6 : Option R_ := H.e P_ [r,r] ⟨[], [], []⟩
def x4 (a : LI) (b f : Int) : Option R_ := H.e P_ [r,l,r,d] (t4 a b f)
theorem e6 : x6 = Ku := by kernel_rfl
theorem i4 (a : LI) (b : Int) : ∀ (q : Nat) (f : Int), z4 q (t4 a b f) = Bf a b q f :=
 ind (fun _ => by kernel_rfl) fun q ih f => Eq.trans (b := Cw x6 (fun f => (z4 q) (t4 a b f)) a b f) (by kernel_rfl) (by simp only [e6, ih] <;> rfl)
theorem e4 : x4 = Fw := by funext a b f; exact Eq.trans (by kernel_rfl) ((i4 a b Bn f).trans (by rw [Ak]; rfl))
noncomputable def F := u2 Gy
theorem rn x : H.u P_ x = F x := Eq.trans (b := u2 (Ft x4) x) (by kernel_rfl) (by simp only [e4] <;> rfl)
noncomputable def c : Con := ⟨H.p, H.r, F⟩
theorem ok : ConOk P_ gl 131 c := co H func131 .nil rn
end F131
namespace F79
noncomputable def H : Hd := ⟨[Sl, Si], [Sz], .d, ⟨[(131, F131.c)], gl, false⟩, [], f79⟩
noncomputable def F := u2 Fu
theorem rn x : H.u P_ x = F x := by kernel_rfl
noncomputable def c : Con := ⟨H.p, H.r, F⟩
theorem ok : ConOk P_ gl 79 c := co H func79 (.cons F131.ok .nil) rn
end F79
namespace F38
noncomputable def H : Hd := ⟨[Si], [Sz], .d, ⟨[(79, F79.c)], gl, false⟩, [], f38⟩
noncomputable def F := Oc
theorem rn x : H.u P_ x = F x := by kernel_rfl
noncomputable def c : Con := ⟨H.p, H.r, F⟩
theorem ok : ConOk P_ gl 38 c := co H func38 (.cons F79.ok .nil) rn
end F38
namespace F10
def Aah (j28 : Bool → Int → Option Int) (w ah : Int) (g a : LB) (k p o u v b : Int) (m : Bool) (n : Int) (ao : LX) (f : LI) (h : LB) : Option Int :=
if (Bm ah 0) then
(Aq ah).bind fun (br, bs) =>
j28 br bs
else
(Afu o ao).bind fun (bt, be) =>
if (Bm be 0) then
(Aq be).bind fun (bu, bv) =>
j28 bu bv
else
(Fz h bt).bind fun dv =>
(fun fa : Option Int =>
bo (
fa)) (
(Br a w (Ac a)).bind fun dw =>
j28 false 0)
theorem An5 : @Aah = @Vu := by
  unfold Aah Vu
  simp only [Anp, Af4, Af8]
def Acf (j13 : Bool → Int → Option Int) (j12 : LB → LB → Int → Int → Int → Int → Int → Int → Bool → Int → LI → LB → Option Int) (j25 : Bool → Int → Option Int) (j23 : LB → LB → Int → Int → Int → Int → Int → Int → Bool → Int → LI → LB → Option Int) (j24 : LB → LB → Int → Int → Int → Int → Int → Int → Bool → Int → LI → LB → Int → Option Int) (j28 : Bool → Int → Option Int) (j26 : Int → LB → LB → Int → Int → Int → Int → Int → Int → Bool → Int → LX → LI → LI → LB → Option Int) (j22 : Bool → Option Int) (j21 : Option Int) (aq ar : LB) (au av aw ax ay : Int) (az : LI) (ai : Int) (aj : LB) (ac : Bool) (y : Int) : Option Int :=
if (Cu (Ac aq) 64) then
some 8
else
if ((geq y 0) && (!ac)) then
(Aco aq ar au av aw ax ay az ai aj ac y).bind fun (g, a, k, p, o, u, v, f, b, h, m, n) =>
(Xl aq ar au av aw ax ay az ai aj ac y).bind fun bw =>
if bw then
if (geq k 0) then
(Rf a).bind fun (al, ba) =>
if (geq ba 24) then
j13 true 0
else
if (Bm ba 0) then
(Aq ba).bind fun (bx, bz) =>
j13 bx bz
else
(Br a al (Ac a)).bind fun da =>
(Xn da).bind fun an =>
if an then
j13 true 0
else
(Br a al (Ac a)).bind fun db =>
(Aau db).bind fun (ae, af, aa, ag, ab, bb) =>
if (geq bb 24) then
j13 true 0
else
if (Bm bb 0) then
(Aq bb).bind fun (dc, dd) =>
j13 dc dd
else
both (
(Br a (Ae al 22) (Ac a)).bind fun ak =>
(fun fb : Option Int =>
bo (
fb)) (
j12 g ak ae af aa ag ab b m n f h)) [
(Br a (Ae al 22) (Ac a)).bind fun ak =>
j12 g ak ae af aa ag ab b m n f h]
else
if (geq (Ac f) 0) then
if (geq k 2) then
if (Cj (Ac a) 8) then
j25 true 0
else
j23 g a k p o u v b m n f h
else
j24 g a k p o u v b m n f h 0
else
if (Cj b (Ac f)) then
(Aj f b).bind fun _ =>
(Aj f b).bind fun w =>
if (Cj (Ac a) w) then
j28 true 0
else
(Ahg g).bind fun (ap, am) =>
if (Bm am 0) then
(Aq am).bind fun (de, df) =>
j28 de df
else
(Eh k p o u v).bind fun (ad, dg) =>
if ((Bm dg 0) || (Nc b (Ac ad))) then
(Aq 8).bind fun (dh, di) =>
j28 dh di
else
j26 w g a k p o u v b m n ap ad f h
else
if (Cu (Ac a) 4000) then
(Aq 38).bind fun (dj, bf) =>
j22 ((dj == true) && ((geq bf 0) && true))
else
j21
else
j22 false
else
if ((geq (Ac ar) 0) && (geq (Ac az) 0)) then
if ((((geq au 0) && ((geq av 0) && ((geq aw 0) && ((geq ax 0) && ((geq ay 0) && true))))) && (geq ai 0)) && (gle (Ac aj) 12000)) then
if (geq y 0) then
j22 true
else
if (!ac) then
(Oc y).bind fun dk =>
j22 dk
else
j22 false
else
j22 false
else
if ((false && (geq ai 0)) && (gle (Ac aj) 12000)) then
if (geq y 0) then
j22 true
else
if (!ac) then
(Oc y).bind fun dl =>
j22 dl
else
j22 false
else
j22 false
theorem Aow : @Acf = @Xr := by
  unfold Acf Xr
  try simp only [Anp, Af4, Af8]
  all_goals
    repeat (refine funext fun _ => ?_)
    repeat' first
      | with_reducible rfl
      | with_reducible refine Hz ?_ ?_
      | with_reducible refine Hy ?_ ?_ ?_
      | with_reducible refine Ic ?_ ?_ ?_ ?_
      | ((with_reducible refine Lz ?_ ?_); focus (intro h; first | (subst h; rfl) | (simp only [h]; rfl) | (simp [Fz, Ac, h]; done)))
      | with_reducible refine Lu fun x => ?_
      | with_reducible refine Ue (fun _ => ?_) (fun _ => ?_)
      | (refine Dn (fun h => by simp only [h, Me, Cg, Cb, ite_self]) (fun x h => ?_); (try simp only [h, Cg]))
      | (refine Fm (fun h => ?_) (fun h => ?_) <;> simp only [h, if_true, if_false, Bool.false_eq_true])
abbrev R_ := Int
noncomputable def H : Hd := ⟨[.agg [Ss, Sb, .agg [Si, Si, Si, Si, Si], Sl, Si, Sb, Sz, Si]], [Si], (.seq .d (.seq .d (.seq .d (.cut [3] [] (.seq .d (.cond (.seq .d (.keep [3, 21, 22, 23, 24, 25] false)) .d)) .d)))), ⟨[(35, F35.c), (36, F36.c), (38, F38.c), (54, F54.c), (55, F55.c), (72, F72.c), (73, F73.c), (78, F78.c), (88, Akn), (89, F89.c), (92, F92.c), (93, F93.c), (117, F117.c), (129, F129.c), (130, F130.c)], gl, false⟩, [(37, (.seq .d (.cut [2] [] (.blk (.seq .d (.cond (.cut [2] [] (.keep [2, 11] true) .d) (.seq .d (.cond (.cut [2] [] (.keep [2, 20] true) .d) (.seq .d (.cond (.cut [2] [] (.keep [2, 33] true) .d) .d))))))) .d))), (75, (.seq .d (.seq .d (.seq .d (.seq .d (.seq .d (.cut [0, 2, 5] [] (.mode false) .d))))))), (76, (.seq .d (.seq .d (.cut [0, 2, 3] [⟨0, [1], .ro (.int .u8)⟩] (.seq .d (.cond (.seq .d (.cut [0, 2, 3] [⟨0, [1], .ro (.int .u8)⟩, ⟨9, [1], .ro (.int .u8)⟩, ⟨10, [1], .ro (.int .u8)⟩, ⟨15, [1], .ro (.int .u8)⟩, ⟨16, [1], .ro (.int .u8)⟩, ⟨18, [], .ro (.int .u8)⟩] .d (.cut [0, 2, 3, 4, 5] [] .d .d))) .d)) .d)))), (77, (.seq .d (.seq .d (.seq .d (.seq .d (.seq .d (.seq .d (.cut [0, 2, 3, 4, 6] [⟨0, [1], .ro (.int .u8)⟩, ⟨9, [1], .ro (.int .u8)⟩, ⟨10, [1], .ro (.int .u8)⟩, ⟨13, [1], .ro (.int .u8)⟩, ⟨14, [1], .ro (.int .u8)⟩, ⟨19, [1], .ro (.int .u8)⟩, ⟨20, [1], .ro (.int .u8)⟩, ⟨22, [], .ro (.int .u8)⟩, ⟨28, [1], .ro (.int .u8)⟩, ⟨29, [1], .ro (.int .u8)⟩, ⟨40, [1], .ro (.int .u8)⟩, ⟨41, [1], .ro (.int .u8)⟩] .d (.cut [0, 2, 3, 5, 7] [] .d (.seq .d (.seq .d (.seq .d (.seq .d (.seq (.mode false) .d))))))))))))))], f10⟩
def x22 (bi : Bool) : Option R_ := H.e P_ [r,r,r,r] ⟨[(3, vt bi)], [], []⟩
def x21 : Option R_ := H.e P_ [r,r,r,l,r,l,r,(dcall 3 37 3 #[true, true, true, true, true, true, true, true] #[true, true, true, true, true, false, false, false]),r,r] ⟨[(2, .ptr 0 [])], [.box 79 (.agg [vt false, vi 0])], [[(3, vt false), (21, .cst (.bool true)), (23, .agg [vt true, vi 0])]]⟩
def x13 (bj : Bool) (bk : Int) : Option R_ := H.e P_ [r,r,r,l,r,l,r,(dcall 3 37 3 #[true, true, true, true, true, true, true, true] #[true, true, true, true, true, false, false, false]),r,l,d,r,l,r] ⟨[(2, .ptr 0 [])], [.box 79 (.agg [vt bj, vi bk])], [[(3, vt false), (21, .cst (.bool true)), (23, .agg [vt true, vi 0])]]⟩
def x12 (g ak : LB) (ae af aa ag ab b : Int) (m : Bool) (n : Int) (f : LI) (h : LB) : Option R_ := H.e P_ [r,r,r,l,r,l,r,(dcall 3 37 3 #[true, true, true, true, true, true, true, true] #[true, true, true, true, true, false, false, false]),r,l,d,r,l,l,(call 1 75),r,r,r,r,r,r] ⟨[(0, .ptr 0 []), (2, .ptr 1 []), (5, .ptr 2 [])], [.box 28 (.agg [vs g, vb ak, .agg [vi ae, vi af, vi aa, vi ag, vi ab], .own 4, vi b, .own 5, vt m, vi n]), .box 79 (.agg [vt false, vi 0]), .box 24 (.agg [vi ae, vi af, vi aa, vi ag, vi ab]), .box 79 (.agg [vt false, vi 0]), Ai 3 f, Ab 5 h], [[(2, .ptr 3 [])], [(3, vt false), (21, .cst (.bool true)), (23, .agg [vt true, vi 0])]]⟩
def x25 (bl : Bool) (bm : Int) : Option R_ := H.e P_ [r,r,r,l,r,l,r,(dcall 3 37 3 #[true, true, true, true, true, true, true, true] #[true, true, true, true, true, false, false, false]),r,l,d,r,r,r,l,r] ⟨[(2, .ptr 0 [])], [.box 79 (.agg [vt bl, vi bm])], [[(3, vt false), (21, .cst (.bool true)), (23, .agg [vt true, vi 0])]]⟩
def x24 (g a : LB) (k p o u v b : Int) (m : Bool) (n : Int) (f : LI) (h : LB) (bg : Int) : Option R_ := H.e P_ [r,r,r,l,r,l,r,(dcall 3 37 3 #[true, true, true, true, true, true, true, true] #[true, true, true, true, true, false, false, false]),r,l,d,r,r,r,l,l,(call 1 76),r,r,r] ⟨[(0, .ptr 0 []), (2, .ptr 1 []), (3, vi bg)], [.box 28 (.agg [vs g, vb a, .agg [vi k, vi p, vi o, vi u, vi v], .own 3, vi b, .own 4, vt m, vi n]), .box 79 (.agg [vt false, vi 0]), .box 79 (.agg [vt false, vi 0]), Ai 3 f, Ab 5 h], [[(2, .ptr 2 [])], [(3, vt false), (21, .cst (.bool true)), (23, .agg [vt true, vi 0])]]⟩
def x15 (bd : Bool) (bc : Int) (g a : LB) (k p o u v b : Int) (m : Bool) (n : Int) (f : LI) (h : LB) : Option R_ := H.e P_ [r,r,r,l,r,l,r,(dcall 3 37 3 #[true, true, true, true, true, true, true, true] #[true, true, true, true, true, false, false, false]),r,l,d,r,r,r,l,l,(call 1 76),r,r,l,r,l,r,r,r] ⟨[(0, .ptr 0 []), (2, .ptr 1 []), (3, vi 8), (4, vt bd), (5, vi bc)], [.box 28 (.agg [vs g, vb a, .agg [vi k, vi p, vi o, vi u, vi v], .own 3, vi b, .own 4, vt m, vi n]), .box 79 (.agg [vt false, vi 0]), .box 79 (.agg [vt false, vi 0]), Ai 3 f, Ab 5 h], [[(2, .ptr 2 [])], [(3, vt false), (21, .cst (.bool true)), (23, .agg [vt true, vi 0])]]⟩
def x23 (g a : LB) (k p o u v b : Int) (m : Bool) (n : Int) (f : LI) (h : LB) : Option R_ := H.e P_ [r,r,r,l,r,l,r,(dcall 3 37 3 #[true, true, true, true, true, true, true, true] #[true, true, true, true, true, false, false, false]),r,l,d,r,r,r,l,l,(call 1 76),r,r,l,r,l,r,r] ⟨[(0, .ptr 0 []), (2, .ptr 1 []), (3, vi 8)], [.box 28 (.agg [vs g, vb a, .agg [vi k, vi p, vi o, vi u, vi v], .own 3, vi b, .own 4, vt m, vi n]), .box 79 (.agg [vt false, vi 0]), .box 79 (.agg [vt false, vi 0]), Ai 3 f, Ab 5 h], [[(2, .ptr 2 [])], [(3, vt false), (21, .cst (.bool true)), (23, .agg [vt true, vi 0])]]⟩
def x28 (bp : Bool) (bq : Int) : Option R_ := H.e P_ [r,r,r,l,r,l,r,(dcall 3 37 3 #[true, true, true, true, true, true, true, true] #[true, true, true, true, true, false, false, false]),r,l,d,r,r,r,r,r,l,r] ⟨[(2, .ptr 0 [])], [.box 79 (.agg [vt bp, vi bq])], [[(3, vt false), (21, .cst (.bool true)), (23, .agg [vt true, vi 0])]]⟩
def x27 (w ah : Int) (g a : LB) (k p o u v b : Int) (m : Bool) (n : Int) (ao : LX) (f : LI) (h : LB) : Option R_ := H.e P_ [r,r,r,l,r,l,r,(dcall 3 37 3 #[true, true, true, true, true, true, true, true] #[true, true, true, true, true, false, false, false]),r,l,d,r,r,r,r,r,l,l,(call 1 77),r,r,r,r,r,r,r,r] ⟨[(0, .ptr 0 []), (2, .ptr 1 []), (3, vi w), (5, vi ah), (7, .own 2)], [.box 28 (.agg [vs g, vb a, .agg [vi k, vi p, vi o, vi u, vi v], .own 4, vi b, .own 5, vt m, vi n]), .box 79 (.agg [vt false, vi 0]), Aw 21 ao, .box 79 (.agg [vt false, vi 0]), Ai 3 f, Ab 5 h], [[(2, .ptr 3 [])], [(3, vt false), (21, .cst (.bool true)), (23, .agg [vt true, vi 0])]]⟩
def x26 (w : Int) (g a : LB) (k p o u v b : Int) (m : Bool) (n : Int) (ap : LX) (ad f : LI) (h : LB) : Option R_ := H.e P_ [r,r,r,l,r,l,r,(dcall 3 37 3 #[true, true, true, true, true, true, true, true] #[true, true, true, true, true, false, false, false]),r,l,d,r,r,r,r,r,l,l,(call 1 77),r,r,r,r,r,r,r] ⟨[(0, .ptr 0 []), (2, .ptr 1 []), (3, vi w), (4, .ptr 2 []), (6, .own 3)], [.box 28 (.agg [vs g, vb a, .agg [vi k, vi p, vi o, vi u, vi v], .own 5, vi b, .own 6, vt m, vi n]), .box 79 (.agg [vt false, vi 0]), .box 95 (.val (.vec 16 (.int .i32)) ap), Ai 3 ad, .box 79 (.agg [vt false, vi 0]), Ai 3 f, Ab 5 h], [[(2, .ptr 4 [])], [(3, vt false), (21, .cst (.bool true)), (23, .agg [vt true, vi 0])]]⟩
theorem e22 : x22 = Bc := by kernel_rfl
theorem e21 : x21 = Uz := Eq.trans (b := Acr x22) (by kernel_rfl) (by simp only [e22] <;> rfl)
theorem e13 : x13 = Cv := Eq.trans (b := Aca x22) (by kernel_rfl) (by simp only [e22] <;> rfl)
theorem e12 : x12 = Vq := Eq.trans (b := Ab0 x13) (by kernel_rfl) (by simp only [e13] <;> rfl)
theorem e25 : x25 = Ha := Eq.trans (b := Acy x22) (by kernel_rfl) (by simp only [e22] <;> rfl)
theorem e24 : x24 = Gv := Eq.trans (b := Ach x25) (by kernel_rfl) (by simp only [e25] <;> rfl)
theorem e15 : x15 = Abl := Eq.trans (b := Ab7 x25 x24) (by kernel_rfl) (by simp only [e25, e24] <;> rfl)
theorem e23 : x23 = Vj := Eq.trans (b := Abm x15) (by kernel_rfl) (by simp only [e15] <;> rfl)
theorem e28 : x28 = Fa := Eq.trans (b := Aci x22) (by kernel_rfl) (by simp only [e22] <;> rfl)
theorem e27 : x27 = Acz := Eq.trans (b := Aah x28) (by kernel_rfl) (by rw [An5]; simp only [e28] <;> rfl)
theorem e26 : x26 = Vb := Eq.trans (b := Ab4 x27) (by kernel_rfl) (by simp only [e27] <;> rfl)
noncomputable def F := u12 Aeu
theorem rn x : H.u P_ x = F x := Eq.trans (b := u12 (Acf x13 x12 x25 x23 x24 x28 x26 x22 x21) x) (by kernel_rfl) (by unfold F; rw [Aow]; simp only [e13, e12, e25, e23, e24, e28, e26, e22, e21] <;> rfl)
noncomputable def c : Con := ⟨H.p, H.r, F⟩
theorem ok : ConOk P_ gl 10 c := cr H func10 (.cons F35.ok (.cons F36.ok (.cons F38.ok (.cons F54.ok (.cons F55.ok (.cons F72.ok (.cons F73.ok (.cons F78.ok (.cons Axr (.cons F89.ok (.cons F92.ok (.cons F93.ok (.cons F117.ok (.cons F129.ok (.cons F130.ok .nil))))))))))))))) (AnsOk.cons ent37 (AnsOk.cons ent75 (AnsOk.cons ent76 (AnsOk.cons ent77 AnsOk.nil)))) rn
end F10
namespace F31
noncomputable def H : Hd := ⟨[.agg [Ss, Sb, .agg [Si, Si, Si, Si, Si], Sl, Si, Sb, Sz, Si]], [Si, Si], .d, ⟨[(10, F10.c)], gl, false⟩, [], f31⟩
noncomputable def F := u12 Ah2
theorem rn x : H.u P_ x = F x := by kernel_rfl
noncomputable def c : Con := ⟨H.p, H.r, F⟩
theorem ok : ConOk P_ gl 31 c := co H func31 (.cons F10.ok .nil) rn
end F31
namespace F132
noncomputable def H : Hd := ⟨[.agg [Si, Si, Si, Si, Si]], [Sz], .d, ⟨[], gl, false⟩, [], f132⟩
noncomputable def F := u5 Ew
theorem rn x : H.u P_ x = F x := by kernel_rfl
noncomputable def c : Con := ⟨H.p, H.r, F⟩
theorem ok : ConOk P_ gl 132 c := co H func132 .nil rn
end F132
namespace F106
noncomputable def H : Hd := ⟨[Si], [Si], .d, ⟨[], gl, false⟩, [], f106⟩
noncomputable def F := Nd
theorem rn x : H.u P_ x = F x := by kernel_rfl
noncomputable def c : Con := ⟨H.p, H.r, F⟩
theorem ok : ConOk P_ gl 106 c := co H func106 .nil rn
end F106
namespace F60
abbrev R_ := LI
noncomputable def H : Hd := ⟨[Si, Si], [Ol 3], (.seq .d (.seq .d (.cut [5] [] (.seq .d (.blk (.loop [0, 5, 6] [⟨5, [], .own 3 (.int .i64)⟩] .d))) .d))), ⟨[(106, F106.c)], gl, false⟩, [], f60⟩
def t4 (b f : Int) (a : LI) : S := ⟨[(0, vi b), (5, .own 0), (6, vi f)], [Ai 3 a], []⟩
def z4 : Nat → S → Option R_ := H.i P_ [r,r,l,r,d]
def x6 (a : LI) : Option R_ := H.e P_ [r,r,r] ⟨[(5, .own 0)], [Ai 3 a], []⟩
def x4 (b f : Int) (a : LI) : Option R_ := H.e P_ [r,r,l,r,d] (t4 b f a)
theorem e6 : x6 = Hx := by kernel_rfl
theorem i4 (b : Int) : ∀ (q : Nat) (f : Int) (a : LI), z4 q (t4 b f a) = Cq b q f a :=
 ind (fun _ _ => by kernel_rfl) fun q ih f a => Eq.trans (b := Fk x6 (fun f a => (z4 q) (t4 b f a)) b f a) (by kernel_rfl) (by simp only [e6, ih] <;> rfl)
theorem e4 : x4 = Um := by funext b f a; exact Eq.trans (by kernel_rfl) ((i4 b Bn f a).trans (by rw [Ak]; rfl))
noncomputable def F := u2 If
theorem rn x : H.u P_ x = F x := Eq.trans (b := u2 (Ul x4) x) (by kernel_rfl) (by simp only [e4] <;> rfl)
noncomputable def c : Con := ⟨H.p, H.r, F⟩
theorem ok : ConOk P_ gl 60 c := co H func60 (.cons F106.ok .nil) rn
end F60
namespace F133
def Un (h a k f b : Int) : Option Bool :=
(fun m : Option Bool =>
(fun n : Option Bool =>
bo (
n)) (
(Oz (Bm a 0)).bind fun _ =>
bo (
m))) (
if (Cu b (Bq 4000 a)) then
some true
else
(If f b).bind fun g =>
some (Cu (Ac g) 1000))
theorem Aj3 : @Un = @Gu := by
  unfold Un Gu
  simp only [Anp, Af4, Af8]
noncomputable def H : Hd := ⟨[.agg [Si, Si, Si, Si, Si]], [Sz], (.seq .d (.seq (.mode false) .d)), ⟨[(60, F60.c)], gl, false⟩, [], f133⟩
noncomputable def F := u5 Gu
theorem rn x : H.u P_ x = F x := Eq.trans (b := u5 Un x) (by kernel_rfl) (by rw [Aj3]; rfl)
noncomputable def c : Con := ⟨H.p, H.r, F⟩
theorem ok : ConOk P_ gl 133 c := co H func133 (.cons F60.ok .nil) rn
end F133
namespace F80
noncomputable def H : Hd := ⟨[.agg [Si, Si, Si, Si, Si]], [Si], .d, ⟨[(132, F132.c), (133, F133.c)], gl, false⟩, [], f80⟩
noncomputable def F := u5 Ge
theorem rn x : H.u P_ x = F x := by kernel_rfl
noncomputable def c : Con := ⟨H.p, H.r, F⟩
theorem ok : ConOk P_ gl 80 c := co H func80 (.cons F132.ok (.cons F133.ok .nil)) rn
end F80
namespace F81
noncomputable def H : Hd := ⟨[.agg [Si, Si, Si, Si, Si], Ss], [Si], .d, ⟨[], gl, false⟩, [], f81⟩
noncomputable def F := u6 Ih
theorem rn x : H.u P_ x = F x := by kernel_rfl
noncomputable def c : Con := ⟨H.p, H.r, F⟩
theorem ok : ConOk P_ gl 81 c := co H func81 .nil rn
end F81
namespace F82
abbrev R_ := Int
abbrev K_ := S → Option R_
noncomputable def H : Hd := ⟨[Sl], [Si], (.seq .d (.seq .d (.seq .d (.cut [3] [] (.seq .d (.blk (.loop [0, 3, 4] [] (.seq .d (.seq (.blk (.cut [0, 3, 4] [] .d .d)) .d))))) .d)))), ⟨[], gl, false⟩, [], f82⟩
def t6 (a : LI) (b f : Int) : S := ⟨[(0, vl a), (3, vi b), (4, vi f)], [], []⟩
def z6 : Nat → S → Option R_ := H.i P_ [r,r,r,l,r,d]
def x10 (b : Int) : Option R_ := H.e P_ [r,r,r,r] ⟨[(3, vi b)], [], []⟩
def x8 (kn6 : K_) (a : LI) (b f : Int) : Option R_ := H.e P_ [r,r,r,l,r,d,(lp kn6),r,l,d,r] ⟨[(0, vl a), (3, vi b), (4, vi f)], [], []⟩
def x6 (a : LI) (b f : Int) : Option R_ := H.e P_ [r,r,r,l,r,d] (t6 a b f)
theorem e10 : x10 = Ro := by kernel_rfl
theorem e8 (kn6 : K_) (a : LI) : x8 kn6 a = Ut (fun b f => kn6 (t6 a b f)) a := by kernel_rfl
theorem i6 (a : LI) : ∀ (q : Nat) (b f : Int), z6 q (t6 a b f) = Fj a q b f :=
 ind (fun _ _ => by kernel_rfl) fun q ih b f => Eq.trans (b := Md (x8 (z6 q) a) x10 a b f) (by kernel_rfl) (by simp only [e8, e10, ih] <;> rfl)
theorem e6 : x6 = Ux := by funext a b f; exact Eq.trans (by kernel_rfl) ((i6 a Bn b f).trans (by rw [Ak]; rfl))
noncomputable def F := Ec
theorem rn x : H.u P_ x = F x := Eq.trans (b := Lr x6 x) (by kernel_rfl) (by simp only [e6] <;> rfl)
noncomputable def c : Con := ⟨H.p, H.r, F⟩
theorem ok : ConOk P_ gl 82 c := co H func82 .nil rn
end F82
namespace F83
noncomputable def H : Hd := ⟨[.agg [Si, Si, Si, Si, Si]], [Ol 3], .d, ⟨[(60, F60.c)], gl, false⟩, [], f83⟩
noncomputable def F := u5 Cy
theorem rn x : H.u P_ x = F x := by kernel_rfl
noncomputable def c : Con := ⟨H.p, H.r, F⟩
theorem ok : ConOk P_ gl 83 c := co H func83 (.cons F60.ok .nil) rn
end F83
namespace F135
noncomputable def H : Hd := ⟨[.agg [Si, Si, Si, Si, Si]], [.agg [Si, Si]], .d, ⟨[], gl, false⟩, [], f135⟩
noncomputable def F := u5 Ld
theorem rn x : H.u P_ x = F x := by kernel_rfl
noncomputable def c : Con := ⟨H.p, H.r, F⟩
theorem ok : ConOk P_ gl 135 c := co H func135 .nil rn
end F135
namespace F84
abbrev R_ := Int
noncomputable def H : Hd := ⟨[.agg [Si, Si, Si, Si, Si], Si], [Si], (.seq .d (.seq .d (.seq .d (.cut [2, 6] [] (.seq .d (.blk (.loop [1, 2, 5, 6, 7] [] .d))) .d)))), ⟨[(83, F83.c), (134, F134.c), (135, F135.c)], gl, false⟩, [], f84⟩
def t4 (n a b f g h : Int) (m : LI) (k o : Int) : S := ⟨[(1, vi n), (2, .ptr 0 []), (5, .own 1), (6, vi k), (7, vi o)], [.box 24 (.agg [vi a, vi b, vi f, vi g, vi h]), Ai 3 m], []⟩
def z4 : Nat → S → Option R_ := H.i P_ [r,r,r,l,r,d]
def x6 (k a b f g h : Int) : Option R_ := H.e P_ [r,r,r,r] ⟨[(2, .ptr 0 []), (6, vi k)], [.box 24 (.agg [vi a, vi b, vi f, vi g, vi h])], []⟩
def x4 (n a b f g h : Int) (m : LI) (k o : Int) : Option R_ := H.e P_ [r,r,r,l,r,d] (t4 n a b f g h m k o)
theorem e6 : x6 = Wk := by kernel_rfl
theorem i4 (n a b f g h : Int) (m : LI) : ∀ (q : Nat) (k o : Int), z4 q (t4 n a b f g h m k o) = Gg n a b f g h m q k o :=
 ind (fun _ _ => by kernel_rfl) fun q ih k o => Eq.trans (b := Nu x6 (fun k o => (z4 q) (t4 n a b f g h m k o)) n a b f g h m k o) (by kernel_rfl) (by simp only [e6, ih] <;> rfl)
theorem e4 : x4 = Aft := by funext n a b f g h m k o; exact Eq.trans (by kernel_rfl) ((i4 n a b f g h m Bn k o).trans (by rw [Ak]; rfl))
noncomputable def F := u6 Nw
theorem rn x : H.u P_ x = F x := Eq.trans (b := u6 (Wj x4) x) (by kernel_rfl) (by simp only [e4] <;> rfl)
noncomputable def c : Con := ⟨H.p, H.r, F⟩
theorem ok : ConOk P_ gl 84 c := co H func84 (.cons F83.ok (.cons F134.ok (.cons F135.ok .nil))) rn
end F84
namespace F262
abbrev R_ := (Int × Int)
noncomputable def H : Hd := ⟨[Sb], [Si, Si], (.seq .d (.seq .d (.seq .d (.cut [4] [] (.seq .d (.blk (.loop [0, 4, 5] [] .d))) .d)))), ⟨[], gl, false⟩, [], f262⟩
def t4 (b : LB) (a f : Int) : S := ⟨[(0, vb b), (4, vi a), (5, vi f)], [], []⟩
def z4 : Nat → S → Option R_ := H.i P_ [r,r,r,l,r,d]
def x6 (a : Int) : Option R_ := H.e P_ [r,r,r,r] ⟨[(4, vi a)], [], []⟩
def x4 (b : LB) (a f : Int) : Option R_ := H.e P_ [r,r,r,l,r,d] (t4 b a f)
theorem e6 : x6 = Adh := by kernel_rfl
theorem i4 (b : LB) : ∀ (q : Nat) (a f : Int), z4 q (t4 b a f) = Fl b q a f :=
 ind (fun _ _ => by kernel_rfl) fun q ih a f => Eq.trans (b := Mb x6 (fun a f => (z4 q) (t4 b a f)) b a f) (by kernel_rfl) (by simp only [e6, ih] <;> rfl)
theorem e4 : x4 = Up := by funext b a f; exact Eq.trans (by kernel_rfl) ((i4 b Bn a f).trans (by rw [Ak]; rfl))
noncomputable def F := Td
theorem rn x : H.u P_ x = F x := Eq.trans (b := Uu x4 x) (by kernel_rfl) (by simp only [e4] <;> rfl)
noncomputable def c : Con := ⟨H.p, H.r, F⟩
theorem ok : ConOk P_ gl 262 c := co H func262 .nil rn
end F262
namespace F216
abbrev R_ := (Int × Int)
noncomputable def H : Hd := ⟨[Sb], [Si, Si], (.seq .d (.cut [0] [] .d (.seq .d (.seq .d (.cut [0, 4] [] .d (.seq .d (.cut [0, 6] [] .d .d))))))), ⟨[(262, F262.c)], gl, false⟩, [], f216⟩
def x6 (a : LB) (g : Int) : Option R_ := H.e P_ [r,r,r,r,r,r,r] ⟨[(0, vb a), (6, vi g)], [], []⟩
def x5 (a : LB) (b : Int) : Option R_ := H.e P_ [r,r,r,r,r] ⟨[(0, vb a), (4, vi b)], [], []⟩
def x4 (a : LB) : Option R_ := H.e P_ [r,r] ⟨[(0, vb a)], [], []⟩
theorem e6 : x6 = My := by kernel_rfl
theorem e5 : x5 = Nb := Eq.trans (b := Wi x6) (by kernel_rfl) (by simp only [e6] <;> rfl)
theorem e4 : x4 = Wb := Eq.trans (b := Wr x5) (by kernel_rfl) (by simp only [e5] <;> rfl)
noncomputable def F := Vv
theorem rn x : H.u P_ x = F x := Eq.trans (b := Xf x4 x) (by kernel_rfl) (by simp only [e4] <;> rfl)
noncomputable def c : Con := ⟨H.p, H.r, F⟩
theorem ok : ConOk P_ gl 216 c := co H func216 (.cons F262.ok .nil) rn
end F216
namespace F145
abbrev R_ := UInt64
noncomputable def H : Hd := ⟨[Sb], [Sq], (.seq .d (.seq .d (.cut [3] [] (.seq .d (.blk (.loop [0, 3, 4] [] .d))) .d))), ⟨[], gl, false⟩, [], f145⟩
def t4 (b : LB) (a : UInt64) (f : Int) : S := ⟨[(0, vb b), (3, vq a), (4, vi f)], [], []⟩
def z4 : Nat → S → Option R_ := H.i P_ [r,r,l,r,d]
def x6 (a : UInt64) : Option R_ := H.e P_ [r,r,r] ⟨[(3, vq a)], [], []⟩
def x4 (b : LB) (a : UInt64) (f : Int) : Option R_ := H.e P_ [r,r,l,r,d] (t4 b a f)
theorem e6 : x6 = Aaf := by kernel_rfl
theorem i4 (b : LB) : ∀ (q : Nat) (a : UInt64) (f : Int), z4 q (t4 b a f) = Ij b q a f :=
 ind (fun _ _ => by kernel_rfl) fun q ih a f => Eq.trans (b := Sa x6 (fun a f => (z4 q) (t4 b a f)) b a f) (by kernel_rfl) (by simp only [e6, ih] <;> rfl)
theorem e4 : x4 = Aak := by funext b a f; exact Eq.trans (by kernel_rfl) ((i4 b Bn a f).trans (by rw [Ak]; rfl))
noncomputable def F := Ah
theorem rn x : H.u P_ x = F x := Eq.trans (b := Aag x4 x) (by kernel_rfl) (by simp only [e4] <;> rfl)
noncomputable def c : Con := ⟨H.p, H.r, F⟩
theorem ok : ConOk P_ gl 145 c := co H func145 .nil rn
end F145
namespace F181
noncomputable def H : Hd := ⟨[Sb], [Si, Si, Sz], .d, ⟨[(145, F145.c)], gl, false⟩, [], f181⟩
noncomputable def F := Vc
theorem rn x : H.u P_ x = F x := by kernel_rfl
noncomputable def c : Con := ⟨H.p, H.r, F⟩
theorem ok : ConOk P_ gl 181 c := co H func181 (.cons F145.ok .nil) rn
end F181
namespace F166
abbrev R_ := LB
noncomputable def H : Hd := ⟨[Sq, Si], [Ob 5], (.seq .d (.seq .d (.cut [5] [] (.seq .d (.blk (.loop [0, 1, 5, 6] [⟨5, [], .own 5 (.int .u8)⟩] .d))) .d))), ⟨[], gl, false⟩, [], f166⟩
def t4 (b : Int) (f : UInt64) (g : Int) (a : LB) : S := ⟨[(0, vq f), (1, vi b), (5, .own 0), (6, vi g)], [Ab 5 a], []⟩
def z4 : Nat → S → Option R_ := H.i P_ [r,r,l,r,d]
def x6 (a : LB) : Option R_ := H.e P_ [r,r,r] ⟨[(5, .own 0)], [Ab 5 a], []⟩
def x4 (b : Int) (f : UInt64) (g : Int) (a : LB) : Option R_ := H.e P_ [r,r,l,r,d] (t4 b f g a)
theorem e6 : x6 = Ql := by kernel_rfl
theorem i4 (b : Int) : ∀ (q : Nat) (f : UInt64) (g : Int) (a : LB), z4 q (t4 b f g a) = Dx b q f g a :=
 ind (fun _ _ _ => by kernel_rfl) fun q ih f g a => Eq.trans (b := Jb x6 (fun f g a => (z4 q) (t4 b f g a)) b f g a) (by kernel_rfl) (by simp only [e6, ih] <;> rfl)
theorem e4 : x4 = Qa := by funext b f g a; exact Eq.trans (by kernel_rfl) ((i4 b Bn f g a).trans (by rw [Ak]; rfl))
noncomputable def F := u2 Ck
theorem rn x : H.u P_ x = F x := Eq.trans (b := u2 (Qk x4) x) (by kernel_rfl) (by simp only [e4] <;> rfl)
noncomputable def c : Con := ⟨H.p, H.r, F⟩
theorem ok : ConOk P_ gl 166 c := co H func166 .nil rn
end F166
namespace F246
noncomputable def H : Hd := ⟨[Si, Si, Sq], [Ob 5], .d, ⟨[(166, F166.c)], gl, false⟩, [], f246⟩
noncomputable def F := u3 Kz
theorem rn x : H.u P_ x = F x := by kernel_rfl
noncomputable def c : Con := ⟨H.p, H.r, F⟩
theorem ok : ConOk P_ gl 246 c := co H func246 (.cons F166.ok .nil) rn
end F246
namespace F183
noncomputable def H : Hd := ⟨[Si, Si], [Ob 5], .d, ⟨[(246, F246.c)], gl, false⟩, [], f183⟩
noncomputable def F := u2 Abt
theorem rn x : H.u P_ x = F x := by kernel_rfl
noncomputable def c : Con := ⟨H.p, H.r, F⟩
theorem ok : ConOk P_ gl 183 c := co H func183 (.cons F246.ok .nil) rn
end F183
namespace F182
noncomputable def H : Hd := ⟨[Si, Si, Sz], [Ob 5], .d, ⟨[(246, F246.c)], gl, false⟩, [], f182⟩
noncomputable def F := u3 Ada
theorem rn x : H.u P_ x = F x := by kernel_rfl
noncomputable def c : Con := ⟨H.p, H.r, F⟩
theorem ok : ConOk P_ gl 182 c := co H func182 (.cons F246.ok .nil) rn
end F182
namespace F217
abbrev R_ := (Int × Int)
noncomputable def H : Hd := ⟨[Sb], [Si, Si], (.seq .d (.cut [0] [] .d (.seq .d (.seq .d (.cut [0, 4, 5] [] .d .d))))), ⟨[(181, F181.c), (182, F182.c), (183, F183.c)], gl, false⟩, [], f217⟩
def x4 (a : LB) (b f : Int) : Option R_ := H.e P_ [r,r,r,r,r] ⟨[(0, vb a), (4, vi b), (5, vi f)], [], []⟩
def x3 (a : LB) : Option R_ := H.e P_ [r,r] ⟨[(0, vb a)], [], []⟩
theorem e4 : x4 = Ug := by kernel_rfl
theorem e3 : x3 = Uf := Eq.trans (b := Uv x4) (by kernel_rfl) (by simp only [e4] <;> rfl)
noncomputable def F := Te
theorem rn x : H.u P_ x = F x := Eq.trans (b := Tt x3 x) (by kernel_rfl) (by simp only [e3] <;> rfl)
noncomputable def c : Con := ⟨H.p, H.r, F⟩
theorem ok : ConOk P_ gl 217 c := co H func217 (.cons F181.ok (.cons F182.ok (.cons F183.ok .nil))) rn
end F217
namespace F144
abbrev R_ := (LI × Int)
abbrev K_ := S → Option R_
noncomputable def H : Hd := ⟨[Sb], [Ol 3, Si], (.seq .d (.seq .d (.seq .d (.blk (.loop [0, 4, 5] [⟨4, [], .own 3 (.int .i64)⟩] (.blk (.seq .d (.cut [0, 4, 5, 6, 7] [] .d .d)))))))), ⟨[(216, F216.c), (217, F217.c)], gl, false⟩, [], f144⟩
def t6 (a : LB) (b : Int) (f : LI) : S := ⟨[(0, vb a), (4, .own 0), (5, vi b)], [Ai 3 f], []⟩
def z6 : Nat → S → Option R_ := H.i P_ [r,r,r,d]
def x9 (kn6 : K_) (a : LB) (b : Int) (f : LI) (g h : Int) : Option R_ := H.e P_ [r,r,r,d,(lp kn6),d,r,r] ⟨[(0, vb a), (4, .own 0), (5, vi b), (6, vi g), (7, vi h)], [Ai 3 f], []⟩
def x6 (a : LB) (b : Int) (f : LI) : Option R_ := H.e P_ [r,r,r,d] (t6 a b f)
theorem e9 (kn6 : K_) (a : LB) : x9 kn6 a = Ib (fun b f => kn6 (t6 a b f)) a := by kernel_rfl
theorem i6 (a : LB) : ∀ (q : Nat) (b : Int) (f : LI), z6 q (t6 a b f) = Ie a q b f :=
 ind (fun _ _ => by kernel_rfl) fun q ih b f => Eq.trans (b := Mg (x9 (z6 q) a) a b f) (by kernel_rfl) (by simp only [e9, ih] <;> rfl)
theorem e6 : x6 = Ads := by funext a b f; exact Eq.trans (by kernel_rfl) ((i6 a Bn b f).trans (by rw [Ak]; rfl))
noncomputable def F := Aam
theorem rn x : H.u P_ x = F x := Eq.trans (b := Adm x6 x) (by kernel_rfl) (by simp only [e6] <;> rfl)
noncomputable def c : Con := ⟨H.p, H.r, F⟩
theorem ok : ConOk P_ gl 144 c := co H func144 (.cons F216.ok (.cons F217.ok .nil)) rn
end F144
namespace F90
abbrev R_ := (Int × Int)
noncomputable def H : Hd := ⟨[Sb], [Si, Si], (.seq .d (.seq .d (.seq .d (.cut [5, 6] [] (.seq .d (.blk (.loop [4, 5, 6, 7] [] .d))) .d)))), ⟨[(144, F144.c)], gl, false⟩, [], f90⟩
def t4 (a : Int) (f : LI) (b g : Int) : S := ⟨[(4, .own 0), (5, vi a), (6, vi b), (7, vi g)], [Ai 3 f], []⟩
def z4 : Nat → S → Option R_ := H.i P_ [r,r,r,l,r,d]
def x6 (a b : Int) : Option R_ := H.e P_ [r,r,r,r] ⟨[(5, vi a), (6, vi b)], [], []⟩
def x4 (a : Int) (f : LI) (b g : Int) : Option R_ := H.e P_ [r,r,r,l,r,d] (t4 a f b g)
theorem e6 : x6 = Uc := by kernel_rfl
theorem i4 (a : Int) (f : LI) : ∀ (q : Nat) (b g : Int), z4 q (t4 a f b g) = Fo a f q b g :=
 ind (fun _ _ => by kernel_rfl) fun q ih b g => Eq.trans (b := Ls x6 (fun b g => (z4 q) (t4 a f b g)) a f b g) (by kernel_rfl) (by simp only [e6, ih] <;> rfl)
theorem e4 : x4 = Ly := by funext a f b g; exact Eq.trans (by kernel_rfl) ((i4 a f Bn b g).trans (by rw [Ak]; rfl))
noncomputable def F := Sg
theorem rn x : H.u P_ x = F x := Eq.trans (b := Us x4 x) (by kernel_rfl) (by simp only [e4] <;> rfl)
noncomputable def c : Con := ⟨H.p, H.r, F⟩
theorem ok : ConOk P_ gl 90 c := co H func90 (.cons F144.ok .nil) rn
end F90
namespace F136
noncomputable def H : Hd := ⟨[Sb, Ss], [Sz], .d, ⟨[], gl, false⟩, [], f136⟩
noncomputable def F := u2 Jw
theorem rn x : H.u P_ x = F x := by kernel_rfl
noncomputable def c : Con := ⟨H.p, H.r, F⟩
theorem ok : ConOk P_ gl 136 c := co H func136 .nil rn
end F136
namespace F292
abbrev R_ := UInt32
noncomputable def H : Hd := ⟨[Su, Si], [Su], (.seq .d (.seq .d (.cut [0, 5] [] .d .d))), ⟨[], gl, false⟩, [], f292⟩
def x2 (a : UInt32) (b : Bool) : Option R_ := H.e P_ [r,r,r] ⟨[(0, vu a), (5, vt b)], [], []⟩
theorem e2 : x2 = Wc := by kernel_rfl
noncomputable def F := u2 Vl
theorem rn x : H.u P_ x = F x := Eq.trans (b := u2 (Vw x2) x) (by kernel_rfl) (by simp only [e2] <;> rfl)
noncomputable def c : Con := ⟨H.p, H.r, F⟩
theorem ok : ConOk P_ gl 292 c := co H func292 .nil rn
end F292
namespace F263
abbrev R_ := UInt32
noncomputable def H : Hd := ⟨[Su, Sc], [Su], (.seq .d (.cut [0] [] (.seq .d (.blk (.loop [0, 1, 5] [] .d))) .d)), ⟨[(292, F292.c)], gl, false⟩, [], f263⟩
def t4 (a : UInt32) (b : UInt8) (f : Int) : S := ⟨[(0, vu a), (1, vc b), (5, vi f)], [], []⟩
def z4 : Nat → S → Option R_ := H.i P_ [r,l,r,d]
def x6 (a : UInt32) : Option R_ := H.e P_ [r,r] ⟨[(0, vu a)], [], []⟩
def x4 (a : UInt32) (b : UInt8) (f : Int) : Option R_ := H.e P_ [r,l,r,d] (t4 a b f)
theorem e6 : x6 = Wf := by kernel_rfl
theorem i4 : ∀ (q : Nat) (a : UInt32) (b : UInt8) (f : Int), z4 q (t4 a b f) = Gj q a b f :=
 ind (fun _ _ _ => by kernel_rfl) fun q ih a b f => Eq.trans (b := Nm x6 (fun a b f => (z4 q) (t4 a b f)) a b f) (by kernel_rfl) (by simp only [e6, ih] <;> rfl)
theorem e4 : x4 = Afj := by funext a b f; exact Eq.trans (by kernel_rfl) ((i4 Bn a b f).trans (by rw [Ak]; rfl))
noncomputable def F := u2 Acq
theorem rn x : H.u P_ x = F x := Eq.trans (b := u2 (Afg x4) x) (by kernel_rfl) (by simp only [e4] <;> rfl)
noncomputable def c : Con := ⟨H.p, H.r, F⟩
theorem ok : ConOk P_ gl 263 c := co H func263 (.cons F292.ok .nil) rn
end F263
namespace F218
abbrev R_ := UInt32
noncomputable def H : Hd := ⟨[Su, Sb], [Su], (.seq .d (.cut [0] [] (.seq .d (.blk (.loop [0, 1, 5] [] .d))) .d)), ⟨[(263, F263.c)], gl, false⟩, [], f218⟩
def t4 (b : LB) (a : UInt32) (f : Int) : S := ⟨[(0, vu a), (1, vb b), (5, vi f)], [], []⟩
def z4 : Nat → S → Option R_ := H.i P_ [r,l,r,d]
def x6 (a : UInt32) : Option R_ := H.e P_ [r,r] ⟨[(0, vu a)], [], []⟩
def x4 (b : LB) (a : UInt32) (f : Int) : Option R_ := H.e P_ [r,l,r,d] (t4 b a f)
theorem e6 : x6 = So := by kernel_rfl
theorem i4 (b : LB) : ∀ (q : Nat) (a : UInt32) (f : Int), z4 q (t4 b a f) = Eo b q a f :=
 ind (fun _ _ => by kernel_rfl) fun q ih a f => Eq.trans (b := Kl x6 (fun a f => (z4 q) (t4 b a f)) b a f) (by kernel_rfl) (by simp only [e6, ih] <;> rfl)
theorem e4 : x4 = Tc := by funext b a f; exact Eq.trans (by kernel_rfl) ((i4 b Bn a f).trans (by rw [Ak]; rfl))
noncomputable def F := u2 Yg
theorem rn x : H.u P_ x = F x := Eq.trans (b := u2 (Sd x4) x) (by kernel_rfl) (by simp only [e4] <;> rfl)
noncomputable def c : Con := ⟨H.p, H.r, F⟩
theorem ok : ConOk P_ gl 218 c := co H func218 (.cons F263.ok .nil) rn
end F218
namespace F146
noncomputable def H : Hd := ⟨[Sb], [Su], .d, ⟨[(218, F218.c)], gl, false⟩, [], f146⟩
noncomputable def F := Mu
theorem rn x : H.u P_ x = F x := by kernel_rfl
noncomputable def c : Con := ⟨H.p, H.r, F⟩
theorem ok : ConOk P_ gl 146 c := co H func146 (.cons F218.ok .nil) rn
end F146
namespace F91
def Ts (j6 : UInt64 → UInt64 → UInt64 → UInt64 → UInt64 → Option (Int × Int × Int × Int × Int × Int)) (a : LB) : Option (Int × Int × Int × Int × Int × Int) :=
(Br a 4 6).bind fun u =>
(Br a 6 8).bind fun p =>
(Br a 8 10).bind fun o =>
(Br a 10 14).bind fun n =>
(Br a 14 18).bind fun m =>
both (
(Ah u).bind fun k =>
both (
(Ah p).bind fun h =>
both (
(Ah o).bind fun g =>
both (
(Ah n).bind fun f =>
both (
(Ah m).bind fun b =>
bo (
j6 k h g f b)) [
(Ah m).bind fun b =>
j6 k h g f b]) [
(Ah n).bind fun f =>
(Ah m).bind fun b =>
j6 k h g f b]) [
(Ah o).bind fun g =>
(Ah n).bind fun f =>
(Ah m).bind fun b =>
j6 k h g f b]) [
(Ah p).bind fun h =>
(Ah o).bind fun g =>
(Ah n).bind fun f =>
(Ah m).bind fun b =>
j6 k h g f b]) [
(Ah u).bind fun k =>
(Ah p).bind fun h =>
(Ah o).bind fun g =>
(Ah n).bind fun f =>
(Ah m).bind fun b =>
j6 k h g f b]
theorem Akf : @Ts = @Nn := by
  unfold Ts Nn
  repeat (refine funext fun _ => ?_)
  repeat' first
    | with_reducible rfl
    | with_reducible refine Hz ?_ ?_
    | with_reducible refine Hy ?_ ?_ ?_
    | with_reducible refine Ic ?_ ?_ ?_ ?_
    | ((with_reducible refine Lz ?_ ?_); focus (intro h; first | (subst h; rfl) | (simp only [h]; rfl) | (simp [Fz, Ac, h]; done)))
    | with_reducible refine Lu fun x => ?_
    | with_reducible refine Ue (fun _ => ?_) (fun _ => ?_)
    | (refine Dn (fun h => by simp only [h, Me, Cg, Cb, ite_self]) (fun x h => ?_); (try simp only [h, Cg]))
    | (refine Fm (fun h => ?_) (fun h => ?_) <;> simp only [h, if_true, if_false, Bool.false_eq_true])
abbrev R_ := (Int × Int × Int × Int × Int × Int)
noncomputable def H : Hd := ⟨[Sb], [.agg [Si, Si, Si, Si, Si], Si], (.seq .d (.seq .d (.cut [0, 2] [] .d (.seq .d (.cut [0, 2] [] .d (.cut [2, 5] [] .d .d)))))), ⟨[(132, F132.c), (133, F133.c), (145, F145.c), (146, F146.c)], gl, false⟩, [], f91⟩
def x6 (k h g f b : UInt64) : Option R_ := H.e P_ [r,r,r,r,r,r] ⟨[(2, .ptr 0 []), (5, .ptr 1 [])], [.box 24 (.agg [vi 0, vi 0, vi 0, vi 0, vi 0]), .box 24 (.agg [vi (Ad k : Int), vi (Ad h : Int), vi (Ad g : Int), vi (Ad f : Int), vi (Ad b : Int)])], []⟩
def x5 (a : LB) : Option R_ := H.e P_ [r,r,r,r,r] ⟨[(0, vb a), (2, .ptr 0 [])], [.box 24 (.agg [vi 0, vi 0, vi 0, vi 0, vi 0])], []⟩
def x4 (a : LB) : Option R_ := H.e P_ [r,r,r] ⟨[(0, vb a), (2, .ptr 0 [])], [.box 24 (.agg [vi 0, vi 0, vi 0, vi 0, vi 0])], []⟩
theorem e6 : x6 = Wm := by kernel_rfl
theorem e5 : x5 = Xd := Eq.trans (b := Ts x6) (by kernel_rfl) (by rw [Akf]; simp only [e6] <;> rfl)
theorem e4 : x4 = We := Eq.trans (b := Wa x5) (by kernel_rfl) (by simp only [e5] <;> rfl)
noncomputable def F := Vt
theorem rn x : H.u P_ x = F x := Eq.trans (b := Xh x4 x) (by kernel_rfl) (by simp only [e4] <;> rfl)
noncomputable def c : Con := ⟨H.p, H.r, F⟩
theorem ok : ConOk P_ gl 91 c := co H func91 (.cons F132.ok (.cons F133.ok (.cons F145.ok (.cons F146.ok .nil)))) rn
end F91
namespace F85
abbrev R_ := (Int × Int × Int × Int × Int × Int × Int)
noncomputable def H : Hd := ⟨[Sb], [Si, .agg [Si, Si, Si, Si, Si], Si], (.seq .d (.seq .d (.seq .d (.seq .d (.seq .d (.cut [3, 5, 7] [] .d (.seq .d (.seq .d (.seq (.mode false) .d))))))))), ⟨[(90, F90.c), (91, F91.c), (136, F136.c)], gl, false⟩, [], f85⟩
def x2 (b : Int) (a : LB) : Option R_ := H.e P_ [r,r,r,r,r,r] ⟨[(3, .ptr 0 []), (5, vi b), (7, vb a)], [.box 24 (.agg [vi 0, vi 0, vi 0, vi 0, vi 0])], []⟩
theorem e2 : x2 = Qq := by kernel_rfl
noncomputable def F := Iu
theorem rn x : H.u P_ x = F x := Eq.trans (b := Qm x2 x) (by kernel_rfl) (by simp only [e2] <;> rfl)
noncomputable def c : Con := ⟨H.p, H.r, F⟩
theorem ok : ConOk P_ gl 85 c := co H func85 (.cons F90.ok (.cons F91.ok (.cons F136.ok .nil))) rn
end F85
namespace F298
abbrev R_ := UInt64
noncomputable def H : Hd := ⟨[Sq, Si], [Sq], (.seq .d (.seq .d (.cut [0, 5] [] .d .d))), ⟨[], gl, false⟩, [], f298⟩
def x2 (a : UInt64) (b : Bool) : Option R_ := H.e P_ [r,r,r] ⟨[(0, vq a), (5, vt b)], [], []⟩
theorem e2 : x2 = Nv := by kernel_rfl
noncomputable def F := u2 Vi
theorem rn x : H.u P_ x = F x := Eq.trans (b := u2 (Vx x2) x) (by kernel_rfl) (by simp only [e2] <;> rfl)
noncomputable def c : Con := ⟨H.p, H.r, F⟩
theorem ok : ConOk P_ gl 298 c := co H func298 .nil rn
end F298
namespace F272
abbrev R_ := UInt64
noncomputable def H : Hd := ⟨[Sq, Sc], [Sq], (.seq .d (.cut [0] [] (.seq .d (.blk (.loop [0, 1, 5] [] .d))) .d)), ⟨[(298, F298.c)], gl, false⟩, [], f272⟩
def t4 (b : UInt8) (a : UInt64) (f : Int) : S := ⟨[(0, vq a), (1, vc b), (5, vi f)], [], []⟩
def z4 : Nat → S → Option R_ := H.i P_ [r,l,r,d]
def x6 (a : UInt64) : Option R_ := H.e P_ [r,r] ⟨[(0, vq a)], [], []⟩
def x4 (b : UInt8) (a : UInt64) (f : Int) : Option R_ := H.e P_ [r,l,r,d] (t4 b a f)
theorem e6 : x6 = Wp := by kernel_rfl
theorem i4 (b : UInt8) : ∀ (q : Nat) (a : UInt64) (f : Int), z4 q (t4 b a f) = Gi b q a f :=
 ind (fun _ _ => by kernel_rfl) fun q ih a f => Eq.trans (b := Ng x6 (fun a f => (z4 q) (t4 b a f)) b a f) (by kernel_rfl) (by simp only [e6, ih] <;> rfl)
theorem e4 : x4 = Ae2 := by funext b a f; exact Eq.trans (by kernel_rfl) ((i4 b Bn a f).trans (by rw [Ak]; rfl))
noncomputable def F := u2 Acb
theorem rn x : H.u P_ x = F x := Eq.trans (b := u2 (Afq x4) x) (by kernel_rfl) (by simp only [e4] <;> rfl)
noncomputable def c : Con := ⟨H.p, H.r, F⟩
theorem ok : ConOk P_ gl 272 c := co H func272 (.cons F298.ok .nil) rn
end F272
namespace F233
abbrev R_ := UInt64
noncomputable def H : Hd := ⟨[Sq, Sb], [Sq], (.seq .d (.cut [0] [] (.seq .d (.blk (.loop [0, 1, 5] [] .d))) .d)), ⟨[(272, F272.c)], gl, false⟩, [], f233⟩
def t4 (b : LB) (a : UInt64) (f : Int) : S := ⟨[(0, vq a), (1, vb b), (5, vi f)], [], []⟩
def z4 : Nat → S → Option R_ := H.i P_ [r,l,r,d]
def x6 (a : UInt64) : Option R_ := H.e P_ [r,r] ⟨[(0, vq a)], [], []⟩
def x4 (b : LB) (a : UInt64) (f : Int) : Option R_ := H.e P_ [r,l,r,d] (t4 b a f)
theorem e6 : x6 = Rg := by kernel_rfl
theorem i4 (b : LB) : ∀ (q : Nat) (a : UInt64) (f : Int), z4 q (t4 b a f) = Ep b q a f :=
 ind (fun _ _ => by kernel_rfl) fun q ih a f => Eq.trans (b := Kr x6 (fun a f => (z4 q) (t4 b a f)) b a f) (by kernel_rfl) (by simp only [e6, ih] <;> rfl)
theorem e4 : x4 = Acu := by funext b a f; exact Eq.trans (by kernel_rfl) ((i4 b Bn a f).trans (by rw [Ak]; rfl))
noncomputable def F := u2 Pu
theorem rn x : H.u P_ x = F x := Eq.trans (b := u2 (Ab9 x4) x) (by kernel_rfl) (by simp only [e4] <;> rfl)
noncomputable def c : Con := ⟨H.p, H.r, F⟩
theorem ok : ConOk P_ gl 233 c := co H func233 (.cons F272.ok .nil) rn
end F233
namespace F167
noncomputable def H : Hd := ⟨[Ss], [Sq], .d, ⟨[(233, F233.c)], gl, false⟩, [], f167⟩
noncomputable def F := Abw
theorem rn x : H.u P_ x = F x := by kernel_rfl
noncomputable def c : Con := ⟨H.p, H.r, F⟩
theorem ok : ConOk P_ gl 167 c := co H func167 (.cons F233.ok .nil) rn
end F167
namespace F104
noncomputable def H : Hd := ⟨[Ss], [Ob 5], .d, ⟨[(166, F166.c), (167, F167.c)], gl, false⟩, [], f104⟩
noncomputable def F := Nr
theorem rn x : H.u P_ x = F x := by kernel_rfl
noncomputable def c : Con := ⟨H.p, H.r, F⟩
theorem ok : ConOk P_ gl 104 c := co H func104 (.cons F166.ok (.cons F167.ok .nil)) rn
end F104
namespace F105
abbrev R_ := (LI × Int)
noncomputable def H : Hd := ⟨[Sb, Si], [Ol 3, Si], (.seq .d (.seq .d (.seq .d (.cut [0, 1] [] .d (.seq .d (.cut [6] [] (.seq .d (.blk (.loop [0, 1, 6, 7] [⟨6, [], .own 3 (.int .i64)⟩] .d))) .d)))))), ⟨[(82, F82.c), (145, F145.c), (146, F146.c)], gl, false⟩, [], f105⟩
def t6 (b : LB) (a g : Int) (f : LI) : S := ⟨[(0, vb b), (1, vi a), (6, .own 0), (7, vi g)], [Ai 3 f], []⟩
def z6 : Nat → S → Option R_ := H.i P_ [r,r,r,r,r,l,r,d]
def x8 (f : LI) : Option R_ := H.e P_ [r,r,r,r,r,r] ⟨[(6, .own 0)], [Ai 3 f], []⟩
def x6 (b : LB) (a g : Int) (f : LI) : Option R_ := H.e P_ [r,r,r,r,r,l,r,d] (t6 b a g f)
def x5 (b : LB) (a : Int) : Option R_ := H.e P_ [r,r,r,r] ⟨[(0, vb b), (1, vi a)], [], []⟩
theorem e8 : x8 = Ni := by kernel_rfl
theorem i6 (b : LB) (a : Int) : ∀ (q : Nat) (g : Int) (f : LI), z6 q (t6 b a g f) = Gm b a q g f :=
 ind (fun _ _ => by kernel_rfl) fun q ih g f => Eq.trans (b := Nk x8 (fun g f => (z6 q) (t6 b a g f)) b a g f) (by kernel_rfl) (by simp only [e8, ih] <;> rfl)
theorem e6 : x6 = Wh := by funext b a g f; exact Eq.trans (by kernel_rfl) ((i6 b a Bn g f).trans (by rw [Ak]; rfl))
theorem e5 : x5 = Wv := Eq.trans (b := Wu x6) (by kernel_rfl) (by simp only [e6] <;> rfl)
noncomputable def F := u2 Vm
theorem rn x : H.u P_ x = F x := Eq.trans (b := u2 (Vz x5) x) (by kernel_rfl) (by simp only [e5] <;> rfl)
noncomputable def c : Con := ⟨H.p, H.r, F⟩
theorem ok : ConOk P_ gl 105 c := co H func105 (.cons F82.ok (.cons F145.ok (.cons F146.ok .nil))) rn
end F105
namespace F86
abbrev R_ := (Int × LI × Int)
noncomputable def H : Hd := ⟨[Sb, .agg [Si, Si, Si, Si, Si], Ss], [Si, Ol 3, Si], (.seq .d (.seq .d (.cut [0, 4, 9] [] .d (.cut [9, 10, 11] [] .d .d)))), ⟨[(83, F83.c), (104, F104.c), (105, F105.c)], gl, false⟩, [], f86⟩
def x4 (b g : Int) (h : LI) : Option R_ := H.e P_ [r,r,r,r] ⟨[(9, vi b), (10, .own 0), (11, vi g)], [Ai 3 h], []⟩
def x3 (a : LB) (f k m n o b : Int) : Option R_ := H.e P_ [r,r,r] ⟨[(0, vb a), (4, .ptr 0 []), (9, vi b)], [.box 24 (.agg [vi f, vi k, vi m, vi n, vi o])], []⟩
theorem e4 : x4 = Ta := by kernel_rfl
theorem e3 : x3 = Hg := Eq.trans (b := Rk x4) (by kernel_rfl) (by simp only [e4] <;> rfl)
noncomputable def F := u7 Ph
theorem rn x : H.u P_ x = F x := Eq.trans (b := u7 (Rt x3) x) (by kernel_rfl) (by simp only [e3] <;> rfl)
noncomputable def c : Con := ⟨H.p, H.r, F⟩
theorem ok : ConOk P_ gl 86 c := co H func86 (.cons F83.ok (.cons F104.ok (.cons F105.ok .nil))) rn
end F86
namespace F168
noncomputable def H : Hd := ⟨[Sq, Sb], [Sq, Si], .d, ⟨[(233, F233.c)], gl, false⟩, [], f168⟩
noncomputable def F := u2 Acj
theorem rn x : H.u P_ x = F x := by kernel_rfl
noncomputable def c : Con := ⟨H.p, H.r, F⟩
theorem ok : ConOk P_ gl 168 c := co H func168 (.cons F233.ok .nil) rn
end F168
namespace F107
noncomputable def H : Hd := ⟨[Sb], [Sq, Si], .d, ⟨[(168, F168.c)], gl, false⟩, [], f107⟩
noncomputable def F := Aec
theorem rn x : H.u P_ x = F x := by kernel_rfl
noncomputable def c : Con := ⟨H.p, H.r, F⟩
theorem ok : ConOk P_ gl 107 c := co H func107 (.cons F168.ok .nil) rn
end F107
namespace F108
abbrev R_ := LX
abbrev K_ := S → Option R_
noncomputable def H : Hd := ⟨[Sq], [.lf (.vec 16 (.int .i32)) none], (.seq .d (.seq .d (.cut [2, 3] [] (.seq .d (.blk (.loop [0, 2, 3, 4] [] (.seq .d (.seq (.blk (.seq .d (.cut [0, 2, 3, 4, 5] [] .d .d))) .d))))) .d))), ⟨[], gl, false⟩, [], f108⟩
def t6 (b : UInt64) (f : Int) (a : LX) : S := ⟨[(0, vq b), (2, .ptr 0 []), (3, .ptr 1 []), (4, vi f)], [.box 95 (.val (.vec 16 (.int .i32)) (List.replicate 16 (0 : Int32))), .box 95 (.val (.vec 16 (.int .i32)) a)], []⟩
def z6 : Nat → S → Option R_ := H.i P_ [r,r,l,r,d]
def x10 (a : LX) : Option R_ := H.e P_ [r,r,r] ⟨[(2, .ptr 0 []), (3, .ptr 1 [])], [.box 95 (.val (.vec 16 (.int .i32)) (List.replicate 16 (0 : Int32))), .box 95 (.val (.vec 16 (.int .i32)) a)], []⟩
def x8 (kn6 : K_) (b : UInt64) (f : Int) (a : LX) (g : Int32) : Option R_ := H.e P_ [r,r,l,r,d,(lp kn6),r,l,d,r,r] ⟨[(0, vq b), (2, .ptr 0 []), (3, .ptr 1 []), (4, vi f), (5, vx g)], [.box 95 (.val (.vec 16 (.int .i32)) (List.replicate 16 (0 : Int32))), .box 95 (.val (.vec 16 (.int .i32)) a)], []⟩
def x6 (b : UInt64) (f : Int) (a : LX) : Option R_ := H.e P_ [r,r,l,r,d] (t6 b f a)
theorem e10 : x10 = Agj := by kernel_rfl
theorem e8 (kn6 : K_) : x8 kn6 = Rs (fun b f a => kn6 (t6 b f a)) := by kernel_rfl
theorem i6 : ∀ (q : Nat) (b : UInt64) (f : Int) (a : LX), z6 q (t6 b f a) = Ga q b f a :=
 ind (fun _ _ _ => by kernel_rfl) fun q ih b f a => Eq.trans (b := Sf (x8 (z6 q)) x10 b f a) (by kernel_rfl) (by simp only [e8, e10, ih] <;> rfl)
theorem e6 : x6 = Ai7 := by funext b f a; exact Eq.trans (by kernel_rfl) ((i6 Bn b f a).trans (by rw [Ak]; rfl))
noncomputable def F := Afz
theorem rn x : H.u P_ x = F x := Eq.trans (b := Aif x6 x) (by kernel_rfl) (by simp only [e6] <;> rfl)
noncomputable def c : Con := ⟨H.p, H.r, F⟩
theorem ok : ConOk P_ gl 108 c := co H func108 .nil rn
end F108
namespace F61
noncomputable def H : Hd := ⟨[Ss], [.lf (.vec 16 (.int .i32)) none, Si], .d, ⟨[(107, F107.c), (108, F108.c)], gl, false⟩, [], f61⟩
noncomputable def F := Ve
theorem rn x : H.u P_ x = F x := by kernel_rfl
noncomputable def c : Con := ⟨H.p, H.r, F⟩
theorem ok : ConOk P_ gl 61 c := co H func61 (.cons F107.ok (.cons F108.ok .nil)) rn
end F61
namespace F109
noncomputable def H : Hd := ⟨[.agg [Si, Si], Si], [Si], .d, ⟨[(169, F169.c)], gl, false⟩, [], f109⟩
noncomputable def F := u3 Im
theorem rn x : H.u P_ x = F x := by kernel_rfl
noncomputable def c : Con := ⟨H.p, H.r, F⟩
theorem ok : ConOk P_ gl 109 c := co H func109 (.cons F169.ok .nil) rn
end F109
namespace F170
noncomputable def H : Hd := ⟨[Sb], [Ob 5], .d, ⟨[(146, F146.c)], gl, false⟩, [], f170⟩
noncomputable def F := Pn
theorem rn x : H.u P_ x = F x := by kernel_rfl
noncomputable def c : Con := ⟨H.p, H.r, F⟩
theorem ok : ConOk P_ gl 170 c := co H func170 (.cons F146.ok .nil) rn
end F170
namespace F110
noncomputable def H : Hd := ⟨[Sb], [Si], .d, ⟨[(170, F170.c)], gl, false⟩, [], f110⟩
noncomputable def F := Kb
theorem rn x : H.u P_ x = F x := by kernel_rfl
noncomputable def c : Con := ⟨H.p, H.r, F⟩
theorem ok : ConOk P_ gl 110 c := co H func110 (.cons F170.ok .nil) rn
end F110
namespace F171
noncomputable def H : Hd := ⟨[], [.agg [Si, Si, Sq, Sq]], .d, ⟨[], gl, false⟩, [], f171⟩
noncomputable def F (x : Unit) := Ii
theorem rn x : H.u P_ x = F x := by kernel_rfl
noncomputable def c : Con := ⟨H.p, H.r, F⟩
theorem ok : ConOk P_ gl 171 c := co H func171 .nil rn
end F171
namespace F239
abbrev R_ := UInt64
noncomputable def H : Hd := ⟨[Si], [Sq], (.seq .d (.seq .d (.cut [3] [] (.seq .d (.blk (.loop [0, 3, 4] [] .d))) .d))), ⟨[], gl, false⟩, [], f239⟩
def t4 (b : Int) (a : UInt64) (f : Int) : S := ⟨[(0, vi b), (3, vq a), (4, vi f)], [], []⟩
def z4 : Nat → S → Option R_ := H.i P_ [r,r,l,r,d]
def x6 (a : UInt64) : Option R_ := H.e P_ [r,r,r] ⟨[(3, vq a)], [], []⟩
def x4 (b : Int) (a : UInt64) (f : Int) : Option R_ := H.e P_ [r,r,l,r,d] (t4 b a f)
theorem e6 : x6 = Adi := by kernel_rfl
theorem i4 (b : Int) : ∀ (q : Nat) (a : UInt64) (f : Int), z4 q (t4 b a f) = Ff b q a f :=
 ind (fun _ _ => by kernel_rfl) fun q ih a f => Eq.trans (b := Lp x6 (fun a f => (z4 q) (t4 b a f)) b a f) (by kernel_rfl) (by simp only [e6, ih] <;> rfl)
theorem e4 : x4 = Adq := by funext b a f; exact Eq.trans (by kernel_rfl) ((i4 b Bn a f).trans (by rw [Ak]; rfl))
noncomputable def F := Dd
theorem rn x : H.u P_ x = F x := Eq.trans (b := Adu x4 x) (by kernel_rfl) (by simp only [e4] <;> rfl)
noncomputable def c : Con := ⟨H.p, H.r, F⟩
theorem ok : ConOk P_ gl 239 c := co H func239 .nil rn
end F239
namespace F273
noncomputable def H : Hd := ⟨[.agg [Si, Si, Sq, Sq], Su], [Sz], .d, ⟨[(239, F239.c)], gl, false⟩, [], f273⟩
noncomputable def F := u5 Qw
theorem rn x : H.u P_ x = F x := by kernel_rfl
noncomputable def c : Con := ⟨H.p, H.r, F⟩
theorem ok : ConOk P_ gl 273 c := co H func273 (.cons F239.ok .nil) rn
end F273
namespace F275
noncomputable def H : Hd := ⟨[.agg [Si, Si, Sq, Sq], Su], [Su], .d, ⟨[(239, F239.c)], gl, false⟩, [], f275⟩
noncomputable def F := u5 Je
theorem rn x : H.u P_ x = F x := by kernel_rfl
noncomputable def c : Con := ⟨H.p, H.r, F⟩
theorem ok : ConOk P_ gl 275 c := co H func275 (.cons F239.ok .nil) rn
end F275
namespace F274
abbrev R_ := (Int × UInt64)
noncomputable def H : Hd := ⟨[Si, Sq, Sq], [Si, Sq], (.seq .d (.seq .d (.cut [0, 1] [] .d .d))), ⟨[(239, F239.c)], gl, false⟩, [], f274⟩
def x2 (b : Int) (a f : UInt64) : Option R_ := H.e P_ [r,r,r] ⟨[(0, vi b), (1, vq (Ao (Ae a f) (Bq a (16 : UInt64))))], [], []⟩
theorem e2 : x2 = Nh := by kernel_rfl
noncomputable def F := u3 Gz
theorem rn x : H.u P_ x = F x := Eq.trans (b := u3 (Wl x2) x) (by kernel_rfl) (by simp only [e2] <;> rfl)
noncomputable def c : Con := ⟨H.p, H.r, F⟩
theorem ok : ConOk P_ gl 274 c := co H func274 (.cons F239.ok .nil) rn
end F274
namespace F235
def Px (j2 : UInt32 → Int → Int → UInt64 → UInt64 → Int → UInt64 → Option (Int × Int × UInt64 × UInt64)) (f a : Int) (g b : UInt64) (h : UInt32) : Option (Int × Int × UInt64 × UInt64) :=
(Qw f a g b h).bind fun u =>
if (!u) then
(fun w : Option (Int × Int × UInt64 × UInt64) =>
(fun v : Option (Int × Int × UInt64 × UInt64) =>
(fun y : Option (Int × Int × UInt64 × UInt64) =>
both (
y) [
y,
both (
v) [
v,
(Je f a g b h).bind fun k =>
(fun ac : Option (Int × Int × UInt64 × UInt64) =>
bo (
ac)) (
(Gz a b (Ad k : UInt64)).bind fun (m, n) =>
j2 h f a g b m n)]]) (
both (
w) [
v])) (
bo (
w))) (
(Je f a g b h).bind fun k =>
(Gz a b (Ad k : UInt64)).bind fun (m, n) =>
j2 h f a g b m n)
else
j2 h f a g b a b
theorem Aiq : @Px = @Kj := by
  unfold Px Kj
  try simp only [Anp, Af4, Af8]
  all_goals
    repeat (refine funext fun _ => ?_)
    repeat' first
      | with_reducible rfl
      | with_reducible refine Hz ?_ ?_
      | with_reducible refine Hy ?_ ?_ ?_
      | with_reducible refine Ic ?_ ?_ ?_ ?_
      | ((with_reducible refine Lz ?_ ?_); focus (intro h; first | (subst h; rfl) | (simp only [h]; rfl) | (simp [Fz, Ac, h]; done)))
      | with_reducible refine Lu fun x => ?_
      | with_reducible refine Ue (fun _ => ?_) (fun _ => ?_)
      | (refine Dn (fun h => by simp only [h, Me, Cg, Cb, ite_self]) (fun x h => ?_); (try simp only [h, Cg]))
      | (refine Fm (fun h => ?_) (fun h => ?_) <;> simp only [h, if_true, if_false, Bool.false_eq_true])
abbrev R_ := (Int × Int × UInt64 × UInt64)
noncomputable def H : Hd := ⟨[.agg [Si, Si, Sq, Sq], Su], [.agg [Si, Si, Sq, Sq]], (.seq .d (.seq .d (.cut [1, 2, 4, 5] [] (.seq .d (.cond (.mode false) .d)) .d))), ⟨[(273, F273.c), (274, F274.c), (275, F275.c)], gl, false⟩, [], f235⟩
def x2 (h : UInt32) (f a : Int) (g b : UInt64) (o : Int) (p : UInt64) : Option R_ := H.e P_ [r,r,r] ⟨[(1, vu h), (2, .ptr 0 []), (4, .ptr 1 []), (5, .ptr 2 [])], [.box 208 (.agg [vi f, vi a, vq g, vq b]), .box 208 (.agg [vi 0, vi 0, vq 0, vq 0]), .box 208 (.agg [vi f, vi o, vq g, vq p])], []⟩
theorem e2 : x2 = Ko := by kernel_rfl
noncomputable def F := u5 Pb
theorem rn x : H.u P_ x = F x := Eq.trans (b := u5 (Px x2) x) (by kernel_rfl) (by unfold F; rw [Aiq]; simp only [e2] <;> rfl)
noncomputable def c : Con := ⟨H.p, H.r, F⟩
theorem ok : ConOk P_ gl 235 c := co H func235 (.cons F273.ok (.cons F274.ok (.cons F275.ok .nil))) rn
end F235
namespace F172
abbrev R_ := (Int × Int × UInt64 × UInt64)
noncomputable def H : Hd := ⟨[Si, Sv], [.agg [Si, Si, Sq, Sq]], (.seq .d (.seq .d (.cut [4, 5] [] (.seq .d (.blk (.loop [0, 1, 4, 5, 6] [] .d))) .d))), ⟨[(171, F171.c), (235, F235.c)], gl, false⟩, [], f172⟩
def t4 (h : Int) (k : LU) (m a b : Int) (f g : UInt64) : S := ⟨[(0, vi h), (1, vv k), (4, .ptr 0 []), (5, .ptr 1 []), (6, vi m)], [.box 208 (.agg [vi 0, vi 0, vq 0, vq 0]), .box 208 (.agg [vi a, vi b, vq f, vq g])], []⟩
def z4 : Nat → S → Option R_ := H.i P_ [r,r,l,r,d]
def x6 (a b : Int) (f g : UInt64) : Option R_ := H.e P_ [r,r,r] ⟨[(4, .ptr 0 []), (5, .ptr 1 [])], [.box 208 (.agg [vi 0, vi 0, vq 0, vq 0]), .box 208 (.agg [vi a, vi b, vq f, vq g])], []⟩
def x4 (h : Int) (k : LU) (m a b : Int) (f g : UInt64) : Option R_ := H.e P_ [r,r,l,r,d] (t4 h k m a b f g)
theorem e6 : x6 = Abj := by kernel_rfl
theorem i4 (h : Int) (k : LU) : ∀ (q : Nat) (m a b : Int) (f g : UInt64), z4 q (t4 h k m a b f g) = Gx h k q m a b f g :=
 ind (fun _ _ _ _ _ => by kernel_rfl) fun q ih m a b f g => Eq.trans (b := Th x6 (fun m a b f g => (z4 q) (t4 h k m a b f g)) h k m a b f g) (by kernel_rfl) (by simp only [e6, ih] <;> rfl)
theorem e4 : x4 = Acx := by funext h k m a b f g; exact Eq.trans (by kernel_rfl) ((i4 h k Bn m a b f g).trans (by rw [Ak]; rfl))
noncomputable def F := u2 Ke
theorem rn x : H.u P_ x = F x := Eq.trans (b := u2 (Ry x4) x) (by kernel_rfl) (by simp only [e4] <;> rfl)
noncomputable def c : Con := ⟨H.p, H.r, F⟩
theorem ok : ConOk P_ gl 172 c := co H func172 (.cons F171.ok (.cons F235.ok .nil)) rn
end F172
namespace F175
abbrev R_ := Int
noncomputable def H : Hd := ⟨[.agg [Sb, Si], Si], [Si], (.seq .d (.seq .d (.cut [5] [] (.seq .d (.blk (.loop [1, 5, 6] [] .d))) .d))), ⟨[], gl, false⟩, [], f175⟩
def t4 (b a f : Int) : S := ⟨[(1, vi b), (5, vi a), (6, vi f)], [], []⟩
def z4 : Nat → S → Option R_ := H.i P_ [r,r,l,r,d]
def x6 (a : Int) : Option R_ := H.e P_ [r,r,r] ⟨[(5, vi a)], [], []⟩
def x4 (b a f : Int) : Option R_ := H.e P_ [r,r,l,r,d] (t4 b a f)
theorem e6 : x6 = Aab := by kernel_rfl
theorem i4 (b : Int) : ∀ (q : Nat) (a f : Int), z4 q (t4 b a f) = Ig b q a f :=
 ind (fun _ _ => by kernel_rfl) fun q ih a f => Eq.trans (b := Rv x6 (fun a f => (z4 q) (t4 b a f)) b a f) (by kernel_rfl) (by simp only [e6, ih] <;> rfl)
theorem e4 : x4 = Aac := by funext b a f; exact Eq.trans (by kernel_rfl) ((i4 b Bn a f).trans (by rw [Ak]; rfl))
noncomputable def F := u3 Hr
theorem rn x : H.u P_ x = F x := Eq.trans (b := u3 (Aae x4) x) (by kernel_rfl) (by simp only [e4] <;> rfl)
noncomputable def c : Con := ⟨H.p, H.r, F⟩
theorem ok : ConOk P_ gl 175 c := co H func175 .nil rn
end F175
namespace F236
abbrev R_ := (LB × Int)
noncomputable def H : Hd := ⟨[.agg [Ob 5, Si], Si], [.agg [Ob 5, Si]], (.seq .d (.cut [1, 2, 4] [] .d (.seq .d (.cut [1, 2, 4, 5] [] (.seq .d (.blk (.loop [1, 2, 4, 5, 6] [] .d))) .d)))), ⟨[], gl, false⟩, [], f236⟩
def t6 (b a : Int) (f : LB) (g h : Int) : S := ⟨[(1, vi b), (2, .ptr 0 []), (4, .ptr 1 []), (5, vi g), (6, vi h)], [.box 146 (.agg [.own 2, vi a]), .box 146 (.agg [.nils, vi 0]), Ab 5 f], []⟩
def z6 : Nat → S → Option R_ := H.i P_ [r,r,r,l,r,d]
def x8 (b g a : Int) (f : LB) : Option R_ := H.e P_ [r,r,r,r] ⟨[(1, vi b), (2, .ptr 0 []), (4, .ptr 1 []), (5, vi g)], [.box 146 (.agg [.own 2, vi a]), .box 146 (.agg [.nils, vi 0]), Ab 5 f], []⟩
def x6 (b a : Int) (f : LB) (g h : Int) : Option R_ := H.e P_ [r,r,r,l,r,d] (t6 b a f g h)
def x5 (b a : Int) (f : LB) : Option R_ := H.e P_ [r,r] ⟨[(1, vi b), (2, .ptr 0 []), (4, .ptr 1 [])], [.box 146 (.agg [.own 2, vi a]), .box 146 (.agg [.nils, vi 0]), Ab 5 f], []⟩
theorem e8 : x8 = Pa := by kernel_rfl
theorem i6 (b a : Int) (f : LB) : ∀ (q : Nat) (g h : Int), z6 q (t6 b a f g h) = Hi b a f q g h :=
 ind (fun _ _ => by kernel_rfl) fun q ih g h => Eq.trans (b := Po x8 (fun g h => (z6 q) (t6 b a f g h)) b a f g h) (by kernel_rfl) (by simp only [e8, ih] <;> rfl)
theorem e6 : x6 = Xz := by funext b a f g h; exact Eq.trans (by kernel_rfl) ((i6 b a f Bn g h).trans (by rw [Ak]; rfl))
theorem e5 : x5 = Pk := Eq.trans (b := Yy x6) (by kernel_rfl) (by simp only [e6] <;> rfl)
noncomputable def F := u3 Qp
theorem rn x : H.u P_ x = F x := Eq.trans (b := u3 (Yp x5) x) (by kernel_rfl) (by simp only [e5] <;> rfl)
noncomputable def c : Con := ⟨H.p, H.r, F⟩
theorem ok : ConOk P_ gl 236 c := co H func236 .nil rn
end F236
namespace F173
abbrev R_ := (LB × Int)
noncomputable def H : Hd := ⟨[.agg [Sb, Si], Si, Si], [.agg [Ob 5, Si]], (.seq .d (.seq .d (.cut [6, 7] [] (.seq .d (.blk (.loop [2, 3, 6, 7, 8] [⟨7, [0], .own 5 (.int .u8)⟩] .d))) .d))), ⟨[(175, F175.c), (236, F236.c)], gl, false⟩, [], f173⟩
def t4 (f : Int) (g : LB) (h k a : Int) (b : LB) : S := ⟨[(2, vi f), (3, .ptr 0 []), (6, .ptr 1 []), (7, .ptr 2 []), (8, vi k)], [.box 146 (.agg [vb g, vi h]), .box 146 (.agg [.nils, vi 0]), .box 146 (.agg [.own 3, vi a]), Ab 5 b], []⟩
def z4 : Nat → S → Option R_ := H.i P_ [r,r,l,r,d]
def x6 (a : Int) (b : LB) : Option R_ := H.e P_ [r,r,r] ⟨[(6, .ptr 0 []), (7, .ptr 1 [])], [.box 146 (.agg [.nils, vi 0]), .box 146 (.agg [.own 2, vi a]), Ab 5 b], []⟩
def x4 (f : Int) (g : LB) (h k a : Int) (b : LB) : Option R_ := H.e P_ [r,r,l,r,d] (t4 f g h k a b)
theorem e6 : x6 = Aar := by kernel_rfl
theorem i4 (f : Int) (g : LB) (h : Int) : ∀ (q : Nat) (k a : Int) (b : LB), z4 q (t4 f g h k a b) = Ds f g h q k a b :=
 ind (fun _ _ _ => by kernel_rfl) fun q ih k a b => Eq.trans (b := Jm x6 (fun k a b => (z4 q) (t4 f g h k a b)) f g h k a b) (by kernel_rfl) (by simp only [e6, ih] <;> rfl)
theorem e4 : x4 = Aay := by funext f g h k a b; exact Eq.trans (by kernel_rfl) ((i4 f g h Bn k a b).trans (by rw [Ak]; rfl))
noncomputable def F := u4 Xg
theorem rn x : H.u P_ x = F x := Eq.trans (b := u4 (Aas x4) x) (by kernel_rfl) (by simp only [e4] <;> rfl)
noncomputable def c : Con := ⟨H.p, H.r, F⟩
theorem ok : ConOk P_ gl 173 c := co H func173 (.cons F175.ok (.cons F236.ok .nil)) rn
end F173
namespace F237
abbrev R_ := UInt64
noncomputable def H : Hd := ⟨[.agg [Sb, Si], Si, Si], [Sq], (.seq .d (.seq .d (.cut [7] [] (.seq .d (.blk (.loop [1, 3, 7, 8] [] .d))) .d))), ⟨[(175, F175.c)], gl, false⟩, [], f237⟩
def t4 (b : Int) (f : LB) (g : Int) (a : UInt64) (h : Int) : S := ⟨[(1, vi b), (3, .ptr 0 []), (7, vq a), (8, vi h)], [.box 146 (.agg [vb f, vi g])], []⟩
def z4 : Nat → S → Option R_ := H.i P_ [r,r,l,r,d]
def x6 (a : UInt64) : Option R_ := H.e P_ [r,r,r] ⟨[(7, vq a)], [], []⟩
def x4 (b : Int) (f : LB) (g : Int) (a : UInt64) (h : Int) : Option R_ := H.e P_ [r,r,l,r,d] (t4 b f g a h)
theorem e6 : x6 = Adr := by kernel_rfl
theorem i4 (b : Int) (f : LB) (g : Int) : ∀ (q : Nat) (a : UInt64) (h : Int), z4 q (t4 b f g a h) = Fp b f g q a h :=
 ind (fun _ _ => by kernel_rfl) fun q ih a h => Eq.trans (b := Lw x6 (fun a h => (z4 q) (t4 b f g a h)) b f g a h) (by kernel_rfl) (by simp only [e6, ih] <;> rfl)
theorem e4 : x4 = Tr := by funext b f g a h; exact Eq.trans (by kernel_rfl) ((i4 b f g Bn a h).trans (by rw [Ak]; rfl))
noncomputable def F := u4 Li
theorem rn x : H.u P_ x = F x := Eq.trans (b := u4 (Uh x4) x) (by kernel_rfl) (by simp only [e4] <;> rfl)
noncomputable def c : Con := ⟨H.p, H.r, F⟩
theorem ok : ConOk P_ gl 237 c := co H func237 (.cons F175.ok .nil) rn
end F237
namespace F276
abbrev R_ := (Int × Int)
noncomputable def H : Hd := ⟨[.agg [Sb, Si], Si], [Si, Si], (.seq .d (.seq .d (.cut [1, 2, 6] [] (.blk (.loop [1, 2, 6] [] .d)) .d))), ⟨[(175, F175.c)], gl, false⟩, [], f276⟩
def t4 (b : Int) (g : LB) (f a : Int) : S := ⟨[(1, vi b), (2, .ptr 0 []), (6, vi a)], [.box 146 (.agg [vb g, vi f])], []⟩
def z4 : Nat → S → Option R_ := H.i P_ [r,r,l,d]
def x6 (b a : Int) (g : LB) (f : Int) : Option R_ := H.e P_ [r,r,r] ⟨[(1, vi b), (2, .ptr 0 []), (6, vi a)], [.box 146 (.agg [vb g, vi f])], []⟩
def x4 (b : Int) (g : LB) (f a : Int) : Option R_ := H.e P_ [r,r,l,d] (t4 b g f a)
theorem e6 : x6 = Pd := by kernel_rfl
theorem i4 (b : Int) (g : LB) (f : Int) : ∀ (q : Nat) (a : Int), z4 q (t4 b g f a) = Hl b g f q a :=
 ind (fun _ => by kernel_rfl) fun q ih a => Eq.trans (b := Pv x6 (fun a => (z4 q) (t4 b g f a)) b g f a) (by kernel_rfl) (by simp only [e6, ih] <;> rfl)
theorem e4 : x4 = Agk := by funext b g f a; exact Eq.trans (by kernel_rfl) ((i4 b g f Bn a).trans (by rw [Ak]; rfl))
noncomputable def F := u3 Ad9
theorem rn x : H.u P_ x = F x := Eq.trans (b := u3 (Agm x4) x) (by kernel_rfl) (by simp only [e4] <;> rfl)
noncomputable def c : Con := ⟨H.p, H.r, F⟩
theorem ok : ConOk P_ gl 276 c := co H func276 (.cons F175.ok .nil) rn
end F276
namespace F277
noncomputable def H : Hd := ⟨[Su, Si], [Si], .d, ⟨[(239, F239.c)], gl, false⟩, [], f277⟩
noncomputable def F := u2 Vg
theorem rn x : H.u P_ x = F x := by kernel_rfl
noncomputable def c : Con := ⟨H.p, H.r, F⟩
theorem ok : ConOk P_ gl 277 c := co H func277 (.cons F239.ok .nil) rn
end F277
namespace F238
abbrev R_ := (UInt32 × Int × Int)
noncomputable def H : Hd := ⟨[.agg [Sb, Si], Si, Si], [Su, Si, Si], (.seq .d (.seq .d (.seq .d (.seq .d (.cut [2, 3, 9, 10, 11] [] .d .d))))), ⟨[(237, F237.c), (239, F239.c), (276, F276.c), (277, F277.c)], gl, false⟩, [], f238⟩
def x2 (g a b : Int) (h : LB) (f k : Int) : Option R_ := H.e P_ [r,r,r,r,r] ⟨[(2, vi g), (3, .ptr 0 []), (9, vi a), (10, vi b), (11, vi k)], [.box 146 (.agg [vb h, vi f])], []⟩
theorem e2 : x2 = Pp := by kernel_rfl
noncomputable def F := u4 Xt
theorem rn x : H.u P_ x = F x := Eq.trans (b := u4 (Ye x2) x) (by kernel_rfl) (by simp only [e2] <;> rfl)
noncomputable def c : Con := ⟨H.p, H.r, F⟩
theorem ok : ConOk P_ gl 238 c := co H func238 (.cons F237.ok (.cons F239.ok (.cons F276.ok (.cons F277.ok .nil)))) rn
end F238
namespace F174
noncomputable def H : Hd := ⟨[.agg [Sb, Si], Si, .agg [Si, Si, Sq, Sq]], [Su, Si, Si], .d, ⟨[(175, F175.c), (237, F237.c), (238, F238.c), (239, F239.c)], gl, false⟩, [], f174⟩
noncomputable def F := u7 Xu
theorem rn x : H.u P_ x = F x := by kernel_rfl
noncomputable def c : Con := ⟨H.p, H.r, F⟩
theorem ok : ConOk P_ gl 174 c := co H func174 (.cons F175.ok (.cons F237.ok (.cons F238.ok (.cons F239.ok .nil)))) rn
end F174
namespace F111
abbrev R_ := (LU × Int)
abbrev K_ := S → Option R_
noncomputable def H : Hd := ⟨[Si, Si, Sb], [Ov 194, Si], (.seq .d (.seq .d (.seq .d (.seq .d (.cut [8, 9, 10] [] (.seq .d (.blk (.loop [0, 1, 8, 9, 10, 11] [⟨9, [], .own 194 (.int .u32)⟩] (.seq .d (.seq (.blk (.seq .d (.cut [0, 1, 8, 9, 10, 11, 12] [] .d .d))) .d))))) (.seq .d (.cut [9] [] (.blk (.loop [8, 9, 10] [] .d)) .d))))))), ⟨[(171, F171.c), (172, F172.c), (173, F173.c), (174, F174.c), (175, F175.c)], gl, false⟩, [], f111⟩
def t16 (a : LB) (b : LU) (m : Int) : S := ⟨[(8, .ptr 0 []), (9, .own 1), (10, vi m)], [.box 146 (.agg [vb a, vi (Bb (8 : Int) (Ac a))]), Av 194 b], []⟩
def z16 : Nat → S → Option R_ := H.i P_ [r,r,r,r,r,r,l,d]
def t10 (g h : Int) (a : LB) (f k : Int) (b : LU) : S := ⟨[(0, vi g), (1, vi h), (8, .ptr 0 []), (9, .own 1), (10, vi f), (11, vi k)], [.box 146 (.agg [vb a, vi (Bb (8 : Int) (Ac a))]), Av 194 b], []⟩
def z10 : Nat → S → Option R_ := H.i P_ [r,r,r,r,l,r,d]
def x18 (b : LU) : Option R_ := H.e P_ [r,r,r,r,r,r,r] ⟨[(9, .own 0)], [Av 194 b], []⟩
def x16 (a : LB) (b : LU) (m : Int) : Option R_ := H.e P_ [r,r,r,r,r,r,l,d] (t16 a b m)
def x15 (f : Int) (a : LB) (b : LU) : Option R_ := H.e P_ [r,r,r,r,r] ⟨[(8, .ptr 0 []), (9, .own 1), (10, vi f)], [.box 146 (.agg [vb a, vi (Bb (8 : Int) (Ac a))]), Av 194 b], []⟩
def x13 (kn10 : K_) (g h : Int) (a : LB) (f k : Int) (b : LU) (o p : Int) (u v : UInt64) : Option R_ := H.e P_ [r,r,r,r,l,r,d,(lp kn10),r,l,d,r,r] ⟨[(0, vi g), (1, vi h), (8, .ptr 0 []), (9, .own 1), (10, vi f), (11, vi k), (12, .ptr 2 [])], [.box 146 (.agg [vb a, vi (Bb (8 : Int) (Ac a))]), Av 194 b, .box 208 (.agg [vi o, vi p, vq u, vq v])], []⟩
def x10 (g h : Int) (a : LB) (f k : Int) (b : LU) : Option R_ := H.e P_ [r,r,r,r,l,r,d] (t10 g h a f k b)
theorem e18 : x18 = Ad1 := by kernel_rfl
theorem i16 (a : LB) (b : LU) : ∀ (q : Nat) (m : Int), z16 q (t16 a b m) = Fe a b q m :=
 ind (fun _ => by kernel_rfl) fun q ih m => Eq.trans (b := Ln x18 (fun m => (z16 q) (t16 a b m)) a b m) (by kernel_rfl) (by simp only [e18, ih] <;> rfl)
theorem e16 : x16 = Ua := by funext a b m; exact Eq.trans (by kernel_rfl) ((i16 a b Bn m).trans (by rw [Ak]; rfl))
theorem e15 : x15 = Mc := Eq.trans (b := Tx x16) (by kernel_rfl) (by simp only [e16] <;> rfl)
theorem e13 (kn10 : K_) (g h : Int) (a : LB) : x13 kn10 g h a = Fg (fun f k b => kn10 (t10 g h a f k b)) g h a := by kernel_rfl
theorem i10 (g h : Int) (a : LB) : ∀ (q : Nat) (f k : Int) (b : LU), z10 q (t10 g h a f k b) = Cp g h a q f k b :=
 ind (fun _ _ _ => by kernel_rfl) fun q ih f k b => Eq.trans (b := Uy (x13 (z10 q) g h a) x15 g h a f k b) (by kernel_rfl) (by simp only [e13, e15, ih] <;> rfl)
theorem e10 : x10 = Adt := by funext g h a f k b; exact Eq.trans (by kernel_rfl) ((i10 g h a Bn f k b).trans (by rw [Ak]; rfl))
noncomputable def F := u3 Vs
theorem rn x : H.u P_ x = F x := Eq.trans (b := u3 (Wq x10) x) (by kernel_rfl) (by simp only [e10] <;> rfl)
noncomputable def c : Con := ⟨H.p, H.r, F⟩
theorem ok : ConOk P_ gl 111 c := co H func111 (.cons F171.ok (.cons F172.ok (.cons F173.ok (.cons F174.ok (.cons F175.ok .nil))))) rn
end F111
namespace F278
noncomputable def H : Hd := ⟨[Si], [Si, Si], .d, ⟨[], gl, false⟩, [], f278⟩
noncomputable def F := Ail
theorem rn x : H.u P_ x = F x := by kernel_rfl
noncomputable def c : Con := ⟨H.p, H.r, F⟩
theorem ok : ConOk P_ gl 278 c := co H func278 .nil rn
end F278
namespace F240
noncomputable def H : Hd := ⟨[Si, .lf (.vec 16 (.int .i32)) none], [.agg [Si, .lf (.vec 16 (.int .i32)) none, .lf (.vec 16 (.int .i32)) none], Si], .d, ⟨[(278, F278.c)], gl, false⟩, [], f240⟩
noncomputable def F := u2 Alc
theorem rn x : H.u P_ x = F x := by kernel_rfl
noncomputable def c : Con := ⟨H.p, H.r, F⟩
theorem ok : ConOk P_ gl 240 c := co H func240 (.cons F278.ok .nil) rn
end F240
namespace F177
noncomputable def H : Hd := ⟨[Si, .lf (.vec 16 (.int .i32)) none], [.agg [Si, Sx, .agg [Si, .lf (.vec 16 (.int .i32)) none, .lf (.vec 16 (.int .i32)) none]], Si], .d, ⟨[(240, F240.c)], gl, false⟩, [], f177⟩
noncomputable def F := u2 Ad6
theorem rn x : H.u P_ x = F x := by kernel_rfl
noncomputable def c : Con := ⟨H.p, H.r, F⟩
theorem ok : ConOk P_ gl 177 c := co H func177 (.cons F240.ok .nil) rn
end F177
namespace F179
noncomputable def H : Hd := ⟨[Su], [Sx], .d, ⟨[], gl, false⟩, [], f179⟩
noncomputable def F := Jd
theorem rn x : H.u P_ x = F x := by kernel_rfl
noncomputable def c : Con := ⟨H.p, H.r, F⟩
theorem ok : ConOk P_ gl 179 c := co H func179 .nil rn
end F179
namespace F242
noncomputable def H : Hd := ⟨[Si], [Sx], .d, ⟨[], gl, false⟩, [], f242⟩
noncomputable def F := Bp
theorem rn x : H.u P_ x = F x := by kernel_rfl
noncomputable def c : Con := ⟨H.p, H.r, F⟩
theorem ok : ConOk P_ gl 242 c := co H func242 .nil rn
end F242
namespace F299
abbrev R_ := Int32
noncomputable def H : Hd := ⟨[.agg [Si, .lf (.vec 16 (.int .i32)) none, .lf (.vec 16 (.int .i32)) none]], [Sx], (.seq .d (.seq .d (.cut [3] [] (.seq .d (.blk (.loop [1, 3, 4] [] .d))) .d))), ⟨[(242, F242.c)], gl, false⟩, [], f299⟩
def t4 (h : Int) (f g : LX) (a b : Int) : S := ⟨[(1, .ptr 0 []), (3, vi a), (4, vi b)], [.box 217 (.agg [vi h, .val (.vec 16 (.int .i32)) f, .val (.vec 16 (.int .i32)) g])], []⟩
def z4 : Nat → S → Option R_ := H.i P_ [r,r,l,r,d]
def x6 (a : Int) : Option R_ := H.e P_ [r,r,r] ⟨[(3, vi a)], [], []⟩
def x4 (h : Int) (f g : LX) (a b : Int) : Option R_ := H.e P_ [r,r,l,r,d] (t4 h f g a b)
theorem e6 : x6 = Yw := by kernel_rfl
theorem i4 (h : Int) (f g : LX) : ∀ (q : Nat) (a b : Int), z4 q (t4 h f g a b) = Hp h f g q a b :=
 ind (fun _ _ => by kernel_rfl) fun q ih a b => Eq.trans (b := Pq x6 (fun a b => (z4 q) (t4 h f g a b)) h f g a b) (by kernel_rfl) (by simp only [e6, ih] <;> rfl)
theorem e4 : x4 = Agy := by funext h f g a b; exact Eq.trans (by kernel_rfl) ((i4 h f g Bn a b).trans (by rw [Ak]; rfl))
noncomputable def F := u3 Aee
theorem rn x : H.u P_ x = F x := Eq.trans (b := u3 (Agx x4) x) (by kernel_rfl) (by simp only [e4] <;> rfl)
noncomputable def c : Con := ⟨H.p, H.r, F⟩
theorem ok : ConOk P_ gl 299 c := co H func299 (.cons F242.ok .nil) rn
end F299
namespace F279
abbrev R_ := Int32
noncomputable def H : Hd := ⟨[.agg [Si, .lf (.vec 16 (.int .i32)) none, .lf (.vec 16 (.int .i32)) none]], [Sx], (.seq .d (.seq .d (.cut [1, 3] [] .d .d))), ⟨[(242, F242.c), (299, F299.c)], gl, false⟩, [], f279⟩
def x2 (b : Int) (f g : LX) (a : Int) : Option R_ := H.e P_ [r,r,r] ⟨[(1, .ptr 0 []), (3, vi a)], [.box 217 (.agg [vi b, .val (.vec 16 (.int .i32)) f, .val (.vec 16 (.int .i32)) g])], []⟩
theorem e2 : x2 = Na := by kernel_rfl
noncomputable def F := u3 Vp
theorem rn x : H.u P_ x = F x := Eq.trans (b := u3 (Wd x2) x) (by kernel_rfl) (by simp only [e2] <;> rfl)
noncomputable def c : Con := ⟨H.p, H.r, F⟩
theorem ok : ConOk P_ gl 279 c := co H func279 (.cons F242.ok (.cons F299.ok .nil)) rn
end F279
namespace F300
noncomputable def H : Hd := ⟨[Si], [Sx], .d, ⟨[], gl, false⟩, [], f300⟩
noncomputable def F := Vk
theorem rn x : H.u P_ x = F x := by kernel_rfl
noncomputable def c : Con := ⟨H.p, H.r, F⟩
theorem ok : ConOk P_ gl 300 c := co H func300 .nil rn
end F300
namespace F301
noncomputable def H : Hd := ⟨[Sx], [Sx], .d, ⟨[], gl, false⟩, [], f301⟩
noncomputable def F := Nl
theorem rn x : H.u P_ x = F x := by kernel_rfl
noncomputable def c : Con := ⟨H.p, H.r, F⟩
theorem ok : ConOk P_ gl 301 c := co H func301 .nil rn
end F301
namespace F281
abbrev R_ := (Int × LX × LX)
noncomputable def H : Hd := ⟨[.agg [Si, .lf (.vec 16 (.int .i32)) none, .lf (.vec 16 (.int .i32)) none], Sx], [.agg [Si, .lf (.vec 16 (.int .i32)) none, .lf (.vec 16 (.int .i32)) none]], (.seq .d (.cut [2, 4] [] (.seq .d (.blk (.loop [1, 2, 4, 5] [] .d))) .d)), ⟨[(300, F300.c), (301, F301.c)], gl, false⟩, [], f281⟩
def t4 (h : Int32) (g : Int) (a : LX) (f : Int) (b : LX) : S := ⟨[(1, vx h), (2, .ptr 0 []), (4, .ptr 1 []), (5, vi f)], [.box 217 (.agg [vi g, .val (.vec 16 (.int .i32)) b, .val (.vec 16 (.int .i32)) a]), .box 217 (.agg [vi 0, .val (.vec 16 (.int .i32)) (List.replicate 16 (0 : Int32)), .val (.vec 16 (.int .i32)) (List.replicate 16 (0 : Int32))])], []⟩
def z4 : Nat → S → Option R_ := H.i P_ [r,l,r,d]
def x6 (g : Int) (b a : LX) : Option R_ := H.e P_ [r,r] ⟨[(2, .ptr 0 []), (4, .ptr 1 [])], [.box 217 (.agg [vi g, .val (.vec 16 (.int .i32)) b, .val (.vec 16 (.int .i32)) a]), .box 217 (.agg [vi 0, .val (.vec 16 (.int .i32)) (List.replicate 16 (0 : Int32)), .val (.vec 16 (.int .i32)) (List.replicate 16 (0 : Int32))])], []⟩
def x4 (h : Int32) (g : Int) (a : LX) (f : Int) (b : LX) : Option R_ := H.e P_ [r,l,r,d] (t4 h g a f b)
theorem e6 : x6 = Aa4 := by kernel_rfl
theorem i4 (h : Int32) (g : Int) (a : LX) : ∀ (q : Nat) (f : Int) (b : LX), z4 q (t4 h g a f b) = Dt h g a q f b :=
 ind (fun _ _ => by kernel_rfl) fun q ih f b => Eq.trans (b := Jp x6 (fun f b => (z4 q) (t4 h g a f b)) h g a f b) (by kernel_rfl) (by simp only [e6, ih] <;> rfl)
theorem e4 : x4 = Aba := by funext h g a f b; exact Eq.trans (by kernel_rfl) ((i4 h g a Bn f b).trans (by rw [Ak]; rfl))
noncomputable def F := u4 Ww
theorem rn x : H.u P_ x = F x := Eq.trans (b := u4 (Aaw x4) x) (by kernel_rfl) (by simp only [e4] <;> rfl)
noncomputable def c : Con := ⟨H.p, H.r, F⟩
theorem ok : ConOk P_ gl 281 c := co H func281 (.cons F300.ok (.cons F301.ok .nil)) rn
end F281
namespace F280
abbrev R_ := (Int × LX × LX)
noncomputable def H : Hd := ⟨[.agg [Si, .lf (.vec 16 (.int .i32)) none, .lf (.vec 16 (.int .i32)) none], Sx], [.agg [Si, .lf (.vec 16 (.int .i32)) none, .lf (.vec 16 (.int .i32)) none]], (.seq .d (.cut [1, 2, 4] [] (.seq .d (.blk (.loop [1, 2, 4, 5] [] .d))) .d)), ⟨[], gl, false⟩, [], f280⟩
def t4 (b : Int32) (f : Int) (g : LX) (h : Int) (a : LX) : S := ⟨[(1, vx b), (2, .ptr 0 []), (4, .ptr 1 []), (5, vi h)], [.box 217 (.agg [vi f, .val (.vec 16 (.int .i32)) g, .val (.vec 16 (.int .i32)) a]), .box 217 (.agg [vi 0, .val (.vec 16 (.int .i32)) (List.replicate 16 (0 : Int32)), .val (.vec 16 (.int .i32)) (List.replicate 16 (0 : Int32))])], []⟩
def z4 : Nat → S → Option R_ := H.i P_ [r,l,r,d]
def x6 (b : Int32) (f : Int) (g a : LX) : Option R_ := H.e P_ [r,r] ⟨[(1, vx b), (2, .ptr 0 []), (4, .ptr 1 [])], [.box 217 (.agg [vi f, .val (.vec 16 (.int .i32)) g, .val (.vec 16 (.int .i32)) a]), .box 217 (.agg [vi 0, .val (.vec 16 (.int .i32)) (List.replicate 16 (0 : Int32)), .val (.vec 16 (.int .i32)) (List.replicate 16 (0 : Int32))])], []⟩
def x4 (b : Int32) (f : Int) (g : LX) (h : Int) (a : LX) : Option R_ := H.e P_ [r,l,r,d] (t4 b f g h a)
theorem e6 : x6 = Rl := by kernel_rfl
theorem i4 (b : Int32) (f : Int) (g : LX) : ∀ (q : Nat) (h : Int) (a : LX), z4 q (t4 b f g h a) = En b f g q h a :=
 ind (fun _ _ => by kernel_rfl) fun q ih h a => Eq.trans (b := Kt x6 (fun h a => (z4 q) (t4 b f g h a)) b f g h a) (by kernel_rfl) (by simp only [e6, ih] <;> rfl)
theorem e4 : x4 = Abn := by funext b f g h a; exact Eq.trans (by kernel_rfl) ((i4 b f g Bn h a).trans (by rw [Ak]; rfl))
noncomputable def F := u4 Yl
theorem rn x : H.u P_ x = F x := Eq.trans (b := u4 (Ac4 x4) x) (by kernel_rfl) (by simp only [e4] <;> rfl)
noncomputable def c : Con := ⟨H.p, H.r, F⟩
theorem ok : ConOk P_ gl 280 c := co H func280 .nil rn
end F280
namespace F241
noncomputable def H : Hd := ⟨[.agg [Si, .lf (.vec 16 (.int .i32)) none, .lf (.vec 16 (.int .i32)) none], Sx], [Sx, .agg [Si, .lf (.vec 16 (.int .i32)) none, .lf (.vec 16 (.int .i32)) none]], .d, ⟨[(242, F242.c), (279, F279.c), (280, F280.c), (281, F281.c)], gl, false⟩, [], f241⟩
noncomputable def F := u4 Ns
theorem rn x : H.u P_ x = F x := by kernel_rfl
noncomputable def c : Con := ⟨H.p, H.r, F⟩
theorem ok : ConOk P_ gl 241 c := co H func241 (.cons F242.ok (.cons F279.ok (.cons F280.ok (.cons F281.ok .nil)))) rn
end F241
namespace F282
abbrev R_ := Int32
noncomputable def H : Hd := ⟨[Si, Sx], [Sx], (.seq .d (.seq .d (.cut [1, 5] [] .d .d))), ⟨[], gl, false⟩, [], f282⟩
def x2 (b : Int32) (a : Int) : Option R_ := H.e P_ [r,r,r] ⟨[(1, vx b), (5, vi a)], [], []⟩
theorem e2 : x2 = Kk := by kernel_rfl
noncomputable def F := u2 Kf
theorem rn x : H.u P_ x = F x := Eq.trans (b := u2 (Rn x2) x) (by kernel_rfl) (by simp only [e2] <;> rfl)
noncomputable def c : Con := ⟨H.p, H.r, F⟩
theorem ok : ConOk P_ gl 282 c := co H func282 .nil rn
end F282
namespace F243
noncomputable def H : Hd := ⟨[.agg [Si, Sx, .agg [Si, .lf (.vec 16 (.int .i32)) none, .lf (.vec 16 (.int .i32)) none]]], [Si], .d, ⟨[(282, F282.c)], gl, false⟩, [], f243⟩
noncomputable def F := u5 Ps
theorem rn x : H.u P_ x = F x := by kernel_rfl
noncomputable def c : Con := ⟨H.p, H.r, F⟩
theorem ok : ConOk P_ gl 243 c := co H func243 (.cons F282.ok .nil) rn
end F243
namespace F178
noncomputable def H : Hd := ⟨[.agg [Si, Sx, .agg [Si, .lf (.vec 16 (.int .i32)) none, .lf (.vec 16 (.int .i32)) none]], Sx], [Sx, .agg [Si, Sx, .agg [Si, .lf (.vec 16 (.int .i32)) none, .lf (.vec 16 (.int .i32)) none]]], .d, ⟨[(241, F241.c), (242, F242.c), (243, F243.c)], gl, false⟩, [], f178⟩
noncomputable def F := u6 Gl
theorem rn x : H.u P_ x = F x := by kernel_rfl
noncomputable def c : Con := ⟨H.p, H.r, F⟩
theorem ok : ConOk P_ gl 178 c := co H func178 (.cons F241.ok (.cons F242.ok (.cons F243.ok .nil))) rn
end F178
namespace F244
noncomputable def H : Hd := ⟨[Si, Sw], [Si], .d, ⟨[], gl, false⟩, [], f244⟩
noncomputable def F := u2 Lj
theorem rn x : H.u P_ x = F x := by kernel_rfl
noncomputable def c : Con := ⟨H.p, H.r, F⟩
theorem ok : ConOk P_ gl 244 c := co H func244 .nil rn
end F244
namespace F245
abbrev R_ := LX
noncomputable def H : Hd := ⟨[Sw], [Ow 21], (.seq .d (.seq .d (.seq .d (.seq .d (.cut [0, 3, 4] [] .d (.cut [4] [] (.seq .d (.blk (.loop [0, 4, 5] [] .d))) .d)))))), ⟨[(242, F242.c)], gl, false⟩, [], f245⟩
def t6 (a : LX) (f : Int) (b : LX) : S := ⟨[(0, vw a), (4, .own 0), (5, vi f)], [Aw 21 b], []⟩
def z6 : Nat → S → Option R_ := H.i P_ [r,r,r,r,r,l,r,d]
def x8 (b : LX) : Option R_ := H.e P_ [r,r,r,r,r,r] ⟨[(4, .own 0)], [Aw 21 b], []⟩
def x6 (a : LX) (f : Int) (b : LX) : Option R_ := H.e P_ [r,r,r,r,r,l,r,d] (t6 a f b)
def x5 (a g : LX) : Option R_ := H.e P_ [r,r,r,r,r] ⟨[(0, vw a), (3, vi (Ac a)), (4, .own 0)], [Aw 21 g], []⟩
theorem e8 : x8 = Aax := by kernel_rfl
theorem i6 (a : LX) : ∀ (q : Nat) (f : Int) (b : LX), z6 q (t6 a f b) = Dy a q f b :=
 ind (fun _ _ => by kernel_rfl) fun q ih f b => Eq.trans (b := Jq x8 (fun f b => (z6 q) (t6 a f b)) a f b) (by kernel_rfl) (by simp only [e8, ih] <;> rfl)
theorem e6 : x6 = Aa8 := by funext a f b; exact Eq.trans (by kernel_rfl) ((i6 a Bn f b).trans (by rw [Ak]; rfl))
theorem e5 : x5 = Jk := Eq.trans (b := Qc x6) (by kernel_rfl) (by simp only [e6] <;> rfl)
noncomputable def F := Nj
theorem rn x : H.u P_ x = F x := Eq.trans (b := Qu x5 x) (by kernel_rfl) (by simp only [e5] <;> rfl)
noncomputable def c : Con := ⟨H.p, H.r, F⟩
theorem ok : ConOk P_ gl 245 c := co H func245 (.cons F242.ok .nil) rn
end F245
namespace F180
abbrev R_ := (LX × Int)
noncomputable def H : Hd := ⟨[Si, Sw], [Ow 21, Si], (.seq .d (.seq .d (.seq .d (.cut [6] [] (.seq .d (.blk (.loop [0, 1, 6, 7] [⟨6, [], .own 21 (.int .i32)⟩] .d))) .d)))), ⟨[(244, F244.c), (245, F245.c)], gl, false⟩, [], f180⟩
def t4 (a : Int) (b : LX) (g : Int) (f : LX) : S := ⟨[(0, vi a), (1, vw b), (6, .own 0), (7, vi g)], [Aw 21 f], []⟩
def z4 : Nat → S → Option R_ := H.i P_ [r,r,r,l,r,d]
def x6 (f : LX) : Option R_ := H.e P_ [r,r,r,r] ⟨[(6, .own 0)], [Aw 21 f], []⟩
def x4 (a : Int) (b : LX) (g : Int) (f : LX) : Option R_ := H.e P_ [r,r,r,l,r,d] (t4 a b g f)
theorem e6 : x6 = Ae0 := by kernel_rfl
theorem i4 (a : Int) (b : LX) : ∀ (q : Nat) (g : Int) (f : LX), z4 q (t4 a b g f) = Ix a b q g f :=
 ind (fun _ _ => by kernel_rfl) fun q ih g f => Eq.trans (b := Wg x6 (fun g f => (z4 q) (t4 a b g f)) a b g f) (by kernel_rfl) (by simp only [e6, ih] <;> rfl)
theorem e4 : x4 = Afd := by funext a b g f; exact Eq.trans (by kernel_rfl) ((i4 a b Bn g f).trans (by rw [Ak]; rfl))
noncomputable def F := u2 Vn
theorem rn x : H.u P_ x = F x := Eq.trans (b := u2 (Xe x4) x) (by kernel_rfl) (by simp only [e4] <;> rfl)
noncomputable def c : Con := ⟨H.p, H.r, F⟩
theorem ok : ConOk P_ gl 180 c := co H func180 (.cons F244.ok (.cons F245.ok .nil)) rn
end F180
namespace F113
def Of (j29 : Int → Int32 → LX → Int → Int32 → Int → LX → LX → Int → Int32 → Int → LX → LX → Option (LX)) (j32 : Int → LX → Option (LX)) (b : LU) (a f : Int) (g : LX) (h k : Int) (m : LX) (n : Int) (o : Int32) (p : Int) (u v : LX) : Option (LX) :=
if (Cj k (Ac b)) then
(Aj b k).bind fun ah =>
both (
(Jd ah).bind fun ag =>
(fun ap : Option (LX) =>
bo (
ap)) (
(Gl n o p u v ag).bind fun (ae, y, aa, ab, ac, ad) =>
j29 k ae m n o p u v y aa ab ac ad)) [
(Jd ah).bind fun ag =>
(Gl n o p u v ag).bind fun (ae, y, aa, ab, ac, ad) =>
j29 k ae m n o p u v y aa ab ac ad]
else
j32 h m
theorem Ahc : @Of = @Jj := by
  unfold Of Jj
  try simp only [Anp, Af4, Af8]
  all_goals
    repeat (refine funext fun _ => ?_)
    repeat' first
      | with_reducible rfl
      | with_reducible refine Hz ?_ ?_
      | with_reducible refine Hy ?_ ?_ ?_
      | with_reducible refine Ic ?_ ?_ ?_ ?_
      | ((with_reducible refine Lz ?_ ?_); focus (intro h; first | (subst h; rfl) | (simp only [h]; rfl) | (simp [Fz, Ac, h]; done)))
      | with_reducible refine Lu fun x => ?_
      | with_reducible refine Ue (fun _ => ?_) (fun _ => ?_)
      | (refine Dn (fun h => by simp only [h, Me, Cg, Cb, ite_self]) (fun x h => ?_); (try simp only [h, Cg]))
      | (refine Fm (fun h => ?_) (fun h => ?_) <;> simp only [h, if_true, if_false, Bool.false_eq_true])
abbrev R_ := LX
abbrev K_ := S → Option R_
noncomputable def H : Hd := ⟨[.agg [Si, Si], .lf (.vec 16 (.int .i32)) none, Sv], [Ow 21], (.seq .d (.seq .d (.cut [3, 7] [] (.seq .d (.blk (.loop [2, 3, 4, 7, 8] [] (.seq .d (.cut [2, 3, 4, 7, 8] [] (.blk (.seq .d (.seq .d (.blk (.loop [2, 3, 4, 7, 8, 9, 11] [] (.seq .d (.cut [2, 3, 4, 7, 8, 9, 11] [] (.blk (.cut [2, 3, 4, 7, 8, 9, 11, 12, 13] [] .d .d)) .d))))))) .d))))) .d))), ⟨[(177, F177.c), (178, F178.c), (179, F179.c), (180, F180.c)], gl, false⟩, [], f113⟩
def t26 (b : LU) (a f : Int) (g : LX) (h k : Int) (m : LX) (n : Int) (o : Int32) (p : Int) (u v : LX) : S := ⟨[(2, vv b), (3, .ptr 0 []), (4, .ptr 1 []), (7, .own 2), (8, vi h), (9, .ptr 3 []), (11, vi k)], [.box 64 (.agg [vi a, vi f]), .box 95 (.val (.vec 16 (.int .i32)) g), Aw 21 m, .box 219 (.agg [vi n, vx o, .agg [vi p, .val (.vec 16 (.int .i32)) u, .val (.vec 16 (.int .i32)) v]])], []⟩
def z26 (kn18 : K_) : Nat → S → Option R_ := H.i P_ [r,r,l,r,d,(lp kn18),r,l,d,r,r,d]
def t18 (b : LU) (a f : Int) (g : LX) (h : Int) (w : LX) : S := ⟨[(2, vv b), (3, .ptr 0 []), (4, .ptr 1 []), (7, .own 2), (8, vi h)], [.box 64 (.agg [vi a, vi f]), .box 95 (.val (.vec 16 (.int .i32)) g), Aw 21 w], []⟩
def z18 : Nat → S → Option R_ := H.i P_ [r,r,l,r,d]
def x34 (a f : Int) (w : LX) : Option R_ := H.e P_ [r,r,r] ⟨[(3, .ptr 0 []), (7, .own 1)], [.box 64 (.agg [vi a, vi f]), Aw 21 w], []⟩
def x32 (kn18 : K_) (b : LU) (a f : Int) (g : LX) (h : Int) (m : LX) : Option R_ := H.e P_ [r,r,l,r,d,(lp kn18),r,r] ⟨[(2, vv b), (3, .ptr 0 []), (4, .ptr 1 []), (7, .own 2), (8, vi h)], [.box 64 (.agg [vi a, vi f]), .box 95 (.val (.vec 16 (.int .i32)) g), Aw 21 m], []⟩
def x30 (kn18 kn26 : K_) (b : LU) (h a f : Int) (g : LX) (k : Int) (af : LX) (y : Int) (aa : Int32) (ab : Int) (ac ad : LX) : Option R_ := H.e P_ [r,r,l,r,d,(lp kn18),r,l,d,r,r,d,(lp kn26),r,r] ⟨[(2, vv b), (3, .ptr 0 []), (4, .ptr 1 []), (7, .own 2), (8, vi h), (9, .ptr 3 []), (11, vi k)], [.box 64 (.agg [vi a, vi f]), .box 95 (.val (.vec 16 (.int .i32)) g), Aw 21 af, .box 219 (.agg [vi y, vx aa, .agg [vi ab, .val (.vec 16 (.int .i32)) ac, .val (.vec 16 (.int .i32)) ad]])], []⟩
def x29 (kn18 kn26 : K_) (b : LU) (h a f : Int) (g : LX) (k : Int) (ae : Int32) (m : LX) (n : Int) (o : Int32) (p : Int) (u v : LX) (y : Int) (aa : Int32) (ab : Int) (ac ad : LX) : Option R_ := H.e P_ [r,r,l,r,d,(lp kn18),r,l,d,r,r,d,(lp kn26),r,l,d,r] ⟨[(2, vv b), (3, .ptr 0 []), (4, .ptr 1 []), (7, .own 2), (8, vi h), (9, .ptr 3 []), (11, vi k), (12, vx ae), (13, .ptr 4 [])], [.box 64 (.agg [vi a, vi f]), .box 95 (.val (.vec 16 (.int .i32)) g), Aw 21 m, .box 219 (.agg [vi n, vx o, .agg [vi p, .val (.vec 16 (.int .i32)) u, .val (.vec 16 (.int .i32)) v]]), .box 219 (.agg [vi y, vx aa, .agg [vi ab, .val (.vec 16 (.int .i32)) ac, .val (.vec 16 (.int .i32)) ad]])], []⟩
def x26 (kn18 : K_) (b : LU) (a f : Int) (g : LX) (h k : Int) (m : LX) (n : Int) (o : Int32) (p : Int) (u v : LX) : Option R_ := H.e P_ [r,r,l,r,d,(lp kn18),r,l,d,r,r,d] (t26 b a f g h k m n o p u v)
def x18 (b : LU) (a f : Int) (g : LX) (h : Int) (w : LX) : Option R_ := H.e P_ [r,r,l,r,d] (t18 b a f g h w)
theorem e34 : x34 = Jh := by kernel_rfl
theorem e32 (kn18 : K_) (b : LU) (a f : Int) (g : LX) : x32 kn18 b a f g = Ra (fun h w => kn18 (t18 b a f g h w)) b a f g := by kernel_rfl
theorem e30 (kn18 kn26 : K_) (b : LU) (a f : Int) (g : LX) (h : Int) : x30 kn18 kn26 b h a f g = Pz (fun k m n o p u v => kn26 (t26 b a f g h k m n o p u v)) b h a f g := by kernel_rfl
theorem e29 (kn18 kn26 : K_) (b : LU) (a f : Int) (g : LX) (h : Int) : x29 kn18 kn26 b h a f g = Pw (fun k m n o p u v => kn26 (t26 b a f g h k m n o p u v)) b h a f g := Eq.trans (b := Qs (x30 kn18 kn26 b h a f g) b h a f g) (by kernel_rfl) (by simp only [e30] <;> rfl)
theorem i26 (kn18 : K_) (b : LU) (a f : Int) (g : LX) (h : Int) : ∀ (q : Nat) (k : Int) (m : LX) (n : Int) (o : Int32) (p : Int) (u v : LX), z26 kn18 q (t26 b a f g h k m n o p u v) = Gh (fun h w => kn18 (t18 b a f g h w)) b a f g h q k m n o p u v :=
 ind (fun _ _ _ _ _ _ _ => by kernel_rfl) fun q ih k m n o p u v => Eq.trans (b := Of (x29 kn18 (z26 kn18 q) b h a f g) (x32 kn18 b a f g) b a f g h k m n o p u v) (by kernel_rfl) (by rw [Ahc]; simp only [e29, e32, ih] <;> rfl)
theorem e26 (kn18 : K_) (b : LU) (a f : Int) (g : LX) : x26 kn18 b a f g = Qh (fun h w => kn18 (t18 b a f g h w)) b a f g := by funext h k m n o p u v; exact Eq.trans (by kernel_rfl) ((i26 kn18 b a f g h Bn k m n o p u v).trans (by rw [Ak]; rfl))
theorem i18 (b : LU) (a f : Int) (g : LX) : ∀ (q : Nat) (h : Int) (w : LX), z18 q (t18 b a f g h w) = Ct b a f g q h w :=
 ind (fun _ _ => by kernel_rfl) fun q ih h w => Eq.trans (b := Jl (x26 (z18 q) b a f g) x34 b a f g h w) (by kernel_rfl) (by simp only [e26, e34, ih] <;> rfl)
theorem e18 : x18 = Qy := by funext b a f g h w; exact Eq.trans (by kernel_rfl) ((i18 b a f g Bn h w).trans (by rw [Ak]; rfl))
noncomputable def F := u4 Hm
theorem rn x : H.u P_ x = F x := Eq.trans (b := u4 (Sp x18) x) (by kernel_rfl) (by simp only [e18] <;> rfl)
noncomputable def c : Con := ⟨H.p, H.r, F⟩
theorem ok : ConOk P_ gl 113 c := co H func113 (.cons F177.ok (.cons F178.ok (.cons F179.ok (.cons F180.ok .nil)))) rn
end F113
namespace F112
noncomputable def H : Hd := ⟨[.agg [Si, Si], Sw], [Sw, Si], .d, ⟨[(176, F176.c)], gl, false⟩, [], f112⟩
noncomputable def F := u3 Ka
theorem rn x : H.u P_ x = F x := by kernel_rfl
noncomputable def c : Con := ⟨H.p, H.r, F⟩
theorem ok : ConOk P_ gl 112 c := co H func112 (.cons F176.ok .nil) rn
end F112
namespace F62
def Py (f a b : Int) (g : LX) (h : LU) : Option (LX × Int) :=
if (Bm f 0) then
some (([] : LX), f)
else
(fun u : Option (LX × Int) =>
(fun v : Option (LX × Int) =>
(fun w : Option (LX × Int) =>
both (
v) [
w,
w]) (
both (
u) [
v])) (
bo (
u))) (
(Hm a b g h).bind fun m =>
(Ka a b m).bind fun (n, o) =>
some (n, o))
theorem Ahq : @Py = @De := by
  unfold Py De
  try simp only [Anp, Af4, Af8]
  all_goals
    repeat (refine funext fun _ => ?_)
    repeat' first
      | with_reducible rfl
      | with_reducible refine Hz ?_ ?_
      | with_reducible refine Hy ?_ ?_ ?_
      | with_reducible refine Ic ?_ ?_ ?_ ?_
      | ((with_reducible refine Lz ?_ ?_); focus (intro h; first | (subst h; rfl) | (simp only [h]; rfl) | (simp [Fz, Ac, h]; done)))
      | with_reducible refine Lu fun x => ?_
      | with_reducible refine Ue (fun _ => ?_) (fun _ => ?_)
      | (refine Dn (fun h => by simp only [h, Me, Cg, Cb, ite_self]) (fun x h => ?_); (try simp only [h, Cg]))
      | (refine Fm (fun h => ?_) (fun h => ?_) <;> simp only [h, if_true, if_false, Bool.false_eq_true])
abbrev R_ := (LX × Int)
noncomputable def H : Hd := ⟨[.agg [Si, Si], .lf (.vec 16 (.int .i32)) none, Si, Sb], [Sw, Si], (.seq .d (.seq .d (.seq .d (.cut [4, 5, 10, 11] [] .d (.seq .d (.seq (.mode false) .d)))))), ⟨[(109, F109.c), (110, F110.c), (111, F111.c), (112, F112.c), (113, F113.c)], gl, false⟩, [], f62⟩
def x2 (f a b : Int) (g : LX) (h : LU) : Option R_ := H.e P_ [r,r,r,r] ⟨[(4, .ptr 0 []), (5, .ptr 1 []), (10, .own 2), (11, vi f)], [.box 64 (.agg [vi a, vi b]), .box 95 (.val (.vec 16 (.int .i32)) g), Av 194 h], []⟩
theorem e2 : x2 = El := Eq.trans (b := Py) (by kernel_rfl) (by rw [Ahq]; rfl)
noncomputable def F := u5 Hh
theorem rn x : H.u P_ x = F x := Eq.trans (b := u5 (Kh x2) x) (by kernel_rfl) (by simp only [e2] <;> rfl)
noncomputable def c : Con := ⟨H.p, H.r, F⟩
theorem ok : ConOk P_ gl 62 c := co H func62 (.cons F109.ok (.cons F110.ok (.cons F111.ok (.cons F112.ok (.cons F113.ok .nil))))) rn
end F62
namespace F198
abbrev R_ := LB
noncomputable def H : Hd := ⟨[Si, Sx], [Ob 5], (.seq .d (.seq .d (.seq .d (.cut [0, 5] [] .d .d)))), ⟨[(234, F234.c)], gl, false⟩, [], f198⟩
def x2 (a b : Int) : Option R_ := H.e P_ [r,r,r,r] ⟨[(0, vi a), (5, vi b)], [], []⟩
theorem e2 : x2 = Hj := by kernel_rfl
noncomputable def F := u2 Xi
theorem rn x : H.u P_ x = F x := Eq.trans (b := u2 (Yf x2) x) (by kernel_rfl) (by simp only [e2] <;> rfl)
noncomputable def c : Con := ⟨H.p, H.r, F⟩
theorem ok : ConOk P_ gl 198 c := co H func198 (.cons F234.ok .nil) rn
end F198
namespace F137
abbrev R_ := (LB × Int)
noncomputable def H : Hd := ⟨[Si, Sw], [Ob 5, Si], (.seq .d (.seq .d (.seq .d (.cut [6] [] (.seq .d (.blk (.loop [0, 1, 6, 7] [⟨6, [], .own 5 (.int .u8)⟩] .d))) .d)))), ⟨[(176, F176.c), (198, F198.c)], gl, false⟩, [], f137⟩
def t4 (f : Int) (a : LX) (g : Int) (b : LB) : S := ⟨[(0, vi f), (1, vw a), (6, .own 0), (7, vi g)], [Ab 5 b], []⟩
def z4 : Nat → S → Option R_ := H.i P_ [r,r,r,l,r,d]
def x6 (b : LB) : Option R_ := H.e P_ [r,r,r,r] ⟨[(6, .own 0)], [Ab 5 b], []⟩
def x4 (f : Int) (a : LX) (g : Int) (b : LB) : Option R_ := H.e P_ [r,r,r,l,r,d] (t4 f a g b)
theorem e6 : x6 = Adg := by kernel_rfl
theorem i4 (f : Int) (a : LX) : ∀ (q : Nat) (g : Int) (b : LB), z4 q (t4 f a g b) = Fi f a q g b :=
 ind (fun _ _ => by kernel_rfl) fun q ih g b => Eq.trans (b := Ma x6 (fun g b => (z4 q) (t4 f a g b)) f a g b) (by kernel_rfl) (by simp only [e6, ih] <;> rfl)
theorem e4 : x4 = Adx := by funext f a g b; exact Eq.trans (by kernel_rfl) ((i4 f a Bn g b).trans (by rw [Ak]; rfl))
noncomputable def F := u2 Ti
theorem rn x : H.u P_ x = F x := Eq.trans (b := u2 (Ub x4) x) (by kernel_rfl) (by simp only [e4] <;> rfl)
noncomputable def c : Con := ⟨H.p, H.r, F⟩
theorem ok : ConOk P_ gl 137 c := co H func137 (.cons F176.ok (.cons F198.ok .nil)) rn
end F137
namespace F87
abbrev R_ := (LB × Int)
noncomputable def H : Hd := ⟨[.agg [Ss, Sb, .agg [Si, Si, Si, Si, Si], Sl, Si, Sb, Sz, Si]], [Ob 5, Si], (.seq .d (.seq .d (.seq .d (.seq .d (.cut [1, 7, 8] [] .d .d))))), ⟨[(61, F61.c), (62, F62.c), (83, F83.c), (135, F135.c), (137, F137.c)], gl, false⟩, [], f87⟩
def x2 (o : LX) (f : Int) (p g : LB) (h k a m n : Int) (u : LI) (b : Int) (v : LB) (w : Bool) (y : Int) : Option R_ := H.e P_ [r,r,r,r,r] ⟨[(1, .ptr 0 []), (7, vw o), (8, vi f)], [.box 28 (.agg [vs p, vb g, .agg [vi h, vi k, vi a, vi m, vi n], vl u, vi b, vb v, vt w, vi y])], []⟩
theorem e2 : x2 = Rz := by kernel_rfl
noncomputable def F := u12 Pe
theorem rn x : H.u P_ x = F x := Eq.trans (b := u12 (Rm x2) x) (by kernel_rfl) (by simp only [e2] <;> rfl)
noncomputable def c : Con := ⟨H.p, H.r, F⟩
theorem ok : ConOk P_ gl 87 c := co H func87 (.cons F61.ok (.cons F62.ok (.cons F83.ok (.cons F135.ok (.cons F137.ok .nil))))) rn
end F87
namespace F45
def Ty (g a : LB) (m o p u v : Int) (b : LI) (f : Int) (n : LB) (h : Bool) (k : Int) : Option (LB × LB × Int × Int × Int × Int × Int × LI × Int × LB × Bool × Int × Int) :=
if (geq (Ac b) 0) then
(Ph a m o p u v g).bind fun (ag, ak, w) =>
if (Bm w 0) then
some (g, a, m, o, p, u, v, b, f, n, h, k, w)
else
(Br a ag (Ac a)).bind fun al =>
some (g, al, m, o, p, u, v, ak, f, n, h, k, 0)
else
if (geq f (Ac b)) then
if (Cu (Ac a) 4000) then
some (g, a, m, o, p, u, v, b, f, n, h, k, 38)
else
some (g, a, m, o, p, u, v, b, f, n, h, k, (-1 : Int))
else
(Pe g a m o p u v b f n h k).bind fun (am, y) =>
if (Bm y 0) then
some (g, a, m, o, p, u, v, b, f, n, h, k, y)
else
(Fz ([] : LB) n).bind fun an =>
(Fz an am).bind fun ah =>
(fun aj : Option (LB × LB × Int × Int × Int × Int × Int × LI × Int × LB × Bool × Int × Int) =>
(fun ap : Option (LB × LB × Int × Int × Int × Int × Int × LI × Int × LB × Bool × Int × Int) =>
(fun ao : Option (LB × LB × Int × Int × Int × Int × Int × LI × Int × LB × Bool × Int × Int) =>
(fun aq : Option (LB × LB × Int × Int × Int × Int × Int × LI × Int × LB × Bool × Int × Int) =>
(fun ar : Option (LB × LB × Int × Int × Int × Int × Int × LI × Int × LB × Bool × Int × Int) =>
(fun au : Option (LB × LB × Int × Int × Int × Int × Int × LI × Int × LB × Bool × Int × Int) =>
both (
both (
aq) [
aq,
au]) [
ap,
ap,
both (
au) [
ar,
ar]]) (
bo (
ao))) (
both (
ao) [
aj])) (
both (
aj) [
ao])) (
(Aj b f).bind fun ad =>
(Br a ad (Ac a)).bind fun ae =>
some (g, ae, m, o, p, u, v, b, (Ae f 1), ah, h, k, 0))) (
(fun av : Option (LB × LB × Int × Int × Int × Int × Int × LI × Int × LB × Bool × Int × Int) =>
both (
both (
aj) [
av]) [
(Aj b f).bind fun ad =>
(fun ax : Option (LB × LB × Int × Int × Int × Int × Int × LI × Int × LB × Bool × Int × Int) =>
(fun ay : Option (LB × LB × Int × Int × Int × Int × Int × LI × Int × LB × Bool × Int × Int) =>
bo2 (
ay)) (
bo (
ax))) (
(Br a ad (Ac a)).bind fun ae =>
some (g, ae, m, o, p, u, v, b, (Ae f 1), ah, h, k, 0)),
both (
av) [
aj]]) (
(Aj b f).bind fun ad =>
(Br a ad (Ac a)).bind fun ae =>
some (g, ae, m, o, p, u, v, b, (Ae f 1), ah, h, k, 0)))) (
(Aj b f).bind fun ad =>
(fun az : Option (LB × LB × Int × Int × Int × Int × Int × LI × Int × LB × Bool × Int × Int) =>
bo (
az)) (
(Br a ad (Ac a)).bind fun ae =>
some (g, ae, m, o, p, u, v, b, (Ae f 1), ah, h, k, 0)))
theorem Akh : @Ty = @Iy := by
  unfold Ty Iy
  try simp only [Anp, Af4, Af8]
  all_goals
    repeat (refine funext fun _ => ?_)
    repeat' first
      | with_reducible rfl
      | with_reducible refine Hz ?_ ?_
      | with_reducible refine Hy ?_ ?_ ?_
      | with_reducible refine Ic ?_ ?_ ?_ ?_
      | ((with_reducible refine Lz ?_ ?_); focus (intro h; first | (subst h; rfl) | (simp only [h]; rfl) | (simp [Fz, Ac, h]; done)))
      | with_reducible refine Lu fun x => ?_
      | with_reducible refine Ue (fun _ => ?_) (fun _ => ?_)
      | (refine Dn (fun h => by simp only [h, Me, Cg, Cb, ite_self]) (fun x h => ?_); (try simp only [h, Cg]))
      | (refine Fm (fun h => ?_) (fun h => ?_) <;> simp only [h, if_true, if_false, Bool.false_eq_true])
def Ui (j3 : LB → LB → Int → Int → Int → Int → Int → LI → Int → LB → Bool → Int → Option (LB × LB × Int × Int × Int × Int × Int × LI × Int × LB × Bool × Int × Int)) (j4 : LB → LB → Int → Int → Int → Int → Int → LI → Int → LB → Bool → Int → Option (LB × LB × Int × Int × Int × Int × Int × LI × Int × LB × Bool × Int × Int)) (g a : LB) (m o p u v : Int) (b : LI) (f : Int) (n : LB) (h : Bool) (k : Int) : Option (LB × LB × Int × Int × Int × Int × Int × LI × Int × LB × Bool × Int × Int) :=
if (geq m 0) then
(Iu a).bind fun (ag, aa, w, ab, ac, y, ai) =>
if (Bm ai 0) then
some (g, a, m, o, p, u, v, b, f, n, h, k, ai)
else
both (
(Br a ag (Ac a)).bind fun af =>
bo (
j3 g af aa w ab ac y b f n h k)) [
(Br a ag (Ac a)).bind fun af =>
j3 g af aa w ab ac y b f n h k]
else
j4 g a m o p u v b f n h k
theorem Akt : @Ui = @Gn := by
  unfold Ui Gn
  repeat (refine funext fun _ => ?_)
  repeat' first
    | with_reducible rfl
    | with_reducible refine Hz ?_ ?_
    | with_reducible refine Hy ?_ ?_ ?_
    | with_reducible refine Ic ?_ ?_ ?_ ?_
    | ((with_reducible refine Lz ?_ ?_); focus (intro h; first | (subst h; rfl) | (simp only [h]; rfl) | (simp [Fz, Ac, h]; done)))
    | with_reducible refine Lu fun x => ?_
    | with_reducible refine Ue (fun _ => ?_) (fun _ => ?_)
    | (refine Dn (fun h => by simp only [h, Me, Cg, Cb, ite_self]) (fun x h => ?_); (try simp only [h, Cg]))
    | (refine Fm (fun h => ?_) (fun h => ?_) <;> simp only [h, if_true, if_false, Bool.false_eq_true])
abbrev R_ := (LB × LB × Int × Int × Int × Int × Int × LI × Int × LB × Bool × Int × Int)
noncomputable def H : Hd := ⟨[.agg [Ss, Sb, .agg [Si, Si, Si, Si, Si], Sl, Si, Sb, Sz, Si]], [.agg [Ss, Sb, .agg [Si, Si, Si, Si, Si], Sl, Si, Sb, Sz, Si], Si], (.seq .d (.cut [1, 2] [] (.seq .d (.cond (.seq .d (.seq .d (.cut [1, 2, 5] [] (.mode false) .d))) .d)) (.seq .d (.seq .d (.seq .d (.seq .d (.seq .d (.seq (.mode false) .d)))))))), ⟨[(81, F81.c), (85, F85.c), (86, F86.c), (87, F87.c)], gl, false⟩, [], f45⟩
def x4 (g a : LB) (m o p u v : Int) (b : LI) (f : Int) (n : LB) (h : Bool) (k : Int) : Option R_ := H.e P_ [r,r] ⟨[(1, .ptr 0 []), (2, .ptr 1 [])], [.box 28 (.agg [vs g, vb a, .agg [vi m, vi o, vi p, vi u, vi v], vl b, vi f, vb n, vt h, vi k]), .box 28 (.agg [vs ([] : LB), .nils, .agg [vi 0, vi 0, vi 0, vi 0, vi 0], .nils, vi 0, .nils, vt false, vi 0])], []⟩
def x3 (g af : LB) (aa w ab ac y : Int) (b : LI) (f : Int) (n : LB) (h : Bool) (k : Int) : Option R_ := H.e P_ [r,l,r,l,r,r,r] ⟨[(1, .ptr 0 []), (2, .ptr 1 []), (5, .ptr 2 [])], [.box 28 (.agg [vs g, vb af, .agg [vi aa, vi w, vi ab, vi ac, vi y], vl b, vi f, vb n, vt h, vi k]), .box 28 (.agg [vs ([] : LB), .nils, .agg [vi 0, vi 0, vi 0, vi 0, vi 0], .nils, vi 0, .nils, vt false, vi 0]), .box 24 (.agg [vi aa, vi w, vi ab, vi ac, vi y])], []⟩
theorem e4 : x4 = Nt := Eq.trans (b := Ty) (by kernel_rfl) (by rw [Akh]; rfl)
theorem e3 : x3 = Vy := by kernel_rfl
noncomputable def F := u12 Bv
theorem rn x : H.u P_ x = F x := Eq.trans (b := u12 (Ui x3 x4) x) (by kernel_rfl) (by unfold F; rw [Akt]; simp only [e3, e4] <;> rfl)
noncomputable def c : Con := ⟨H.p, H.r, F⟩
theorem ok : ConOk P_ gl 45 c := co H func45 (.cons F81.ok (.cons F85.ok (.cons F86.ok (.cons F87.ok .nil)))) rn
end F45
namespace F39
abbrev R_ := Bool
noncomputable def H : Hd := ⟨[.agg [Ss, Sb, .agg [Si, Si, Si, Si, Si], Sl, Si, Sb, Sz, Si]], [Sz], (.seq .d (.cut [1] [] (.seq .d (.cond .d (.cut [1] [] .d .d))) .d)), ⟨[(45, F45.c), (80, F80.c), (81, F81.c), (82, F82.c), (83, F83.c), (84, F84.c)], gl, false⟩, [], f39⟩
def x4 (o p : LB) (b f g h k : Int) (m : LI) (a : Int) (n : LB) (u : Bool) (v : Int) : Option R_ := H.e P_ [r,r] ⟨[(1, .ptr 0 [])], [.box 28 (.agg [vs o, vb p, .agg [vi b, vi f, vi g, vi h, vi k], vl m, vi a, vb n, vt u, vi v])], []⟩
def x3 (o p : LB) (b f g h k : Int) (m : LI) (a : Int) (n : LB) (u : Bool) (v : Int) : Option R_ := H.e P_ [r,l,r,r,r] ⟨[(1, .ptr 0 [])], [.box 28 (.agg [vs o, vb p, .agg [vi b, vi f, vi g, vi h, vi k], vl m, vi a, vb n, vt u, vi v])], []⟩
theorem e4 : x4 = Bo := by kernel_rfl
theorem e3 : x3 = Tu := Eq.trans (b := Uw x4) (by kernel_rfl) (by simp only [e4] <;> rfl)
noncomputable def F := u12 Lb
theorem rn x : H.u P_ x = F x := Eq.trans (b := u12 (Tz x4 x3) x) (by kernel_rfl) (by simp only [e4, e3] <;> rfl)
noncomputable def c : Con := ⟨H.p, H.r, F⟩
theorem ok : ConOk P_ gl 39 c := co H func39 (.cons F45.ok (.cons F80.ok (.cons F81.ok (.cons F82.ok (.cons F83.ok (.cons F84.ok .nil)))))) rn
end F39
namespace F40
noncomputable def H : Hd := ⟨[Si], [Sz], .d, ⟨[], gl, false⟩, [], f40⟩
noncomputable def F := Mw
theorem rn x : H.u P_ x = F x := by kernel_rfl
noncomputable def c : Con := ⟨H.p, H.r, F⟩
theorem ok : ConOk P_ gl 40 c := co H func40 .nil rn
end F40
namespace F11
noncomputable def H : Hd := ⟨[.agg [Ss, Sb, .agg [Si, Si, Si, Si, Si], Sl, Si, Sb, Sz, Si]], [Si], .d, ⟨[(39, F39.c), (40, F40.c)], gl, false⟩, [], f11⟩
noncomputable def F := u12 Rh
theorem rn x : H.u P_ x = F x := by kernel_rfl
noncomputable def c : Con := ⟨H.p, H.r, F⟩
theorem ok : ConOk P_ gl 11 c := co H func11 (.cons F39.ok (.cons F40.ok .nil)) rn
end F11
namespace F70
noncomputable def H : Hd := ⟨[.agg [Ss, Sb, .agg [Si, Si, Si, Si, Si], Sl, Si, Sb, Sz, Si]], [Si], .d, ⟨[], gl, false⟩, [], f70⟩
noncomputable def F := u12 Nz
theorem rn x : H.u P_ x = F x := by kernel_rfl
noncomputable def c : Con := ⟨H.p, H.r, F⟩
theorem ok : ConOk P_ gl 70 c := co H func70 .nil rn
end F70
namespace F32
noncomputable def H : Hd := ⟨[.agg [Ss, Sb, .agg [Si, Si, Si, Si, Si], Sl, Si, Sb, Sz, Si]], [Si, Si], .d, ⟨[(11, F11.c), (70, F70.c)], gl, false⟩, [], f32⟩
noncomputable def F := u12 Wo
theorem rn x : H.u P_ x = F x := by kernel_rfl
noncomputable def c : Con := ⟨H.p, H.r, F⟩
theorem ok : ConOk P_ gl 32 c := co H func32 (.cons F11.ok (.cons F70.ok .nil)) rn
end F32
namespace F33
noncomputable def H : Hd := ⟨[Si], [Si, Si], .d, ⟨[], gl, false⟩, [], f33⟩
noncomputable def F := Amw
theorem rn x : H.u P_ x = F x := by kernel_rfl
noncomputable def c : Con := ⟨H.p, H.r, F⟩
theorem ok : ConOk P_ gl 33 c := co H func33 .nil rn
end F33
namespace F34
noncomputable def H : Hd := ⟨[Si], [Si, Si], .d, ⟨[], gl, false⟩, [], f34⟩
noncomputable def F := Lm
theorem rn x : H.u P_ x = F x := by kernel_rfl
noncomputable def c : Con := ⟨H.p, H.r, F⟩
theorem ok : ConOk P_ gl 34 c := co H func34 .nil rn
end F34
namespace F6
abbrev R_ := Bool
noncomputable def H : Hd := ⟨[.agg [.agg [Si, Si], Si, Ss, Sb, Sw, .lf (.list (.list (.int .u8))) none, Sb, Sz, Si], .agg [Ss, Sb, .agg [Si, Si, Si, Si, Si], Sl, Si, Sb, Sz, Si], Si], [Sz], (.seq .d (.cut [2, 3, 4] [] .d .d)), ⟨[(7, F7.c), (28, F28.c), (29, F29.c), (30, F30.c), (31, F31.c), (32, F32.c), (33, F33.c), (34, F34.c)], gl, false⟩, [], f6⟩
def x2 (ai a b f : Int) (g h : LB) (k : LX) (m : List LB) (n : LB) (o : Bool) (p : Int) (u v : LB) (w y aa ab ac : Int) (ad : LI) (ae : Int) (af : LB) (ag : Bool) (ah : Int) : Option R_ := H.e P_ [r,r] ⟨[(2, vi ai), (3, .ptr 0 []), (4, .ptr 1 [])], [.box 67 (.agg [.agg [vi a, vi b], vi f, vs g, vb h, vw k, .val (.list (.list (.int .u8))) m, vb n, vt o, vi p]), .box 28 (.agg [vs u, vb v, .agg [vi w, vi y, vi aa, vi ab, vi ac], vl ad, vi ae, vb af, vt ag, vi ah])], []⟩
theorem e2 : x2 = Kq := by kernel_rfl
noncomputable def F (x : Int × Int × Int × LB × LB × LX × List LB × LB × Bool × Int × LB × LB × Int × Int × Int × Int × Int × LI × Int × LB × Bool × Int × Int) := Ou x.1 x.2.1 x.2.2.1 x.2.2.2.1 x.2.2.2.2.1 x.2.2.2.2.2.1 x.2.2.2.2.2.2.1 x.2.2.2.2.2.2.2.1 x.2.2.2.2.2.2.2.2.1 x.2.2.2.2.2.2.2.2.2.1 x.2.2.2.2.2.2.2.2.2.2.1 x.2.2.2.2.2.2.2.2.2.2.2.1 x.2.2.2.2.2.2.2.2.2.2.2.2.1 x.2.2.2.2.2.2.2.2.2.2.2.2.2.1 x.2.2.2.2.2.2.2.2.2.2.2.2.2.2.1 x.2.2.2.2.2.2.2.2.2.2.2.2.2.2.2.1 x.2.2.2.2.2.2.2.2.2.2.2.2.2.2.2.2.1 x.2.2.2.2.2.2.2.2.2.2.2.2.2.2.2.2.2.1 x.2.2.2.2.2.2.2.2.2.2.2.2.2.2.2.2.2.2.1 x.2.2.2.2.2.2.2.2.2.2.2.2.2.2.2.2.2.2.2.1 x.2.2.2.2.2.2.2.2.2.2.2.2.2.2.2.2.2.2.2.2.1 x.2.2.2.2.2.2.2.2.2.2.2.2.2.2.2.2.2.2.2.2.2.1 x.2.2.2.2.2.2.2.2.2.2.2.2.2.2.2.2.2.2.2.2.2.2
theorem rn (x : Int × Int × Int × LB × LB × LX × List LB × LB × Bool × Int × LB × LB × Int × Int × Int × Int × Int × LI × Int × LB × Bool × Int × Int) : H.u P_ x = F x := Eq.trans (b := Kg x2 x.1 x.2.1 x.2.2.1 x.2.2.2.1 x.2.2.2.2.1 x.2.2.2.2.2.1 x.2.2.2.2.2.2.1 x.2.2.2.2.2.2.2.1 x.2.2.2.2.2.2.2.2.1 x.2.2.2.2.2.2.2.2.2.1 x.2.2.2.2.2.2.2.2.2.2.1 x.2.2.2.2.2.2.2.2.2.2.2.1 x.2.2.2.2.2.2.2.2.2.2.2.2.1 x.2.2.2.2.2.2.2.2.2.2.2.2.2.1 x.2.2.2.2.2.2.2.2.2.2.2.2.2.2.1 x.2.2.2.2.2.2.2.2.2.2.2.2.2.2.2.1 x.2.2.2.2.2.2.2.2.2.2.2.2.2.2.2.2.1 x.2.2.2.2.2.2.2.2.2.2.2.2.2.2.2.2.2.1 x.2.2.2.2.2.2.2.2.2.2.2.2.2.2.2.2.2.2.1 x.2.2.2.2.2.2.2.2.2.2.2.2.2.2.2.2.2.2.2.1 x.2.2.2.2.2.2.2.2.2.2.2.2.2.2.2.2.2.2.2.2.1 x.2.2.2.2.2.2.2.2.2.2.2.2.2.2.2.2.2.2.2.2.2.1 x.2.2.2.2.2.2.2.2.2.2.2.2.2.2.2.2.2.2.2.2.2.2) (by kernel_rfl) (by simp only [e2] <;> rfl)
noncomputable def c : Con := ⟨H.p, H.r, F⟩
theorem ok : ConOk P_ gl 6 c := co H func6 (.cons F7.ok (.cons F28.ok (.cons F29.ok (.cons F30.ok (.cons F31.ok (.cons F32.ok (.cons F33.ok (.cons F34.ok .nil)))))))) rn
end F6
end
end Go.Proofs.YtnoflhhhiiaclaaGreatDoor
