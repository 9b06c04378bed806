/- A part of the proof of a statement of this seat (see the text that ends in Proof): CpOk. No conditions of its own. -/
import Derived.Test.YtneipcijjnibdaaGreatDoorCpBC
import Derived.Test.YtneipcijjnibdaaGreatDoorCpPA
import Derived.Test.YtneipcijjnibdaaGreatDoorCpHA
import Derived.Test.YtneipcijjnibdaaGreatDoorProg
import Derived.KernelRfl
set_option linter.unusedVariables false
set_option linter.unusedSimpArgs false
set_option maxRecDepth 10000
namespace Go.Proofs.YtneipcijjnibdaaGreatDoor
open Go Go.Lv Go.Pl Go.Rx Go.Rx.PS
noncomputable section
def g0 : List Value := [.bool true, .int .i64 0]
def g1 : List Value := [.bool false, .int .i64 0]
def g2 : List Value := [.int .i64 2, .int .i64 2, .int .i64 2, .int .i64 4, .int .i64 4]
def g3 : List Value := [.int .u8 0, .int .u8 1, .int .u8 56, .int .u8 2, .int .u8 57, .int .u8 49, .int .u8 28, .int .u8 3, .int .u8 61, .int .u8 58, .int .u8 42, .int .u8 50, .int .u8 38, .int .u8 29, .int .u8 17, .int .u8 4, .int .u8 62, .int .u8 47, .int .u8 59, .int .u8 36, .int .u8 45, .int .u8 43, .int .u8 51, .int .u8 22, .int .u8 53, .int .u8 39, .int .u8 33, .int .u8 30, .int .u8 24, .int .u8 18, .int .u8 12, .int .u8 5, .int .u8 63, .int .u8 55, .int .u8 48, .int .u8 27, .int .u8 60, .int .u8 41, .int .u8 37, .int .u8 16, .int .u8 46, .int .u8 35, .int .u8 44, .int .u8 21, .int .u8 52, .int .u8 32, .int .u8 23, .int .u8 11, .int .u8 54, .int .u8 26, .int .u8 40, .int .u8 15, .int .u8 34, .int .u8 20, .int .u8 31, .int .u8 10, .int .u8 25, .int .u8 14, .int .u8 19, .int .u8 9, .int .u8 13, .int .u8 8, .int .u8 7, .int .u8 6]
def gl : List (Nat × List Value) := [(0, g0), (1, g1), (2, g2), (3, g3)]
theorem mixed : Tryz.prog.follows .mixedOrders = true := by kernel_rfl
noncomputable abbrev P_ := Tryz.prog
theorem cr (H : Hd) {f : Nat} {F : LTy (shL H.p) → Option (LTy (shL H.r))} (hf : P_.funcs[f]? = some H.f) (hT : Zi P_ H.T) (hA : ∀ p ∈ H.s, Ent P_ p.1) (h : ∀ x, H.u P_ x = F x) (hb : okH H = true := by kernel_rfl) : ConOk P_ H.T.gl f ⟨H.p, H.r, F⟩ := Hd.con mixed H hf hT hA hb h
theorem co (H : Hd) {f : Nat} {F : LTy (shL H.p) → Option (LTy (shL H.r))} (hf : P_.funcs[f]? = some H.f) (hT : Zi P_ H.T) (h : ∀ x, H.u P_ x = F x) (hb : (H.s.isEmpty && okH H) = true := by kernel_rfl) : ConOk P_ H.T.gl f ⟨H.p, H.r, F⟩ := Hd.Baa mixed H hf hT hb h
theorem ent44 : Ent Tryz.prog 44 := Ent.mk Tryz.func44 (by kernel_rfl) rfl
theorem ent63 : Ent Tryz.prog 63 := Ent.mk Tryz.func63 (by kernel_rfl) rfl
theorem ent64 : Ent Tryz.prog 64 := Ent.mk Tryz.func64 (by kernel_rfl) rfl
theorem ent65 : Ent Tryz.prog 65 := Ent.mk Tryz.func65 (by kernel_rfl) rfl
theorem ent78 : Ent Tryz.prog 78 := Ent.mk Tryz.func78 (by kernel_rfl) rfl
theorem ent98 : Ent Tryz.prog 98 := Ent.mk Tryz.func98 (by kernel_rfl) rfl
theorem ent102 : Ent Tryz.prog 102 := Ent.mk Tryz.func102 (by kernel_rfl) rfl
theorem ent137 : Ent Tryz.prog 137 := Ent.mk Tryz.func137 (by kernel_rfl) rfl
theorem ent145 : Ent Tryz.prog 145 := Ent.mk Tryz.func145 (by kernel_rfl) rfl
theorem ent191 : Ent Tryz.prog 191 := Ent.mk Tryz.func191 (by kernel_rfl) rfl
theorem ent196 : Ent Tryz.prog 196 := Ent.mk Tryz.func196 (by kernel_rfl) rfl
theorem ent197 : Ent Tryz.prog 197 := Ent.mk Tryz.func197 (by kernel_rfl) rfl
theorem ent198 : Ent Tryz.prog 198 := Ent.mk Tryz.func198 (by kernel_rfl) rfl
theorem ent228 : Ent Tryz.prog 228 := Ent.mk Tryz.func228 (by kernel_rfl) rfl
theorem ent237 : Ent Tryz.prog 237 := Ent.mk Tryz.func237 (by kernel_rfl) rfl
theorem ent239 : Ent Tryz.prog 239 := Ent.mk Tryz.func239 (by kernel_rfl) rfl
theorem ent246 : Ent Tryz.prog 246 := Ent.mk Tryz.func246 (by kernel_rfl) rfl
theorem ent247 : Ent Tryz.prog 247 := Ent.mk Tryz.func247 (by kernel_rfl) rfl
theorem ent248 : Ent Tryz.prog 248 := Ent.mk Tryz.func248 (by kernel_rfl) rfl
theorem ent255 : Ent Tryz.prog 255 := Ent.mk Tryz.func255 (by kernel_rfl) rfl
theorem ent258 : Ent Tryz.prog 258 := Ent.mk Tryz.func258 (by kernel_rfl) rfl
theorem ent274 : Ent Tryz.prog 274 := Ent.mk Tryz.func274 (by kernel_rfl) rfl
theorem ent275 : Ent Tryz.prog 275 := Ent.mk Tryz.func275 (by kernel_rfl) rfl
theorem ent280 : Ent Tryz.prog 280 := Ent.mk Tryz.func280 (by kernel_rfl) rfl
theorem ent303 : Ent Tryz.prog 303 := Ent.mk Tryz.func303 (by kernel_rfl) rfl
abbrev u2 {A B R : Type} (f : A → B → R) (x : A × B) := f x.1 x.2
abbrev u3 {A B C R : Type} (f : A → B → C → R) := u2 fun a => u2 (f a)
abbrev u4 {A B C D R : Type} (f : A → B → C → D → R) := u2 fun a => u3 (f a)
abbrev u5 {A B C D E R : Type} (f : A → B → C → D → E → R) := u2 fun a => u4 (f a)
abbrev u6 {A B C D E F R : Type} (f : A → B → C → D → E → F → R) := u2 fun a => u5 (f a)
abbrev u7 {A B C D E F G R : Type} (f : A → B → C → D → E → F → G → R) := u2 fun a => u6 (f a)
abbrev u8 {A B C D E F G H R : Type} (f : A → B → C → D → E → F → G → H → R) := u2 fun a => u7 (f a)
abbrev u9 {A B C D E F G H I R : Type} (f : A → B → C → D → E → F → G → H → I → R) := u2 fun a => u8 (f a)
abbrev u10 {A B C D E F G H I J R : Type} (f : A → B → C → D → E → F → G → H → I → J → R) := u2 fun a => u9 (f a)
abbrev u11 {A B C D E F G H I J K R : Type} (f : A → B → C → D → E → F → G → H → I → J → K → R) := u2 fun a => u10 (f a)
abbrev u12 {A B C D E F G H I J K L R : Type} (f : A → B → C → D → E → F → G → H → I → J → K → L → R) := u2 fun a => u11 (f a)
abbrev u13 {A B C D E F G H I J K L M R : Type} (f : A → B → C → D → E → F → G → H → I → J → K → L → M → R) := u2 fun a => u12 (f a)
open Go.Proofs.Tryz
namespace F13
abbrev R_ := (LI × Int)
noncomputable def H : Hd := ⟨[Si, Sq], [Ol 3, Si], (.seq .d (.seq .d (.seq .d (.seq .d (.cut [6] [] (.seq .d (.blk (.loop [0, 1, 6, 7, 15, 16] [⟨6, [], .own 3 (.int .i64)⟩] .d))) .d))))), ⟨[], gl, false⟩, [], f13⟩
def t4 (f : Int) (g : UInt64) (h a : Int) (b : LI) : S := ⟨[(0, vi f), (1, vq g), (6, .own 0), (7, vi h), (15, vi f), (16, vi a)], [Ai 3 b], []⟩
def z4 : Nat → S → Option R_ := H.i P_ [r,r,r,r,l,r,d]
def x6 (b : LI) : Option R_ := H.e P_ [r,r,r,r,r] ⟨[(6, .own 0)], [Ai 3 b], []⟩
def x4 (f : Int) (g : UInt64) (h a : Int) (b : LI) : Option R_ := H.e P_ [r,r,r,r,l,r,d] (t4 f g h a b)
theorem e6 : x6 = Wr := by kernel_rfl
theorem i4 (f : Int) (g : UInt64) : ∀ (q : Nat) (h a : Int) (b : LI), z4 q (t4 f g h a b) = Eu f g q h a b :=
 ind (fun _ _ _ => by kernel_rfl) fun q ih h a b => Eq.trans (b := Hr x6 (fun h a b => (z4 q) (t4 f g h a b)) f g h a b) (by kernel_rfl) (by simp only [e6, ih] <;> rfl)
theorem e4 : x4 = Ls := by funext f g h a b; exact Eq.trans (by kernel_rfl) ((i4 f g Bh h a b).trans (by rw [Ah]; rfl))
noncomputable def F := u2 Dk
theorem rn x : H.u P_ x = F x := Eq.trans (b := u2 (Lq x4) x) (by kernel_rfl) (by simp only [e4] <;> rfl)
noncomputable def c : Con := ⟨H.p, H.r, F⟩
theorem ok : ConOk P_ gl 13 c := co H func13 .nil rn
end F13
namespace F150
noncomputable def H : Hd := ⟨[Si], [Si, Si], .d, ⟨[], gl, false⟩, [], f150⟩
noncomputable def F := Kw
theorem rn x : H.u P_ x = F x := by kernel_rfl
noncomputable def c : Con := ⟨H.p, H.r, F⟩
theorem ok : ConOk P_ gl 150 c := co H func150 .nil rn
end F150
namespace F152
abbrev R_ := (Int32 × Int32 × Int)
noncomputable def H : Hd := ⟨[Si], [Sx, Sx, Si], (.seq .d (.seq (.seq .d (.blk (.cut [0, 7] [] .d .d))) .d)), ⟨[], gl, false⟩, [], f152⟩
def x2 (a : Int) (b : Bool) : Option R_ := H.e P_ [r,l,r,d,r] ⟨[(0, vi a), (7, vt b)], [], []⟩
theorem e2 : x2 = Aa9 := by kernel_rfl
noncomputable def F := Tm
theorem rn x : H.u P_ x = F x := Eq.trans (b := Abt x2 x) (by kernel_rfl) (by simp only [e2] <;> rfl)
noncomputable def c : Con := ⟨H.p, H.r, F⟩
theorem ok : ConOk P_ gl 152 c := co H func152 .nil rn
end F152
namespace F151
noncomputable def H : Hd := ⟨[.agg [Si, Si]], [Si], .d, ⟨[(152, F152.c)], gl, false⟩, [], f151⟩
noncomputable def F := u2 Mh
theorem rn x : H.u P_ x = F x := by kernel_rfl
noncomputable def c : Con := ⟨H.p, H.r, F⟩
theorem ok : ConOk P_ gl 151 c := co H func151 (.cons F152.ok .nil) rn
end F151
namespace F95
noncomputable def H : Hd := ⟨[.agg [Si, Si], Si, Ss], [Si, Sz], .d, ⟨[(150, F150.c), (151, F151.c)], gl, false⟩, [], f95⟩
noncomputable def F := u4 Tt
theorem rn x : H.u P_ x = F x := by kernel_rfl
noncomputable def c : Con := ⟨H.p, H.r, F⟩
theorem ok : ConOk P_ gl 95 c := co H func95 (.cons F150.ok (.cons F151.ok .nil)) rn
end F95
namespace F56
noncomputable def H : Hd := ⟨[.agg [Si, Si], Si, Ss], [.agg [.agg [Si, Si], Si, Ss, Ob 5, Ow 21, .lf (.list (.list (.int .u8))) (some 22), Ob 5, Sz, Si], Si], .d, ⟨[(95, F95.c)], gl, false⟩, [], f56⟩
noncomputable def F := u4 Aj7
theorem rn x : H.u P_ x = F x := by kernel_rfl
noncomputable def c : Con := ⟨H.p, H.r, F⟩
theorem ok : ConOk P_ gl 56 c := co H func56 (.cons F95.ok .nil) rn
end F56
namespace F97
noncomputable def H : Hd := ⟨[.agg [Si, Si]], [Si], .d, ⟨[], gl, false⟩, [], f97⟩
noncomputable def F := u2 Pf
theorem rn x : H.u P_ x = F x := by kernel_rfl
noncomputable def c : Con := ⟨H.p, H.r, F⟩
theorem ok : ConOk P_ gl 97 c := co H func97 .nil rn
end F97
namespace F167
abbrev R_ := Int
noncomputable def H : Hd := ⟨[Si, Sw], [Si], (.seq .d (.seq .d (.seq .d (.seq .d (.cut [] [] (.seq .d (.blk (.loop [5, 6, 22, 23, 24] [] .d))) .d))))), ⟨[(152, F152.c)], gl, false⟩, [], f167⟩
def t4 (b f : Int32) (a : LX) (g : Int) : S := ⟨[(5, vx b), (6, vx f), (22, vw a), (23, vi (Aa a)), (24, vi g)], [], []⟩
def z4 : Nat → S → Option R_ := H.i P_ [r,r,r,r,l,r,d]
def x6 : Option R_ := H.e P_ [r,r,r,r,r] ⟨[], [], []⟩
def x4 (b f : Int32) (a : LX) (g : Int) : Option R_ := H.e P_ [r,r,r,r,l,r,d] (t4 b f a g)
theorem e6 : x6 = Abc := by kernel_rfl
theorem i4 (b f : Int32) (a : LX) : ∀ (q : Nat) (g : Int), z4 q (t4 b f a g) = Px b f a q g :=
 ind (fun _ => by kernel_rfl) fun q ih g => Eq.trans (b := Abk x6 (fun g => (z4 q) (t4 b f a g)) b f a g) (by kernel_rfl) (by simp only [e6, ih] <;> rfl)
theorem e4 : x4 = Aa3 := by funext b f a g; exact Eq.trans (by kernel_rfl) ((i4 b f a Bh g).trans (by rw [Ah]; rfl))
noncomputable def F := u2 Mo
theorem rn x : H.u P_ x = F x := Eq.trans (b := u2 (Ac1 x4) x) (by kernel_rfl) (by simp only [e4] <;> rfl)
noncomputable def c : Con := ⟨H.p, H.r, F⟩
theorem ok : ConOk P_ gl 167 c := co H func167 (.cons F152.ok .nil) rn
end F167
namespace F100
noncomputable def H : Hd := ⟨[.agg [.agg [Si, Si], Si, Ss, Sb, Sw, .lf (.list (.list (.int .u8))) none, Sb, Sz, Si], Si], [Si], .d, ⟨[], gl, false⟩, [], f100⟩
noncomputable def F := u11 Mi
theorem rn x : H.u P_ x = F x := by kernel_rfl
noncomputable def c : Con := ⟨H.p, H.r, F⟩
theorem ok : ConOk P_ gl 100 c := co H func100 .nil rn
end F100
namespace F99
noncomputable def H : Hd := ⟨[.agg [.agg [Si, Si], Si, Ss, Sb, Sw, .lf (.list (.list (.int .u8))) none, Sb, Sz, Si], Si, Si], [Sz], .d, ⟨[], gl, false⟩, [], f99⟩
noncomputable def F := u12 Xt
theorem rn x : H.u P_ x = F x := by kernel_rfl
noncomputable def c : Con := ⟨H.p, H.r, F⟩
theorem ok : ConOk P_ gl 99 c := co H func99 .nil rn
end F99
namespace F155
abbrev R_ := Bool
abbrev K_ := S → Option R_
noncomputable def H : Hd := ⟨[.agg [.agg [Si, Si], Si, Ss, Sb, Sw, .lf (.list (.list (.int .u8))) none, Sb, Sz, Si], Si], [Sz], (.seq .d (.seq .d (.cut [1, 2, 5] [] .d (.seq .d (.seq .d (.cut [1, 2, 5, 6] [] .d (.cut [1, 2, 5] [] .d (.seq .d (.cut [4] [] (.keep [4, 80, 81] true) .d))))))))), ⟨[(97, F97.c), (99, F99.c), (100, F100.c), (167, F167.c)], gl, false⟩, [(197, (.seq .d (.cut [4] [] (.keep [4, 7, 8] true) .d))), (198, .d), (239, (.seq .d (.cut [] [] (.seq .d (.blk (.loop [0, 1, 7, 8] [] (.seq .d (.seq .d (.cut [0, 1, 7, 8] [] (.blk (.seq .d (.cut [0, 1, 5, 7, 8, 16] [] (.keep [0, 1, 5, 7, 8, 16] true) .d))) .d)))))) .d)))], f155⟩
def t16 (b : List LB) (f a g : Int) : S := ⟨[(0, .val (.list (.list (.int .u8))) b), (1, .fn 198 [.ptr 0 []]), (7, vi (Aa b)), (8, vi g)], [.box 3 (vi (Ac (Fw (Ac (De (De (81 : Int) f) a) (7 : Int)) (8 : Int)) (4 : Int)))], [[(4, vt false)], []]⟩
def z16 : Nat → S → Option R_ := H.i P_ [r,r,r,r,r,r,r,r,l,(call 3 197),r,l,(call 2 239),r,l,r,d]
def x24 (w : Bool) : Option R_ := H.e P_ [r,r,r,r,r,r,r,r,r] ⟨[(4, vt (!w))], [], []⟩
def x23 (w : Bool) : Option R_ := H.e P_ [r,r,r,r,r,r,r,r,l,(call 3 197),r,r] ⟨[(4, vt w)], [], [[]]⟩
def x22 : Option R_ := H.e P_ [r,r,r,r,r,r,r,r,l,(call 3 197),r,l,(call 2 239),r,r] ⟨[], [], [[(4, vt false)], []]⟩
def x20 (kn16 : K_) (b : List LB) (f a g : Int) : Option R_ := H.e P_ [r,r,r,r,r,r,r,r,l,(call 3 197),r,l,(call 2 239),r,l,r,d,(lp kn16),r,r,r] ⟨[(0, .val (.list (.list (.int .u8))) b), (1, .fn 198 [.ptr 0 []]), (7, vi (Aa b)), (8, vi g)], [.box 3 (vi (Ac (Fw (Ac (De (De (81 : Int) f) a) (7 : Int)) (8 : Int)) (4 : Int)))], [[(4, vt false)], []]⟩
def x19 (kn16 : K_) (b : List LB) (f a g : Int) (y : LB) : Option R_ := H.e P_ [r,r,r,r,r,r,r,r,l,(call 3 197),r,l,(call 2 239),r,l,r,d,(lp kn16),r,r,l,d,r,r] ⟨[(0, .val (.list (.list (.int .u8))) b), (1, .fn 198 [.ptr 0 []]), (5, vi g), (7, vi (Aa b)), (8, vi g), (16, vt ((Bq (Aa y) (5 : Int)) || (Eh (Aa y) (Ac (Fw (Ac (De (De (81 : Int) f) a) (7 : Int)) (8 : Int)) (4 : Int)))))], [.box 3 (vi (Ac (Fw (Ac (De (De (81 : Int) f) a) (7 : Int)) (8 : Int)) (4 : Int)))], [[(4, vt false)], []]⟩
def x16 (b : List LB) (f a g : Int) : Option R_ := H.e P_ [r,r,r,r,r,r,r,r,l,(call 3 197),r,l,(call 2 239),r,l,r,d] (t16 b f a g)
def x15 (f a k o : Int) (p m : LB) (h : LX) (b : List LB) (n : LB) (u : Bool) (v : Int) : Option R_ := H.e P_ [r,r,r,r,r,r,r] ⟨[(1, vi f), (2, .ptr 0 []), (5, vi a)], [.box 99 (.agg [.agg [vi a, vi k], vi o, vs p, vb m, vw h, .val (.list (.list (.int .u8))) b, vb n, vt u, vi v])], []⟩
def x14 (f a k o : Int) (p m : LB) (h : LX) (b : List LB) (n : LB) (u : Bool) (v aa : Int) : Option R_ := H.e P_ [r,r,r,r,r,r] ⟨[(1, vi f), (2, .ptr 0 []), (5, vi a), (6, vi aa)], [.box 99 (.agg [.agg [vi a, vi k], vi o, vs p, vb m, vw h, .val (.list (.list (.int .u8))) b, vb n, vt u, vi v])], []⟩
def x13 (f a k o : Int) (p m : LB) (h : LX) (b : List LB) (n : LB) (u : Bool) (v : Int) : Option R_ := H.e P_ [r,r,r] ⟨[(1, vi f), (2, .ptr 0 []), (5, vi a)], [.box 99 (.agg [.agg [vi a, vi k], vi o, vs p, vb m, vw h, .val (.list (.list (.int .u8))) b, vb n, vt u, vi v])], []⟩
theorem e24 : x24 = Ny := by kernel_rfl
theorem e23 : x23 = Ik := Eq.trans (b := Ns x24) (by kernel_rfl) (by simp only [e24] <;> rfl)
theorem e22 : x22 = Om := Eq.trans (b := Oa x23) (by kernel_rfl) (by simp only [e23] <;> rfl)
theorem e20 (kn16 : K_) (b : List LB) (f a : Int) : x20 kn16 b f a = Od (fun g => kn16 (t16 b f a g)) b f a := by kernel_rfl
theorem e19 (kn16 : K_) (b : List LB) (f a : Int) : x19 kn16 b f a = Oe (fun g => kn16 (t16 b f a g)) b f a := Eq.trans (b := Oc x23 (x20 kn16 b f a) b f a) (by kernel_rfl) (by simp only [e23, e20] <;> rfl)
theorem i16 (b : List LB) (f a : Int) : ∀ (q : Nat) (g : Int), z16 q (t16 b f a g) = If b f a q g :=
 ind (fun _ => by kernel_rfl) fun q ih g => Eq.trans (b := Oh (x19 (z16 q) b f a) x22 b f a g) (by kernel_rfl) (by simp only [e19, e22, ih] <;> rfl)
theorem e16 : x16 = Nw := by funext b f a g; exact Eq.trans (by kernel_rfl) ((i16 b f a Bh g).trans (by rw [Ah]; rfl))
theorem e15 : x15 = Og := Eq.trans (b := Nr x16) (by kernel_rfl) (by simp only [e16] <;> rfl)
theorem e14 : x14 = Oj := Eq.trans (b := Nq x15) (by kernel_rfl) (by simp only [e15] <;> rfl)
theorem e13 : x13 = Oi := Eq.trans (b := Nu x14) (by kernel_rfl) (by simp only [e14] <;> rfl)
noncomputable def F := u11 Yp
theorem rn x : H.u P_ x = F x := Eq.trans (b := u11 (Qf x13) x) (by kernel_rfl) (by simp only [e13] <;> rfl)
noncomputable def c : Con := ⟨H.p, H.r, F⟩
theorem ok : ConOk P_ gl 155 c := cr H func155 (.cons F97.ok (.cons F99.ok (.cons F100.ok (.cons F167.ok .nil)))) (AnsOk.cons ent197 (AnsOk.cons ent198 (AnsOk.cons ent239 AnsOk.nil))) rn
end F155
namespace F105
noncomputable def H : Hd := ⟨[.agg [.agg [Si, Si], Si, Ss, Sb, Sw, .lf (.list (.list (.int .u8))) none, Sb, Sz, Si]], [Si], .d, ⟨[(95, F95.c), (155, F155.c)], gl, false⟩, [], f105⟩
noncomputable def F := u10 Ub
theorem rn x : H.u P_ x = F x := by kernel_rfl
noncomputable def c : Con := ⟨H.p, H.r, F⟩
theorem ok : ConOk P_ gl 105 c := co H func105 (.cons F95.ok (.cons F155.ok .nil)) rn
end F105
namespace F107
def Ex (a : LB) : Option (LB) :=
Am6 a (
some ([] : LB)) (
(Ck ([] : LB) a).bind fun b =>
some b)
theorem Mr : @Ex = @Bg := by
  unfold Ex Bg
  repeat (refine funext fun _ => ?_)
  repeat' first
    | with_reducible rfl
    | with_reducible refine Fb ?_ ?_
    | with_reducible refine Ey ?_ ?_ ?_
    | with_reducible refine Ew ?_ ?_ ?_ ?_
    | ((with_reducible refine Gm ?_ ?_); focus (intro h; first | (subst h; rfl) | (simp only [h]; rfl) | (simp [Ck, Aa, h]; done)))
    | with_reducible refine Gi fun x => ?_
    | with_reducible refine Jo (fun _ => ?_) (fun _ => ?_)
    | (refine Ct (fun h => by simp only [h, Gj, Bu, Bt, ite_self]) (fun x h => ?_); (try simp only [h, Bu]))
    | (refine Di (fun h => ?_) (fun h => ?_) <;> simp only [h, if_true, if_false, Bool.false_eq_true])
noncomputable def H : Hd := ⟨[Sb], [Ob 5], .d, ⟨[], gl, false⟩, [], f107⟩
noncomputable def F := Bg
theorem rn x : H.u P_ x = F x := Eq.trans (b := Ex x) (by kernel_rfl) (by rw [Mr]; rfl)
noncomputable def c : Con := ⟨H.p, H.r, F⟩
theorem ok : ConOk P_ gl 107 c := co H func107 .nil rn
end F107
namespace F156
def Ec (a : LX) : Option (LX) :=
Am6 a (
some ([] : LX)) (
(Ck ([] : LX) a).bind fun b =>
some b)
theorem Le : @Ec = @Bv := by
  unfold Ec Bv
  repeat (refine funext fun _ => ?_)
  repeat' first
    | with_reducible rfl
    | with_reducible refine Fb ?_ ?_
    | with_reducible refine Ey ?_ ?_ ?_
    | with_reducible refine Ew ?_ ?_ ?_ ?_
    | ((with_reducible refine Gm ?_ ?_); focus (intro h; first | (subst h; rfl) | (simp only [h]; rfl) | (simp [Ck, Aa, h]; done)))
    | with_reducible refine Gi fun x => ?_
    | with_reducible refine Jo (fun _ => ?_) (fun _ => ?_)
    | (refine Ct (fun h => by simp only [h, Gj, Bu, Bt, ite_self]) (fun x h => ?_); (try simp only [h, Bu]))
    | (refine Di (fun h => ?_) (fun h => ?_) <;> simp only [h, if_true, if_false, Bool.false_eq_true])
noncomputable def H : Hd := ⟨[Sw], [Ow 21], .d, ⟨[], gl, false⟩, [], f156⟩
noncomputable def F := Bv
theorem rn x : H.u P_ x = F x := Eq.trans (b := Ec x) (by kernel_rfl) (by rw [Le]; rfl)
noncomputable def c : Con := ⟨H.p, H.r, F⟩
theorem ok : ConOk P_ gl 156 c := co H func156 .nil rn
end F156
namespace F106
abbrev R_ := (Int × Int × Int × LB × LB × LX × (List LB) × LB × Bool × Int)
noncomputable def H : Hd := ⟨[.agg [.agg [Si, Si], Si, Ss, Sb, Sw, .lf (.list (.list (.int .u8))) none, Sb, Sz, Si]], [.agg [.agg [Si, Si], Si, Ss, Ob 5, Ow 21, .lf (.list (.list (.int .u8))) (some 22), Ob 5, Sz, Si]], (.seq .d (.cut [1, 2] [] .d (.seq .d (.seq .d (.cut [1, 2, 3] [] (.seq .d (.blk (.loop [1, 2, 3, 26, 27] [] .d))) .d))))), ⟨[(107, F107.c), (156, F156.c)], gl, false⟩, [], f106⟩
def t6 (w a : List LB) (b f g : Int) (h : LB) (k : Bool) (m : Int) (n : LB) (o : LX) (p : LB) (v : Int) (u : List LB) : S := ⟨[(1, .ptr 0 []), (2, .ptr 1 []), (3, .own 2), (26, vi (Aa (Amv w a))), (27, vi v)], [.box 99 (.agg [.agg [vi b, vi f], vi g, vs h, .own 3, .own 4, .val (.list (.list (.int .u8))) a, .own 5, vt k, vi m]), .box 99 (.agg [.agg [vi 0, vi 0], vi 0, vs ([] : LB), .nils, .nils, .nils, .nils, vt false, vi 0]), .arr 22 (.list (.int .u8)) u, Ab 5 n, Aw 21 o, Ab 5 p], []⟩
def z6 : Nat → S → Option R_ := H.i P_ [r,r,r,r,l,r,d]
def x8 (b f g : Int) (h : LB) (a : List LB) (k : Bool) (m : Int) (u : List LB) (n : LB) (o : LX) (p : LB) : Option R_ := H.e P_ [r,r,r,r,r] ⟨[(1, .ptr 0 []), (2, .ptr 1 []), (3, .own 2)], [.box 99 (.agg [.agg [vi b, vi f], vi g, vs h, .own 3, .own 4, .val (.list (.list (.int .u8))) a, .own 5, vt k, vi m]), .box 99 (.agg [.agg [vi 0, vi 0], vi 0, vs ([] : LB), .nils, .nils, .nils, .nils, vt false, vi 0]), .arr 22 (.list (.int .u8)) u, Ab 5 n, Aw 21 o, Ab 5 p], []⟩
def x6 (w a : List LB) (b f g : Int) (h : LB) (k : Bool) (m : Int) (n : LB) (o : LX) (p : LB) (v : Int) (u : List LB) : Option R_ := H.e P_ [r,r,r,r,l,r,d] (t6 w a b f g h k m n o p v u)
def x5 (b f g : Int) (h : LB) (a : List LB) (k : Bool) (m : Int) (n : LB) (o : LX) (p : LB) : Option R_ := H.e P_ [r,r] ⟨[(1, .ptr 0 []), (2, .ptr 1 [])], [.box 99 (.agg [.agg [vi b, vi f], vi g, vs h, .own 2, .own 3, .val (.list (.list (.int .u8))) a, .own 4, vt k, vi m]), .box 99 (.agg [.agg [vi 0, vi 0], vi 0, vs ([] : LB), .nils, .nils, .nils, .nils, vt false, vi 0]), Ab 5 n, Aw 21 o, Ab 5 p], []⟩
theorem e8 : x8 = Yl := by kernel_rfl
theorem i6 (w a : List LB) (b f g : Int) (h : LB) (k : Bool) (m : Int) (n : LB) (o : LX) (p : LB) : ∀ (q : Nat) (v : Int) (u : List LB), z6 q (t6 w a b f g h k m n o p v u) = Nm w a b f g h k m n o p q v u :=
 ind (fun _ _ => by kernel_rfl) fun q ih v u => Eq.trans (b := Xy x8 (fun v u => (z6 q) (t6 w a b f g h k m n o p v u)) w a b f g h k m n o p v u) (by kernel_rfl) (by simp only [e8, ih] <;> rfl)
theorem e6 : x6 = Yb := by funext w a b f g h k m n o p v u; exact Eq.trans (by kernel_rfl) ((i6 w a b f g h k m n o p Bh v u).trans (by rw [Ah]; rfl))
theorem e5 : x5 = Yr := Eq.trans (b := Zq x6) (by kernel_rfl) (by simp only [e6] <;> rfl)
noncomputable def F := u10 Xs
theorem rn x : H.u P_ x = F x := Eq.trans (b := u10 (Yd x5) x) (by kernel_rfl) (by simp only [e5] <;> rfl)
noncomputable def c : Con := ⟨H.p, H.r, F⟩
theorem ok : ConOk P_ gl 106 c := co H func106 (.cons F107.ok (.cons F156.ok .nil)) rn
end F106
namespace F96
abbrev R_ := (Int × Int × Int × LB × LB × LX × (List LB) × LB × Bool × Int × Int × Int)
noncomputable def H : Hd := ⟨[.agg [.agg [Si, Si], Si, Ss, Sb, Sw, .lf (.list (.list (.int .u8))) none, Sb, Sz, Si]], [.agg [.agg [Si, Si], Si, Ss, Ob 5, Ow 21, .lf (.list (.list (.int .u8))) (some 22), Ob 5, Sz, Si], Si, Si], (.seq .d (.seq .d (.seq .d (.cut [1, 2, 6, 7] [] .d .d)))), ⟨[(105, F105.c), (106, F106.c), (150, F150.c)], gl, false⟩, [], f96⟩
def x2 (u g h b : Int) (k m : LB) (n : LX) (o : List LB) (p : LB) (f : Bool) (a v : Int) : Option R_ := H.e P_ [r,r,r,r] ⟨[(1, .ptr 0 []), (2, .ptr 1 []), (6, vi u), (7, vi v)], [.box 99 (.agg [.agg [vi g, vi h], vi b, vs k, vb m, vw n, .val (.list (.list (.int .u8))) o, vb p, vt f, vi a]), .box 99 (.agg [.agg [vi 0, vi 0], vi 0, vs ([] : LB), .nils, .nils, .nils, .nils, vt false, vi 0])], []⟩
theorem e2 : x2 = Ul := by kernel_rfl
noncomputable def F := u10 Tp
theorem rn x : H.u P_ x = F x := Eq.trans (b := u10 (Ve x2) x) (by kernel_rfl) (by simp only [e2] <;> rfl)
noncomputable def c : Con := ⟨H.p, H.r, F⟩
theorem ok : ConOk P_ gl 96 c := co H func96 (.cons F105.ok (.cons F106.ok (.cons F150.ok .nil))) rn
end F96
namespace F101
abbrev R_ := (LX × Int)
abbrev K_ := S → Option R_
noncomputable def H : Hd := ⟨[Si, Sb], [Ow 21, Si], (.seq .d (.seq .d (.seq .d (.seq .d (.seq .d (.seq .d (.cut [10] [] (.seq .d (.blk (.loop [0, 1, 9, 10, 11] [⟨10, [], .own 21 (.int .i32)⟩] (.seq .d (.cut [0, 1, 9, 10, 11] [] (.blk (.seq .d (.seq .d (.cut [0, 1, 9, 10, 11, 12] [] (.seq .d (.blk (.loop [0, 1, 9, 10, 11, 12, 53, 54] [] .d))) .d)))) .d))))) .d))))))), ⟨[(152, F152.c)], gl, false⟩, [], f101⟩
def t25 (a : Int) (b : LB) (f : Int) (g : LX) (h : Int32) (k : Int) : S := ⟨[(0, vi a), (1, vb b), (9, vi (Fw a (8 : Int))), (10, .own 0), (11, vi f), (12, vx h), (53, vi (Fw a (8 : Int))), (54, vi k)], [Aw 21 g], []⟩
def z25 (kn16 : K_) : Nat → S → Option R_ := H.i P_ [r,r,r,r,r,r,l,r,d,(lp kn16),r,l,d,r,r,l,r,d]
def t16 (a : Int) (b : LB) (f : Int) (g : LX) : S := ⟨[(0, vi a), (1, vb b), (9, vi (Fw a (8 : Int))), (10, .own 0), (11, vi f)], [Aw 21 g], []⟩
def z16 : Nat → S → Option R_ := H.i P_ [r,r,r,r,r,r,l,r,d]
def x30 (g : LX) : Option R_ := H.e P_ [r,r,r,r,r,r,r] ⟨[(10, .own 0)], [Aw 21 g], []⟩
def x28 (kn16 : K_) (a : Int) (b : LB) (f : Int) (m : LX) : Option R_ := H.e P_ [r,r,r,r,r,r,l,r,d,(lp kn16),r,r] ⟨[(0, vi a), (1, vb b), (9, vi (Fw a (8 : Int))), (10, .own 0), (11, vi f)], [Aw 21 m], []⟩
def x27 (kn16 : K_) (a : Int) (b : LB) (f : Int) (h : Int32) (g : LX) : Option R_ := H.e P_ [r,r,r,r,r,r,l,r,d,(lp kn16),r,l,d,r,r,r] ⟨[(0, vi a), (1, vb b), (9, vi (Fw a (8 : Int))), (10, .own 0), (11, vi f), (12, vx h)], [Aw 21 g], []⟩
def x25 (kn16 : K_) (a : Int) (b : LB) (f : Int) (g : LX) (h : Int32) (k : Int) : Option R_ := H.e P_ [r,r,r,r,r,r,l,r,d,(lp kn16),r,l,d,r,r,l,r,d] (t25 a b f g h k)
def x16 (a : Int) (b : LB) (f : Int) (g : LX) : Option R_ := H.e P_ [r,r,r,r,r,r,l,r,d] (t16 a b f g)
theorem e30 : x30 = Sn := by kernel_rfl
theorem e28 (kn16 : K_) (a : Int) (b : LB) : x28 kn16 a b = La (fun f g => kn16 (t16 a b f g)) a b := by kernel_rfl
theorem e27 (kn16 : K_) (a : Int) (b : LB) : x27 kn16 a b = Tl (fun f g => kn16 (t16 a b f g)) a b := Eq.trans (b := Ry (x28 kn16 a b) a b) (by kernel_rfl) (by simp only [e28] <;> rfl)
theorem i25 (kn16 : K_) (a : Int) (b : LB) (f : Int) (g : LX) : ∀ (q : Nat) (h : Int32) (k : Int), z25 kn16 q (t25 a b f g h k) = Ku (fun f g => kn16 (t16 a b f g)) a b f g q h k :=
 ind (fun _ _ => by kernel_rfl) fun q ih h k => Eq.trans (b := Rp (x27 kn16 a b) (fun h k => (z25 kn16 q) (t25 a b f g h k)) a b f g h k) (by kernel_rfl) (by simp only [e27, ih] <;> rfl)
theorem e25 (kn16 : K_) (a : Int) (b : LB) : x25 kn16 a b = Tj (fun f g => kn16 (t16 a b f g)) a b := by funext f g h k; exact Eq.trans (by kernel_rfl) ((i25 kn16 a b f g Bh h k).trans (by rw [Ah]; rfl))
theorem i16 (a : Int) (b : LB) : ∀ (q : Nat) (f : Int) (g : LX), z16 q (t16 a b f g) = Ha a b q f g :=
 ind (fun _ _ => by kernel_rfl) fun q ih f g => Eq.trans (b := Sp (x28 (z16 q) a b) (x25 (z16 q) a b) x30 a b f g) (by kernel_rfl) (by simp only [e28, e25, e30, ih] <;> rfl)
theorem e16 : x16 = Tg := by funext a b f g; exact Eq.trans (by kernel_rfl) ((i16 a b Bh f g).trans (by rw [Ah]; rfl))
noncomputable def F := u2 Ado
theorem rn x : H.u P_ x = F x := Eq.trans (b := u2 (Wd x16) x) (by kernel_rfl) (by simp only [e16] <;> rfl)
noncomputable def c : Con := ⟨H.p, H.r, F⟩
theorem ok : ConOk P_ gl 101 c := co H func101 (.cons F152.ok .nil) rn
end F101
namespace F203
abbrev R_ := (UInt64 × Int)
abbrev K_ := S → Option R_
noncomputable def H : Hd := ⟨[Sq, Sb], [Sq, Si], (.seq .d (.seq .d (.cut [4, 5] [] (.keep [0, 1, 4, 5, 9, 10, 11, 12] true) .d))), ⟨[], gl, false⟩, [(246, (.seq .d (.cut [1] [] (.seq .d (.blk (.loop [0, 1, 9, 10, 11] [] .d))) .d))), (247, (.seq .d (.seq .d (.cut [1] [] (.seq .d (.blk (.loop [1, 5] [] (.seq .d (.seq .d (.cut [1, 5] [] (.blk (.seq .d (.seq .d (.cut [1, 2, 3, 5] [] (.seq .d (.blk (.loop [1, 2, 3, 5, 11] [] .d))) .d)))) .d)))))) .d))))], f203⟩
def t27 (a : LB) (b : UInt64) (f : LQ) (h : UInt64) (m : Int) : S := ⟨[(0, .ptr 0 []), (1, vq h), (9, vb a), (10, vi (Aa a)), (11, vi m)], [.box 365 (.val (.vec 256 (.int .u64)) f)], [[(0, vq b), (1, vb a), (4, vq 0), (5, vi 0), (9, .ptr 0 []), (10, vq b), (11, vb a)]]⟩
def z27 : Nat → S → Option R_ := H.i P_ [r,r,l,(call 3 246),r,l,r,d]
def t21 (b : UInt64) (a : LB) (g : Int) (f : LQ) (k : UInt64) (n : Int) : S := ⟨[(1, .ptr 0 []), (2, vi g), (3, vq k), (5, vi g), (11, vi n)], [.box 365 (.val (.vec 256 (.int .u64)) f)], [[(0, vq b), (1, vb a), (4, vq 0), (5, vi 0)]]⟩
def z21 (kn16 : K_) : Nat → S → Option R_ := H.i P_ [r,r,l,(call 0 247),r,r,l,r,d,(lp kn16),r,r,l,d,r,r,l,r,d]
def t16 (b : UInt64) (a : LB) (g : Int) (f : LQ) : S := ⟨[(1, .ptr 0 []), (5, vi g)], [.box 365 (.val (.vec 256 (.int .u64)) f)], [[(0, vq b), (1, vb a), (4, vq 0), (5, vi 0)]]⟩
def z16 : Nat → S → Option R_ := H.i P_ [r,r,l,(call 0 247),r,r,l,r,d]
def x30 (h : UInt64) : Option R_ := H.e P_ [r,r,r] ⟨[(4, vq h), (5, vi 0)], [], []⟩
def x29 (h b : UInt64) (a : LB) (f : LQ) : Option R_ := H.e P_ [r,r,l,(call 3 246),r,r] ⟨[(1, vq h)], [.box 365 (.val (.vec 256 (.int .u64)) f)], [[(0, vq b), (1, vb a), (4, vq 0), (5, vi 0), (9, .ptr 0 []), (10, vq b), (11, vb a)]]⟩
def x27 (a : LB) (b : UInt64) (f : LQ) (h : UInt64) (m : Int) : Option R_ := H.e P_ [r,r,l,(call 3 246),r,l,r,d] (t27 a b f h m)
def x26 (b : UInt64) (a : LB) (f : LQ) : Option R_ := H.e P_ [r,r,l,(call 0 247),r,r,r] ⟨[(1, .ptr 0 [])], [.box 365 (.val (.vec 256 (.int .u64)) f)], [[(0, vq b), (1, vb a), (4, vq 0), (5, vi 0)]]⟩
def x24 (kn16 : K_) (b : UInt64) (a : LB) (g : Int) (o : LQ) : Option R_ := H.e P_ [r,r,l,(call 0 247),r,r,l,r,d,(lp kn16),r,r,r] ⟨[(1, .ptr 0 []), (5, vi g)], [.box 365 (.val (.vec 256 (.int .u64)) o)], [[(0, vq b), (1, vb a), (4, vq 0), (5, vi 0)]]⟩
def x23 (kn16 : K_) (b : UInt64) (a : LB) (g : Int) (k : UInt64) (f : LQ) : Option R_ := H.e P_ [r,r,l,(call 0 247),r,r,l,r,d,(lp kn16),r,r,l,d,r,r,r] ⟨[(1, .ptr 0 []), (2, vi g), (3, vq k), (5, vi g)], [.box 365 (.val (.vec 256 (.int .u64)) f)], [[(0, vq b), (1, vb a), (4, vq 0), (5, vi 0)]]⟩
def x21 (kn16 : K_) (b : UInt64) (a : LB) (g : Int) (f : LQ) (k : UInt64) (n : Int) : Option R_ := H.e P_ [r,r,l,(call 0 247),r,r,l,r,d,(lp kn16),r,r,l,d,r,r,l,r,d] (t21 b a g f k n)
def x16 (b : UInt64) (a : LB) (g : Int) (f : LQ) : Option R_ := H.e P_ [r,r,l,(call 0 247),r,r,l,r,d] (t16 b a g f)
theorem e30 : x30 = Aan := by kernel_rfl
theorem e29 : x29 = Aah := Eq.trans (b := Acr x30) (by kernel_rfl) (by simp only [e30] <;> rfl)
theorem i27 (a : LB) (b : UInt64) (f : LQ) : ∀ (q : Nat) (h : UInt64) (m : Int), z27 q (t27 a b f h m) = Pj a b f q h m :=
 ind (fun _ _ => by kernel_rfl) fun q ih h m => Eq.trans (b := Ab5 x29 (fun h m => (z27 q) (t27 a b f h m)) a b f h m) (by kernel_rfl) (by simp only [e29, ih] <;> rfl)
theorem e27 : x27 = Ab9 := by funext a b f h m; exact Eq.trans (by kernel_rfl) ((i27 a b f Bh h m).trans (by rw [Ah]; rfl))
theorem e26 : x26 = Aay := Eq.trans (b := Acg x27) (by kernel_rfl) (by simp only [e27] <;> rfl)
theorem e24 (kn16 : K_) (b : UInt64) (a : LB) : x24 kn16 b a = Acm (fun g f => kn16 (t16 b a g f)) b a := by kernel_rfl
theorem e23 (kn16 : K_) (b : UInt64) (a : LB) : x23 kn16 b a = Aaz (fun g f => kn16 (t16 b a g f)) b a := Eq.trans (b := Ab2 (x24 kn16 b a) b a) (by kernel_rfl) (by simp only [e24] <;> rfl)
theorem i21 (kn16 : K_) (b : UInt64) (a : LB) (g : Int) (f : LQ) : ∀ (q : Nat) (k : UInt64) (n : Int), z21 kn16 q (t21 b a g f k n) = Qe (fun g f => kn16 (t16 b a g f)) b a g f q k n :=
 ind (fun _ _ => by kernel_rfl) fun q ih k n => Eq.trans (b := Abo (x23 kn16 b a) (fun k n => (z21 kn16 q) (t21 b a g f k n)) b a g f k n) (by kernel_rfl) (by simp only [e23, ih] <;> rfl)
theorem e21 (kn16 : K_) (b : UInt64) (a : LB) : x21 kn16 b a = Abu (fun g f => kn16 (t16 b a g f)) b a := by funext g f k n; exact Eq.trans (by kernel_rfl) ((i21 kn16 b a g f Bh k n).trans (by rw [Ah]; rfl))
theorem i16 (b : UInt64) (a : LB) : ∀ (q : Nat) (g : Int) (f : LQ), z16 q (t16 b a g f) = Qb b a q g f :=
 ind (fun _ _ => by kernel_rfl) fun q ih g f => Eq.trans (b := Aaw (x21 (z16 q) b a) x26 b a g f) (by kernel_rfl) (by simp only [e21, e26, ih] <;> rfl)
theorem e16 : x16 = Aca := by funext b a g f; exact Eq.trans (by kernel_rfl) ((i16 b a Bh g f).trans (by rw [Ah]; rfl))
noncomputable def F := u2 Ami
theorem rn x : H.u P_ x = F x := Eq.trans (b := u2 (Aes x16) x) (by kernel_rfl) (by simp only [e16] <;> rfl)
noncomputable def c : Con := ⟨H.p, H.r, F⟩
theorem ok : ConOk P_ gl 203 c := cr H func203 .nil (AnsOk.cons ent246 (AnsOk.cons ent247 AnsOk.nil)) rn
end F203
namespace F160
noncomputable def H : Hd := ⟨[Sb], [Sq, Si], .d, ⟨[(203, F203.c)], gl, false⟩, [], f160⟩
noncomputable def F := Ah7
theorem rn x : H.u P_ x = F x := by kernel_rfl
noncomputable def c : Con := ⟨H.p, H.r, F⟩
theorem ok : ConOk P_ gl 160 c := co H func160 (.cons F203.ok .nil) rn
end F160
namespace F161
abbrev R_ := LX
noncomputable def H : Hd := ⟨[Sq], [.lf (.vec 16 (.int .i32)) none], (.seq .d (.seq .d (.cut [2, 3] [] (.seq .d (.blk (.loop [0, 2, 3, 5] [] .d))) .d))), ⟨[], gl, false⟩, [], f161⟩
def t4 (f : UInt64) (b : Int) (a : LX) : S := ⟨[(0, vq f), (2, .ptr 0 []), (3, .ptr 1 []), (5, vi b)], [.box 164 (.val (.vec 16 (.int .i32)) (List.replicate 16 (0 : Int32))), .box 164 (.val (.vec 16 (.int .i32)) a)], []⟩
def z4 : Nat → S → Option R_ := H.i P_ [r,r,l,r,d]
def x6 (a : LX) : Option R_ := H.e P_ [r,r,r] ⟨[(2, .ptr 0 []), (3, .ptr 1 [])], [.box 164 (.val (.vec 16 (.int .i32)) (List.replicate 16 (0 : Int32))), .box 164 (.val (.vec 16 (.int .i32)) a)], []⟩
def x4 (f : UInt64) (b : Int) (a : LX) : Option R_ := H.e P_ [r,r,l,r,d] (t4 f b a)
theorem e6 : x6 = Am9 := by kernel_rfl
theorem i4 (f : UInt64) : ∀ (q : Nat) (b : Int) (a : LX), z4 q (t4 f b a) = Afk f q b a :=
 ind (fun _ _ => by kernel_rfl) fun q ih b a => Eq.trans (b := Amg x6 (fun b a => (z4 q) (t4 f b a)) f b a) (by kernel_rfl) (by simp only [e6, ih] <;> rfl)
theorem e4 : x4 = Amx := by funext f b a; exact Eq.trans (by kernel_rfl) ((i4 f Bh b a).trans (by rw [Ah]; rfl))
noncomputable def F := Ate
theorem rn x : H.u P_ x = F x := Eq.trans (b := Am1 x4 x) (by kernel_rfl) (by simp only [e4] <;> rfl)
noncomputable def c : Con := ⟨H.p, H.r, F⟩
theorem ok : ConOk P_ gl 161 c := co H func161 .nil rn
end F161
namespace F116
noncomputable def H : Hd := ⟨[Ss], [.lf (.vec 16 (.int .i32)) none, Si], .d, ⟨[(160, F160.c), (161, F161.c)], gl, false⟩, [], f116⟩
noncomputable def F := Md
theorem rn x : H.u P_ x = F x := by kernel_rfl
noncomputable def c : Con := ⟨H.p, H.r, F⟩
theorem ok : ConOk P_ gl 116 c := co H func116 (.cons F160.ok (.cons F161.ok .nil)) rn
end F116
namespace F229
noncomputable def H : Hd := ⟨[.agg [Si, Si], Sw], [Si], .d, ⟨[(151, F151.c), (167, F167.c)], gl, false⟩, [], f229⟩
noncomputable def F := u3 Ad5
theorem rn x : H.u P_ x = F x := by kernel_rfl
noncomputable def c : Con := ⟨H.p, H.r, F⟩
theorem ok : ConOk P_ gl 229 c := co H func229 (.cons F151.ok (.cons F167.ok .nil)) rn
end F229
namespace F254
noncomputable def H : Hd := ⟨[Si, Sw], [Si], .d, ⟨[], gl, false⟩, [], f254⟩
noncomputable def F := u2 Aii
theorem rn x : H.u P_ x = F x := by kernel_rfl
noncomputable def c : Con := ⟨H.p, H.r, F⟩
theorem ok : ConOk P_ gl 254 c := co H func254 .nil rn
end F254
namespace F230
abbrev R_ := (LX × Int)
abbrev K_ := S → Option R_
noncomputable def H : Hd := ⟨[Si, Sw], [Ow 21, Si], (.seq .d (.seq .d (.seq .d (.cut [7] [] (.seq .d (.blk (.loop [0, 7, 8] [] (.seq .d (.cut [0, 7, 8] [] (.blk (.keep [0, 7, 8, 24, 25, 26, 27, 28, 29] true)) .d))))) .d)))), ⟨[(156, F156.c), (254, F254.c)], gl, true⟩, [(275, (.seq .d (.cut [0, 2] [] (.seq .d (.blk (.loop [0, 2, 7, 8] [] .d))) .d)))], f230⟩
def t17 (b a h : Int) (g : LX) : S := ⟨[(0, .view true 0 [] (.int .i32) a ((Ac a b) - a)), (2, vi (Af ((Ac a b) - a) (1 : Int))), (7, vi (Af ((Ac a b) - a) (1 : Int))), (8, vi h)], [Aw 21 g], [[(0, vi b), (7, .own 0), (8, vi a), (24, .own 0), (25, vi a), (26, vi a), (27, vi b), (28, vi (Ac a b)), (29, .view true 0 [] (.int .i32) a ((Ac a b) - a))]]⟩
def z17 (kn12 : K_) : Nat → S → Option R_ := H.i P_ [r,r,r,l,r,d,(lp kn12),r,l,d,(call 6 275),r,l,r,d]
def t12 (b a : Int) (f : LX) : S := ⟨[(0, vi b), (7, .own 0), (8, vi a)], [Aw 21 f], []⟩
def z12 : Nat → S → Option R_ := H.i P_ [r,r,r,l,r,d]
def x22 (f : LX) : Option R_ := H.e P_ [r,r,r,r] ⟨[(7, .own 0)], [Aw 21 f], []⟩
def x20 (kn12 : K_) (b a : Int) (k : LX) : Option R_ := H.e P_ [r,r,r,l,r,d,(lp kn12),r,r] ⟨[(0, vi b), (7, .own 0), (8, vi a)], [Aw 21 k], []⟩
def x19 (kn12 : K_) (b a : Int) (g : LX) : Option R_ := H.e P_ [r,r,r,l,r,d,(lp kn12),r,l,d,(call 6 275),r,r] ⟨[(0, .view true 0 [] (.int .i32) a ((Ac a b) - a)), (2, vi (Af ((Ac a b) - a) (1 : Int)))], [Aw 21 g], [[(0, vi b), (7, .own 0), (8, vi a), (24, .own 0), (25, vi a), (26, vi a), (27, vi b), (28, vi (Ac a b)), (29, .view true 0 [] (.int .i32) a ((Ac a b) - a))]]⟩
def x17 (kn12 : K_) (b a h : Int) (g : LX) : Option R_ := H.e P_ [r,r,r,l,r,d,(lp kn12),r,l,d,(call 6 275),r,l,r,d] (t17 b a h g)
def x12 (b a : Int) (f : LX) : Option R_ := H.e P_ [r,r,r,l,r,d] (t12 b a f)
theorem e22 : x22 = Akd := by kernel_rfl
theorem e20 (kn12 : K_) (b : Int) : x20 kn12 b = Ajt (fun a f => kn12 (t12 b a f)) b := by kernel_rfl
theorem e19 (kn12 : K_) (b : Int) : x19 kn12 b = Aj5 (fun a f => kn12 (t12 b a f)) b := Eq.trans (b := Ajz (x20 kn12 b) b) (by kernel_rfl) (by simp only [e20] <;> rfl)
theorem i17 (kn12 : K_) (b a : Int) : ∀ (q : Nat) (h : Int) (g : LX), z17 kn12 q (t17 b a h g) = Acw (fun a f => kn12 (t12 b a f)) b a q h g :=
 ind (fun _ _ => by kernel_rfl) fun q ih h g => Eq.trans (b := Aj3 (x19 kn12 b) (fun h g => (z17 kn12 q) (t17 b a h g)) b a h g) (by kernel_rfl) (by simp only [e19, ih] <;> rfl)
theorem e17 (kn12 : K_) (b : Int) : x17 kn12 b = Aj4 (fun a f => kn12 (t12 b a f)) b := by funext a h g; exact Eq.trans (by kernel_rfl) ((i17 kn12 b a Bh h g).trans (by rw [Ah]; rfl))
theorem i12 (b : Int) : ∀ (q : Nat) (a : Int) (f : LX), z12 q (t12 b a f) = Acs b q a f :=
 ind (fun _ _ => by kernel_rfl) fun q ih a f => Eq.trans (b := Ajs (x17 (z12 q) b) x22 b a f) (by kernel_rfl) (by simp only [e17, e22, ih] <;> rfl)
theorem e12 : x12 = Akc := by funext b a f; exact Eq.trans (by kernel_rfl) ((i12 b Bh a f).trans (by rw [Ah]; rfl))
noncomputable def F := u2 Atf
theorem rn x : H.u P_ x = F x := Eq.trans (b := u2 (Am7 x12) x) (by kernel_rfl) (by simp only [e12] <;> rfl)
noncomputable def c : Con := ⟨H.p, H.r, F⟩
theorem ok : ConOk P_ gl 230 c := cr H func230 (.cons F156.ok (.cons F254.ok .nil)) (AnsOk.cons ent275 AnsOk.nil) rn
end F230
namespace F250
abbrev R_ := (Int × LX × LX × Int)
noncomputable def H : Hd := ⟨[Si, .lf (.vec 16 (.int .i32)) none], [.agg [Si, .lf (.vec 16 (.int .i32)) none, .lf (.vec 16 (.int .i32)) none], Si], (.seq .d (.seq .d (.seq (.seq .d (.blk (.cut [4, 6, 9, 11] [] .d .d))) .d))), ⟨[], gl, false⟩, [], f250⟩
def x2 (a : Int) (b : LX) (f : Bool) : Option R_ := H.e P_ [r,r,l,r,d,r] ⟨[(4, .ptr 0 []), (6, .ptr 1 []), (9, vi a), (11, vt f)], [.box 281 (.agg [vi 0, .val (.vec 16 (.int .i32)) (List.replicate 16 (0 : Int32)), .val (.vec 16 (.int .i32)) (List.replicate 16 (0 : Int32))]), .box 281 (.agg [vi 10, .val (.vec 16 (.int .i32)) b, .val (.vec 16 (.int .i32)) (List.replicate 16 (0 : Int32))])], []⟩
theorem e2 : x2 = Ajq := by kernel_rfl
noncomputable def F := u2 Ak9
theorem rn x : H.u P_ x = F x := Eq.trans (b := u2 (Ajb x2) x) (by kernel_rfl) (by simp only [e2] <;> rfl)
noncomputable def c : Con := ⟨H.p, H.r, F⟩
theorem ok : ConOk P_ gl 250 c := co H func250 .nil rn
end F250
namespace F209
noncomputable def H : Hd := ⟨[Si, .lf (.vec 16 (.int .i32)) none], [.agg [Si, Sx, .agg [Si, .lf (.vec 16 (.int .i32)) none, .lf (.vec 16 (.int .i32)) none]], Si], .d, ⟨[(250, F250.c)], gl, false⟩, [], f209⟩
noncomputable def F := u2 Ais
theorem rn x : H.u P_ x = F x := by kernel_rfl
noncomputable def c : Con := ⟨H.p, H.r, F⟩
theorem ok : ConOk P_ gl 209 c := co H func209 (.cons F250.ok .nil) rn
end F209
namespace F251
noncomputable def H : Hd := ⟨[.agg [Si, Sx, .agg [Si, .lf (.vec 16 (.int .i32)) none, .lf (.vec 16 (.int .i32)) none]]], [Si], .d, ⟨[(250, F250.c)], gl, false⟩, [], f251⟩
noncomputable def F := u5 Mn
theorem rn x : H.u P_ x = F x := by kernel_rfl
noncomputable def c : Con := ⟨H.p, H.r, F⟩
theorem ok : ConOk P_ gl 251 c := co H func251 (.cons F250.ok .nil) rn
end F251
namespace F285
noncomputable def H : Hd := ⟨[Si], [Si, Si], .d, ⟨[], gl, false⟩, [], f285⟩
noncomputable def F := Ajf
theorem rn x : H.u P_ x = F x := by kernel_rfl
noncomputable def c : Con := ⟨H.p, H.r, F⟩
theorem ok : ConOk P_ gl 285 c := co H func285 .nil rn
end F285
namespace F286
noncomputable def H : Hd := ⟨[Si, Sx], [Sx], .d, ⟨[], gl, false⟩, [], f286⟩
noncomputable def F := u2 Ajx
theorem rn x : H.u P_ x = F x := by kernel_rfl
noncomputable def c : Con := ⟨H.p, H.r, F⟩
theorem ok : ConOk P_ gl 286 c := co H func286 .nil rn
end F286
namespace F252
noncomputable def H : Hd := ⟨[Si, Sx], [Sx, Si], .d, ⟨[(285, F285.c), (286, F286.c)], gl, false⟩, [], f252⟩
noncomputable def F := u2 Mv
theorem rn x : H.u P_ x = F x := by kernel_rfl
noncomputable def c : Con := ⟨H.p, H.r, F⟩
theorem ok : ConOk P_ gl 252 c := co H func252 (.cons F285.ok (.cons F286.ok .nil)) rn
end F252
namespace F305
noncomputable def H : Hd := ⟨[.agg [Si, .lf (.vec 16 (.int .i32)) none, .lf (.vec 16 (.int .i32)) none]], [Si], .d, ⟨[], gl, false⟩, [], f305⟩
noncomputable def F := u3 Qg
theorem rn x : H.u P_ x = F x := by kernel_rfl
noncomputable def c : Con := ⟨H.p, H.r, F⟩
theorem ok : ConOk P_ gl 305 c := co H func305 .nil rn
end F305
namespace F287
abbrev R_ := (Int32 × Int)
noncomputable def H : Hd := ⟨[.agg [Si, .lf (.vec 16 (.int .i32)) none, .lf (.vec 16 (.int .i32)) none]], [Sx, Si], (.seq .d (.seq .d (.seq .d (.cut [1, 5] [] (.seq .d (.blk (.loop [1, 5, 18, 19] [] .d))) .d)))), ⟨[(305, F305.c)], gl, false⟩, [], f287⟩
def t4 (b : LX) (a : Int) (f : LX) (g : Int32) (h : Int) : S := ⟨[(1, .ptr 0 []), (5, vx g), (18, .val (.vec 16 (.int .i32)) b), (19, vi h)], [.box 281 (.agg [vi a, .val (.vec 16 (.int .i32)) b, .val (.vec 16 (.int .i32)) f])], []⟩
def z4 : Nat → S → Option R_ := H.i P_ [r,r,r,l,r,d]
def x6 (g : Int32) (a : Int) (b f : LX) : Option R_ := H.e P_ [r,r,r,r] ⟨[(1, .ptr 0 []), (5, vx g)], [.box 281 (.agg [vi a, .val (.vec 16 (.int .i32)) b, .val (.vec 16 (.int .i32)) f])], []⟩
def x4 (b : LX) (a : Int) (f : LX) (g : Int32) (h : Int) : Option R_ := H.e P_ [r,r,r,l,r,d] (t4 b a f g h)
theorem e6 : x6 = Aem := by kernel_rfl
theorem i4 (b : LX) (a : Int) (f : LX) : ∀ (q : Nat) (g : Int32) (h : Int), z4 q (t4 b a f g h) = Tx b a f q g h :=
 ind (fun _ _ => by kernel_rfl) fun q ih g h => Eq.trans (b := Ady x6 (fun g h => (z4 q) (t4 b a f g h)) b a f g h) (by kernel_rfl) (by simp only [e6, ih] <;> rfl)
theorem e4 : x4 = Aen := by funext b a f g h; exact Eq.trans (by kernel_rfl) ((i4 b a f Bh g h).trans (by rw [Ah]; rfl))
noncomputable def F := u3 Af0
theorem rn x : H.u P_ x = F x := Eq.trans (b := u3 (Adq x4) x) (by kernel_rfl) (by simp only [e4] <;> rfl)
noncomputable def c : Con := ⟨H.p, H.r, F⟩
theorem ok : ConOk P_ gl 287 c := co H func287 (.cons F305.ok .nil) rn
end F287
namespace F319
noncomputable def H : Hd := ⟨[Si], [Sx], .d, ⟨[], gl, false⟩, [], f319⟩
noncomputable def F := Aie
theorem rn x : H.u P_ x = F x := by kernel_rfl
noncomputable def c : Con := ⟨H.p, H.r, F⟩
theorem ok : ConOk P_ gl 319 c := co H func319 .nil rn
end F319
namespace F306
abbrev R_ := (Int × LX × LX × Int)
noncomputable def H : Hd := ⟨[.agg [Si, .lf (.vec 16 (.int .i32)) none, .lf (.vec 16 (.int .i32)) none], Sx], [.agg [Si, .lf (.vec 16 (.int .i32)) none, .lf (.vec 16 (.int .i32)) none], Si], (.seq .d (.seq .d (.seq .d (.cut [2, 4] [] (.seq .d (.blk (.loop [1, 2, 4, 19, 20] [] .d))) .d)))), ⟨[(305, F305.c), (319, F319.c)], gl, false⟩, [], f306⟩
def t4 (h : Int32) (f : LX) (g a : Int) (b : LX) : S := ⟨[(1, vx h), (2, .ptr 0 []), (4, .ptr 1 []), (19, .val (.vec 16 (.int .i32)) f), (20, vi a)], [.box 281 (.agg [vi g, .val (.vec 16 (.int .i32)) b, .val (.vec 16 (.int .i32)) f]), .box 281 (.agg [vi 0, .val (.vec 16 (.int .i32)) (List.replicate 16 (0 : Int32)), .val (.vec 16 (.int .i32)) (List.replicate 16 (0 : Int32))])], []⟩
def z4 : Nat → S → Option R_ := H.i P_ [r,r,r,l,r,d]
def x6 (g : Int) (b f : LX) : Option R_ := H.e P_ [r,r,r,r] ⟨[(2, .ptr 0 []), (4, .ptr 1 [])], [.box 281 (.agg [vi g, .val (.vec 16 (.int .i32)) b, .val (.vec 16 (.int .i32)) f]), .box 281 (.agg [vi 0, .val (.vec 16 (.int .i32)) (List.replicate 16 (0 : Int32)), .val (.vec 16 (.int .i32)) (List.replicate 16 (0 : Int32))])], []⟩
def x4 (h : Int32) (f : LX) (g a : Int) (b : LX) : Option R_ := H.e P_ [r,r,r,l,r,d] (t4 h f g a b)
theorem e6 : x6 = Aep := by kernel_rfl
theorem i4 (h : Int32) (f : LX) (g : Int) : ∀ (q : Nat) (a : Int) (b : LX), z4 q (t4 h f g a b) = Ue h f g q a b :=
 ind (fun _ _ => by kernel_rfl) fun q ih a b => Eq.trans (b := Aew x6 (fun a b => (z4 q) (t4 h f g a b)) h f g a b) (by kernel_rfl) (by simp only [e6, ih] <;> rfl)
theorem e4 : x4 = Aet := by funext h f g a b; exact Eq.trans (by kernel_rfl) ((i4 h f g Bh a b).trans (by rw [Ah]; rfl))
noncomputable def F := u4 Al1
theorem rn x : H.u P_ x = F x := Eq.trans (b := u4 (Aev x4) x) (by kernel_rfl) (by simp only [e4] <;> rfl)
noncomputable def c : Con := ⟨H.p, H.r, F⟩
theorem ok : ConOk P_ gl 306 c := co H func306 (.cons F305.ok (.cons F319.ok .nil)) rn
end F306
namespace F307
def Ty (j2 : Int32 → Int → LX → LX → Option (Int × LX × LX × Int)) (b : Int) (f a : LX) (g : Int32) : Option (Int × LX × LX × Int) :=
(Qg b f a).bind fun h =>
if (Bf h 0) then
some (0, (List.replicate 16 (0 : Int32)), (List.replicate 16 (0 : Int32)), h)
else
both (
(vwI 16 1 16).bind fun _ =>
(vwI 16 0 16).bind fun _ =>
j2 g b f a) [
(vwI 16 0 16).bind fun _ =>
(vwI 16 1 16).bind fun _ =>
j2 g b f a]
theorem Aio : @Ty = @Xq := by
  unfold Ty Xq
  repeat (refine funext fun _ => ?_)
  repeat' first
    | with_reducible rfl
    | with_reducible refine Fb ?_ ?_
    | with_reducible refine Ey ?_ ?_ ?_
    | with_reducible refine Ew ?_ ?_ ?_ ?_
    | ((with_reducible refine Gm ?_ ?_); focus (intro h; first | (subst h; rfl) | (simp only [h]; rfl) | (simp [Ck, Aa, h]; done)))
    | with_reducible refine Gi fun x => ?_
    | with_reducible refine Jo (fun _ => ?_) (fun _ => ?_)
    | (refine Ct (fun h => by simp only [h, Gj, Bu, Bt, ite_self]) (fun x h => ?_); (try simp only [h, Bu]))
    | (refine Di (fun h => ?_) (fun h => ?_) <;> simp only [h, if_true, if_false, Bool.false_eq_true])
abbrev R_ := (Int × LX × LX × Int)
noncomputable def H : Hd := ⟨[.agg [Si, .lf (.vec 16 (.int .i32)) none, .lf (.vec 16 (.int .i32)) none], Sx], [.agg [Si, .lf (.vec 16 (.int .i32)) none, .lf (.vec 16 (.int .i32)) none], Si], (.seq .d (.seq .d (.cut [1, 2, 4] [] .d .d))), ⟨[(305, F305.c)], gl, false⟩, [], f307⟩
def x2 (g : Int32) (b : Int) (f a : LX) : Option R_ := H.e P_ [r,r,r] ⟨[(1, vx g), (2, .ptr 0 []), (4, .ptr 1 [])], [.box 281 (.agg [vi b, .val (.vec 16 (.int .i32)) f, .val (.vec 16 (.int .i32)) (Ij a (1 : Int) ((16 : Int) - (1 : Int)) (Aaf a (0 : Int) ((16 : Int) - (0 : Int))))]), .box 281 (.agg [vi 0, .val (.vec 16 (.int .i32)) (List.replicate 16 (0 : Int32)), .val (.vec 16 (.int .i32)) (List.replicate 16 (0 : Int32))])], []⟩
theorem e2 : x2 = Ag5 := by kernel_rfl
noncomputable def F := u4 An1
theorem rn x : H.u P_ x = F x := Eq.trans (b := u4 (Ty x2) x) (by kernel_rfl) (by unfold F; rw [Aio]; simp only [e2] <;> rfl)
noncomputable def c : Con := ⟨H.p, H.r, F⟩
theorem ok : ConOk P_ gl 307 c := co H func307 (.cons F305.ok .nil) rn
end F307
namespace F288
noncomputable def H : Hd := ⟨[.agg [Si, .lf (.vec 16 (.int .i32)) none, .lf (.vec 16 (.int .i32)) none], Sx, Sx], [.agg [Si, .lf (.vec 16 (.int .i32)) none, .lf (.vec 16 (.int .i32)) none]], .d, ⟨[(306, F306.c), (307, F307.c)], gl, false⟩, [], f288⟩
noncomputable def F := u5 Afc
theorem rn x : H.u P_ x = F x := by kernel_rfl
noncomputable def c : Con := ⟨H.p, H.r, F⟩
theorem ok : ConOk P_ gl 288 c := co H func288 (.cons F306.ok (.cons F307.ok .nil)) rn
end F288
namespace F276
noncomputable def H : Hd := ⟨[.agg [Si, .lf (.vec 16 (.int .i32)) none, .lf (.vec 16 (.int .i32)) none], Sx], [Sx, .agg [Si, .lf (.vec 16 (.int .i32)) none, .lf (.vec 16 (.int .i32)) none], Si], .d, ⟨[(287, F287.c), (288, F288.c)], gl, false⟩, [], f276⟩
noncomputable def F := u4 Aao
theorem rn x : H.u P_ x = F x := by kernel_rfl
noncomputable def c : Con := ⟨H.p, H.r, F⟩
theorem ok : ConOk P_ gl 276 c := co H func276 (.cons F287.ok (.cons F288.ok .nil)) rn
end F276
namespace F231
def Kq (a : Int) (b : Int32) (f : Int) (g h : LX) (k : Int32) : Option (Int32 × Int × Int32 × Int × LX × LX × Int) :=
(Mn a b f g h).bind fun m =>
if (Bf m 0) then
some (0, 0, 0, 0, (List.replicate 16 (0 : Int32)), (List.replicate 16 (0 : Int32)), m)
else
(Mv a b).bind fun (n, y) =>
(Aao f g h (Af k n)).bind fun (o, p, u, v, w) =>
bo (
some (o, a, k, p, u, v, w))
theorem Aby : @Kq = @Mk := by
  unfold Kq Mk
  simp only [Yy, Nc, Nb]
noncomputable def H : Hd := ⟨[.agg [Si, Sx, .agg [Si, .lf (.vec 16 (.int .i32)) none, .lf (.vec 16 (.int .i32)) none]], Sx], [Sx, .agg [Si, Sx, .agg [Si, .lf (.vec 16 (.int .i32)) none, .lf (.vec 16 (.int .i32)) none]], Si], (.seq .d (.seq .d (.seq .d (.seq .d (.seq (.mode false) .d))))), ⟨[(251, F251.c), (252, F252.c), (276, F276.c)], gl, false⟩, [], f231⟩
noncomputable def F := u6 Mk
theorem rn x : H.u P_ x = F x := Eq.trans (b := u6 Kq x) (by kernel_rfl) (by rw [Aby]; rfl)
noncomputable def c : Con := ⟨H.p, H.r, F⟩
theorem ok : ConOk P_ gl 231 c := co H func231 (.cons F251.ok (.cons F252.ok (.cons F276.ok .nil))) rn
end F231
namespace F232
noncomputable def H : Hd := ⟨[Sx], [Su], .d, ⟨[], gl, false⟩, [], f232⟩
noncomputable def F := An7
theorem rn x : H.u P_ x = F x := by kernel_rfl
noncomputable def c : Con := ⟨H.p, H.r, F⟩
theorem ok : ConOk P_ gl 232 c := co H func232 .nil rn
end F232
namespace F188
abbrev R_ := (LU × Int)
noncomputable def H : Hd := ⟨[.agg [Si, Si], .lf (.vec 16 (.int .i32)) none, Sw], [Ov 23, Si], (.seq .d (.seq .d (.seq .d (.seq .d (.seq .d (.cut [3, 9, 11] [] (.seq .d (.blk (.loop [3, 4, 9, 11, 36] [] .d))) (.seq .d (.cut [13] [] (.seq .d (.blk (.loop [3, 11, 13, 49, 50, 51] [⟨13, [], .own 23 (.int .u32)⟩] .d))) .d)))))))), ⟨[(209, F209.c), (229, F229.c), (230, F230.c), (231, F231.c), (232, F232.c)], gl, false⟩, [], f188⟩
def t10 (b : LX) (a f g : Int) (o : List (Int × Int32 × (Int × LX × LX × Unit) × Unit)) (k : LU) : S := ⟨[(3, .ptr 0 []), (11, .ptr 1 []), (13, .own 2), (49, .own 3), (50, vi (Aa b)), (51, vi g)], [.box 69 (.agg [vi a, vi f]), .box 284 (.val (.vec 6 (.cons (.int .i64) (.cons (.int .i32) (.cons (.cons (.int .i64) (.cons (.vec 16 (.int .i32)) (.cons (.vec 16 (.int .i32)) .nil))) .nil)))) o), Av 23 k, Aw 21 b], []⟩
def z10 : Nat → S → Option R_ := H.i P_ [r,r,r,r,r,r,r,l,r,d]
def t7 (a f : Int) (m b : LX) (n : Int) (h : List (Int × Int32 × (Int × LX × LX × Unit) × Unit)) : S := ⟨[(3, .ptr 0 []), (4, .ptr 1 []), (9, .own 2), (11, .ptr 3 []), (36, vi n)], [.box 69 (.agg [vi a, vi f]), .box 164 (.val (.vec 16 (.int .i32)) m), Aw 21 b, .box 284 (.val (.vec 6 (.cons (.int .i64) (.cons (.int .i32) (.cons (.cons (.int .i64) (.cons (.vec 16 (.int .i32)) (.cons (.vec 16 (.int .i32)) .nil))) .nil)))) h)], []⟩
def z7 : Nat → S → Option R_ := H.i P_ [r,r,r,r,r,l,r,d]
def x12 (k : LU) : Option R_ := H.e P_ [r,r,r,r,r,r,r,r] ⟨[(13, .own 0)], [Av 23 k], []⟩
def x10 (b : LX) (a f g : Int) (o : List (Int × Int32 × (Int × LX × LX × Unit) × Unit)) (k : LU) : Option R_ := H.e P_ [r,r,r,r,r,r,r,l,r,d] (t10 b a f g o k)
def x9 (a f : Int) (b : LX) (h : List (Int × Int32 × (Int × LX × LX × Unit) × Unit)) : Option R_ := H.e P_ [r,r,r,r,r,r] ⟨[(3, .ptr 0 []), (9, .own 1), (11, .ptr 2 [])], [.box 69 (.agg [vi a, vi f]), Aw 21 b, .box 284 (.val (.vec 6 (.cons (.int .i64) (.cons (.int .i32) (.cons (.cons (.int .i64) (.cons (.vec 16 (.int .i32)) (.cons (.vec 16 (.int .i32)) .nil))) .nil)))) h)], []⟩
def x7 (a f : Int) (m b : LX) (n : Int) (h : List (Int × Int32 × (Int × LX × LX × Unit) × Unit)) : Option R_ := H.e P_ [r,r,r,r,r,l,r,d] (t7 a f m b n h)
theorem e12 : x12 = Pg := by kernel_rfl
theorem i10 (b : LX) (a f : Int) : ∀ (q : Nat) (g : Int) (o : List (Int × Int32 × (Int × LX × LX × Unit) × Unit)) (k : LU), z10 q (t10 b a f g o k) = Jr b a f q g o k :=
 ind (fun _ _ _ => by kernel_rfl) fun q ih g o k => Eq.trans (b := Qh x12 (fun g o k => (z10 q) (t10 b a f g o k)) b a f g o k) (by kernel_rfl) (by simp only [e12, ih] <;> rfl)
theorem e10 : x10 = Qz := by funext b a f g o k; exact Eq.trans (by kernel_rfl) ((i10 b a f Bh g o k).trans (by rw [Ah]; rfl))
theorem e9 : x9 = Rg := Eq.trans (b := Sa x10) (by kernel_rfl) (by simp only [e10] <;> rfl)
theorem i7 (a f : Int) (m b : LX) : ∀ (q : Nat) (n : Int) (h : List (Int × Int32 × (Int × LX × LX × Unit) × Unit)), z7 q (t7 a f m b n h) = Lb a f m b q n h :=
 ind (fun _ _ => by kernel_rfl) fun q ih n h => Eq.trans (b := Ro x9 (fun n h => (z7 q) (t7 a f m b n h)) a f m b n h) (by kernel_rfl) (by simp only [e9, ih] <;> rfl)
theorem e7 : x7 = Rh := by funext a f m b n h; exact Eq.trans (by kernel_rfl) ((i7 a f m b Bh n h).trans (by rw [Ah]; rfl))
noncomputable def F := u4 Abr
theorem rn x : H.u P_ x = F x := Eq.trans (b := u4 (Sy x7) x) (by kernel_rfl) (by simp only [e7] <;> rfl)
noncomputable def c : Con := ⟨H.p, H.r, F⟩
theorem ok : ConOk P_ gl 188 c := co H func188 (.cons F209.ok (.cons F229.ok (.cons F230.ok (.cons F231.ok (.cons F232.ok .nil))))) rn
end F188
namespace F204
noncomputable def H : Hd := ⟨[], [.agg [Si, Si, Sq, Sq]], .d, ⟨[], gl, false⟩, [], f204⟩
noncomputable def F (x : Unit) := Aft
theorem rn x : H.u P_ x = F x := by kernel_rfl
noncomputable def c : Con := ⟨H.p, H.r, F⟩
theorem ok : ConOk P_ gl 204 c := co H func204 .nil rn
end F204
namespace F189
abbrev R_ := ((List (Int × Int × UInt64 × UInt64 × Unit)))
noncomputable def H : Hd := ⟨[], [.lf (.vec 6 (.cons (.int .i64) (.cons (.int .i64) (.cons (.int .u64) (.cons (.int .u64) .nil))))) none], (.seq .d (.seq .d (.cut [0, 1] [] (.seq .d (.blk (.loop [0, 1, 3] [] .d))) .d))), ⟨[(204, F204.c)], gl, false⟩, [], f189⟩
def t4 (b : Int) (a : List (Int × Int × UInt64 × UInt64 × Unit)) : S := ⟨[(0, .ptr 0 []), (1, .ptr 1 []), (3, vi b)], [.box 259 (.val (.vec 6 (.cons (.int .i64) (.cons (.int .i64) (.cons (.int .u64) (.cons (.int .u64) .nil))))) (List.replicate 6 ((0 : Int), (0 : Int), (0 : UInt64), (0 : UInt64), ()))), .box 259 (.val (.vec 6 (.cons (.int .i64) (.cons (.int .i64) (.cons (.int .u64) (.cons (.int .u64) .nil))))) a)], []⟩
def z4 : Nat → S → Option R_ := H.i P_ [r,r,l,r,d]
def x6 (a : List (Int × Int × UInt64 × UInt64 × Unit)) : Option R_ := H.e P_ [r,r,r] ⟨[(0, .ptr 0 []), (1, .ptr 1 [])], [.box 259 (.val (.vec 6 (.cons (.int .i64) (.cons (.int .i64) (.cons (.int .u64) (.cons (.int .u64) .nil))))) (List.replicate 6 ((0 : Int), (0 : Int), (0 : UInt64), (0 : UInt64), ()))), .box 259 (.val (.vec 6 (.cons (.int .i64) (.cons (.int .i64) (.cons (.int .u64) (.cons (.int .u64) .nil))))) a)], []⟩
def x4 (b : Int) (a : List (Int × Int × UInt64 × UInt64 × Unit)) : Option R_ := H.e P_ [r,r,l,r,d] (t4 b a)
theorem e6 : x6 = Rn := by kernel_rfl
theorem i4 : ∀ (q : Nat) (b : Int) (a : List (Int × Int × UInt64 × UInt64 × Unit)), z4 q (t4 b a) = Kj q b a :=
 ind (fun _ _ => by kernel_rfl) fun q ih b a => Eq.trans (b := Rv x6 (fun b a => (z4 q) (t4 b a)) b a) (by kernel_rfl) (by simp only [e6, ih] <;> rfl)
theorem e4 : x4 = Tf := by funext b a; exact Eq.trans (by kernel_rfl) ((i4 Bh b a).trans (by rw [Ah]; rfl))
noncomputable def F (x : Unit) := Aa1
theorem rn x : H.u P_ x = F x := Eq.trans (b := Sm x4) (by kernel_rfl) (by simp only [e4] <;> rfl)
noncomputable def c : Con := ⟨H.p, H.r, F⟩
theorem ok : ConOk P_ gl 189 c := co H func189 (.cons F204.ok .nil) rn
end F189
namespace F207
noncomputable def H : Hd := ⟨[.agg [Sb, Si]], [Si], .d, ⟨[], gl, false⟩, [], f207⟩
noncomputable def F := u2 Ev
theorem rn x : H.u P_ x = F x := by kernel_rfl
noncomputable def c : Con := ⟨H.p, H.r, F⟩
theorem ok : ConOk P_ gl 207 c := co H func207 .nil rn
end F207
namespace F233
def Pr (j4 : Int → Int → UInt64 → UInt64 → Option Int) (a b : Int) (f g : UInt64) : Option Int :=
both (
bo (
j4 a b f g)) [
j4 a b f g]
theorem Agq : @Pr = @Tw := by
  unfold Pr Tw
  repeat (refine funext fun _ => ?_)
  repeat' first
    | with_reducible rfl
    | with_reducible refine Fb ?_ ?_
    | with_reducible refine Ey ?_ ?_ ?_
    | with_reducible refine Ew ?_ ?_ ?_ ?_
    | ((with_reducible refine Gm ?_ ?_); focus (intro h; first | (subst h; rfl) | (simp only [h]; rfl) | (simp [Ck, Aa, h]; done)))
    | with_reducible refine Gi fun x => ?_
    | with_reducible refine Jo (fun _ => ?_) (fun _ => ?_)
    | (refine Ct (fun h => by simp only [h, Gj, Bu, Bt, ite_self]) (fun x h => ?_); (try simp only [h, Bu]))
    | (refine Di (fun h => ?_) (fun h => ?_) <;> simp only [h, if_true, if_false, Bool.false_eq_true])
def Pv (j3 : Int → Int → UInt64 → UInt64 → Option Int) (a b : Int) (f g : UInt64) : Option Int :=
both (
bo (
j3 a b f g)) [
j3 a b f g]
theorem Af2 : @Pv = @Tu := by
  unfold Pv Tu
  repeat (refine funext fun _ => ?_)
  repeat' first
    | with_reducible rfl
    | with_reducible refine Fb ?_ ?_
    | with_reducible refine Ey ?_ ?_ ?_
    | with_reducible refine Ew ?_ ?_ ?_ ?_
    | ((with_reducible refine Gm ?_ ?_); focus (intro h; first | (subst h; rfl) | (simp only [h]; rfl) | (simp [Ck, Aa, h]; done)))
    | with_reducible refine Gi fun x => ?_
    | with_reducible refine Jo (fun _ => ?_) (fun _ => ?_)
    | (refine Ct (fun h => by simp only [h, Gj, Bu, Bt, ite_self]) (fun x h => ?_); (try simp only [h, Bu]))
    | (refine Di (fun h => ?_) (fun h => ?_) <;> simp only [h, if_true, if_false, Bool.false_eq_true])
abbrev R_ := Int
noncomputable def H : Hd := ⟨[.agg [Si, Si, Sq, Sq]], [Si], (.seq .d (.seq .d (.cut [1, 3] [] (.mode false) (.cut [1, 3] [] (.mode false) .d)))), ⟨[], gl, false⟩, [], f233⟩
def x4 (a b : Int) (f g : UInt64) : Option R_ := H.e P_ [r,r,r,r] ⟨[(1, .ptr 0 []), (3, .ptr 1 [])], [.box 258 (.agg [vi a, vi b, vq f, vq g]), .box 258 (.agg [vi (Cv (Ant a (0 : Int)) (24 : Int)), vi (Cv (Ant b (0 : Int)) (24 : Int)), vq (Cv f (68719476735 : UInt64)), vq (Cv g (68719476735 : UInt64))])], []⟩
def x3 (a b : Int) (f g : UInt64) : Option R_ := H.e P_ [r,r,r] ⟨[(1, .ptr 0 []), (3, .ptr 1 [])], [.box 258 (.agg [vi a, vi b, vq f, vq g]), .box 258 (.agg [vi (Cv (Ant a (0 : Int)) (24 : Int)), vi (Cv (Ant b (0 : Int)) (24 : Int)), vq f, vq g])], []⟩
theorem e4 : x4 = Ad8 := by kernel_rfl
theorem e3 : x3 = Adp := Eq.trans (b := Pr x4) (by kernel_rfl) (by rw [Agq]; simp only [e4] <;> rfl)
noncomputable def F := u4 Afm
theorem rn x : H.u P_ x = F x := Eq.trans (b := u4 (Pv x3) x) (by kernel_rfl) (by unfold F; rw [Af2]; simp only [e3] <;> rfl)
noncomputable def c : Con := ⟨H.p, H.r, F⟩
theorem ok : ConOk P_ gl 233 c := co H func233 .nil rn
end F233
namespace F234
noncomputable def H : Hd := ⟨[.agg [Si, Si, Sq, Sq], Su], [Si, Su], .d, ⟨[], gl, false⟩, [], f234⟩
noncomputable def F := u5 Xi
theorem rn x : H.u P_ x = F x := by kernel_rfl
noncomputable def c : Con := ⟨H.p, H.r, F⟩
theorem ok : ConOk P_ gl 234 c := co H func234 .nil rn
end F234
namespace F277
noncomputable def H : Hd := ⟨[.agg [Sb, Si]], [.agg [Ob 5, Si]], .d, ⟨[(107, F107.c)], gl, false⟩, [], f277⟩
noncomputable def F := u2 Aip
theorem rn x : H.u P_ x = F x := by kernel_rfl
noncomputable def c : Con := ⟨H.p, H.r, F⟩
theorem ok : ConOk P_ gl 277 c := co H func277 (.cons F107.ok .nil) rn
end F277
namespace F235
abbrev R_ := (LB × Int × Int)
abbrev K_ := S → Option R_
noncomputable def H : Hd := ⟨[.agg [Sb, Si], Sq, Si], [.agg [Ob 5, Si], Si], (.seq .d (.seq .d (.seq .d (.cut [3, 6] [] (.keep [1, 2, 3, 6, 40, 41] true) .d)))), ⟨[(207, F207.c), (277, F277.c)], gl, false⟩, [(248, (.blk (.loop [0, 1, 2] [] (.seq .d (.blk (.cut [0, 1, 2] [] .d (.seq .d (.cut [0, 1, 2, 7] [] .d .d))))))))], f235⟩
def t15 (b : UInt64) (a : Int) (m : UInt64) (h f : Int) (o : LB) : S := ⟨[(0, .ptr 0 []), (1, vq m), (2, vi h)], [.box 224 (.agg [.own 2, vi f]), .box 224 (.agg [.nils, vi 0]), Ab 5 o], [[(1, vq b), (2, vi a), (3, .ptr 0 []), (6, .ptr 1 []), (40, vq b), (41, vi a)]]⟩
def z15 : Nat → S → Option R_ := H.i P_ [r,r,r,l,(call 2 248),d]
def t22 (b : UInt64) (a : Int) (n : UInt64) (k g : Int) (p : LB) : S := ⟨[(0, .ptr 0 []), (1, vq n), (2, vi k)], [.box 224 (.agg [.own 2, vi g]), .box 224 (.agg [.nils, vi 0]), Ab 5 p], [[(1, vq b), (2, vi a), (3, .ptr 0 []), (6, .ptr 1 []), (40, vq b), (41, vi a)]]⟩
def z22 : Nat → S → Option R_ := H.i P_ [r,r,r,l,(call 2 248),d]
def x21 (f : Int) (o : LB) : Option R_ := H.e P_ [r,r,r,r] ⟨[(3, .ptr 0 []), (6, .ptr 1 [])], [.box 224 (.agg [.own 2, vi f]), .box 224 (.agg [.nils, vi 0]), Ab 5 o], []⟩
def x19 (kn15 : K_) (b : UInt64) (a : Int) (m : UInt64) (h f : Int) (w : LB) : Option R_ := H.e P_ [r,r,r,l,(call 2 248),d,(lp kn15),r,d,r,r,r] ⟨[(0, .ptr 0 []), (1, vq m), (2, vi h), (7, vi (Cv h (Af (8 : Int) (Cj f (7 : Int)))))], [.box 224 (.agg [.own 2, vi f]), .box 224 (.agg [.nils, vi 0]), Ab 5 w], [[(1, vq b), (2, vi a), (3, .ptr 0 []), (6, .ptr 1 []), (40, vq b), (41, vi a)]]⟩
def x18 (kn15 : K_) (b : UInt64) (a : Int) (m : UInt64) (h f : Int) (u : LB) : Option R_ := H.e P_ [r,r,r,l,(call 2 248),d,(lp kn15),r,d,r] ⟨[(0, .ptr 0 []), (1, vq m), (2, vi h)], [.box 224 (.agg [.own 2, vi f]), .box 224 (.agg [.nils, vi 0]), Ab 5 u], [[(1, vq b), (2, vi a), (3, .ptr 0 []), (6, .ptr 1 []), (40, vq b), (41, vi a)]]⟩
def x15 (b : UInt64) (a : Int) (m : UInt64) (h f : Int) (o : LB) : Option R_ := H.e P_ [r,r,r,l,(call 2 248),d] (t15 b a m h f o)
def x28 (g : Int) (p : LB) : Option R_ := H.e P_ [r,r,r,r] ⟨[(3, .ptr 0 []), (6, .ptr 1 [])], [.box 224 (.agg [.own 2, vi g]), .box 224 (.agg [.nils, vi 0]), Ab 5 p], []⟩
def x26 (kn22 : K_) (b : UInt64) (a : Int) (n : UInt64) (k g : Int) (y : LB) : Option R_ := H.e P_ [r,r,r,l,(call 2 248),d,(lp kn22),r,d,r,r,r] ⟨[(0, .ptr 0 []), (1, vq n), (2, vi k), (7, vi (Cv k (Af (8 : Int) (Cj g (7 : Int)))))], [.box 224 (.agg [.own 2, vi g]), .box 224 (.agg [.nils, vi 0]), Ab 5 y], [[(1, vq b), (2, vi a), (3, .ptr 0 []), (6, .ptr 1 []), (40, vq b), (41, vi a)]]⟩
def x25 (kn22 : K_) (b : UInt64) (a : Int) (n : UInt64) (k g : Int) (v : LB) : Option R_ := H.e P_ [r,r,r,l,(call 2 248),d,(lp kn22),r,d,r] ⟨[(0, .ptr 0 []), (1, vq n), (2, vi k)], [.box 224 (.agg [.own 2, vi g]), .box 224 (.agg [.nils, vi 0]), Ab 5 v], [[(1, vq b), (2, vi a), (3, .ptr 0 []), (6, .ptr 1 []), (40, vq b), (41, vi a)]]⟩
def x22 (b : UInt64) (a : Int) (n : UInt64) (k g : Int) (p : LB) : Option R_ := H.e P_ [r,r,r,l,(call 2 248),d] (t22 b a n k g p)
theorem e21 : x21 = Ahe := by kernel_rfl
theorem e19 (kn15 : K_) (b : UInt64) (a : Int) : x19 kn15 b a = Aha (fun m h f o => kn15 (t15 b a m h f o)) b a := by kernel_rfl
theorem e18 (kn15 : K_) (b : UInt64) (a : Int) : x18 kn15 b a = Agf (fun m h f o => kn15 (t15 b a m h f o)) b a := Eq.trans (b := Agh (x19 kn15 b a) b a) (by kernel_rfl) (by simp only [e19] <;> rfl)
theorem i15 (b : UInt64) (a : Int) : ∀ (q : Nat) (m : UInt64) (h f : Int) (o : LB), z15 q (t15 b a m h f o) = Wz b a q m h f o :=
 ind (fun _ _ _ _ => by kernel_rfl) fun q ih m h f o => Eq.trans (b := Ag3 (x18 (z15 q) b a) x21 b a m h f o) (by kernel_rfl) (by simp only [e18, e21, ih] <;> rfl)
theorem e15 : x15 = Af4 := by funext b a m h f o; exact Eq.trans (by kernel_rfl) ((i15 b a Bh m h f o).trans (by rw [Ah]; rfl))
theorem e28 : x28 = Ahl := by kernel_rfl
theorem e26 (kn22 : K_) (b : UInt64) (a : Int) : x26 kn22 b a = Agb (fun n k g p => kn22 (t22 b a n k g p)) b a := by kernel_rfl
theorem e25 (kn22 : K_) (b : UInt64) (a : Int) : x25 kn22 b a = Ag8 (fun n k g p => kn22 (t22 b a n k g p)) b a := Eq.trans (b := Agt (x26 kn22 b a) b a) (by kernel_rfl) (by simp only [e26] <;> rfl)
theorem i22 (b : UInt64) (a : Int) : ∀ (q : Nat) (n : UInt64) (k g : Int) (p : LB), z22 q (t22 b a n k g p) = Xu b a q n k g p :=
 ind (fun _ _ _ _ => by kernel_rfl) fun q ih n k g p => Eq.trans (b := Agl (x25 (z22 q) b a) x28 b a n k g p) (by kernel_rfl) (by simp only [e25, e28, ih] <;> rfl)
theorem e22 : x22 = Ah1 := by funext b a n k g p; exact Eq.trans (by kernel_rfl) ((i22 b a Bh n k g p).trans (by rw [Ah]; rfl))
noncomputable def F := u4 Acf
theorem rn x : H.u P_ x = F x := Eq.trans (b := u4 (Aja x15 x22) x) (by kernel_rfl) (by simp only [e15, e22] <;> rfl)
noncomputable def c : Con := ⟨H.p, H.r, F⟩
theorem ok : ConOk P_ gl 235 c := cr H func235 (.cons F207.ok (.cons F277.ok .nil)) (AnsOk.cons ent248 AnsOk.nil) rn
end F235
namespace F278
noncomputable def H : Hd := ⟨[Su, Si], [Sz], .d, ⟨[], gl, false⟩, [], f278⟩
noncomputable def F := u2 Xp
theorem rn x : H.u P_ x = F x := by kernel_rfl
noncomputable def c : Con := ⟨H.p, H.r, F⟩
theorem ok : ConOk P_ gl 278 c := co H func278 .nil rn
end F278
namespace F301
noncomputable def H : Hd := ⟨[Si], [Si, Si], .d, ⟨[], gl, false⟩, [], f301⟩
noncomputable def F := Ahy
theorem rn x : H.u P_ x = F x := by kernel_rfl
noncomputable def c : Con := ⟨H.p, H.r, F⟩
theorem ok : ConOk P_ gl 301 c := co H func301 .nil rn
end F301
namespace F279
noncomputable def H : Hd := ⟨[.agg [Sb, Si], Si], [.agg [Ob 5, Si], Si], .d, ⟨[(207, F207.c), (235, F235.c), (301, F301.c)], gl, false⟩, [], f279⟩
noncomputable def F := u3 Aj6
theorem rn x : H.u P_ x = F x := by kernel_rfl
noncomputable def c : Con := ⟨H.p, H.r, F⟩
theorem ok : ConOk P_ gl 279 c := co H func279 (.cons F207.ok (.cons F235.ok (.cons F301.ok .nil))) rn
end F279
namespace F236
abbrev R_ := (LB × Int × Int)
noncomputable def H : Hd := ⟨[.agg [Sb, Si], Su, Si], [.agg [Ob 5, Si], Si], (.seq .d (.seq .d (.seq .d (.seq .d (.cut [3, 6, 9, 10, 11] [] .d .d))))), ⟨[(207, F207.c), (235, F235.c), (278, F278.c), (279, F279.c)], gl, false⟩, [], f236⟩
def x2 (b : LB) (f h : Int) (k : UInt32) (m : Int) : Option R_ := H.e P_ [r,r,r,r,r] ⟨[(3, .ptr 0 []), (6, .ptr 1 []), (9, vi h), (10, vu k), (11, vi m)], [.box 224 (.agg [vb b, vi f]), .box 224 (.agg [.nils, vi 0])], []⟩
theorem e2 : x2 = Ael := by kernel_rfl
noncomputable def F := u4 Amu
theorem rn x : H.u P_ x = F x := Eq.trans (b := u4 (Ads x2) x) (by kernel_rfl) (by simp only [e2] <;> rfl)
noncomputable def c : Con := ⟨H.p, H.r, F⟩
theorem ok : ConOk P_ gl 236 c := co H func236 (.cons F207.ok (.cons F235.ok (.cons F278.ok (.cons F279.ok .nil)))) rn
end F236
namespace F190
def Mz (k u n : Int) (a : UInt64) (b : UInt32) (o : UInt64) (m : LB) : Option (LB × Int × Int × Int × UInt64 × UInt64 × Int) :=
(fun af : Option (LB × Int × Int × Int × UInt64 × UInt64 × Int) =>
both (
bo (
af)) [
af]) (
some (m, k, u, n, (Ac a (Af (Ao b : UInt64) (Bn a (GI.toZ (4 : UInt64)).toNat))), o, 0))
theorem Ae2 : @Mz = @Qk := by
  unfold Mz Qk
  try simp only [Yy, Nc, Nb]
  all_goals
    repeat (refine funext fun _ => ?_)
    repeat' first
      | with_reducible rfl
      | with_reducible refine Fb ?_ ?_
      | with_reducible refine Ey ?_ ?_ ?_
      | with_reducible refine Ew ?_ ?_ ?_ ?_
      | ((with_reducible refine Gm ?_ ?_); focus (intro h; first | (subst h; rfl) | (simp only [h]; rfl) | (simp [Ck, Aa, h]; done)))
      | with_reducible refine Gi fun x => ?_
      | with_reducible refine Jo (fun _ => ?_) (fun _ => ?_)
      | (refine Ct (fun h => by simp only [h, Gj, Bu, Bt, ite_self]) (fun x h => ?_); (try simp only [h, Bu]))
      | (refine Di (fun h => ?_) (fun h => ?_) <;> simp only [h, if_true, if_false, Bool.false_eq_true])
abbrev R_ := (LB × Int × Int × Int × UInt64 × UInt64 × Int)
noncomputable def H : Hd := ⟨[.agg [Sb, Si], .agg [Si, Si, Sq, Sq], Su], [.agg [Ob 5, Si], .agg [Si, Si, Sq, Sq], Si], (.seq .d (.cut [2, 3, 4, 6, 7] [] .d (.seq .d (.seq .d (.cut [2, 3, 4, 6, 7, 11] [] .d (.seq .d (.cut [3, 4, 6, 7] [] (.keep [2, 3, 4, 6, 7, 65] true) (.seq (.mode false) .d)))))))), ⟨[(207, F207.c), (233, F233.c), (234, F234.c), (235, F235.c), (236, F236.c)], gl, false⟩, [(237, (.seq .d (.seq .d (.seq .d (.blk (.cut [0, 1, 4] [] (.blk (.seq .d (.keep [0, 1, 4, 6, 18, 19, 20, 21, 22, 23, 24, 25] true))) (.cut [] [] (.keep [0, 1, 4, 27, 28, 29, 30, 31, 32, 33, 34] true) .d))))))), (280, .d)], f190⟩
def x10 (k u n : Int) (a : UInt64) (b : UInt32) (o : UInt64) (m : LB) : Option R_ := H.e P_ [r,r,r,r,r,r,r] ⟨[(3, .ptr 0 []), (4, .ptr 1 []), (6, .ptr 2 []), (7, .ptr 3 [])], [.box 224 (.agg [.own 4, vi k]), .box 258 (.agg [vi u, vi n, vq (Ac a (Af (Ao b : UInt64) (Bn a (GI.toZ (4 : UInt64)).toNat))), vq o]), .box 224 (.agg [.nils, vi 0]), .box 258 (.agg [vi 0, vi 0, vq 0, vq 0]), Ab 5 m], []⟩
def x9 (b : UInt32) (k n : Int) (a o : UInt64) (m : LB) (u : Int) : Option R_ := H.e P_ [r,r,r,r,r,r,l,(call 1 237),r,r,r,d,r,r] ⟨[], [.box 224 (.agg [.own 4, vi k]), .box 258 (.agg [vi u, vi n, vq (Ac a (Af (Ao b : UInt64) (Bn a (GI.toZ (4 : UInt64)).toNat))), vq o]), .box 224 (.agg [.nils, vi 0]), .box 258 (.agg [vi 0, vi 0, vq 0, vq 0]), Ab 5 m], [[(2, vu b), (3, .ptr 0 []), (4, .ptr 1 []), (6, .ptr 2 []), (7, .ptr 3 []), (65, vu b)]]⟩
def x8 (b : UInt32) (f : Int) (a : UInt64) (k : Int) (m : LB) (n : Int) (o : UInt64) : Option R_ := H.e P_ [r,r,r,r,r,r,l,(call 1 237),r,r,r,d,r] ⟨[(0, .ptr 0 []), (1, vu b), (4, .fn 280 [])], [.box 258 (.agg [vi f, vi n, vq a, vq o]), .box 224 (.agg [.own 4, vi k]), .box 224 (.agg [.nils, vi 0]), .box 258 (.agg [vi 0, vi 0, vq 0, vq 0]), Ab 5 m], [[(2, vu b), (3, .ptr 1 []), (4, .ptr 0 []), (6, .ptr 2 []), (7, .ptr 3 []), (65, vu b)]]⟩
def x7 (b : UInt32) (f h : Int) (a g : UInt64) (y k : Int) (m : LB) : Option R_ := H.e P_ [r,r,r,r,r] ⟨[(2, vu b), (3, .ptr 0 []), (4, .ptr 1 []), (6, .ptr 2 []), (7, .ptr 3 []), (11, vi y)], [.box 224 (.agg [.own 4, vi k]), .box 258 (.agg [vi f, vi h, vq a, vq g]), .box 224 (.agg [.nils, vi 0]), .box 258 (.agg [vi 0, vi 0, vq 0, vq 0]), Ab 5 m], []⟩
def x6 (b : UInt32) (v : LB) (w f h : Int) (a g : UInt64) : Option R_ := H.e P_ [r,r] ⟨[(2, vu b), (3, .ptr 0 []), (4, .ptr 1 []), (6, .ptr 2 []), (7, .ptr 3 [])], [.box 224 (.agg [vb v, vi w]), .box 258 (.agg [vi f, vi h, vq a, vq g]), .box 224 (.agg [.nils, vi 0]), .box 258 (.agg [vi 0, vi 0, vq 0, vq 0])], []⟩
theorem e10 : x10 = Aas := Eq.trans (b := Mz) (by kernel_rfl) (by rw [Ae2]; rfl)
theorem e9 : x9 = Adm := Eq.trans (b := Aeu x10) (by kernel_rfl) (by simp only [e10] <;> rfl)
theorem e8 : x8 = Aeb := Eq.trans (b := Ad9 x9) (by kernel_rfl) (by simp only [e9] <;> rfl)
theorem e7 : x7 = Aeh := Eq.trans (b := Aez x8) (by kernel_rfl) (by simp only [e8] <;> rfl)
theorem e6 : x6 = Aed := Eq.trans (b := Ae0 x7) (by kernel_rfl) (by simp only [e7] <;> rfl)
noncomputable def F := u7 Ams
theorem rn x : H.u P_ x = F x := Eq.trans (b := u7 (Aej x6) x) (by kernel_rfl) (by simp only [e6] <;> rfl)
noncomputable def c : Con := ⟨H.p, H.r, F⟩
theorem ok : ConOk P_ gl 190 c := cr H func190 (.cons F207.ok (.cons F233.ok (.cons F234.ok (.cons F235.ok (.cons F236.ok .nil))))) (AnsOk.cons ent237 (AnsOk.cons ent280 AnsOk.nil)) rn
end F190
namespace F182
abbrev R_ := (UInt32 × Int)
abbrev K_ := S → Option R_
noncomputable def H : Hd := ⟨[Su, Sb], [Su, Si], (.seq .d (.seq .d (.cut [0, 1, 6] [] (.keep [0, 1, 6, 12] true) (.cut [0] [] (.seq .d (.blk (.loop [0, 6, 13, 14, 15] [] .d))) .d)))), ⟨[], gl, false⟩, [(228, (.seq .d (.seq .d (.cut [1] [] (.seq .d (.blk (.loop [1, 5] [] (.seq .d (.seq .d (.cut [1, 5] [] (.blk (.seq .d (.seq .d (.cut [1, 2, 3, 5] [] (.seq .d (.blk (.loop [1, 2, 3, 5, 10] [] .d))) .d)))) .d)))))) .d))))], f182⟩
def t28 (a : LB) (b : LU) (h : UInt32) (m : Int) : S := ⟨[(0, vu h), (6, .ptr 0 []), (13, vb a), (14, vi (Aa a)), (15, vi m)], [.box 357 (.val (.vec 256 (.int .u32)) b)], []⟩
def z28 : Nat → S → Option R_ := H.i P_ [r,r,r,l,r,d]
def t21 (f : UInt32) (a : LB) (g : Int) (b : LU) (k : UInt32) (n : Int) : S := ⟨[(1, .ptr 0 []), (2, vi g), (3, vu k), (5, vi g), (10, vi n)], [.box 357 (.val (.vec 256 (.int .u32)) b)], [[(0, vu f), (1, vb a)]]⟩
def z21 (kn16 : K_) : Nat → S → Option R_ := H.i P_ [r,r,l,(call 0 228),r,r,l,r,d,(lp kn16),r,r,l,d,r,r,l,r,d]
def t16 (f : UInt32) (a : LB) (g : Int) (b : LU) : S := ⟨[(1, .ptr 0 []), (5, vi g)], [.box 357 (.val (.vec 256 (.int .u32)) b)], [[(0, vu f), (1, vb a)]]⟩
def z16 : Nat → S → Option R_ := H.i P_ [r,r,l,(call 0 228),r,r,l,r,d]
def x30 (h : UInt32) : Option R_ := H.e P_ [r,r,r,r] ⟨[(0, vu h)], [], []⟩
def x28 (a : LB) (b : LU) (h : UInt32) (m : Int) : Option R_ := H.e P_ [r,r,r,l,r,d] (t28 a b h m)
def x27 (f : UInt32) (a : LB) (b : LU) : Option R_ := H.e P_ [r,r,r] ⟨[(0, vu f), (1, vb a), (6, .ptr 0 [])], [.box 357 (.val (.vec 256 (.int .u32)) b)], []⟩
def x26 (f : UInt32) (a : LB) (b : LU) : Option R_ := H.e P_ [r,r,l,(call 0 228),r,r,r] ⟨[(1, .ptr 0 [])], [.box 357 (.val (.vec 256 (.int .u32)) b)], [[(0, vu f), (1, vb a)]]⟩
def x24 (kn16 : K_) (f : UInt32) (a : LB) (g : Int) (o : LU) : Option R_ := H.e P_ [r,r,l,(call 0 228),r,r,l,r,d,(lp kn16),r,r,r] ⟨[(1, .ptr 0 []), (5, vi g)], [.box 357 (.val (.vec 256 (.int .u32)) o)], [[(0, vu f), (1, vb a)]]⟩
def x23 (kn16 : K_) (f : UInt32) (a : LB) (g : Int) (k : UInt32) (b : LU) : Option R_ := H.e P_ [r,r,l,(call 0 228),r,r,l,r,d,(lp kn16),r,r,l,d,r,r,r] ⟨[(1, .ptr 0 []), (2, vi g), (3, vu k), (5, vi g)], [.box 357 (.val (.vec 256 (.int .u32)) b)], [[(0, vu f), (1, vb a)]]⟩
def x21 (kn16 : K_) (f : UInt32) (a : LB) (g : Int) (b : LU) (k : UInt32) (n : Int) : Option R_ := H.e P_ [r,r,l,(call 0 228),r,r,l,r,d,(lp kn16),r,r,l,d,r,r,l,r,d] (t21 f a g b k n)
def x16 (f : UInt32) (a : LB) (g : Int) (b : LU) : Option R_ := H.e P_ [r,r,l,(call 0 228),r,r,l,r,d] (t16 f a g b)
theorem e30 : x30 = Abn := by kernel_rfl
theorem i28 (a : LB) (b : LU) : ∀ (q : Nat) (h : UInt32) (m : Int), z28 q (t28 a b h m) = Qr a b q h m :=
 ind (fun _ _ => by kernel_rfl) fun q ih h m => Eq.trans (b := Abv x30 (fun h m => (z28 q) (t28 a b h m)) a b h m) (by kernel_rfl) (by simp only [e30, ih] <;> rfl)
theorem e28 : x28 = Aa2 := by funext a b h m; exact Eq.trans (by kernel_rfl) ((i28 a b Bh h m).trans (by rw [Ah]; rfl))
theorem e27 : x27 = Aaj := Eq.trans (b := Aa5 x28) (by kernel_rfl) (by simp only [e28] <;> rfl)
theorem e26 : x26 = Abi := Eq.trans (b := Abj x27) (by kernel_rfl) (by simp only [e27] <;> rfl)
theorem e24 (kn16 : K_) (f : UInt32) (a : LB) : x24 kn16 f a = Abe (fun g b => kn16 (t16 f a g b)) f a := by kernel_rfl
theorem e23 (kn16 : K_) (f : UInt32) (a : LB) : x23 kn16 f a = Acl (fun g b => kn16 (t16 f a g b)) f a := Eq.trans (b := Aam (x24 kn16 f a) f a) (by kernel_rfl) (by simp only [e24] <;> rfl)
theorem i21 (kn16 : K_) (f : UInt32) (a : LB) (g : Int) (b : LU) : ∀ (q : Nat) (k : UInt32) (n : Int), z21 kn16 q (t21 f a g b k n) = Qj (fun g b => kn16 (t16 f a g b)) f a g b q k n :=
 ind (fun _ _ => by kernel_rfl) fun q ih k n => Eq.trans (b := Ab1 (x23 kn16 f a) (fun k n => (z21 kn16 q) (t21 f a g b k n)) f a g b k n) (by kernel_rfl) (by simp only [e23, ih] <;> rfl)
theorem e21 (kn16 : K_) (f : UInt32) (a : LB) : x21 kn16 f a = Aa0 (fun g b => kn16 (t16 f a g b)) f a := by funext g b k n; exact Eq.trans (by kernel_rfl) ((i21 kn16 f a g b Bh k n).trans (by rw [Ah]; rfl))
theorem i16 (f : UInt32) (a : LB) : ∀ (q : Nat) (g : Int) (b : LU), z16 q (t16 f a g b) = Py f a q g b :=
 ind (fun _ _ => by kernel_rfl) fun q ih g b => Eq.trans (b := Aco (x21 (z16 q) f a) x26 f a g b) (by kernel_rfl) (by simp only [e21, e26, ih] <;> rfl)
theorem e16 : x16 = Abm := by funext f a g b; exact Eq.trans (by kernel_rfl) ((i16 f a Bh g b).trans (by rw [Ah]; rfl))
noncomputable def F := u2 Ak6
theorem rn x : H.u P_ x = F x := Eq.trans (b := u2 (Adz x16) x) (by kernel_rfl) (by simp only [e16] <;> rfl)
noncomputable def c : Con := ⟨H.p, H.r, F⟩
theorem ok : ConOk P_ gl 182 c := cr H func182 .nil (AnsOk.cons ent228 AnsOk.nil) rn
end F182
namespace F134
noncomputable def H : Hd := ⟨[Sb], [Su, Si], .d, ⟨[(182, F182.c)], gl, false⟩, [], f134⟩
noncomputable def F := Ma
theorem rn x : H.u P_ x = F x := by kernel_rfl
noncomputable def c : Con := ⟨H.p, H.r, F⟩
theorem ok : ConOk P_ gl 134 c := co H func134 (.cons F182.ok .nil) rn
end F134
namespace F192
noncomputable def H : Hd := ⟨[Sq, Si], [Sz], .d, ⟨[], gl, false⟩, [], f192⟩
noncomputable def F := u2 As8
theorem rn x : H.u P_ x = F x := by kernel_rfl
noncomputable def c : Con := ⟨H.p, H.r, F⟩
theorem ok : ConOk P_ gl 192 c := co H func192 .nil rn
end F192
namespace F143
abbrev R_ := (LB × Int)
noncomputable def H : Hd := ⟨[Sq, Si], [Ob 5, Si], (.seq .d (.seq .d (.seq .d (.seq .d (.cut [6] [] (.seq .d (.blk (.loop [0, 6, 21, 22] [] .d))) .d))))), ⟨[(192, F192.c)], gl, false⟩, [], f143⟩
def t4 (f : UInt64) (g : LB) (b : Int) (a : LB) : S := ⟨[(0, vq f), (6, .own 0), (21, vi (Aa g)), (22, vi b)], [Ab 5 a], []⟩
def z4 : Nat → S → Option R_ := H.i P_ [r,r,r,r,l,r,d]
def x6 (a : LB) : Option R_ := H.e P_ [r,r,r,r,r] ⟨[(6, .own 0)], [Ab 5 a], []⟩
def x4 (f : UInt64) (g : LB) (b : Int) (a : LB) : Option R_ := H.e P_ [r,r,r,r,l,r,d] (t4 f g b a)
theorem e6 : x6 = Aje := by kernel_rfl
theorem i4 (f : UInt64) (g : LB) : ∀ (q : Nat) (b : Int) (a : LB), z4 q (t4 f g b a) = Aau f g q b a :=
 ind (fun _ _ => by kernel_rfl) fun q ih b a => Eq.trans (b := Ajn x6 (fun b a => (z4 q) (t4 f g b a)) f g b a) (by kernel_rfl) (by simp only [e6, ih] <;> rfl)
theorem e4 : x4 = Ake := by funext f g b a; exact Eq.trans (by kernel_rfl) ((i4 f g Bh b a).trans (by rw [Ah]; rfl))
noncomputable def F := u2 Mm
theorem rn x : H.u P_ x = F x := Eq.trans (b := u2 (Ai8 x4) x) (by kernel_rfl) (by simp only [e4] <;> rfl)
noncomputable def c : Con := ⟨H.p, H.r, F⟩
theorem ok : ConOk P_ gl 143 c := co H func143 (.cons F192.ok .nil) rn
end F143
namespace F154
abbrev R_ := LB
noncomputable def H : Hd := ⟨[.lf (.list (.list (.int .u8))) none], [Ob 5], (.seq .d (.seq .d (.cut [0, 3] [] (.seq .d (.blk (.loop [0, 3, 9, 10, 11] [] .d))) (.cut [0, 6] [⟨6, [], .own 5 (.int .u8)⟩] (.keep [0, 3, 6, 23, 24] true) (.cut [6] [] (.seq .d (.blk (.loop [6, 25, 26, 27] [] .d))) .d))))), ⟨[], gl, true⟩, [(196, (.seq .d (.cut [0, 1] [] .d .d)))], f154⟩
def t14 (a : List LB) (g : Int) (f : LB) : S := ⟨[(6, .own 0), (25, .val (.list (.list (.int .u8))) a), (26, vi (Aa a)), (27, vi g)], [Ab 5 f], []⟩
def z14 : Nat → S → Option R_ := H.i P_ [r,r,r,r,l,r,d]
def t9 (a : List LB) (b h : Int) : S := ⟨[(0, .val (.list (.list (.int .u8))) a), (3, vi b), (9, .val (.list (.list (.int .u8))) a), (10, vi (Aa a)), (11, vi h)], [], []⟩
def z9 : Nat → S → Option R_ := H.i P_ [r,r,l,r,d]
def x16 (f : LB) : Option R_ := H.e P_ [r,r,r,r,r] ⟨[(6, .own 0)], [Ab 5 f], []⟩
def x14 (a : List LB) (g : Int) (f : LB) : Option R_ := H.e P_ [r,r,r,r,l,r,d] (t14 a g f)
def x13 (a : List LB) (k : LB) : Option R_ := H.e P_ [r,r,r,r] ⟨[(0, .val (.list (.list (.int .u8))) a), (6, .own 0)], [Ab 5 k], []⟩
def x12 (b : Int) (a : List LB) : Option R_ := H.e P_ [r,r,r,l,(call 1 196),r,r] ⟨[(0, .nils), (1, vi b)], [], [[(0, .val (.list (.list (.int .u8))) a), (3, vi b), (23, vi b)]]⟩
def x11 (a : List LB) (b : Int) : Option R_ := H.e P_ [r,r,r] ⟨[(0, .val (.list (.list (.int .u8))) a), (3, vi b)], [], []⟩
def x9 (a : List LB) (b h : Int) : Option R_ := H.e P_ [r,r,l,r,d] (t9 a b h)
theorem e16 : x16 = Hc := by kernel_rfl
theorem i14 (a : List LB) : ∀ (q : Nat) (g : Int) (f : LB), z14 q (t14 a g f) = Ej a q g f :=
 ind (fun _ _ => by kernel_rfl) fun q ih g f => Eq.trans (b := Hi x16 (fun g f => (z14 q) (t14 a g f)) a g f) (by kernel_rfl) (by simp only [e16, ih] <;> rfl)
theorem e14 : x14 = He := by funext a g f; exact Eq.trans (by kernel_rfl) ((i14 a Bh g f).trans (by rw [Ah]; rfl))
theorem e13 : x13 = Gy := Eq.trans (b := Hb x14) (by kernel_rfl) (by simp only [e14] <;> rfl)
theorem e12 : x12 = Hj := Eq.trans (b := Hg x13) (by kernel_rfl) (by simp only [e13] <;> rfl)
theorem e11 : x11 = Gx := Eq.trans (b := Hf x12) (by kernel_rfl) (by simp only [e12] <;> rfl)
theorem i9 (a : List LB) : ∀ (q : Nat) (b h : Int), z9 q (t9 a b h) = Fc a q b h :=
 ind (fun _ _ => by kernel_rfl) fun q ih b h => Eq.trans (b := Hl x11 (fun b h => (z9 q) (t9 a b h)) a b h) (by kernel_rfl) (by simp only [e11, ih] <;> rfl)
theorem e9 : x9 = Hq := by funext a b h; exact Eq.trans (by kernel_rfl) ((i9 a Bh b h).trans (by rw [Ah]; rfl))
noncomputable def F := Dz
theorem rn x : H.u P_ x = F x := Eq.trans (b := Hm x9 x) (by kernel_rfl) (by simp only [e9] <;> rfl)
noncomputable def c : Con := ⟨H.p, H.r, F⟩
theorem ok : ConOk P_ gl 154 c := cr H func154 .nil (AnsOk.cons ent196 AnsOk.nil) rn
end F154
namespace F141
abbrev R_ := (LB × Int)
abbrev K_ := S → Option R_
noncomputable def H : Hd := ⟨[.agg [Si, Si], .lf (.vec 16 (.int .i32)) none, Sw], [Ob 5, Si], (.seq .d (.seq .d (.seq .d (.seq .d (.seq .d (.cut [11] [] (.seq .d (.blk (.loop [3, 10, 11, 30, 31, 32] [⟨11, [0], .own 5 (.int .u8)⟩] (.seq .d (.seq .d (.cut [3, 10, 11, 30, 31, 32] [] (.blk (.seq .d (.seq .d (.seq .d (.seq .d (.keep [3, 10, 11, 14, 30, 31, 32, 59] true)))))) .d)))))) .d)))))), ⟨[(134, F134.c), (143, F143.c), (154, F154.c), (188, F188.c), (189, F189.c), (190, F190.c)], gl, false⟩, [(191, (.seq .d (.seq .d (.blk (.loop [0, 3, 7, 8] [] (.seq .d (.seq .d (.seq (.blk (.seq .d (.cut [0, 3, 4, 7, 8] [] .d (.seq .d (.cut [0, 3, 7, 8] [] .d .d))))) .d))))))))], f141⟩
def t44 (a : LU) (b f h g : Int) (k : List (Int × Int × UInt64 × UInt64 × Unit)) (m : LB) (o n : Int) (v : LB) : S := ⟨[(0, .ptr 0 []), (3, .ptr 1 []), (7, vi h), (8, vi o)], [.box 224 (.agg [.own 7, vi n]), .box 224 (.agg [.own 6, vi h]), .box 69 (.agg [vi b, vi f]), .box 259 (.val (.vec 6 (.cons (.int .i64) (.cons (.int .i64) (.cons (.int .u64) (.cons (.int .u64) .nil))))) k), .box 224 (.agg [.own 6, vi h]), Av 23 a, Ab 5 m, Ab 5 v], [[(3, .ptr 2 []), (10, .ptr 3 []), (11, .ptr 0 []), (14, .ptr 4 []), (30, .own 5), (31, vi (Aa a)), (32, vi g), (59, .agg [.own 6, vi h])]]⟩
def z44 (kn27 : K_) : Nat → S → Option R_ := H.i P_ [r,r,r,r,r,l,r,d,(lp kn27),r,r,l,d,r,r,r,r,(call 1 191),r,r,d]
def t27 (a : LU) (b f g : Int) (w : List (Int × Int × UInt64 × UInt64 × Unit)) (u : Int) (p : LB) : S := ⟨[(3, .ptr 0 []), (10, .ptr 1 []), (11, .ptr 2 []), (30, .own 3), (31, vi (Aa a)), (32, vi g)], [.box 69 (.agg [vi b, vi f]), .box 259 (.val (.vec 6 (.cons (.int .i64) (.cons (.int .i64) (.cons (.int .u64) (.cons (.int .u64) .nil))))) w), .box 224 (.agg [.own 4, vi u]), Av 23 a, Ab 5 p], []⟩
def z27 : Nat → S → Option R_ := H.i P_ [r,r,r,r,r,l,r,d]
def x52 (u : Int) (p : LB) : Option R_ := H.e P_ [r,r,r,r,r,r] ⟨[(11, .ptr 0 [])], [.box 224 (.agg [.own 1, vi u]), Ab 5 p], []⟩
def x50 (kn27 : K_) (a : LU) (b f g : Int) (k : List (Int × Int × UInt64 × UInt64 × Unit)) (n : Int) (v : LB) : Option R_ := H.e P_ [r,r,r,r,r,l,r,d,(lp kn27),r,r,r] ⟨[(3, .ptr 0 []), (10, .ptr 1 []), (11, .ptr 2 []), (30, .own 3), (31, vi (Aa a)), (32, vi g)], [.box 69 (.agg [vi b, vi f]), .box 259 (.val (.vec 6 (.cons (.int .i64) (.cons (.int .i64) (.cons (.int .u64) (.cons (.int .u64) .nil))))) k), .box 224 (.agg [.own 4, vi n]), Av 23 a, Ab 5 v], []⟩
def x48 (kn27 kn44 : K_) (h : Int) (a : LU) (g b f : Int) (k : List (Int × Int × UInt64 × UInt64 × Unit)) (m : LB) (o n : Int) (aa : LB) : Option R_ := H.e P_ [r,r,r,r,r,l,r,d,(lp kn27),r,r,l,d,r,r,r,r,(call 1 191),r,r,d,(lp kn44),r,r,l,d,r,r,r,r] ⟨[(0, .ptr 0 []), (3, .ptr 1 []), (7, vi h), (8, vi o)], [.box 224 (.agg [.own 7, vi n]), .box 224 (.agg [.own 6, vi h]), .box 69 (.agg [vi b, vi f]), .box 259 (.val (.vec 6 (.cons (.int .i64) (.cons (.int .i64) (.cons (.int .u64) (.cons (.int .u64) .nil))))) k), .box 224 (.agg [.own 6, vi h]), Av 23 a, Ab 5 m, Ab 5 aa], [[(3, .ptr 2 []), (10, .ptr 3 []), (11, .ptr 0 []), (14, .ptr 4 []), (30, .own 5), (31, vi (Aa a)), (32, vi g), (59, .agg [.own 6, vi h])]]⟩
def x47 (kn27 kn44 : K_) (h : Int) (a : LU) (g b f : Int) (k : List (Int × Int × UInt64 × UInt64 × Unit)) (m : LB) (o n : Int) (y : LB) : Option R_ := H.e P_ [r,r,r,r,r,l,r,d,(lp kn27),r,r,l,d,r,r,r,r,(call 1 191),r,r,d,(lp kn44),r,r,l,d,r,r] ⟨[(0, .ptr 0 []), (3, .ptr 1 []), (4, vi o), (7, vi h), (8, vi o)], [.box 224 (.agg [.own 7, vi n]), .box 224 (.agg [.own 6, vi h]), .box 69 (.agg [vi b, vi f]), .box 259 (.val (.vec 6 (.cons (.int .i64) (.cons (.int .i64) (.cons (.int .u64) (.cons (.int .u64) .nil))))) k), .box 224 (.agg [.own 6, vi h]), Av 23 a, Ab 5 m, Ab 5 y], [[(3, .ptr 2 []), (10, .ptr 3 []), (11, .ptr 0 []), (14, .ptr 4 []), (30, .own 5), (31, vi (Aa a)), (32, vi g), (59, .agg [.own 6, vi h])]]⟩
def x44 (kn27 : K_) (a : LU) (b f h g : Int) (k : List (Int × Int × UInt64 × UInt64 × Unit)) (m : LB) (o n : Int) (v : LB) : Option R_ := H.e P_ [r,r,r,r,r,l,r,d,(lp kn27),r,r,l,d,r,r,r,r,(call 1 191),r,r,d] (t44 a b f h g k m o n v)
def x27 (a : LU) (b f g : Int) (w : List (Int × Int × UInt64 × UInt64 × Unit)) (u : Int) (p : LB) : Option R_ := H.e P_ [r,r,r,r,r,l,r,d] (t27 a b f g w u p)
theorem e52 : x52 = Pq := by kernel_rfl
theorem e50 (kn27 : K_) (a : LU) (b f : Int) : x50 kn27 a b f = Ps (fun g w u p => kn27 (t27 a b f g w u p)) a b f := by kernel_rfl
theorem e48 (kn27 kn44 : K_) (a : LU) (b f h g : Int) (k : List (Int × Int × UInt64 × UInt64 × Unit)) (m : LB) : x48 kn27 kn44 h a g b f k m = Pe (fun o n v => kn44 (t44 a b f h g k m o n v)) h a g b f k m := by kernel_rfl
theorem e47 (kn27 kn44 : K_) (a : LU) (b f h g : Int) (k : List (Int × Int × UInt64 × UInt64 × Unit)) (m : LB) : x47 kn27 kn44 h a g b f k m = Pm (fun o n v => kn44 (t44 a b f h g k m o n v)) h a g b f k m := Eq.trans (b := Pp (x48 kn27 kn44 h a g b f k m) h a g b f k m) (by kernel_rfl) (by simp only [e48] <;> rfl)
theorem i44 (kn27 : K_) (a : LU) (b f h g : Int) (k : List (Int × Int × UInt64 × UInt64 × Unit)) (m : LB) : ∀ (q : Nat) (o n : Int) (v : LB), z44 kn27 q (t44 a b f h g k m o n v) = Jm (fun g w u p => kn27 (t27 a b f g w u p)) a b f h g k m q o n v :=
 ind (fun _ _ _ => by kernel_rfl) fun q ih o n v => Eq.trans (b := Pa (x47 kn27 (z44 kn27 q) h a g b f k m) (x50 kn27 a b f) a b f h g k m o n v) (by kernel_rfl) (by simp only [e47, e50, ih] <;> rfl)
theorem e44 (kn27 : K_) (a : LU) (b f : Int) : x44 kn27 a b f = Qv (fun g w u p => kn27 (t27 a b f g w u p)) a b f := by funext h g k m o n v; exact Eq.trans (by kernel_rfl) ((i44 kn27 a b f h g k m Bh o n v).trans (by rw [Ah]; rfl))
theorem i27 (a : LU) (b f : Int) : ∀ (q : Nat) (g : Int) (w : List (Int × Int × UInt64 × UInt64 × Unit)) (u : Int) (p : LB), z27 q (t27 a b f g w u p) = Jt a b f q g w u p :=
 ind (fun _ _ _ _ => by kernel_rfl) fun q ih g w u p => Eq.trans (b := Oz (x44 (z27 q) a b f) x52 a b f g w u p) (by kernel_rfl) (by simp only [e44, e52, ih] <;> rfl)
theorem e27 : x27 = Qy := by funext a b f g w u p; exact Eq.trans (by kernel_rfl) ((i27 a b f Bh g w u p).trans (by rw [Ah]; rfl))
noncomputable def F := u4 Pd
theorem rn x : H.u P_ x = F x := Eq.trans (b := u4 (Sr x27) x) (by kernel_rfl) (by simp only [e27] <;> rfl)
noncomputable def c : Con := ⟨H.p, H.r, F⟩
theorem ok : ConOk P_ gl 141 c := cr H func141 (.cons F134.ok (.cons F143.ok (.cons F154.ok (.cons F188.ok (.cons F189.ok (.cons F190.ok .nil)))))) (AnsOk.cons ent191 AnsOk.nil) rn
end F141
namespace F103
noncomputable def H : Hd := ⟨[.agg [.agg [Si, Si], Si, Ss, Sb, Sw, .lf (.list (.list (.int .u8))) none, Sb, Sz, Si], Si], [.agg [.agg [Si, Si], Si, Ss, Ob 5, Ow 21, .lf (.list (.list (.int .u8))) (some 22), Ob 5, Sz, Si], Si], .d, ⟨[], gl, false⟩, [], f103⟩
noncomputable def F := u11 Kz
theorem rn x : H.u P_ x = F x := by kernel_rfl
noncomputable def c : Con := ⟨H.p, H.r, F⟩
theorem ok : ConOk P_ gl 103 c := co H func103 .nil rn
end F103
namespace F57
abbrev R_ := (Int × Int × Int × LB × LB × LX × (List LB) × LB × Bool × Int × Int)
abbrev K_ := S → Option R_
noncomputable def H : Hd := ⟨[.agg [.agg [Si, Si], Si, Ss, Sb, Sw, .lf (.list (.list (.int .u8))) none, Sb, Sz, Si], Sb], [.agg [.agg [Si, Si], Si, Ss, Ob 5, Ow 21, .lf (.list (.list (.int .u8))) (some 22), Ob 5, Sz, Si], Si], (.seq .d (.seq .d (.seq .d (.seq .d (.seq .d (.cut [2, 4] [] (.seq .d (.blk (.loop [2, 4, 8, 9, 27, 28, 29] [] (.seq .d (.seq .d (.cut [2, 4, 8, 9, 27, 28, 29] [] (.blk (.seq .d (.seq .d (.seq .d (.cut [2, 4, 8, 9, 12, 27, 28, 29] [⟨2, [3], .own 5 (.int .u8)⟩, ⟨2, [4], .own 21 (.int .i32)⟩, ⟨9, [0, 3], .own 5 (.int .u8)⟩, ⟨9, [0, 4], .own 21 (.int .i32)⟩] (.keep [2, 4, 8, 9, 12, 27, 28, 29, 45] true) .d))))) .d)))))) .d)))))), ⟨[(96, F96.c), (97, F97.c), (99, F99.c), (100, F100.c), (101, F101.c), (103, F103.c), (116, F116.c), (141, F141.c)], gl, false⟩, [(98, (.seq .d (.cut [0, 1] [] .d (.seq .d (.seq .d (.seq .d (.seq .d (.cut [2] [] (.keep [2, 43] true) .d)))))))), (102, .d)], f57⟩
def t14 (p : Int) (n : LB) (a b g : Int) (f : LB) (h : Bool) (k o : Int) (m : LB) (u : Int) (y : LB) (w : LX) (v : List LB) : S := ⟨[(2, .ptr 0 []), (4, .ptr 1 []), (8, vi p), (9, .fn 98 [.ptr 0 [], .ptr 2 []]), (27, vb n), (28, vi (Aa n)), (29, vi u)], [.box 99 (.agg [.agg [vi a, vi b], vi g, vs f, .own 3, .own 4, .own 5, .own 6, vt h, vi k]), .box 99 (.agg [.agg [vi 0, vi 0], vi 0, vs ([] : LB), .nils, .nils, .nils, .nils, vt false, vi 0]), .box 3 (vi o), Ab 5 y, Aw 21 w, .arr 22 (.list (.int .u8)) v, Ab 5 m], []⟩
def z14 : Nat → S → Option R_ := H.i P_ [r,r,r,r,r,l,r,d]
def x26 (a b g : Int) (f : LB) (h : Bool) (k : Int) (y : LB) (w : LX) (v : List LB) (m : LB) : Option R_ := H.e P_ [r,r,r,r,r,r] ⟨[(2, .ptr 0 []), (4, .ptr 1 [])], [.box 99 (.agg [.agg [vi a, vi b], vi g, vs f, .own 2, .own 3, .own 4, .own 5, vt h, vi k]), .box 99 (.agg [.agg [vi 0, vi 0], vi 0, vs ([] : LB), .nils, .nils, .nils, .nils, vt false, vi 0]), Ab 5 y, Aw 21 w, .arr 22 (.list (.int .u8)) v, Ab 5 m], []⟩
def x24 (kn14 : K_) (p : Int) (n : LB) (a b g : Int) (f : LB) (h : Bool) (k o : Int) (m : LB) (u : Int) (ah : LB) (ai : LX) (aj : List LB) : Option R_ := H.e P_ [r,r,r,r,r,l,r,d,(lp kn14),r,r,r] ⟨[(2, .ptr 0 []), (4, .ptr 1 []), (8, vi p), (9, .fn 98 [.ptr 0 [], .ptr 2 []]), (27, vb n), (28, vi (Aa n)), (29, vi u)], [.box 99 (.agg [.agg [vi a, vi b], vi g, vs f, .own 3, .own 4, .own 5, .own 6, vt h, vi k]), .box 99 (.agg [.agg [vi 0, vi 0], vi 0, vs ([] : LB), .nils, .nils, .nils, .nils, vt false, vi 0]), .box 3 (vi o), Ab 5 ah, Aw 21 ai, .arr 22 (.list (.int .u8)) aj, Ab 5 m], []⟩
def x23 (kn14 : K_) (p : Int) (n : LB) (a b g : Int) (f : LB) (h : Bool) (k o : Int) (m : LB) (u ad : Int) (ae : LB) (af : LX) (ag : List LB) : Option R_ := H.e P_ [r,r,r,r,r,l,r,d,(lp kn14),r,r,l,d,r,r,r,r] ⟨[(2, .ptr 0 []), (4, .ptr 1 []), (8, vi p), (9, .fn 98 [.ptr 0 [], .ptr 2 []]), (12, vi ad), (27, vb n), (28, vi (Aa n)), (29, vi u)], [.box 99 (.agg [.agg [vi a, vi b], vi g, vs f, .own 3, .own 4, .own 5, .own 6, vt h, vi k]), .box 99 (.agg [.agg [vi 0, vi 0], vi 0, vs ([] : LB), .nils, .nils, .nils, .nils, vt false, vi 0]), .box 3 (vi o), Ab 5 ae, Aw 21 af, .arr 22 (.list (.int .u8)) ag, Ab 5 m], []⟩
def x21 (kn14 : K_) (p : Int) (n : LB) (a b g : Int) (f : LB) (h : Bool) (k o : Int) (m : LB) (u : Int) (ab : LX) (v : List LB) (ak : Int) : Option R_ := H.e P_ [r,r,r,r,r,l,r,d,(lp kn14),r,r,l,d,r,r,r,l,(call 1 98),r,r,r,r,r,r,r] ⟨[(2, vi ak)], [.box 99 (.agg [.agg [vi a, vi b], vi g, vs f, .nils, .own 3, .own 4, .own 5, vt h, vi k]), .box 99 (.agg [.agg [vi 0, vi 0], vi 0, vs ([] : LB), .nils, .nils, .nils, .nils, vt false, vi 0]), .box 3 (vi o), Aw 21 ab, .arr 22 (.list (.int .u8)) v, Ab 5 m], [[(2, .ptr 0 []), (4, .ptr 1 []), (8, vi p), (9, .fn 98 [.ptr 0 [], .ptr 2 []]), (27, vb n), (28, vi (Aa n)), (29, vi u)]]⟩
def x22 (kn14 : K_) (p : Int) (n : LB) (a b g : Int) (f : LB) (h : Bool) (k o : Int) (m : LB) (u : Int) (ac : List LB) : Option R_ := H.e P_ [r,r,r,r,r,l,r,d,(lp kn14),r,r,l,d,r,r,r,l,(call 1 98),r,r,r,r,r,r,r] ⟨[(2, vi 0)], [.box 99 (.agg [.agg [vi a, vi b], vi g, vs f, .nils, .nils, .own 3, .own 4, vt h, vi k]), .box 99 (.agg [.agg [vi 0, vi 0], vi 0, vs ([] : LB), .nils, .nils, .nils, .nils, vt false, vi 0]), .box 3 (vi o), .arr 22 (.list (.int .u8)) ac, Ab 5 m], [[(2, .ptr 0 []), (4, .ptr 1 []), (8, vi p), (9, .fn 98 [.ptr 0 [], .ptr 2 []]), (27, vb n), (28, vi (Aa n)), (29, vi u)]]⟩
def x20 (kn14 : K_) (p : Int) (n : LB) (a b g : Int) (f : LB) (h : Bool) (k o : Int) (m : LB) (u : Int) (aa : LB) (w : LX) (v : List LB) : Option R_ := H.e P_ [r,r,r,r,r,l,r,d,(lp kn14),r,r,l,d,r,r,r,l,(call 1 98),r,r] ⟨[(0, .ptr 0 []), (1, .ptr 1 [])], [.box 99 (.agg [.agg [vi a, vi b], vi g, vs f, .own 3, .own 4, .own 5, .own 6, vt h, vi k]), .box 3 (vi o), .box 99 (.agg [.agg [vi 0, vi 0], vi 0, vs ([] : LB), .nils, .nils, .nils, .nils, vt false, vi 0]), Ab 5 aa, Aw 21 w, .arr 22 (.list (.int .u8)) v, Ab 5 m], [[(2, .ptr 0 []), (4, .ptr 2 []), (8, vi p), (9, .fn 98 [.ptr 0 [], .ptr 1 []]), (27, vb n), (28, vi (Aa n)), (29, vi u)]]⟩
def x14 (p : Int) (n : LB) (a b g : Int) (f : LB) (h : Bool) (k o : Int) (m : LB) (u : Int) (y : LB) (w : LX) (v : List LB) : Option R_ := H.e P_ [r,r,r,r,r,l,r,d] (t14 p n a b g f h k o m u y w v)
theorem e26 : x26 = Uv := by kernel_rfl
theorem e24 (kn14 : K_) (p : Int) (n : LB) (a b g : Int) (f : LB) (h : Bool) (k o : Int) (m : LB) : x24 kn14 p n a b g f h k o m = Lj (fun u y w v => kn14 (t14 p n a b g f h k o m u y w v)) p n a b g f h k o m := by kernel_rfl
theorem e23 (kn14 : K_) (p : Int) (n : LB) (a b g : Int) (f : LB) (h : Bool) (k o : Int) (m : LB) : x23 kn14 p n a b g f h k o m = Ga (fun u y w v => kn14 (t14 p n a b g f h k o m u y w v)) p n a b g f h k o m := Eq.trans (b := Uo (x24 kn14 p n a b g f h k o m) p n a b g f h k o m) (by kernel_rfl) (by simp only [e24] <;> rfl)
theorem e21 (kn14 : K_) (p : Int) (n : LB) (a b g : Int) (f : LB) (h : Bool) (k o : Int) (m : LB) : x21 kn14 p n a b g f h k o m = Va (fun u y w v => kn14 (t14 p n a b g f h k o m u y w v)) p n a b g f h k o m := Eq.trans (b := Wt (x23 kn14 p n a b g f h k o m) p n a b g f h k o m) (by kernel_rfl) (by simp only [e23] <;> rfl)
theorem e22 (kn14 : K_) (p : Int) (n : LB) (a b g : Int) (f : LB) (h : Bool) (k o : Int) (m : LB) : x22 kn14 p n a b g f h k o m = Vv (fun u y w v => kn14 (t14 p n a b g f h k o m u y w v)) p n a b g f h k o m := Eq.trans (b := Wb (x23 kn14 p n a b g f h k o m) p n a b g f h k o m) (by kernel_rfl) (by simp only [e23] <;> rfl)
theorem e20 (kn14 : K_) (p : Int) (n : LB) (a b g : Int) (f : LB) (h : Bool) (k o : Int) (m : LB) : x20 kn14 p n a b g f h k o m = Vq (fun u y w v => kn14 (t14 p n a b g f h k o m u y w v)) p n a b g f h k o m := Eq.trans (b := Vj (x23 kn14 p n a b g f h k o m) (x21 kn14 p n a b g f h k o m) (x22 kn14 p n a b g f h k o m) p n a b g f h k o m) (by kernel_rfl) (by simp only [e23, e21, e22] <;> rfl)
theorem i14 (p : Int) (n : LB) (a b g : Int) (f : LB) (h : Bool) (k o : Int) (m : LB) : ∀ (q : Nat) (u : Int) (y : LB) (w : LX) (v : List LB), z14 q (t14 p n a b g f h k o m u y w v) = Fy p n a b g f h k o m q u y w v :=
 ind (fun _ _ _ _ => by kernel_rfl) fun q ih u y w v => Eq.trans (b := Wh (x24 (z14 q) p n a b g f h k o m) (x23 (z14 q) p n a b g f h k o m) (x20 (z14 q) p n a b g f h k o m) x26 p n a b g f h k o m u y w v) (by kernel_rfl) (by simp only [e24, e23, e20, e26, ih] <;> rfl)
theorem e14 : x14 = Ux := by funext p n a b g f h k o m u y w v; exact Eq.trans (by kernel_rfl) ((i14 p n a b g f h k o m Bh u y w v).trans (by rw [Ah]; rfl))
noncomputable def F := u11 Agc
theorem rn x : H.u P_ x = F x := Eq.trans (b := u11 (Zu x14) x) (by kernel_rfl) (by simp only [e14] <;> rfl)
noncomputable def c : Con := ⟨H.p, H.r, F⟩
theorem ok : ConOk P_ gl 57 c := cr H func57 (.cons F96.ok (.cons F97.ok (.cons F99.ok (.cons F100.ok (.cons F101.ok (.cons F103.ok (.cons F116.ok (.cons F141.ok .nil)))))))) (AnsOk.cons ent98 (AnsOk.cons ent102 AnsOk.nil)) rn
end F57
namespace F153
noncomputable def H : Hd := ⟨[Ss], [Si, Si], .d, ⟨[], gl, false⟩, [], f153⟩
noncomputable def F := Ad1
theorem rn x : H.u P_ x = F x := by kernel_rfl
noncomputable def c : Con := ⟨H.p, H.r, F⟩
theorem ok : ConOk P_ gl 153 c := co H func153 .nil rn
end F153
namespace F135
abbrev R_ := Bool
noncomputable def H : Hd := ⟨[.agg [Si, Si, Si, Si, Si]], [Sz], (.seq .d (.cut [1] [] .d .d)), ⟨[], gl, false⟩, [], f135⟩
def x2 (b f a g h : Int) : Option R_ := H.e P_ [r,r] ⟨[(1, .ptr 0 [])], [.box 46 (.agg [vi b, vi f, vi a, vi g, vi h])], []⟩
theorem e2 : x2 = Vm := by kernel_rfl
noncomputable def F := u5 Uf
theorem rn x : H.u P_ x = F x := Eq.trans (b := u5 (Vs x2) x) (by kernel_rfl) (by simp only [e2] <;> rfl)
noncomputable def c : Con := ⟨H.p, H.r, F⟩
theorem ok : ConOk P_ gl 135 c := co H func135 .nil rn
end F135
namespace F168
noncomputable def H : Hd := ⟨[Si, Si], [Si, Si], .d, ⟨[(150, F150.c)], gl, false⟩, [], f168⟩
noncomputable def F := u2 Tq
theorem rn x : H.u P_ x = F x := by kernel_rfl
noncomputable def c : Con := ⟨H.p, H.r, F⟩
theorem ok : ConOk P_ gl 168 c := co H func168 (.cons F150.ok .nil) rn
end F168
namespace F136
noncomputable def H : Hd := ⟨[.agg [Si, Si, Si, Si, Si]], [Sz], .d, ⟨[(168, F168.c)], gl, false⟩, [], f136⟩
noncomputable def F := u5 Abx
theorem rn x : H.u P_ x = F x := by kernel_rfl
noncomputable def c : Con := ⟨H.p, H.r, F⟩
theorem ok : ConOk P_ gl 136 c := co H func136 (.cons F168.ok .nil) rn
end F136
namespace F120
noncomputable def H : Hd := ⟨[.agg [Si, Si, Si, Si, Si]], [Si], .d, ⟨[(135, F135.c), (136, F136.c)], gl, false⟩, [], f120⟩
noncomputable def F := u5 Ww
theorem rn x : H.u P_ x = F x := by kernel_rfl
noncomputable def c : Con := ⟨H.p, H.r, F⟩
theorem ok : ConOk P_ gl 120 c := co H func120 (.cons F135.ok (.cons F136.ok .nil)) rn
end F120
namespace F83
abbrev R_ := (LB × Int)
noncomputable def H : Hd := ⟨[.agg [Si, Si, Si, Si, Si]], [Ob 5, Si], (.seq .d (.seq .d (.seq .d (.cut [5] [] (.seq .d (.blk (.loop [5, 31, 32] [] .d))) .d)))), ⟨[(120, F120.c), (134, F134.c), (143, F143.c)], gl, false⟩, [], f83⟩
def t4 (b f g h k m : Int) (a : LB) : S := ⟨[(5, .own 0), (31, .val (.vec 5 (.int .i64)) ([b, f, g, h, k] : LI)), (32, vi m)], [Ab 5 a], []⟩
def z4 : Nat → S → Option R_ := H.i P_ [r,r,r,l,r,d]
def x6 (a : LB) : Option R_ := H.e P_ [r,r,r,r] ⟨[(5, .own 0)], [Ab 5 a], []⟩
def x4 (b f g h k m : Int) (a : LB) : Option R_ := H.e P_ [r,r,r,l,r,d] (t4 b f g h k m a)
theorem e6 : x6 = Aac := by kernel_rfl
theorem i4 (b f g h k : Int) : ∀ (q : Nat) (m : Int) (a : LB), z4 q (t4 b f g h k m a) = Nj b f g h k q m a :=
 ind (fun _ _ => by kernel_rfl) fun q ih m a => Eq.trans (b := Yw x6 (fun m a => (z4 q) (t4 b f g h k m a)) b f g h k m a) (by kernel_rfl) (by simp only [e6, ih] <;> rfl)
theorem e4 : x4 = Zk := by funext b f g h k m a; exact Eq.trans (by kernel_rfl) ((i4 b f g h k Bh m a).trans (by rw [Ah]; rfl))
noncomputable def F := u5 Aho
theorem rn x : H.u P_ x = F x := Eq.trans (b := u5 (Zv x4) x) (by kernel_rfl) (by simp only [e4] <;> rfl)
noncomputable def c : Con := ⟨H.p, H.r, F⟩
theorem ok : ConOk P_ gl 83 c := co H func83 (.cons F120.ok (.cons F134.ok (.cons F143.ok .nil))) rn
end F83
namespace F144
noncomputable def H : Hd := ⟨[Ss], [Sq, Si], .d, ⟨[(160, F160.c)], gl, false⟩, [], f144⟩
noncomputable def F := Aom
theorem rn x : H.u P_ x = F x := by kernel_rfl
noncomputable def c : Con := ⟨H.p, H.r, F⟩
theorem ok : ConOk P_ gl 144 c := co H func144 (.cons F160.ok .nil) rn
end F144
namespace F84
noncomputable def H : Hd := ⟨[Ss], [Ob 5, Si], .d, ⟨[(143, F143.c), (144, F144.c)], gl, false⟩, [], f84⟩
noncomputable def F := Xm
theorem rn x : H.u P_ x = F x := by kernel_rfl
noncomputable def c : Con := ⟨H.p, H.r, F⟩
theorem ok : ConOk P_ gl 84 c := co H func84 (.cons F143.ok (.cons F144.ok .nil)) rn
end F84
namespace F70
abbrev R_ := Int
noncomputable def H : Hd := ⟨[Sl], [Si], (.seq .d (.seq .d (.seq .d (.cut [] [] (.seq .d (.blk (.loop [3, 14, 15, 16] [] .d))) .d)))), ⟨[], gl, false⟩, [], f70⟩
def t4 (a : LI) (f b : Int) : S := ⟨[(3, vi f), (14, vl a), (15, vi (Aa a)), (16, vi b)], [], []⟩
def z4 : Nat → S → Option R_ := H.i P_ [r,r,r,l,r,d]
def x6 : Option R_ := H.e P_ [r,r,r,r] ⟨[], [], []⟩
def x4 (a : LI) (f b : Int) : Option R_ := H.e P_ [r,r,r,l,r,d] (t4 a f b)
theorem e6 : x6 = Aax := by kernel_rfl
theorem i4 (a : LI) : ∀ (q : Nat) (f b : Int), z4 q (t4 a f b) = Ph a q f b :=
 ind (fun _ _ => by kernel_rfl) fun q ih f b => Eq.trans (b := Ab0 x6 (fun f b => (z4 q) (t4 a f b)) a f b) (by kernel_rfl) (by simp only [e6, ih] <;> rfl)
theorem e4 : x4 = Ach := by funext a f b; exact Eq.trans (by kernel_rfl) ((i4 a Bh f b).trans (by rw [Ah]; rfl))
noncomputable def F := Rs
theorem rn x : H.u P_ x = F x := Eq.trans (b := Aap x4 x) (by kernel_rfl) (by simp only [e4] <;> rfl)
noncomputable def c : Con := ⟨H.p, H.r, F⟩
theorem ok : ConOk P_ gl 70 c := co H func70 .nil rn
end F70
namespace F85
abbrev R_ := (LB × Int)
abbrev K_ := S → Option R_
noncomputable def H : Hd := ⟨[Sl], [Ob 5, Si], (.seq .d (.seq .d (.seq .d (.seq .d (.cut [5, 6] [] (.seq .d (.blk (.loop [5, 6, 17, 18, 19] [⟨5, [], .own 5 (.int .u8)⟩, ⟨6, [0], .own 5 (.int .u8)⟩] (.seq .d (.seq .d (.cut [5, 6, 17, 18, 19] [] (.blk (.seq .d (.keep [5, 6, 8, 17, 18, 19, 23, 24, 25] true))) .d)))))) (.seq .d (.cut [5] [] (.keep [5, 6, 9, 33, 34, 35] true) .d))))))), ⟨[(70, F70.c), (134, F134.c), (143, F143.c)], gl, false⟩, [(145, .d)], f85⟩
def t8 (a : LI) (f : Int) (b : LB) : S := ⟨[(5, .ptr 0 []), (6, .fn 145 [.ptr 0 []]), (17, vl a), (18, vi (Aa a)), (19, vi f)], [.box 22 (.own 1), Ab 5 b], []⟩
def z8 : Nat → S → Option R_ := H.i P_ [r,r,r,r,l,r,d]
def x14 (g : LB) : Option R_ := H.e P_ [r,r,r,r,r,r,r] ⟨[(5, .ptr 0 [])], [.box 22 (.own 1), Ab 5 g], []⟩
def x13 (b : LB) : Option R_ := H.e P_ [r,r,r,r,r] ⟨[(5, .ptr 0 []), (6, .fn 145 [.ptr 0 []])], [.box 22 (.own 1), Ab 5 b], []⟩
def x11 (kn8 : K_) (a : LI) (f : Int) (h : LB) : Option R_ := H.e P_ [r,r,r,r,l,r,d,(lp kn8),r,r,r] ⟨[(5, .ptr 0 []), (6, .fn 145 [.ptr 0 []]), (17, vl a), (18, vi (Aa a)), (19, vi f)], [.box 22 (.own 1), Ab 5 h], []⟩
def x8 (a : LI) (f : Int) (b : LB) : Option R_ := H.e P_ [r,r,r,r,l,r,d] (t8 a f b)
theorem e14 : x14 = Zd := by kernel_rfl
theorem e13 : x13 = Za := Eq.trans (b := Ym x14) (by kernel_rfl) (by simp only [e14] <;> rfl)
theorem e11 (kn8 : K_) (a : LI) : x11 kn8 a = Zp (fun f b => kn8 (t8 a f b)) a := by kernel_rfl
theorem i8 (a : LI) : ∀ (q : Nat) (f : Int) (b : LB), z8 q (t8 a f b) = Qq a q f b :=
 ind (fun _ _ => by kernel_rfl) fun q ih f b => Eq.trans (b := Aak (x11 (z8 q) a) x13 a f b) (by kernel_rfl) (by simp only [e11, e13, ih] <;> rfl)
theorem e8 : x8 = Acb := by funext a f b; exact Eq.trans (by kernel_rfl) ((i8 a Bh f b).trans (by rw [Ah]; rfl))
noncomputable def F := Acx
theorem rn x : H.u P_ x = F x := Eq.trans (b := Ab7 x8 x) (by kernel_rfl) (by simp only [e8] <;> rfl)
noncomputable def c : Con := ⟨H.p, H.r, F⟩
theorem ok : ConOk P_ gl 85 c := cr H func85 (.cons F70.ok (.cons F134.ok (.cons F143.ok .nil))) (AnsOk.cons ent145 AnsOk.nil) rn
end F85
namespace F104
def Lo (f g h : Int) (b k : LB) (m : LX) (a : List LB) (n : LB) (o : Bool) (p : Int) (u : LB) (v : LI) : Option (LB × Int) :=
(Acx v).bind fun (aa, y) =>
if (Bf y 0) then
some (([] : LB), y)
else
(fun ao : Option (LB × Int) =>
bo (
ao)) (
(Ck u aa).bind fun ab =>
(Dz a).bind fun ac =>
(Ck ab ac).bind fun ad =>
some (ad, 0))
theorem Adi : @Lo = @Ng := by
  unfold Lo Ng
  simp only [Yy, Nc, Nb]
abbrev R_ := (LB × Int)
noncomputable def H : Hd := ⟨[.agg [.agg [Si, Si], Si, Ss, Sb, Sw, .lf (.list (.list (.int .u8))) none, Sb, Sz, Si], Si], [Ob 5, Si], (.seq .d (.seq .d (.seq .d (.seq .d (.seq .d (.cut [2, 8] [] .d (.seq .d (.cut [2, 8, 11] [] (.seq .d (.blk (.loop [2, 8, 11, 58, 59, 60] [⟨11, [], .own 3 (.int .i64)⟩] .d))) (.seq .d (.seq .d (.seq (.mode false) .d))))))))))), ⟨[(83, F83.c), (84, F84.c), (85, F85.c), (153, F153.c), (154, F154.c)], gl, false⟩, [], f104⟩
def t6 (a : List LB) (f g h : Int) (b k : LB) (m : LX) (n : LB) (o : Bool) (p : Int) (u : LB) (w : Int) (v : LI) : S := ⟨[(2, .ptr 0 []), (8, .own 1), (11, .own 2), (58, .val (.list (.list (.int .u8))) a), (59, vi (Aa a)), (60, vi w)], [.box 99 (.agg [.agg [vi f, vi g], vi h, vs b, vb k, vw m, .val (.list (.list (.int .u8))) a, vb n, vt o, vi p]), Ab 5 u, Ai 3 v], []⟩
def z6 : Nat → S → Option R_ := H.i P_ [r,r,r,r,r,r,r,l,r,d]
def x8 (f g h : Int) (b k : LB) (m : LX) (a : List LB) (n : LB) (o : Bool) (p : Int) (u : LB) (v : LI) : Option R_ := H.e P_ [r,r,r,r,r,r,r,r] ⟨[(2, .ptr 0 []), (8, .own 1), (11, .own 2)], [.box 99 (.agg [.agg [vi f, vi g], vi h, vs b, vb k, vw m, .val (.list (.list (.int .u8))) a, vb n, vt o, vi p]), Ab 5 u, Ai 3 v], []⟩
def x6 (a : List LB) (f g h : Int) (b k : LB) (m : LX) (n : LB) (o : Bool) (p : Int) (u : LB) (w : Int) (v : LI) : Option R_ := H.e P_ [r,r,r,r,r,r,r,l,r,d] (t6 a f g h b k m n o p u w v)
def x5 (f g h : Int) (b k : LB) (m : LX) (a : List LB) (n : LB) (o : Bool) (p : Int) (u : LB) : Option R_ := H.e P_ [r,r,r,r,r,r] ⟨[(2, .ptr 0 []), (8, .own 1)], [.box 99 (.agg [.agg [vi f, vi g], vi h, vs b, vb k, vw m, .val (.list (.list (.int .u8))) a, vb n, vt o, vi p]), Ab 5 u], []⟩
theorem e8 : x8 = Yt := Eq.trans (b := Lo) (by kernel_rfl) (by rw [Adi]; rfl)
theorem i6 (a : List LB) (f g h : Int) (b k : LB) (m : LX) (n : LB) (o : Bool) (p : Int) (u : LB) : ∀ (q : Nat) (w : Int) (v : LI), z6 q (t6 a f g h b k m n o p u w v) = Nd a f g h b k m n o p u q w v :=
 ind (fun _ _ => by kernel_rfl) fun q ih w v => Eq.trans (b := Yg x8 (fun w v => (z6 q) (t6 a f g h b k m n o p u w v)) a f g h b k m n o p u w v) (by kernel_rfl) (by simp only [e8, ih] <;> rfl)
theorem e6 : x6 = Yc := by funext a f g h b k m n o p u w v; exact Eq.trans (by kernel_rfl) ((i6 a f g h b k m n o p u Bh w v).trans (by rw [Ah]; rfl))
theorem e5 : x5 = Yh := Eq.trans (b := Yn x6) (by kernel_rfl) (by simp only [e6] <;> rfl)
noncomputable def F := u11 Ags
theorem rn x : H.u P_ x = F x := Eq.trans (b := u11 (Yk x5) x) (by kernel_rfl) (by simp only [e5] <;> rfl)
noncomputable def c : Con := ⟨H.p, H.r, F⟩
theorem ok : ConOk P_ gl 104 c := co H func104 (.cons F83.ok (.cons F84.ok (.cons F85.ok (.cons F153.ok (.cons F154.ok .nil))))) rn
end F104
namespace F58
abbrev R_ := (Int × Int × Int × LB × LB × LX × (List LB) × LB × Bool × Int × Int)
noncomputable def H : Hd := ⟨[.agg [.agg [Si, Si], Si, Ss, Sb, Sw, .lf (.list (.list (.int .u8))) none, Sb, Sz, Si]], [.agg [.agg [Si, Si], Si, Ss, Ob 5, Ow 21, .lf (.list (.list (.int .u8))) (some 22), Ob 5, Sz, Si], Si], (.seq .d (.seq .d (.seq .d (.seq .d (.seq .d (.cut [1, 2, 6] [] (.seq .d (.cond (.cut [1, 2, 6, 7] [⟨1, [4], .own 21 (.int .i32)⟩] (.keep [1, 2, 6, 7, 38] true) .d) .d)) .d)))))), ⟨[(96, F96.c), (100, F100.c), (103, F103.c), (104, F104.c), (116, F116.c), (141, F141.c)], gl, false⟩, [(102, .d)], f58⟩
def x4 (o a b g : Int) (f : LB) (k : Bool) (m : Int) (h n : LB) (v : LX) (w : List LB) : Option R_ := H.e P_ [r,r,r,r,r,r] ⟨[(1, .ptr 0 []), (2, .ptr 1 []), (6, vi o)], [.box 99 (.agg [.agg [vi a, vi b], vi g, vs f, .own 2, .own 3, .own 4, .own 5, vt k, vi m]), .box 99 (.agg [.agg [vi 0, vi 0], vi 0, vs ([] : LB), .nils, .nils, .nils, .nils, vt false, vi 0]), Ab 5 h, Aw 21 v, .arr 22 (.list (.int .u8)) w, Ab 5 n], []⟩
def x3 (o a b g : Int) (f : LB) (k : Bool) (m : Int) (h n : LB) (aa : Int) (ab : LX) (ac : List LB) : Option R_ := H.e P_ [r,r,r,r,r,l,r,l,r] ⟨[(1, .ptr 0 []), (2, .ptr 1 []), (6, vi o), (7, vi aa)], [.box 99 (.agg [.agg [vi a, vi b], vi g, vs f, .own 2, .own 3, .own 4, .own 5, vt k, vi m]), .box 99 (.agg [.agg [vi 0, vi 0], vi 0, vs ([] : LB), .nils, .nils, .nils, .nils, vt false, vi 0]), Ab 5 h, Aw 21 ab, .arr 22 (.list (.int .u8)) ac, Ab 5 n], []⟩
theorem e4 : x4 = Kv := by kernel_rfl
theorem e3 : x3 = Ta := Eq.trans (b := Sj x4) (by kernel_rfl) (by simp only [e4] <;> rfl)
noncomputable def F := u10 Ab8
theorem rn x : H.u P_ x = F x := Eq.trans (b := u10 (So x3 x4) x) (by kernel_rfl) (by simp only [e3, e4] <;> rfl)
noncomputable def c : Con := ⟨H.p, H.r, F⟩
theorem ok : ConOk P_ gl 58 c := cr H func58 (.cons F96.ok (.cons F100.ok (.cons F103.ok (.cons F104.ok (.cons F116.ok (.cons F141.ok .nil)))))) (AnsOk.cons ent102 AnsOk.nil) rn
end F58
namespace F59
noncomputable def H : Hd := ⟨[.agg [.agg [Si, Si], Si, Ss, Sb, Sw, .lf (.list (.list (.int .u8))) none, Sb, Sz, Si], Si], [.agg [.agg [Si, Si], Si, Ss, Ob 5, Ow 21, .lf (.list (.list (.int .u8))) (some 22), Sb, Sz, Si], Ob 5, Si], .d, ⟨[(105, F105.c), (106, F106.c), (107, F107.c)], gl, false⟩, [], f59⟩
noncomputable def F := u11 Aeg
theorem rn x : H.u P_ x = F x := by kernel_rfl
noncomputable def c : Con := ⟨H.p, H.r, F⟩
theorem ok : ConOk P_ gl 59 c := co H func59 (.cons F105.ok (.cons F106.ok (.cons F107.ok .nil))) rn
end F59
namespace F32
abbrev R_ := (LB × Int)
abbrev K_ := S → Option R_
noncomputable def H : Hd := ⟨[.agg [Si, Si], Si, Ss, Sb, Sq], [Ob 5, Si], (.seq .d (.seq .d (.seq .d (.seq .d (.seq .d (.cut [14] [] (.seq .d (.blk (.loop [3, 14, 39, 40, 41] [] (.seq .d (.seq .d (.seq (.blk (.seq .d (.seq (.cut [3, 13, 14, 16, 39, 40, 41] [] (.mode false) .d) .d))) .d)))))) .d)))))), ⟨[(13, F13.c), (56, F56.c), (57, F57.c), (58, F58.c), (59, F59.c)], gl, false⟩, [], f32⟩
def t6 (a : LI) (f : LB) (b g h k : Int) (m : LB) (n : Bool) (o : Int) (p : LB) (u : LX) (v : List LB) (w : LB) : S := ⟨[(3, vb f), (14, .ptr 0 []), (39, .own 1), (40, vi (Aa a)), (41, vi b)], [.box 99 (.agg [.agg [vi g, vi h], vi k, vs m, .own 2, .own 3, .own 4, .own 5, vt n, vi o]), Ai 3 a, Ab 5 p, Aw 21 u, .arr 22 (.list (.int .u8)) v, Ab 5 w], []⟩
def z6 : Nat → S → Option R_ := H.i P_ [r,r,r,r,r,l,r,d]
def x10 (g h k : Int) (m : LB) (n : Bool) (o : Int) (p : LB) (u : LX) (v : List LB) (w : LB) : Option R_ := H.e P_ [r,r,r,r,r,r] ⟨[(14, .ptr 0 [])], [.box 99 (.agg [.agg [vi g, vi h], vi k, vs m, .own 1, .own 2, .own 3, .own 4, vt n, vi o]), Ab 5 p, Aw 21 u, .arr 22 (.list (.int .u8)) v, Ab 5 w], []⟩
def x8 (kn6 : K_) (a : LI) (f : LB) (ac ae b y af ag : Int) (ah : LB) (ai : Bool) (ad : Int) (aa : LB) (ab : LX) (aj : List LB) (ak : LB) : Option R_ := H.e P_ [r,r,r,r,r,l,r,d,(lp kn6),r,r,l,d,r,l,r] ⟨[(3, vb f), (13, vi ac), (14, .ptr 0 []), (16, vi ae), (39, .own 1), (40, vi (Aa a)), (41, vi b)], [.box 99 (.agg [.agg [vi y, vi af], vi ag, vs ah, .own 2, .own 3, .own 4, .own 5, vt ai, vi ad]), Ai 3 a, Ab 5 aa, Aw 21 ab, .arr 22 (.list (.int .u8)) aj, Ab 5 ak], []⟩
def x6 (a : LI) (f : LB) (b g h k : Int) (m : LB) (n : Bool) (o : Int) (p : LB) (u : LX) (v : List LB) (w : LB) : Option R_ := H.e P_ [r,r,r,r,r,l,r,d] (t6 a f b g h k m n o p u v w)
theorem e10 : x10 = Sk := by kernel_rfl
theorem e8 (kn6 : K_) (a : LI) : x8 kn6 a = Vl (fun f b g h k m n o p u v w => kn6 (t6 a f b g h k m n o p u v w)) a := by kernel_rfl
theorem i6 (a : LI) : ∀ (q : Nat) (f : LB) (b g h k : Int) (m : LB) (n : Bool) (o : Int) (p : LB) (u : LX) (v : List LB) (w : LB), z6 q (t6 a f b g h k m n o p u v w) = Lk a q f b g h k m n o p u v w :=
 ind (fun _ _ _ _ _ _ _ _ _ _ _ _ => by kernel_rfl) fun q ih f b g h k m n o p u v w => Eq.trans (b := Vk (x8 (z6 q) a) x10 a f b g h k m n o p u v w) (by kernel_rfl) (by simp only [e8, e10, ih] <;> rfl)
theorem e6 : x6 = Vu := by funext a f b g h k m n o p u v w; exact Eq.trans (by kernel_rfl) ((i6 a Bh f b g h k m n o p u v w).trans (by rw [Ah]; rfl))
noncomputable def F := u6 Ad2
theorem rn x : H.u P_ x = F x := Eq.trans (b := u6 (Wn x6) x) (by kernel_rfl) (by simp only [e6] <;> rfl)
noncomputable def c : Con := ⟨H.p, H.r, F⟩
theorem ok : ConOk P_ gl 32 c := co H func32 (.cons F13.ok (.cons F56.ok (.cons F57.ok (.cons F58.ok (.cons F59.ok .nil))))) rn
end F32
namespace F21
noncomputable def H : Hd := ⟨[Ss], [.agg [Ss, Ob 5, .agg [Si, Si, Si, Si, Si], Ol 3, Si, Ob 5, Sz, Si], Si], .d, ⟨[], gl, false⟩, [], f21⟩
noncomputable def F := Ai9
theorem rn x : H.u P_ x = F x := by kernel_rfl
noncomputable def c : Con := ⟨H.p, H.r, F⟩
theorem ok : ConOk P_ gl 21 c := co H func21 .nil rn
end F21
namespace F30
def My (a : LB) : Option (LB) :=
Am6 a (
some ([] : LB)) (
(Ck ([] : LB) a).bind fun b =>
some b)
theorem Ae8 : @My = @Mu := by
  unfold My Mu
  repeat (refine funext fun _ => ?_)
  repeat' first
    | with_reducible rfl
    | with_reducible refine Fb ?_ ?_
    | with_reducible refine Ey ?_ ?_ ?_
    | with_reducible refine Ew ?_ ?_ ?_ ?_
    | ((with_reducible refine Gm ?_ ?_); focus (intro h; first | (subst h; rfl) | (simp only [h]; rfl) | (simp [Ck, Aa, h]; done)))
    | with_reducible refine Gi fun x => ?_
    | with_reducible refine Jo (fun _ => ?_) (fun _ => ?_)
    | (refine Ct (fun h => by simp only [h, Gj, Bu, Bt, ite_self]) (fun x h => ?_); (try simp only [h, Bu]))
    | (refine Di (fun h => ?_) (fun h => ?_) <;> simp only [h, if_true, if_false, Bool.false_eq_true])
noncomputable def H : Hd := ⟨[Sb], [Ob 5], .d, ⟨[], gl, false⟩, [], f30⟩
noncomputable def F := Mu
theorem rn x : H.u P_ x = F x := Eq.trans (b := My x) (by kernel_rfl) (by rw [Ae8]; rfl)
noncomputable def c : Con := ⟨H.p, H.r, F⟩
theorem ok : ConOk P_ gl 30 c := co H func30 .nil rn
end F30
namespace F67
def Fo (a : LI) : Option (LI) :=
Am6 a (
some ([] : LI)) (
(Ck ([] : LI) a).bind fun b =>
some b)
theorem On : @Fo = @Fk := by
  unfold Fo Fk
  repeat (refine funext fun _ => ?_)
  repeat' first
    | with_reducible rfl
    | with_reducible refine Fb ?_ ?_
    | with_reducible refine Ey ?_ ?_ ?_
    | with_reducible refine Ew ?_ ?_ ?_ ?_
    | ((with_reducible refine Gm ?_ ?_); focus (intro h; first | (subst h; rfl) | (simp only [h]; rfl) | (simp [Ck, Aa, h]; done)))
    | with_reducible refine Gi fun x => ?_
    | with_reducible refine Jo (fun _ => ?_) (fun _ => ?_)
    | (refine Ct (fun h => by simp only [h, Gj, Bu, Bt, ite_self]) (fun x h => ?_); (try simp only [h, Bu]))
    | (refine Di (fun h => ?_) (fun h => ?_) <;> simp only [h, if_true, if_false, Bool.false_eq_true])
noncomputable def H : Hd := ⟨[Sl], [Ol 3], .d, ⟨[], gl, false⟩, [], f67⟩
noncomputable def F := Fk
theorem rn x : H.u P_ x = F x := Eq.trans (b := Fo x) (by kernel_rfl) (by rw [On]; rfl)
noncomputable def c : Con := ⟨H.p, H.r, F⟩
theorem ok : ConOk P_ gl 67 c := co H func67 .nil rn
end F67
namespace F45
noncomputable def H : Hd := ⟨[.agg [Ss, Sb, .agg [Si, Si, Si, Si, Si], Sl, Si, Sb, Sz, Si]], [.agg [Ss, Ob 5, .agg [Si, Si, Si, Si, Si], Ol 3, Si, Ob 5, Sz, Si]], .d, ⟨[(30, F30.c), (67, F67.c)], gl, false⟩, [], f45⟩
noncomputable def F := u12 Cz
theorem rn x : H.u P_ x = F x := by kernel_rfl
noncomputable def c : Con := ⟨H.p, H.r, F⟩
theorem ok : ConOk P_ gl 45 c := co H func45 (.cons F30.ok (.cons F67.ok .nil)) rn
end F45
namespace F257
noncomputable def H : Hd := ⟨[Sq, Sq], [Sq, Sq], .d, ⟨[], gl, false⟩, [], f257⟩
noncomputable def F := u2 Zm
theorem rn x : H.u P_ x = F x := by kernel_rfl
noncomputable def c : Con := ⟨H.p, H.r, F⟩
theorem ok : ConOk P_ gl 257 c := co H func257 .nil rn
end F257
namespace F213
noncomputable def H : Hd := ⟨[Sq, Sq], [Sq, Sq], .d, ⟨[(257, F257.c)], gl, false⟩, [], f213⟩
noncomputable def F := u2 Aey
theorem rn x : H.u P_ x = F x := by kernel_rfl
noncomputable def c : Con := ⟨H.p, H.r, F⟩
theorem ok : ConOk P_ gl 213 c := co H func213 (.cons F257.ok .nil) rn
end F213
namespace F169
def Fg (j10 : LI → Option (LI)) (bk8 : Int → LI → Option (LI)) (b : Int) (a : LI) : Option (LI) :=
if (Bq b (Aa a)) then
both (
(vwI (Aa a) b (Aa a)).bind fun _ =>
(vwI (Aa a) 0 b).bind fun _ =>
bk8 (Ac b (Adv ((Aa a) - b) (Aaf a 0 (b - (0 : Int))).length)) (Ij a b ((Aa a) - b) (Aaf a 0 (b - (0 : Int))))) [
(vwI (Aa a) 0 b).bind fun _ =>
(vwI (Aa a) b (Aa a)).bind fun _ =>
bk8 (Ac b (Adv ((Aa a) - b) (Aaf a 0 (b - (0 : Int))).length)) (Ij a b ((Aa a) - b) (Aaf a 0 (b - (0 : Int))))]
else
j10 a
theorem Mw : @Fg = @Fm := by
  unfold Fg Fm
  repeat (refine funext fun _ => ?_)
  repeat' first
    | with_reducible rfl
    | with_reducible refine Fb ?_ ?_
    | with_reducible refine Ey ?_ ?_ ?_
    | with_reducible refine Ew ?_ ?_ ?_ ?_
    | ((with_reducible refine Gm ?_ ?_); focus (intro h; first | (subst h; rfl) | (simp only [h]; rfl) | (simp [Ck, Aa, h]; done)))
    | with_reducible refine Gi fun x => ?_
    | with_reducible refine Jo (fun _ => ?_) (fun _ => ?_)
    | (refine Ct (fun h => by simp only [h, Gj, Bu, Bt, ite_self]) (fun x h => ?_); (try simp only [h, Bu]))
    | (refine Di (fun h => ?_) (fun h => ?_) <;> simp only [h, if_true, if_false, Bool.false_eq_true])
abbrev R_ := LI
noncomputable def H : Hd := ⟨[Sl, Si], [Ol 3], (.seq .d (.cut [0, 1] [] .d (.seq .d (.cut [0, 6] [] .d (.seq .d (.seq .d (.cut [7] [] (.blk (.loop [7, 8] [] (.seq .d (.blk (.mode false))))) .d))))))), ⟨[(213, F213.c)], gl, true⟩, [], f169⟩
def t8 (b : Int) (a : LI) : S := ⟨[(7, .own 0), (8, vi b)], [Ai 3 a], []⟩
def z8 : Nat → S → Option R_ := H.i P_ [r,r,r,r,r,r,l,d]
def x10 (a : LI) : Option R_ := H.e P_ [r,r,r,r,r,r,r] ⟨[(7, .own 0)], [Ai 3 a], []⟩
def x8 (b : Int) (a : LI) : Option R_ := H.e P_ [r,r,r,r,r,r,l,d] (t8 b a)
def x7 (f : LI) (g : UInt64) : Option R_ := H.e P_ [r,r,r,r] ⟨[(0, vl f), (6, vq g)], [], []⟩
def x6 (f : LI) (h : Int) : Option R_ := H.e P_ [r,r] ⟨[(0, vl f), (1, vi h)], [], []⟩
theorem e10 : x10 = Hu := by kernel_rfl
theorem i8 : ∀ (q : Nat) (b : Int) (a : LI), z8 q (t8 b a) = Fs q b a :=
 ind (fun _ _ => by kernel_rfl) fun q ih b a => Eq.trans (b := Fg x10 (fun b a => (z8 q) (t8 b a)) b a) (by kernel_rfl) (by rw [Mw]; simp only [e10, ih] <;> rfl)
theorem e8 : x8 = Ip := by funext b a; exact Eq.trans (by kernel_rfl) ((i8 Bh b a).trans (by rw [Ah]; rfl))
theorem e7 : x7 = Jg := Eq.trans (b := Jc x8) (by kernel_rfl) (by simp only [e8] <;> rfl)
theorem e6 : x6 = Jh := Eq.trans (b := Jj x7) (by kernel_rfl) (by simp only [e7] <;> rfl)
noncomputable def F := u2 Lg
theorem rn x : H.u P_ x = F x := Eq.trans (b := u2 (Iq x6) x) (by kernel_rfl) (by simp only [e6] <;> rfl)
noncomputable def c : Con := ⟨H.p, H.r, F⟩
theorem ok : ConOk P_ gl 169 c := co H func169 (.cons F213.ok .nil) rn
end F169
namespace F214
abbrev R_ := LI
noncomputable def H : Hd := ⟨[.lf (.list (.list (.int .i64))) none], [Ol 3], (.seq .d (.seq .d (.cut [0, 3] [] (.seq .d (.blk (.loop [0, 3, 9, 10, 11] [] .d))) (.cut [0, 6] [⟨6, [], .own 3 (.int .i64)⟩] (.keep [0, 3, 6, 23, 24] true) (.cut [6] [] (.seq .d (.blk (.loop [6, 25, 26, 27] [] .d))) .d))))), ⟨[], gl, true⟩, [(258, (.seq .d (.cut [0, 1] [] .d .d)))], f214⟩
def t14 (a : List LI) (g : Int) (f : LI) : S := ⟨[(6, .own 0), (25, .val (.list (.list (.int .i64))) a), (26, vi (Aa a)), (27, vi g)], [Ai 3 f], []⟩
def z14 : Nat → S → Option R_ := H.i P_ [r,r,r,r,l,r,d]
def t9 (a : List LI) (b h : Int) : S := ⟨[(0, .val (.list (.list (.int .i64))) a), (3, vi b), (9, .val (.list (.list (.int .i64))) a), (10, vi (Aa a)), (11, vi h)], [], []⟩
def z9 : Nat → S → Option R_ := H.i P_ [r,r,l,r,d]
def x16 (f : LI) : Option R_ := H.e P_ [r,r,r,r,r] ⟨[(6, .own 0)], [Ai 3 f], []⟩
def x14 (a : List LI) (g : Int) (f : LI) : Option R_ := H.e P_ [r,r,r,r,l,r,d] (t14 a g f)
def x13 (a : List LI) (k : LI) : Option R_ := H.e P_ [r,r,r,r] ⟨[(0, .val (.list (.list (.int .i64))) a), (6, .own 0)], [Ai 3 k], []⟩
def x12 (b : Int) (a : List LI) : Option R_ := H.e P_ [r,r,r,l,(call 1 258),r,r] ⟨[(0, .nils), (1, vi b)], [], [[(0, .val (.list (.list (.int .i64))) a), (3, vi b), (23, vi b)]]⟩
def x11 (a : List LI) (b : Int) : Option R_ := H.e P_ [r,r,r] ⟨[(0, .val (.list (.list (.int .i64))) a), (3, vi b)], [], []⟩
def x9 (a : List LI) (b h : Int) : Option R_ := H.e P_ [r,r,l,r,d] (t9 a b h)
theorem e16 : x16 = Ht := by kernel_rfl
theorem i14 (a : List LI) : ∀ (q : Nat) (g : Int) (f : LI), z14 q (t14 a g f) = Fe a q g f :=
 ind (fun _ _ => by kernel_rfl) fun q ih g f => Eq.trans (b := Hy x16 (fun g f => (z14 q) (t14 a g f)) a g f) (by kernel_rfl) (by simp only [e16, ih] <;> rfl)
theorem e14 : x14 = Ib := by funext a g f; exact Eq.trans (by kernel_rfl) ((i14 a Bh g f).trans (by rw [Ah]; rfl))
theorem e13 : x13 = Hx := Eq.trans (b := Ie x14) (by kernel_rfl) (by simp only [e14] <;> rfl)
theorem e12 : x12 = Hv := Eq.trans (b := Hw x13) (by kernel_rfl) (by simp only [e13] <;> rfl)
theorem e11 : x11 = Ic := Eq.trans (b := Hz x12) (by kernel_rfl) (by simp only [e12] <;> rfl)
theorem i9 (a : List LI) : ∀ (q : Nat) (b h : Int), z9 q (t9 a b h) = Fl a q b h :=
 ind (fun _ _ => by kernel_rfl) fun q ih b h => Eq.trans (b := Ix x11 (fun b h => (z9 q) (t9 a b h)) a b h) (by kernel_rfl) (by simp only [e11, ih] <;> rfl)
theorem e9 : x9 = Iy := by funext a b h; exact Eq.trans (by kernel_rfl) ((i9 a Bh b h).trans (by rw [Ah]; rfl))
noncomputable def F := Lh
theorem rn x : H.u P_ x = F x := Eq.trans (b := Ja x9 x) (by kernel_rfl) (by simp only [e9] <;> rfl)
noncomputable def c : Con := ⟨H.p, H.r, F⟩
theorem ok : ConOk P_ gl 214 c := cr H func214 .nil (AnsOk.cons ent258 AnsOk.nil) rn
end F214
namespace F170
noncomputable def H : Hd := ⟨[Sl, Sl], [Ol 3], .d, ⟨[(214, F214.c)], gl, false⟩, [], f170⟩
noncomputable def F := u2 Abh
theorem rn x : H.u P_ x = F x := by kernel_rfl
noncomputable def c : Con := ⟨H.p, H.r, F⟩
theorem ok : ConOk P_ gl 170 c := co H func170 (.cons F214.ok .nil) rn
end F170
namespace F121
noncomputable def H : Hd := ⟨[Si, Si], [Ol 3, Si], .d, ⟨[(150, F150.c), (168, F168.c), (169, F169.c), (170, F170.c)], gl, false⟩, [], f121⟩
noncomputable def F := u2 Ajo
theorem rn x : H.u P_ x = F x := by kernel_rfl
noncomputable def c : Con := ⟨H.p, H.r, F⟩
theorem ok : ConOk P_ gl 121 c := co H func121 (.cons F150.ok (.cons F168.ok (.cons F169.ok (.cons F170.ok .nil)))) rn
end F121
namespace F68
noncomputable def H : Hd := ⟨[.agg [Si, Si, Si, Si, Si]], [Ol 3, Si], .d, ⟨[(120, F120.c), (121, F121.c)], gl, false⟩, [], f68⟩
noncomputable def F := u5 Ek
theorem rn x : H.u P_ x = F x := by kernel_rfl
noncomputable def c : Con := ⟨H.p, H.r, F⟩
theorem ok : ConOk P_ gl 68 c := co H func68 (.cons F120.ok (.cons F121.ok .nil)) rn
end F68
namespace F69
noncomputable def H : Hd := ⟨[.agg [Si, Si, Si, Si, Si], Ss], [Si], .d, ⟨[], gl, false⟩, [], f69⟩
noncomputable def F := u6 Lc
theorem rn x : H.u P_ x = F x := by kernel_rfl
noncomputable def c : Con := ⟨H.p, H.r, F⟩
theorem ok : ConOk P_ gl 69 c := co H func69 .nil rn
end F69
namespace F48
abbrev R_ := Bool
noncomputable def H : Hd := ⟨[.agg [Ss, Sb, .agg [Si, Si, Si, Si, Si], Sl, Si, Sb, Sz, Si]], [Sz], (.seq .d (.seq .d (.seq .d (.cut [1, 3] [] .d (.seq .d (.seq .d (.seq .d (.cut [1, 5] [] (.seq .d (.blk (.loop [1, 5, 83, 84, 85] [] .d))) .d)))))))), ⟨[(68, F68.c), (69, F69.c), (70, F70.c)], gl, false⟩, [], f48⟩
def t6 (y : LI) (o p : LB) (h b f k m : Int) (g : LI) (a : Int) (n : LB) (u : Bool) (v w aa : Int) : S := ⟨[(1, .ptr 0 []), (5, vi w), (83, vl y), (84, vi (Aa y)), (85, vi aa)], [.box 48 (.agg [vs o, vb p, .agg [vi h, vi b, vi f, vi k, vi m], vl g, vi a, vb n, vt u, vi v])], []⟩
def z6 : Nat → S → Option R_ := H.i P_ [r,r,r,r,r,r,r,l,r,d]
def x8 (w : Int) (o p : LB) (h b f k m : Int) (g : LI) (a : Int) (n : LB) (u : Bool) (v : Int) : Option R_ := H.e P_ [r,r,r,r,r,r,r,r] ⟨[(1, .ptr 0 []), (5, vi w)], [.box 48 (.agg [vs o, vb p, .agg [vi h, vi b, vi f, vi k, vi m], vl g, vi a, vb n, vt u, vi v])], []⟩
def x6 (y : LI) (o p : LB) (h b f k m : Int) (g : LI) (a : Int) (n : LB) (u : Bool) (v w aa : Int) : Option R_ := H.e P_ [r,r,r,r,r,r,r,l,r,d] (t6 y o p h b f k m g a n u v w aa)
def x5 (o p : LB) (h b f k m : Int) (g : LI) (a : Int) (n : LB) (u : Bool) (v : Int) (ab : LI) : Option R_ := H.e P_ [r,r,r,r] ⟨[(1, .ptr 0 []), (3, .own 1)], [.box 48 (.agg [vs o, vb p, .agg [vi h, vi b, vi f, vi k, vi m], vl g, vi a, vb n, vt u, vi v]), Ai 3 ab], []⟩
theorem e8 : x8 = Yq := by kernel_rfl
theorem i6 (y : LI) (o p : LB) (h b f k m : Int) (g : LI) (a : Int) (n : LB) (u : Bool) (v : Int) : ∀ (q : Nat) (w aa : Int), z6 q (t6 y o p h b f k m g a n u v w aa) = Mx y o p h b f k m g a n u v q w aa :=
 ind (fun _ _ => by kernel_rfl) fun q ih w aa => Eq.trans (b := Zn x8 (fun w aa => (z6 q) (t6 y o p h b f k m g a n u v w aa)) y o p h b f k m g a n u v w aa) (by kernel_rfl) (by simp only [e8, ih] <;> rfl)
theorem e6 : x6 = Zz := by funext y o p h b f k m g a n u v w aa; exact Eq.trans (by kernel_rfl) ((i6 y o p h b f k m g a n u v Bh w aa).trans (by rw [Ah]; rfl))
theorem e5 : x5 = Ye := Eq.trans (b := Ya x6) (by kernel_rfl) (by simp only [e6] <;> rfl)
noncomputable def F := u12 Xc
theorem rn x : H.u P_ x = F x := Eq.trans (b := u12 (Zr x5) x) (by kernel_rfl) (by simp only [e5] <;> rfl)
noncomputable def c : Con := ⟨H.p, H.r, F⟩
theorem ok : ConOk P_ gl 48 c := co H func48 (.cons F68.ok (.cons F69.ok (.cons F70.ok .nil))) rn
end F48
namespace F37
noncomputable def H : Hd := ⟨[Sb, Sb], [Sz], .d, ⟨[], gl, false⟩, [], f37⟩
noncomputable def F := u2 Ho
theorem rn x : H.u P_ x = F x := by kernel_rfl
noncomputable def c : Con := ⟨H.p, H.r, F⟩
theorem ok : ConOk P_ gl 37 c := co H func37 .nil rn
end F37
namespace F183
noncomputable def H : Hd := ⟨[Sb, Sb], [Sz], .d, ⟨[(37, F37.c)], gl, false⟩, [], f183⟩
noncomputable def F := u2 Gs
theorem rn x : H.u P_ x = F x := by kernel_rfl
noncomputable def c : Con := ⟨H.p, H.r, F⟩
theorem ok : ConOk P_ gl 183 c := co H func183 (.cons F37.ok .nil) rn
end F183
namespace F273
abbrev R_ := (Int × Int)
noncomputable def H : Hd := ⟨[Sb], [Si, Si], (.seq .d (.seq .d (.seq .d (.cut [4] [] (.seq .d (.blk (.loop [4, 10, 11, 12] [] .d))) .d)))), ⟨[], gl, false⟩, [], f273⟩
def t4 (a : LB) (b f : Int) : S := ⟨[(4, vi b), (10, vb a), (11, vi (Aa a)), (12, vi f)], [], []⟩
def z4 : Nat → S → Option R_ := H.i P_ [r,r,r,l,r,d]
def x6 (b : Int) : Option R_ := H.e P_ [r,r,r,r] ⟨[(4, vi b)], [], []⟩
def x4 (a : LB) (b f : Int) : Option R_ := H.e P_ [r,r,r,l,r,d] (t4 a b f)
theorem e6 : x6 = Vo := by kernel_rfl
theorem i4 (a : LB) : ∀ (q : Nat) (b f : Int), z4 q (t4 a b f) = Ly a q b f :=
 ind (fun _ _ => by kernel_rfl) fun q ih b f => Eq.trans (b := Vb x6 (fun b f => (z4 q) (t4 a b f)) a b f) (by kernel_rfl) (by simp only [e6, ih] <;> rfl)
theorem e4 : x4 = Wl := by funext a b f; exact Eq.trans (by kernel_rfl) ((i4 a Bh b f).trans (by rw [Ah]; rfl))
noncomputable def F := Ad7
theorem rn x : H.u P_ x = F x := Eq.trans (b := Wc x4 x) (by kernel_rfl) (by simp only [e4] <;> rfl)
noncomputable def c : Con := ⟨H.p, H.r, F⟩
theorem ok : ConOk P_ gl 273 c := co H func273 .nil rn
end F273
namespace F226
def Mc (j5 : LB → UInt8 → UInt8 → Option (Int × Int)) (a : LB) : Option (Int × Int) :=
(Gs a ([(73 : UInt8), (68 : UInt8), (51 : UInt8)] : LB)).bind fun n =>
if (!n) then
some (0, 6)
else
if (Bq (Aa a) 10) then
some (0, 24)
else
(Al a 3).bind fun f =>
(Al a 5).bind fun b =>
(fun o : Option (Int × Int) =>
(fun p : Option (Int × Int) =>
both (
both (
bo (
j5 a f b)) [
o,
o]) [
bo2 (
bo (
j5 a f b)),
p,
p]) (
both (
o) [
bo (
j5 a f b),
both (
bo (
j5 a f b)) [
j5 a f b]])) (
both (
j5 a f b) [
bo (
j5 a f b)])
theorem Adj : @Mc = @Nh := by
  unfold Mc Nh
  try simp only [Yy, Nc, Nb]
  all_goals
    repeat (refine funext fun _ => ?_)
    repeat' first
      | with_reducible rfl
      | with_reducible refine Fb ?_ ?_
      | with_reducible refine Ey ?_ ?_ ?_
      | with_reducible refine Ew ?_ ?_ ?_ ?_
      | ((with_reducible refine Gm ?_ ?_); focus (intro h; first | (subst h; rfl) | (simp only [h]; rfl) | (simp [Ck, Aa, h]; done)))
      | with_reducible refine Gi fun x => ?_
      | with_reducible refine Jo (fun _ => ?_) (fun _ => ?_)
      | (refine Ct (fun h => by simp only [h, Gj, Bu, Bt, ite_self]) (fun x h => ?_); (try simp only [h, Bu]))
      | (refine Di (fun h => ?_) (fun h => ?_) <;> simp only [h, if_true, if_false, Bool.false_eq_true])
abbrev R_ := (Int × Int)
noncomputable def H : Hd := ⟨[Sb], [Si, Si], (.seq .d (.seq .d (.seq .d (.cut [0, 4, 5] [] (.mode false) (.seq .d (.seq .d (.cut [0, 5, 6] [] (.cut [0, 5, 6, 43] [] (.keep [0, 5, 6, 7, 8, 31, 32, 33, 34, 35, 36, 37, 38, 39, 40, 41, 42, 43] true) .d) (.seq .d (.cut [0, 5, 6] [] .d .d))))))))), ⟨[(37, F37.c), (183, F183.c), (273, F273.c)], gl, false⟩, [(274, .d)], f226⟩
def x8 (a : LB) (b : UInt8) (h : Int) : Option R_ := H.e P_ [r,r,r,r,r,r,r,r,r] ⟨[(0, vb a), (5, .ptr 0 []), (6, vi h)], [.box 5 (vc b)], []⟩
def x7 (a : LB) (g : Int) (b : UInt8) : Option R_ := H.e P_ [r,r,r,r,r,r,r] ⟨[(0, vb a), (5, .ptr 0 []), (6, vi g)], [.box 5 (vc b)], []⟩
def x6 (a : LB) (g : Int) (b : UInt8) (m : Bool) : Option R_ := H.e P_ [r,r,r,r,r,r,l,r] ⟨[(0, vb a), (5, .ptr 0 []), (6, vi g), (43, vt m)], [.box 5 (vc b)], []⟩
def x5 (a : LB) (f b : UInt8) : Option R_ := H.e P_ [r,r,r,r] ⟨[(0, vb a), (4, .ptr 0 []), (5, .ptr 1 [])], [.box 5 (vc f), .box 5 (vc b)], []⟩
theorem e8 : x8 = Yu := by kernel_rfl
theorem e7 : x7 = Yv := Eq.trans (b := Ys x8) (by kernel_rfl) (by simp only [e8] <;> rfl)
theorem e6 : x6 = Aad := Eq.trans (b := Aab x7) (by kernel_rfl) (by simp only [e7] <;> rfl)
theorem e5 : x5 = Yx := Eq.trans (b := Yf x6) (by kernel_rfl) (by simp only [e6] <;> rfl)
noncomputable def F := Ahj
theorem rn x : H.u P_ x = F x := Eq.trans (b := Mc x5 x) (by kernel_rfl) (by unfold F; rw [Adj]; simp only [e5] <;> rfl)
noncomputable def c : Con := ⟨H.p, H.r, F⟩
theorem ok : ConOk P_ gl 226 c := cr H func226 (.cons F37.ok (.cons F183.ok (.cons F273.ok .nil))) (AnsOk.cons ent274 AnsOk.nil) rn
end F226
namespace F181
abbrev R_ := (UInt64 × Int)
noncomputable def H : Hd := ⟨[Sb], [Sq, Si], (.seq .d (.seq .d (.seq .d (.cut [4] [] (.seq .d (.blk (.loop [4, 15, 16, 17] [] .d))) .d)))), ⟨[], gl, false⟩, [], f181⟩
def t4 (a : LB) (b : UInt64) (f : Int) : S := ⟨[(4, vq b), (15, vb a), (16, vi (Aa a)), (17, vi f)], [], []⟩
def z4 : Nat → S → Option R_ := H.i P_ [r,r,r,l,r,d]
def x6 (b : UInt64) : Option R_ := H.e P_ [r,r,r,r] ⟨[(4, vq b)], [], []⟩
def x4 (a : LB) (b : UInt64) (f : Int) : Option R_ := H.e P_ [r,r,r,l,r,d] (t4 a b f)
theorem e6 : x6 = Aj9 := by kernel_rfl
theorem i4 (a : LB) : ∀ (q : Nat) (b : UInt64) (f : Int), z4 q (t4 a b f) = Ab3 a q b f :=
 ind (fun _ _ => by kernel_rfl) fun q ih b f => Eq.trans (b := Akf x6 (fun b f => (z4 q) (t4 a b f)) a b f) (by kernel_rfl) (by simp only [e6, ih] <;> rfl)
theorem e4 : x4 = Ajm := by funext a b f; exact Eq.trans (by kernel_rfl) ((i4 a Bh b f).trans (by rw [Ah]; rfl))
noncomputable def F := Ala
theorem rn x : H.u P_ x = F x := Eq.trans (b := Ajw x4 x) (by kernel_rfl) (by simp only [e4] <;> rfl)
noncomputable def c : Con := ⟨H.p, H.r, F⟩
theorem ok : ConOk P_ gl 181 c := co H func181 .nil rn
end F181
namespace F133
noncomputable def H : Hd := ⟨[Sb, Si, Si], [Sq, Si], .d, ⟨[(181, F181.c)], gl, false⟩, [], f133⟩
noncomputable def F := u3 Alv
theorem rn x : H.u P_ x = F x := by kernel_rfl
noncomputable def c : Con := ⟨H.p, H.r, F⟩
theorem ok : ConOk P_ gl 133 c := co H func133 (.cons F181.ok .nil) rn
end F133
namespace F185
abbrev R_ := LB
noncomputable def H : Hd := ⟨[Si, Si, Sq], [Ob 5], (.seq .d (.seq .d (.cut [7] [] (.seq .d (.blk (.loop [7, 20, 21, 22] [] .d))) .d))), ⟨[(143, F143.c)], gl, false⟩, [], f185⟩
def t4 (a b : Int) (f : UInt64) (h : Int) (g : LB) : S := ⟨[(7, .own 0), (20, .own 1), (21, vi (Aa ([(2000 : UInt64), (Ao (Ac a (32 : Int)) : UInt64), (Ao b : UInt64), f, (0 : UInt64), (0 : UInt64)] : LQ))), (22, vi h)], [Ab 5 g, .arr 30 (.int .u64) ([(2000 : UInt64), (Ao (Ac a (32 : Int)) : UInt64), (Ao b : UInt64), f, (0 : UInt64), (0 : UInt64)] : LQ)], []⟩
def z4 : Nat → S → Option R_ := H.i P_ [r,r,l,r,d]
def x6 (g : LB) : Option R_ := H.e P_ [r,r,r] ⟨[(7, .own 0)], [Ab 5 g], []⟩
def x4 (a b : Int) (f : UInt64) (h : Int) (g : LB) : Option R_ := H.e P_ [r,r,l,r,d] (t4 a b f h g)
theorem e6 : x6 = Ale := by kernel_rfl
theorem i4 (a b : Int) (f : UInt64) : ∀ (q : Nat) (h : Int) (g : LB), z4 q (t4 a b f h g) = Afv a b f q h g :=
 ind (fun _ _ => by kernel_rfl) fun q ih h g => Eq.trans (b := Am3 x6 (fun h g => (z4 q) (t4 a b f h g)) a b f h g) (by kernel_rfl) (by simp only [e6, ih] <;> rfl)
theorem e4 : x4 = Ak7 := by funext a b f h g; exact Eq.trans (by kernel_rfl) ((i4 a b f Bh h g).trans (by rw [Ah]; rfl))
noncomputable def F := u3 Ak1
theorem rn x : H.u P_ x = F x := Eq.trans (b := u3 (Al6 x4) x) (by kernel_rfl) (by simp only [e4] <;> rfl)
noncomputable def c : Con := ⟨H.p, H.r, F⟩
theorem ok : ConOk P_ gl 185 c := co H func185 (.cons F143.ok .nil) rn
end F185
namespace F184
noncomputable def H : Hd := ⟨[Sb, Sq], [.agg [Si, Si], Sz], .d, ⟨[(37, F37.c), (133, F133.c), (185, F185.c)], gl, false⟩, [], f184⟩
noncomputable def F := u2 Ac5
theorem rn x : H.u P_ x = F x := by kernel_rfl
noncomputable def c : Con := ⟨H.p, H.r, F⟩
theorem ok : ConOk P_ gl 184 c := co H func184 (.cons F37.ok (.cons F133.ok (.cons F185.ok .nil))) rn
end F184
namespace F227
noncomputable def H : Hd := ⟨[Sb], [Si, Si], .d, ⟨[(37, F37.c), (183, F183.c), (184, F184.c), (185, F185.c)], gl, false⟩, [], f227⟩
noncomputable def F := Aoq
theorem rn x : H.u P_ x = F x := by kernel_rfl
noncomputable def c : Con := ⟨H.p, H.r, F⟩
theorem ok : ConOk P_ gl 227 c := co H func227 (.cons F37.ok (.cons F183.ok (.cons F184.ok (.cons F185.ok .nil)))) rn
end F227
namespace F179
noncomputable def H : Hd := ⟨[Sb], [Si, Si], .d, ⟨[(226, F226.c), (227, F227.c)], gl, false⟩, [], f179⟩
noncomputable def F := Lz
theorem rn x : H.u P_ x = F x := by kernel_rfl
noncomputable def c : Con := ⟨H.p, H.r, F⟩
theorem ok : ConOk P_ gl 179 c := co H func179 (.cons F226.ok (.cons F227.ok .nil)) rn
end F179
theorem Pn : ConOk Tryz.prog gl 78 Iw := Ame ent78 F179.ok
namespace F66
noncomputable def H : Hd := ⟨[Si], [.agg [Sz, Si]], .d, ⟨[], gl, false⟩, [], f66⟩
noncomputable def F := Ae
theorem rn x : H.u P_ x = F x := by kernel_rfl
noncomputable def c : Con := ⟨H.p, H.r, F⟩
theorem ok : ConOk P_ gl 66 c := co H func66 .nil rn
end F66
namespace F180
noncomputable def H : Hd := ⟨[Ss, Ss], [Sz], .d, ⟨[], gl, false⟩, [], f180⟩
noncomputable def F := u2 Gb
theorem rn x : H.u P_ x = F x := by kernel_rfl
noncomputable def c : Con := ⟨H.p, H.r, F⟩
theorem ok : ConOk P_ gl 180 c := co H func180 .nil rn
end F180
namespace F132
noncomputable def H : Hd := ⟨[Ss, Ss], [Sz], .d, ⟨[(180, F180.c)], gl, false⟩, [], f132⟩
noncomputable def F := u2 Kr
theorem rn x : H.u P_ x = F x := by kernel_rfl
noncomputable def c : Con := ⟨H.p, H.r, F⟩
theorem ok : ConOk P_ gl 132 c := co H func132 (.cons F180.ok .nil) rn
end F132
namespace F113
abbrev R_ := Bool
noncomputable def H : Hd := ⟨[Sb], [Sz], (.seq .d (.cut [] [] (.seq .d (.blk (.loop [0, 5, 6] [] .d))) .d)), ⟨[(132, F132.c)], gl, false⟩, [], f113⟩
def t4 (a : LB) (b : Int) : S := ⟨[(0, vb a), (5, .val (.vec 2 .str) ([([73, 68, 51] : LB), ([65, 80, 69, 84, 65, 71, 69, 88] : LB)] : List LB)), (6, vi b)], [], []⟩
def z4 : Nat → S → Option R_ := H.i P_ [r,l,r,d]
def x6 : Option R_ := H.e P_ [r,r] ⟨[], [], []⟩
def x4 (a : LB) (b : Int) : Option R_ := H.e P_ [r,l,r,d] (t4 a b)
theorem e6 : x6 = Zb := by kernel_rfl
theorem i4 (a : LB) : ∀ (q : Nat) (b : Int), z4 q (t4 a b) = Nf a q b :=
 ind (fun _ => by kernel_rfl) fun q ih b => Eq.trans (b := Zg x6 (fun b => (z4 q) (t4 a b)) a b) (by kernel_rfl) (by simp only [e6, ih] <;> rfl)
theorem e4 : x4 = Zw := by funext a b; exact Eq.trans (by kernel_rfl) ((i4 a Bh b).trans (by rw [Ah]; rfl))
noncomputable def F := Kt
theorem rn x : H.u P_ x = F x := Eq.trans (b := Zj x4 x) (by kernel_rfl) (by simp only [e4] <;> rfl)
noncomputable def c : Con := ⟨H.p, H.r, F⟩
theorem ok : ConOk P_ gl 113 c := co H func113 (.cons F132.ok .nil) rn
end F113
namespace F79
abbrev R_ := (Int × Int × Int × Int × Int × Int)
noncomputable def H : Hd := ⟨[Sb], [.agg [Si, Si, Si, Si, Si], Si], (.seq .d (.seq .d (.seq .d (.seq .d (.seq .d (.seq .d (.seq .d (.cut [2, 8] [] (.seq .d (.blk (.loop [0, 2, 8, 9, 44, 45] [] .d))) .d)))))))), ⟨[(132, F132.c), (133, F133.c), (134, F134.c), (135, F135.c), (136, F136.c)], gl, false⟩, [], f79⟩
def t4 (b : LB) (g f : Int) (a : LI) : S := ⟨[(0, vb b), (2, .ptr 0 []), (8, .ptr 1 []), (9, vi g), (44, .val (.vec 5 (.int .i64)) ([(2 : Int), (2 : Int), (2 : Int), (4 : Int), (4 : Int)] : LI)), (45, vi f)], [.box 46 (.agg [vi 0, vi 0, vi 0, vi 0, vi 0]), .box 188 (.val (.vec 5 (.int .i64)) a)], []⟩
def z4 : Nat → S → Option R_ := H.i P_ [r,r,r,r,r,r,r,l,r,d]
def x6 (a : LI) : Option R_ := H.e P_ [r,r,r,r,r,r,r,r] ⟨[(2, .ptr 0 []), (8, .ptr 1 [])], [.box 46 (.agg [vi 0, vi 0, vi 0, vi 0, vi 0]), .box 188 (.val (.vec 5 (.int .i64)) a)], []⟩
def x4 (b : LB) (g f : Int) (a : LI) : Option R_ := H.e P_ [r,r,r,r,r,r,r,l,r,d] (t4 b g f a)
theorem e6 : x6 = Acy := by kernel_rfl
theorem i4 (b : LB) : ∀ (q : Nat) (g f : Int) (a : LI), z4 q (t4 b g f a) = Qt b q g f a :=
 ind (fun _ _ _ => by kernel_rfl) fun q ih g f a => Eq.trans (b := Aal x6 (fun g f a => (z4 q) (t4 b g f a)) b g f a) (by kernel_rfl) (by simp only [e6, ih] <;> rfl)
theorem e4 : x4 = Acz := by funext b g f a; exact Eq.trans (by kernel_rfl) ((i4 b Bh g f a).trans (by rw [Ah]; rfl))
noncomputable def F := Jy
theorem rn x : H.u P_ x = F x := Eq.trans (b := Aa6 x4 x) (by kernel_rfl) (by simp only [e4] <;> rfl)
noncomputable def c : Con := ⟨H.p, H.r, F⟩
theorem ok : ConOk P_ gl 79 c := co H func79 (.cons F132.ok (.cons F133.ok (.cons F134.ok (.cons F135.ok (.cons F136.ok .nil))))) rn
end F79
namespace F114
noncomputable def H : Hd := ⟨[Sb, Ss], [Sz, Si], .d, ⟨[(37, F37.c), (84, F84.c)], gl, false⟩, [], f114⟩
noncomputable def F := u2 Xg
theorem rn x : H.u P_ x = F x := by kernel_rfl
noncomputable def c : Con := ⟨H.p, H.r, F⟩
theorem ok : ConOk P_ gl 114 c := co H func114 (.cons F37.ok (.cons F84.ok .nil)) rn
end F114
namespace F115
abbrev R_ := (LI × Int)
noncomputable def H : Hd := ⟨[Sb, Si], [Ol 3, Si], (.seq .d (.seq .d (.seq .d (.seq .d (.seq .d (.seq .d (.cut [10] [] (.seq .d (.blk (.loop [0, 10, 48, 49] [] .d))) .d))))))), ⟨[(70, F70.c), (133, F133.c), (134, F134.c)], gl, false⟩, [], f115⟩
def t4 (b : LB) (f : LI) (g : Int) (a : LI) : S := ⟨[(0, vb b), (10, .own 0), (48, vi (Aa f)), (49, vi g)], [Ai 3 a], []⟩
def z4 : Nat → S → Option R_ := H.i P_ [r,r,r,r,r,r,l,r,d]
def x6 (a : LI) : Option R_ := H.e P_ [r,r,r,r,r,r,r] ⟨[(10, .own 0)], [Ai 3 a], []⟩
def x4 (b : LB) (f : LI) (g : Int) (a : LI) : Option R_ := H.e P_ [r,r,r,r,r,r,l,r,d] (t4 b f g a)
theorem e6 : x6 = Aei := by kernel_rfl
theorem i4 (b : LB) (f : LI) : ∀ (q : Nat) (g : Int) (a : LI), z4 q (t4 b f g a) = Ug b f q g a :=
 ind (fun _ _ => by kernel_rfl) fun q ih g a => Eq.trans (b := Aeq x6 (fun g a => (z4 q) (t4 b f g a)) b f g a) (by kernel_rfl) (by simp only [e6, ih] <;> rfl)
theorem e4 : x4 = Aec := by funext b f g a; exact Eq.trans (by kernel_rfl) ((i4 b f Bh g a).trans (by rw [Ah]; rfl))
noncomputable def F := u2 Afw
theorem rn x : H.u P_ x = F x := Eq.trans (b := u2 (Adr x4) x) (by kernel_rfl) (by simp only [e4] <;> rfl)
noncomputable def c : Con := ⟨H.p, H.r, F⟩
theorem ok : ConOk P_ gl 115 c := co H func115 (.cons F70.ok (.cons F133.ok (.cons F134.ok .nil))) rn
end F115
namespace F118
noncomputable def H : Hd := ⟨[.agg [Si, Si, Si, Si, Si]], [.agg [Si, Si]], .d, ⟨[], gl, false⟩, [], f118⟩
noncomputable def F := u5 To
theorem rn x : H.u P_ x = F x := by kernel_rfl
noncomputable def c : Con := ⟨H.p, H.r, F⟩
theorem ok : ConOk P_ gl 118 c := co H func118 .nil rn
end F118
namespace F162
noncomputable def H : Hd := ⟨[Sb], [Sb, Si], .d, ⟨[(134, F134.c), (181, F181.c)], gl, false⟩, [], f162⟩
noncomputable def F := Aai
theorem rn x : H.u P_ x = F x := by kernel_rfl
noncomputable def c : Con := ⟨H.p, H.r, F⟩
theorem ok : ConOk P_ gl 162 c := co H func162 (.cons F134.ok (.cons F181.ok .nil)) rn
end F162
namespace F163
noncomputable def H : Hd := ⟨[Sb], [.agg [Ob 5, Si], Si], .d, ⟨[(107, F107.c)], gl, false⟩, [], f163⟩
noncomputable def F := Atk
theorem rn x : H.u P_ x = F x := by kernel_rfl
noncomputable def c : Con := ⟨H.p, H.r, F⟩
theorem ok : ConOk P_ gl 163 c := co H func163 (.cons F107.ok .nil) rn
end F163
namespace F208
abbrev R_ := UInt64
noncomputable def H : Hd := ⟨[.agg [Sb, Si], Si, Si], [Sq], (.seq .d (.seq .d (.cut [7] [] (.blk (.loop [1, 2, 3, 7, 8] [] .d)) .d))), ⟨[], gl, false⟩, [], f208⟩
def t4 (b f : Int) (h : LB) (k : Int) (g : UInt64) (a : Int) : S := ⟨[(1, vi b), (2, vi f), (3, .ptr 0 []), (7, vq g), (8, vi a)], [.box 224 (.agg [vb h, vi k])], []⟩
def z4 : Nat → S → Option R_ := H.i P_ [r,r,l,d]
def x6 (g : UInt64) : Option R_ := H.e P_ [r,r,r] ⟨[(7, vq g)], [], []⟩
def x4 (b f : Int) (h : LB) (k : Int) (g : UInt64) (a : Int) : Option R_ := H.e P_ [r,r,l,d] (t4 b f h k g a)
theorem e6 : x6 = Ai5 := by kernel_rfl
theorem i4 (b f : Int) (h : LB) (k : Int) : ∀ (q : Nat) (g : UInt64) (a : Int), z4 q (t4 b f h k g a) = Abq b f h k q g a :=
 ind (fun _ _ => by kernel_rfl) fun q ih g a => Eq.trans (b := Ajd x6 (fun g a => (z4 q) (t4 b f h k g a)) b f h k g a) (by kernel_rfl) (by simp only [e6, ih] <;> rfl)
theorem e4 : x4 = Ajj := by funext b f h k g a; exact Eq.trans (by kernel_rfl) ((i4 b f h k Bh g a).trans (by rw [Ah]; rfl))
noncomputable def F := u4 Amb
theorem rn x : H.u P_ x = F x := Eq.trans (b := u4 (Aj0 x4) x) (by kernel_rfl) (by simp only [e4] <;> rfl)
noncomputable def c : Con := ⟨H.p, H.r, F⟩
theorem ok : ConOk P_ gl 208 c := co H func208 .nil rn
end F208
namespace F205
abbrev R_ := (LB × Int × Int)
abbrev K_ := S → Option R_
noncomputable def H : Hd := ⟨[.agg [Sb, Si], Si, Si], [.agg [Ob 5, Si], Si], (.seq .d (.seq .d (.seq .d (.seq .d (.cut [6, 8] [] (.seq .d (.blk (.loop [2, 3, 6, 8, 9] [⟨8, [0], .own 5 (.int .u8)⟩] (.seq .d (.cut [2, 3, 6, 8, 9] [] (.blk (.seq .d (.keep [2, 3, 6, 8, 9, 10, 39, 40, 41, 42, 43] true))) .d))))) .d))))), ⟨[(207, F207.c), (208, F208.c)], gl, false⟩, [(248, (.blk (.loop [0, 1, 2] [] (.seq .d (.blk (.cut [0, 1, 2] [] .d (.seq .d (.cut [0, 1, 2, 7] [] .d .d))))))))], f205⟩
def t44 (a : Int) (g : LB) (f b : Int) (k n : UInt64) (m h : Int) (u : LB) : S := ⟨[(0, .ptr 0 []), (1, vq n), (2, vi m)], [.box 224 (.agg [.own 3, vi h]), .box 224 (.agg [vb g, vi f]), .box 224 (.agg [.nils, vi 0]), Ab 5 u], [[(2, vi a), (3, .ptr 1 []), (6, .ptr 2 []), (8, .ptr 0 []), (9, vi b), (10, vi (Cv (64 : Int) (Af a b))), (39, .agg [vb g, vi f]), (40, vi b), (41, vi (Cv (64 : Int) (Af a b))), (42, vq k), (43, vi (Cv (64 : Int) (Af a b)))]]⟩
def z44 (kn27 : K_) : Nat → S → Option R_ := H.i P_ [r,r,r,r,l,r,d,(lp kn27),r,l,d,r,(call 5 248),d]
def t27 (a : Int) (g : LB) (f b o : Int) (p : LB) : S := ⟨[(2, vi a), (3, .ptr 0 []), (6, .ptr 1 []), (8, .ptr 2 []), (9, vi b)], [.box 224 (.agg [vb g, vi f]), .box 224 (.agg [.nils, vi 0]), .box 224 (.agg [.own 3, vi o]), Ab 5 p], []⟩
def z27 : Nat → S → Option R_ := H.i P_ [r,r,r,r,l,r,d]
def x52 (o : Int) (p : LB) : Option R_ := H.e P_ [r,r,r,r,r] ⟨[(6, .ptr 0 []), (8, .ptr 1 [])], [.box 224 (.agg [.nils, vi 0]), .box 224 (.agg [.own 2, vi o]), Ab 5 p], []⟩
def x50 (kn27 : K_) (a : Int) (g : LB) (f b h : Int) (u : LB) : Option R_ := H.e P_ [r,r,r,r,l,r,d,(lp kn27),r,r] ⟨[(2, vi a), (3, .ptr 0 []), (6, .ptr 1 []), (8, .ptr 2 []), (9, vi b)], [.box 224 (.agg [vb g, vi f]), .box 224 (.agg [.nils, vi 0]), .box 224 (.agg [.own 3, vi h]), Ab 5 u], []⟩
def x48 (kn27 kn44 : K_) (a b : Int) (g : LB) (f : Int) (k n : UInt64) (m h : Int) (w : LB) : Option R_ := H.e P_ [r,r,r,r,l,r,d,(lp kn27),r,l,d,r,(call 5 248),d,(lp kn44),r,d,r,r,r] ⟨[(0, .ptr 0 []), (1, vq n), (2, vi m), (7, vi (Cv m (Af (8 : Int) (Cj h (7 : Int)))))], [.box 224 (.agg [.own 3, vi h]), .box 224 (.agg [vb g, vi f]), .box 224 (.agg [.nils, vi 0]), Ab 5 w], [[(2, vi a), (3, .ptr 1 []), (6, .ptr 2 []), (8, .ptr 0 []), (9, vi b), (10, vi (Cv (64 : Int) (Af a b))), (39, .agg [vb g, vi f]), (40, vi b), (41, vi (Cv (64 : Int) (Af a b))), (42, vq k), (43, vi (Cv (64 : Int) (Af a b)))]]⟩
def x47 (kn27 kn44 : K_) (a b : Int) (g : LB) (f : Int) (k n : UInt64) (m h : Int) (v : LB) : Option R_ := H.e P_ [r,r,r,r,l,r,d,(lp kn27),r,l,d,r,(call 5 248),d,(lp kn44),r,d,r] ⟨[(0, .ptr 0 []), (1, vq n), (2, vi m)], [.box 224 (.agg [.own 3, vi h]), .box 224 (.agg [vb g, vi f]), .box 224 (.agg [.nils, vi 0]), Ab 5 v], [[(2, vi a), (3, .ptr 1 []), (6, .ptr 2 []), (8, .ptr 0 []), (9, vi b), (10, vi (Cv (64 : Int) (Af a b))), (39, .agg [vb g, vi f]), (40, vi b), (41, vi (Cv (64 : Int) (Af a b))), (42, vq k), (43, vi (Cv (64 : Int) (Af a b)))]]⟩
def x44 (kn27 : K_) (a : Int) (g : LB) (f b : Int) (k n : UInt64) (m h : Int) (u : LB) : Option R_ := H.e P_ [r,r,r,r,l,r,d,(lp kn27),r,l,d,r,(call 5 248),d] (t44 a g f b k n m h u)
def x27 (a : Int) (g : LB) (f b o : Int) (p : LB) : Option R_ := H.e P_ [r,r,r,r,l,r,d] (t27 a g f b o p)
theorem e52 : x52 = Agx := by kernel_rfl
theorem e50 (kn27 : K_) (a : Int) (g : LB) (f : Int) : x50 kn27 a g f = Agp (fun b o p => kn27 (t27 a g f b o p)) a g f := by kernel_rfl
theorem e48 (kn27 kn44 : K_) (a : Int) (g : LB) (f b : Int) (k : UInt64) : x48 kn27 kn44 a b g f k = Aga (fun n m h u => kn44 (t44 a g f b k n m h u)) a b g f k := by kernel_rfl
theorem e47 (kn27 kn44 : K_) (a : Int) (g : LB) (f b : Int) (k : UInt64) : x47 kn27 kn44 a b g f k = Ahx (fun n m h u => kn44 (t44 a g f b k n m h u)) a b g f k := Eq.trans (b := Ago (x48 kn27 kn44 a b g f k) a b g f k) (by kernel_rfl) (by simp only [e48] <;> rfl)
theorem i44 (kn27 : K_) (a : Int) (g : LB) (f b : Int) (k : UInt64) : ∀ (q : Nat) (n : UInt64) (m h : Int) (u : LB), z44 kn27 q (t44 a g f b k n m h u) = Xx (fun b o p => kn27 (t27 a g f b o p)) a g f b k q n m h u :=
 ind (fun _ _ _ _ => by kernel_rfl) fun q ih n m h u => Eq.trans (b := Ahd (x47 kn27 (z44 kn27 q) a b g f k) (x50 kn27 a g f) a g f b k n m h u) (by kernel_rfl) (by simp only [e47, e50, ih] <;> rfl)
theorem e44 (kn27 : K_) (a : Int) (g : LB) (f : Int) : x44 kn27 a g f = Ahv (fun b o p => kn27 (t27 a g f b o p)) a g f := by funext b k n m h u; exact Eq.trans (by kernel_rfl) ((i44 kn27 a g f b k Bh n m h u).trans (by rw [Ah]; rfl))
theorem i27 (a : Int) (g : LB) (f : Int) : ∀ (q : Nat) (b o : Int) (p : LB), z27 q (t27 a g f b o p) = Xf a g f q b o p :=
 ind (fun _ _ _ => by kernel_rfl) fun q ih b o p => Eq.trans (b := Agz (x44 (z27 q) a g f) x52 a g f b o p) (by kernel_rfl) (by simp only [e44, e52, ih] <;> rfl)
theorem e27 : x27 = Agw := by funext a g f b o p; exact Eq.trans (by kernel_rfl) ((i27 a g f Bh b o p).trans (by rw [Ah]; rfl))
noncomputable def F := u4 Anb
theorem rn x : H.u P_ x = F x := Eq.trans (b := u4 (Aj8 x27) x) (by kernel_rfl) (by simp only [e27] <;> rfl)
noncomputable def c : Con := ⟨H.p, H.r, F⟩
theorem ok : ConOk P_ gl 205 c := cr H func205 (.cons F207.ok (.cons F208.ok .nil)) (AnsOk.cons ent248 AnsOk.nil) rn
end F205
namespace F165
noncomputable def H : Hd := ⟨[.agg [Sb, Si], Si, Si], [Sq, Si], .d, ⟨[(207, F207.c), (208, F208.c)], gl, false⟩, [], f165⟩
noncomputable def F := u4 Qa
theorem rn x : H.u P_ x = F x := by kernel_rfl
noncomputable def c : Con := ⟨H.p, H.r, F⟩
theorem ok : ConOk P_ gl 165 c := co H func165 (.cons F207.ok (.cons F208.ok .nil)) rn
end F165
namespace F304
noncomputable def H : Hd := ⟨[Sq], [Si], .d, ⟨[], gl, false⟩, [], f304⟩
noncomputable def F := Ia
theorem rn x : H.u P_ x = F x := by kernel_rfl
noncomputable def c : Con := ⟨H.p, H.r, F⟩
theorem ok : ConOk P_ gl 304 c := co H func304 .nil rn
end F304
namespace F284
def Qi (j6 : Int → UInt64 → Int → LB → Int → Option (Int × Int × Int)) (g : LB) (b a : Int) : Option (Int × Int × Int) :=
(Ev g b).bind fun m =>
if (Bf m 0) then
some (0, 0, m)
else
if (Bq a 0) then
some (0, 0, 2)
else
if (Gd a b) then
some (0, 0, 24)
else
(fun n : Option (Int × Int × Int) =>
(fun o : Option (Int × Int × Int) =>
bo2 (
o)) (
bo (
n))) (
(Qa g b a (Cv 48 (Af b a))).bind fun (k, h) =>
j6 h k a g b)
theorem Ahz : @Qi = @Ua := by
  unfold Qi Ua
  simp only [Yy, Nc, Nb]
abbrev R_ := (Int × Int × Int)
noncomputable def H : Hd := ⟨[.agg [Sb, Si], Si], [Si, Si, Si], (.seq .d (.seq .d (.seq .d (.seq .d (.seq .d (.cut [3, 5, 6, 8, 9] [] (.keep [2, 3, 5, 6, 8, 9, 22, 23, 24, 25, 26, 27, 28, 29] false) (.seq .d (.seq .d (.cut [] [] (.blk (.seq (.blk (.seq (.blk (.cut [] [] (.cut [3, 4, 5] [] (.cut [3, 4, 5, 36] [] (.keep [3, 4, 5, 8, 36, 37, 38, 39, 40] true) .d) .d) .d)) .d)) .d)) .d))))))))), ⟨[(165, F165.c), (207, F207.c), (304, F304.c)], gl, false⟩, [(303, .d)], f284⟩
def x10 : Option R_ := H.e P_ [r,r,r,r,r,r,r,r,r] ⟨[], [], []⟩
def x9 : Option R_ := H.e P_ [r,r,r,r,r,r,r,r,l,d,l,d,l,d,r] ⟨[], [], []⟩
def x8 (f a : Int) : Option R_ := H.e P_ [r,r,r,r,r,r,r,r,l,d,l,d,l,d,l,r] ⟨[(3, .ptr 0 []), (4, vi f), (5, vi 0)], [.box 3 (vi a)], []⟩
def x7 (f b a : Int) : Option R_ := H.e P_ [r,r,r,r,r,r,r,r,l,d,l,d,l,d,l,l,r] ⟨[(3, .ptr 0 []), (4, vi f), (5, vi 0), (36, vt (Bq f (Cv (48 : Int) (Af b a))))], [.box 3 (vi a)], []⟩
def x6 (h : Int) (k : UInt64) (a : Int) (g : LB) (b : Int) : Option R_ := H.e P_ [r,r,r,r,r,r] ⟨[(3, .ptr 0 []), (5, vi 0), (6, vi h), (8, .fn 303 [.ptr 1 [], .ptr 0 []]), (9, vq k)], [.box 3 (vi a), .box 224 (.agg [vb g, vi b])], []⟩
theorem e10 : x10 = Acv := by kernel_rfl
theorem e9 : x9 = Adu := Eq.trans (b := Adx x10) (by kernel_rfl) (by simp only [e10] <;> rfl)
theorem e8 : x8 = Ad3 := Eq.trans (b := Aef x9) (by kernel_rfl) (by simp only [e9] <;> rfl)
theorem e7 : x7 = Ad6 := Eq.trans (b := Ae1 x8) (by kernel_rfl) (by simp only [e8] <;> rfl)
theorem e6 : x6 = Adt := Eq.trans (b := Adw x7) (by kernel_rfl) (by simp only [e7] <;> rfl)
noncomputable def F := u3 Amc
theorem rn x : H.u P_ x = F x := Eq.trans (b := u3 (Qi x6) x) (by kernel_rfl) (by unfold F; rw [Ahz]; simp only [e6] <;> rfl)
noncomputable def c : Con := ⟨H.p, H.r, F⟩
theorem ok : ConOk P_ gl 284 c := cr H func284 (.cons F165.ok (.cons F207.ok (.cons F304.ok .nil))) (AnsOk.cons ent303 AnsOk.nil) rn
end F284
namespace F249
abbrev R_ := (UInt32 × Int × Int)
noncomputable def H : Hd := ⟨[.agg [Sb, Si], Si, Si], [Su, Si, Si], (.seq .d (.seq .d (.seq .d (.seq .d (.seq .d (.seq .d (.cut [2, 3, 7, 10, 11] [] .d .d))))))), ⟨[(165, F165.c), (207, F207.c), (278, F278.c), (284, F284.c)], gl, false⟩, [], f249⟩
def x2 (a b f : Int) (g : LB) (h k : Int) : Option R_ := H.e P_ [r,r,r,r,r,r,r] ⟨[(2, vi a), (3, .ptr 0 []), (7, vi b), (10, vi f), (11, vi k)], [.box 224 (.agg [vb g, vi h])], []⟩
theorem e2 : x2 = Ag1 := by kernel_rfl
noncomputable def F := u4 Aob
theorem rn x : H.u P_ x = F x := Eq.trans (b := u4 (Ag2 x2) x) (by kernel_rfl) (by simp only [e2] <;> rfl)
noncomputable def c : Con := ⟨H.p, H.r, F⟩
theorem ok : ConOk P_ gl 249 c := co H func249 (.cons F165.ok (.cons F207.ok (.cons F278.ok (.cons F284.ok .nil)))) rn
end F249
namespace F206
abbrev R_ := (UInt32 × Int × Int × Int × UInt64 × UInt64 × Int)
noncomputable def H : Hd := ⟨[.agg [Sb, Si], Si, .agg [Si, Si, Sq, Sq]], [Su, Si, .agg [Si, Si, Sq, Sq], Si], (.seq .d (.cut [1, 3, 5, 8] [] .d (.seq .d (.seq .d (.cut [5, 6, 7, 8] [] .d (.cut [5, 6, 7, 8] [] (.keep [5, 6, 7, 8, 81] true) .d)))))), ⟨[(165, F165.c), (207, F207.c), (233, F233.c), (234, F234.c), (249, F249.c)], gl, false⟩, [(237, (.seq .d (.seq .d (.seq .d (.blk (.cut [0, 1, 4] [] (.blk (.seq .d (.keep [0, 1, 4, 6, 18, 19, 20, 21, 22, 23, 24, 25] true))) (.cut [] [] (.keep [0, 1, 4, 27, 28, 29, 30, 31, 32, 33, 34] true) .d))))))), (280, .d)], f206⟩
def x10 (f : UInt32) (k w m : Int) (a n : UInt64) : Option R_ := H.e P_ [r,r,r,r,r,r] ⟨[(5, .ptr 0 []), (6, vu f), (7, vi k), (8, .ptr 1 [])], [.box 258 (.agg [vi w, vi m, vq (Ac a (Af (Ao f : UInt64) (Bn a (GI.toZ (4 : UInt64)).toNat))), vq n]), .box 258 (.agg [vi 0, vi 0, vq 0, vq 0])], []⟩
def x9 (f : UInt32) (k m : Int) (a n : UInt64) (w : Int) : Option R_ := H.e P_ [r,r,r,r,r,l,(call 1 237),r,r,r,d,r,r] ⟨[], [.box 258 (.agg [vi w, vi m, vq (Ac a (Af (Ao f : UInt64) (Bn a (GI.toZ (4 : UInt64)).toNat))), vq n]), .box 258 (.agg [vi 0, vi 0, vq 0, vq 0])], [[(5, .ptr 0 []), (6, vu f), (7, vi k), (8, .ptr 1 []), (81, vu f)]]⟩
def x8 (f : UInt32) (k b : Int) (a : UInt64) (m : Int) (n : UInt64) : Option R_ := H.e P_ [r,r,r,r,r,l,(call 1 237),r,r,r,d,r] ⟨[(0, .ptr 0 []), (1, vu f), (4, .fn 280 [])], [.box 258 (.agg [vi b, vi m, vq a, vq n]), .box 258 (.agg [vi 0, vi 0, vq 0, vq 0])], [[(5, .ptr 0 []), (6, vu f), (7, vi k), (8, .ptr 1 []), (81, vu f)]]⟩
def x7 (b h : Int) (a g : UInt64) (f : UInt32) (k : Int) : Option R_ := H.e P_ [r,r,r,r,r] ⟨[(5, .ptr 0 []), (6, vu f), (7, vi k), (8, .ptr 1 [])], [.box 258 (.agg [vi b, vi h, vq a, vq g]), .box 258 (.agg [vi 0, vi 0, vq 0, vq 0])], []⟩
def x6 (p : Int) (u : LB) (v b h : Int) (a g : UInt64) : Option R_ := H.e P_ [r,r] ⟨[(1, vi p), (3, .ptr 0 []), (5, .ptr 1 []), (8, .ptr 2 [])], [.box 224 (.agg [vb u, vi v]), .box 258 (.agg [vi b, vi h, vq a, vq g]), .box 258 (.agg [vi 0, vi 0, vq 0, vq 0])], []⟩
theorem e10 : x10 = Aek := by kernel_rfl
theorem e9 : x9 = Ag7 := Eq.trans (b := Af9 x10) (by kernel_rfl) (by simp only [e10] <;> rfl)
theorem e8 : x8 = Af6 := Eq.trans (b := Agd x9) (by kernel_rfl) (by simp only [e9] <;> rfl)
theorem e7 : x7 = Ahg := Eq.trans (b := Ag6 x8) (by kernel_rfl) (by simp only [e8] <;> rfl)
theorem e6 : x6 = Agy := Eq.trans (b := Agu x7) (by kernel_rfl) (by simp only [e7] <;> rfl)
noncomputable def F := u7 Uz
theorem rn x : H.u P_ x = F x := Eq.trans (b := u7 (Ahb x6) x) (by kernel_rfl) (by simp only [e6] <;> rfl)
noncomputable def c : Con := ⟨H.p, H.r, F⟩
theorem ok : ConOk P_ gl 206 c := cr H func206 (.cons F165.ok (.cons F207.ok (.cons F233.ok (.cons F234.ok (.cons F249.ok .nil))))) (AnsOk.cons ent237 (AnsOk.cons ent280 AnsOk.nil)) rn
end F206
namespace F164
def Ii (j21 : Int → Int → Int → UInt32 → Int → (List (Int × Int × UInt64 × UInt64 × Unit)) → LU → Int → Int → UInt64 → UInt64 → Option (LU × Int × Int)) (j24 : Int → LU → Option (LU × Int × Int)) (a f : Int) (g : LB) (b k h : Int) (n : List (Int × Int × UInt64 × UInt64 × Unit)) (m : LU) : Option (LU × Int × Int) :=
if (Bq h (De f a)) then
(Anb g b k (Cv (Ac k 81) b)).bind fun (ah, ae, af) =>
if (Bf af 0) then
some (([] : LU), 0, af)
else
(Eg (Bf a 0)).bind fun _ =>
(Al n (Dl h a)).bind fun _ =>
(fun ai : Option (LU × Int × Int) =>
both (
both (
(Al n (Dl h a)).bind fun p =>
(fun ao : Option (LU × Int × Int) =>
bo (
ao)) (
(Uz ah ae 0 p.1 p.2.1 p.2.2.1 p.2.2.2.1).bind fun (w, v, aa, ab, ac, ad, y) =>
j21 k h y w v n m aa ab ac ad)) [
ai]) [
(Al n (Dl h a)).bind fun p =>
(fun aj : Option (LU × Int × Int) =>
both (
bo (
aj)) [
aj]) (
(Uz ah ae 0 p.1 p.2.1 p.2.2.1 p.2.2.2.1).bind fun (w, v, aa, ab, ac, ad, y) =>
j21 k h y w v n m aa ab ac ad),
bo (
ai)]) (
(Al n (Dl h a)).bind fun p =>
(Uz ah ae 0 p.1 p.2.1 p.2.2.1 p.2.2.2.1).bind fun (w, v, aa, ab, ac, ad, y) =>
j21 k h y w v n m aa ab ac ad)
else
j24 k m
theorem Wx : @Ii = @Ju := by
  unfold Ii Ju
  try simp only [Yy, Nc, Nb]
  all_goals
    repeat (refine funext fun _ => ?_)
    repeat' first
      | with_reducible rfl
      | with_reducible refine Fb ?_ ?_
      | with_reducible refine Ey ?_ ?_ ?_
      | with_reducible refine Ew ?_ ?_ ?_ ?_
      | ((with_reducible refine Gm ?_ ?_); focus (intro h; first | (subst h; rfl) | (simp only [h]; rfl) | (simp [Ck, Aa, h]; done)))
      | with_reducible refine Gi fun x => ?_
      | with_reducible refine Jo (fun _ => ?_) (fun _ => ?_)
      | (refine Ct (fun h => by simp only [h, Gj, Bu, Bt, ite_self]) (fun x h => ?_); (try simp only [h, Bu]))
      | (refine Di (fun h => ?_) (fun h => ?_) <;> simp only [h, if_true, if_false, Bool.false_eq_true])
abbrev R_ := (LU × Int × Int)
abbrev K_ := S → Option R_
noncomputable def H : Hd := ⟨[Si, Si, .agg [Sb, Si]], [Ov 23, Si, Si], (.seq .d (.seq .d (.cut [0, 1, 5, 9] [] (.seq .d (.blk (.loop [0, 1, 5, 9, 19] [] .d))) (.seq .d (.seq .d (.cut [11, 12] [] (.seq .d (.blk (.loop [0, 5, 9, 11, 12, 28, 29] [⟨11, [], .own 23 (.int .u32)⟩] (.seq .d (.seq .d (.seq (.blk (.seq .d (.seq .d (.seq .d (.cut [0, 5, 9, 11, 12, 13, 15, 16, 17, 18, 28, 29] [] (.mode false) (.seq .d (.cut [0, 5, 9, 11, 12, 16, 28, 29] [] .d .d))))))) .d)))))) .d)))))), ⟨[(204, F204.c), (205, F205.c), (206, F206.c)], gl, false⟩, [], f164⟩
def t16 (a f : Int) (g : LB) (b k h : Int) (n : List (Int × Int × UInt64 × UInt64 × Unit)) (m : LU) : S := ⟨[(0, vi a), (5, .ptr 0 []), (9, .ptr 1 []), (11, .own 2), (12, vi k), (28, vi (De f a)), (29, vi h)], [.box 224 (.agg [vb g, vi b]), .box 259 (.val (.vec 6 (.cons (.int .i64) (.cons (.int .i64) (.cons (.int .u64) (.cons (.int .u64) .nil))))) n), Av 23 m], []⟩
def z16 : Nat → S → Option R_ := H.i P_ [r,r,r,r,r,l,r,d]
def t13 (a f : Int) (g : LB) (b u : Int) (o : List (Int × Int × UInt64 × UInt64 × Unit)) : S := ⟨[(0, vi a), (1, vi f), (5, .ptr 0 []), (9, .ptr 1 []), (19, vi u)], [.box 224 (.agg [vb g, vi b]), .box 259 (.val (.vec 6 (.cons (.int .i64) (.cons (.int .i64) (.cons (.int .u64) (.cons (.int .u64) .nil))))) o)], []⟩
def z13 : Nat → S → Option R_ := H.i P_ [r,r,l,r,d]
def x24 (k : Int) (m : LU) : Option R_ := H.e P_ [r,r,r,r,r,r] ⟨[(11, .own 0), (12, vi k)], [Av 23 m], []⟩
def x22 (kn16 : K_) (a f : Int) (g : LB) (b k v : Int) (w : UInt32) (h : Int) (ag : List (Int × Int × UInt64 × UInt64 × Unit)) (m : LU) : Option R_ := H.e P_ [r,r,r,r,r,l,r,d,(lp kn16),r,r,l,d,r,r,r,r,r,r] ⟨[(0, vi a), (5, .ptr 0 []), (9, .ptr 1 []), (11, .own 2), (12, vi (Ac k v)), (16, vu w), (28, vi (De f a)), (29, vi h)], [.box 224 (.agg [vb g, vi b]), .box 259 (.val (.vec 6 (.cons (.int .i64) (.cons (.int .i64) (.cons (.int .u64) (.cons (.int .u64) .nil))))) ag), Av 23 m], []⟩
def x21 (kn16 : K_) (a f : Int) (g : LB) (b k h y : Int) (w : UInt32) (v : Int) (n : List (Int × Int × UInt64 × UInt64 × Unit)) (m : LU) (aa ab : Int) (ac ad : UInt64) : Option R_ := H.e P_ [r,r,r,r,r,l,r,d,(lp kn16),r,r,l,d,r,r,r,r] ⟨[(0, vi a), (5, .ptr 0 []), (9, .ptr 1 []), (11, .own 2), (12, vi k), (13, vi h), (15, vi y), (16, vu w), (17, vi v), (18, .ptr 3 []), (28, vi (De f a)), (29, vi h)], [.box 224 (.agg [vb g, vi b]), .box 259 (.val (.vec 6 (.cons (.int .i64) (.cons (.int .i64) (.cons (.int .u64) (.cons (.int .u64) .nil))))) n), Av 23 m, .box 258 (.agg [vi aa, vi ab, vq ac, vq ad])], []⟩
def x16 (a f : Int) (g : LB) (b k h : Int) (n : List (Int × Int × UInt64 × UInt64 × Unit)) (m : LU) : Option R_ := H.e P_ [r,r,r,r,r,l,r,d] (t16 a f g b k h n m)
def x15 (a f : Int) (g : LB) (b : Int) (o : List (Int × Int × UInt64 × UInt64 × Unit)) : Option R_ := H.e P_ [r,r,r] ⟨[(0, vi a), (1, vi f), (5, .ptr 0 []), (9, .ptr 1 [])], [.box 224 (.agg [vb g, vi b]), .box 259 (.val (.vec 6 (.cons (.int .i64) (.cons (.int .i64) (.cons (.int .u64) (.cons (.int .u64) .nil))))) o)], []⟩
def x13 (a f : Int) (g : LB) (b u : Int) (o : List (Int × Int × UInt64 × UInt64 × Unit)) : Option R_ := H.e P_ [r,r,l,r,d] (t13 a f g b u o)
theorem e24 : x24 = Pb := by kernel_rfl
theorem e22 (kn16 : K_) (a f : Int) (g : LB) (b : Int) : x22 kn16 a f g b = Ox (fun k h n m => kn16 (t16 a f g b k h n m)) a f g b := by kernel_rfl
theorem e21 (kn16 : K_) (a f : Int) (g : LB) (b : Int) : x21 kn16 a f g b = Pu (fun k h n m => kn16 (t16 a f g b k h n m)) a f g b := Eq.trans (b := Ra (x22 kn16 a f g b) a f g b) (by kernel_rfl) (by simp only [e22] <;> rfl)
theorem i16 (a f : Int) (g : LB) (b : Int) : ∀ (q : Nat) (k h : Int) (n : List (Int × Int × UInt64 × UInt64 × Unit)) (m : LU), z16 q (t16 a f g b k h n m) = Jv a f g b q k h n m :=
 ind (fun _ _ _ _ => by kernel_rfl) fun q ih k h n m => Eq.trans (b := Ii (x21 (z16 q) a f g b) x24 a f g b k h n m) (by kernel_rfl) (by rw [Wx]; simp only [e21, e24, ih] <;> rfl)
theorem e16 : x16 = Qw := by funext a f g b k h n m; exact Eq.trans (by kernel_rfl) ((i16 a f g b Bh k h n m).trans (by rw [Ah]; rfl))
theorem e15 : x15 = Qp := Eq.trans (b := Ql x16) (by kernel_rfl) (by simp only [e16] <;> rfl)
theorem i13 (a f : Int) (g : LB) (b : Int) : ∀ (q : Nat) (u : Int) (o : List (Int × Int × UInt64 × UInt64 × Unit)), z13 q (t13 a f g b u o) = Jq a f g b q u o :=
 ind (fun _ _ => by kernel_rfl) fun q ih u o => Eq.trans (b := Qu x15 (fun u o => (z13 q) (t13 a f g b u o)) a f g b u o) (by kernel_rfl) (by simp only [e15, ih] <;> rfl)
theorem e13 : x13 = Qs := by funext a f g b u o; exact Eq.trans (by kernel_rfl) ((i13 a f g b Bh u o).trans (by rw [Ah]; rfl))
noncomputable def F := u4 Ab4
theorem rn x : H.u P_ x = F x := Eq.trans (b := u4 (Se x13) x) (by kernel_rfl) (by simp only [e13] <;> rfl)
noncomputable def c : Con := ⟨H.p, H.r, F⟩
theorem ok : ConOk P_ gl 164 c := co H func164 (.cons F204.ok (.cons F205.ok (.cons F206.ok .nil))) rn
end F164
namespace F211
noncomputable def H : Hd := ⟨[Su], [Sx], .d, ⟨[], gl, false⟩, [], f211⟩
noncomputable def F := Lm
theorem rn x : H.u P_ x = F x := by kernel_rfl
noncomputable def c : Con := ⟨H.p, H.r, F⟩
theorem ok : ConOk P_ gl 211 c := co H func211 .nil rn
end F211
namespace F253
noncomputable def H : Hd := ⟨[.agg [Si, .lf (.vec 16 (.int .i32)) none, .lf (.vec 16 (.int .i32)) none], Sx], [Sx, .agg [Si, .lf (.vec 16 (.int .i32)) none, .lf (.vec 16 (.int .i32)) none], Si], .d, ⟨[(287, F287.c), (288, F288.c)], gl, false⟩, [], f253⟩
noncomputable def F := u4 Alf
theorem rn x : H.u P_ x = F x := by kernel_rfl
noncomputable def c : Con := ⟨H.p, H.r, F⟩
theorem ok : ConOk P_ gl 253 c := co H func253 (.cons F287.ok (.cons F288.ok .nil)) rn
end F253
namespace F210
def Pz (a : Int) (b : Int32) (f : Int) (g h : LX) (o : Int32) : Option (Int32 × Int × Int32 × Int × LX × LX × Int) :=
(Mn a b f g h).bind fun k =>
if (Bf k 0) then
some (0, 0, 0, 0, (List.replicate 16 (0 : Int32)), (List.replicate 16 (0 : Int32)), k)
else
(Mv a b).bind fun (m, y) =>
(Alf f g h o).bind fun (n, p, u, v, w) =>
(fun aa : Option (Int32 × Int × Int32 × Int × LX × LX × Int) =>
bo (
aa)) (
some ((Ac n m), a, (Ac n m), p, u, v, w))
theorem Ah4 : @Pz = @Fq := by
  unfold Pz Fq
  simp only [Yy, Nc, Nb]
noncomputable def H : Hd := ⟨[.agg [Si, Sx, .agg [Si, .lf (.vec 16 (.int .i32)) none, .lf (.vec 16 (.int .i32)) none]], Sx], [Sx, .agg [Si, Sx, .agg [Si, .lf (.vec 16 (.int .i32)) none, .lf (.vec 16 (.int .i32)) none]], Si], (.seq .d (.seq .d (.seq .d (.seq .d (.seq (.mode false) .d))))), ⟨[(251, F251.c), (252, F252.c), (253, F253.c)], gl, false⟩, [], f210⟩
noncomputable def F := u6 Fq
theorem rn x : H.u P_ x = F x := Eq.trans (b := u6 Pz x) (by kernel_rfl) (by rw [Ah4]; rfl)
noncomputable def c : Con := ⟨H.p, H.r, F⟩
theorem ok : ConOk P_ gl 210 c := co H func210 (.cons F251.ok (.cons F252.ok (.cons F253.ok .nil))) rn
end F210
namespace F212
abbrev R_ := (LX × Int)
abbrev K_ := S → Option R_
noncomputable def H : Hd := ⟨[Si, Sw], [Ow 21, Si], (.seq .d (.seq .d (.seq .d (.cut [7] [] (.seq .d (.blk (.loop [0, 7, 8] [] (.seq .d (.cut [0, 7, 8] [] (.blk (.keep [0, 7, 8, 24, 25, 26, 27, 28, 29] true)) .d))))) .d)))), ⟨[(156, F156.c), (254, F254.c)], gl, true⟩, [(255, (.seq .d (.cut [0, 2] [] .d (.seq .d (.blk (.loop [0, 3] [] .d))))))], f212⟩
def t18 (b a g : Int) (h : LX) : S := ⟨[(0, .view true 0 [] (.int .i32) a ((Ac a b) - a)), (3, vi g)], [Aw 21 h], [[(0, vi b), (7, .own 0), (8, vi a), (24, .own 0), (25, vi a), (26, vi a), (27, vi b), (28, vi (Ac a b)), (29, .view true 0 [] (.int .i32) a ((Ac a b) - a))]]⟩
def z18 (kn12 : K_) : Nat → S → Option R_ := H.i P_ [r,r,r,l,r,d,(lp kn12),r,l,d,(call 6 255),r,r,r,d]
def t12 (b a : Int) (f : LX) : S := ⟨[(0, vi b), (7, .own 0), (8, vi a)], [Aw 21 f], []⟩
def z12 : Nat → S → Option R_ := H.i P_ [r,r,r,l,r,d]
def x22 (f : LX) : Option R_ := H.e P_ [r,r,r,r] ⟨[(7, .own 0)], [Aw 21 f], []⟩
def x20 (kn12 : K_) (b a : Int) (h : LX) : Option R_ := H.e P_ [r,r,r,l,r,d,(lp kn12),r,r] ⟨[(0, vi b), (7, .own 0), (8, vi a)], [Aw 21 h], []⟩
def x18 (kn12 : K_) (b a g : Int) (h : LX) : Option R_ := H.e P_ [r,r,r,l,r,d,(lp kn12),r,l,d,(call 6 255),r,r,r,d] (t18 b a g h)
def x17 (kn12 : K_) (b a : Int) (k : LX) : Option R_ := H.e P_ [r,r,r,l,r,d,(lp kn12),r,l,d,(call 6 255),r,r] ⟨[(0, .view true 0 [] (.int .i32) a ((Ac a b) - a)), (2, vi (Af ((Ac a b) - a) (1 : Int)))], [Aw 21 k], [[(0, vi b), (7, .own 0), (8, vi a), (24, .own 0), (25, vi a), (26, vi a), (27, vi b), (28, vi (Ac a b)), (29, .view true 0 [] (.int .i32) a ((Ac a b) - a))]]⟩
def x12 (b a : Int) (f : LX) : Option R_ := H.e P_ [r,r,r,l,r,d] (t12 b a f)
theorem e22 : x22 = Ahq := by kernel_rfl
theorem e20 (kn12 : K_) (b : Int) : x20 kn12 b = Ahk (fun a f => kn12 (t12 b a f)) b := by kernel_rfl
theorem i18 (kn12 : K_) (b a : Int) : ∀ (q : Nat) (g : Int) (h : LX), z18 kn12 q (t18 b a g h) = Xl (fun a f => kn12 (t12 b a f)) b a q g h :=
 ind (fun _ _ => by kernel_rfl) fun q ih g h => Eq.trans (b := Ahf (x20 kn12 b) (fun g h => (z18 kn12 q) (t18 b a g h)) b a g h) (by kernel_rfl) (by simp only [e20, ih] <;> rfl)
theorem e18 (kn12 : K_) (b : Int) : x18 kn12 b = Ah2 (fun a f => kn12 (t12 b a f)) b := by funext a g h; exact Eq.trans (by kernel_rfl) ((i18 kn12 b a Bh g h).trans (by rw [Ah]; rfl))
theorem e17 (kn12 : K_) (b : Int) : x17 kn12 b = Ag4 (fun a f => kn12 (t12 b a f)) b := Eq.trans (b := Af5 (x18 kn12 b) b) (by kernel_rfl) (by simp only [e18] <;> rfl)
theorem i12 (b : Int) : ∀ (q : Nat) (a : Int) (f : LX), z12 q (t12 b a f) = Xv b q a f :=
 ind (fun _ _ => by kernel_rfl) fun q ih a f => Eq.trans (b := Af8 (x17 (z12 q) b) x22 b a f) (by kernel_rfl) (by simp only [e17, e22, ih] <;> rfl)
theorem e12 : x12 = Ahp := by funext b a f; exact Eq.trans (by kernel_rfl) ((i12 b Bh a f).trans (by rw [Ah]; rfl))
noncomputable def F := u2 Aq6
theorem rn x : H.u P_ x = F x := Eq.trans (b := u2 (Ajv x12) x) (by kernel_rfl) (by simp only [e12] <;> rfl)
noncomputable def c : Con := ⟨H.p, H.r, F⟩
theorem ok : ConOk P_ gl 212 c := cr H func212 (.cons F156.ok (.cons F254.ok .nil)) (AnsOk.cons ent255 AnsOk.nil) rn
end F212
namespace F166
def Hp (j16 : Int → Int32 → Int → (List (Int × Int32 × (Int × LX × LX × Unit) × Unit)) → LX → Int → Int32 → Int → LX → LX → Option (LX × Int)) (j18 : Int → Int → LX → Option (LX × Int)) (f : LU) (a b g : Int) (h : List (Int × Int32 × (Int × LX × LX × Unit) × Unit)) (k : LX) : Option (LX × Int) :=
if (Bq g (Aa f)) then
(Al f g).bind fun ag =>
(Eg (Bf a 0)).bind fun _ =>
(Al h (Dl g a)).bind fun _ =>
both (
(Al h (Dl g a)).bind fun m =>
both (
(Lm ag).bind fun ae =>
(fun ao : Option (LX × Int) =>
bo (
ao)) (
(Fq m.1 m.2.1 m.2.2.1.1 m.2.2.1.2.1 m.2.2.1.2.2.1 ae).bind fun (w, y, v, aa, ab, ac, u) =>
j16 g w u h k y v aa ab ac)) [
(Lm ag).bind fun ae =>
(Fq m.1 m.2.1 m.2.2.1.1 m.2.2.1.2.1 m.2.2.1.2.2.1 ae).bind fun (w, y, v, aa, ab, ac, u) =>
j16 g w u h k y v aa ab ac]) [
(Lm ag).bind fun af =>
both (
(Al h (Dl g a)).bind fun ad =>
(fun ap : Option (LX × Int) =>
bo (
ap)) (
(Fq ad.1 ad.2.1 ad.2.2.1.1 ad.2.2.1.2.1 ad.2.2.1.2.2.1 af).bind fun (w, y, v, aa, ab, ac, u) =>
j16 g w u h k y v aa ab ac)) [
(Al h (Dl g a)).bind fun ad =>
(Fq ad.1 ad.2.1 ad.2.2.1.1 ad.2.2.1.2.1 ad.2.2.1.2.2.1 af).bind fun (w, y, v, aa, ab, ac, u) =>
j16 g w u h k y v aa ab ac],
both (
(Al h (Dl g a)).bind fun m =>
(Lm ag).bind fun ae =>
(Fq m.1 m.2.1 m.2.2.1.1 m.2.2.1.2.1 m.2.2.1.2.2.1 ae).bind fun (w, y, v, aa, ab, ac, u) =>
j16 g w u h k y v aa ab ac) [
(Lm ag).bind fun af =>
(Al h (Dl g a)).bind fun ad =>
(Fq ad.1 ad.2.1 ad.2.2.1.1 ad.2.2.1.2.1 ad.2.2.1.2.2.1 af).bind fun (w, y, v, aa, ab, ac, u) =>
j16 g w u h k y v aa ab ac]]
else
j18 a b k
theorem Vc : @Hp = @Ig := by
  unfold Hp Ig
  try simp only [Yy, Nc, Nb]
  all_goals
    repeat (refine funext fun _ => ?_)
    repeat' first
      | with_reducible rfl
      | with_reducible refine Fb ?_ ?_
      | with_reducible refine Ey ?_ ?_ ?_
      | with_reducible refine Ew ?_ ?_ ?_ ?_
      | ((with_reducible refine Gm ?_ ?_); focus (intro h; first | (subst h; rfl) | (simp only [h]; rfl) | (simp [Ck, Aa, h]; done)))
      | with_reducible refine Gi fun x => ?_
      | with_reducible refine Jo (fun _ => ?_) (fun _ => ?_)
      | (refine Ct (fun h => by simp only [h, Gj, Bu, Bt, ite_self]) (fun x h => ?_); (try simp only [h, Bu]))
      | (refine Di (fun h => ?_) (fun h => ?_) <;> simp only [h, if_true, if_false, Bool.false_eq_true])
abbrev R_ := (LX × Int)
abbrev K_ := S → Option R_
noncomputable def H : Hd := ⟨[.agg [Si, Si], .lf (.vec 16 (.int .i32)) none, Sv], [Ow 21, Si], (.seq .d (.seq .d (.cut [2, 3, 8] [] (.seq .d (.blk (.loop [2, 3, 4, 8, 20] [] .d))) (.seq .d (.cut [3, 10] [] (.seq .d (.blk (.loop [3, 8, 10, 33, 34, 35] [⟨10, [], .own 21 (.int .i32)⟩] (.seq .d (.seq .d (.seq (.blk (.seq .d (.seq .d (.cut [3, 8, 10, 13, 14, 15, 16, 33, 34, 35] [] (.mode false) .d)))) .d)))))) .d))))), ⟨[(167, F167.c), (209, F209.c), (210, F210.c), (211, F211.c), (212, F212.c)], gl, false⟩, [], f166⟩
def t13 (f : LU) (a b g : Int) (h : List (Int × Int32 × (Int × LX × LX × Unit) × Unit)) (k : LX) : S := ⟨[(3, .ptr 0 []), (8, .ptr 1 []), (10, .own 2), (33, vv f), (34, vi (Aa f)), (35, vi g)], [.box 69 (.agg [vi a, vi b]), .box 284 (.val (.vec 6 (.cons (.int .i64) (.cons (.int .i32) (.cons (.cons (.int .i64) (.cons (.vec 16 (.int .i32)) (.cons (.vec 16 (.int .i32)) .nil))) .nil)))) h), Aw 21 k], []⟩
def z13 : Nat → S → Option R_ := H.i P_ [r,r,r,r,l,r,d]
def t10 (f : LU) (a b : Int) (o : LX) (p : Int) (n : List (Int × Int32 × (Int × LX × LX × Unit) × Unit)) : S := ⟨[(2, vv f), (3, .ptr 0 []), (4, .ptr 1 []), (8, .ptr 2 []), (20, vi p)], [.box 69 (.agg [vi a, vi b]), .box 164 (.val (.vec 16 (.int .i32)) o), .box 284 (.val (.vec 6 (.cons (.int .i64) (.cons (.int .i32) (.cons (.cons (.int .i64) (.cons (.vec 16 (.int .i32)) (.cons (.vec 16 (.int .i32)) .nil))) .nil)))) n)], []⟩
def z10 : Nat → S → Option R_ := H.i P_ [r,r,l,r,d]
def x18 (a b : Int) (k : LX) : Option R_ := H.e P_ [r,r,r,r,r] ⟨[(3, .ptr 0 []), (10, .own 1)], [.box 69 (.agg [vi a, vi b]), Aw 21 k], []⟩
def x16 (kn13 : K_) (a : Int) (f : LU) (b g : Int) (w : Int32) (u : Int) (h : List (Int × Int32 × (Int × LX × LX × Unit) × Unit)) (k : LX) (y : Int) (v : Int32) (aa : Int) (ab ac : LX) : Option R_ := H.e P_ [r,r,r,r,l,r,d,(lp kn13),r,r,l,d,r,r,r] ⟨[(3, .ptr 0 []), (8, .ptr 1 []), (10, .own 2), (13, .ptr 1 [.idx (Dl g a) 35]), (14, vx w), (15, .ptr 3 []), (16, vi u), (33, vv f), (34, vi (Aa f)), (35, vi g)], [.box 69 (.agg [vi a, vi b]), .box 284 (.val (.vec 6 (.cons (.int .i64) (.cons (.int .i32) (.cons (.cons (.int .i64) (.cons (.vec 16 (.int .i32)) (.cons (.vec 16 (.int .i32)) .nil))) .nil)))) h), Aw 21 k, .box 283 (.agg [vi y, vx v, .agg [vi aa, .val (.vec 16 (.int .i32)) ab, .val (.vec 16 (.int .i32)) ac]])], []⟩
def x13 (f : LU) (a b g : Int) (h : List (Int × Int32 × (Int × LX × LX × Unit) × Unit)) (k : LX) : Option R_ := H.e P_ [r,r,r,r,l,r,d] (t13 f a b g h k)
def x12 (f : LU) (a b : Int) (n : List (Int × Int32 × (Int × LX × LX × Unit) × Unit)) : Option R_ := H.e P_ [r,r,r] ⟨[(2, vv f), (3, .ptr 0 []), (8, .ptr 1 [])], [.box 69 (.agg [vi a, vi b]), .box 284 (.val (.vec 6 (.cons (.int .i64) (.cons (.int .i32) (.cons (.cons (.int .i64) (.cons (.vec 16 (.int .i32)) (.cons (.vec 16 (.int .i32)) .nil))) .nil)))) n)], []⟩
def x10 (f : LU) (a b : Int) (o : LX) (p : Int) (n : List (Int × Int32 × (Int × LX × LX × Unit) × Unit)) : Option R_ := H.e P_ [r,r,l,r,d] (t10 f a b o p n)
theorem e18 : x18 = Of := by kernel_rfl
theorem e16 (kn13 : K_) (f : LU) (a b : Int) : x16 kn13 a f b = Nz (fun g h k => kn13 (t13 f a b g h k)) a f b := by kernel_rfl
theorem i13 (f : LU) (a b : Int) : ∀ (q : Nat) (g : Int) (h : List (Int × Int32 × (Int × LX × LX × Unit) × Unit)) (k : LX), z13 q (t13 f a b g h k) = Il f a b q g h k :=
 ind (fun _ _ _ => by kernel_rfl) fun q ih g h k => Eq.trans (b := Hp (x16 (z13 q) a f b) x18 f a b g h k) (by kernel_rfl) (by rw [Vc]; simp only [e16, e18, ih] <;> rfl)
theorem e13 : x13 = Ok := by funext f a b g h k; exact Eq.trans (by kernel_rfl) ((i13 f a b Bh g h k).trans (by rw [Ah]; rfl))
theorem e12 : x12 = Np := Eq.trans (b := Nx x13) (by kernel_rfl) (by simp only [e13] <;> rfl)
theorem i10 (f : LU) (a b : Int) (o : LX) : ∀ (q : Nat) (p : Int) (n : List (Int × Int32 × (Int × LX × LX × Unit) × Unit)), z10 q (t10 f a b o p n) = Im f a b o q p n :=
 ind (fun _ _ => by kernel_rfl) fun q ih p n => Eq.trans (b := Nt x12 (fun p n => (z10 q) (t10 f a b o p n)) f a b o p n) (by kernel_rfl) (by simp only [e12, ih] <;> rfl)
theorem e10 : x10 = Nv := by funext f a b o p n; exact Eq.trans (by kernel_rfl) ((i10 f a b o Bh p n).trans (by rw [Ah]; rfl))
noncomputable def F := u4 Zc
theorem rn x : H.u P_ x = F x := Eq.trans (b := u4 (Qx x10) x) (by kernel_rfl) (by simp only [e10] <;> rfl)
noncomputable def c : Con := ⟨H.p, H.r, F⟩
theorem ok : ConOk P_ gl 166 c := co H func166 (.cons F167.ok (.cons F209.ok (.cons F210.ok (.cons F211.ok (.cons F212.ok .nil))))) rn
end F166
namespace F117
noncomputable def H : Hd := ⟨[.agg [Si, Si], .lf (.vec 16 (.int .i32)) none, Si, Sb], [Ow 21, Si], .d, ⟨[(151, F151.c), (162, F162.c), (163, F163.c), (164, F164.c), (165, F165.c), (166, F166.c)], gl, false⟩, [], f117⟩
noncomputable def F := u5 Oy
theorem rn x : H.u P_ x = F x := by kernel_rfl
noncomputable def c : Con := ⟨H.p, H.r, F⟩
theorem ok : ConOk P_ gl 117 c := co H func117 (.cons F151.ok (.cons F162.ok (.cons F163.ok (.cons F164.ok (.cons F165.ok (.cons F166.ok .nil)))))) rn
end F117
namespace F119
abbrev R_ := (LB × Int)
abbrev K_ := S → Option R_
noncomputable def H : Hd := ⟨[Si, Sw], [Ob 5, Si], (.seq .d (.seq .d (.seq .d (.cut [7] [] (.seq .d (.blk (.loop [0, 7, 17, 18, 19] [⟨7, [], .own 5 (.int .u8)⟩] (.seq .d (.seq .d (.cut [0, 7, 17, 18, 19] [] (.blk (.seq .d (.cut [0, 7, 9, 17, 18, 19] [] .d (.seq .d (.blk (.loop [0, 7, 9, 17, 18, 19, 28, 29] [] .d)))))) .d)))))) .d)))), ⟨[(167, F167.c)], gl, false⟩, [], f119⟩
def t26 (b : Int) (a : LX) (k : Int32) (f m : Int) (h : LB) : S := ⟨[(0, vi b), (7, .own 0), (9, vx k), (17, vw a), (18, vi (Aa a)), (19, vi f), (28, vi (Fw b (8 : Int))), (29, vi m)], [Ab 5 h], []⟩
def z26 (kn16 : K_) : Nat → S → Option R_ := H.i P_ [r,r,r,l,r,d,(lp kn16),r,r,l,d,r,r,r,d]
def t16 (b : Int) (a : LX) (f : Int) (g : LB) : S := ⟨[(0, vi b), (7, .own 0), (17, vw a), (18, vi (Aa a)), (19, vi f)], [Ab 5 g], []⟩
def z16 : Nat → S → Option R_ := H.i P_ [r,r,r,l,r,d]
def x30 (g : LB) : Option R_ := H.e P_ [r,r,r,r] ⟨[(7, .own 0)], [Ab 5 g], []⟩
def x28 (kn16 : K_) (b : Int) (a : LX) (f : Int) (h : LB) : Option R_ := H.e P_ [r,r,r,l,r,d,(lp kn16),r,r,r] ⟨[(0, vi b), (7, .own 0), (17, vw a), (18, vi (Aa a)), (19, vi f)], [Ab 5 h], []⟩
def x26 (kn16 : K_) (b : Int) (a : LX) (k : Int32) (f m : Int) (h : LB) : Option R_ := H.e P_ [r,r,r,l,r,d,(lp kn16),r,r,l,d,r,r,r,d] (t26 b a k f m h)
def x25 (kn16 : K_) (b : Int) (a : LX) (f : Int) (g : LB) (k : Int32) : Option R_ := H.e P_ [r,r,r,l,r,d,(lp kn16),r,r,l,d,r,r] ⟨[(0, vi b), (7, .own 0), (9, vx k), (17, vw a), (18, vi (Aa a)), (19, vi f)], [Ab 5 g], []⟩
def x16 (b : Int) (a : LX) (f : Int) (g : LB) : Option R_ := H.e P_ [r,r,r,l,r,d] (t16 b a f g)
theorem e30 : x30 = Yo := by kernel_rfl
theorem e28 (kn16 : K_) (b : Int) (a : LX) : x28 kn16 b a = Xz (fun f g => kn16 (t16 b a f g)) b a := by kernel_rfl
theorem i26 (kn16 : K_) (b : Int) (a : LX) (k : Int32) (f : Int) : ∀ (q : Nat) (m : Int) (h : LB), z26 kn16 q (t26 b a k f m h) = Nk (fun f g => kn16 (t16 b a f g)) b a k f q m h :=
 ind (fun _ _ => by kernel_rfl) fun q ih m h => Eq.trans (b := Zf (x28 kn16 b a) (fun m h => (z26 kn16 q) (t26 b a k f m h)) b a k f m h) (by kernel_rfl) (by simp only [e28, ih] <;> rfl)
theorem e26 (kn16 : K_) (b : Int) (a : LX) : x26 kn16 b a = Yz (fun f g => kn16 (t16 b a f g)) b a := by funext k f m h; exact Eq.trans (by kernel_rfl) ((i26 kn16 b a k f Bh m h).trans (by rw [Ah]; rfl))
theorem e25 (kn16 : K_) (b : Int) (a : LX) : x25 kn16 b a = Zl (fun f g => kn16 (t16 b a f g)) b a := Eq.trans (b := Zs (x26 kn16 b a) b a) (by kernel_rfl) (by simp only [e26] <;> rfl)
theorem i16 (b : Int) (a : LX) : ∀ (q : Nat) (f : Int) (g : LB), z16 q (t16 b a f g) = Na b a q f g :=
 ind (fun _ _ => by kernel_rfl) fun q ih f g => Eq.trans (b := Zo (x25 (z16 q) b a) x30 b a f g) (by kernel_rfl) (by simp only [e25, e30, ih] <;> rfl)
theorem e16 : x16 = Aaa := by funext b a f g; exact Eq.trans (by kernel_rfl) ((i16 b a Bh f g).trans (by rw [Ah]; rfl))
noncomputable def F := u2 Ml
theorem rn x : H.u P_ x = F x := Eq.trans (b := u2 (Abp x16) x) (by kernel_rfl) (by simp only [e16] <;> rfl)
noncomputable def c : Con := ⟨H.p, H.r, F⟩
theorem ok : ConOk P_ gl 119 c := co H func119 (.cons F167.ok .nil) rn
end F119
namespace F122
abbrev R_ := Int
noncomputable def H : Hd := ⟨[Sl, Si], [Si], (.seq .d (.cut [] [] (.seq .d (.blk (.loop [0, 1, 7, 8] [] .d))) .d)), ⟨[], gl, false⟩, [], f122⟩
def t4 (a : LI) (b f : Int) : S := ⟨[(0, vl a), (1, vi b), (7, vi (Aa a)), (8, vi f)], [], []⟩
def z4 : Nat → S → Option R_ := H.i P_ [r,l,r,d]
def x6 : Option R_ := H.e P_ [r,r] ⟨[], [], []⟩
def x4 (a : LI) (b f : Int) : Option R_ := H.e P_ [r,l,r,d] (t4 a b f)
theorem e6 : x6 = El := by kernel_rfl
theorem i4 (a : LI) (b : Int) : ∀ (q : Nat) (f : Int), z4 q (t4 a b f) = Cm a b q f :=
 ind (fun _ => by kernel_rfl) fun q ih f => Eq.trans (b := Ep x6 (fun f => (z4 q) (t4 a b f)) a b f) (by kernel_rfl) (by simp only [e6, ih] <;> rfl)
theorem e4 : x4 = Eo := by funext a b f; exact Eq.trans (by kernel_rfl) ((i4 a b Bh f).trans (by rw [Ah]; rfl))
noncomputable def F := u2 Fi
theorem rn x : H.u P_ x = F x := Eq.trans (b := u2 (Em x4) x) (by kernel_rfl) (by simp only [e4] <;> rfl)
noncomputable def c : Con := ⟨H.p, H.r, F⟩
theorem ok : ConOk P_ gl 122 c := co H func122 .nil rn
end F122
namespace F71
noncomputable def H : Hd := ⟨[Sl, Si], [Sz], .d, ⟨[(122, F122.c)], gl, false⟩, [], f71⟩
noncomputable def F := u2 En
theorem rn x : H.u P_ x = F x := by kernel_rfl
noncomputable def c : Con := ⟨H.p, H.r, F⟩
theorem ok : ConOk P_ gl 71 c := co H func71 (.cons F122.ok .nil) rn
end F71
namespace F49
noncomputable def H : Hd := ⟨[Si], [Sz], .d, ⟨[(71, F71.c)], gl, false⟩, [], f49⟩
noncomputable def F := Jf
theorem rn x : H.u P_ x = F x := by kernel_rfl
noncomputable def c : Con := ⟨H.p, H.r, F⟩
theorem ok : ConOk P_ gl 49 c := co H func49 (.cons F71.ok .nil) rn
end F49
namespace F25
def Jw (j28 : Bool → Int → Option Int) (w ah : Int) (g a : LB) (k p o u v b : Int) (m : Bool) (n : Int) (ao : LX) (f : LI) (h : LB) : Option Int :=
if (Bf ah 0) then
(Ae ah).bind fun (br, bs) =>
j28 br bs
else
(Ml o ao).bind fun (bt, be) =>
if (Bf be 0) then
(Ae be).bind fun (bu, bv) =>
j28 bu bv
else
(Ck h bt).bind fun dv =>
(fun fa : Option Int =>
bo (
fa)) (
(Cl a w (Aa a)).bind fun dw =>
j28 false 0)
theorem Aae : @Jw = @Kg := by
  unfold Jw Kg
  simp only [Yy, Nc, Nb]
def Ky (j13 : Bool → Int → Option Int) (j12 : LB → LB → Int → Int → Int → Int → Int → Int → Bool → Int → LI → LB → Option Int) (j25 : Bool → Int → Option Int) (j23 : LB → LB → Int → Int → Int → Int → Int → Int → Bool → Int → LI → LB → Option Int) (j24 : LB → LB → Int → Int → Int → Int → Int → Int → Bool → Int → LI → LB → Int → Option Int) (j28 : Bool → Int → Option Int) (j26 : Int → LB → LB → Int → Int → Int → Int → Int → Int → Bool → Int → LX → LI → LI → LB → Option Int) (j22 : Bool → Option Int) (j21 : Option Int) (aq ar : LB) (au av aw ax ay : Int) (az : LI) (ai : Int) (aj : LB) (ac : Bool) (y : Int) : Option Int :=
if (Eh (Aa aq) 64) then
some 8
else
if ((geq y 0) && (!ac)) then
(Cz aq ar au av aw ax ay az ai aj ac y).bind fun (g, a, k, p, o, u, v, f, b, h, m, n) =>
(Xc aq ar au av aw ax ay az ai aj ac y).bind fun bw =>
if bw then
if (geq k 0) then
(Fj a).bind fun (al, ba) =>
if (geq ba 24) then
j13 true 0
else
if (Bf ba 0) then
(Ae ba).bind fun (bx, bz) =>
j13 bx bz
else
(Cl a al (Aa a)).bind fun da =>
(Kt da).bind fun an =>
if an then
j13 true 0
else
(Cl a al (Aa a)).bind fun db =>
(Jy db).bind fun (ae, af, aa, ag, ab, bb) =>
if (geq bb 24) then
j13 true 0
else
if (Bf bb 0) then
(Ae bb).bind fun (dc, dd) =>
j13 dc dd
else
both (
(Cl a (Ac al 22) (Aa a)).bind fun ak =>
(fun fb : Option Int =>
bo (
fb)) (
j12 g ak ae af aa ag ab b m n f h)) [
(Cl a (Ac al 22) (Aa a)).bind fun ak =>
j12 g ak ae af aa ag ab b m n f h]
else
if (geq (Aa f) 0) then
if (geq k 2) then
if (Bq (Aa a) 8) then
j25 true 0
else
j23 g a k p o u v b m n f h
else
j24 g a k p o u v b m n f h 0
else
if (Bq b (Aa f)) then
(Al f b).bind fun _ =>
(Al f b).bind fun w =>
if (Bq (Aa a) w) then
j28 true 0
else
(Md g).bind fun (ap, am) =>
if (Bf am 0) then
(Ae am).bind fun (de, df) =>
j28 de df
else
(Ek k p o u v).bind fun (ad, dg) =>
if ((Bf dg 0) || (Gd b (Aa ad))) then
(Ae 8).bind fun (dh, di) =>
j28 dh di
else
j26 w g a k p o u v b m n ap ad f h
else
if (Eh (Aa a) 4000) then
(Ae 38).bind fun (dj, bf) =>
j22 ((dj == true) && ((geq bf 0) && true))
else
j21
else
j22 false
else
if ((geq (Aa ar) 0) && (geq (Aa az) 0)) then
if ((((geq au 0) && ((geq av 0) && ((geq aw 0) && ((geq ax 0) && ((geq ay 0) && true))))) && (geq ai 0)) && (gle (Aa aj) 12000)) then
if (geq y 0) then
j22 true
else
if (!ac) then
(Jf y).bind fun dk =>
j22 dk
else
j22 false
else
j22 false
else
if ((false && (geq ai 0)) && (gle (Aa aj) 12000)) then
if (geq y 0) then
j22 true
else
if (!ac) then
(Jf y).bind fun dl =>
j22 dl
else
j22 false
else
j22 false
theorem Acd : @Ky = @Li := by
  unfold Ky Li
  try simp only [Yy, Nc, Nb]
  all_goals
    repeat (refine funext fun _ => ?_)
    repeat' first
      | with_reducible rfl
      | with_reducible refine Fb ?_ ?_
      | with_reducible refine Ey ?_ ?_ ?_
      | with_reducible refine Ew ?_ ?_ ?_ ?_
      | ((with_reducible refine Gm ?_ ?_); focus (intro h; first | (subst h; rfl) | (simp only [h]; rfl) | (simp [Ck, Aa, h]; done)))
      | with_reducible refine Gi fun x => ?_
      | with_reducible refine Jo (fun _ => ?_) (fun _ => ?_)
      | (refine Ct (fun h => by simp only [h, Gj, Bu, Bt, ite_self]) (fun x h => ?_); (try simp only [h, Bu]))
      | (refine Di (fun h => ?_) (fun h => ?_) <;> simp only [h, if_true, if_false, Bool.false_eq_true])
abbrev R_ := Int
noncomputable def H : Hd := ⟨[.agg [Ss, Sb, .agg [Si, Si, Si, Si, Si], Sl, Si, Sb, Sz, Si]], [Si], (.seq .d (.seq .d (.seq .d (.cut [3] [] (.seq .d (.cond (.seq .d (.keep [3, 21, 22, 23, 24, 25] false)) .d)) .d)))), ⟨[(45, F45.c), (48, F48.c), (49, F49.c), (66, F66.c), (68, F68.c), (69, F69.c), (78, Iw), (79, F79.c), (113, F113.c), (114, F114.c), (115, F115.c), (116, F116.c), (117, F117.c), (118, F118.c), (119, F119.c)], gl, false⟩, [(44, (.seq .d (.cut [2] [] (.blk (.seq .d (.cond (.cut [2] [] (.keep [2, 11] true) .d) (.seq .d (.cond (.cut [2] [] (.keep [2, 20] true) .d) (.seq .d (.cond (.cut [2] [] (.keep [2, 33] true) .d) .d))))))) .d))), (63, (.seq .d (.seq .d (.seq .d (.seq .d (.seq .d (.cut [0, 2, 5] [] (.mode false) .d))))))), (64, (.seq .d (.seq .d (.cut [0, 2, 3] [⟨0, [1], .ro (.int .u8)⟩] (.seq .d (.cond (.seq .d (.cut [0, 2, 3] [⟨0, [1], .ro (.int .u8)⟩, ⟨9, [1], .ro (.int .u8)⟩, ⟨10, [1], .ro (.int .u8)⟩, ⟨15, [1], .ro (.int .u8)⟩, ⟨16, [1], .ro (.int .u8)⟩, ⟨18, [], .ro (.int .u8)⟩] .d (.cut [0, 2, 3, 4, 5] [] .d .d))) .d)) .d)))), (65, (.seq .d (.seq .d (.seq .d (.seq .d (.seq .d (.seq .d (.cut [0, 2, 3, 4, 6] [⟨0, [1], .ro (.int .u8)⟩, ⟨9, [1], .ro (.int .u8)⟩, ⟨10, [1], .ro (.int .u8)⟩, ⟨13, [1], .ro (.int .u8)⟩, ⟨14, [1], .ro (.int .u8)⟩, ⟨19, [1], .ro (.int .u8)⟩, ⟨20, [1], .ro (.int .u8)⟩, ⟨22, [], .ro (.int .u8)⟩, ⟨28, [1], .ro (.int .u8)⟩, ⟨29, [1], .ro (.int .u8)⟩, ⟨40, [1], .ro (.int .u8)⟩, ⟨41, [1], .ro (.int .u8)⟩] .d (.cut [0, 2, 3, 5, 7] [] .d (.seq .d (.seq .d (.seq .d (.seq .d (.seq (.mode false) .d))))))))))))))], f25⟩
def x22 (bi : Bool) : Option R_ := H.e P_ [r,r,r,r] ⟨[(3, vt bi)], [], []⟩
def x21 : Option R_ := H.e P_ [r,r,r,l,r,l,r,(dcall 3 44 3 #[true, true, true, true, true, true, true, true] #[true, true, true, true, true, false, false, false]),r,r] ⟨[(2, .ptr 0 [])], [.box 82 (.agg [vt false, vi 0])], [[(3, vt false), (21, .cst (.bool true)), (23, .agg [vt true, vi 0])]]⟩
def x13 (bj : Bool) (bk : Int) : Option R_ := H.e P_ [r,r,r,l,r,l,r,(dcall 3 44 3 #[true, true, true, true, true, true, true, true] #[true, true, true, true, true, false, false, false]),r,l,d,r,l,r] ⟨[(2, .ptr 0 [])], [.box 82 (.agg [vt bj, vi bk])], [[(3, vt false), (21, .cst (.bool true)), (23, .agg [vt true, vi 0])]]⟩
def x12 (g ak : LB) (ae af aa ag ab b : Int) (m : Bool) (n : Int) (f : LI) (h : LB) : Option R_ := H.e P_ [r,r,r,l,r,l,r,(dcall 3 44 3 #[true, true, true, true, true, true, true, true] #[true, true, true, true, true, false, false, false]),r,l,d,r,l,l,(call 1 63),r,r,r,r,r,r] ⟨[(0, .ptr 0 []), (2, .ptr 1 []), (5, .ptr 2 [])], [.box 48 (.agg [vs g, vb ak, .agg [vi ae, vi af, vi aa, vi ag, vi ab], .own 4, vi b, .own 5, vt m, vi n]), .box 82 (.agg [vt false, vi 0]), .box 46 (.agg [vi ae, vi af, vi aa, vi ag, vi ab]), .box 82 (.agg [vt false, vi 0]), Ai 3 f, Ab 5 h], [[(2, .ptr 3 [])], [(3, vt false), (21, .cst (.bool true)), (23, .agg [vt true, vi 0])]]⟩
def x25 (bl : Bool) (bm : Int) : Option R_ := H.e P_ [r,r,r,l,r,l,r,(dcall 3 44 3 #[true, true, true, true, true, true, true, true] #[true, true, true, true, true, false, false, false]),r,l,d,r,r,r,l,r] ⟨[(2, .ptr 0 [])], [.box 82 (.agg [vt bl, vi bm])], [[(3, vt false), (21, .cst (.bool true)), (23, .agg [vt true, vi 0])]]⟩
def x24 (g a : LB) (k p o u v b : Int) (m : Bool) (n : Int) (f : LI) (h : LB) (bg : Int) : Option R_ := H.e P_ [r,r,r,l,r,l,r,(dcall 3 44 3 #[true, true, true, true, true, true, true, true] #[true, true, true, true, true, false, false, false]),r,l,d,r,r,r,l,l,(call 1 64),r,r,r] ⟨[(0, .ptr 0 []), (2, .ptr 1 []), (3, vi bg)], [.box 48 (.agg [vs g, vb a, .agg [vi k, vi p, vi o, vi u, vi v], .own 3, vi b, .own 4, vt m, vi n]), .box 82 (.agg [vt false, vi 0]), .box 82 (.agg [vt false, vi 0]), Ai 3 f, Ab 5 h], [[(2, .ptr 2 [])], [(3, vt false), (21, .cst (.bool true)), (23, .agg [vt true, vi 0])]]⟩
def x15 (bd : Bool) (bc : Int) (g a : LB) (k p o u v b : Int) (m : Bool) (n : Int) (f : LI) (h : LB) : Option R_ := H.e P_ [r,r,r,l,r,l,r,(dcall 3 44 3 #[true, true, true, true, true, true, true, true] #[true, true, true, true, true, false, false, false]),r,l,d,r,r,r,l,l,(call 1 64),r,r,l,r,l,r,r,r] ⟨[(0, .ptr 0 []), (2, .ptr 1 []), (3, vi 8), (4, vt bd), (5, vi bc)], [.box 48 (.agg [vs g, vb a, .agg [vi k, vi p, vi o, vi u, vi v], .own 3, vi b, .own 4, vt m, vi n]), .box 82 (.agg [vt false, vi 0]), .box 82 (.agg [vt false, vi 0]), Ai 3 f, Ab 5 h], [[(2, .ptr 2 [])], [(3, vt false), (21, .cst (.bool true)), (23, .agg [vt true, vi 0])]]⟩
def x23 (g a : LB) (k p o u v b : Int) (m : Bool) (n : Int) (f : LI) (h : LB) : Option R_ := H.e P_ [r,r,r,l,r,l,r,(dcall 3 44 3 #[true, true, true, true, true, true, true, true] #[true, true, true, true, true, false, false, false]),r,l,d,r,r,r,l,l,(call 1 64),r,r,l,r,l,r,r] ⟨[(0, .ptr 0 []), (2, .ptr 1 []), (3, vi 8)], [.box 48 (.agg [vs g, vb a, .agg [vi k, vi p, vi o, vi u, vi v], .own 3, vi b, .own 4, vt m, vi n]), .box 82 (.agg [vt false, vi 0]), .box 82 (.agg [vt false, vi 0]), Ai 3 f, Ab 5 h], [[(2, .ptr 2 [])], [(3, vt false), (21, .cst (.bool true)), (23, .agg [vt true, vi 0])]]⟩
def x28 (bp : Bool) (bq : Int) : Option R_ := H.e P_ [r,r,r,l,r,l,r,(dcall 3 44 3 #[true, true, true, true, true, true, true, true] #[true, true, true, true, true, false, false, false]),r,l,d,r,r,r,r,r,l,r] ⟨[(2, .ptr 0 [])], [.box 82 (.agg [vt bp, vi bq])], [[(3, vt false), (21, .cst (.bool true)), (23, .agg [vt true, vi 0])]]⟩
def x27 (w ah : Int) (g a : LB) (k p o u v b : Int) (m : Bool) (n : Int) (ao : LX) (f : LI) (h : LB) : Option R_ := H.e P_ [r,r,r,l,r,l,r,(dcall 3 44 3 #[true, true, true, true, true, true, true, true] #[true, true, true, true, true, false, false, false]),r,l,d,r,r,r,r,r,l,l,(call 1 65),r,r,r,r,r,r,r,r] ⟨[(0, .ptr 0 []), (2, .ptr 1 []), (3, vi w), (5, vi ah), (7, .own 2)], [.box 48 (.agg [vs g, vb a, .agg [vi k, vi p, vi o, vi u, vi v], .own 4, vi b, .own 5, vt m, vi n]), .box 82 (.agg [vt false, vi 0]), Aw 21 ao, .box 82 (.agg [vt false, vi 0]), Ai 3 f, Ab 5 h], [[(2, .ptr 3 [])], [(3, vt false), (21, .cst (.bool true)), (23, .agg [vt true, vi 0])]]⟩
def x26 (w : Int) (g a : LB) (k p o u v b : Int) (m : Bool) (n : Int) (ap : LX) (ad f : LI) (h : LB) : Option R_ := H.e P_ [r,r,r,l,r,l,r,(dcall 3 44 3 #[true, true, true, true, true, true, true, true] #[true, true, true, true, true, false, false, false]),r,l,d,r,r,r,r,r,l,l,(call 1 65),r,r,r,r,r,r,r] ⟨[(0, .ptr 0 []), (2, .ptr 1 []), (3, vi w), (4, .ptr 2 []), (6, .own 3)], [.box 48 (.agg [vs g, vb a, .agg [vi k, vi p, vi o, vi u, vi v], .own 5, vi b, .own 6, vt m, vi n]), .box 82 (.agg [vt false, vi 0]), .box 164 (.val (.vec 16 (.int .i32)) ap), Ai 3 ad, .box 82 (.agg [vt false, vi 0]), Ai 3 f, Ab 5 h], [[(2, .ptr 4 [])], [(3, vt false), (21, .cst (.bool true)), (23, .agg [vt true, vi 0])]]⟩
theorem e22 : x22 = Dy := by kernel_rfl
theorem e21 : x21 = Ru := Eq.trans (b := Tn x22) (by kernel_rfl) (by simp only [e22] <;> rfl)
theorem e13 : x13 = Kl := Eq.trans (b := Rk x22) (by kernel_rfl) (by simp only [e22] <;> rfl)
theorem e12 : x12 = Rr := Eq.trans (b := Rw x13) (by kernel_rfl) (by simp only [e13] <;> rfl)
theorem e25 : x25 = Gz := Eq.trans (b := Tk x22) (by kernel_rfl) (by simp only [e22] <;> rfl)
theorem e24 : x24 = Km := Eq.trans (b := Rj x25) (by kernel_rfl) (by simp only [e25] <;> rfl)
theorem e15 : x15 = Th := Eq.trans (b := Ri x25 x24) (by kernel_rfl) (by simp only [e25, e24] <;> rfl)
theorem e23 : x23 = Ti := Eq.trans (b := Rq x15) (by kernel_rfl) (by simp only [e15] <;> rfl)
theorem e28 : x28 = Kf := Eq.trans (b := Rl x22) (by kernel_rfl) (by simp only [e22] <;> rfl)
theorem e27 : x27 = Sf := Eq.trans (b := Jw x28) (by kernel_rfl) (by rw [Aae]; simp only [e28] <;> rfl)
theorem e26 : x26 = Sd := Eq.trans (b := Tc x27) (by kernel_rfl) (by simp only [e27] <;> rfl)
noncomputable def F := u12 Ui
theorem rn x : H.u P_ x = F x := Eq.trans (b := u12 (Ky x13 x12 x25 x23 x24 x28 x26 x22 x21) x) (by kernel_rfl) (by unfold F; rw [Acd]; simp only [e13, e12, e25, e23, e24, e28, e26, e22, e21] <;> rfl)
noncomputable def c : Con := ⟨H.p, H.r, F⟩
theorem ok : ConOk P_ gl 25 c := cr H func25 (.cons F45.ok (.cons F48.ok (.cons F49.ok (.cons F66.ok (.cons F68.ok (.cons F69.ok (.cons Pn (.cons F79.ok (.cons F113.ok (.cons F114.ok (.cons F115.ok (.cons F116.ok (.cons F117.ok (.cons F118.ok (.cons F119.ok .nil))))))))))))))) (AnsOk.cons ent44 (AnsOk.cons ent63 (AnsOk.cons ent64 (AnsOk.cons ent65 AnsOk.nil)))) rn
end F25
namespace F43
def Ld (f g : LB) (h k m n o : Int) (p : LI) (u : Int) (v : LB) (b : Bool) (a : Int) : Option (LB × LB × Int × Int × Int × Int × Int × LI × Int × LB × Bool × Int × Int) :=
(Ui f g h k m n o p u v b a).bind fun w =>
if (Bf w 0) then
some (([] : LB), ([] : LB), 0, 0, 0, 0, 0, ([] : LI), 0, ([] : LB), false, 0, w)
else
if (Bf a 0) then
(fun bl : Option (LB × LB × Int × Int × Int × Int × Int × LI × Int × LB × Bool × Int × Int) =>
both (
both (
(Cz f g h k m n o p u v b a).bind fun (y, aa, ab, ac, ad, ae, af, ag, ah, ai, aj, ak) =>
(fun bm : Option (LB × LB × Int × Int × Int × Int × Int × LI × Int × LB × Bool × Int × Int) =>
bo (
bm)) (
some (y, aa, ab, ac, ad, ae, af, ag, ah, ai, aj, ak, a))) [
bl]) [
bl]) (
(Cz f g h k m n o p u v b a).bind fun (y, aa, ab, ac, ad, ae, af, ag, ah, ai, aj, ak) =>
some (y, aa, ab, ac, ad, ae, af, ag, ah, ai, aj, ak, a))
else
if b then
(Cz f g h k m n o p u v b a).bind fun (al, am, an, ao, ap, aq, ar, au, av, aw, ax, ay) =>
some (al, am, an, ao, ap, aq, ar, au, av, aw, ax, ay, 36)
else
(Cz f g h k m n o p u v b a).bind fun (az, ba, bb, bc, bd, be, bf, bg, bh, bi, bj, bk) =>
some (az, ba, bb, bc, bd, be, bf, bg, bh, bi, bj, bk, 0)
theorem Aa8 : @Ld = @Ji := by
  unfold Ld Ji
  try simp only [Yy, Nc, Nb]
  all_goals
    repeat (refine funext fun _ => ?_)
    repeat' first
      | with_reducible rfl
      | with_reducible refine Fb ?_ ?_
      | with_reducible refine Ey ?_ ?_ ?_
      | with_reducible refine Ew ?_ ?_ ?_ ?_
      | ((with_reducible refine Gm ?_ ?_); focus (intro h; first | (subst h; rfl) | (simp only [h]; rfl) | (simp [Ck, Aa, h]; done)))
      | with_reducible refine Gi fun x => ?_
      | with_reducible refine Jo (fun _ => ?_) (fun _ => ?_)
      | (refine Ct (fun h => by simp only [h, Gj, Bu, Bt, ite_self]) (fun x h => ?_); (try simp only [h, Bu]))
      | (refine Di (fun h => ?_) (fun h => ?_) <;> simp only [h, if_true, if_false, Bool.false_eq_true])
noncomputable def H : Hd := ⟨[.agg [Ss, Sb, .agg [Si, Si, Si, Si, Si], Sl, Si, Sb, Sz, Si]], [.agg [Ss, Ob 5, .agg [Si, Si, Si, Si, Si], Ol 3, Si, Ob 5, Sz, Si], Si], (.seq .d (.seq .d (.seq (.blk (.seq .d (.cond (.seq (.mode false) .d) .d))) .d))), ⟨[(25, F25.c), (45, F45.c)], gl, false⟩, [], f43⟩
noncomputable def F := u12 Ji
theorem rn x : H.u P_ x = F x := Eq.trans (b := u12 Ld x) (by kernel_rfl) (by rw [Aa8]; rfl)
noncomputable def c : Con := ⟨H.p, H.r, F⟩
theorem ok : ConOk P_ gl 43 c := co H func43 (.cons F25.ok (.cons F45.ok .nil)) rn
end F43
namespace F46
noncomputable def H : Hd := ⟨[.agg [Ss, Sb, .agg [Si, Si, Si, Si, Si], Sl, Si, Sb, Sz, Si], Si], [.agg [Ss, Ob 5, .agg [Si, Si, Si, Si, Si], Ol 3, Si, Sb, Sz, Si], Si], .d, ⟨[], gl, false⟩, [], f46⟩
noncomputable def F := u13 Xo
theorem rn x : H.u P_ x = F x := by kernel_rfl
noncomputable def c : Con := ⟨H.p, H.r, F⟩
theorem ok : ConOk P_ gl 46 c := co H func46 .nil rn
end F46
namespace F22
def Ko (j78 : Int → Int → Int → Int → Int → LI → Bool → Int → LB → Int → LB → Option (LB × LB × Int × Int × Int × Int × Int × LI × Int × LB × Bool × Int × Int)) (a : LB) (b : Bool) (f w ag : Int) (g : LB) (m p o u v h : Int) (am : LX) (k : LI) (n : LB) : Option (LB × LB × Int × Int × Int × Int × Int × LI × Int × LB × Bool × Int × Int) :=
if (Bf ag 0) then
(Ae ag).bind fun (dd, de) =>
j78 m p o u v k dd de g h n
else
(Ml o am).bind fun (df, aj) =>
if (Bf aj 0) then
(Ae aj).bind fun (dg, dh) =>
j78 m p o u v k dg dh g h n
else
(Ck n df).bind fun di =>
(fun hb : Option (LB × LB × Int × Int × Int × Int × Int × LI × Int × LB × Bool × Int × Int) =>
bo (
hb)) (
(Cl g w (Aa g)).bind fun dj =>
j78 m p o u v k false 0 dj (Ac h 1) di)
theorem Abd : @Ko = @Lt := by
  unfold Ko Lt
  simp only [Yy, Nc, Nb]
def Kn (j62 : Int → LI → LB → Bool → Int → LB → Int → Int → Int → Int → Int → Option (LB × LB × Int × Int × Int × Int × Int × LI × Int × LB × Bool × Int × Int)) (j61 : LB → Int → Int → Int → Int → Int → Int → LI → LB → Option (LB × LB × Int × Int × Int × Int × Int × LI × Int × LB × Bool × Int × Int)) (j75 : Int → Int → Int → Int → Int → Int → LB → Bool → Int → LB → LI → Option (LB × LB × Int × Int × Int × Int × Int × LI × Int × LB × Bool × Int × Int)) (j73 : LB → Int → Int → Int → Int → Int → Int → LI → LB → Option (LB × LB × Int × Int × Int × Int × Int × LI × Int × LB × Bool × Int × Int)) (j74 : LB → Int → Int → Int → Int → Int → Int → LI → LB → Int → Option (LB × LB × Int × Int × Int × Int × Int × LI × Int × LB × Bool × Int × Int)) (j78 : Int → Int → Int → Int → Int → LI → Bool → Int → LB → Int → LB → Option (LB × LB × Int × Int × Int × Int × Int × LI × Int × LB × Bool × Int × Int)) (j76 : Int → LB → Int → Int → Int → Int → Int → Int → LX → LI → LI → LB → Option (LB × LB × Int × Int × Int × Int × Int × LI × Int × LB × Bool × Int × Int)) (j71 : LB → Int → Int → Int → Int → Int → Int → Bool → Int → LI → LB → Option (LB × LB × Int × Int × Int × Int × Int × LI × Int × LB × Bool × Int × Int)) (j70 : LB → Int → Int → Int → Int → Int → Int → LI → LB → Option (LB × LB × Int × Int × Int × Int × Int × LI × Int × LB × Bool × Int × Int)) (a : LB) (b : Bool) (f : Int) (g : LB) (m p o u v h : Int) (k : LI) (n : LB) : Option (LB × LB × Int × Int × Int × Int × Int × LI × Int × LB × Bool × Int × Int) :=
if (geq m 0) then
(Fj g).bind fun (ah, ao) =>
if (geq ao 24) then
j62 h k n true 0 g m p o u v
else
if (Bf ao 0) then
(Ae ao).bind fun (dk, dl) =>
j62 h k n dk dl g m p o u v
else
(Cl g ah (Aa g)).bind fun dm =>
(Kt dm).bind fun al =>
if al then
j62 h k n true 0 g m p o u v
else
(Cl g ah (Aa g)).bind fun dn =>
(Jy dn).bind fun (ab, ac, y, ad, aa, ap) =>
if (geq ap 24) then
j62 h k n true 0 g m p o u v
else
if (Bf ap 0) then
(Ae ap).bind fun (dp, dq) =>
j62 h k n dp dq g m p o u v
else
both (
(Cl g (Ac ah 22) (Aa g)).bind fun af =>
bo (
j61 af ab ac y ad aa h k n)) [
(Cl g (Ac ah 22) (Aa g)).bind fun af =>
j61 af ab ac y ad aa h k n]
else
if (geq (Aa k) 0) then
if (geq m 2) then
if (Bq (Aa g) 8) then
j75 m p o u v h n true 0 g k
else
j73 g m p o u v h k n
else
j74 g m p o u v h k n 0
else
if (Bq h (Aa k)) then
(Al k h).bind fun _ =>
(Al k h).bind fun w =>
if (Bq (Aa g) w) then
j78 m p o u v k true 0 g h n
else
(Md a).bind fun (an, ak) =>
if (Bf ak 0) then
(Ae ak).bind fun (dr, ds) =>
j78 m p o u v k dr ds g h n
else
(Ek m p o u v).bind fun (ae, dt) =>
if ((Bf dt 0) || (Gd h (Aa ae))) then
(Ae 8).bind fun (du, bc) =>
j78 m p o u v k du bc g h n
else
j76 w g m p o u v h an ae k n
else
if (Eh (Aa g) 4000) then
(Ae 38).bind fun (dv, ai) =>
j71 g m p o u v h dv ai k n
else
j70 g m p o u v h k n
theorem Acn : @Kn = @Lr := by
  unfold Kn Lr
  repeat (refine funext fun _ => ?_)
  repeat' first
    | with_reducible rfl
    | with_reducible refine Fb ?_ ?_
    | with_reducible refine Ey ?_ ?_ ?_
    | with_reducible refine Ew ?_ ?_ ?_ ?_
    | ((with_reducible refine Gm ?_ ?_); focus (intro h; first | (subst h; rfl) | (simp only [h]; rfl) | (simp [Ck, Aa, h]; done)))
    | with_reducible refine Gi fun x => ?_
    | with_reducible refine Jo (fun _ => ?_) (fun _ => ?_)
    | (refine Ct (fun h => by simp only [h, Gj, Bu, Bt, ite_self]) (fun x h => ?_); (try simp only [h, Bu]))
    | (refine Di (fun h => ?_) (fun h => ?_) <;> simp only [h, if_true, if_false, Bool.false_eq_true])
abbrev R_ := (LB × LB × Int × Int × Int × Int × Int × LI × Int × LB × Bool × Int × Int)
abbrev K_ := S → Option R_
noncomputable def H : Hd := ⟨[.agg [Ss, Sb, .agg [Si, Si, Si, Si, Si], Sl, Si, Sb, Sz, Si], Sb], [.agg [Ss, Ob 5, .agg [Si, Si, Si, Si, Si], Ol 3, Si, Sb, Sz, Si], Si], (.seq .d (.seq .d (.seq .d (.seq .d (.blk (.loop [2, 4] [⟨2, [1], .ro (.int .u8)⟩] (.blk (.cut [2, 4, 7] [] (.keep [2, 4, 7, 22] true) .d)))))))), ⟨[(43, F43.c), (45, F45.c), (46, F46.c), (66, F66.c), (68, F68.c), (69, F69.c), (78, Iw), (79, F79.c), (113, F113.c), (114, F114.c), (115, F115.c), (116, F116.c), (117, F117.c), (118, F118.c), (119, F119.c)], gl, false⟩, [(44, (.seq .d (.cut [2] [] (.blk (.seq .d (.cond (.cut [2] [] (.keep [2, 11] true) .d) (.seq .d (.cond (.cut [2] [] (.keep [2, 20] true) .d) (.seq .d (.cond (.cut [2] [] (.keep [2, 33] true) .d) .d))))))) .d))), (63, (.seq .d (.seq .d (.seq .d (.seq .d (.seq .d (.cut [0, 2, 5] [] (.mode false) .d))))))), (64, (.seq .d (.seq .d (.cut [0, 2, 3] [] (.seq .d (.cond (.seq .d (.cut [0, 2, 3] [⟨0, [1], .ro (.int .u8)⟩, ⟨9, [1], .ro (.int .u8)⟩, ⟨10, [1], .ro (.int .u8)⟩, ⟨15, [1], .ro (.int .u8)⟩, ⟨16, [1], .ro (.int .u8)⟩, ⟨18, [], .ro (.int .u8)⟩] .d (.cut [0, 2, 3, 4, 5] [] .d .d))) .d)) .d)))), (65, (.seq .d (.seq .d (.seq .d (.seq .d (.seq .d (.seq .d (.cut [0, 2, 3, 4, 6] [⟨0, [1], .ro (.int .u8)⟩, ⟨9, [1], .ro (.int .u8)⟩, ⟨10, [1], .ro (.int .u8)⟩, ⟨13, [1], .ro (.int .u8)⟩, ⟨14, [1], .ro (.int .u8)⟩, ⟨19, [1], .ro (.int .u8)⟩, ⟨20, [1], .ro (.int .u8)⟩, ⟨22, [], .ro (.int .u8)⟩, ⟨28, [1], .ro (.int .u8)⟩, ⟨29, [1], .ro (.int .u8)⟩, ⟨40, [1], .ro (.int .u8)⟩, ⟨41, [1], .ro (.int .u8)⟩] .d (.cut [0, 2, 3, 5, 7] [] .d (.seq .d (.seq .d (.seq .d (.seq .d (.seq (.mode false) .d))))))))))))))], f22⟩
def t37 (a : LB) (b : Bool) (f : Int) (g : LB) (m p o u v h : Int) (k : LI) (n : LB) : S := ⟨[(2, .ptr 0 []), (4, .ptr 1 [])], [.box 48 (.agg [vs a, vb g, .agg [vi m, vi p, vi o, vi u, vi v], .own 2, vi h, .own 3, vt b, vi f]), .box 48 (.agg [vs ([] : LB), .nils, .agg [vi 0, vi 0, vi 0, vi 0, vi 0], .nils, vi 0, .nils, vt false, vi 0]), Ai 3 k, Ab 5 n], []⟩
def z37 : Nat → S → Option R_ := H.i P_ [r,r,r,r,d]
def x71 (kn37 : K_) (a : LB) (b : Bool) (f : Int) (ar : LB) (au av aw ax ay az : Int) (bh : Bool) (be : Int) (ba : LI) (bb : LB) : Option R_ := H.e P_ [r,r,r,r,d,(lp kn37),d,r] ⟨[(2, .ptr 0 []), (4, .ptr 1 []), (7, .ptr 2 [])], [.box 48 (.agg [vs a, vb ar, .agg [vi au, vi av, vi aw, vi ax, vi ay], .own 3, vi az, .own 4, vt b, vi f]), .box 48 (.agg [vs ([] : LB), .nils, .agg [vi 0, vi 0, vi 0, vi 0, vi 0], .nils, vi 0, .nils, vt false, vi 0]), .box 82 (.agg [vt bh, vi be]), Ai 3 ba, Ab 5 bb], []⟩
def x70 (kn37 : K_) (a : LB) (b : Bool) (f : Int) (g : LB) (m p o u v h : Int) (k : LI) (n : LB) : Option R_ := H.e P_ [r,r,r,r,d,(lp kn37),d,l,(call 0 44),r,r] ⟨[(2, .ptr 0 [])], [.box 82 (.agg [vt false, vi 0]), .box 48 (.agg [vs a, vb g, .agg [vi m, vi p, vi o, vi u, vi v], .own 3, vi h, .own 4, vt b, vi f]), .box 48 (.agg [vs ([] : LB), .nils, .agg [vi 0, vi 0, vi 0, vi 0, vi 0], .nils, vi 0, .nils, vt false, vi 0]), Ai 3 k, Ab 5 n], [[(2, .ptr 1 []), (4, .ptr 2 [])]]⟩
def x62 (kn37 : K_) (a : LB) (b : Bool) (f h : Int) (k : LI) (n : LB) (bj : Bool) (bk : Int) (bl : LB) (bm bn bp bq br : Int) : Option R_ := H.e P_ [r,r,r,r,d,(lp kn37),d,l,(call 0 44),r,l,d,r,l,r] ⟨[(2, .ptr 0 [])], [.box 82 (.agg [vt bj, vi bk]), .box 48 (.agg [vs a, vb bl, .agg [vi bm, vi bn, vi bp, vi bq, vi br], .own 3, vi h, .own 4, vt b, vi f]), .box 48 (.agg [vs ([] : LB), .nils, .agg [vi 0, vi 0, vi 0, vi 0, vi 0], .nils, vi 0, .nils, vt false, vi 0]), Ai 3 k, Ab 5 n], [[(2, .ptr 1 []), (4, .ptr 2 [])]]⟩
def x61 (kn37 : K_) (a : LB) (b : Bool) (f : Int) (af : LB) (ab ac y ad aa h : Int) (k : LI) (n : LB) : Option R_ := H.e P_ [r,r,r,r,d,(lp kn37),d,l,(call 0 44),r,l,d,r,l,l,(call 1 63),r,r,r,r,r,r] ⟨[(0, .ptr 0 []), (2, .ptr 1 []), (5, .ptr 2 [])], [.box 48 (.agg [vs a, vb af, .agg [vi ab, vi ac, vi y, vi ad, vi aa], .own 5, vi h, .own 6, vt b, vi f]), .box 82 (.agg [vt false, vi 0]), .box 46 (.agg [vi ab, vi ac, vi y, vi ad, vi aa]), .box 82 (.agg [vt false, vi 0]), .box 48 (.agg [vs ([] : LB), .nils, .agg [vi 0, vi 0, vi 0, vi 0, vi 0], .nils, vi 0, .nils, vt false, vi 0]), Ai 3 k, Ab 5 n], [[(2, .ptr 3 [])], [(2, .ptr 0 []), (4, .ptr 4 [])]]⟩
def x75 (kn37 : K_) (a : LB) (b : Bool) (f m p o u v h : Int) (n : LB) (bs : Bool) (bt : Int) (bu : LB) (bv : LI) : Option R_ := H.e P_ [r,r,r,r,d,(lp kn37),d,l,(call 0 44),r,l,d,r,r,r,l,r] ⟨[(2, .ptr 0 [])], [.box 82 (.agg [vt bs, vi bt]), .box 48 (.agg [vs a, vb bu, .agg [vi m, vi p, vi o, vi u, vi v], .own 3, vi h, .own 4, vt b, vi f]), .box 48 (.agg [vs ([] : LB), .nils, .agg [vi 0, vi 0, vi 0, vi 0, vi 0], .nils, vi 0, .nils, vt false, vi 0]), Ai 3 bv, Ab 5 n], [[(2, .ptr 1 []), (4, .ptr 2 [])]]⟩
def x74 (kn37 : K_) (a : LB) (b : Bool) (f : Int) (g : LB) (m p o u v h : Int) (k : LI) (n : LB) (bf : Int) : Option R_ := H.e P_ [r,r,r,r,d,(lp kn37),d,l,(call 0 44),r,l,d,r,r,r,l,l,(call 1 64),r,r,r] ⟨[(0, .ptr 0 []), (2, .ptr 1 []), (3, vi bf)], [.box 48 (.agg [vs a, vb g, .agg [vi m, vi p, vi o, vi u, vi v], .own 4, vi h, .own 5, vt b, vi f]), .box 82 (.agg [vt false, vi 0]), .box 82 (.agg [vt false, vi 0]), .box 48 (.agg [vs ([] : LB), .nils, .agg [vi 0, vi 0, vi 0, vi 0, vi 0], .nils, vi 0, .nils, vt false, vi 0]), Ai 3 k, Ab 5 n], [[(2, .ptr 2 [])], [(2, .ptr 0 []), (4, .ptr 3 [])]]⟩
def x64 (kn37 : K_) (a : LB) (b : Bool) (f : Int) (bd : Bool) (aq : Int) (g : LB) (m p o u v h : Int) (k : LI) (n : LB) : Option R_ := H.e P_ [r,r,r,r,d,(lp kn37),d,l,(call 0 44),r,l,d,r,r,r,l,l,(call 1 64),r,r,l,r,l,r,r,r] ⟨[(0, .ptr 0 []), (2, .ptr 1 []), (3, vi 8), (4, vt bd), (5, vi aq)], [.box 48 (.agg [vs a, vb g, .agg [vi m, vi p, vi o, vi u, vi v], .own 4, vi h, .own 5, vt b, vi f]), .box 82 (.agg [vt false, vi 0]), .box 82 (.agg [vt false, vi 0]), .box 48 (.agg [vs ([] : LB), .nils, .agg [vi 0, vi 0, vi 0, vi 0, vi 0], .nils, vi 0, .nils, vt false, vi 0]), Ai 3 k, Ab 5 n], [[(2, .ptr 2 [])], [(2, .ptr 0 []), (4, .ptr 3 [])]]⟩
def x73 (kn37 : K_) (a : LB) (b : Bool) (f : Int) (g : LB) (m p o u v h : Int) (k : LI) (n : LB) : Option R_ := H.e P_ [r,r,r,r,d,(lp kn37),d,l,(call 0 44),r,l,d,r,r,r,l,l,(call 1 64),r,r,l,r,l,r,r] ⟨[(0, .ptr 0 []), (2, .ptr 1 []), (3, vi 8)], [.box 48 (.agg [vs a, vb g, .agg [vi m, vi p, vi o, vi u, vi v], .own 4, vi h, .own 5, vt b, vi f]), .box 82 (.agg [vt false, vi 0]), .box 82 (.agg [vt false, vi 0]), .box 48 (.agg [vs ([] : LB), .nils, .agg [vi 0, vi 0, vi 0, vi 0, vi 0], .nils, vi 0, .nils, vt false, vi 0]), Ai 3 k, Ab 5 n], [[(2, .ptr 2 [])], [(2, .ptr 0 []), (4, .ptr 3 [])]]⟩
def x78 (kn37 : K_) (a : LB) (b : Bool) (f m p o u v : Int) (k : LI) (bx : Bool) (bz : Int) (da : LB) (db : Int) (dc : LB) : Option R_ := H.e P_ [r,r,r,r,d,(lp kn37),d,l,(call 0 44),r,l,d,r,r,r,r,r,l,r] ⟨[(2, .ptr 0 [])], [.box 82 (.agg [vt bx, vi bz]), .box 48 (.agg [vs a, vb da, .agg [vi m, vi p, vi o, vi u, vi v], .own 3, vi db, .own 4, vt b, vi f]), .box 48 (.agg [vs ([] : LB), .nils, .agg [vi 0, vi 0, vi 0, vi 0, vi 0], .nils, vi 0, .nils, vt false, vi 0]), Ai 3 k, Ab 5 dc], [[(2, .ptr 1 []), (4, .ptr 2 [])]]⟩
def x77 (kn37 : K_) (a : LB) (b : Bool) (f w ag : Int) (g : LB) (m p o u v h : Int) (am : LX) (k : LI) (n : LB) : Option R_ := H.e P_ [r,r,r,r,d,(lp kn37),d,l,(call 0 44),r,l,d,r,r,r,r,r,l,l,(call 1 65),r,r,r,r,r,r,r,r] ⟨[(0, .ptr 0 []), (2, .ptr 1 []), (3, vi w), (5, vi ag), (7, .own 2)], [.box 48 (.agg [vs a, vb g, .agg [vi m, vi p, vi o, vi u, vi v], .own 5, vi h, .own 6, vt b, vi f]), .box 82 (.agg [vt false, vi 0]), Aw 21 am, .box 82 (.agg [vt false, vi 0]), .box 48 (.agg [vs ([] : LB), .nils, .agg [vi 0, vi 0, vi 0, vi 0, vi 0], .nils, vi 0, .nils, vt false, vi 0]), Ai 3 k, Ab 5 n], [[(2, .ptr 3 [])], [(2, .ptr 0 []), (4, .ptr 4 [])]]⟩
def x76 (kn37 : K_) (a : LB) (b : Bool) (f w : Int) (g : LB) (m p o u v h : Int) (an : LX) (ae k : LI) (n : LB) : Option R_ := H.e P_ [r,r,r,r,d,(lp kn37),d,l,(call 0 44),r,l,d,r,r,r,r,r,l,l,(call 1 65),r,r,r,r,r,r,r] ⟨[(0, .ptr 0 []), (2, .ptr 1 []), (3, vi w), (4, .ptr 2 []), (6, .own 3)], [.box 48 (.agg [vs a, vb g, .agg [vi m, vi p, vi o, vi u, vi v], .own 6, vi h, .own 7, vt b, vi f]), .box 82 (.agg [vt false, vi 0]), .box 164 (.val (.vec 16 (.int .i32)) an), Ai 3 ae, .box 82 (.agg [vt false, vi 0]), .box 48 (.agg [vs ([] : LB), .nils, .agg [vi 0, vi 0, vi 0, vi 0, vi 0], .nils, vi 0, .nils, vt false, vi 0]), Ai 3 k, Ab 5 n], [[(2, .ptr 4 [])], [(2, .ptr 0 []), (4, .ptr 5 [])]]⟩
def x37 (a : LB) (b : Bool) (f : Int) (g : LB) (m p o u v h : Int) (k : LI) (n : LB) : Option R_ := H.e P_ [r,r,r,r,d] (t37 a b f g m p o u v h k n)
theorem e71 (kn37 : K_) (a : LB) (b : Bool) (f : Int) : x71 kn37 a b f = Et (fun g m p o u v h k n => kn37 (t37 a b f g m p o u v h k n)) a b f := by kernel_rfl
theorem e70 (kn37 : K_) (a : LB) (b : Bool) (f : Int) : x70 kn37 a b f = Wg (fun g m p o u v h k n => kn37 (t37 a b f g m p o u v h k n)) a b f := Eq.trans (b := Vt (x71 kn37 a b f) a b f) (by kernel_rfl) (by simp only [e71] <;> rfl)
theorem e62 (kn37 : K_) (a : LB) (b : Bool) (f : Int) : x62 kn37 a b f = Lp (fun g m p o u v h k n => kn37 (t37 a b f g m p o u v h k n)) a b f := Eq.trans (b := Vi (x71 kn37 a b f) a b f) (by kernel_rfl) (by simp only [e71] <;> rfl)
theorem e61 (kn37 : K_) (a : LB) (b : Bool) (f : Int) : x61 kn37 a b f = Ws (fun g m p o u v h k n => kn37 (t37 a b f g m p o u v h k n)) a b f := Eq.trans (b := Wa (x62 kn37 a b f) a b f) (by kernel_rfl) (by simp only [e62] <;> rfl)
theorem e75 (kn37 : K_) (a : LB) (b : Bool) (f : Int) : x75 kn37 a b f = Hs (fun g m p o u v h k n => kn37 (t37 a b f g m p o u v h k n)) a b f := Eq.trans (b := Ut (x71 kn37 a b f) a b f) (by kernel_rfl) (by simp only [e71] <;> rfl)
theorem e74 (kn37 : K_) (a : LB) (b : Bool) (f : Int) : x74 kn37 a b f = Mf (fun g m p o u v h k n => kn37 (t37 a b f g m p o u v h k n)) a b f := Eq.trans (b := Wm (x75 kn37 a b f) a b f) (by kernel_rfl) (by simp only [e75] <;> rfl)
theorem e64 (kn37 : K_) (a : LB) (b : Bool) (f : Int) : x64 kn37 a b f = Wf (fun g m p o u v h k n => kn37 (t37 a b f g m p o u v h k n)) a b f := Eq.trans (b := Vp (x75 kn37 a b f) (x74 kn37 a b f) a b f) (by kernel_rfl) (by simp only [e75, e74] <;> rfl)
theorem e73 (kn37 : K_) (a : LB) (b : Bool) (f : Int) : x73 kn37 a b f = Vf (fun g m p o u v h k n => kn37 (t37 a b f g m p o u v h k n)) a b f := Eq.trans (b := Ur (x64 kn37 a b f) a b f) (by kernel_rfl) (by simp only [e64] <;> rfl)
theorem e78 (kn37 : K_) (a : LB) (b : Bool) (f : Int) : x78 kn37 a b f = Mb (fun g m p o u v h k n => kn37 (t37 a b f g m p o u v h k n)) a b f := Eq.trans (b := Up (x71 kn37 a b f) a b f) (by kernel_rfl) (by simp only [e71] <;> rfl)
theorem e77 (kn37 : K_) (a : LB) (b : Bool) (f : Int) : x77 kn37 a b f = Uk (fun g m p o u v h k n => kn37 (t37 a b f g m p o u v h k n)) a b f := Eq.trans (b := Ko (x78 kn37 a b f) a b f) (by kernel_rfl) (by rw [Abd]; simp only [e78] <;> rfl)
theorem e76 (kn37 : K_) (a : LB) (b : Bool) (f : Int) : x76 kn37 a b f = Vw (fun g m p o u v h k n => kn37 (t37 a b f g m p o u v h k n)) a b f := Eq.trans (b := Vh (x77 kn37 a b f) a b f) (by kernel_rfl) (by simp only [e77] <;> rfl)
theorem i37 (a : LB) (b : Bool) (f : Int) : ∀ (q : Nat) (g : LB) (m p o u v h : Int) (k : LI) (n : LB), z37 q (t37 a b f g m p o u v h k n) = Bo a b f q g m p o u v h k n :=
 ind (fun _ _ _ _ _ _ _ _ _ => by kernel_rfl) fun q ih g m p o u v h k n => Eq.trans (b := Kn (x62 (z37 q) a b f) (x61 (z37 q) a b f) (x75 (z37 q) a b f) (x73 (z37 q) a b f) (x74 (z37 q) a b f) (x78 (z37 q) a b f) (x76 (z37 q) a b f) (x71 (z37 q) a b f) (x70 (z37 q) a b f) a b f g m p o u v h k n) (by kernel_rfl) (by rw [Acn]; simp only [e62, e61, e75, e73, e74, e78, e76, e71, e70, ih] <;> rfl)
theorem e37 : x37 = Vy := by funext a b f g m p o u v h k n; exact Eq.trans (by kernel_rfl) ((i37 a b f Bh g m p o u v h k n).trans (by rw [Ah]; rfl))
noncomputable def F := u13 Ag0
theorem rn x : H.u P_ x = F x := Eq.trans (b := u13 (Zt x37) x) (by kernel_rfl) (by simp only [e37] <;> rfl)
noncomputable def c : Con := ⟨H.p, H.r, F⟩
theorem ok : ConOk P_ gl 22 c := cr H func22 (.cons F43.ok (.cons F45.ok (.cons F46.ok (.cons F66.ok (.cons F68.ok (.cons F69.ok (.cons Pn (.cons F79.ok (.cons F113.ok (.cons F114.ok (.cons F115.ok (.cons F116.ok (.cons F117.ok (.cons F118.ok (.cons F119.ok .nil))))))))))))))) (AnsOk.cons ent44 (AnsOk.cons ent63 (AnsOk.cons ent64 (AnsOk.cons ent65 AnsOk.nil)))) rn
end F22
namespace F138
abbrev R_ := (Int × Int)
noncomputable def H : Hd := ⟨[Sb], [Si, Si], (.seq .d (.seq .d (.cut [0, 4] [] .d .d))), ⟨[(37, F37.c), (183, F183.c), (184, F184.c), (185, F185.c)], gl, false⟩, [], f138⟩
def x2 (a : LB) : Option R_ := H.e P_ [r,r,r] ⟨[(0, vb a), (4, vi (Af (Aa a) (32 : Int)))], [], []⟩
theorem e2 : x2 = Ajc := by kernel_rfl
noncomputable def F := Aq8
theorem rn x : H.u P_ x = F x := Eq.trans (b := Aju x2 x) (by kernel_rfl) (by simp only [e2] <;> rfl)
noncomputable def c : Con := ⟨H.p, H.r, F⟩
theorem ok : ConOk P_ gl 138 c := co H func138 (.cons F37.ok (.cons F183.ok (.cons F184.ok (.cons F185.ok .nil)))) rn
end F138
namespace F80
abbrev R_ := (Int × Int)
abbrev K_ := S → Option R_
noncomputable def H : Hd := ⟨[Sb], [Si, Si], (.seq .d (.seq .d (.seq .d (.seq .d (.cut [5] [] (.blk (.loop [1, 4, 5] [] (.seq .d (.cut [1, 4, 5] [] (.blk (.cut [1, 4, 5, 6] [] (.keep [1, 4, 5, 6, 16, 17] true) .d)) .d)))) .d))))), ⟨[(138, F138.c)], gl, false⟩, [(137, .d)], f80⟩
def t8 (a : Int) (b : LB) : S := ⟨[(1, .ptr 0 []), (4, .fn 137 [.ptr 0 []]), (5, vi a)], [.box 22 (vb b)], []⟩
def z8 : Nat → S → Option R_ := H.i P_ [r,r,r,r,l,d]
def x14 (a : Int) : Option R_ := H.e P_ [r,r,r,r,r] ⟨[(5, vi a)], [], []⟩
def x12 (kn8 : K_) (a : Int) (g : LB) : Option R_ := H.e P_ [r,r,r,r,l,d,(lp kn8),r,r] ⟨[(1, .ptr 0 []), (4, .fn 137 [.ptr 0 []]), (5, vi a)], [.box 22 (vb g)], []⟩
def x11 (kn8 : K_) (a f : Int) (b : LB) : Option R_ := H.e P_ [r,r,r,r,l,d,(lp kn8),r,l,d,r] ⟨[(1, .ptr 0 []), (4, .fn 137 [.ptr 0 []]), (5, vi a), (6, vi f)], [.box 22 (vb b)], []⟩
def x8 (a : Int) (b : LB) : Option R_ := H.e P_ [r,r,r,r,l,d] (t8 a b)
theorem e14 : x14 = Um := by kernel_rfl
theorem e12 (kn8 : K_) : x12 kn8 = Wo (fun a b => kn8 (t8 a b)) := by kernel_rfl
theorem e11 (kn8 : K_) : x11 kn8 = Vz (fun a b => kn8 (t8 a b)) := Eq.trans (b := Wp (x12 kn8)) (by kernel_rfl) (by simp only [e12] <;> rfl)
theorem i8 : ∀ (q : Nat) (a : Int) (b : LB), z8 q (t8 a b) = Nn q a b :=
 ind (fun _ _ => by kernel_rfl) fun q ih a b => Eq.trans (b := Ze (x11 (z8 q)) x14 a b) (by kernel_rfl) (by simp only [e11, e14, ih] <;> rfl)
theorem e8 : x8 = Zx := by funext a b; exact Eq.trans (by kernel_rfl) ((i8 Bh a b).trans (by rw [Ah]; rfl))
noncomputable def F := Ahw
theorem rn x : H.u P_ x = F x := Eq.trans (b := Yj x8 x) (by kernel_rfl) (by simp only [e8] <;> rfl)
noncomputable def c : Con := ⟨H.p, H.r, F⟩
theorem ok : ConOk P_ gl 80 c := cr H func80 (.cons F138.ok .nil) (AnsOk.cons ent137 AnsOk.nil) rn
end F80
namespace F52
noncomputable def H : Hd := ⟨[.agg [Ss, Sb, .agg [Si, Si, Si, Si, Si], Sl, Si, Sb, Sz, Si]], [Si], .d, ⟨[(78, Iw), (79, F79.c), (80, F80.c)], gl, false⟩, [], f52⟩
noncomputable def F := u12 Aba
theorem rn x : H.u P_ x = F x := by kernel_rfl
noncomputable def c : Con := ⟨H.p, H.r, F⟩
theorem ok : ConOk P_ gl 52 c := co H func52 (.cons Pn (.cons F79.ok (.cons F80.ok .nil))) rn
end F52
namespace F27
noncomputable def H : Hd := ⟨[.agg [Ss, Sb, .agg [Si, Si, Si, Si, Si], Sl, Si, Sb, Sz, Si]], [.agg [Ss, Ob 5, .agg [Si, Si, Si, Si, Si], Ol 3, Si, Sb, Sz, Si], Si], .d, ⟨[(43, F43.c), (46, F46.c), (52, F52.c)], gl, false⟩, [], f27⟩
noncomputable def F := u12 Abb
theorem rn x : H.u P_ x = F x := by kernel_rfl
noncomputable def c : Con := ⟨H.p, H.r, F⟩
theorem ok : ConOk P_ gl 27 c := co H func27 (.cons F43.ok (.cons F46.ok (.cons F52.ok .nil))) rn
end F27
namespace F34
abbrev R_ := (LB × Int)
abbrev K_ := S → Option R_
noncomputable def H : Hd := ⟨[Ss, Sb, Sl], [Sb, Si], (.seq .d (.seq .d (.seq .d (.cut [8] [] (.seq .d (.blk (.loop [1, 8, 20, 21, 22] [⟨8, [5], .ro (.int .u8)⟩] (.seq .d (.seq .d (.seq (.blk (.seq .d (.seq (.cut [1, 8, 9, 11, 20, 21, 22] [] (.mode false) .d) .d))) .d)))))) .d)))), ⟨[(21, F21.c), (22, F22.c), (27, F27.c)], gl, false⟩, [], f34⟩
def t7 (a : LI) (b : LB) (f : Int) (g : LB) (h k m n o p : Int) (u : LB) (v : Bool) (w : Int) (y : LB) (aa : LI) : S := ⟨[(1, vb b), (8, .ptr 0 []), (20, vl a), (21, vi (Aa a)), (22, vi f)], [.box 48 (.agg [vs g, .own 1, .agg [vi h, vi k, vi m, vi n, vi o], .own 2, vi p, vb u, vt v, vi w]), Ab 5 y, Ai 3 aa], []⟩
def z7 : Nat → S → Option R_ := H.i P_ [r,r,r,l,r,d]
def x12 (g : LB) (h k m n o p : Int) (u : LB) (v : Bool) (w : Int) (y : LB) (aa : LI) : Option R_ := H.e P_ [r,r,r,r] ⟨[(8, .ptr 0 [])], [.box 48 (.agg [vs g, .own 1, .agg [vi h, vi k, vi m, vi n, vi o], .own 2, vi p, vb u, vt v, vi w]), Ab 5 y, Ai 3 aa], []⟩
def x10 (kn7 : K_) (a : LI) (b : LB) (ag ah f : Int) (aj : LB) (ac ad ae ak af al : Int) (ai : LB) (am : Bool) (an : Int) (ao : LB) (ab : LI) : Option R_ := H.e P_ [r,r,r,l,r,d,(lp kn7),r,r,l,d,r,l,r] ⟨[(1, vb b), (8, .ptr 0 []), (9, vi ag), (11, vi ah), (20, vl a), (21, vi (Aa a)), (22, vi f)], [.box 48 (.agg [vs aj, .own 1, .agg [vi ac, vi ad, vi ae, vi ak, vi af], .own 2, vi al, vb ai, vt am, vi an]), Ab 5 ao, Ai 3 ab], []⟩
def x7 (a : LI) (b : LB) (f : Int) (g : LB) (h k m n o p : Int) (u : LB) (v : Bool) (w : Int) (y : LB) (aa : LI) : Option R_ := H.e P_ [r,r,r,l,r,d] (t7 a b f g h k m n o p u v w y aa)
theorem e12 : x12 = Rm := by kernel_rfl
theorem e10 (kn7 : K_) (a : LI) : x10 kn7 a = Te (fun b f g h k m n o p u v w y aa => kn7 (t7 a b f g h k m n o p u v w y aa)) a := by kernel_rfl
theorem i7 (a : LI) : ∀ (q : Nat) (b : LB) (f : Int) (g : LB) (h k m n o p : Int) (u : LB) (v : Bool) (w : Int) (y : LB) (aa : LI), z7 q (t7 a b f g h k m n o p u v w y aa) = Ll a q b f g h k m n o p u v w y aa :=
 ind (fun _ _ _ _ _ _ _ _ _ _ _ _ _ _ => by kernel_rfl) fun q ih b f g h k m n o p u v w y aa => Eq.trans (b := Vd (x10 (z7 q) a) x12 a b f g h k m n o p u v w y aa) (by kernel_rfl) (by simp only [e10, e12, ih] <;> rfl)
theorem e7 : x7 = Wk := by funext a b f g h k m n o p u v w y aa; exact Eq.trans (by kernel_rfl) ((i7 a Bh b f g h k m n o p u v w y aa).trans (by rw [Ah]; rfl))
noncomputable def F := u3 Aea
theorem rn x : H.u P_ x = F x := Eq.trans (b := u3 (Uu x7) x) (by kernel_rfl) (by simp only [e7] <;> rfl)
noncomputable def c : Con := ⟨H.p, H.r, F⟩
theorem ok : ConOk P_ gl 34 c := co H func34 (.cons F21.ok (.cons F22.ok (.cons F27.ok .nil))) rn
end F34
namespace F15
noncomputable def H : Hd := ⟨[Ss, Sb, Sq], [Sb, Si], .d, ⟨[(13, F13.c), (34, F34.c)], gl, false⟩, [], f15⟩
noncomputable def F := u3 Aee
theorem rn x : H.u P_ x = F x := by kernel_rfl
noncomputable def c : Con := ⟨H.p, H.r, F⟩
theorem ok : ConOk P_ gl 15 c := co H func15 (.cons F13.ok (.cons F34.ok .nil)) rn
end F15
namespace F60
abbrev R_ := Bool
noncomputable def H : Hd := ⟨[Sl, Sl], [Sz], (.seq .d (.seq .d (.cut [] [] (.seq .d (.blk (.loop [0, 1, 5] [] .d))) .d))), ⟨[], gl, false⟩, [], f60⟩
def t4 (a b : LI) (f : Int) : S := ⟨[(0, vl a), (1, vl b), (5, vi f)], [], []⟩
def z4 : Nat → S → Option R_ := H.i P_ [r,r,l,r,d]
def x6 : Option R_ := H.e P_ [r,r,r] ⟨[], [], []⟩
def x4 (a b : LI) (f : Int) : Option R_ := H.e P_ [r,r,l,r,d] (t4 a b f)
theorem e6 : x6 = Je := by kernel_rfl
theorem i4 (a b : LI) : ∀ (q : Nat) (f : Int), z4 q (t4 a b f) = Fu a b q f :=
 ind (fun _ => by kernel_rfl) fun q ih f => Eq.trans (b := Jd x6 (fun f => (z4 q) (t4 a b f)) a b f) (by kernel_rfl) (by simp only [e6, ih] <;> rfl)
theorem e4 : x4 = Is := by funext a b f; exact Eq.trans (by kernel_rfl) ((i4 a b Bh f).trans (by rw [Ah]; rfl))
noncomputable def F := u2 Lf
theorem rn x : H.u P_ x = F x := Eq.trans (b := u2 (Iu x4) x) (by kernel_rfl) (by simp only [e4] <;> rfl)
noncomputable def c : Con := ⟨H.p, H.r, F⟩
theorem ok : ConOk P_ gl 60 c := co H func60 .nil rn
end F60
namespace F33
noncomputable def H : Hd := ⟨[Si, Sq, Sl], [Sz], .d, ⟨[(13, F13.c), (60, F60.c)], gl, false⟩, [], f33⟩
noncomputable def F := u3 Ih
theorem rn x : H.u P_ x = F x := by kernel_rfl
noncomputable def c : Con := ⟨H.p, H.r, F⟩
theorem ok : ConOk P_ gl 33 c := co H func33 (.cons F13.ok (.cons F60.ok .nil)) rn
end F33
namespace F12
noncomputable def H : Hd := ⟨[], [Sz], .d, ⟨[(15, F15.c), (32, F32.c), (33, F33.c)], gl, false⟩, [], f12⟩
noncomputable def F (x : Unit) := Gk
theorem rn x : H.u P_ x = F x := by kernel_rfl
noncomputable def c : Con := ⟨H.p, H.r, F⟩
theorem ok : ConOk P_ gl 12 c := co H func12 (.cons F15.ok (.cons F32.ok (.cons F33.ok .nil))) rn
end F12
namespace F4
abbrev R_ := Bool
abbrev K_ := S → Option R_
noncomputable def H : Hd := ⟨[Si, Sq], [Sz], (.seq .d (.seq .d (.seq .d (.seq .d (.seq .d (.seq .d (.seq .d (.seq .d (.cut [0, 5, 12] [] (.seq .d (.blk (.loop [0, 1, 5, 6, 12, 13] [] (.seq .d (.cut [0, 1, 5, 6, 12, 13] [] (.blk (.seq .d (.seq .d (.seq .d (.seq .d (.blk (.loop [0, 1, 5, 6, 12, 13, 14] [] .d))))))) .d))))) .d))))))))), ⟨[(12, F12.c), (13, F13.c)], gl, false⟩, [], f4⟩
def t20 (a : Int) (g : UInt64) (f : Bool) (b : LI) (h m k n : Int) : S := ⟨[(0, vi a), (1, vq g), (5, vt f), (6, .own 0), (12, vi (Ac h m)), (13, vi k), (14, vi n)], [Ai 3 b], []⟩
def z20 (kn14 : K_) : Nat → S → Option R_ := H.i P_ [r,r,r,r,r,r,r,r,l,r,d,(lp kn14),r,l,d,r,r,r,r,d]
def t22 (a : Int) (g : UInt64) (f : Bool) (b : LI) (h m k o : Int) : S := ⟨[(0, vi a), (1, vq g), (5, vt f), (6, .own 0), (12, vi (Ac h m)), (13, vi k), (14, vi o)], [Ai 3 b], []⟩
def z22 (kn14 : K_) : Nat → S → Option R_ := H.i P_ [r,r,r,r,r,r,r,r,l,r,d,(lp kn14),r,l,d,r,r,r,r,d]
def t14 (a : Int) (g : UInt64) (f : Bool) (b : LI) (h k : Int) : S := ⟨[(0, vi a), (1, vq g), (5, vt f), (6, .own 0), (12, vi h), (13, vi k)], [Ai 3 b], []⟩
def z14 : Nat → S → Option R_ := H.i P_ [r,r,r,r,r,r,r,r,l,r,d]
def x26 (a : Int) (f : Bool) (h : Int) : Option R_ := H.e P_ [r,r,r,r,r,r,r,r,r] ⟨[(0, vi a), (5, vt f), (12, vi h)], [], []⟩
def x24 (kn14 : K_) (a : Int) (g : UInt64) (f : Bool) (b : LI) (h m k : Int) : Option R_ := H.e P_ [r,r,r,r,r,r,r,r,l,r,d,(lp kn14),r,r] ⟨[(0, vi a), (1, vq g), (5, vt f), (6, .own 0), (12, vi (Ac h m)), (13, vi k)], [Ai 3 b], []⟩
def x20 (kn14 : K_) (a : Int) (g : UInt64) (f : Bool) (b : LI) (h m k n : Int) : Option R_ := H.e P_ [r,r,r,r,r,r,r,r,l,r,d,(lp kn14),r,l,d,r,r,r,r,d] (t20 a g f b h m k n)
def x22 (kn14 : K_) (a : Int) (g : UInt64) (f : Bool) (b : LI) (h m k o : Int) : Option R_ := H.e P_ [r,r,r,r,r,r,r,r,l,r,d,(lp kn14),r,l,d,r,r,r,r,d] (t22 a g f b h m k o)
def x14 (a : Int) (g : UInt64) (f : Bool) (b : LI) (h k : Int) : Option R_ := H.e P_ [r,r,r,r,r,r,r,r,l,r,d] (t14 a g f b h k)
theorem e26 : x26 = Ds := by kernel_rfl
theorem e24 (kn14 : K_) (a : Int) (g : UInt64) (f : Bool) (b : LI) : x24 kn14 a g f b = Bd (fun h k => kn14 (t14 a g f b h k)) a g f b := by kernel_rfl
theorem i20 (kn14 : K_) (a : Int) (g : UInt64) (f : Bool) (b : LI) (h m k : Int) : ∀ (q : Nat) (n : Int), z20 kn14 q (t20 a g f b h m k n) = Bp (fun h k => kn14 (t14 a g f b h k)) a g f b h m k q n :=
 ind (fun _ => by kernel_rfl) fun q ih n => Eq.trans (b := Dq (x24 kn14 a g f b) (fun n => (z20 kn14 q) (t20 a g f b h m k n)) a g f b h m k n) (by kernel_rfl) (by simp only [e24, ih] <;> rfl)
theorem e20 (kn14 : K_) (a : Int) (g : UInt64) (f : Bool) (b : LI) : x20 kn14 a g f b = Dp (fun h k => kn14 (t14 a g f b h k)) a g f b := by funext h m k n; exact Eq.trans (by kernel_rfl) ((i20 kn14 a g f b h m k Bh n).trans (by rw [Ah]; rfl))
theorem i22 (kn14 : K_) (a : Int) (g : UInt64) (f : Bool) (b : LI) (h m k : Int) : ∀ (q : Nat) (o : Int), z22 kn14 q (t22 a g f b h m k o) = Bs (fun h k => kn14 (t14 a g f b h k)) a g f b h m k q o :=
 ind (fun _ => by kernel_rfl) fun q ih o => Eq.trans (b := Dt (x24 kn14 a g f b) (fun o => (z22 kn14 q) (t22 a g f b h m k o)) a g f b h m k o) (by kernel_rfl) (by simp only [e24, ih] <;> rfl)
theorem e22 (kn14 : K_) (a : Int) (g : UInt64) (f : Bool) (b : LI) : x22 kn14 a g f b = Du (fun h k => kn14 (t14 a g f b h k)) a g f b := by funext h m k o; exact Eq.trans (by kernel_rfl) ((i22 kn14 a g f b h m k Bh o).trans (by rw [Ah]; rfl))
theorem i14 (a : Int) (g : UInt64) (f : Bool) (b : LI) : ∀ (q : Nat) (h k : Int), z14 q (t14 a g f b h k) = Bc a g f b q h k :=
 ind (fun _ _ => by kernel_rfl) fun q ih h k => Eq.trans (b := Dw (x20 (z14 q) a g f b) (x22 (z14 q) a g f b) x26 a g f b h k) (by kernel_rfl) (by simp only [e20, e22, e26, ih] <;> rfl)
theorem e14 : x14 = Gf := by funext a g f b h k; exact Eq.trans (by kernel_rfl) ((i14 a g f b Bh h k).trans (by rw [Ah]; rfl))
noncomputable def F := u2 Dd
theorem rn x : H.u P_ x = F x := Eq.trans (b := u2 (Eb x14) x) (by kernel_rfl) (by simp only [e14] <;> rfl)
noncomputable def c : Con := ⟨H.p, H.r, F⟩
theorem ok : ConOk P_ gl 4 c := co H func4 (.cons F12.ok (.cons F13.ok .nil)) rn
end F4
end
end Go.Proofs.YtneipcijjnibdaaGreatDoor
