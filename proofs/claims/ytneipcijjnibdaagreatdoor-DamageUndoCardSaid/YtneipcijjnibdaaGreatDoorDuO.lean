/- A part of the proof of a statement of this seat (see the text that ends in Proof): DuOk. No conditions of its own. -/
import Derived.Test.YtneipcijjnibdaaGreatDoorDuBC
import Derived.Test.YtneipcijjnibdaaGreatDoorDuPA
import Derived.Test.YtneipcijjnibdaaGreatDoorDuHA
import Derived.Test.YtneipcijjnibdaaGreatDoorProg
import Derived.KernelRfl
set_option linter.unusedVariables false
set_option linter.unusedSimpArgs false
set_option maxRecDepth 10000
namespace Go.Proofs.YtneipcijjnibdaaGreatDoor
open Go Go.Lv Go.Pl Go.Rx Go.Rx.PS
noncomputable section
def g2 : List Value := [.int .i64 2, .int .i64 2, .int .i64 2, .int .i64 4, .int .i64 4]
def g3 : List Value := [.int .u8 0, .int .u8 1, .int .u8 56, .int .u8 2, .int .u8 57, .int .u8 49, .int .u8 28, .int .u8 3, .int .u8 61, .int .u8 58, .int .u8 42, .int .u8 50, .int .u8 38, .int .u8 29, .int .u8 17, .int .u8 4, .int .u8 62, .int .u8 47, .int .u8 59, .int .u8 36, .int .u8 45, .int .u8 43, .int .u8 51, .int .u8 22, .int .u8 53, .int .u8 39, .int .u8 33, .int .u8 30, .int .u8 24, .int .u8 18, .int .u8 12, .int .u8 5, .int .u8 63, .int .u8 55, .int .u8 48, .int .u8 27, .int .u8 60, .int .u8 41, .int .u8 37, .int .u8 16, .int .u8 46, .int .u8 35, .int .u8 44, .int .u8 21, .int .u8 52, .int .u8 32, .int .u8 23, .int .u8 11, .int .u8 54, .int .u8 26, .int .u8 40, .int .u8 15, .int .u8 34, .int .u8 20, .int .u8 31, .int .u8 10, .int .u8 25, .int .u8 14, .int .u8 19, .int .u8 9, .int .u8 13, .int .u8 8, .int .u8 7, .int .u8 6]
def gl : List (Nat × List Value) := [(2, g2), (3, g3)]
theorem mixed : Tryz.prog.follows .mixedOrders = true := by kernel_rfl
noncomputable abbrev P_ := Tryz.prog
theorem cr (H : Hd) {f : Nat} {F : LTy (shL H.p) → Option (LTy (shL H.r))} (hf : P_.funcs[f]? = some H.f) (hT : Jj P_ H.T) (hA : ∀ p ∈ H.s, Ent P_ p.1) (h : ∀ x, H.u P_ x = F x) (hb : okH H = true := by kernel_rfl) : ConOk P_ H.T.gl f ⟨H.p, H.r, F⟩ := Hd.con mixed H hf hT hA hb h
theorem co (H : Hd) {f : Nat} {F : LTy (shL H.p) → Option (LTy (shL H.r))} (hf : P_.funcs[f]? = some H.f) (hT : Jj P_ H.T) (h : ∀ x, H.u P_ x = F x) (hb : (H.s.isEmpty && okH H) = true := by kernel_rfl) : ConOk P_ H.T.gl f ⟨H.p, H.r, F⟩ := Hd.Bbg mixed H hf hT hb h
theorem ent31 : Ent Tryz.prog 31 := Ent.mk Tryz.func31 (by kernel_rfl) rfl
theorem ent78 : Ent Tryz.prog 78 := Ent.mk Tryz.func78 (by kernel_rfl) rfl
theorem ent86 : Ent Tryz.prog 86 := Ent.mk Tryz.func86 (by kernel_rfl) rfl
theorem ent137 : Ent Tryz.prog 137 := Ent.mk Tryz.func137 (by kernel_rfl) rfl
theorem ent145 : Ent Tryz.prog 145 := Ent.mk Tryz.func145 (by kernel_rfl) rfl
theorem ent148 : Ent Tryz.prog 148 := Ent.mk Tryz.func148 (by kernel_rfl) rfl
theorem ent149 : Ent Tryz.prog 149 := Ent.mk Tryz.func149 (by kernel_rfl) rfl
theorem ent191 : Ent Tryz.prog 191 := Ent.mk Tryz.func191 (by kernel_rfl) rfl
theorem ent193 : Ent Tryz.prog 193 := Ent.mk Tryz.func193 (by kernel_rfl) rfl
theorem ent195 : Ent Tryz.prog 195 := Ent.mk Tryz.func195 (by kernel_rfl) rfl
theorem ent196 : Ent Tryz.prog 196 := Ent.mk Tryz.func196 (by kernel_rfl) rfl
theorem ent228 : Ent Tryz.prog 228 := Ent.mk Tryz.func228 (by kernel_rfl) rfl
theorem ent237 : Ent Tryz.prog 237 := Ent.mk Tryz.func237 (by kernel_rfl) rfl
theorem ent238 : Ent Tryz.prog 238 := Ent.mk Tryz.func238 (by kernel_rfl) rfl
theorem ent246 : Ent Tryz.prog 246 := Ent.mk Tryz.func246 (by kernel_rfl) rfl
theorem ent247 : Ent Tryz.prog 247 := Ent.mk Tryz.func247 (by kernel_rfl) rfl
theorem ent248 : Ent Tryz.prog 248 := Ent.mk Tryz.func248 (by kernel_rfl) rfl
theorem ent255 : Ent Tryz.prog 255 := Ent.mk Tryz.func255 (by kernel_rfl) rfl
theorem ent258 : Ent Tryz.prog 258 := Ent.mk Tryz.func258 (by kernel_rfl) rfl
theorem ent274 : Ent Tryz.prog 274 := Ent.mk Tryz.func274 (by kernel_rfl) rfl
theorem ent275 : Ent Tryz.prog 275 := Ent.mk Tryz.func275 (by kernel_rfl) rfl
theorem ent280 : Ent Tryz.prog 280 := Ent.mk Tryz.func280 (by kernel_rfl) rfl
theorem ent303 : Ent Tryz.prog 303 := Ent.mk Tryz.func303 (by kernel_rfl) rfl
abbrev u2 {A B R : Type} (f : A → B → R) (x : A × B) := f x.1 x.2
abbrev u3 {A B C R : Type} (f : A → B → C → R) := u2 fun a => u2 (f a)
abbrev u4 {A B C D R : Type} (f : A → B → C → D → R) := u2 fun a => u3 (f a)
abbrev u5 {A B C D E R : Type} (f : A → B → C → D → E → R) := u2 fun a => u4 (f a)
abbrev u6 {A B C D E F R : Type} (f : A → B → C → D → E → F → R) := u2 fun a => u5 (f a)
abbrev u7 {A B C D E F G R : Type} (f : A → B → C → D → E → F → G → R) := u2 fun a => u6 (f a)
open Go.Proofs.Tryz
namespace F142
noncomputable def H : Hd := ⟨[.agg [Si, Si, Si, Sw]], [.agg [Si, Si]], .d, ⟨[], gl, false⟩, [], f142⟩
noncomputable def F := u4 Adh
theorem rn x : H.u P_ x = F x := by kernel_rfl
noncomputable def c : Con := ⟨H.p, H.r, F⟩
theorem ok : ConOk P_ gl 142 c := co H func142 .nil rn
end F142
namespace F152
abbrev R_ := (Int32 × Int32 × Int)
noncomputable def H : Hd := ⟨[Si], [Sx, Sx, Si], (.seq .d (.seq (.seq .d (.blk (.cut [0, 7] [] .d .d))) .d)), ⟨[], gl, false⟩, [], f152⟩
def x2 (a : Int) (b : Bool) : Option R_ := H.e P_ [r,l,r,d,r] ⟨[(0, vi a), (7, vt b)], [], []⟩
theorem e2 : x2 = Ym := by kernel_rfl
noncomputable def F := Yh
theorem rn x : H.u P_ x = F x := Eq.trans (b := Yd x2 x) (by kernel_rfl) (by simp only [e2] <;> rfl)
noncomputable def c : Con := ⟨H.p, H.r, F⟩
theorem ok : ConOk P_ gl 152 c := co H func152 .nil rn
end F152
namespace F151
noncomputable def H : Hd := ⟨[.agg [Si, Si]], [Si], .d, ⟨[(152, F152.c)], gl, false⟩, [], f151⟩
noncomputable def F := u2 Kf
theorem rn x : H.u P_ x = F x := by kernel_rfl
noncomputable def c : Con := ⟨H.p, H.r, F⟩
theorem ok : ConOk P_ gl 151 c := co H func151 (.cons F152.ok .nil) rn
end F151
namespace F150
noncomputable def H : Hd := ⟨[Si], [Si, Si], .d, ⟨[], gl, false⟩, [], f150⟩
noncomputable def F := Sn
theorem rn x : H.u P_ x = F x := by kernel_rfl
noncomputable def c : Con := ⟨H.p, H.r, F⟩
theorem ok : ConOk P_ gl 150 c := co H func150 .nil rn
end F150
namespace F168
noncomputable def H : Hd := ⟨[Si, Si], [Si, Si], .d, ⟨[(150, F150.c)], gl, false⟩, [], f168⟩
noncomputable def F := u2 Ki
theorem rn x : H.u P_ x = F x := by kernel_rfl
noncomputable def c : Con := ⟨H.p, H.r, F⟩
theorem ok : ConOk P_ gl 168 c := co H func168 (.cons F150.ok .nil) rn
end F168
namespace F186
noncomputable def H : Hd := ⟨[.agg [Si, Si, Si, Sw], Si], [Si], .d, ⟨[(142, F142.c), (151, F151.c), (168, F168.c)], gl, false⟩, [], f186⟩
noncomputable def F := u5 Anj
theorem rn x : H.u P_ x = F x := by kernel_rfl
noncomputable def c : Con := ⟨H.p, H.r, F⟩
theorem ok : ConOk P_ gl 186 c := co H func186 (.cons F142.ok (.cons F151.ok (.cons F168.ok .nil))) rn
end F186
namespace F167
abbrev R_ := Int
noncomputable def H : Hd := ⟨[Si, Sw], [Si], (.seq .d (.seq .d (.seq .d (.seq .d (.cut [] [] (.seq .d (.blk (.loop [5, 6, 22, 23, 24] [] .d))) .d))))), ⟨[(152, F152.c)], gl, false⟩, [], f167⟩
def t4 (b f : Int32) (a : LX) (g : Int) : S := ⟨[(5, vx b), (6, vx f), (22, vw a), (23, vi (Ac a)), (24, vi g)], [], []⟩
def z4 : Nat → S → Option R_ := H.i P_ [r,r,r,r,l,r,d]
def x6 : Option R_ := H.e P_ [r,r,r,r,r] ⟨[], [], []⟩
def x4 (b f : Int32) (a : LX) (g : Int) : Option R_ := H.e P_ [r,r,r,r,l,r,d] (t4 b f a g)
theorem e6 : x6 = Aav := by kernel_rfl
theorem i4 (b f : Int32) (a : LX) : ∀ (q : Nat) (g : Int), z4 q (t4 b f a g) = Mu b f a q g :=
 ind (fun _ => by kernel_rfl) fun q ih g => Eq.trans (b := Zk x6 (fun g => (z4 q) (t4 b f a g)) b f a g) (by kernel_rfl) (by simp only [e6, ih] <;> rfl)
theorem e4 : x4 = Ws := by funext b f a g; exact Eq.trans (by kernel_rfl) ((i4 b f a Bg g).trans (by rw [Aj]; rfl))
noncomputable def F := u2 Kr
theorem rn x : H.u P_ x = F x := Eq.trans (b := u2 (Ys x4) x) (by kernel_rfl) (by simp only [e4] <;> rfl)
noncomputable def c : Con := ⟨H.p, H.r, F⟩
theorem ok : ConOk P_ gl 167 c := co H func167 (.cons F152.ok .nil) rn
end F167
namespace F139
noncomputable def H : Hd := ⟨[.agg [Si, Si, Si, Sw]], [Si], .d, ⟨[(167, F167.c), (186, F186.c)], gl, false⟩, [], f139⟩
noncomputable def F := u4 Jq
theorem rn x : H.u P_ x = F x := by kernel_rfl
noncomputable def c : Con := ⟨H.p, H.r, F⟩
theorem ok : ConOk P_ gl 139 c := co H func139 (.cons F167.ok (.cons F186.ok .nil)) rn
end F139
namespace F81
def Le (j2 : LB → Int → Int → Int → LX → Option (Int × Int × Int × Int × Int × Int)) (a b f : Int) (g : LX) (h : LB) : Option (Int × Int × Int × Int × Int × Int) :=
(Jq a b f g).bind fun k =>
if (Bf k 0) then
some (0, 0, 0, 0, 0, k)
else
if (En (Ac h) 64) then
some (0, 0, 0, 0, 0, 2)
else
(Dr (Bf a 0)).bind fun _ =>
bo (
j2 h a b f g)
theorem Ac4 : @Le = @Mi := by
  unfold Le Mi
  simp only [Ahw, Xl, Aaf]
abbrev R_ := (Int × Int × Int × Int × Int × Int)
noncomputable def H : Hd := ⟨[.agg [Si, Si, Si, Sw], Ss], [.agg [Si, Si, Si, Si, Si], Si], (.seq .d (.seq .d (.seq .d (.cut [1, 4, 7] [] .d .d)))), ⟨[(139, F139.c)], gl, false⟩, [], f81⟩
def x2 (h : LB) (a b f : Int) (g : LX) : Option R_ := H.e P_ [r,r,r,r] ⟨[(1, vs h), (4, .ptr 0 []), (7, .ptr 1 [])], [.box 46 (.agg [vi 0, vi 0, vi 0, vi 0, vi 0]), .box 46 (.agg [vi 1, vi a, vi b, vi f, vi (Hj (Ac g) a)])], []⟩
theorem e2 : x2 = Xt := by kernel_rfl
noncomputable def F := u5 Ahx
theorem rn x : H.u P_ x = F x := Eq.trans (b := u5 (Le x2) x) (by kernel_rfl) (by unfold F; rw [Ac4]; simp only [e2] <;> rfl)
noncomputable def c : Con := ⟨H.p, H.r, F⟩
theorem ok : ConOk P_ gl 81 c := co H func81 (.cons F139.ok .nil) rn
end F81
namespace F203
abbrev R_ := (UInt64 × Int)
abbrev K_ := S → Option R_
noncomputable def H : Hd := ⟨[Sq, Sb], [Sq, Si], (.seq .d (.seq .d (.cut [4, 5] [] (.keep [0, 1, 4, 5, 9, 10, 11, 12] true) .d))), ⟨[], gl, false⟩, [(246, (.seq .d (.cut [1] [] (.seq .d (.blk (.loop [0, 1, 9, 10, 11] [] .d))) .d))), (247, (.seq .d (.seq .d (.cut [1] [] (.seq .d (.blk (.loop [1, 5] [] (.seq .d (.seq .d (.cut [1, 5] [] (.blk (.seq .d (.seq .d (.cut [1, 2, 3, 5] [] (.seq .d (.blk (.loop [1, 2, 3, 5, 11] [] .d))) .d)))) .d)))))) .d))))], f203⟩
def t27 (a : LB) (b : UInt64) (f : LQ) (h : UInt64) (m : Int) : S := ⟨[(0, .ptr 0 []), (1, vq h), (9, vb a), (10, vi (Ac a)), (11, vi m)], [.box 365 (.val (.vec 256 (.int .u64)) f)], [[(0, vq b), (1, vb a), (4, vq 0), (5, vi 0), (9, .ptr 0 []), (10, vq b), (11, vb a)]]⟩
def z27 : Nat → S → Option R_ := H.i P_ [r,r,l,(call 3 246),r,l,r,d]
def t21 (b : UInt64) (a : LB) (g : Int) (f : LQ) (k : UInt64) (n : Int) : S := ⟨[(1, .ptr 0 []), (2, vi g), (3, vq k), (5, vi g), (11, vi n)], [.box 365 (.val (.vec 256 (.int .u64)) f)], [[(0, vq b), (1, vb a), (4, vq 0), (5, vi 0)]]⟩
def z21 (kn16 : K_) : Nat → S → Option R_ := H.i P_ [r,r,l,(call 0 247),r,r,l,r,d,(lp kn16),r,r,l,d,r,r,l,r,d]
def t16 (b : UInt64) (a : LB) (g : Int) (f : LQ) : S := ⟨[(1, .ptr 0 []), (5, vi g)], [.box 365 (.val (.vec 256 (.int .u64)) f)], [[(0, vq b), (1, vb a), (4, vq 0), (5, vi 0)]]⟩
def z16 : Nat → S → Option R_ := H.i P_ [r,r,l,(call 0 247),r,r,l,r,d]
def x30 (h : UInt64) : Option R_ := H.e P_ [r,r,r] ⟨[(4, vq h), (5, vi 0)], [], []⟩
def x29 (h b : UInt64) (a : LB) (f : LQ) : Option R_ := H.e P_ [r,r,l,(call 3 246),r,r] ⟨[(1, vq h)], [.box 365 (.val (.vec 256 (.int .u64)) f)], [[(0, vq b), (1, vb a), (4, vq 0), (5, vi 0), (9, .ptr 0 []), (10, vq b), (11, vb a)]]⟩
def x27 (a : LB) (b : UInt64) (f : LQ) (h : UInt64) (m : Int) : Option R_ := H.e P_ [r,r,l,(call 3 246),r,l,r,d] (t27 a b f h m)
def x26 (b : UInt64) (a : LB) (f : LQ) : Option R_ := H.e P_ [r,r,l,(call 0 247),r,r,r] ⟨[(1, .ptr 0 [])], [.box 365 (.val (.vec 256 (.int .u64)) f)], [[(0, vq b), (1, vb a), (4, vq 0), (5, vi 0)]]⟩
def x24 (kn16 : K_) (b : UInt64) (a : LB) (g : Int) (o : LQ) : Option R_ := H.e P_ [r,r,l,(call 0 247),r,r,l,r,d,(lp kn16),r,r,r] ⟨[(1, .ptr 0 []), (5, vi g)], [.box 365 (.val (.vec 256 (.int .u64)) o)], [[(0, vq b), (1, vb a), (4, vq 0), (5, vi 0)]]⟩
def x23 (kn16 : K_) (b : UInt64) (a : LB) (g : Int) (k : UInt64) (f : LQ) : Option R_ := H.e P_ [r,r,l,(call 0 247),r,r,l,r,d,(lp kn16),r,r,l,d,r,r,r] ⟨[(1, .ptr 0 []), (2, vi g), (3, vq k), (5, vi g)], [.box 365 (.val (.vec 256 (.int .u64)) f)], [[(0, vq b), (1, vb a), (4, vq 0), (5, vi 0)]]⟩
def x21 (kn16 : K_) (b : UInt64) (a : LB) (g : Int) (f : LQ) (k : UInt64) (n : Int) : Option R_ := H.e P_ [r,r,l,(call 0 247),r,r,l,r,d,(lp kn16),r,r,l,d,r,r,l,r,d] (t21 b a g f k n)
def x16 (b : UInt64) (a : LB) (g : Int) (f : LQ) : Option R_ := H.e P_ [r,r,l,(call 0 247),r,r,l,r,d] (t16 b a g f)
theorem e30 : x30 = Xu := by kernel_rfl
theorem e29 : x29 = Wb := Eq.trans (b := Yn x30) (by kernel_rfl) (by simp only [e30] <;> rfl)
theorem i27 (a : LB) (b : UInt64) (f : LQ) : ∀ (q : Nat) (h : UInt64) (m : Int), z27 q (t27 a b f h m) = Nk a b f q h m :=
 ind (fun _ _ => by kernel_rfl) fun q ih h m => Eq.trans (b := Ww x29 (fun h m => (z27 q) (t27 a b f h m)) a b f h m) (by kernel_rfl) (by simp only [e29, ih] <;> rfl)
theorem e27 : x27 = Wc := by funext a b f h m; exact Eq.trans (by kernel_rfl) ((i27 a b f Bg h m).trans (by rw [Aj]; rfl))
theorem e26 : x26 = Aam := Eq.trans (b := Aap x27) (by kernel_rfl) (by simp only [e27] <;> rfl)
theorem e24 (kn16 : K_) (b : UInt64) (a : LB) : x24 kn16 b a = Vv (fun g f => kn16 (t16 b a g f)) b a := by kernel_rfl
theorem e23 (kn16 : K_) (b : UInt64) (a : LB) : x23 kn16 b a = Zg (fun g f => kn16 (t16 b a g f)) b a := Eq.trans (b := Yy (x24 kn16 b a) b a) (by kernel_rfl) (by simp only [e24] <;> rfl)
theorem i21 (kn16 : K_) (b : UInt64) (a : LB) (g : Int) (f : LQ) : ∀ (q : Nat) (k : UInt64) (n : Int), z21 kn16 q (t21 b a g f k n) = Nu (fun g f => kn16 (t16 b a g f)) b a g f q k n :=
 ind (fun _ _ => by kernel_rfl) fun q ih k n => Eq.trans (b := Yz (x23 kn16 b a) (fun k n => (z21 kn16 q) (t21 b a g f k n)) b a g f k n) (by kernel_rfl) (by simp only [e23, ih] <;> rfl)
theorem e21 (kn16 : K_) (b : UInt64) (a : LB) : x21 kn16 b a = Vz (fun g f => kn16 (t16 b a g f)) b a := by funext g f k n; exact Eq.trans (by kernel_rfl) ((i21 kn16 b a g f Bg k n).trans (by rw [Aj]; rfl))
theorem i16 (b : UInt64) (a : LB) : ∀ (q : Nat) (g : Int) (f : LQ), z16 q (t16 b a g f) = Ml b a q g f :=
 ind (fun _ _ => by kernel_rfl) fun q ih g f => Eq.trans (b := Xz (x21 (z16 q) b a) x26 b a g f) (by kernel_rfl) (by simp only [e21, e26, ih] <;> rfl)
theorem e16 : x16 = Zd := by funext b a g f; exact Eq.trans (by kernel_rfl) ((i16 b a Bg g f).trans (by rw [Aj]; rfl))
noncomputable def F := u2 Als
theorem rn x : H.u P_ x = F x := Eq.trans (b := u2 (Acr x16) x) (by kernel_rfl) (by simp only [e16] <;> rfl)
noncomputable def c : Con := ⟨H.p, H.r, F⟩
theorem ok : ConOk P_ gl 203 c := cr H func203 .nil (AnsOk.cons ent246 (AnsOk.cons ent247 AnsOk.nil)) rn
end F203
namespace F160
noncomputable def H : Hd := ⟨[Sb], [Sq, Si], .d, ⟨[(203, F203.c)], gl, false⟩, [], f160⟩
noncomputable def F := Agr
theorem rn x : H.u P_ x = F x := by kernel_rfl
noncomputable def c : Con := ⟨H.p, H.r, F⟩
theorem ok : ConOk P_ gl 160 c := co H func160 (.cons F203.ok .nil) rn
end F160
namespace F161
abbrev R_ := LX
noncomputable def H : Hd := ⟨[Sq], [.lf (.vec 16 (.int .i32)) none], (.seq .d (.seq .d (.cut [2, 3] [] (.seq .d (.blk (.loop [0, 2, 3, 5] [] .d))) .d))), ⟨[], gl, false⟩, [], f161⟩
def t4 (f : UInt64) (b : Int) (a : LX) : S := ⟨[(0, vq f), (2, .ptr 0 []), (3, .ptr 1 []), (5, vi b)], [.box 164 (.val (.vec 16 (.int .i32)) (List.replicate 16 (0 : Int32))), .box 164 (.val (.vec 16 (.int .i32)) a)], []⟩
def z4 : Nat → S → Option R_ := H.i P_ [r,r,l,r,d]
def x6 (a : LX) : Option R_ := H.e P_ [r,r,r] ⟨[(2, .ptr 0 []), (3, .ptr 1 [])], [.box 164 (.val (.vec 16 (.int .i32)) (List.replicate 16 (0 : Int32))), .box 164 (.val (.vec 16 (.int .i32)) a)], []⟩
def x4 (f : UInt64) (b : Int) (a : LX) : Option R_ := H.e P_ [r,r,l,r,d] (t4 f b a)
theorem e6 : x6 = Ala := by kernel_rfl
theorem i4 (f : UInt64) : ∀ (q : Nat) (b : Int) (a : LX), z4 q (t4 f b a) = Acy f q b a :=
 ind (fun _ _ => by kernel_rfl) fun q ih b a => Eq.trans (b := Ajv x6 (fun b a => (z4 q) (t4 f b a)) f b a) (by kernel_rfl) (by simp only [e6, ih] <;> rfl)
theorem e4 : x4 = Aki := by funext f b a; exact Eq.trans (by kernel_rfl) ((i4 f Bg b a).trans (by rw [Aj]; rfl))
noncomputable def F := Asl
theorem rn x : H.u P_ x = F x := Eq.trans (b := Alw x4 x) (by kernel_rfl) (by simp only [e4] <;> rfl)
noncomputable def c : Con := ⟨H.p, H.r, F⟩
theorem ok : ConOk P_ gl 161 c := co H func161 .nil rn
end F161
namespace F116
noncomputable def H : Hd := ⟨[Ss], [.lf (.vec 16 (.int .i32)) none, Si], .d, ⟨[(160, F160.c), (161, F161.c)], gl, false⟩, [], f116⟩
noncomputable def F := Ls
theorem rn x : H.u P_ x = F x := by kernel_rfl
noncomputable def c : Con := ⟨H.p, H.r, F⟩
theorem ok : ConOk P_ gl 116 c := co H func116 (.cons F160.ok (.cons F161.ok .nil)) rn
end F116
namespace F257
noncomputable def H : Hd := ⟨[Sq, Sq], [Sq, Sq], .d, ⟨[], gl, false⟩, [], f257⟩
noncomputable def F := u2 Ui
theorem rn x : H.u P_ x = F x := by kernel_rfl
noncomputable def c : Con := ⟨H.p, H.r, F⟩
theorem ok : ConOk P_ gl 257 c := co H func257 .nil rn
end F257
namespace F213
noncomputable def H : Hd := ⟨[Sq, Sq], [Sq, Sq], .d, ⟨[(257, F257.c)], gl, false⟩, [], f213⟩
noncomputable def F := u2 Ab0
theorem rn x : H.u P_ x = F x := by kernel_rfl
noncomputable def c : Con := ⟨H.p, H.r, F⟩
theorem ok : ConOk P_ gl 213 c := co H func213 (.cons F257.ok .nil) rn
end F213
namespace F169
def Ed (j10 : LI → Option (LI)) (bk8 : Int → LI → Option (LI)) (b : Int) (a : LI) : Option (LI) :=
if (Bl b (Ac a)) then
both (
(vwI (Ac a) b (Ac a)).bind fun _ =>
(vwI (Ac a) 0 b).bind fun _ =>
bk8 (Aa b (Acf ((Ac a) - b) (Vr a 0 (b - (0 : Int))).length)) (Hc a b ((Ac a) - b) (Vr a 0 (b - (0 : Int))))) [
(vwI (Ac a) 0 b).bind fun _ =>
(vwI (Ac a) b (Ac a)).bind fun _ =>
bk8 (Aa b (Acf ((Ac a) - b) (Vr a 0 (b - (0 : Int))).length)) (Hc a b ((Ac a) - b) (Vr a 0 (b - (0 : Int))))]
else
j10 a
theorem Kw : @Ed = @Eh := by
  unfold Ed Eh
  repeat (refine funext fun _ => ?_)
  repeat' first
    | with_reducible rfl
    | with_reducible refine Fz ?_ ?_
    | with_reducible refine Gg ?_ ?_ ?_
    | with_reducible refine Fy ?_ ?_ ?_ ?_
    | ((with_reducible refine It ?_ ?_); focus (intro h; first | (subst h; rfl) | (simp only [h]; rfl) | (simp [Dp, Ac, h]; done)))
    | with_reducible refine Jd fun x => ?_
    | with_reducible refine Nt (fun _ => ?_) (fun _ => ?_)
    | (refine Du (fun h => by simp only [h, Jc, Cw, Cn, ite_self]) (fun x h => ?_); (try simp only [h, Cw]))
    | (refine Eu (fun h => ?_) (fun h => ?_) <;> simp only [h, if_true, if_false, Bool.false_eq_true])
abbrev R_ := LI
noncomputable def H : Hd := ⟨[Sl, Si], [Ol 3], (.seq .d (.cut [0, 1] [] .d (.seq .d (.cut [0, 6] [] .d (.seq .d (.seq .d (.cut [7] [] (.blk (.loop [7, 8] [] (.seq .d (.blk (.mode false))))) .d))))))), ⟨[(213, F213.c)], gl, true⟩, [], f169⟩
def t8 (b : Int) (a : LI) : S := ⟨[(7, .own 0), (8, vi b)], [Ai 3 a], []⟩
def z8 : Nat → S → Option R_ := H.i P_ [r,r,r,r,r,r,l,d]
def x10 (a : LI) : Option R_ := H.e P_ [r,r,r,r,r,r,r] ⟨[(7, .own 0)], [Ai 3 a], []⟩
def x8 (b : Int) (a : LI) : Option R_ := H.e P_ [r,r,r,r,r,r,l,d] (t8 b a)
def x7 (f : LI) (g : UInt64) : Option R_ := H.e P_ [r,r,r,r] ⟨[(0, vl f), (6, vq g)], [], []⟩
def x6 (f : LI) (h : Int) : Option R_ := H.e P_ [r,r] ⟨[(0, vl f), (1, vi h)], [], []⟩
theorem e10 : x10 = Gs := by kernel_rfl
theorem i8 : ∀ (q : Nat) (b : Int) (a : LI), z8 q (t8 b a) = Ej q b a :=
 ind (fun _ _ => by kernel_rfl) fun q ih b a => Eq.trans (b := Ed x10 (fun b a => (z8 q) (t8 b a)) b a) (by kernel_rfl) (by rw [Kw]; simp only [e10, ih] <;> rfl)
theorem e8 : x8 = Hn := by funext b a; exact Eq.trans (by kernel_rfl) ((i8 Bg b a).trans (by rw [Aj]; rfl))
theorem e7 : x7 = Hh := Eq.trans (b := Hu x8) (by kernel_rfl) (by simp only [e8] <;> rfl)
theorem e6 : x6 = Hf := Eq.trans (b := Hs x7) (by kernel_rfl) (by simp only [e7] <;> rfl)
noncomputable def F := u2 Jk
theorem rn x : H.u P_ x = F x := Eq.trans (b := u2 (Hr x6) x) (by kernel_rfl) (by simp only [e6] <;> rfl)
noncomputable def c : Con := ⟨H.p, H.r, F⟩
theorem ok : ConOk P_ gl 169 c := co H func169 (.cons F213.ok .nil) rn
end F169
namespace F214
abbrev R_ := LI
noncomputable def H : Hd := ⟨[.lf (.list (.list (.int .i64))) none], [Ol 3], (.seq .d (.seq .d (.cut [0, 3] [] (.seq .d (.blk (.loop [0, 3, 9, 10, 11] [] .d))) (.cut [0, 6] [⟨6, [], .own 3 (.int .i64)⟩] (.keep [0, 3, 6, 23, 24] true) (.cut [6] [] (.seq .d (.blk (.loop [6, 25, 26, 27] [] .d))) .d))))), ⟨[], gl, true⟩, [(258, (.seq .d (.cut [0, 1] [] .d .d)))], f214⟩
def t14 (a : List LI) (g : Int) (f : LI) : S := ⟨[(6, .own 0), (25, .val (.list (.list (.int .i64))) a), (26, vi (Ac a)), (27, vi g)], [Ai 3 f], []⟩
def z14 : Nat → S → Option R_ := H.i P_ [r,r,r,r,l,r,d]
def t9 (a : List LI) (b h : Int) : S := ⟨[(0, .val (.list (.list (.int .i64))) a), (3, vi b), (9, .val (.list (.list (.int .i64))) a), (10, vi (Ac a)), (11, vi h)], [], []⟩
def z9 : Nat → S → Option R_ := H.i P_ [r,r,l,r,d]
def x16 (f : LI) : Option R_ := H.e P_ [r,r,r,r,r] ⟨[(6, .own 0)], [Ai 3 f], []⟩
def x14 (a : List LI) (g : Int) (f : LI) : Option R_ := H.e P_ [r,r,r,r,l,r,d] (t14 a g f)
def x13 (a : List LI) (k : LI) : Option R_ := H.e P_ [r,r,r,r] ⟨[(0, .val (.list (.list (.int .i64))) a), (6, .own 0)], [Ai 3 k], []⟩
def x12 (b : Int) (a : List LI) : Option R_ := H.e P_ [r,r,r,l,(call 1 258),r,r] ⟨[(0, .nils), (1, vi b)], [], [[(0, .val (.list (.list (.int .i64))) a), (3, vi b), (23, vi b)]]⟩
def x11 (a : List LI) (b : Int) : Option R_ := H.e P_ [r,r,r] ⟨[(0, .val (.list (.list (.int .i64))) a), (3, vi b)], [], []⟩
def x9 (a : List LI) (b h : Int) : Option R_ := H.e P_ [r,r,l,r,d] (t9 a b h)
theorem e16 : x16 = Gw := by kernel_rfl
theorem i14 (a : List LI) : ∀ (q : Nat) (g : Int) (f : LI), z14 q (t14 a g f) = Ec a q g f :=
 ind (fun _ _ => by kernel_rfl) fun q ih g f => Eq.trans (b := Gt x16 (fun g f => (z14 q) (t14 a g f)) a g f) (by kernel_rfl) (by simp only [e16, ih] <;> rfl)
theorem e14 : x14 = Gn := by funext a g f; exact Eq.trans (by kernel_rfl) ((i14 a Bg g f).trans (by rw [Aj]; rfl))
theorem e13 : x13 = Gm := Eq.trans (b := Gu x14) (by kernel_rfl) (by simp only [e14] <;> rfl)
theorem e12 : x12 = Gq := Eq.trans (b := Gv x13) (by kernel_rfl) (by simp only [e13] <;> rfl)
theorem e11 : x11 = Gx := Eq.trans (b := Gp x12) (by kernel_rfl) (by simp only [e12] <;> rfl)
theorem i9 (a : List LI) : ∀ (q : Nat) (b h : Int), z9 q (t9 a b h) = Ei a q b h :=
 ind (fun _ _ => by kernel_rfl) fun q ih b h => Eq.trans (b := Hk x11 (fun b h => (z9 q) (t9 a b h)) a b h) (by kernel_rfl) (by simp only [e11, ih] <;> rfl)
theorem e9 : x9 = Hv := by funext a b h; exact Eq.trans (by kernel_rfl) ((i9 a Bg b h).trans (by rw [Aj]; rfl))
noncomputable def F := Jm
theorem rn x : H.u P_ x = F x := Eq.trans (b := Hq x9 x) (by kernel_rfl) (by simp only [e9] <;> rfl)
noncomputable def c : Con := ⟨H.p, H.r, F⟩
theorem ok : ConOk P_ gl 214 c := cr H func214 .nil (AnsOk.cons ent258 AnsOk.nil) rn
end F214
namespace F170
noncomputable def H : Hd := ⟨[Sl, Sl], [Ol 3], .d, ⟨[(214, F214.c)], gl, false⟩, [], f170⟩
noncomputable def F := u2 Xo
theorem rn x : H.u P_ x = F x := by kernel_rfl
noncomputable def c : Con := ⟨H.p, H.r, F⟩
theorem ok : ConOk P_ gl 170 c := co H func170 (.cons F214.ok .nil) rn
end F170
namespace F121
noncomputable def H : Hd := ⟨[Si, Si], [Ol 3, Si], .d, ⟨[(150, F150.c), (168, F168.c), (169, F169.c), (170, F170.c)], gl, false⟩, [], f121⟩
noncomputable def F := u2 Kt
theorem rn x : H.u P_ x = F x := by kernel_rfl
noncomputable def c : Con := ⟨H.p, H.r, F⟩
theorem ok : ConOk P_ gl 121 c := co H func121 (.cons F150.ok (.cons F168.ok (.cons F169.ok (.cons F170.ok .nil)))) rn
end F121
namespace F229
noncomputable def H : Hd := ⟨[.agg [Si, Si], Sw], [Si], .d, ⟨[(151, F151.c), (167, F167.c)], gl, false⟩, [], f229⟩
noncomputable def F := u3 Abw
theorem rn x : H.u P_ x = F x := by kernel_rfl
noncomputable def c : Con := ⟨H.p, H.r, F⟩
theorem ok : ConOk P_ gl 229 c := co H func229 (.cons F151.ok (.cons F167.ok .nil)) rn
end F229
namespace F254
noncomputable def H : Hd := ⟨[Si, Sw], [Si], .d, ⟨[], gl, false⟩, [], f254⟩
noncomputable def F := u2 Agj
theorem rn x : H.u P_ x = F x := by kernel_rfl
noncomputable def c : Con := ⟨H.p, H.r, F⟩
theorem ok : ConOk P_ gl 254 c := co H func254 .nil rn
end F254
namespace F156
def Dk (a : LX) : Option (LX) :=
Amg a (
some ([] : LX)) (
(Dp ([] : LX) a).bind fun b =>
some b)
theorem Ji : @Dk = @Cf := by
  unfold Dk Cf
  repeat (refine funext fun _ => ?_)
  repeat' first
    | with_reducible rfl
    | with_reducible refine Fz ?_ ?_
    | with_reducible refine Gg ?_ ?_ ?_
    | with_reducible refine Fy ?_ ?_ ?_ ?_
    | ((with_reducible refine It ?_ ?_); focus (intro h; first | (subst h; rfl) | (simp only [h]; rfl) | (simp [Dp, Ac, h]; done)))
    | with_reducible refine Jd fun x => ?_
    | with_reducible refine Nt (fun _ => ?_) (fun _ => ?_)
    | (refine Du (fun h => by simp only [h, Jc, Cw, Cn, ite_self]) (fun x h => ?_); (try simp only [h, Cw]))
    | (refine Eu (fun h => ?_) (fun h => ?_) <;> simp only [h, if_true, if_false, Bool.false_eq_true])
noncomputable def H : Hd := ⟨[Sw], [Ow 21], .d, ⟨[], gl, false⟩, [], f156⟩
noncomputable def F := Cf
theorem rn x : H.u P_ x = F x := Eq.trans (b := Dk x) (by kernel_rfl) (by rw [Ji]; rfl)
noncomputable def c : Con := ⟨H.p, H.r, F⟩
theorem ok : ConOk P_ gl 156 c := co H func156 .nil rn
end F156
namespace F230
abbrev R_ := (LX × Int)
abbrev K_ := S → Option R_
noncomputable def H : Hd := ⟨[Si, Sw], [Ow 21, Si], (.seq .d (.seq .d (.seq .d (.cut [7] [] (.seq .d (.blk (.loop [0, 7, 8] [] (.seq .d (.cut [0, 7, 8] [] (.blk (.keep [0, 7, 8, 24, 25, 26, 27, 28, 29] true)) .d))))) .d)))), ⟨[(156, F156.c), (254, F254.c)], gl, true⟩, [(275, (.seq .d (.cut [0, 2] [] (.seq .d (.blk (.loop [0, 2, 7, 8] [] .d))) .d)))], f230⟩
def t17 (b a h : Int) (g : LX) : S := ⟨[(0, .view true 0 [] (.int .i32) a ((Aa a b) - a)), (2, vi (Ae ((Aa a b) - a) (1 : Int))), (7, vi (Ae ((Aa a b) - a) (1 : Int))), (8, vi h)], [Aw 21 g], [[(0, vi b), (7, .own 0), (8, vi a), (24, .own 0), (25, vi a), (26, vi a), (27, vi b), (28, vi (Aa a b)), (29, .view true 0 [] (.int .i32) a ((Aa a b) - a))]]⟩
def z17 (kn12 : K_) : Nat → S → Option R_ := H.i P_ [r,r,r,l,r,d,(lp kn12),r,l,d,(call 6 275),r,l,r,d]
def t12 (b a : Int) (f : LX) : S := ⟨[(0, vi b), (7, .own 0), (8, vi a)], [Aw 21 f], []⟩
def z12 : Nat → S → Option R_ := H.i P_ [r,r,r,l,r,d]
def x22 (f : LX) : Option R_ := H.e P_ [r,r,r,r] ⟨[(7, .own 0)], [Aw 21 f], []⟩
def x20 (kn12 : K_) (b a : Int) (k : LX) : Option R_ := H.e P_ [r,r,r,l,r,d,(lp kn12),r,r] ⟨[(0, vi b), (7, .own 0), (8, vi a)], [Aw 21 k], []⟩
def x19 (kn12 : K_) (b a : Int) (g : LX) : Option R_ := H.e P_ [r,r,r,l,r,d,(lp kn12),r,l,d,(call 6 275),r,r] ⟨[(0, .view true 0 [] (.int .i32) a ((Aa a b) - a)), (2, vi (Ae ((Aa a b) - a) (1 : Int)))], [Aw 21 g], [[(0, vi b), (7, .own 0), (8, vi a), (24, .own 0), (25, vi a), (26, vi a), (27, vi b), (28, vi (Aa a b)), (29, .view true 0 [] (.int .i32) a ((Aa a b) - a))]]⟩
def x17 (kn12 : K_) (b a h : Int) (g : LX) : Option R_ := H.e P_ [r,r,r,l,r,d,(lp kn12),r,l,d,(call 6 275),r,l,r,d] (t17 b a h g)
def x12 (b a : Int) (f : LX) : Option R_ := H.e P_ [r,r,r,l,r,d] (t12 b a f)
theorem e22 : x22 = Ahr := by kernel_rfl
theorem e20 (kn12 : K_) (b : Int) : x20 kn12 b = Aic (fun a f => kn12 (t12 b a f)) b := by kernel_rfl
theorem e19 (kn12 : K_) (b : Int) : x19 kn12 b = Agz (fun a f => kn12 (t12 b a f)) b := Eq.trans (b := Ahq (x20 kn12 b) b) (by kernel_rfl) (by simp only [e20] <;> rfl)
theorem i17 (kn12 : K_) (b a : Int) : ∀ (q : Nat) (h : Int) (g : LX), z17 kn12 q (t17 b a h g) = Wl (fun a f => kn12 (t12 b a f)) b a q h g :=
 ind (fun _ _ => by kernel_rfl) fun q ih h g => Eq.trans (b := Ahj (x19 kn12 b) (fun h g => (z17 kn12 q) (t17 b a h g)) b a h g) (by kernel_rfl) (by simp only [e19, ih] <;> rfl)
theorem e17 (kn12 : K_) (b : Int) : x17 kn12 b = Ah8 (fun a f => kn12 (t12 b a f)) b := by funext a h g; exact Eq.trans (by kernel_rfl) ((i17 kn12 b a Bg h g).trans (by rw [Aj]; rfl))
theorem i12 (b : Int) : ∀ (q : Nat) (a : Int) (f : LX), z12 q (t12 b a f) = Ze b q a f :=
 ind (fun _ _ => by kernel_rfl) fun q ih a f => Eq.trans (b := Ahp (x17 (z12 q) b) x22 b a f) (by kernel_rfl) (by simp only [e17, e22, ih] <;> rfl)
theorem e12 : x12 = Ahc := by funext b a f; exact Eq.trans (by kernel_rfl) ((i12 b Bg a f).trans (by rw [Aj]; rfl))
noncomputable def F := u2 Asq
theorem rn x : H.u P_ x = F x := Eq.trans (b := u2 (Ajc x12) x) (by kernel_rfl) (by simp only [e12] <;> rfl)
noncomputable def c : Con := ⟨H.p, H.r, F⟩
theorem ok : ConOk P_ gl 230 c := cr H func230 (.cons F156.ok (.cons F254.ok .nil)) (AnsOk.cons ent275 AnsOk.nil) rn
end F230
namespace F250
abbrev R_ := (Int × LX × LX × Int)
noncomputable def H : Hd := ⟨[Si, .lf (.vec 16 (.int .i32)) none], [.agg [Si, .lf (.vec 16 (.int .i32)) none, .lf (.vec 16 (.int .i32)) none], Si], (.seq .d (.seq .d (.seq (.seq .d (.blk (.cut [4, 6, 9, 11] [] .d .d))) .d))), ⟨[], gl, false⟩, [], f250⟩
def x2 (a : Int) (b : LX) (f : Bool) : Option R_ := H.e P_ [r,r,l,r,d,r] ⟨[(4, .ptr 0 []), (6, .ptr 1 []), (9, vi a), (11, vt f)], [.box 281 (.agg [vi 0, .val (.vec 16 (.int .i32)) (List.replicate 16 (0 : Int32)), .val (.vec 16 (.int .i32)) (List.replicate 16 (0 : Int32))]), .box 281 (.agg [vi 10, .val (.vec 16 (.int .i32)) b, .val (.vec 16 (.int .i32)) (List.replicate 16 (0 : Int32))])], []⟩
theorem e2 : x2 = Aha := by kernel_rfl
noncomputable def F := u2 Aj0
theorem rn x : H.u P_ x = F x := Eq.trans (b := u2 (Ag6 x2) x) (by kernel_rfl) (by simp only [e2] <;> rfl)
noncomputable def c : Con := ⟨H.p, H.r, F⟩
theorem ok : ConOk P_ gl 250 c := co H func250 .nil rn
end F250
namespace F209
noncomputable def H : Hd := ⟨[Si, .lf (.vec 16 (.int .i32)) none], [.agg [Si, Sx, .agg [Si, .lf (.vec 16 (.int .i32)) none, .lf (.vec 16 (.int .i32)) none]], Si], .d, ⟨[(250, F250.c)], gl, false⟩, [], f209⟩
noncomputable def F := u2 Agx
theorem rn x : H.u P_ x = F x := by kernel_rfl
noncomputable def c : Con := ⟨H.p, H.r, F⟩
theorem ok : ConOk P_ gl 209 c := co H func209 (.cons F250.ok .nil) rn
end F209
namespace F251
noncomputable def H : Hd := ⟨[.agg [Si, Sx, .agg [Si, .lf (.vec 16 (.int .i32)) none, .lf (.vec 16 (.int .i32)) none]]], [Si], .d, ⟨[(250, F250.c)], gl, false⟩, [], f251⟩
noncomputable def F := u5 Km
theorem rn x : H.u P_ x = F x := by kernel_rfl
noncomputable def c : Con := ⟨H.p, H.r, F⟩
theorem ok : ConOk P_ gl 251 c := co H func251 (.cons F250.ok .nil) rn
end F251
namespace F285
noncomputable def H : Hd := ⟨[Si], [Si, Si], .d, ⟨[], gl, false⟩, [], f285⟩
noncomputable def F := Ahb
theorem rn x : H.u P_ x = F x := by kernel_rfl
noncomputable def c : Con := ⟨H.p, H.r, F⟩
theorem ok : ConOk P_ gl 285 c := co H func285 .nil rn
end F285
namespace F286
noncomputable def H : Hd := ⟨[Si, Sx], [Sx], .d, ⟨[], gl, false⟩, [], f286⟩
noncomputable def F := u2 Ag2
theorem rn x : H.u P_ x = F x := by kernel_rfl
noncomputable def c : Con := ⟨H.p, H.r, F⟩
theorem ok : ConOk P_ gl 286 c := co H func286 .nil rn
end F286
namespace F252
noncomputable def H : Hd := ⟨[Si, Sx], [Sx, Si], .d, ⟨[(285, F285.c), (286, F286.c)], gl, false⟩, [], f252⟩
noncomputable def F := u2 Ko
theorem rn x : H.u P_ x = F x := by kernel_rfl
noncomputable def c : Con := ⟨H.p, H.r, F⟩
theorem ok : ConOk P_ gl 252 c := co H func252 (.cons F285.ok (.cons F286.ok .nil)) rn
end F252
namespace F305
noncomputable def H : Hd := ⟨[.agg [Si, .lf (.vec 16 (.int .i32)) none, .lf (.vec 16 (.int .i32)) none]], [Si], .d, ⟨[], gl, false⟩, [], f305⟩
noncomputable def F := u3 Nf
theorem rn x : H.u P_ x = F x := by kernel_rfl
noncomputable def c : Con := ⟨H.p, H.r, F⟩
theorem ok : ConOk P_ gl 305 c := co H func305 .nil rn
end F305
namespace F287
abbrev R_ := (Int32 × Int)
noncomputable def H : Hd := ⟨[.agg [Si, .lf (.vec 16 (.int .i32)) none, .lf (.vec 16 (.int .i32)) none]], [Sx, Si], (.seq .d (.seq .d (.seq .d (.cut [1, 5] [] (.seq .d (.blk (.loop [1, 5, 18, 19] [] .d))) .d)))), ⟨[(305, F305.c)], gl, false⟩, [], f287⟩
def t4 (b : LX) (a : Int) (f : LX) (g : Int32) (h : Int) : S := ⟨[(1, .ptr 0 []), (5, vx g), (18, .val (.vec 16 (.int .i32)) b), (19, vi h)], [.box 281 (.agg [vi a, .val (.vec 16 (.int .i32)) b, .val (.vec 16 (.int .i32)) f])], []⟩
def z4 : Nat → S → Option R_ := H.i P_ [r,r,r,l,r,d]
def x6 (g : Int32) (a : Int) (b f : LX) : Option R_ := H.e P_ [r,r,r,r] ⟨[(1, .ptr 0 []), (5, vx g)], [.box 281 (.agg [vi a, .val (.vec 16 (.int .i32)) b, .val (.vec 16 (.int .i32)) f])], []⟩
def x4 (b : LX) (a : Int) (f : LX) (g : Int32) (h : Int) : Option R_ := H.e P_ [r,r,r,l,r,d] (t4 b a f g h)
theorem e6 : x6 = Acq := by kernel_rfl
theorem i4 (b : LX) (a : Int) (f : LX) : ∀ (q : Nat) (g : Int32) (h : Int), z4 q (t4 b a f g h) = Qf b a f q g h :=
 ind (fun _ _ => by kernel_rfl) fun q ih g h => Eq.trans (b := Abf x6 (fun g h => (z4 q) (t4 b a f g h)) b a f g h) (by kernel_rfl) (by simp only [e6, ih] <;> rfl)
theorem e4 : x4 = Ach := by funext b a f g h; exact Eq.trans (by kernel_rfl) ((i4 b a f Bg g h).trans (by rw [Aj]; rfl))
noncomputable def F := u3 Adg
theorem rn x : H.u P_ x = F x := Eq.trans (b := u3 (Abj x4) x) (by kernel_rfl) (by simp only [e4] <;> rfl)
noncomputable def c : Con := ⟨H.p, H.r, F⟩
theorem ok : ConOk P_ gl 287 c := co H func287 (.cons F305.ok .nil) rn
end F287
namespace F319
noncomputable def H : Hd := ⟨[Si], [Sx], .d, ⟨[], gl, false⟩, [], f319⟩
noncomputable def F := Agg
theorem rn x : H.u P_ x = F x := by kernel_rfl
noncomputable def c : Con := ⟨H.p, H.r, F⟩
theorem ok : ConOk P_ gl 319 c := co H func319 .nil rn
end F319
namespace F306
abbrev R_ := (Int × LX × LX × Int)
noncomputable def H : Hd := ⟨[.agg [Si, .lf (.vec 16 (.int .i32)) none, .lf (.vec 16 (.int .i32)) none], Sx], [.agg [Si, .lf (.vec 16 (.int .i32)) none, .lf (.vec 16 (.int .i32)) none], Si], (.seq .d (.seq .d (.seq .d (.cut [2, 4] [] (.seq .d (.blk (.loop [1, 2, 4, 19, 20] [] .d))) .d)))), ⟨[(305, F305.c), (319, F319.c)], gl, false⟩, [], f306⟩
def t4 (h : Int32) (f : LX) (g a : Int) (b : LX) : S := ⟨[(1, vx h), (2, .ptr 0 []), (4, .ptr 1 []), (19, .val (.vec 16 (.int .i32)) f), (20, vi a)], [.box 281 (.agg [vi g, .val (.vec 16 (.int .i32)) b, .val (.vec 16 (.int .i32)) f]), .box 281 (.agg [vi 0, .val (.vec 16 (.int .i32)) (List.replicate 16 (0 : Int32)), .val (.vec 16 (.int .i32)) (List.replicate 16 (0 : Int32))])], []⟩
def z4 : Nat → S → Option R_ := H.i P_ [r,r,r,l,r,d]
def x6 (g : Int) (b f : LX) : Option R_ := H.e P_ [r,r,r,r] ⟨[(2, .ptr 0 []), (4, .ptr 1 [])], [.box 281 (.agg [vi g, .val (.vec 16 (.int .i32)) b, .val (.vec 16 (.int .i32)) f]), .box 281 (.agg [vi 0, .val (.vec 16 (.int .i32)) (List.replicate 16 (0 : Int32)), .val (.vec 16 (.int .i32)) (List.replicate 16 (0 : Int32))])], []⟩
def x4 (h : Int32) (f : LX) (g a : Int) (b : LX) : Option R_ := H.e P_ [r,r,r,l,r,d] (t4 h f g a b)
theorem e6 : x6 = Ab7 := by kernel_rfl
theorem i4 (h : Int32) (f : LX) (g : Int) : ∀ (q : Nat) (a : Int) (b : LX), z4 q (t4 h f g a b) = Qj h f g q a b :=
 ind (fun _ _ => by kernel_rfl) fun q ih a b => Eq.trans (b := Ab1 x6 (fun a b => (z4 q) (t4 h f g a b)) h f g a b) (by kernel_rfl) (by simp only [e6, ih] <;> rfl)
theorem e4 : x4 = Abv := by funext h f g a b; exact Eq.trans (by kernel_rfl) ((i4 h f g Bg a b).trans (by rw [Aj]; rfl))
noncomputable def F := u4 Ai7
theorem rn x : H.u P_ x = F x := Eq.trans (b := u4 (Abm x4) x) (by kernel_rfl) (by simp only [e4] <;> rfl)
noncomputable def c : Con := ⟨H.p, H.r, F⟩
theorem ok : ConOk P_ gl 306 c := co H func306 (.cons F305.ok (.cons F319.ok .nil)) rn
end F306
namespace F307
def Qi (j2 : Int32 → Int → LX → LX → Option (Int × LX × LX × Int)) (b : Int) (f a : LX) (g : Int32) : Option (Int × LX × LX × Int) :=
(Nf b f a).bind fun h =>
if (Bf h 0) then
some (0, (List.replicate 16 (0 : Int32)), (List.replicate 16 (0 : Int32)), h)
else
both (
(vwI 16 1 16).bind fun _ =>
(vwI 16 0 16).bind fun _ =>
j2 g b f a) [
(vwI 16 0 16).bind fun _ =>
(vwI 16 1 16).bind fun _ =>
j2 g b f a]
theorem Agy : @Qi = @Sr := by
  unfold Qi Sr
  repeat (refine funext fun _ => ?_)
  repeat' first
    | with_reducible rfl
    | with_reducible refine Fz ?_ ?_
    | with_reducible refine Gg ?_ ?_ ?_
    | with_reducible refine Fy ?_ ?_ ?_ ?_
    | ((with_reducible refine It ?_ ?_); focus (intro h; first | (subst h; rfl) | (simp only [h]; rfl) | (simp [Dp, Ac, h]; done)))
    | with_reducible refine Jd fun x => ?_
    | with_reducible refine Nt (fun _ => ?_) (fun _ => ?_)
    | (refine Du (fun h => by simp only [h, Jc, Cw, Cn, ite_self]) (fun x h => ?_); (try simp only [h, Cw]))
    | (refine Eu (fun h => ?_) (fun h => ?_) <;> simp only [h, if_true, if_false, Bool.false_eq_true])
abbrev R_ := (Int × LX × LX × Int)
noncomputable def H : Hd := ⟨[.agg [Si, .lf (.vec 16 (.int .i32)) none, .lf (.vec 16 (.int .i32)) none], Sx], [.agg [Si, .lf (.vec 16 (.int .i32)) none, .lf (.vec 16 (.int .i32)) none], Si], (.seq .d (.seq .d (.cut [1, 2, 4] [] .d .d))), ⟨[(305, F305.c)], gl, false⟩, [], f307⟩
def x2 (g : Int32) (b : Int) (f a : LX) : Option R_ := H.e P_ [r,r,r] ⟨[(1, vx g), (2, .ptr 0 []), (4, .ptr 1 [])], [.box 281 (.agg [vi b, .val (.vec 16 (.int .i32)) f, .val (.vec 16 (.int .i32)) (Hc a (1 : Int) ((16 : Int) - (1 : Int)) (Vr a (0 : Int) ((16 : Int) - (0 : Int))))]), .box 281 (.agg [vi 0, .val (.vec 16 (.int .i32)) (List.replicate 16 (0 : Int32)), .val (.vec 16 (.int .i32)) (List.replicate 16 (0 : Int32))])], []⟩
theorem e2 : x2 = Aen := by kernel_rfl
noncomputable def F := u4 Amv
theorem rn x : H.u P_ x = F x := Eq.trans (b := u4 (Qi x2) x) (by kernel_rfl) (by unfold F; rw [Agy]; simp only [e2] <;> rfl)
noncomputable def c : Con := ⟨H.p, H.r, F⟩
theorem ok : ConOk P_ gl 307 c := co H func307 (.cons F305.ok .nil) rn
end F307
namespace F288
noncomputable def H : Hd := ⟨[.agg [Si, .lf (.vec 16 (.int .i32)) none, .lf (.vec 16 (.int .i32)) none], Sx, Sx], [.agg [Si, .lf (.vec 16 (.int .i32)) none, .lf (.vec 16 (.int .i32)) none]], .d, ⟨[(306, F306.c), (307, F307.c)], gl, false⟩, [], f288⟩
noncomputable def F := u5 Adn
theorem rn x : H.u P_ x = F x := by kernel_rfl
noncomputable def c : Con := ⟨H.p, H.r, F⟩
theorem ok : ConOk P_ gl 288 c := co H func288 (.cons F306.ok (.cons F307.ok .nil)) rn
end F288
namespace F276
noncomputable def H : Hd := ⟨[.agg [Si, .lf (.vec 16 (.int .i32)) none, .lf (.vec 16 (.int .i32)) none], Sx], [Sx, .agg [Si, .lf (.vec 16 (.int .i32)) none, .lf (.vec 16 (.int .i32)) none], Si], .d, ⟨[(287, F287.c), (288, F288.c)], gl, false⟩, [], f276⟩
noncomputable def F := u4 Yk
theorem rn x : H.u P_ x = F x := by kernel_rfl
noncomputable def c : Con := ⟨H.p, H.r, F⟩
theorem ok : ConOk P_ gl 276 c := co H func276 (.cons F287.ok (.cons F288.ok .nil)) rn
end F276
namespace F231
def Ja (a : Int) (b : Int32) (f : Int) (g h : LX) (k : Int32) : Option (Int32 × Int × Int32 × Int × LX × LX × Int) :=
(Km a b f g h).bind fun m =>
if (Bf m 0) then
some (0, 0, 0, 0, (List.replicate 16 (0 : Int32)), (List.replicate 16 (0 : Int32)), m)
else
(Ko a b).bind fun (n, y) =>
(Yk f g h (Ae k n)).bind fun (o, p, u, v, w) =>
bo (
some (o, a, k, p, u, v, w))
theorem Xg : @Ja = @Kc := by
  unfold Ja Kc
  simp only [Ahw, Xl, Aaf]
noncomputable def H : Hd := ⟨[.agg [Si, Sx, .agg [Si, .lf (.vec 16 (.int .i32)) none, .lf (.vec 16 (.int .i32)) none]], Sx], [Sx, .agg [Si, Sx, .agg [Si, .lf (.vec 16 (.int .i32)) none, .lf (.vec 16 (.int .i32)) none]], Si], (.seq .d (.seq .d (.seq .d (.seq .d (.seq (.mode false) .d))))), ⟨[(251, F251.c), (252, F252.c), (276, F276.c)], gl, false⟩, [], f231⟩
noncomputable def F := u6 Kc
theorem rn x : H.u P_ x = F x := Eq.trans (b := u6 Ja x) (by kernel_rfl) (by rw [Xg]; rfl)
noncomputable def c : Con := ⟨H.p, H.r, F⟩
theorem ok : ConOk P_ gl 231 c := co H func231 (.cons F251.ok (.cons F252.ok (.cons F276.ok .nil))) rn
end F231
namespace F232
noncomputable def H : Hd := ⟨[Sx], [Su], .d, ⟨[], gl, false⟩, [], f232⟩
noncomputable def F := Amp
theorem rn x : H.u P_ x = F x := by kernel_rfl
noncomputable def c : Con := ⟨H.p, H.r, F⟩
theorem ok : ConOk P_ gl 232 c := co H func232 .nil rn
end F232
namespace F188
abbrev R_ := (LU × Int)
noncomputable def H : Hd := ⟨[.agg [Si, Si], .lf (.vec 16 (.int .i32)) none, Sw], [Ov 23, Si], (.seq .d (.seq .d (.seq .d (.seq .d (.seq .d (.cut [3, 9, 11] [] (.seq .d (.blk (.loop [3, 4, 9, 11, 36] [] .d))) (.seq .d (.cut [13] [] (.seq .d (.blk (.loop [3, 11, 13, 49, 50, 51] [⟨13, [], .own 23 (.int .u32)⟩] .d))) .d)))))))), ⟨[(209, F209.c), (229, F229.c), (230, F230.c), (231, F231.c), (232, F232.c)], gl, false⟩, [], f188⟩
def t10 (b : LX) (a f g : Int) (o : List (Int × Int32 × (Int × LX × LX × Unit) × Unit)) (k : LU) : S := ⟨[(3, .ptr 0 []), (11, .ptr 1 []), (13, .own 2), (49, .own 3), (50, vi (Ac b)), (51, vi g)], [.box 69 (.agg [vi a, vi f]), .box 284 (.val (.vec 6 (.cons (.int .i64) (.cons (.int .i32) (.cons (.cons (.int .i64) (.cons (.vec 16 (.int .i32)) (.cons (.vec 16 (.int .i32)) .nil))) .nil)))) o), Av 23 k, Aw 21 b], []⟩
def z10 : Nat → S → Option R_ := H.i P_ [r,r,r,r,r,r,r,l,r,d]
def t7 (a f : Int) (m b : LX) (n : Int) (h : List (Int × Int32 × (Int × LX × LX × Unit) × Unit)) : S := ⟨[(3, .ptr 0 []), (4, .ptr 1 []), (9, .own 2), (11, .ptr 3 []), (36, vi n)], [.box 69 (.agg [vi a, vi f]), .box 164 (.val (.vec 16 (.int .i32)) m), Aw 21 b, .box 284 (.val (.vec 6 (.cons (.int .i64) (.cons (.int .i32) (.cons (.cons (.int .i64) (.cons (.vec 16 (.int .i32)) (.cons (.vec 16 (.int .i32)) .nil))) .nil)))) h)], []⟩
def z7 : Nat → S → Option R_ := H.i P_ [r,r,r,r,r,l,r,d]
def x12 (k : LU) : Option R_ := H.e P_ [r,r,r,r,r,r,r,r] ⟨[(13, .own 0)], [Av 23 k], []⟩
def x10 (b : LX) (a f g : Int) (o : List (Int × Int32 × (Int × LX × LX × Unit) × Unit)) (k : LU) : Option R_ := H.e P_ [r,r,r,r,r,r,r,l,r,d] (t10 b a f g o k)
def x9 (a f : Int) (b : LX) (h : List (Int × Int32 × (Int × LX × LX × Unit) × Unit)) : Option R_ := H.e P_ [r,r,r,r,r,r] ⟨[(3, .ptr 0 []), (9, .own 1), (11, .ptr 2 [])], [.box 69 (.agg [vi a, vi f]), Aw 21 b, .box 284 (.val (.vec 6 (.cons (.int .i64) (.cons (.int .i32) (.cons (.cons (.int .i64) (.cons (.vec 16 (.int .i32)) (.cons (.vec 16 (.int .i32)) .nil))) .nil)))) h)], []⟩
def x7 (a f : Int) (m b : LX) (n : Int) (h : List (Int × Int32 × (Int × LX × LX × Unit) × Unit)) : Option R_ := H.e P_ [r,r,r,r,r,l,r,d] (t7 a f m b n h)
theorem e12 : x12 = Mn := by kernel_rfl
theorem i10 (b : LX) (a f : Int) : ∀ (q : Nat) (g : Int) (o : List (Int × Int32 × (Int × LX × LX × Unit) × Unit)) (k : LU), z10 q (t10 b a f g o k) = Ig b a f q g o k :=
 ind (fun _ _ _ => by kernel_rfl) fun q ih g o k => Eq.trans (b := Mk x12 (fun g o k => (z10 q) (t10 b a f g o k)) b a f g o k) (by kernel_rfl) (by simp only [e12, ih] <;> rfl)
theorem e10 : x10 = Mz := by funext b a f g o k; exact Eq.trans (by kernel_rfl) ((i10 b a f Bg g o k).trans (by rw [Aj]; rfl))
theorem e9 : x9 = Pk := Eq.trans (b := Pa x10) (by kernel_rfl) (by simp only [e10] <;> rfl)
theorem i7 (a f : Int) (m b : LX) : ∀ (q : Nat) (n : Int) (h : List (Int × Int32 × (Int × LX × LX × Unit) × Unit)), z7 q (t7 a f m b n h) = Jb a f m b q n h :=
 ind (fun _ _ => by kernel_rfl) fun q ih n h => Eq.trans (b := Ou x9 (fun n h => (z7 q) (t7 a f m b n h)) a f m b n h) (by kernel_rfl) (by simp only [e9, ih] <;> rfl)
theorem e7 : x7 = Pn := by funext a f m b n h; exact Eq.trans (by kernel_rfl) ((i7 a f m b Bg n h).trans (by rw [Aj]; rfl))
noncomputable def F := u4 Vw
theorem rn x : H.u P_ x = F x := Eq.trans (b := u4 (Pd x7) x) (by kernel_rfl) (by simp only [e7] <;> rfl)
noncomputable def c : Con := ⟨H.p, H.r, F⟩
theorem ok : ConOk P_ gl 188 c := co H func188 (.cons F209.ok (.cons F229.ok (.cons F230.ok (.cons F231.ok (.cons F232.ok .nil))))) rn
end F188
namespace F204
noncomputable def H : Hd := ⟨[], [.agg [Si, Si, Sq, Sq]], .d, ⟨[], gl, false⟩, [], f204⟩
noncomputable def F (x : Unit) := Adq
theorem rn x : H.u P_ x = F x := by kernel_rfl
noncomputable def c : Con := ⟨H.p, H.r, F⟩
theorem ok : ConOk P_ gl 204 c := co H func204 .nil rn
end F204
namespace F189
abbrev R_ := ((List (Int × Int × UInt64 × UInt64 × Unit)))
noncomputable def H : Hd := ⟨[], [.lf (.vec 6 (.cons (.int .i64) (.cons (.int .i64) (.cons (.int .u64) (.cons (.int .u64) .nil))))) none], (.seq .d (.seq .d (.cut [0, 1] [] (.seq .d (.blk (.loop [0, 1, 3] [] .d))) .d))), ⟨[(204, F204.c)], gl, false⟩, [], f189⟩
def t4 (b : Int) (a : List (Int × Int × UInt64 × UInt64 × Unit)) : S := ⟨[(0, .ptr 0 []), (1, .ptr 1 []), (3, vi b)], [.box 259 (.val (.vec 6 (.cons (.int .i64) (.cons (.int .i64) (.cons (.int .u64) (.cons (.int .u64) .nil))))) (List.replicate 6 ((0 : Int), (0 : Int), (0 : UInt64), (0 : UInt64), ()))), .box 259 (.val (.vec 6 (.cons (.int .i64) (.cons (.int .i64) (.cons (.int .u64) (.cons (.int .u64) .nil))))) a)], []⟩
def z4 : Nat → S → Option R_ := H.i P_ [r,r,l,r,d]
def x6 (a : List (Int × Int × UInt64 × UInt64 × Unit)) : Option R_ := H.e P_ [r,r,r] ⟨[(0, .ptr 0 []), (1, .ptr 1 [])], [.box 259 (.val (.vec 6 (.cons (.int .i64) (.cons (.int .i64) (.cons (.int .u64) (.cons (.int .u64) .nil))))) (List.replicate 6 ((0 : Int), (0 : Int), (0 : UInt64), (0 : UInt64), ()))), .box 259 (.val (.vec 6 (.cons (.int .i64) (.cons (.int .i64) (.cons (.int .u64) (.cons (.int .u64) .nil))))) a)], []⟩
def x4 (b : Int) (a : List (Int × Int × UInt64 × UInt64 × Unit)) : Option R_ := H.e P_ [r,r,l,r,d] (t4 b a)
theorem e6 : x6 = Pc := by kernel_rfl
theorem i4 : ∀ (q : Nat) (b : Int) (a : List (Int × Int × UInt64 × UInt64 × Unit)), z4 q (t4 b a) = Jf q b a :=
 ind (fun _ _ => by kernel_rfl) fun q ih b a => Eq.trans (b := Pg x6 (fun b a => (z4 q) (t4 b a)) b a) (by kernel_rfl) (by simp only [e6, ih] <;> rfl)
theorem e4 : x4 = Ps := by funext b a; exact Eq.trans (by kernel_rfl) ((i4 Bg b a).trans (by rw [Aj]; rfl))
noncomputable def F (x : Unit) := Aah
theorem rn x : H.u P_ x = F x := Eq.trans (b := Oz x4) (by kernel_rfl) (by simp only [e4] <;> rfl)
noncomputable def c : Con := ⟨H.p, H.r, F⟩
theorem ok : ConOk P_ gl 189 c := co H func189 (.cons F204.ok .nil) rn
end F189
namespace F207
noncomputable def H : Hd := ⟨[.agg [Sb, Si]], [Si], .d, ⟨[], gl, false⟩, [], f207⟩
noncomputable def F := u2 Dy
theorem rn x : H.u P_ x = F x := by kernel_rfl
noncomputable def c : Con := ⟨H.p, H.r, F⟩
theorem ok : ConOk P_ gl 207 c := co H func207 .nil rn
end F207
namespace F233
def Mv (j4 : Int → Int → UInt64 → UInt64 → Option Int) (a b : Int) (f g : UInt64) : Option Int :=
both (
bo (
j4 a b f g)) [
j4 a b f g]
theorem Aeh : @Mv = @Qm := by
  unfold Mv Qm
  repeat (refine funext fun _ => ?_)
  repeat' first
    | with_reducible rfl
    | with_reducible refine Fz ?_ ?_
    | with_reducible refine Gg ?_ ?_ ?_
    | with_reducible refine Fy ?_ ?_ ?_ ?_
    | ((with_reducible refine It ?_ ?_); focus (intro h; first | (subst h; rfl) | (simp only [h]; rfl) | (simp [Dp, Ac, h]; done)))
    | with_reducible refine Jd fun x => ?_
    | with_reducible refine Nt (fun _ => ?_) (fun _ => ?_)
    | (refine Du (fun h => by simp only [h, Jc, Cw, Cn, ite_self]) (fun x h => ?_); (try simp only [h, Cw]))
    | (refine Eu (fun h => ?_) (fun h => ?_) <;> simp only [h, if_true, if_false, Bool.false_eq_true])
def Mw (j3 : Int → Int → UInt64 → UInt64 → Option Int) (a b : Int) (f g : UInt64) : Option Int :=
both (
bo (
j3 a b f g)) [
j3 a b f g]
theorem Af1 : @Mw = @Pu := by
  unfold Mw Pu
  repeat (refine funext fun _ => ?_)
  repeat' first
    | with_reducible rfl
    | with_reducible refine Fz ?_ ?_
    | with_reducible refine Gg ?_ ?_ ?_
    | with_reducible refine Fy ?_ ?_ ?_ ?_
    | ((with_reducible refine It ?_ ?_); focus (intro h; first | (subst h; rfl) | (simp only [h]; rfl) | (simp [Dp, Ac, h]; done)))
    | with_reducible refine Jd fun x => ?_
    | with_reducible refine Nt (fun _ => ?_) (fun _ => ?_)
    | (refine Du (fun h => by simp only [h, Jc, Cw, Cn, ite_self]) (fun x h => ?_); (try simp only [h, Cw]))
    | (refine Eu (fun h => ?_) (fun h => ?_) <;> simp only [h, if_true, if_false, Bool.false_eq_true])
abbrev R_ := Int
noncomputable def H : Hd := ⟨[.agg [Si, Si, Sq, Sq]], [Si], (.seq .d (.seq .d (.cut [1, 3] [] (.mode false) (.cut [1, 3] [] (.mode false) .d)))), ⟨[], gl, false⟩, [], f233⟩
def x4 (a b : Int) (f g : UInt64) : Option R_ := H.e P_ [r,r,r,r] ⟨[(1, .ptr 0 []), (3, .ptr 1 [])], [.box 258 (.agg [vi a, vi b, vq f, vq g]), .box 258 (.agg [vi (Cx (Amn a (0 : Int)) (24 : Int)), vi (Cx (Amn b (0 : Int)) (24 : Int)), vq (Cx f (68719476735 : UInt64)), vq (Cx g (68719476735 : UInt64))])], []⟩
def x3 (a b : Int) (f g : UInt64) : Option R_ := H.e P_ [r,r,r] ⟨[(1, .ptr 0 []), (3, .ptr 1 [])], [.box 258 (.agg [vi a, vi b, vq f, vq g]), .box 258 (.agg [vi (Cx (Amn a (0 : Int)) (24 : Int)), vi (Cx (Amn b (0 : Int)) (24 : Int)), vq f, vq g])], []⟩
theorem e4 : x4 = Aby := by kernel_rfl
theorem e3 : x3 = Acj := Eq.trans (b := Mv x4) (by kernel_rfl) (by rw [Aeh]; simp only [e4] <;> rfl)
noncomputable def F := u4 Ac6
theorem rn x : H.u P_ x = F x := Eq.trans (b := u4 (Mw x3) x) (by kernel_rfl) (by unfold F; rw [Af1]; simp only [e3] <;> rfl)
noncomputable def c : Con := ⟨H.p, H.r, F⟩
theorem ok : ConOk P_ gl 233 c := co H func233 .nil rn
end F233
namespace F234
noncomputable def H : Hd := ⟨[.agg [Si, Si, Sq, Sq], Su], [Si, Su], .d, ⟨[], gl, false⟩, [], f234⟩
noncomputable def F := u5 Rs
theorem rn x : H.u P_ x = F x := by kernel_rfl
noncomputable def c : Con := ⟨H.p, H.r, F⟩
theorem ok : ConOk P_ gl 234 c := co H func234 .nil rn
end F234
namespace F107
def Dz (a : LB) : Option (LB) :=
Amg a (
some ([] : LB)) (
(Dp ([] : LB) a).bind fun b =>
some b)
theorem Ks : @Dz = @Cs := by
  unfold Dz Cs
  repeat (refine funext fun _ => ?_)
  repeat' first
    | with_reducible rfl
    | with_reducible refine Fz ?_ ?_
    | with_reducible refine Gg ?_ ?_ ?_
    | with_reducible refine Fy ?_ ?_ ?_ ?_
    | ((with_reducible refine It ?_ ?_); focus (intro h; first | (subst h; rfl) | (simp only [h]; rfl) | (simp [Dp, Ac, h]; done)))
    | with_reducible refine Jd fun x => ?_
    | with_reducible refine Nt (fun _ => ?_) (fun _ => ?_)
    | (refine Du (fun h => by simp only [h, Jc, Cw, Cn, ite_self]) (fun x h => ?_); (try simp only [h, Cw]))
    | (refine Eu (fun h => ?_) (fun h => ?_) <;> simp only [h, if_true, if_false, Bool.false_eq_true])
noncomputable def H : Hd := ⟨[Sb], [Ob 5], .d, ⟨[], gl, false⟩, [], f107⟩
noncomputable def F := Cs
theorem rn x : H.u P_ x = F x := Eq.trans (b := Dz x) (by kernel_rfl) (by rw [Ks]; rfl)
noncomputable def c : Con := ⟨H.p, H.r, F⟩
theorem ok : ConOk P_ gl 107 c := co H func107 .nil rn
end F107
namespace F277
noncomputable def H : Hd := ⟨[.agg [Sb, Si]], [.agg [Ob 5, Si]], .d, ⟨[(107, F107.c)], gl, false⟩, [], f277⟩
noncomputable def F := u2 Age
theorem rn x : H.u P_ x = F x := by kernel_rfl
noncomputable def c : Con := ⟨H.p, H.r, F⟩
theorem ok : ConOk P_ gl 277 c := co H func277 (.cons F107.ok .nil) rn
end F277
namespace F235
abbrev R_ := (LB × Int × Int)
abbrev K_ := S → Option R_
noncomputable def H : Hd := ⟨[.agg [Sb, Si], Sq, Si], [.agg [Ob 5, Si], Si], (.seq .d (.seq .d (.seq .d (.cut [3, 6] [] (.keep [1, 2, 3, 6, 40, 41] true) .d)))), ⟨[(207, F207.c), (277, F277.c)], gl, false⟩, [(248, (.blk (.loop [0, 1, 2] [] (.seq .d (.blk (.cut [0, 1, 2] [] .d (.seq .d (.cut [0, 1, 2, 7] [] .d .d))))))))], f235⟩
def t15 (b : UInt64) (a : Int) (m : UInt64) (h f : Int) (o : LB) : S := ⟨[(0, .ptr 0 []), (1, vq m), (2, vi h)], [.box 224 (.agg [.own 2, vi f]), .box 224 (.agg [.nils, vi 0]), Ab 5 o], [[(1, vq b), (2, vi a), (3, .ptr 0 []), (6, .ptr 1 []), (40, vq b), (41, vi a)]]⟩
def z15 : Nat → S → Option R_ := H.i P_ [r,r,r,l,(call 2 248),d]
def t22 (b : UInt64) (a : Int) (n : UInt64) (k g : Int) (p : LB) : S := ⟨[(0, .ptr 0 []), (1, vq n), (2, vi k)], [.box 224 (.agg [.own 2, vi g]), .box 224 (.agg [.nils, vi 0]), Ab 5 p], [[(1, vq b), (2, vi a), (3, .ptr 0 []), (6, .ptr 1 []), (40, vq b), (41, vi a)]]⟩
def z22 : Nat → S → Option R_ := H.i P_ [r,r,r,l,(call 2 248),d]
def x21 (f : Int) (o : LB) : Option R_ := H.e P_ [r,r,r,r] ⟨[(3, .ptr 0 []), (6, .ptr 1 [])], [.box 224 (.agg [.own 2, vi f]), .box 224 (.agg [.nils, vi 0]), Ab 5 o], []⟩
def x19 (kn15 : K_) (b : UInt64) (a : Int) (m : UInt64) (h f : Int) (w : LB) : Option R_ := H.e P_ [r,r,r,l,(call 2 248),d,(lp kn15),r,d,r,r,r] ⟨[(0, .ptr 0 []), (1, vq m), (2, vi h), (7, vi (Cx h (Ae (8 : Int) (Cj f (7 : Int)))))], [.box 224 (.agg [.own 2, vi f]), .box 224 (.agg [.nils, vi 0]), Ab 5 w], [[(1, vq b), (2, vi a), (3, .ptr 0 []), (6, .ptr 1 []), (40, vq b), (41, vi a)]]⟩
def x18 (kn15 : K_) (b : UInt64) (a : Int) (m : UInt64) (h f : Int) (u : LB) : Option R_ := H.e P_ [r,r,r,l,(call 2 248),d,(lp kn15),r,d,r] ⟨[(0, .ptr 0 []), (1, vq m), (2, vi h)], [.box 224 (.agg [.own 2, vi f]), .box 224 (.agg [.nils, vi 0]), Ab 5 u], [[(1, vq b), (2, vi a), (3, .ptr 0 []), (6, .ptr 1 []), (40, vq b), (41, vi a)]]⟩
def x15 (b : UInt64) (a : Int) (m : UInt64) (h f : Int) (o : LB) : Option R_ := H.e P_ [r,r,r,l,(call 2 248),d] (t15 b a m h f o)
def x28 (g : Int) (p : LB) : Option R_ := H.e P_ [r,r,r,r] ⟨[(3, .ptr 0 []), (6, .ptr 1 [])], [.box 224 (.agg [.own 2, vi g]), .box 224 (.agg [.nils, vi 0]), Ab 5 p], []⟩
def x26 (kn22 : K_) (b : UInt64) (a : Int) (n : UInt64) (k g : Int) (y : LB) : Option R_ := H.e P_ [r,r,r,l,(call 2 248),d,(lp kn22),r,d,r,r,r] ⟨[(0, .ptr 0 []), (1, vq n), (2, vi k), (7, vi (Cx k (Ae (8 : Int) (Cj g (7 : Int)))))], [.box 224 (.agg [.own 2, vi g]), .box 224 (.agg [.nils, vi 0]), Ab 5 y], [[(1, vq b), (2, vi a), (3, .ptr 0 []), (6, .ptr 1 []), (40, vq b), (41, vi a)]]⟩
def x25 (kn22 : K_) (b : UInt64) (a : Int) (n : UInt64) (k g : Int) (v : LB) : Option R_ := H.e P_ [r,r,r,l,(call 2 248),d,(lp kn22),r,d,r] ⟨[(0, .ptr 0 []), (1, vq n), (2, vi k)], [.box 224 (.agg [.own 2, vi g]), .box 224 (.agg [.nils, vi 0]), Ab 5 v], [[(1, vq b), (2, vi a), (3, .ptr 0 []), (6, .ptr 1 []), (40, vq b), (41, vi a)]]⟩
def x22 (b : UInt64) (a : Int) (n : UInt64) (k g : Int) (p : LB) : Option R_ := H.e P_ [r,r,r,l,(call 2 248),d] (t22 b a n k g p)
theorem e21 : x21 = Aff := by kernel_rfl
theorem e19 (kn15 : K_) (b : UInt64) (a : Int) : x19 kn15 b a = Afp (fun m h f o => kn15 (t15 b a m h f o)) b a := by kernel_rfl
theorem e18 (kn15 : K_) (b : UInt64) (a : Int) : x18 kn15 b a = Aez (fun m h f o => kn15 (t15 b a m h f o)) b a := Eq.trans (b := Aem (x19 kn15 b a) b a) (by kernel_rfl) (by simp only [e19] <;> rfl)
theorem i15 (b : UInt64) (a : Int) : ∀ (q : Nat) (m : UInt64) (h f : Int) (o : LB), z15 q (t15 b a m h f o) = Td b a q m h f o :=
 ind (fun _ _ _ _ => by kernel_rfl) fun q ih m h f o => Eq.trans (b := Afj (x18 (z15 q) b a) x21 b a m h f o) (by kernel_rfl) (by simp only [e18, e21, ih] <;> rfl)
theorem e15 : x15 = Afo := by funext b a m h f o; exact Eq.trans (by kernel_rfl) ((i15 b a Bg m h f o).trans (by rw [Aj]; rfl))
theorem e28 : x28 = Aeg := by kernel_rfl
theorem e26 (kn22 : K_) (b : UInt64) (a : Int) : x26 kn22 b a = Adz (fun n k g p => kn22 (t22 b a n k g p)) b a := by kernel_rfl
theorem e25 (kn22 : K_) (b : UInt64) (a : Int) : x25 kn22 b a = Afd (fun n k g p => kn22 (t22 b a n k g p)) b a := Eq.trans (b := Aek (x26 kn22 b a) b a) (by kernel_rfl) (by simp only [e26] <;> rfl)
theorem i22 (b : UInt64) (a : Int) : ∀ (q : Nat) (n : UInt64) (k g : Int) (p : LB), z22 q (t22 b a n k g p) = Se b a q n k g p :=
 ind (fun _ _ _ _ => by kernel_rfl) fun q ih n k g p => Eq.trans (b := Afh (x25 (z22 q) b a) x28 b a n k g p) (by kernel_rfl) (by simp only [e25, e28, ih] <;> rfl)
theorem e22 : x22 = Afn := by funext b a n k g p; exact Eq.trans (by kernel_rfl) ((i22 b a Bg n k g p).trans (by rw [Aj]; rfl))
noncomputable def F := u4 Aag
theorem rn x : H.u P_ x = F x := Eq.trans (b := u4 (Aid x15 x22) x) (by kernel_rfl) (by simp only [e15, e22] <;> rfl)
noncomputable def c : Con := ⟨H.p, H.r, F⟩
theorem ok : ConOk P_ gl 235 c := cr H func235 (.cons F207.ok (.cons F277.ok .nil)) (AnsOk.cons ent248 AnsOk.nil) rn
end F235
namespace F278
noncomputable def H : Hd := ⟨[Su, Si], [Sz], .d, ⟨[], gl, false⟩, [], f278⟩
noncomputable def F := u2 Th
theorem rn x : H.u P_ x = F x := by kernel_rfl
noncomputable def c : Con := ⟨H.p, H.r, F⟩
theorem ok : ConOk P_ gl 278 c := co H func278 .nil rn
end F278
namespace F301
noncomputable def H : Hd := ⟨[Si], [Si, Si], .d, ⟨[], gl, false⟩, [], f301⟩
noncomputable def F := Aea
theorem rn x : H.u P_ x = F x := by kernel_rfl
noncomputable def c : Con := ⟨H.p, H.r, F⟩
theorem ok : ConOk P_ gl 301 c := co H func301 .nil rn
end F301
namespace F279
noncomputable def H : Hd := ⟨[.agg [Sb, Si], Si], [.agg [Ob 5, Si], Si], .d, ⟨[(207, F207.c), (235, F235.c), (301, F301.c)], gl, false⟩, [], f279⟩
noncomputable def F := u3 Ag0
theorem rn x : H.u P_ x = F x := by kernel_rfl
noncomputable def c : Con := ⟨H.p, H.r, F⟩
theorem ok : ConOk P_ gl 279 c := co H func279 (.cons F207.ok (.cons F235.ok (.cons F301.ok .nil))) rn
end F279
namespace F236
abbrev R_ := (LB × Int × Int)
noncomputable def H : Hd := ⟨[.agg [Sb, Si], Su, Si], [.agg [Ob 5, Si], Si], (.seq .d (.seq .d (.seq .d (.seq .d (.cut [3, 6, 9, 10, 11] [] .d .d))))), ⟨[(207, F207.c), (235, F235.c), (278, F278.c), (279, F279.c)], gl, false⟩, [], f236⟩
def x2 (b : LB) (f h : Int) (k : UInt32) (m : Int) : Option R_ := H.e P_ [r,r,r,r,r] ⟨[(3, .ptr 0 []), (6, .ptr 1 []), (9, vi h), (10, vu k), (11, vi m)], [.box 224 (.agg [vb b, vi f]), .box 224 (.agg [.nils, vi 0])], []⟩
theorem e2 : x2 = Abg := by kernel_rfl
noncomputable def F := u4 Al9
theorem rn x : H.u P_ x = F x := Eq.trans (b := u4 (Abo x2) x) (by kernel_rfl) (by simp only [e2] <;> rfl)
noncomputable def c : Con := ⟨H.p, H.r, F⟩
theorem ok : ConOk P_ gl 236 c := co H func236 (.cons F207.ok (.cons F235.ok (.cons F278.ok (.cons F279.ok .nil)))) rn
end F236
namespace F190
def Kx (k u n : Int) (a : UInt64) (b : UInt32) (o : UInt64) (m : LB) : Option (LB × Int × Int × Int × UInt64 × UInt64 × Int) :=
(fun af : Option (LB × Int × Int × Int × UInt64 × UInt64 × Int) =>
both (
bo (
af)) [
af]) (
some (m, k, u, n, (Aa a (Ae (Ak b : UInt64) (Bj a (GI.toZ (4 : UInt64)).toNat))), o, 0))
theorem Ac3 : @Kx = @Nh := by
  unfold Kx Nh
  try simp only [Ahw, Xl, Aaf]
  all_goals
    repeat (refine funext fun _ => ?_)
    repeat' first
      | with_reducible rfl
      | with_reducible refine Fz ?_ ?_
      | with_reducible refine Gg ?_ ?_ ?_
      | with_reducible refine Fy ?_ ?_ ?_ ?_
      | ((with_reducible refine It ?_ ?_); focus (intro h; first | (subst h; rfl) | (simp only [h]; rfl) | (simp [Dp, Ac, h]; done)))
      | with_reducible refine Jd fun x => ?_
      | with_reducible refine Nt (fun _ => ?_) (fun _ => ?_)
      | (refine Du (fun h => by simp only [h, Jc, Cw, Cn, ite_self]) (fun x h => ?_); (try simp only [h, Cw]))
      | (refine Eu (fun h => ?_) (fun h => ?_) <;> simp only [h, if_true, if_false, Bool.false_eq_true])
abbrev R_ := (LB × Int × Int × Int × UInt64 × UInt64 × Int)
noncomputable def H : Hd := ⟨[.agg [Sb, Si], .agg [Si, Si, Sq, Sq], Su], [.agg [Ob 5, Si], .agg [Si, Si, Sq, Sq], Si], (.seq .d (.cut [2, 3, 4, 6, 7] [] .d (.seq .d (.seq .d (.cut [2, 3, 4, 6, 7, 11] [] .d (.seq .d (.cut [3, 4, 6, 7] [] (.keep [2, 3, 4, 6, 7, 65] true) (.seq (.mode false) .d)))))))), ⟨[(207, F207.c), (233, F233.c), (234, F234.c), (235, F235.c), (236, F236.c)], gl, false⟩, [(237, (.seq .d (.seq .d (.seq .d (.blk (.cut [0, 1, 4] [] (.blk (.seq .d (.keep [0, 1, 4, 6, 18, 19, 20, 21, 22, 23, 24, 25] true))) (.cut [] [] (.keep [0, 1, 4, 27, 28, 29, 30, 31, 32, 33, 34] true) .d))))))), (280, .d)], f190⟩
def x10 (k u n : Int) (a : UInt64) (b : UInt32) (o : UInt64) (m : LB) : Option R_ := H.e P_ [r,r,r,r,r,r,r] ⟨[(3, .ptr 0 []), (4, .ptr 1 []), (6, .ptr 2 []), (7, .ptr 3 [])], [.box 224 (.agg [.own 4, vi k]), .box 258 (.agg [vi u, vi n, vq (Aa a (Ae (Ak b : UInt64) (Bj a (GI.toZ (4 : UInt64)).toNat))), vq o]), .box 224 (.agg [.nils, vi 0]), .box 258 (.agg [vi 0, vi 0, vq 0, vq 0]), Ab 5 m], []⟩
def x9 (b : UInt32) (k n : Int) (a o : UInt64) (m : LB) (u : Int) : Option R_ := H.e P_ [r,r,r,r,r,r,l,(call 1 237),r,r,r,d,r,r] ⟨[], [.box 224 (.agg [.own 4, vi k]), .box 258 (.agg [vi u, vi n, vq (Aa a (Ae (Ak b : UInt64) (Bj a (GI.toZ (4 : UInt64)).toNat))), vq o]), .box 224 (.agg [.nils, vi 0]), .box 258 (.agg [vi 0, vi 0, vq 0, vq 0]), Ab 5 m], [[(2, vu b), (3, .ptr 0 []), (4, .ptr 1 []), (6, .ptr 2 []), (7, .ptr 3 []), (65, vu b)]]⟩
def x8 (b : UInt32) (f : Int) (a : UInt64) (k : Int) (m : LB) (n : Int) (o : UInt64) : Option R_ := H.e P_ [r,r,r,r,r,r,l,(call 1 237),r,r,r,d,r] ⟨[(0, .ptr 0 []), (1, vu b), (4, .fn 280 [])], [.box 258 (.agg [vi f, vi n, vq a, vq o]), .box 224 (.agg [.own 4, vi k]), .box 224 (.agg [.nils, vi 0]), .box 258 (.agg [vi 0, vi 0, vq 0, vq 0]), Ab 5 m], [[(2, vu b), (3, .ptr 1 []), (4, .ptr 0 []), (6, .ptr 2 []), (7, .ptr 3 []), (65, vu b)]]⟩
def x7 (b : UInt32) (f h : Int) (a g : UInt64) (y k : Int) (m : LB) : Option R_ := H.e P_ [r,r,r,r,r] ⟨[(2, vu b), (3, .ptr 0 []), (4, .ptr 1 []), (6, .ptr 2 []), (7, .ptr 3 []), (11, vi y)], [.box 224 (.agg [.own 4, vi k]), .box 258 (.agg [vi f, vi h, vq a, vq g]), .box 224 (.agg [.nils, vi 0]), .box 258 (.agg [vi 0, vi 0, vq 0, vq 0]), Ab 5 m], []⟩
def x6 (b : UInt32) (v : LB) (w f h : Int) (a g : UInt64) : Option R_ := H.e P_ [r,r] ⟨[(2, vu b), (3, .ptr 0 []), (4, .ptr 1 []), (6, .ptr 2 []), (7, .ptr 3 [])], [.box 224 (.agg [vb v, vi w]), .box 258 (.agg [vi f, vi h, vq a, vq g]), .box 224 (.agg [.nils, vi 0]), .box 258 (.agg [vi 0, vi 0, vq 0, vq 0])], []⟩
theorem e10 : x10 = Zx := Eq.trans (b := Kx) (by kernel_rfl) (by rw [Ac3]; rfl)
theorem e9 : x9 = Acn := Eq.trans (b := Acu x10) (by kernel_rfl) (by simp only [e10] <;> rfl)
theorem e8 : x8 = Abs := Eq.trans (b := Acd x9) (by kernel_rfl) (by simp only [e9] <;> rfl)
theorem e7 : x7 = Acv := Eq.trans (b := Ab3 x8) (by kernel_rfl) (by simp only [e8] <;> rfl)
theorem e6 : x6 = Ab4 := Eq.trans (b := Aci x7) (by kernel_rfl) (by simp only [e7] <;> rfl)
noncomputable def F := u7 Aj3
theorem rn x : H.u P_ x = F x := Eq.trans (b := u7 (Acm x6) x) (by kernel_rfl) (by simp only [e6] <;> rfl)
noncomputable def c : Con := ⟨H.p, H.r, F⟩
theorem ok : ConOk P_ gl 190 c := cr H func190 (.cons F207.ok (.cons F233.ok (.cons F234.ok (.cons F235.ok (.cons F236.ok .nil))))) (AnsOk.cons ent237 (AnsOk.cons ent280 AnsOk.nil)) rn
end F190
namespace F182
abbrev R_ := (UInt32 × Int)
abbrev K_ := S → Option R_
noncomputable def H : Hd := ⟨[Su, Sb], [Su, Si], (.seq .d (.seq .d (.cut [0, 1, 6] [] (.keep [0, 1, 6, 12] true) (.cut [0] [] (.seq .d (.blk (.loop [0, 6, 13, 14, 15] [] .d))) .d)))), ⟨[], gl, false⟩, [(228, (.seq .d (.seq .d (.cut [1] [] (.seq .d (.blk (.loop [1, 5] [] (.seq .d (.seq .d (.cut [1, 5] [] (.blk (.seq .d (.seq .d (.cut [1, 2, 3, 5] [] (.seq .d (.blk (.loop [1, 2, 3, 5, 10] [] .d))) .d)))) .d)))))) .d))))], f182⟩
def t28 (a : LB) (b : LU) (h : UInt32) (m : Int) : S := ⟨[(0, vu h), (6, .ptr 0 []), (13, vb a), (14, vi (Ac a)), (15, vi m)], [.box 357 (.val (.vec 256 (.int .u32)) b)], []⟩
def z28 : Nat → S → Option R_ := H.i P_ [r,r,r,l,r,d]
def t21 (f : UInt32) (a : LB) (g : Int) (b : LU) (k : UInt32) (n : Int) : S := ⟨[(1, .ptr 0 []), (2, vi g), (3, vu k), (5, vi g), (10, vi n)], [.box 357 (.val (.vec 256 (.int .u32)) b)], [[(0, vu f), (1, vb a)]]⟩
def z21 (kn16 : K_) : Nat → S → Option R_ := H.i P_ [r,r,l,(call 0 228),r,r,l,r,d,(lp kn16),r,r,l,d,r,r,l,r,d]
def t16 (f : UInt32) (a : LB) (g : Int) (b : LU) : S := ⟨[(1, .ptr 0 []), (5, vi g)], [.box 357 (.val (.vec 256 (.int .u32)) b)], [[(0, vu f), (1, vb a)]]⟩
def z16 : Nat → S → Option R_ := H.i P_ [r,r,l,(call 0 228),r,r,l,r,d]
def x30 (h : UInt32) : Option R_ := H.e P_ [r,r,r,r] ⟨[(0, vu h)], [], []⟩
def x28 (a : LB) (b : LU) (h : UInt32) (m : Int) : Option R_ := H.e P_ [r,r,r,l,r,d] (t28 a b h m)
def x27 (f : UInt32) (a : LB) (b : LU) : Option R_ := H.e P_ [r,r,r] ⟨[(0, vu f), (1, vb a), (6, .ptr 0 [])], [.box 357 (.val (.vec 256 (.int .u32)) b)], []⟩
def x26 (f : UInt32) (a : LB) (b : LU) : Option R_ := H.e P_ [r,r,l,(call 0 228),r,r,r] ⟨[(1, .ptr 0 [])], [.box 357 (.val (.vec 256 (.int .u32)) b)], [[(0, vu f), (1, vb a)]]⟩
def x24 (kn16 : K_) (f : UInt32) (a : LB) (g : Int) (o : LU) : Option R_ := H.e P_ [r,r,l,(call 0 228),r,r,l,r,d,(lp kn16),r,r,r] ⟨[(1, .ptr 0 []), (5, vi g)], [.box 357 (.val (.vec 256 (.int .u32)) o)], [[(0, vu f), (1, vb a)]]⟩
def x23 (kn16 : K_) (f : UInt32) (a : LB) (g : Int) (k : UInt32) (b : LU) : Option R_ := H.e P_ [r,r,l,(call 0 228),r,r,l,r,d,(lp kn16),r,r,l,d,r,r,r] ⟨[(1, .ptr 0 []), (2, vi g), (3, vu k), (5, vi g)], [.box 357 (.val (.vec 256 (.int .u32)) b)], [[(0, vu f), (1, vb a)]]⟩
def x21 (kn16 : K_) (f : UInt32) (a : LB) (g : Int) (b : LU) (k : UInt32) (n : Int) : Option R_ := H.e P_ [r,r,l,(call 0 228),r,r,l,r,d,(lp kn16),r,r,l,d,r,r,l,r,d] (t21 f a g b k n)
def x16 (f : UInt32) (a : LB) (g : Int) (b : LU) : Option R_ := H.e P_ [r,r,l,(call 0 228),r,r,l,r,d] (t16 f a g b)
theorem e30 : x30 = Yx := by kernel_rfl
theorem i28 (a : LB) (b : LU) : ∀ (q : Nat) (h : UInt32) (m : Int), z28 q (t28 a b h m) = Nx a b q h m :=
 ind (fun _ _ => by kernel_rfl) fun q ih h m => Eq.trans (b := Wy x30 (fun h m => (z28 q) (t28 a b h m)) a b h m) (by kernel_rfl) (by simp only [e30, ih] <;> rfl)
theorem e28 : x28 = Za := by funext a b h m; exact Eq.trans (by kernel_rfl) ((i28 a b Bg h m).trans (by rw [Aj]; rfl))
theorem e27 : x27 = Zi := Eq.trans (b := Xf x28) (by kernel_rfl) (by simp only [e28] <;> rfl)
theorem e26 : x26 = Yl := Eq.trans (b := Zh x27) (by kernel_rfl) (by simp only [e27] <;> rfl)
theorem e24 (kn16 : K_) (f : UInt32) (a : LB) : x24 kn16 f a = Vx (fun g b => kn16 (t16 f a g b)) f a := by kernel_rfl
theorem e23 (kn16 : K_) (f : UInt32) (a : LB) : x23 kn16 f a = Wi (fun g b => kn16 (t16 f a g b)) f a := Eq.trans (b := Xy (x24 kn16 f a) f a) (by kernel_rfl) (by simp only [e24] <;> rfl)
theorem i21 (kn16 : K_) (f : UInt32) (a : LB) (g : Int) (b : LU) : ∀ (q : Nat) (k : UInt32) (n : Int), z21 kn16 q (t21 f a g b k n) = Np (fun g b => kn16 (t16 f a g b)) f a g b q k n :=
 ind (fun _ _ => by kernel_rfl) fun q ih k n => Eq.trans (b := Xi (x23 kn16 f a) (fun k n => (z21 kn16 q) (t21 f a g b k n)) f a g b k n) (by kernel_rfl) (by simp only [e23, ih] <;> rfl)
theorem e21 (kn16 : K_) (f : UInt32) (a : LB) : x21 kn16 f a = Xb (fun g b => kn16 (t16 f a g b)) f a := by funext g b k n; exact Eq.trans (by kernel_rfl) ((i21 kn16 f a g b Bg k n).trans (by rw [Aj]; rfl))
theorem i16 (f : UInt32) (a : LB) : ∀ (q : Nat) (g : Int) (b : LU), z16 q (t16 f a g b) = Nj f a q g b :=
 ind (fun _ _ => by kernel_rfl) fun q ih g b => Eq.trans (b := Aab (x21 (z16 q) f a) x26 f a g b) (by kernel_rfl) (by simp only [e21, e26, ih] <;> rfl)
theorem e16 : x16 = Xm := by funext f a g b; exact Eq.trans (by kernel_rfl) ((i16 f a Bg g b).trans (by rw [Aj]; rfl))
noncomputable def F := u2 Akl
theorem rn x : H.u P_ x = F x := Eq.trans (b := u2 (Aca x16) x) (by kernel_rfl) (by simp only [e16] <;> rfl)
noncomputable def c : Con := ⟨H.p, H.r, F⟩
theorem ok : ConOk P_ gl 182 c := cr H func182 .nil (AnsOk.cons ent228 AnsOk.nil) rn
end F182
namespace F134
noncomputable def H : Hd := ⟨[Sb], [Su, Si], .d, ⟨[(182, F182.c)], gl, false⟩, [], f134⟩
noncomputable def F := Jr
theorem rn x : H.u P_ x = F x := by kernel_rfl
noncomputable def c : Con := ⟨H.p, H.r, F⟩
theorem ok : ConOk P_ gl 134 c := co H func134 (.cons F182.ok .nil) rn
end F134
namespace F192
noncomputable def H : Hd := ⟨[Sq, Si], [Sz], .d, ⟨[], gl, false⟩, [], f192⟩
noncomputable def F := u2 Atl
theorem rn x : H.u P_ x = F x := by kernel_rfl
noncomputable def c : Con := ⟨H.p, H.r, F⟩
theorem ok : ConOk P_ gl 192 c := co H func192 .nil rn
end F192
namespace F143
abbrev R_ := (LB × Int)
noncomputable def H : Hd := ⟨[Sq, Si], [Ob 5, Si], (.seq .d (.seq .d (.seq .d (.seq .d (.cut [6] [] (.seq .d (.blk (.loop [0, 6, 21, 22] [] .d))) .d))))), ⟨[(192, F192.c)], gl, false⟩, [], f143⟩
def t4 (f : UInt64) (g : LB) (b : Int) (a : LB) : S := ⟨[(0, vq f), (6, .own 0), (21, vi (Ac g)), (22, vi b)], [Ab 5 a], []⟩
def z4 : Nat → S → Option R_ := H.i P_ [r,r,r,r,l,r,d]
def x6 (a : LB) : Option R_ := H.e P_ [r,r,r,r,r] ⟨[(6, .own 0)], [Ab 5 a], []⟩
def x4 (f : UInt64) (g : LB) (b : Int) (a : LB) : Option R_ := H.e P_ [r,r,r,r,l,r,d] (t4 f g b a)
theorem e6 : x6 = Aht := by kernel_rfl
theorem i4 (f : UInt64) (g : LB) : ∀ (q : Nat) (b : Int) (a : LB), z4 q (t4 f g b a) = Xa f g q b a :=
 ind (fun _ _ => by kernel_rfl) fun q ih b a => Eq.trans (b := Ahz x6 (fun b a => (z4 q) (t4 f g b a)) f g b a) (by kernel_rfl) (by simp only [e6, ih] <;> rfl)
theorem e4 : x4 = Ag8 := by funext f g b a; exact Eq.trans (by kernel_rfl) ((i4 f g Bg b a).trans (by rw [Aj]; rfl))
noncomputable def F := u2 Kj
theorem rn x : H.u P_ x = F x := Eq.trans (b := u2 (Ah7 x4) x) (by kernel_rfl) (by simp only [e4] <;> rfl)
noncomputable def c : Con := ⟨H.p, H.r, F⟩
theorem ok : ConOk P_ gl 143 c := co H func143 (.cons F192.ok .nil) rn
end F143
namespace F154
abbrev R_ := LB
noncomputable def H : Hd := ⟨[.lf (.list (.list (.int .u8))) none], [Ob 5], (.seq .d (.seq .d (.cut [0, 3] [] (.seq .d (.blk (.loop [0, 3, 9, 10, 11] [] .d))) (.cut [0, 6] [⟨6, [], .own 5 (.int .u8)⟩] (.keep [0, 3, 6, 23, 24] true) (.cut [6] [] (.seq .d (.blk (.loop [6, 25, 26, 27] [] .d))) .d))))), ⟨[], gl, true⟩, [(196, (.seq .d (.cut [0, 1] [] .d .d)))], f154⟩
def t14 (a : List LB) (g : Int) (f : LB) : S := ⟨[(6, .own 0), (25, .val (.list (.list (.int .u8))) a), (26, vi (Ac a)), (27, vi g)], [Ab 5 f], []⟩
def z14 : Nat → S → Option R_ := H.i P_ [r,r,r,r,l,r,d]
def t9 (a : List LB) (b h : Int) : S := ⟨[(0, .val (.list (.list (.int .u8))) a), (3, vi b), (9, .val (.list (.list (.int .u8))) a), (10, vi (Ac a)), (11, vi h)], [], []⟩
def z9 : Nat → S → Option R_ := H.i P_ [r,r,l,r,d]
def x16 (f : LB) : Option R_ := H.e P_ [r,r,r,r,r] ⟨[(6, .own 0)], [Ab 5 f], []⟩
def x14 (a : List LB) (g : Int) (f : LB) : Option R_ := H.e P_ [r,r,r,r,l,r,d] (t14 a g f)
def x13 (a : List LB) (k : LB) : Option R_ := H.e P_ [r,r,r,r] ⟨[(0, .val (.list (.list (.int .u8))) a), (6, .own 0)], [Ab 5 k], []⟩
def x12 (b : Int) (a : List LB) : Option R_ := H.e P_ [r,r,r,l,(call 1 196),r,r] ⟨[(0, .nils), (1, vi b)], [], [[(0, .val (.list (.list (.int .u8))) a), (3, vi b), (23, vi b)]]⟩
def x11 (a : List LB) (b : Int) : Option R_ := H.e P_ [r,r,r] ⟨[(0, .val (.list (.list (.int .u8))) a), (3, vi b)], [], []⟩
def x9 (a : List LB) (b h : Int) : Option R_ := H.e P_ [r,r,l,r,d] (t9 a b h)
theorem e16 : x16 = Fs := by kernel_rfl
theorem i14 (a : List LB) : ∀ (q : Nat) (g : Int) (f : LB), z14 q (t14 a g f) = Dn a q g f :=
 ind (fun _ _ => by kernel_rfl) fun q ih g f => Eq.trans (b := Fk x16 (fun g f => (z14 q) (t14 a g f)) a g f) (by kernel_rfl) (by simp only [e16, ih] <;> rfl)
theorem e14 : x14 = Fo := by funext a g f; exact Eq.trans (by kernel_rfl) ((i14 a Bg g f).trans (by rw [Aj]; rfl))
theorem e13 : x13 = Fp := Eq.trans (b := Fl x14) (by kernel_rfl) (by simp only [e14] <;> rfl)
theorem e12 : x12 = Fm := Eq.trans (b := Fq x13) (by kernel_rfl) (by simp only [e13] <;> rfl)
theorem e11 : x11 = Ft := Eq.trans (b := Fu x12) (by kernel_rfl) (by simp only [e12] <;> rfl)
theorem i9 (a : List LB) : ∀ (q : Nat) (b h : Int), z9 q (t9 a b h) = Dt a q b h :=
 ind (fun _ _ => by kernel_rfl) fun q ih b h => Eq.trans (b := Gi x11 (fun b h => (z9 q) (t9 a b h)) a b h) (by kernel_rfl) (by simp only [e11, ih] <;> rfl)
theorem e9 : x9 = Gc := by funext a b h; exact Eq.trans (by kernel_rfl) ((i9 a Bg b h).trans (by rw [Aj]; rfl))
noncomputable def F := Io
theorem rn x : H.u P_ x = F x := Eq.trans (b := Gf x9 x) (by kernel_rfl) (by simp only [e9] <;> rfl)
noncomputable def c : Con := ⟨H.p, H.r, F⟩
theorem ok : ConOk P_ gl 154 c := cr H func154 .nil (AnsOk.cons ent196 AnsOk.nil) rn
end F154
namespace F141
abbrev R_ := (LB × Int)
abbrev K_ := S → Option R_
noncomputable def H : Hd := ⟨[.agg [Si, Si], .lf (.vec 16 (.int .i32)) none, Sw], [Ob 5, Si], (.seq .d (.seq .d (.seq .d (.seq .d (.seq .d (.cut [11] [] (.seq .d (.blk (.loop [3, 10, 11, 30, 31, 32] [⟨11, [0], .own 5 (.int .u8)⟩] (.seq .d (.seq .d (.cut [3, 10, 11, 30, 31, 32] [] (.blk (.seq .d (.seq .d (.seq .d (.seq .d (.keep [3, 10, 11, 14, 30, 31, 32, 59] true)))))) .d)))))) .d)))))), ⟨[(134, F134.c), (143, F143.c), (154, F154.c), (188, F188.c), (189, F189.c), (190, F190.c)], gl, false⟩, [(191, (.seq .d (.seq .d (.blk (.loop [0, 3, 7, 8] [] (.seq .d (.seq .d (.seq (.blk (.seq .d (.cut [0, 3, 4, 7, 8] [] .d (.seq .d (.cut [0, 3, 7, 8] [] .d .d))))) .d))))))))], f141⟩
def t44 (a : LU) (b f h g : Int) (k : List (Int × Int × UInt64 × UInt64 × Unit)) (m : LB) (o n : Int) (v : LB) : S := ⟨[(0, .ptr 0 []), (3, .ptr 1 []), (7, vi h), (8, vi o)], [.box 224 (.agg [.own 7, vi n]), .box 224 (.agg [.own 6, vi h]), .box 69 (.agg [vi b, vi f]), .box 259 (.val (.vec 6 (.cons (.int .i64) (.cons (.int .i64) (.cons (.int .u64) (.cons (.int .u64) .nil))))) k), .box 224 (.agg [.own 6, vi h]), Av 23 a, Ab 5 m, Ab 5 v], [[(3, .ptr 2 []), (10, .ptr 3 []), (11, .ptr 0 []), (14, .ptr 4 []), (30, .own 5), (31, vi (Ac a)), (32, vi g), (59, .agg [.own 6, vi h])]]⟩
def z44 (kn27 : K_) : Nat → S → Option R_ := H.i P_ [r,r,r,r,r,l,r,d,(lp kn27),r,r,l,d,r,r,r,r,(call 1 191),r,r,d]
def t27 (a : LU) (b f g : Int) (w : List (Int × Int × UInt64 × UInt64 × Unit)) (u : Int) (p : LB) : S := ⟨[(3, .ptr 0 []), (10, .ptr 1 []), (11, .ptr 2 []), (30, .own 3), (31, vi (Ac a)), (32, vi g)], [.box 69 (.agg [vi b, vi f]), .box 259 (.val (.vec 6 (.cons (.int .i64) (.cons (.int .i64) (.cons (.int .u64) (.cons (.int .u64) .nil))))) w), .box 224 (.agg [.own 4, vi u]), Av 23 a, Ab 5 p], []⟩
def z27 : Nat → S → Option R_ := H.i P_ [r,r,r,r,r,l,r,d]
def x52 (u : Int) (p : LB) : Option R_ := H.e P_ [r,r,r,r,r,r] ⟨[(11, .ptr 0 [])], [.box 224 (.agg [.own 1, vi u]), Ab 5 p], []⟩
def x50 (kn27 : K_) (a : LU) (b f g : Int) (k : List (Int × Int × UInt64 × UInt64 × Unit)) (n : Int) (v : LB) : Option R_ := H.e P_ [r,r,r,r,r,l,r,d,(lp kn27),r,r,r] ⟨[(3, .ptr 0 []), (10, .ptr 1 []), (11, .ptr 2 []), (30, .own 3), (31, vi (Ac a)), (32, vi g)], [.box 69 (.agg [vi b, vi f]), .box 259 (.val (.vec 6 (.cons (.int .i64) (.cons (.int .i64) (.cons (.int .u64) (.cons (.int .u64) .nil))))) k), .box 224 (.agg [.own 4, vi n]), Av 23 a, Ab 5 v], []⟩
def x48 (kn27 kn44 : K_) (h : Int) (a : LU) (g b f : Int) (k : List (Int × Int × UInt64 × UInt64 × Unit)) (m : LB) (o n : Int) (aa : LB) : Option R_ := H.e P_ [r,r,r,r,r,l,r,d,(lp kn27),r,r,l,d,r,r,r,r,(call 1 191),r,r,d,(lp kn44),r,r,l,d,r,r,r,r] ⟨[(0, .ptr 0 []), (3, .ptr 1 []), (7, vi h), (8, vi o)], [.box 224 (.agg [.own 7, vi n]), .box 224 (.agg [.own 6, vi h]), .box 69 (.agg [vi b, vi f]), .box 259 (.val (.vec 6 (.cons (.int .i64) (.cons (.int .i64) (.cons (.int .u64) (.cons (.int .u64) .nil))))) k), .box 224 (.agg [.own 6, vi h]), Av 23 a, Ab 5 m, Ab 5 aa], [[(3, .ptr 2 []), (10, .ptr 3 []), (11, .ptr 0 []), (14, .ptr 4 []), (30, .own 5), (31, vi (Ac a)), (32, vi g), (59, .agg [.own 6, vi h])]]⟩
def x47 (kn27 kn44 : K_) (h : Int) (a : LU) (g b f : Int) (k : List (Int × Int × UInt64 × UInt64 × Unit)) (m : LB) (o n : Int) (y : LB) : Option R_ := H.e P_ [r,r,r,r,r,l,r,d,(lp kn27),r,r,l,d,r,r,r,r,(call 1 191),r,r,d,(lp kn44),r,r,l,d,r,r] ⟨[(0, .ptr 0 []), (3, .ptr 1 []), (4, vi o), (7, vi h), (8, vi o)], [.box 224 (.agg [.own 7, vi n]), .box 224 (.agg [.own 6, vi h]), .box 69 (.agg [vi b, vi f]), .box 259 (.val (.vec 6 (.cons (.int .i64) (.cons (.int .i64) (.cons (.int .u64) (.cons (.int .u64) .nil))))) k), .box 224 (.agg [.own 6, vi h]), Av 23 a, Ab 5 m, Ab 5 y], [[(3, .ptr 2 []), (10, .ptr 3 []), (11, .ptr 0 []), (14, .ptr 4 []), (30, .own 5), (31, vi (Ac a)), (32, vi g), (59, .agg [.own 6, vi h])]]⟩
def x44 (kn27 : K_) (a : LU) (b f h g : Int) (k : List (Int × Int × UInt64 × UInt64 × Unit)) (m : LB) (o n : Int) (v : LB) : Option R_ := H.e P_ [r,r,r,r,r,l,r,d,(lp kn27),r,r,l,d,r,r,r,r,(call 1 191),r,r,d] (t44 a b f h g k m o n v)
def x27 (a : LU) (b f g : Int) (w : List (Int × Int × UInt64 × UInt64 × Unit)) (u : Int) (p : LB) : Option R_ := H.e P_ [r,r,r,r,r,l,r,d] (t27 a b f g w u p)
theorem e52 : x52 = Mt := by kernel_rfl
theorem e50 (kn27 : K_) (a : LU) (b f : Int) : x50 kn27 a b f = Nm (fun g w u p => kn27 (t27 a b f g w u p)) a b f := by kernel_rfl
theorem e48 (kn27 kn44 : K_) (a : LU) (b f h g : Int) (k : List (Int × Int × UInt64 × UInt64 × Unit)) (m : LB) : x48 kn27 kn44 h a g b f k m = Ns (fun o n v => kn44 (t44 a b f h g k m o n v)) h a g b f k m := by kernel_rfl
theorem e47 (kn27 kn44 : K_) (a : LU) (b f h g : Int) (k : List (Int × Int × UInt64 × UInt64 × Unit)) (m : LB) : x47 kn27 kn44 h a g b f k m = Og (fun o n v => kn44 (t44 a b f h g k m o n v)) h a g b f k m := Eq.trans (b := Nv (x48 kn27 kn44 h a g b f k m) h a g b f k m) (by kernel_rfl) (by simp only [e48] <;> rfl)
theorem i44 (kn27 : K_) (a : LU) (b f h g : Int) (k : List (Int × Int × UInt64 × UInt64 × Unit)) (m : LB) : ∀ (q : Nat) (o n : Int) (v : LB), z44 kn27 q (t44 a b f h g k m o n v) = Ib (fun g w u p => kn27 (t27 a b f g w u p)) a b f h g k m q o n v :=
 ind (fun _ _ _ => by kernel_rfl) fun q ih o n v => Eq.trans (b := Oe (x47 kn27 (z44 kn27 q) h a g b f k m) (x50 kn27 a b f) a b f h g k m o n v) (by kernel_rfl) (by simp only [e47, e50, ih] <;> rfl)
theorem e44 (kn27 : K_) (a : LU) (b f : Int) : x44 kn27 a b f = Md (fun g w u p => kn27 (t27 a b f g w u p)) a b f := by funext h g k m o n v; exact Eq.trans (by kernel_rfl) ((i44 kn27 a b f h g k m Bg o n v).trans (by rw [Aj]; rfl))
theorem i27 (a : LU) (b f : Int) : ∀ (q : Nat) (g : Int) (w : List (Int × Int × UInt64 × UInt64 × Unit)) (u : Int) (p : LB), z27 q (t27 a b f g w u p) = Ic a b f q g w u p :=
 ind (fun _ _ _ _ => by kernel_rfl) fun q ih g w u p => Eq.trans (b := Mo (x44 (z27 q) a b f) x52 a b f g w u p) (by kernel_rfl) (by simp only [e44, e52, ih] <;> rfl)
theorem e27 : x27 = Ma := by funext a b f g w u p; exact Eq.trans (by kernel_rfl) ((i27 a b f Bg g w u p).trans (by rw [Aj]; rfl))
noncomputable def F := u4 Je
theorem rn x : H.u P_ x = F x := Eq.trans (b := u4 (Pe x27) x) (by kernel_rfl) (by simp only [e27] <;> rfl)
noncomputable def c : Con := ⟨H.p, H.r, F⟩
theorem ok : ConOk P_ gl 141 c := cr H func141 (.cons F134.ok (.cons F143.ok (.cons F154.ok (.cons F188.ok (.cons F189.ok (.cons F190.ok .nil)))))) (AnsOk.cons ent191 AnsOk.nil) rn
end F141
theorem Alq : ConOk Tryz.prog gl 82 Pw := Aji F139.ok F116.ok F121.ok F141.ok F142.ok
namespace F135
abbrev R_ := Bool
noncomputable def H : Hd := ⟨[.agg [Si, Si, Si, Si, Si]], [Sz], (.seq .d (.cut [1] [] .d .d)), ⟨[], gl, false⟩, [], f135⟩
def x2 (b f a g h : Int) : Option R_ := H.e P_ [r,r] ⟨[(1, .ptr 0 [])], [.box 46 (.agg [vi b, vi f, vi a, vi g, vi h])], []⟩
theorem e2 : x2 = Qw := by kernel_rfl
noncomputable def F := u5 Pv
theorem rn x : H.u P_ x = F x := Eq.trans (b := u5 (Rf x2) x) (by kernel_rfl) (by simp only [e2] <;> rfl)
noncomputable def c : Con := ⟨H.p, H.r, F⟩
theorem ok : ConOk P_ gl 135 c := co H func135 .nil rn
end F135
namespace F136
noncomputable def H : Hd := ⟨[.agg [Si, Si, Si, Si, Si]], [Sz], .d, ⟨[(168, F168.c)], gl, false⟩, [], f136⟩
noncomputable def F := u5 Xw
theorem rn x : H.u P_ x = F x := by kernel_rfl
noncomputable def c : Con := ⟨H.p, H.r, F⟩
theorem ok : ConOk P_ gl 136 c := co H func136 (.cons F168.ok .nil) rn
end F136
namespace F120
noncomputable def H : Hd := ⟨[.agg [Si, Si, Si, Si, Si]], [Si], .d, ⟨[(135, F135.c), (136, F136.c)], gl, false⟩, [], f120⟩
noncomputable def F := u5 Te
theorem rn x : H.u P_ x = F x := by kernel_rfl
noncomputable def c : Con := ⟨H.p, H.r, F⟩
theorem ok : ConOk P_ gl 120 c := co H func120 (.cons F135.ok (.cons F136.ok .nil)) rn
end F120
namespace F83
abbrev R_ := (LB × Int)
noncomputable def H : Hd := ⟨[.agg [Si, Si, Si, Si, Si]], [Ob 5, Si], (.seq .d (.seq .d (.seq .d (.cut [5] [] (.seq .d (.blk (.loop [5, 31, 32] [] .d))) .d)))), ⟨[(120, F120.c), (134, F134.c), (143, F143.c)], gl, false⟩, [], f83⟩
def t4 (b f g h k m : Int) (a : LB) : S := ⟨[(5, .own 0), (31, .val (.vec 5 (.int .i64)) ([b, f, g, h, k] : LI)), (32, vi m)], [Ab 5 a], []⟩
def z4 : Nat → S → Option R_ := H.i P_ [r,r,r,l,r,d]
def x6 (a : LB) : Option R_ := H.e P_ [r,r,r,r] ⟨[(5, .own 0)], [Ab 5 a], []⟩
def x4 (b f g h k m : Int) (a : LB) : Option R_ := H.e P_ [r,r,r,l,r,d] (t4 b f g h k m a)
theorem e6 : x6 = Un := by kernel_rfl
theorem i4 (b f g h k : Int) : ∀ (q : Nat) (m : Int) (a : LB), z4 q (t4 b f g h k m a) = Ky b f g h k q m a :=
 ind (fun _ _ => by kernel_rfl) fun q ih m a => Eq.trans (b := Tv x6 (fun m a => (z4 q) (t4 b f g h k m a)) b f g h k m a) (by kernel_rfl) (by simp only [e6, ih] <;> rfl)
theorem e4 : x4 = Uv := by funext b f g h k m a; exact Eq.trans (by kernel_rfl) ((i4 b f g h k Bg m a).trans (by rw [Aj]; rfl))
noncomputable def F := u5 Ae9
theorem rn x : H.u P_ x = F x := Eq.trans (b := u5 (Tq x4) x) (by kernel_rfl) (by simp only [e4] <;> rfl)
noncomputable def c : Con := ⟨H.p, H.r, F⟩
theorem ok : ConOk P_ gl 83 c := co H func83 (.cons F120.ok (.cons F134.ok (.cons F143.ok .nil))) rn
end F83
namespace F144
noncomputable def H : Hd := ⟨[Ss], [Sq, Si], .d, ⟨[(160, F160.c)], gl, false⟩, [], f144⟩
noncomputable def F := Anf
theorem rn x : H.u P_ x = F x := by kernel_rfl
noncomputable def c : Con := ⟨H.p, H.r, F⟩
theorem ok : ConOk P_ gl 144 c := co H func144 (.cons F160.ok .nil) rn
end F144
namespace F84
noncomputable def H : Hd := ⟨[Ss], [Ob 5, Si], .d, ⟨[(143, F143.c), (144, F144.c)], gl, false⟩, [], f84⟩
noncomputable def F := Sf
theorem rn x : H.u P_ x = F x := by kernel_rfl
noncomputable def c : Con := ⟨H.p, H.r, F⟩
theorem ok : ConOk P_ gl 84 c := co H func84 (.cons F143.ok (.cons F144.ok .nil)) rn
end F84
namespace F70
abbrev R_ := Int
noncomputable def H : Hd := ⟨[Sl], [Si], (.seq .d (.seq .d (.seq .d (.cut [] [] (.seq .d (.blk (.loop [3, 14, 15, 16] [] .d))) .d)))), ⟨[], gl, false⟩, [], f70⟩
def t4 (a : LI) (f b : Int) : S := ⟨[(3, vi f), (14, vl a), (15, vi (Ac a)), (16, vi b)], [], []⟩
def z4 : Nat → S → Option R_ := H.i P_ [r,r,r,l,r,d]
def x6 : Option R_ := H.e P_ [r,r,r,r] ⟨[], [], []⟩
def x4 (a : LI) (f b : Int) : Option R_ := H.e P_ [r,r,r,l,r,d] (t4 a f b)
theorem e6 : x6 = Aan := by kernel_rfl
theorem i4 (a : LI) : ∀ (q : Nat) (f b : Int), z4 q (t4 a f b) = Nq a q f b :=
 ind (fun _ _ => by kernel_rfl) fun q ih f b => Eq.trans (b := Xj x6 (fun f b => (z4 q) (t4 a f b)) a f b) (by kernel_rfl) (by simp only [e6, ih] <;> rfl)
theorem e4 : x4 = Aar := by funext a f b; exact Eq.trans (by kernel_rfl) ((i4 a Bg f b).trans (by rw [Aj]; rfl))
noncomputable def F := Ox
theorem rn x : H.u P_ x = F x := Eq.trans (b := Ye x4 x) (by kernel_rfl) (by simp only [e4] <;> rfl)
noncomputable def c : Con := ⟨H.p, H.r, F⟩
theorem ok : ConOk P_ gl 70 c := co H func70 .nil rn
end F70
namespace F85
abbrev R_ := (LB × Int)
abbrev K_ := S → Option R_
noncomputable def H : Hd := ⟨[Sl], [Ob 5, Si], (.seq .d (.seq .d (.seq .d (.seq .d (.cut [5, 6] [] (.seq .d (.blk (.loop [5, 6, 17, 18, 19] [⟨5, [], .own 5 (.int .u8)⟩, ⟨6, [0], .own 5 (.int .u8)⟩] (.seq .d (.seq .d (.cut [5, 6, 17, 18, 19] [] (.blk (.seq .d (.keep [5, 6, 8, 17, 18, 19, 23, 24, 25] true))) .d)))))) (.seq .d (.cut [5] [] (.keep [5, 6, 9, 33, 34, 35] true) .d))))))), ⟨[(70, F70.c), (134, F134.c), (143, F143.c)], gl, false⟩, [(145, .d)], f85⟩
def t8 (a : LI) (f : Int) (b : LB) : S := ⟨[(5, .ptr 0 []), (6, .fn 145 [.ptr 0 []]), (17, vl a), (18, vi (Ac a)), (19, vi f)], [.box 22 (.own 1), Ab 5 b], []⟩
def z8 : Nat → S → Option R_ := H.i P_ [r,r,r,r,l,r,d]
def x14 (g : LB) : Option R_ := H.e P_ [r,r,r,r,r,r,r] ⟨[(5, .ptr 0 [])], [.box 22 (.own 1), Ab 5 g], []⟩
def x13 (b : LB) : Option R_ := H.e P_ [r,r,r,r,r] ⟨[(5, .ptr 0 []), (6, .fn 145 [.ptr 0 []])], [.box 22 (.own 1), Ab 5 b], []⟩
def x11 (kn8 : K_) (a : LI) (f : Int) (h : LB) : Option R_ := H.e P_ [r,r,r,r,l,r,d,(lp kn8),r,r,r] ⟨[(5, .ptr 0 []), (6, .fn 145 [.ptr 0 []]), (17, vl a), (18, vi (Ac a)), (19, vi f)], [.box 22 (.own 1), Ab 5 h], []⟩
def x8 (a : LI) (f : Int) (b : LB) : Option R_ := H.e P_ [r,r,r,r,l,r,d] (t8 a f b)
theorem e14 : x14 = Ul := by kernel_rfl
theorem e13 : x13 = Ts := Eq.trans (b := Ub x14) (by kernel_rfl) (by simp only [e14] <;> rfl)
theorem e11 (kn8 : K_) (a : LI) : x11 kn8 a = Uy (fun f b => kn8 (t8 a f b)) a := by kernel_rfl
theorem i8 (a : LI) : ∀ (q : Nat) (f : Int) (b : LB), z8 q (t8 a f b) = Mq a q f b :=
 ind (fun _ _ => by kernel_rfl) fun q ih f b => Eq.trans (b := Zs (x11 (z8 q) a) x13 a f b) (by kernel_rfl) (by simp only [e11, e13, ih] <;> rfl)
theorem e8 : x8 = Yv := by funext a f b; exact Eq.trans (by kernel_rfl) ((i8 a Bg f b).trans (by rw [Aj]; rfl))
noncomputable def F := Ahe
theorem rn x : H.u P_ x = F x := Eq.trans (b := Aac x8 x) (by kernel_rfl) (by simp only [e8] <;> rfl)
noncomputable def c : Con := ⟨H.p, H.r, F⟩
theorem ok : ConOk P_ gl 85 c := cr H func85 (.cons F70.ok (.cons F134.ok (.cons F143.ok .nil))) (AnsOk.cons ent145 AnsOk.nil) rn
end F85
namespace F87
noncomputable def H : Hd := ⟨[Sb], [Si], .d, ⟨[], gl, false⟩, [], f87⟩
noncomputable def F := Acs
theorem rn x : H.u P_ x = F x := by kernel_rfl
noncomputable def c : Con := ⟨H.p, H.r, F⟩
theorem ok : ConOk P_ gl 87 c := co H func87 .nil rn
end F87
namespace F88
abbrev R_ := LB
noncomputable def H : Hd := ⟨[.lf (.list (.list (.int .u8))) none], [Ob 5], (.seq .d (.seq .d (.cut [3] [] (.seq .d (.blk (.loop [3, 6, 7, 8] [⟨3, [], .own 5 (.int .u8)⟩] .d))) .d))), ⟨[], gl, false⟩, [], f88⟩
def t4 (b : List LB) (f : Int) (a : LB) : S := ⟨[(3, .own 0), (6, .val (.list (.list (.int .u8))) b), (7, vi (Ac b)), (8, vi f)], [Ab 5 a], []⟩
def z4 : Nat → S → Option R_ := H.i P_ [r,r,l,r,d]
def x6 (a : LB) : Option R_ := H.e P_ [r,r,r] ⟨[(3, .own 0)], [Ab 5 a], []⟩
def x4 (b : List LB) (f : Int) (a : LB) : Option R_ := H.e P_ [r,r,l,r,d] (t4 b f a)
theorem e6 : x6 = Zf := by kernel_rfl
theorem i4 (b : List LB) : ∀ (q : Nat) (f : Int) (a : LB), z4 q (t4 b f a) = Of b q f a :=
 ind (fun _ _ => by kernel_rfl) fun q ih f a => Eq.trans (b := Xr x6 (fun f a => (z4 q) (t4 b f a)) b f a) (by kernel_rfl) (by simp only [e6, ih] <;> rfl)
theorem e4 : x4 = We := by funext b f a; exact Eq.trans (by kernel_rfl) ((i4 b Bg f a).trans (by rw [Aj]; rfl))
noncomputable def F := Ah0
theorem rn x : H.u P_ x = F x := Eq.trans (b := Yf x4 x) (by kernel_rfl) (by simp only [e4] <;> rfl)
noncomputable def c : Con := ⟨H.p, H.r, F⟩
theorem ok : ConOk P_ gl 88 c := co H func88 .nil rn
end F88
namespace F53
abbrev R_ := (LB × Int)
abbrev K_ := S → Option R_
noncomputable def H : Hd := ⟨[.agg [Si, Si, Si, Sw], Ss], [Ob 5, Si], (.seq .d (.seq .d (.seq .d (.seq .d (.seq .d (.seq .d (.seq .d (.seq .d (.cut [8, 9, 10] [⟨10, [], .own 5 (.int .u8)⟩] .d (.cut [7, 8, 9, 10, 11] [] (.keep [7, 8, 9, 10, 11, 46, 48, 49, 50, 51] true) .d)))))))))), ⟨[(81, F81.c), (82, Pw), (83, F83.c), (84, F84.c), (85, F85.c), (87, F87.c), (88, F88.c)], gl, false⟩, [(86, (.seq .d (.seq .d (.cut [5] [] (.seq .d (.blk (.loop [1, 5, 11, 12, 13] [] (.seq .d (.seq .d (.cut [1, 5, 11, 12, 13] [] .d .d)))))) .d))))], f53⟩
def t9 (a : List LB) (b f : LB) (g : Int) (h : LI) : S := ⟨[(1, .fn 87 []), (5, .own 0), (11, .own 1), (12, vi (Ac a)), (13, vi g)], [Ai 3 h, .arr 22 (.list (.int .u8)) a, Ab 5 b, Ab 5 f], [[(8, .own 1), (9, .own 2), (10, .own 3)]]⟩
def z9 : Nat → S → Option R_ := H.i P_ [r,r,r,r,r,r,r,r,r,l,(call 1 86),r,r,l,r,d]
def x14 (k : Int) (a : List LB) (b f n : LB) : Option R_ := H.e P_ [r,r,r,r,r,r,r,r,r,r] ⟨[(7, vi k), (8, .own 0), (9, .own 1), (10, .own 2), (11, .own 3)], [.arr 22 (.list (.int .u8)) a, Ab 5 b, Ab 5 f, Ab 5 n], []⟩
def x13 (h : LI) (a : List LB) (b f : LB) : Option R_ := H.e P_ [r,r,r,r,r,r,r,r,r,l,(call 1 86),r,r,r] ⟨[(5, .own 0)], [Ai 3 h, .arr 22 (.list (.int .u8)) a, Ab 5 b, Ab 5 f], [[(8, .own 1), (9, .own 2), (10, .own 3)]]⟩
def x11 (kn9 : K_) (a : List LB) (b f : LB) (g : Int) (m : LI) : Option R_ := H.e P_ [r,r,r,r,r,r,r,r,r,l,(call 1 86),r,r,l,r,d,(lp kn9),r,r,r] ⟨[(1, .fn 87 []), (5, .own 0), (11, .own 1), (12, vi (Ac a)), (13, vi g)], [Ai 3 m, .arr 22 (.list (.int .u8)) a, Ab 5 b, Ab 5 f], [[(8, .own 1), (9, .own 2), (10, .own 3)]]⟩
def x9 (a : List LB) (b f : LB) (g : Int) (h : LI) : Option R_ := H.e P_ [r,r,r,r,r,r,r,r,r,l,(call 1 86),r,r,l,r,d] (t9 a b f g h)
def x8 (a : List LB) (b f : LB) : Option R_ := H.e P_ [r,r,r,r,r,r,r,r,r] ⟨[(8, .own 0), (9, .own 1), (10, .own 2)], [.arr 22 (.list (.int .u8)) a, Ab 5 b, Ab 5 f], []⟩
theorem e14 : x14 = Uz := by kernel_rfl
theorem e13 : x13 = Um := Eq.trans (b := Ue x14) (by kernel_rfl) (by simp only [e14] <;> rfl)
theorem e11 (kn9 : K_) (a : List LB) (b f : LB) : x11 kn9 a b f = Vl (fun g h => kn9 (t9 a b f g h)) a b f := by kernel_rfl
theorem i9 (a : List LB) (b f : LB) : ∀ (q : Nat) (g : Int) (h : LI), z9 q (t9 a b f g h) = Nw a b f q g h :=
 ind (fun _ _ => by kernel_rfl) fun q ih g h => Eq.trans (b := Vy (x11 (z9 q) a b f) x13 a b f g h) (by kernel_rfl) (by simp only [e11, e13, ih] <;> rfl)
theorem e9 : x9 = Wj := by funext a b f g h; exact Eq.trans (by kernel_rfl) ((i9 a b f Bg g h).trans (by rw [Aj]; rfl))
theorem e8 : x8 = Zo := Eq.trans (b := Wd x9) (by kernel_rfl) (by simp only [e9] <;> rfl)
noncomputable def F := u5 Ag9
theorem rn x : H.u P_ x = F x := Eq.trans (b := u5 (Zl x8) x) (by kernel_rfl) (by simp only [e8] <;> rfl)
noncomputable def c : Con := ⟨H.p, H.r, F⟩
theorem ok : ConOk P_ gl 53 c := cr H func53 (.cons F81.ok (.cons Alq (.cons F83.ok (.cons F84.ok (.cons F85.ok (.cons F87.ok (.cons F88.ok .nil))))))) (AnsOk.cons ent86 AnsOk.nil) rn
end F53
namespace F28
noncomputable def H : Hd := ⟨[], [Ob 5, Sz], .d, ⟨[(53, F53.c)], gl, false⟩, [], f28⟩
noncomputable def F (x : Unit) := Mm
theorem rn x : H.u P_ x = F x := by kernel_rfl
noncomputable def c : Con := ⟨H.p, H.r, F⟩
theorem ok : ConOk P_ gl 28 c := co H func28 (.cons F53.ok .nil) rn
end F28
namespace F37
noncomputable def H : Hd := ⟨[Sb, Sb], [Sz], .d, ⟨[], gl, false⟩, [], f37⟩
noncomputable def F := u2 Fx
theorem rn x : H.u P_ x = F x := by kernel_rfl
noncomputable def c : Con := ⟨H.p, H.r, F⟩
theorem ok : ConOk P_ gl 37 c := co H func37 .nil rn
end F37
namespace F183
noncomputable def H : Hd := ⟨[Sb, Sb], [Sz], .d, ⟨[(37, F37.c)], gl, false⟩, [], f183⟩
noncomputable def F := u2 Fe
theorem rn x : H.u P_ x = F x := by kernel_rfl
noncomputable def c : Con := ⟨H.p, H.r, F⟩
theorem ok : ConOk P_ gl 183 c := co H func183 (.cons F37.ok .nil) rn
end F183
namespace F273
abbrev R_ := (Int × Int)
noncomputable def H : Hd := ⟨[Sb], [Si, Si], (.seq .d (.seq .d (.seq .d (.cut [4] [] (.seq .d (.blk (.loop [4, 10, 11, 12] [] .d))) .d)))), ⟨[], gl, false⟩, [], f273⟩
def t4 (a : LB) (b f : Int) : S := ⟨[(4, vi b), (10, vb a), (11, vi (Ac a)), (12, vi f)], [], []⟩
def z4 : Nat → S → Option R_ := H.i P_ [r,r,r,l,r,d]
def x6 (b : Int) : Option R_ := H.e P_ [r,r,r,r] ⟨[(4, vi b)], [], []⟩
def x4 (a : LB) (b f : Int) : Option R_ := H.e P_ [r,r,r,l,r,d] (t4 a b f)
theorem e6 : x6 = Rq := by kernel_rfl
theorem i4 (a : LB) : ∀ (q : Nat) (b f : Int), z4 q (t4 a b f) = Jz a q b f :=
 ind (fun _ _ => by kernel_rfl) fun q ih b f => Eq.trans (b := Qp x6 (fun b f => (z4 q) (t4 a b f)) a b f) (by kernel_rfl) (by simp only [e6, ih] <;> rfl)
theorem e4 : x4 = Rl := by funext a b f; exact Eq.trans (by kernel_rfl) ((i4 a Bg b f).trans (by rw [Aj]; rfl))
noncomputable def F := Aco
theorem rn x : H.u P_ x = F x := Eq.trans (b := Qo x4 x) (by kernel_rfl) (by simp only [e4] <;> rfl)
noncomputable def c : Con := ⟨H.p, H.r, F⟩
theorem ok : ConOk P_ gl 273 c := co H func273 .nil rn
end F273
namespace F226
def Ka (j5 : LB → UInt8 → UInt8 → Option (Int × Int)) (a : LB) : Option (Int × Int) :=
(Fe a ([(73 : UInt8), (68 : UInt8), (51 : UInt8)] : LB)).bind fun n =>
if (!n) then
some (0, 6)
else
if (Bl (Ac a) 10) then
some (0, 24)
else
(Ah a 3).bind fun f =>
(Ah a 5).bind fun b =>
(fun o : Option (Int × Int) =>
(fun p : Option (Int × Int) =>
both (
both (
bo (
j5 a f b)) [
o,
o]) [
bo2 (
bo (
j5 a f b)),
p,
p]) (
both (
o) [
bo (
j5 a f b),
both (
bo (
j5 a f b)) [
j5 a f b]])) (
both (
j5 a f b) [
bo (
j5 a f b)])
theorem Aba : @Ka = @Kz := by
  unfold Ka Kz
  try simp only [Ahw, Xl, Aaf]
  all_goals
    repeat (refine funext fun _ => ?_)
    repeat' first
      | with_reducible rfl
      | with_reducible refine Fz ?_ ?_
      | with_reducible refine Gg ?_ ?_ ?_
      | with_reducible refine Fy ?_ ?_ ?_ ?_
      | ((with_reducible refine It ?_ ?_); focus (intro h; first | (subst h; rfl) | (simp only [h]; rfl) | (simp [Dp, Ac, h]; done)))
      | with_reducible refine Jd fun x => ?_
      | with_reducible refine Nt (fun _ => ?_) (fun _ => ?_)
      | (refine Du (fun h => by simp only [h, Jc, Cw, Cn, ite_self]) (fun x h => ?_); (try simp only [h, Cw]))
      | (refine Eu (fun h => ?_) (fun h => ?_) <;> simp only [h, if_true, if_false, Bool.false_eq_true])
abbrev R_ := (Int × Int)
noncomputable def H : Hd := ⟨[Sb], [Si, Si], (.seq .d (.seq .d (.seq .d (.cut [0, 4, 5] [] (.mode false) (.seq .d (.seq .d (.cut [0, 5, 6] [] (.cut [0, 5, 6, 43] [] (.keep [0, 5, 6, 7, 8, 31, 32, 33, 34, 35, 36, 37, 38, 39, 40, 41, 42, 43] true) .d) (.seq .d (.cut [0, 5, 6] [] .d .d))))))))), ⟨[(37, F37.c), (183, F183.c), (273, F273.c)], gl, false⟩, [(274, .d)], f226⟩
def x8 (a : LB) (b : UInt8) (h : Int) : Option R_ := H.e P_ [r,r,r,r,r,r,r,r,r] ⟨[(0, vb a), (5, .ptr 0 []), (6, vi h)], [.box 5 (vc b)], []⟩
def x7 (a : LB) (g : Int) (b : UInt8) : Option R_ := H.e P_ [r,r,r,r,r,r,r] ⟨[(0, vb a), (5, .ptr 0 []), (6, vi g)], [.box 5 (vc b)], []⟩
def x6 (a : LB) (g : Int) (b : UInt8) (m : Bool) : Option R_ := H.e P_ [r,r,r,r,r,r,l,r] ⟨[(0, vb a), (5, .ptr 0 []), (6, vi g), (43, vt m)], [.box 5 (vc b)], []⟩
def x5 (a : LB) (f b : UInt8) : Option R_ := H.e P_ [r,r,r,r] ⟨[(0, vb a), (4, .ptr 0 []), (5, .ptr 1 [])], [.box 5 (vc f), .box 5 (vc b)], []⟩
theorem e8 : x8 = Vn := by kernel_rfl
theorem e7 : x7 = Vi := Eq.trans (b := Tt x8) (by kernel_rfl) (by simp only [e8] <;> rfl)
theorem e6 : x6 = Uj := Eq.trans (b := Tx x7) (by kernel_rfl) (by simp only [e7] <;> rfl)
theorem e5 : x5 = Uq := Eq.trans (b := Tu x6) (by kernel_rfl) (by simp only [e6] <;> rfl)
noncomputable def F := Ad4
theorem rn x : H.u P_ x = F x := Eq.trans (b := Ka x5 x) (by kernel_rfl) (by unfold F; rw [Aba]; simp only [e5] <;> rfl)
noncomputable def c : Con := ⟨H.p, H.r, F⟩
theorem ok : ConOk P_ gl 226 c := cr H func226 (.cons F37.ok (.cons F183.ok (.cons F273.ok .nil))) (AnsOk.cons ent274 AnsOk.nil) rn
end F226
namespace F181
abbrev R_ := (UInt64 × Int)
noncomputable def H : Hd := ⟨[Sb], [Sq, Si], (.seq .d (.seq .d (.seq .d (.cut [4] [] (.seq .d (.blk (.loop [4, 15, 16, 17] [] .d))) .d)))), ⟨[], gl, false⟩, [], f181⟩
def t4 (a : LB) (b : UInt64) (f : Int) : S := ⟨[(4, vq b), (15, vb a), (16, vi (Ac a)), (17, vi f)], [], []⟩
def z4 : Nat → S → Option R_ := H.i P_ [r,r,r,l,r,d]
def x6 (b : UInt64) : Option R_ := H.e P_ [r,r,r,r] ⟨[(4, vq b)], [], []⟩
def x4 (a : LB) (b : UInt64) (f : Int) : Option R_ := H.e P_ [r,r,r,l,r,d] (t4 a b f)
theorem e6 : x6 = Ahm := by kernel_rfl
theorem i4 (a : LB) : ∀ (q : Nat) (b : UInt64) (f : Int), z4 q (t4 a b f) = Ya a q b f :=
 ind (fun _ _ => by kernel_rfl) fun q ih b f => Eq.trans (b := Ahv x6 (fun b f => (z4 q) (t4 a b f)) a b f) (by kernel_rfl) (by simp only [e6, ih] <;> rfl)
theorem e4 : x4 = Ahi := by funext a b f; exact Eq.trans (by kernel_rfl) ((i4 a Bg b f).trans (by rw [Aj]; rfl))
noncomputable def F := Ajh
theorem rn x : H.u P_ x = F x := Eq.trans (b := Ahh x4 x) (by kernel_rfl) (by simp only [e4] <;> rfl)
noncomputable def c : Con := ⟨H.p, H.r, F⟩
theorem ok : ConOk P_ gl 181 c := co H func181 .nil rn
end F181
namespace F133
noncomputable def H : Hd := ⟨[Sb, Si, Si], [Sq, Si], .d, ⟨[(181, F181.c)], gl, false⟩, [], f133⟩
noncomputable def F := u3 Ai4
theorem rn x : H.u P_ x = F x := by kernel_rfl
noncomputable def c : Con := ⟨H.p, H.r, F⟩
theorem ok : ConOk P_ gl 133 c := co H func133 (.cons F181.ok .nil) rn
end F133
namespace F185
abbrev R_ := LB
noncomputable def H : Hd := ⟨[Si, Si, Sq], [Ob 5], (.seq .d (.seq .d (.cut [7] [] (.seq .d (.blk (.loop [7, 20, 21, 22] [] .d))) .d))), ⟨[(143, F143.c)], gl, false⟩, [], f185⟩
def t4 (a b : Int) (f : UInt64) (h : Int) (g : LB) : S := ⟨[(7, .own 0), (20, .own 1), (21, vi (Ac ([(2000 : UInt64), (Ak (Aa a (32 : Int)) : UInt64), (Ak b : UInt64), f, (0 : UInt64), (0 : UInt64)] : LQ))), (22, vi h)], [Ab 5 g, .arr 30 (.int .u64) ([(2000 : UInt64), (Ak (Aa a (32 : Int)) : UInt64), (Ak b : UInt64), f, (0 : UInt64), (0 : UInt64)] : LQ)], []⟩
def z4 : Nat → S → Option R_ := H.i P_ [r,r,l,r,d]
def x6 (g : LB) : Option R_ := H.e P_ [r,r,r] ⟨[(7, .own 0)], [Ab 5 g], []⟩
def x4 (a b : Int) (f : UInt64) (h : Int) (g : LB) : Option R_ := H.e P_ [r,r,l,r,d] (t4 a b f h g)
theorem e6 : x6 = Ajt := by kernel_rfl
theorem i4 (a b : Int) (f : UInt64) : ∀ (q : Nat) (h : Int) (g : LB), z4 q (t4 a b f h g) = Acw a b f q h g :=
 ind (fun _ _ => by kernel_rfl) fun q ih h g => Eq.trans (b := Ajb x6 (fun h g => (z4 q) (t4 a b f h g)) a b f h g) (by kernel_rfl) (by simp only [e6, ih] <;> rfl)
theorem e4 : x4 = Ai5 := by funext a b f h g; exact Eq.trans (by kernel_rfl) ((i4 a b f Bg h g).trans (by rw [Aj]; rfl))
noncomputable def F := u3 Aiu
theorem rn x : H.u P_ x = F x := Eq.trans (b := u3 (Alv x4) x) (by kernel_rfl) (by simp only [e4] <;> rfl)
noncomputable def c : Con := ⟨H.p, H.r, F⟩
theorem ok : ConOk P_ gl 185 c := co H func185 (.cons F143.ok .nil) rn
end F185
namespace F184
noncomputable def H : Hd := ⟨[Sb, Sq], [.agg [Si, Si], Sz], .d, ⟨[(37, F37.c), (133, F133.c), (185, F185.c)], gl, false⟩, [], f184⟩
noncomputable def F := u2 Aax
theorem rn x : H.u P_ x = F x := by kernel_rfl
noncomputable def c : Con := ⟨H.p, H.r, F⟩
theorem ok : ConOk P_ gl 184 c := co H func184 (.cons F37.ok (.cons F133.ok (.cons F185.ok .nil))) rn
end F184
namespace F227
noncomputable def H : Hd := ⟨[Sb], [Si, Si], .d, ⟨[(37, F37.c), (183, F183.c), (184, F184.c), (185, F185.c)], gl, false⟩, [], f227⟩
noncomputable def F := Amz
theorem rn x : H.u P_ x = F x := by kernel_rfl
noncomputable def c : Con := ⟨H.p, H.r, F⟩
theorem ok : ConOk P_ gl 227 c := co H func227 (.cons F37.ok (.cons F183.ok (.cons F184.ok (.cons F185.ok .nil)))) rn
end F227
namespace F179
noncomputable def H : Hd := ⟨[Sb], [Si, Si], .d, ⟨[(226, F226.c), (227, F227.c)], gl, false⟩, [], f179⟩
noncomputable def F := Kb
theorem rn x : H.u P_ x = F x := by kernel_rfl
noncomputable def c : Con := ⟨H.p, H.r, F⟩
theorem ok : ConOk P_ gl 179 c := co H func179 (.cons F226.ok (.cons F227.ok .nil)) rn
end F179
theorem Nl : ConOk Tryz.prog gl 78 Hg := Akn ent78 F179.ok
namespace F180
noncomputable def H : Hd := ⟨[Ss, Ss], [Sz], .d, ⟨[], gl, false⟩, [], f180⟩
noncomputable def F := u2 Er
theorem rn x : H.u P_ x = F x := by kernel_rfl
noncomputable def c : Con := ⟨H.p, H.r, F⟩
theorem ok : ConOk P_ gl 180 c := co H func180 .nil rn
end F180
namespace F132
noncomputable def H : Hd := ⟨[Ss, Ss], [Sz], .d, ⟨[(180, F180.c)], gl, false⟩, [], f132⟩
noncomputable def F := u2 Pb
theorem rn x : H.u P_ x = F x := by kernel_rfl
noncomputable def c : Con := ⟨H.p, H.r, F⟩
theorem ok : ConOk P_ gl 132 c := co H func132 (.cons F180.ok .nil) rn
end F132
namespace F79
abbrev R_ := (Int × Int × Int × Int × Int × Int)
noncomputable def H : Hd := ⟨[Sb], [.agg [Si, Si, Si, Si, Si], Si], (.seq .d (.seq .d (.seq .d (.seq .d (.seq .d (.seq .d (.seq .d (.cut [2, 8] [] (.seq .d (.blk (.loop [0, 2, 8, 9, 44, 45] [] .d))) .d)))))))), ⟨[(132, F132.c), (133, F133.c), (134, F134.c), (135, F135.c), (136, F136.c)], gl, false⟩, [], f79⟩
def t4 (b : LB) (g f : Int) (a : LI) : S := ⟨[(0, vb b), (2, .ptr 0 []), (8, .ptr 1 []), (9, vi g), (44, .val (.vec 5 (.int .i64)) ([(2 : Int), (2 : Int), (2 : Int), (4 : Int), (4 : Int)] : LI)), (45, vi f)], [.box 46 (.agg [vi 0, vi 0, vi 0, vi 0, vi 0]), .box 188 (.val (.vec 5 (.int .i64)) a)], []⟩
def z4 : Nat → S → Option R_ := H.i P_ [r,r,r,r,r,r,r,l,r,d]
def x6 (a : LI) : Option R_ := H.e P_ [r,r,r,r,r,r,r,r] ⟨[(2, .ptr 0 []), (8, .ptr 1 [])], [.box 46 (.agg [vi 0, vi 0, vi 0, vi 0, vi 0]), .box 188 (.val (.vec 5 (.int .i64)) a)], []⟩
def x4 (b : LB) (g f : Int) (a : LI) : Option R_ := H.e P_ [r,r,r,r,r,r,r,l,r,d] (t4 b g f a)
theorem e6 : x6 = Zt := by kernel_rfl
theorem i4 (b : LB) : ∀ (q : Nat) (g f : Int) (a : LI), z4 q (t4 b g f a) = Om b q g f a :=
 ind (fun _ _ _ => by kernel_rfl) fun q ih g f a => Eq.trans (b := Aae x6 (fun g f a => (z4 q) (t4 b g f a)) b g f a) (by kernel_rfl) (by simp only [e6, ih] <;> rfl)
theorem e4 : x4 = Zm := by funext b g f a; exact Eq.trans (by kernel_rfl) ((i4 b Bg g f a).trans (by rw [Aj]; rfl))
noncomputable def F := Ot
theorem rn x : H.u P_ x = F x := Eq.trans (b := Wm x4 x) (by kernel_rfl) (by simp only [e4] <;> rfl)
noncomputable def c : Con := ⟨H.p, H.r, F⟩
theorem ok : ConOk P_ gl 79 c := co H func79 (.cons F132.ok (.cons F133.ok (.cons F134.ok (.cons F135.ok (.cons F136.ok .nil))))) rn
end F79
namespace F68
noncomputable def H : Hd := ⟨[.agg [Si, Si, Si, Si, Si]], [Ol 3, Si], .d, ⟨[(120, F120.c), (121, F121.c)], gl, false⟩, [], f68⟩
noncomputable def F := u5 Ht
theorem rn x : H.u P_ x = F x := by kernel_rfl
noncomputable def c : Con := ⟨H.p, H.r, F⟩
theorem ok : ConOk P_ gl 68 c := co H func68 (.cons F120.ok (.cons F121.ok .nil)) rn
end F68
namespace F147
noncomputable def H : Hd := ⟨[Sb], [.agg [.agg [Si, Si, Si, Si, Si], .agg [Si, Si, Si, Si, Si], Ol 3], Si], .d, ⟨[(68, F68.c), (78, Hg), (79, F79.c)], gl, false⟩, [], f147⟩
noncomputable def F := Yi
theorem rn x : H.u P_ x = F x := by kernel_rfl
noncomputable def c : Con := ⟨H.p, H.r, F⟩
theorem ok : ConOk P_ gl 147 c := co H func147 (.cons F68.ok (.cons Nl (.cons F79.ok .nil))) rn
end F147
namespace F114
noncomputable def H : Hd := ⟨[Sb, Ss], [Sz, Si], .d, ⟨[(37, F37.c), (84, F84.c)], gl, false⟩, [], f114⟩
noncomputable def F := u2 Rz
theorem rn x : H.u P_ x = F x := by kernel_rfl
noncomputable def c : Con := ⟨H.p, H.r, F⟩
theorem ok : ConOk P_ gl 114 c := co H func114 (.cons F37.ok (.cons F84.ok .nil)) rn
end F114
namespace F115
abbrev R_ := (LI × Int)
noncomputable def H : Hd := ⟨[Sb, Si], [Ol 3, Si], (.seq .d (.seq .d (.seq .d (.seq .d (.seq .d (.seq .d (.cut [10] [] (.seq .d (.blk (.loop [0, 10, 48, 49] [] .d))) .d))))))), ⟨[(70, F70.c), (133, F133.c), (134, F134.c)], gl, false⟩, [], f115⟩
def t4 (b : LB) (f : LI) (g : Int) (a : LI) : S := ⟨[(0, vb b), (10, .own 0), (48, vi (Ac f)), (49, vi g)], [Ai 3 a], []⟩
def z4 : Nat → S → Option R_ := H.i P_ [r,r,r,r,r,r,l,r,d]
def x6 (a : LI) : Option R_ := H.e P_ [r,r,r,r,r,r,r] ⟨[(10, .own 0)], [Ai 3 a], []⟩
def x4 (b : LB) (f : LI) (g : Int) (a : LI) : Option R_ := H.e P_ [r,r,r,r,r,r,l,r,d] (t4 b f g a)
theorem e6 : x6 = Ab2 := by kernel_rfl
theorem i4 (b : LB) (f : LI) : ∀ (q : Nat) (g : Int) (a : LI), z4 q (t4 b f g a) = Qd b f q g a :=
 ind (fun _ _ => by kernel_rfl) fun q ih g a => Eq.trans (b := Acb x6 (fun g a => (z4 q) (t4 b f g a)) b f g a) (by kernel_rfl) (by simp only [e6, ih] <;> rfl)
theorem e4 : x4 = Abt := by funext b f g a; exact Eq.trans (by kernel_rfl) ((i4 b f Bg g a).trans (by rw [Aj]; rfl))
noncomputable def F := u2 Ti
theorem rn x : H.u P_ x = F x := Eq.trans (b := u2 (Abp x4) x) (by kernel_rfl) (by simp only [e4] <;> rfl)
noncomputable def c : Con := ⟨H.p, H.r, F⟩
theorem ok : ConOk P_ gl 115 c := co H func115 (.cons F70.ok (.cons F133.ok (.cons F134.ok .nil))) rn
end F115
namespace F162
noncomputable def H : Hd := ⟨[Sb], [Sb, Si], .d, ⟨[(134, F134.c), (181, F181.c)], gl, false⟩, [], f162⟩
noncomputable def F := Yj
theorem rn x : H.u P_ x = F x := by kernel_rfl
noncomputable def c : Con := ⟨H.p, H.r, F⟩
theorem ok : ConOk P_ gl 162 c := co H func162 (.cons F134.ok (.cons F181.ok .nil)) rn
end F162
namespace F163
noncomputable def H : Hd := ⟨[Sb], [.agg [Ob 5, Si], Si], .d, ⟨[(107, F107.c)], gl, false⟩, [], f163⟩
noncomputable def F := As3
theorem rn x : H.u P_ x = F x := by kernel_rfl
noncomputable def c : Con := ⟨H.p, H.r, F⟩
theorem ok : ConOk P_ gl 163 c := co H func163 (.cons F107.ok .nil) rn
end F163
namespace F208
abbrev R_ := UInt64
noncomputable def H : Hd := ⟨[.agg [Sb, Si], Si, Si], [Sq], (.seq .d (.seq .d (.cut [7] [] (.blk (.loop [1, 2, 3, 7, 8] [] .d)) .d))), ⟨[], gl, false⟩, [], f208⟩
def t4 (b f : Int) (h : LB) (k : Int) (g : UInt64) (a : Int) : S := ⟨[(1, vi b), (2, vi f), (3, .ptr 0 []), (7, vq g), (8, vi a)], [.box 224 (.agg [vb h, vi k])], []⟩
def z4 : Nat → S → Option R_ := H.i P_ [r,r,l,d]
def x6 (g : UInt64) : Option R_ := H.e P_ [r,r,r] ⟨[(7, vq g)], [], []⟩
def x4 (b f : Int) (h : LB) (k : Int) (g : UInt64) (a : Int) : Option R_ := H.e P_ [r,r,l,d] (t4 b f h k g a)
theorem e6 : x6 = Aia := by kernel_rfl
theorem i4 (b f : Int) (h : LB) (k : Int) : ∀ (q : Nat) (g : UInt64) (a : Int), z4 q (t4 b f h k g a) = Zb b f h k q g a :=
 ind (fun _ _ => by kernel_rfl) fun q ih g a => Eq.trans (b := Ah5 x6 (fun g a => (z4 q) (t4 b f h k g a)) b f h k g a) (by kernel_rfl) (by simp only [e6, ih] <;> rfl)
theorem e4 : x4 = Aib := by funext b f h k g a; exact Eq.trans (by kernel_rfl) ((i4 b f h k Bg g a).trans (by rw [Aj]; rfl))
noncomputable def F := u4 Al2
theorem rn x : H.u P_ x = F x := Eq.trans (b := u4 (Ahk x4) x) (by kernel_rfl) (by simp only [e4] <;> rfl)
noncomputable def c : Con := ⟨H.p, H.r, F⟩
theorem ok : ConOk P_ gl 208 c := co H func208 .nil rn
end F208
namespace F205
abbrev R_ := (LB × Int × Int)
abbrev K_ := S → Option R_
noncomputable def H : Hd := ⟨[.agg [Sb, Si], Si, Si], [.agg [Ob 5, Si], Si], (.seq .d (.seq .d (.seq .d (.seq .d (.cut [6, 8] [] (.seq .d (.blk (.loop [2, 3, 6, 8, 9] [⟨8, [0], .own 5 (.int .u8)⟩] (.seq .d (.cut [2, 3, 6, 8, 9] [] (.blk (.seq .d (.keep [2, 3, 6, 8, 9, 10, 39, 40, 41, 42, 43] true))) .d))))) .d))))), ⟨[(207, F207.c), (208, F208.c)], gl, false⟩, [(248, (.blk (.loop [0, 1, 2] [] (.seq .d (.blk (.cut [0, 1, 2] [] .d (.seq .d (.cut [0, 1, 2, 7] [] .d .d))))))))], f205⟩
def t44 (a : Int) (g : LB) (f b : Int) (k n : UInt64) (m h : Int) (u : LB) : S := ⟨[(0, .ptr 0 []), (1, vq n), (2, vi m)], [.box 224 (.agg [.own 3, vi h]), .box 224 (.agg [vb g, vi f]), .box 224 (.agg [.nils, vi 0]), Ab 5 u], [[(2, vi a), (3, .ptr 1 []), (6, .ptr 2 []), (8, .ptr 0 []), (9, vi b), (10, vi (Cx (64 : Int) (Ae a b))), (39, .agg [vb g, vi f]), (40, vi b), (41, vi (Cx (64 : Int) (Ae a b))), (42, vq k), (43, vi (Cx (64 : Int) (Ae a b)))]]⟩
def z44 (kn27 : K_) : Nat → S → Option R_ := H.i P_ [r,r,r,r,l,r,d,(lp kn27),r,l,d,r,(call 5 248),d]
def t27 (a : Int) (g : LB) (f b o : Int) (p : LB) : S := ⟨[(2, vi a), (3, .ptr 0 []), (6, .ptr 1 []), (8, .ptr 2 []), (9, vi b)], [.box 224 (.agg [vb g, vi f]), .box 224 (.agg [.nils, vi 0]), .box 224 (.agg [.own 3, vi o]), Ab 5 p], []⟩
def z27 : Nat → S → Option R_ := H.i P_ [r,r,r,r,l,r,d]
def x52 (o : Int) (p : LB) : Option R_ := H.e P_ [r,r,r,r,r] ⟨[(6, .ptr 0 []), (8, .ptr 1 [])], [.box 224 (.agg [.nils, vi 0]), .box 224 (.agg [.own 2, vi o]), Ab 5 p], []⟩
def x50 (kn27 : K_) (a : Int) (g : LB) (f b h : Int) (u : LB) : Option R_ := H.e P_ [r,r,r,r,l,r,d,(lp kn27),r,r] ⟨[(2, vi a), (3, .ptr 0 []), (6, .ptr 1 []), (8, .ptr 2 []), (9, vi b)], [.box 224 (.agg [vb g, vi f]), .box 224 (.agg [.nils, vi 0]), .box 224 (.agg [.own 3, vi h]), Ab 5 u], []⟩
def x48 (kn27 kn44 : K_) (a b : Int) (g : LB) (f : Int) (k n : UInt64) (m h : Int) (w : LB) : Option R_ := H.e P_ [r,r,r,r,l,r,d,(lp kn27),r,l,d,r,(call 5 248),d,(lp kn44),r,d,r,r,r] ⟨[(0, .ptr 0 []), (1, vq n), (2, vi m), (7, vi (Cx m (Ae (8 : Int) (Cj h (7 : Int)))))], [.box 224 (.agg [.own 3, vi h]), .box 224 (.agg [vb g, vi f]), .box 224 (.agg [.nils, vi 0]), Ab 5 w], [[(2, vi a), (3, .ptr 1 []), (6, .ptr 2 []), (8, .ptr 0 []), (9, vi b), (10, vi (Cx (64 : Int) (Ae a b))), (39, .agg [vb g, vi f]), (40, vi b), (41, vi (Cx (64 : Int) (Ae a b))), (42, vq k), (43, vi (Cx (64 : Int) (Ae a b)))]]⟩
def x47 (kn27 kn44 : K_) (a b : Int) (g : LB) (f : Int) (k n : UInt64) (m h : Int) (v : LB) : Option R_ := H.e P_ [r,r,r,r,l,r,d,(lp kn27),r,l,d,r,(call 5 248),d,(lp kn44),r,d,r] ⟨[(0, .ptr 0 []), (1, vq n), (2, vi m)], [.box 224 (.agg [.own 3, vi h]), .box 224 (.agg [vb g, vi f]), .box 224 (.agg [.nils, vi 0]), Ab 5 v], [[(2, vi a), (3, .ptr 1 []), (6, .ptr 2 []), (8, .ptr 0 []), (9, vi b), (10, vi (Cx (64 : Int) (Ae a b))), (39, .agg [vb g, vi f]), (40, vi b), (41, vi (Cx (64 : Int) (Ae a b))), (42, vq k), (43, vi (Cx (64 : Int) (Ae a b)))]]⟩
def x44 (kn27 : K_) (a : Int) (g : LB) (f b : Int) (k n : UInt64) (m h : Int) (u : LB) : Option R_ := H.e P_ [r,r,r,r,l,r,d,(lp kn27),r,l,d,r,(call 5 248),d] (t44 a g f b k n m h u)
def x27 (a : Int) (g : LB) (f b o : Int) (p : LB) : Option R_ := H.e P_ [r,r,r,r,l,r,d] (t27 a g f b o p)
theorem e52 : x52 = Aew := by kernel_rfl
theorem e50 (kn27 : K_) (a : Int) (g : LB) (f : Int) : x50 kn27 a g f = Ad3 (fun b o p => kn27 (t27 a g f b o p)) a g f := by kernel_rfl
theorem e48 (kn27 kn44 : K_) (a : Int) (g : LB) (f b : Int) (k : UInt64) : x48 kn27 kn44 a b g f k = Ae7 (fun n m h u => kn44 (t44 a g f b k n m h u)) a b g f k := by kernel_rfl
theorem e47 (kn27 kn44 : K_) (a : Int) (g : LB) (f b : Int) (k : UInt64) : x47 kn27 kn44 a b g f k = Afl (fun n m h u => kn44 (t44 a g f b k n m h u)) a b g f k := Eq.trans (b := Ad8 (x48 kn27 kn44 a b g f k) a b g f k) (by kernel_rfl) (by simp only [e48] <;> rfl)
theorem i44 (kn27 : K_) (a : Int) (g : LB) (f b : Int) (k : UInt64) : ∀ (q : Nat) (n : UInt64) (m h : Int) (u : LB), z44 kn27 q (t44 a g f b k n m h u) = Ta (fun b o p => kn27 (t27 a g f b o p)) a g f b k q n m h u :=
 ind (fun _ _ _ _ => by kernel_rfl) fun q ih n m h u => Eq.trans (b := Ae8 (x47 kn27 (z44 kn27 q) a b g f k) (x50 kn27 a g f) a g f b k n m h u) (by kernel_rfl) (by simp only [e47, e50, ih] <;> rfl)
theorem e44 (kn27 : K_) (a : Int) (g : LB) (f : Int) : x44 kn27 a g f = Ad0 (fun b o p => kn27 (t27 a g f b o p)) a g f := by funext b k n m h u; exact Eq.trans (by kernel_rfl) ((i44 kn27 a g f b k Bg n m h u).trans (by rw [Aj]; rfl))
theorem i27 (a : Int) (g : LB) (f : Int) : ∀ (q : Nat) (b o : Int) (p : LB), z27 q (t27 a g f b o p) = Sa a g f q b o p :=
 ind (fun _ _ _ => by kernel_rfl) fun q ih b o p => Eq.trans (b := Ad6 (x44 (z27 q) a g f) x52 a g f b o p) (by kernel_rfl) (by simp only [e44, e52, ih] <;> rfl)
theorem e27 : x27 = Aee := by funext a g f b o p; exact Eq.trans (by kernel_rfl) ((i27 a g f Bg b o p).trans (by rw [Aj]; rfl))
noncomputable def F := u4 Ajz
theorem rn x : H.u P_ x = F x := Eq.trans (b := u4 (Ahg x27) x) (by kernel_rfl) (by simp only [e27] <;> rfl)
noncomputable def c : Con := ⟨H.p, H.r, F⟩
theorem ok : ConOk P_ gl 205 c := cr H func205 (.cons F207.ok (.cons F208.ok .nil)) (AnsOk.cons ent248 AnsOk.nil) rn
end F205
namespace F165
noncomputable def H : Hd := ⟨[.agg [Sb, Si], Si, Si], [Sq, Si], .d, ⟨[(207, F207.c), (208, F208.c)], gl, false⟩, [], f165⟩
noncomputable def F := u4 Mx
theorem rn x : H.u P_ x = F x := by kernel_rfl
noncomputable def c : Con := ⟨H.p, H.r, F⟩
theorem ok : ConOk P_ gl 165 c := co H func165 (.cons F207.ok (.cons F208.ok .nil)) rn
end F165
namespace F304
noncomputable def H : Hd := ⟨[Sq], [Si], .d, ⟨[], gl, false⟩, [], f304⟩
noncomputable def F := Gy
theorem rn x : H.u P_ x = F x := by kernel_rfl
noncomputable def c : Con := ⟨H.p, H.r, F⟩
theorem ok : ConOk P_ gl 304 c := co H func304 .nil rn
end F304
namespace F284
def Oc (j6 : Int → UInt64 → Int → LB → Int → Option (Int × Int × Int)) (g : LB) (b a : Int) : Option (Int × Int × Int) :=
(Dy g b).bind fun m =>
if (Bf m 0) then
some (0, 0, m)
else
if (Bl a 0) then
some (0, 0, 2)
else
if (Et a b) then
some (0, 0, 24)
else
(fun n : Option (Int × Int × Int) =>
(fun o : Option (Int × Int × Int) =>
bo2 (
o)) (
bo (
n))) (
(Mx g b a (Cx 48 (Ae b a))).bind fun (k, h) =>
j6 h k a g b)
theorem Afq : @Oc = @Qh := by
  unfold Oc Qh
  simp only [Ahw, Xl, Aaf]
abbrev R_ := (Int × Int × Int)
noncomputable def H : Hd := ⟨[.agg [Sb, Si], Si], [Si, Si, Si], (.seq .d (.seq .d (.seq .d (.seq .d (.seq .d (.cut [3, 5, 6, 8, 9] [] (.keep [2, 3, 5, 6, 8, 9, 22, 23, 24, 25, 26, 27, 28, 29] false) (.seq .d (.seq .d (.cut [] [] (.blk (.seq (.blk (.seq (.blk (.cut [] [] (.cut [3, 4, 5] [] (.cut [3, 4, 5, 36] [] (.keep [3, 4, 5, 8, 36, 37, 38, 39, 40] true) .d) .d) .d)) .d)) .d)) .d))))))))), ⟨[(165, F165.c), (207, F207.c), (304, F304.c)], gl, false⟩, [(303, .d)], f284⟩
def x10 : Option R_ := H.e P_ [r,r,r,r,r,r,r,r,r] ⟨[], [], []⟩
def x9 : Option R_ := H.e P_ [r,r,r,r,r,r,r,r,l,d,l,d,l,d,r] ⟨[], [], []⟩
def x8 (f a : Int) : Option R_ := H.e P_ [r,r,r,r,r,r,r,r,l,d,l,d,l,d,l,r] ⟨[(3, .ptr 0 []), (4, vi f), (5, vi 0)], [.box 3 (vi a)], []⟩
def x7 (f b a : Int) : Option R_ := H.e P_ [r,r,r,r,r,r,r,r,l,d,l,d,l,d,l,l,r] ⟨[(3, .ptr 0 []), (4, vi f), (5, vi 0), (36, vt (Bl f (Cx (48 : Int) (Ae b a))))], [.box 3 (vi a)], []⟩
def x6 (h : Int) (k : UInt64) (a : Int) (g : LB) (b : Int) : Option R_ := H.e P_ [r,r,r,r,r,r] ⟨[(3, .ptr 0 []), (5, vi 0), (6, vi h), (8, .fn 303 [.ptr 1 [], .ptr 0 []]), (9, vq k)], [.box 3 (vi a), .box 224 (.agg [vb g, vi b])], []⟩
theorem e10 : x10 = Vu := by kernel_rfl
theorem e9 : x9 = Abl := Eq.trans (b := Abx x10) (by kernel_rfl) (by simp only [e10] <;> rfl)
theorem e8 : x8 = Ab6 := Eq.trans (b := Abi x9) (by kernel_rfl) (by simp only [e9] <;> rfl)
theorem e7 : x7 = Abr := Eq.trans (b := Abz x8) (by kernel_rfl) (by simp only [e8] <;> rfl)
theorem e6 : x6 = Acg := Eq.trans (b := Abq x7) (by kernel_rfl) (by simp only [e7] <;> rfl)
noncomputable def F := u3 Ak6
theorem rn x : H.u P_ x = F x := Eq.trans (b := u3 (Oc x6) x) (by kernel_rfl) (by unfold F; rw [Afq]; simp only [e6] <;> rfl)
noncomputable def c : Con := ⟨H.p, H.r, F⟩
theorem ok : ConOk P_ gl 284 c := cr H func284 (.cons F165.ok (.cons F207.ok (.cons F304.ok .nil))) (AnsOk.cons ent303 AnsOk.nil) rn
end F284
namespace F249
abbrev R_ := (UInt32 × Int × Int)
noncomputable def H : Hd := ⟨[.agg [Sb, Si], Si, Si], [Su, Si, Si], (.seq .d (.seq .d (.seq .d (.seq .d (.seq .d (.seq .d (.cut [2, 3, 7, 10, 11] [] .d .d))))))), ⟨[(165, F165.c), (207, F207.c), (278, F278.c), (284, F284.c)], gl, false⟩, [], f249⟩
def x2 (a b f : Int) (g : LB) (h k : Int) : Option R_ := H.e P_ [r,r,r,r,r,r,r] ⟨[(2, vi a), (3, .ptr 0 []), (7, vi b), (10, vi f), (11, vi k)], [.box 224 (.agg [vb g, vi h])], []⟩
theorem e2 : x2 = Aep := by kernel_rfl
noncomputable def F := u4 Am7
theorem rn x : H.u P_ x = F x := Eq.trans (b := u4 (Aej x2) x) (by kernel_rfl) (by simp only [e2] <;> rfl)
noncomputable def c : Con := ⟨H.p, H.r, F⟩
theorem ok : ConOk P_ gl 249 c := co H func249 (.cons F165.ok (.cons F207.ok (.cons F278.ok (.cons F284.ok .nil)))) rn
end F249
namespace F206
abbrev R_ := (UInt32 × Int × Int × Int × UInt64 × UInt64 × Int)
noncomputable def H : Hd := ⟨[.agg [Sb, Si], Si, .agg [Si, Si, Sq, Sq]], [Su, Si, .agg [Si, Si, Sq, Sq], Si], (.seq .d (.cut [1, 3, 5, 8] [] .d (.seq .d (.seq .d (.cut [5, 6, 7, 8] [] .d (.cut [5, 6, 7, 8] [] (.keep [5, 6, 7, 8, 81] true) .d)))))), ⟨[(165, F165.c), (207, F207.c), (233, F233.c), (234, F234.c), (249, F249.c)], gl, false⟩, [(237, (.seq .d (.seq .d (.seq .d (.blk (.cut [0, 1, 4] [] (.blk (.seq .d (.keep [0, 1, 4, 6, 18, 19, 20, 21, 22, 23, 24, 25] true))) (.cut [] [] (.keep [0, 1, 4, 27, 28, 29, 30, 31, 32, 33, 34] true) .d))))))), (280, .d)], f206⟩
def x10 (f : UInt32) (k w m : Int) (a n : UInt64) : Option R_ := H.e P_ [r,r,r,r,r,r] ⟨[(5, .ptr 0 []), (6, vu f), (7, vi k), (8, .ptr 1 [])], [.box 258 (.agg [vi w, vi m, vq (Aa a (Ae (Ak f : UInt64) (Bj a (GI.toZ (4 : UInt64)).toNat))), vq n]), .box 258 (.agg [vi 0, vi 0, vq 0, vq 0])], []⟩
def x9 (f : UInt32) (k m : Int) (a n : UInt64) (w : Int) : Option R_ := H.e P_ [r,r,r,r,r,l,(call 1 237),r,r,r,d,r,r] ⟨[], [.box 258 (.agg [vi w, vi m, vq (Aa a (Ae (Ak f : UInt64) (Bj a (GI.toZ (4 : UInt64)).toNat))), vq n]), .box 258 (.agg [vi 0, vi 0, vq 0, vq 0])], [[(5, .ptr 0 []), (6, vu f), (7, vi k), (8, .ptr 1 []), (81, vu f)]]⟩
def x8 (f : UInt32) (k b : Int) (a : UInt64) (m : Int) (n : UInt64) : Option R_ := H.e P_ [r,r,r,r,r,l,(call 1 237),r,r,r,d,r] ⟨[(0, .ptr 0 []), (1, vu f), (4, .fn 280 [])], [.box 258 (.agg [vi b, vi m, vq a, vq n]), .box 258 (.agg [vi 0, vi 0, vq 0, vq 0])], [[(5, .ptr 0 []), (6, vu f), (7, vi k), (8, .ptr 1 []), (81, vu f)]]⟩
def x7 (b h : Int) (a g : UInt64) (f : UInt32) (k : Int) : Option R_ := H.e P_ [r,r,r,r,r] ⟨[(5, .ptr 0 []), (6, vu f), (7, vi k), (8, .ptr 1 [])], [.box 258 (.agg [vi b, vi h, vq a, vq g]), .box 258 (.agg [vi 0, vi 0, vq 0, vq 0])], []⟩
def x6 (p : Int) (u : LB) (v b h : Int) (a g : UInt64) : Option R_ := H.e P_ [r,r] ⟨[(1, vi p), (3, .ptr 0 []), (5, .ptr 1 []), (8, .ptr 2 [])], [.box 224 (.agg [vb u, vi v]), .box 258 (.agg [vi b, vi h, vq a, vq g]), .box 258 (.agg [vi 0, vi 0, vq 0, vq 0])], []⟩
theorem e10 : x10 = Acp := by kernel_rfl
theorem e9 : x9 = Ae6 := Eq.trans (b := Afx x10) (by kernel_rfl) (by simp only [e10] <;> rfl)
theorem e8 : x8 = Afz := Eq.trans (b := Afw x9) (by kernel_rfl) (by simp only [e9] <;> rfl)
theorem e7 : x7 = Afr := Eq.trans (b := Afc x8) (by kernel_rfl) (by simp only [e8] <;> rfl)
theorem e6 : x6 = Ael := Eq.trans (b := Ad9 x7) (by kernel_rfl) (by simp only [e7] <;> rfl)
noncomputable def F := u7 Qx
theorem rn x : H.u P_ x = F x := Eq.trans (b := u7 (Aey x6) x) (by kernel_rfl) (by simp only [e6] <;> rfl)
noncomputable def c : Con := ⟨H.p, H.r, F⟩
theorem ok : ConOk P_ gl 206 c := cr H func206 (.cons F165.ok (.cons F207.ok (.cons F233.ok (.cons F234.ok (.cons F249.ok .nil))))) (AnsOk.cons ent237 (AnsOk.cons ent280 AnsOk.nil)) rn
end F206
namespace F164
def Ha (j21 : Int → Int → Int → UInt32 → Int → (List (Int × Int × UInt64 × UInt64 × Unit)) → LU → Int → Int → UInt64 → UInt64 → Option (LU × Int × Int)) (j24 : Int → LU → Option (LU × Int × Int)) (a f : Int) (g : LB) (b k h : Int) (n : List (Int × Int × UInt64 × UInt64 × Unit)) (m : LU) : Option (LU × Int × Int) :=
if (Bl h (Cc f a)) then
(Ajz g b k (Cx (Aa k 81) b)).bind fun (ah, ae, af) =>
if (Bf af 0) then
some (([] : LU), 0, af)
else
(Dr (Bf a 0)).bind fun _ =>
(Ah n (Ev h a)).bind fun _ =>
(fun ai : Option (LU × Int × Int) =>
both (
both (
(Ah n (Ev h a)).bind fun p =>
(fun ao : Option (LU × Int × Int) =>
bo (
ao)) (
(Qx ah ae 0 p.1 p.2.1 p.2.2.1 p.2.2.2.1).bind fun (w, v, aa, ab, ac, ad, y) =>
j21 k h y w v n m aa ab ac ad)) [
ai]) [
(Ah n (Ev h a)).bind fun p =>
(fun aj : Option (LU × Int × Int) =>
both (
bo (
aj)) [
aj]) (
(Qx ah ae 0 p.1 p.2.1 p.2.2.1 p.2.2.2.1).bind fun (w, v, aa, ab, ac, ad, y) =>
j21 k h y w v n m aa ab ac ad),
bo (
ai)]) (
(Ah n (Ev h a)).bind fun p =>
(Qx ah ae 0 p.1 p.2.1 p.2.2.1 p.2.2.2.1).bind fun (w, v, aa, ab, ac, ad, y) =>
j21 k h y w v n m aa ab ac ad)
else
j24 k m
theorem Tc : @Ha = @Ih := by
  unfold Ha Ih
  try simp only [Ahw, Xl, Aaf]
  all_goals
    repeat (refine funext fun _ => ?_)
    repeat' first
      | with_reducible rfl
      | with_reducible refine Fz ?_ ?_
      | with_reducible refine Gg ?_ ?_ ?_
      | with_reducible refine Fy ?_ ?_ ?_ ?_
      | ((with_reducible refine It ?_ ?_); focus (intro h; first | (subst h; rfl) | (simp only [h]; rfl) | (simp [Dp, Ac, h]; done)))
      | with_reducible refine Jd fun x => ?_
      | with_reducible refine Nt (fun _ => ?_) (fun _ => ?_)
      | (refine Du (fun h => by simp only [h, Jc, Cw, Cn, ite_self]) (fun x h => ?_); (try simp only [h, Cw]))
      | (refine Eu (fun h => ?_) (fun h => ?_) <;> simp only [h, if_true, if_false, Bool.false_eq_true])
abbrev R_ := (LU × Int × Int)
abbrev K_ := S → Option R_
noncomputable def H : Hd := ⟨[Si, Si, .agg [Sb, Si]], [Ov 23, Si, Si], (.seq .d (.seq .d (.cut [0, 1, 5, 9] [] (.seq .d (.blk (.loop [0, 1, 5, 9, 19] [] .d))) (.seq .d (.seq .d (.cut [11, 12] [] (.seq .d (.blk (.loop [0, 5, 9, 11, 12, 28, 29] [⟨11, [], .own 23 (.int .u32)⟩] (.seq .d (.seq .d (.seq (.blk (.seq .d (.seq .d (.seq .d (.cut [0, 5, 9, 11, 12, 13, 15, 16, 17, 18, 28, 29] [] (.mode false) (.seq .d (.cut [0, 5, 9, 11, 12, 16, 28, 29] [] .d .d))))))) .d)))))) .d)))))), ⟨[(204, F204.c), (205, F205.c), (206, F206.c)], gl, false⟩, [], f164⟩
def t16 (a f : Int) (g : LB) (b k h : Int) (n : List (Int × Int × UInt64 × UInt64 × Unit)) (m : LU) : S := ⟨[(0, vi a), (5, .ptr 0 []), (9, .ptr 1 []), (11, .own 2), (12, vi k), (28, vi (Cc f a)), (29, vi h)], [.box 224 (.agg [vb g, vi b]), .box 259 (.val (.vec 6 (.cons (.int .i64) (.cons (.int .i64) (.cons (.int .u64) (.cons (.int .u64) .nil))))) n), Av 23 m], []⟩
def z16 : Nat → S → Option R_ := H.i P_ [r,r,r,r,r,l,r,d]
def t13 (a f : Int) (g : LB) (b u : Int) (o : List (Int × Int × UInt64 × UInt64 × Unit)) : S := ⟨[(0, vi a), (1, vi f), (5, .ptr 0 []), (9, .ptr 1 []), (19, vi u)], [.box 224 (.agg [vb g, vi b]), .box 259 (.val (.vec 6 (.cons (.int .i64) (.cons (.int .i64) (.cons (.int .u64) (.cons (.int .u64) .nil))))) o)], []⟩
def z13 : Nat → S → Option R_ := H.i P_ [r,r,l,r,d]
def x24 (k : Int) (m : LU) : Option R_ := H.e P_ [r,r,r,r,r,r] ⟨[(11, .own 0), (12, vi k)], [Av 23 m], []⟩
def x22 (kn16 : K_) (a f : Int) (g : LB) (b k v : Int) (w : UInt32) (h : Int) (ag : List (Int × Int × UInt64 × UInt64 × Unit)) (m : LU) : Option R_ := H.e P_ [r,r,r,r,r,l,r,d,(lp kn16),r,r,l,d,r,r,r,r,r,r] ⟨[(0, vi a), (5, .ptr 0 []), (9, .ptr 1 []), (11, .own 2), (12, vi (Aa k v)), (16, vu w), (28, vi (Cc f a)), (29, vi h)], [.box 224 (.agg [vb g, vi b]), .box 259 (.val (.vec 6 (.cons (.int .i64) (.cons (.int .i64) (.cons (.int .u64) (.cons (.int .u64) .nil))))) ag), Av 23 m], []⟩
def x21 (kn16 : K_) (a f : Int) (g : LB) (b k h y : Int) (w : UInt32) (v : Int) (n : List (Int × Int × UInt64 × UInt64 × Unit)) (m : LU) (aa ab : Int) (ac ad : UInt64) : Option R_ := H.e P_ [r,r,r,r,r,l,r,d,(lp kn16),r,r,l,d,r,r,r,r] ⟨[(0, vi a), (5, .ptr 0 []), (9, .ptr 1 []), (11, .own 2), (12, vi k), (13, vi h), (15, vi y), (16, vu w), (17, vi v), (18, .ptr 3 []), (28, vi (Cc f a)), (29, vi h)], [.box 224 (.agg [vb g, vi b]), .box 259 (.val (.vec 6 (.cons (.int .i64) (.cons (.int .i64) (.cons (.int .u64) (.cons (.int .u64) .nil))))) n), Av 23 m, .box 258 (.agg [vi aa, vi ab, vq ac, vq ad])], []⟩
def x16 (a f : Int) (g : LB) (b k h : Int) (n : List (Int × Int × UInt64 × UInt64 × Unit)) (m : LU) : Option R_ := H.e P_ [r,r,r,r,r,l,r,d] (t16 a f g b k h n m)
def x15 (a f : Int) (g : LB) (b : Int) (o : List (Int × Int × UInt64 × UInt64 × Unit)) : Option R_ := H.e P_ [r,r,r] ⟨[(0, vi a), (1, vi f), (5, .ptr 0 []), (9, .ptr 1 [])], [.box 224 (.agg [vb g, vi b]), .box 259 (.val (.vec 6 (.cons (.int .i64) (.cons (.int .i64) (.cons (.int .u64) (.cons (.int .u64) .nil))))) o)], []⟩
def x13 (a f : Int) (g : LB) (b u : Int) (o : List (Int × Int × UInt64 × UInt64 × Unit)) : Option R_ := H.e P_ [r,r,l,r,d] (t13 a f g b u o)
theorem e24 : x24 = My := by kernel_rfl
theorem e22 (kn16 : K_) (a f : Int) (g : LB) (b : Int) : x22 kn16 a f g b = Mr (fun k h n m => kn16 (t16 a f g b k h n m)) a f g b := by kernel_rfl
theorem e21 (kn16 : K_) (a f : Int) (g : LB) (b : Int) : x21 kn16 a f g b = Oi (fun k h n m => kn16 (t16 a f g b k h n m)) a f g b := Eq.trans (b := Oa (x22 kn16 a f g b) a f g b) (by kernel_rfl) (by simp only [e22] <;> rfl)
theorem i16 (a f : Int) (g : LB) (b : Int) : ∀ (q : Nat) (k h : Int) (n : List (Int × Int × UInt64 × UInt64 × Unit)) (m : LU), z16 q (t16 a f g b k h n m) = Ik a f g b q k h n m :=
 ind (fun _ _ _ _ => by kernel_rfl) fun q ih k h n m => Eq.trans (b := Ha (x21 (z16 q) a f g b) x24 a f g b k h n m) (by kernel_rfl) (by rw [Tc]; simp only [e21, e24, ih] <;> rfl)
theorem e16 : x16 = Ms := by funext a f g b k h n m; exact Eq.trans (by kernel_rfl) ((i16 a f g b Bg k h n m).trans (by rw [Aj]; rfl))
theorem e15 : x15 = Me := Eq.trans (b := Ng x16) (by kernel_rfl) (by simp only [e16] <;> rfl)
theorem i13 (a f : Int) (g : LB) (b : Int) : ∀ (q : Nat) (u : Int) (o : List (Int × Int × UInt64 × UInt64 × Unit)), z13 q (t13 a f g b u o) = If a f g b q u o :=
 ind (fun _ _ => by kernel_rfl) fun q ih u o => Eq.trans (b := Mc x15 (fun u o => (z13 q) (t13 a f g b u o)) a f g b u o) (by kernel_rfl) (by simp only [e15, ih] <;> rfl)
theorem e13 : x13 = Lz := by funext a f g b u o; exact Eq.trans (by kernel_rfl) ((i13 a f g b Bg u o).trans (by rw [Aj]; rfl))
noncomputable def F := u4 Zq
theorem rn x : H.u P_ x = F x := Eq.trans (b := u4 (Pj x13) x) (by kernel_rfl) (by simp only [e13] <;> rfl)
noncomputable def c : Con := ⟨H.p, H.r, F⟩
theorem ok : ConOk P_ gl 164 c := co H func164 (.cons F204.ok (.cons F205.ok (.cons F206.ok .nil))) rn
end F164
namespace F211
noncomputable def H : Hd := ⟨[Su], [Sx], .d, ⟨[], gl, false⟩, [], f211⟩
noncomputable def F := Js
theorem rn x : H.u P_ x = F x := by kernel_rfl
noncomputable def c : Con := ⟨H.p, H.r, F⟩
theorem ok : ConOk P_ gl 211 c := co H func211 .nil rn
end F211
namespace F253
noncomputable def H : Hd := ⟨[.agg [Si, .lf (.vec 16 (.int .i32)) none, .lf (.vec 16 (.int .i32)) none], Sx], [Sx, .agg [Si, .lf (.vec 16 (.int .i32)) none, .lf (.vec 16 (.int .i32)) none], Si], .d, ⟨[(287, F287.c), (288, F288.c)], gl, false⟩, [], f253⟩
noncomputable def F := u4 Aj8
theorem rn x : H.u P_ x = F x := by kernel_rfl
noncomputable def c : Con := ⟨H.p, H.r, F⟩
theorem ok : ConOk P_ gl 253 c := co H func253 (.cons F287.ok (.cons F288.ok .nil)) rn
end F253
namespace F210
def Nb (a : Int) (b : Int32) (f : Int) (g h : LX) (o : Int32) : Option (Int32 × Int × Int32 × Int × LX × LX × Int) :=
(Km a b f g h).bind fun k =>
if (Bf k 0) then
some (0, 0, 0, 0, (List.replicate 16 (0 : Int32)), (List.replicate 16 (0 : Int32)), k)
else
(Ko a b).bind fun (m, y) =>
(Aj8 f g h o).bind fun (n, p, u, v, w) =>
(fun aa : Option (Int32 × Int × Int32 × Int × LX × LX × Int) =>
bo (
aa)) (
some ((Aa n m), a, (Aa n m), p, u, v, w))
theorem Aed : @Nb = @Ek := by
  unfold Nb Ek
  simp only [Ahw, Xl, Aaf]
noncomputable def H : Hd := ⟨[.agg [Si, Sx, .agg [Si, .lf (.vec 16 (.int .i32)) none, .lf (.vec 16 (.int .i32)) none]], Sx], [Sx, .agg [Si, Sx, .agg [Si, .lf (.vec 16 (.int .i32)) none, .lf (.vec 16 (.int .i32)) none]], Si], (.seq .d (.seq .d (.seq .d (.seq .d (.seq (.mode false) .d))))), ⟨[(251, F251.c), (252, F252.c), (253, F253.c)], gl, false⟩, [], f210⟩
noncomputable def F := u6 Ek
theorem rn x : H.u P_ x = F x := Eq.trans (b := u6 Nb x) (by kernel_rfl) (by rw [Aed]; rfl)
noncomputable def c : Con := ⟨H.p, H.r, F⟩
theorem ok : ConOk P_ gl 210 c := co H func210 (.cons F251.ok (.cons F252.ok (.cons F253.ok .nil))) rn
end F210
namespace F212
abbrev R_ := (LX × Int)
abbrev K_ := S → Option R_
noncomputable def H : Hd := ⟨[Si, Sw], [Ow 21, Si], (.seq .d (.seq .d (.seq .d (.cut [7] [] (.seq .d (.blk (.loop [0, 7, 8] [] (.seq .d (.cut [0, 7, 8] [] (.blk (.keep [0, 7, 8, 24, 25, 26, 27, 28, 29] true)) .d))))) .d)))), ⟨[(156, F156.c), (254, F254.c)], gl, true⟩, [(255, (.seq .d (.cut [0, 2] [] .d (.seq .d (.blk (.loop [0, 3] [] .d))))))], f212⟩
def t18 (b a g : Int) (h : LX) : S := ⟨[(0, .view true 0 [] (.int .i32) a ((Aa a b) - a)), (3, vi g)], [Aw 21 h], [[(0, vi b), (7, .own 0), (8, vi a), (24, .own 0), (25, vi a), (26, vi a), (27, vi b), (28, vi (Aa a b)), (29, .view true 0 [] (.int .i32) a ((Aa a b) - a))]]⟩
def z18 (kn12 : K_) : Nat → S → Option R_ := H.i P_ [r,r,r,l,r,d,(lp kn12),r,l,d,(call 6 255),r,r,r,d]
def t12 (b a : Int) (f : LX) : S := ⟨[(0, vi b), (7, .own 0), (8, vi a)], [Aw 21 f], []⟩
def z12 : Nat → S → Option R_ := H.i P_ [r,r,r,l,r,d]
def x22 (f : LX) : Option R_ := H.e P_ [r,r,r,r] ⟨[(7, .own 0)], [Aw 21 f], []⟩
def x20 (kn12 : K_) (b a : Int) (h : LX) : Option R_ := H.e P_ [r,r,r,l,r,d,(lp kn12),r,r] ⟨[(0, vi b), (7, .own 0), (8, vi a)], [Aw 21 h], []⟩
def x18 (kn12 : K_) (b a g : Int) (h : LX) : Option R_ := H.e P_ [r,r,r,l,r,d,(lp kn12),r,l,d,(call 6 255),r,r,r,d] (t18 b a g h)
def x17 (kn12 : K_) (b a : Int) (k : LX) : Option R_ := H.e P_ [r,r,r,l,r,d,(lp kn12),r,l,d,(call 6 255),r,r] ⟨[(0, .view true 0 [] (.int .i32) a ((Aa a b) - a)), (2, vi (Ae ((Aa a b) - a) (1 : Int)))], [Aw 21 k], [[(0, vi b), (7, .own 0), (8, vi a), (24, .own 0), (25, vi a), (26, vi a), (27, vi b), (28, vi (Aa a b)), (29, .view true 0 [] (.int .i32) a ((Aa a b) - a))]]⟩
def x12 (b a : Int) (f : LX) : Option R_ := H.e P_ [r,r,r,l,r,d] (t12 b a f)
theorem e22 : x22 = Ad1 := by kernel_rfl
theorem e20 (kn12 : K_) (b : Int) : x20 kn12 b = Afs (fun a f => kn12 (t12 b a f)) b := by kernel_rfl
theorem i18 (kn12 : K_) (b a : Int) : ∀ (q : Nat) (g : Int) (h : LX), z18 kn12 q (t18 b a g h) = Rr (fun a f => kn12 (t12 b a f)) b a q g h :=
 ind (fun _ _ => by kernel_rfl) fun q ih g h => Eq.trans (b := Aex (x20 kn12 b) (fun g h => (z18 kn12 q) (t18 b a g h)) b a g h) (by kernel_rfl) (by simp only [e20, ih] <;> rfl)
theorem e18 (kn12 : K_) (b : Int) : x18 kn12 b = Ad7 (fun a f => kn12 (t12 b a f)) b := by funext a g h; exact Eq.trans (by kernel_rfl) ((i18 kn12 b a Bg g h).trans (by rw [Aj]; rfl))
theorem e17 (kn12 : K_) (b : Int) : x17 kn12 b = Afv (fun a f => kn12 (t12 b a f)) b := Eq.trans (b := Aeb (x18 kn12 b) b) (by kernel_rfl) (by simp only [e18] <;> rfl)
theorem i12 (b : Int) : ∀ (q : Nat) (a : Int) (f : LX), z12 q (t12 b a f) = Sp b q a f :=
 ind (fun _ _ => by kernel_rfl) fun q ih a f => Eq.trans (b := Afk (x17 (z12 q) b) x22 b a f) (by kernel_rfl) (by simp only [e17, e22, ih] <;> rfl)
theorem e12 : x12 = Ae0 := by funext b a f; exact Eq.trans (by kernel_rfl) ((i12 b Bg a f).trans (by rw [Aj]; rfl))
noncomputable def F := u2 Ap6
theorem rn x : H.u P_ x = F x := Eq.trans (b := u2 (Ag4 x12) x) (by kernel_rfl) (by simp only [e12] <;> rfl)
noncomputable def c : Con := ⟨H.p, H.r, F⟩
theorem ok : ConOk P_ gl 212 c := cr H func212 (.cons F156.ok (.cons F254.ok .nil)) (AnsOk.cons ent255 AnsOk.nil) rn
end F212
namespace F166
def Gb (j16 : Int → Int32 → Int → (List (Int × Int32 × (Int × LX × LX × Unit) × Unit)) → LX → Int → Int32 → Int → LX → LX → Option (LX × Int)) (j18 : Int → Int → LX → Option (LX × Int)) (f : LU) (a b g : Int) (h : List (Int × Int32 × (Int × LX × LX × Unit) × Unit)) (k : LX) : Option (LX × Int) :=
if (Bl g (Ac f)) then
(Ah f g).bind fun ag =>
(Dr (Bf a 0)).bind fun _ =>
(Ah h (Ev g a)).bind fun _ =>
both (
(Ah h (Ev g a)).bind fun m =>
both (
(Js ag).bind fun ae =>
(fun ao : Option (LX × Int) =>
bo (
ao)) (
(Ek m.1 m.2.1 m.2.2.1.1 m.2.2.1.2.1 m.2.2.1.2.2.1 ae).bind fun (w, y, v, aa, ab, ac, u) =>
j16 g w u h k y v aa ab ac)) [
(Js ag).bind fun ae =>
(Ek m.1 m.2.1 m.2.2.1.1 m.2.2.1.2.1 m.2.2.1.2.2.1 ae).bind fun (w, y, v, aa, ab, ac, u) =>
j16 g w u h k y v aa ab ac]) [
(Js ag).bind fun af =>
both (
(Ah h (Ev g a)).bind fun ad =>
(fun ap : Option (LX × Int) =>
bo (
ap)) (
(Ek ad.1 ad.2.1 ad.2.2.1.1 ad.2.2.1.2.1 ad.2.2.1.2.2.1 af).bind fun (w, y, v, aa, ab, ac, u) =>
j16 g w u h k y v aa ab ac)) [
(Ah h (Ev g a)).bind fun ad =>
(Ek ad.1 ad.2.1 ad.2.2.1.1 ad.2.2.1.2.1 ad.2.2.1.2.2.1 af).bind fun (w, y, v, aa, ab, ac, u) =>
j16 g w u h k y v aa ab ac],
both (
(Ah h (Ev g a)).bind fun m =>
(Js ag).bind fun ae =>
(Ek m.1 m.2.1 m.2.2.1.1 m.2.2.1.2.1 m.2.2.1.2.2.1 ae).bind fun (w, y, v, aa, ab, ac, u) =>
j16 g w u h k y v aa ab ac) [
(Js ag).bind fun af =>
(Ah h (Ev g a)).bind fun ad =>
(Ek ad.1 ad.2.1 ad.2.2.1.1 ad.2.2.1.2.1 ad.2.2.1.2.2.1 af).bind fun (w, y, v, aa, ab, ac, u) =>
j16 g w u h k y v aa ab ac]]
else
j18 a b k
theorem Qz : @Gb = @Hb := by
  unfold Gb Hb
  try simp only [Ahw, Xl, Aaf]
  all_goals
    repeat (refine funext fun _ => ?_)
    repeat' first
      | with_reducible rfl
      | with_reducible refine Fz ?_ ?_
      | with_reducible refine Gg ?_ ?_ ?_
      | with_reducible refine Fy ?_ ?_ ?_ ?_
      | ((with_reducible refine It ?_ ?_); focus (intro h; first | (subst h; rfl) | (simp only [h]; rfl) | (simp [Dp, Ac, h]; done)))
      | with_reducible refine Jd fun x => ?_
      | with_reducible refine Nt (fun _ => ?_) (fun _ => ?_)
      | (refine Du (fun h => by simp only [h, Jc, Cw, Cn, ite_self]) (fun x h => ?_); (try simp only [h, Cw]))
      | (refine Eu (fun h => ?_) (fun h => ?_) <;> simp only [h, if_true, if_false, Bool.false_eq_true])
abbrev R_ := (LX × Int)
abbrev K_ := S → Option R_
noncomputable def H : Hd := ⟨[.agg [Si, Si], .lf (.vec 16 (.int .i32)) none, Sv], [Ow 21, Si], (.seq .d (.seq .d (.cut [2, 3, 8] [] (.seq .d (.blk (.loop [2, 3, 4, 8, 20] [] .d))) (.seq .d (.cut [3, 10] [] (.seq .d (.blk (.loop [3, 8, 10, 33, 34, 35] [⟨10, [], .own 21 (.int .i32)⟩] (.seq .d (.seq .d (.seq (.blk (.seq .d (.seq .d (.cut [3, 8, 10, 13, 14, 15, 16, 33, 34, 35] [] (.mode false) .d)))) .d)))))) .d))))), ⟨[(167, F167.c), (209, F209.c), (210, F210.c), (211, F211.c), (212, F212.c)], gl, false⟩, [], f166⟩
def t13 (f : LU) (a b g : Int) (h : List (Int × Int32 × (Int × LX × LX × Unit) × Unit)) (k : LX) : S := ⟨[(3, .ptr 0 []), (8, .ptr 1 []), (10, .own 2), (33, vv f), (34, vi (Ac f)), (35, vi g)], [.box 69 (.agg [vi a, vi b]), .box 284 (.val (.vec 6 (.cons (.int .i64) (.cons (.int .i32) (.cons (.cons (.int .i64) (.cons (.vec 16 (.int .i32)) (.cons (.vec 16 (.int .i32)) .nil))) .nil)))) h), Aw 21 k], []⟩
def z13 : Nat → S → Option R_ := H.i P_ [r,r,r,r,l,r,d]
def t10 (f : LU) (a b : Int) (o : LX) (p : Int) (n : List (Int × Int32 × (Int × LX × LX × Unit) × Unit)) : S := ⟨[(2, vv f), (3, .ptr 0 []), (4, .ptr 1 []), (8, .ptr 2 []), (20, vi p)], [.box 69 (.agg [vi a, vi b]), .box 164 (.val (.vec 16 (.int .i32)) o), .box 284 (.val (.vec 6 (.cons (.int .i64) (.cons (.int .i32) (.cons (.cons (.int .i64) (.cons (.vec 16 (.int .i32)) (.cons (.vec 16 (.int .i32)) .nil))) .nil)))) n)], []⟩
def z10 : Nat → S → Option R_ := H.i P_ [r,r,l,r,d]
def x18 (a b : Int) (k : LX) : Option R_ := H.e P_ [r,r,r,r,r] ⟨[(3, .ptr 0 []), (10, .own 1)], [.box 69 (.agg [vi a, vi b]), Aw 21 k], []⟩
def x16 (kn13 : K_) (a : Int) (f : LU) (b g : Int) (w : Int32) (u : Int) (h : List (Int × Int32 × (Int × LX × LX × Unit) × Unit)) (k : LX) (y : Int) (v : Int32) (aa : Int) (ab ac : LX) : Option R_ := H.e P_ [r,r,r,r,l,r,d,(lp kn13),r,r,l,d,r,r,r] ⟨[(3, .ptr 0 []), (8, .ptr 1 []), (10, .own 2), (13, .ptr 1 [.idx (Ev g a) 35]), (14, vx w), (15, .ptr 3 []), (16, vi u), (33, vv f), (34, vi (Ac f)), (35, vi g)], [.box 69 (.agg [vi a, vi b]), .box 284 (.val (.vec 6 (.cons (.int .i64) (.cons (.int .i32) (.cons (.cons (.int .i64) (.cons (.vec 16 (.int .i32)) (.cons (.vec 16 (.int .i32)) .nil))) .nil)))) h), Aw 21 k, .box 283 (.agg [vi y, vx v, .agg [vi aa, .val (.vec 16 (.int .i32)) ab, .val (.vec 16 (.int .i32)) ac]])], []⟩
def x13 (f : LU) (a b g : Int) (h : List (Int × Int32 × (Int × LX × LX × Unit) × Unit)) (k : LX) : Option R_ := H.e P_ [r,r,r,r,l,r,d] (t13 f a b g h k)
def x12 (f : LU) (a b : Int) (n : List (Int × Int32 × (Int × LX × LX × Unit) × Unit)) : Option R_ := H.e P_ [r,r,r] ⟨[(2, vv f), (3, .ptr 0 []), (8, .ptr 1 [])], [.box 69 (.agg [vi a, vi b]), .box 284 (.val (.vec 6 (.cons (.int .i64) (.cons (.int .i32) (.cons (.cons (.int .i64) (.cons (.vec 16 (.int .i32)) (.cons (.vec 16 (.int .i32)) .nil))) .nil)))) n)], []⟩
def x10 (f : LU) (a b : Int) (o : LX) (p : Int) (n : List (Int × Int32 × (Int × LX × LX × Unit) × Unit)) : Option R_ := H.e P_ [r,r,l,r,d] (t10 f a b o p n)
theorem e18 : x18 = Lj := by kernel_rfl
theorem e16 (kn13 : K_) (f : LU) (a b : Int) : x16 kn13 a f b = Lh (fun g h k => kn13 (t13 f a b g h k)) a f b := by kernel_rfl
theorem i13 (f : LU) (a b : Int) : ∀ (q : Nat) (g : Int) (h : List (Int × Int32 × (Int × LX × LX × Unit) × Unit)) (k : LX), z13 q (t13 f a b g h k) = Gz f a b q g h k :=
 ind (fun _ _ _ => by kernel_rfl) fun q ih g h k => Eq.trans (b := Gb (x16 (z13 q) a f b) x18 f a b g h k) (by kernel_rfl) (by rw [Qz]; simp only [e16, e18, ih] <;> rfl)
theorem e13 : x13 = Lm := by funext f a b g h k; exact Eq.trans (by kernel_rfl) ((i13 f a b Bg g h k).trans (by rw [Aj]; rfl))
theorem e12 : x12 = Ln := Eq.trans (b := Lk x13) (by kernel_rfl) (by simp only [e13] <;> rfl)
theorem i10 (f : LU) (a b : Int) (o : LX) : ∀ (q : Nat) (p : Int) (n : List (Int × Int32 × (Int × LX × LX × Unit) × Unit)), z10 q (t10 f a b o p n) = He f a b o q p n :=
 ind (fun _ _ => by kernel_rfl) fun q ih p n => Eq.trans (b := Ll x12 (fun p n => (z10 q) (t10 f a b o p n)) f a b o p n) (by kernel_rfl) (by simp only [e12, ih] <;> rfl)
theorem e10 : x10 = Li := by funext f a b o p n; exact Eq.trans (by kernel_rfl) ((i10 f a b o Bg p n).trans (by rw [Aj]; rfl))
noncomputable def F := u4 Tn
theorem rn x : H.u P_ x = F x := Eq.trans (b := u4 (Oh x10) x) (by kernel_rfl) (by simp only [e10] <;> rfl)
noncomputable def c : Con := ⟨H.p, H.r, F⟩
theorem ok : ConOk P_ gl 166 c := co H func166 (.cons F167.ok (.cons F209.ok (.cons F210.ok (.cons F211.ok (.cons F212.ok .nil))))) rn
end F166
namespace F117
noncomputable def H : Hd := ⟨[.agg [Si, Si], .lf (.vec 16 (.int .i32)) none, Si, Sb], [Ow 21, Si], .d, ⟨[(151, F151.c), (162, F162.c), (163, F163.c), (164, F164.c), (165, F165.c), (166, F166.c)], gl, false⟩, [], f117⟩
noncomputable def F := u5 Mp
theorem rn x : H.u P_ x = F x := by kernel_rfl
noncomputable def c : Con := ⟨H.p, H.r, F⟩
theorem ok : ConOk P_ gl 117 c := co H func117 (.cons F151.ok (.cons F162.ok (.cons F163.ok (.cons F164.ok (.cons F165.ok (.cons F166.ok .nil)))))) rn
end F117
namespace F138
abbrev R_ := (Int × Int)
noncomputable def H : Hd := ⟨[Sb], [Si, Si], (.seq .d (.seq .d (.cut [0, 4] [] .d .d))), ⟨[(37, F37.c), (183, F183.c), (184, F184.c), (185, F185.c)], gl, false⟩, [], f138⟩
def x2 (a : LB) : Option R_ := H.e P_ [r,r,r] ⟨[(0, vb a), (4, vi (Ae (Ac a) (32 : Int)))], [], []⟩
theorem e2 : x2 = Ahl := by kernel_rfl
noncomputable def F := Aqf
theorem rn x : H.u P_ x = F x := Eq.trans (b := Aie x2 x) (by kernel_rfl) (by simp only [e2] <;> rfl)
noncomputable def c : Con := ⟨H.p, H.r, F⟩
theorem ok : ConOk P_ gl 138 c := co H func138 (.cons F37.ok (.cons F183.ok (.cons F184.ok (.cons F185.ok .nil)))) rn
end F138
namespace F80
abbrev R_ := (Int × Int)
abbrev K_ := S → Option R_
noncomputable def H : Hd := ⟨[Sb], [Si, Si], (.seq .d (.seq .d (.seq .d (.seq .d (.cut [5] [] (.blk (.loop [1, 4, 5] [] (.seq .d (.cut [1, 4, 5] [] (.blk (.cut [1, 4, 5, 6] [] (.keep [1, 4, 5, 6, 16, 17] true) .d)) .d)))) .d))))), ⟨[(138, F138.c)], gl, false⟩, [(137, .d)], f80⟩
def t8 (a : Int) (b : LB) : S := ⟨[(1, .ptr 0 []), (4, .fn 137 [.ptr 0 []]), (5, vi a)], [.box 22 (vb b)], []⟩
def z8 : Nat → S → Option R_ := H.i P_ [r,r,r,r,l,d]
def x14 (a : Int) : Option R_ := H.e P_ [r,r,r,r,r] ⟨[(5, vi a)], [], []⟩
def x12 (kn8 : K_) (a : Int) (g : LB) : Option R_ := H.e P_ [r,r,r,r,l,d,(lp kn8),r,r] ⟨[(1, .ptr 0 []), (4, .fn 137 [.ptr 0 []]), (5, vi a)], [.box 22 (vb g)], []⟩
def x11 (kn8 : K_) (a f : Int) (b : LB) : Option R_ := H.e P_ [r,r,r,r,l,d,(lp kn8),r,l,d,r] ⟨[(1, .ptr 0 []), (4, .fn 137 [.ptr 0 []]), (5, vi a), (6, vi f)], [.box 22 (vb b)], []⟩
def x8 (a : Int) (b : LB) : Option R_ := H.e P_ [r,r,r,r,l,d] (t8 a b)
theorem e14 : x14 = Rc := by kernel_rfl
theorem e12 (kn8 : K_) : x12 kn8 = Rm (fun a b => kn8 (t8 a b)) := by kernel_rfl
theorem e11 (kn8 : K_) : x11 kn8 = Rj (fun a b => kn8 (t8 a b)) := Eq.trans (b := Ri (x12 kn8)) (by kernel_rfl) (by simp only [e12] <;> rfl)
theorem i8 : ∀ (q : Nat) (a : Int) (b : LB), z8 q (t8 a b) = Ld q a b :=
 ind (fun _ _ => by kernel_rfl) fun q ih a b => Eq.trans (b := Ug (x11 (z8 q)) x14 a b) (by kernel_rfl) (by simp only [e11, e14, ih] <;> rfl)
theorem e8 : x8 = Tp := by funext a b; exact Eq.trans (by kernel_rfl) ((i8 Bg a b).trans (by rw [Aj]; rfl))
noncomputable def F := Afg
theorem rn x : H.u P_ x = F x := Eq.trans (b := Tw x8 x) (by kernel_rfl) (by simp only [e8] <;> rfl)
noncomputable def c : Con := ⟨H.p, H.r, F⟩
theorem ok : ConOk P_ gl 80 c := cr H func80 (.cons F138.ok .nil) (AnsOk.cons ent137 AnsOk.nil) rn
end F80
namespace F146
abbrev R_ := (Int × Int × Int × LX × Int)
abbrev K_ := S → Option R_
noncomputable def H : Hd := ⟨[Sb, Ss], [.agg [Si, Si, Si, Ow 21], Si], (.seq .d (.seq .d (.seq .d (.seq .d (.cut [0, 1, 4, 6] [] (.cut [0, 1, 4, 6, 8] [] (.keep [0, 1, 4, 6, 8, 34, 35, 36] true) .d) (.cut [0, 1, 4, 6, 7, 9] [⟨9, [], .own 3 (.int .i64)⟩] (.keep [0, 1, 4, 6, 7, 9, 41, 42, 43, 44, 45] true) (.seq .d (.seq .d (.seq .d (.seq .d (.seq .d (.cut [0, 4, 10, 14] [] (.seq .d (.blk (.loop [0, 4, 6, 10, 11, 12, 14, 75, 76, 77] [⟨10, [3], .own 21 (.int .i32)⟩] (.seq .d (.seq .d (.seq (.blk (.seq .d (.seq .d (.cut [0, 4, 6, 10, 11, 12, 14, 16, 17, 18, 75, 76, 77] [] .d .d)))) .d)))))) .d)))))))))))), ⟨[(80, F80.c), (114, F114.c), (115, F115.c), (116, F116.c), (117, F117.c), (147, F147.c)], gl, false⟩, [(148, (.seq .d (.seq .d (.cut [0, 6, 7] [] .d (.seq .d (.seq .d (.seq .d (.cut [6] [] (.seq .d (.blk (.loop [0, 6, 60, 61, 62] [] .d))) .d)))))))), (193, .d)], f146⟩
def t21 (a : LB) (w : LI) (m b f h o p n g y ab : Int) (ac : LX) (k : LI) (aa ae : Int) (ad : LX) : S := ⟨[(0, vb a), (4, .ptr 0 []), (6, .ptr 1 []), (10, .ptr 2 []), (11, .ptr 3 []), (12, .ptr 4 []), (14, vi aa), (75, .own 5), (76, vi (Ac w)), (77, vi ae)], [.box 93 (.agg [vi 0, vi 0, vi 0, .nils]), .box 202 (.agg [.agg [vi m, vi b, vi f, vi h, vi o], .agg [vi p, vi n, vi g, vi y, vi ab], .own 6]), .box 93 (.agg [vi b, vi f, vi h, .own 7]), .box 69 (.agg [vi b, vi f]), .box 164 (.val (.vec 16 (.int .i32)) ac), Ai 3 w, Ai 3 k, Aw 21 ad], []⟩
def z21 : Nat → S → Option R_ := H.i P_ [r,r,r,r,r,r,r,r,r,r,r,l,r,d]
def t17 (v : LI) (a u : LB) (m b f h o p n g : Int) (k : LI) (ag af : Int) : S := ⟨[(0, .ptr 0 []), (6, .own 1), (60, .own 1), (61, vi (Ac v)), (62, vi ag)], [.box 202 (.agg [.agg [vi m, vi b, vi f, vi h, vi o], .agg [vi p, vi n, vi g, vi (Aa (Aa g (Cc (4 : Int) (Ac v))) (4 : Int)), vi af], .own 3]), Ai 3 v, .box 93 (.agg [vi 0, vi 0, vi 0, .nils]), Ai 3 k], [[(0, vb a), (1, vs u), (4, .ptr 2 []), (6, .ptr 0 []), (42, vb a)]]⟩
def z17 : Nat → S → Option R_ := H.i P_ [r,r,r,r,r,l,(call 1 148),r,r,r,r,r,r,l,r,d]
def x26 (a : LB) (aa b f h : Int) (ad : LX) : Option R_ := H.e P_ [r,r,r,r,r,r,r,r,r,r,r,r] ⟨[(0, vb a), (4, .ptr 0 []), (10, .ptr 1 []), (14, vi aa)], [.box 93 (.agg [vi 0, vi 0, vi 0, .nils]), .box 93 (.agg [vi b, vi f, vi h, .own 2]), Aw 21 ad], []⟩
def x24 (kn21 : K_) (a : LB) (w : LI) (m b f h o p n g y ab : Int) (ac : LX) (k : LI) (aa aj ak ae : Int) (am ad : LX) : Option R_ := H.e P_ [r,r,r,r,r,r,r,r,r,r,r,l,r,d,(lp kn21),r,r,l,d,r,r,r] ⟨[(0, vb a), (4, .ptr 0 []), (6, .ptr 1 []), (10, .ptr 2 []), (11, .ptr 3 []), (12, .ptr 4 []), (14, vi aa), (16, vi aj), (17, .own 5), (18, vi ak), (75, .own 6), (76, vi (Ac w)), (77, vi ae)], [.box 93 (.agg [vi 0, vi 0, vi 0, .nils]), .box 202 (.agg [.agg [vi m, vi b, vi f, vi h, vi o], .agg [vi p, vi n, vi g, vi y, vi ab], .own 7]), .box 93 (.agg [vi b, vi f, vi h, .own 8]), .box 69 (.agg [vi b, vi f]), .box 164 (.val (.vec 16 (.int .i32)) ac), Aw 21 am, Ai 3 w, Ai 3 k, Aw 21 ad], []⟩
def x21 (a : LB) (w : LI) (m b f h o p n g y ab : Int) (ac : LX) (k : LI) (aa ae : Int) (ad : LX) : Option R_ := H.e P_ [r,r,r,r,r,r,r,r,r,r,r,l,r,d] (t21 a w m b f h o p n g y ab ac k aa ae ad)
def x20 (a u : LB) (m b f h o p n g : Int) (k : LI) (an y ab : Int) (w : LI) : Option R_ := H.e P_ [r,r,r,r,r,r] ⟨[(0, vb a), (1, vs u), (4, .ptr 0 []), (6, .ptr 1 []), (7, vi an), (9, .own 2)], [.box 93 (.agg [vi 0, vi 0, vi 0, .nils]), .box 202 (.agg [.agg [vi m, vi b, vi f, vi h, vi o], .agg [vi p, vi n, vi g, vi y, vi ab], .own 3]), Ai 3 w, Ai 3 k], []⟩
def x19 (a u : LB) (v : LI) (m b f h o p n g af : Int) (k : LI) : Option R_ := H.e P_ [r,r,r,r,r,l,(call 1 148),r,r,r,r,r,r,r] ⟨[(6, .own 0)], [Ai 3 v, .box 93 (.agg [vi 0, vi 0, vi 0, .nils]), .box 202 (.agg [.agg [vi m, vi b, vi f, vi h, vi o], .agg [vi p, vi n, vi g, vi (Aa (Aa g (Cc (4 : Int) (Ac v))) (4 : Int)), vi af], .own 3]), Ai 3 k], [[(0, vb a), (1, vs u), (4, .ptr 1 []), (6, .ptr 2 []), (42, vb a)]]⟩
def x17 (v : LI) (a u : LB) (m b f h o p n g : Int) (k : LI) (ag af : Int) : Option R_ := H.e P_ [r,r,r,r,r,l,(call 1 148),r,r,r,r,r,r,l,r,d] (t17 v a u m b f h o p n g k ag af)
def x16 (al : Int) (a u : LB) (m b f h o p n g ah ai : Int) (v k : LI) : Option R_ := H.e P_ [r,r,r,r,r,l,(call 1 148),r,r,r] ⟨[(0, .ptr 0 []), (6, .own 1), (7, vi al)], [.box 202 (.agg [.agg [vi m, vi b, vi f, vi h, vi o], .agg [vi p, vi n, vi g, vi ah, vi ai], .own 3]), Ai 3 v, .box 93 (.agg [vi 0, vi 0, vi 0, .nils]), Ai 3 k], [[(0, vb a), (1, vs u), (4, .ptr 2 []), (6, .ptr 0 []), (42, vb a)]]⟩
def x15 (a u : LB) (m b f h o p n g ah ai : Int) (k : LI) : Option R_ := H.e P_ [r,r,r,r,r] ⟨[(0, vb a), (1, vs u), (4, .ptr 0 []), (6, .ptr 1 [])], [.box 93 (.agg [vi 0, vi 0, vi 0, .nils]), .box 202 (.agg [.agg [vi m, vi b, vi f, vi h, vi o], .agg [vi p, vi n, vi g, vi ah, vi ai], .own 2]), Ai 3 k], []⟩
def x14 (a u : LB) (m b f h o p n g ah ai : Int) (k : LI) (ao : Int) : Option R_ := H.e P_ [r,r,r,r,l,r] ⟨[(0, vb a), (1, vs u), (4, .ptr 0 []), (6, .ptr 1 []), (8, vi ao)], [.box 93 (.agg [vi 0, vi 0, vi 0, .nils]), .box 202 (.agg [.agg [vi m, vi b, vi f, vi h, vi o], .agg [vi p, vi n, vi g, vi ah, vi ai], .own 2]), Ai 3 k], []⟩
theorem e26 : x26 = Xs := by kernel_rfl
theorem e24 (kn21 : K_) (a : LB) (w : LI) (m b f h o p n g y ab : Int) (ac : LX) (k : LI) : x24 kn21 a w m b f h o p n g y ab ac k = Aas (fun aa ae ad => kn21 (t21 a w m b f h o p n g y ab ac k aa ae ad)) a w m b f h o p n g y ab ac k := by kernel_rfl
theorem i21 (a : LB) (w : LI) (m b f h o p n g y ab : Int) (ac : LX) (k : LI) : ∀ (q : Nat) (aa ae : Int) (ad : LX), z21 q (t21 a w m b f h o p n g y ab ac k aa ae ad) = Nc a w m b f h o p n g y ab ac k q aa ae ad :=
 ind (fun _ _ _ => by kernel_rfl) fun q ih aa ae ad => Eq.trans (b := Xn (x24 (z21 q) a w m b f h o p n g y ab ac k) x26 a w m b f h o p n g y ab ac k aa ae ad) (by kernel_rfl) (by simp only [e24, e26, ih] <;> rfl)
theorem e21 : x21 = Yr := by funext a w m b f h o p n g y ab ac k aa ae ad; exact Eq.trans (by kernel_rfl) ((i21 a w m b f h o p n g y ab ac k Bg aa ae ad).trans (by rw [Aj]; rfl))
theorem e20 : x20 = Iw := Eq.trans (b := Xd x21) (by kernel_rfl) (by simp only [e21] <;> rfl)
theorem e19 : x19 = Wv := Eq.trans (b := Aal x20) (by kernel_rfl) (by simp only [e20] <;> rfl)
theorem i17 (v : LI) (a u : LB) (m b f h o p n g : Int) (k : LI) : ∀ (q : Nat) (ag af : Int), z17 q (t17 v a u m b f h o p n g k ag af) = Ny v a u m b f h o p n g k q ag af :=
 ind (fun _ _ => by kernel_rfl) fun q ih ag af => Eq.trans (b := Zu x19 (fun ag af => (z17 q) (t17 v a u m b f h o p n g k ag af)) v a u m b f h o p n g k ag af) (by kernel_rfl) (by simp only [e19, ih] <;> rfl)
theorem e17 : x17 = Yg := by funext v a u m b f h o p n g k ag af; exact Eq.trans (by kernel_rfl) ((i17 v a u m b f h o p n g k Bg ag af).trans (by rw [Aj]; rfl))
theorem e16 : x16 = Yc := Eq.trans (b := Aao x20 x17) (by kernel_rfl) (by simp only [e20, e17] <;> rfl)
theorem e15 : x15 = Zj := Eq.trans (b := Wp x20 x16) (by kernel_rfl) (by simp only [e20, e16] <;> rfl)
theorem e14 : x14 = Wh := Eq.trans (b := Wa x15) (by kernel_rfl) (by simp only [e15] <;> rfl)
noncomputable def F := u2 Amb
theorem rn x : H.u P_ x = F x := Eq.trans (b := u2 (Abk x14) x) (by kernel_rfl) (by simp only [e14] <;> rfl)
noncomputable def c : Con := ⟨H.p, H.r, F⟩
theorem ok : ConOk P_ gl 146 c := cr H func146 (.cons F80.ok (.cons F114.ok (.cons F115.ok (.cons F116.ok (.cons F117.ok (.cons F147.ok .nil)))))) (AnsOk.cons ent148 (AnsOk.cons ent193 AnsOk.nil)) rn
end F146
namespace F89
noncomputable def H : Hd := ⟨[Sb, Ss], [Si], .d, ⟨[(146, F146.c)], gl, false⟩, [], f89⟩
noncomputable def F := u2 Zw
theorem rn x : H.u P_ x = F x := by kernel_rfl
noncomputable def c : Con := ⟨H.p, H.r, F⟩
theorem ok : ConOk P_ gl 89 c := co H func89 (.cons F146.ok .nil) rn
end F89
namespace F90
abbrev R_ := (Int × Int × Int × Int × Int × Int)
noncomputable def H : Hd := ⟨[Sb], [.agg [Si, Si, Si, Si, Si], Si], (.seq .d (.seq .d (.seq .d (.cut [0, 2, 4] [] (.cut [0, 2, 4, 7] [] (.keep [0, 2, 4, 7, 17, 18, 19, 20, 21] true) .d) .d)))), ⟨[(115, F115.c), (147, F147.c)], gl, false⟩, [(148, (.seq .d (.seq .d (.cut [0, 6, 7] [] .d (.seq .d (.seq .d (.seq .d (.cut [6] [] (.seq .d (.blk (.loop [0, 6, 60, 61, 62] [] .d))) .d))))))))], f90⟩
def t8 (u : LI) (a : LB) (k m n o p f g b : Int) (h : LI) (w v : Int) : S := ⟨[(0, .ptr 0 []), (6, .own 1), (60, .own 1), (61, vi (Ac u)), (62, vi w)], [.box 202 (.agg [.agg [vi k, vi m, vi n, vi o, vi p], .agg [vi f, vi g, vi b, vi (Aa (Aa b (Cc (4 : Int) (Ac u))) (4 : Int)), vi v], .own 3]), Ai 3 u, .box 134 (.agg [vi 0, vi 0, vi 0, vi 0, vi 0]), Ai 3 h], [[(0, vb a), (2, .ptr 2 []), (4, .ptr 0 []), (18, vb a)]]⟩
def z8 : Nat → S → Option R_ := H.i P_ [r,r,r,l,l,(call 1 148),r,r,r,r,r,r,l,r,d]
def x12 (a : LB) (k m n o p f g b aa y : Int) (h : LI) : Option R_ := H.e P_ [r,r,r,r] ⟨[(0, vb a), (2, .ptr 0 []), (4, .ptr 1 [])], [.box 134 (.agg [vi 0, vi 0, vi 0, vi 0, vi 0]), .box 202 (.agg [.agg [vi k, vi m, vi n, vi o, vi p], .agg [vi f, vi g, vi b, vi aa, vi y], .own 2]), Ai 3 h], []⟩
def x11 (a : LB) (k m n o p f g b : Int) (h : LI) (ae aa y : Int) : Option R_ := H.e P_ [r,r,r,l,r] ⟨[(0, vb a), (2, .ptr 0 []), (4, .ptr 1 []), (7, vi ae)], [.box 134 (.agg [vi 0, vi 0, vi 0, vi 0, vi 0]), .box 202 (.agg [.agg [vi k, vi m, vi n, vi o, vi p], .agg [vi f, vi g, vi b, vi aa, vi y], .own 2]), Ai 3 h], []⟩
def x10 (a : LB) (u : LI) (k m n o p f g b v : Int) (h : LI) : Option R_ := H.e P_ [r,r,r,l,l,(call 1 148),r,r,r,r,r,r,r] ⟨[(6, .own 0)], [Ai 3 u, .box 134 (.agg [vi 0, vi 0, vi 0, vi 0, vi 0]), .box 202 (.agg [.agg [vi k, vi m, vi n, vi o, vi p], .agg [vi f, vi g, vi b, vi (Aa (Aa b (Cc (4 : Int) (Ac u))) (4 : Int)), vi v], .own 3]), Ai 3 h], [[(0, vb a), (2, .ptr 1 []), (4, .ptr 2 []), (18, vb a)]]⟩
def x8 (u : LI) (a : LB) (k m n o p f g b : Int) (h : LI) (w v : Int) : Option R_ := H.e P_ [r,r,r,l,l,(call 1 148),r,r,r,r,r,r,l,r,d] (t8 u a k m n o p f g b h w v)
def x7 (ab : Int) (a : LB) (k m n o p f g b ac ad : Int) (u h : LI) : Option R_ := H.e P_ [r,r,r,l,l,(call 1 148),r,r,r] ⟨[(0, .ptr 0 []), (6, .own 1), (7, vi ab)], [.box 202 (.agg [.agg [vi k, vi m, vi n, vi o, vi p], .agg [vi f, vi g, vi b, vi ac, vi ad], .own 3]), Ai 3 u, .box 134 (.agg [vi 0, vi 0, vi 0, vi 0, vi 0]), Ai 3 h], [[(0, vb a), (2, .ptr 2 []), (4, .ptr 0 []), (18, vb a)]]⟩
theorem e12 : x12 = Uo := by kernel_rfl
theorem e11 : x11 = Hw := Eq.trans (b := Vh x12) (by kernel_rfl) (by simp only [e12] <;> rfl)
theorem e10 : x10 = Va := Eq.trans (b := Up x11) (by kernel_rfl) (by simp only [e11] <;> rfl)
theorem i8 (u : LI) (a : LB) (k m n o p f g b : Int) (h : LI) : ∀ (q : Nat) (w v : Int), z8 q (t8 u a k m n o p f g b h w v) = Nz u a k m n o p f g b h q w v :=
 ind (fun _ _ => by kernel_rfl) fun q ih w v => Eq.trans (b := Aak x10 (fun w v => (z8 q) (t8 u a k m n o p f g b h w v)) u a k m n o p f g b h w v) (by kernel_rfl) (by simp only [e10, ih] <;> rfl)
theorem e8 : x8 = Wg := by funext u a k m n o p f g b h w v; exact Eq.trans (by kernel_rfl) ((i8 u a k m n o p f g b h Bg w v).trans (by rw [Aj]; rfl))
theorem e7 : x7 = Yo := Eq.trans (b := Wz x11 x8) (by kernel_rfl) (by simp only [e11, e8] <;> rfl)
noncomputable def F := Ah9
theorem rn x : H.u P_ x = F x := Eq.trans (b := Xp x11 x7 x) (by kernel_rfl) (by simp only [e11, e7] <;> rfl)
noncomputable def c : Con := ⟨H.p, H.r, F⟩
theorem ok : ConOk P_ gl 90 c := cr H func90 (.cons F115.ok (.cons F147.ok .nil)) (AnsOk.cons ent148 AnsOk.nil) rn
end F90
namespace F91
abbrev R_ := (Int × Int × Int × Int × Int × Int × LI × Int)
noncomputable def H : Hd := ⟨[Sb, Ss], [.agg [.agg [Si, Si, Si, Si, Si], Si, Ol 3], Si], (.seq .d (.seq .d (.seq .d (.seq .d (.seq .d (.seq .d (.seq .d (.seq .d (.seq .d (.cut [0, 4, 6, 8] [] .d .d)))))))))), ⟨[(68, F68.c), (78, Hg), (79, F79.c), (114, F114.c), (115, F115.c)], gl, false⟩, [], f91⟩
def x2 (a : LB) (b f g h k n : Int) : Option R_ := H.e P_ [r,r,r,r,r,r,r,r,r,r] ⟨[(0, vb a), (4, .ptr 0 []), (6, vi n), (8, .ptr 1 [])], [.box 138 (.agg [.agg [vi 0, vi 0, vi 0, vi 0, vi 0], vi 0, .nils]), .box 46 (.agg [vi b, vi f, vi g, vi h, vi k])], []⟩
theorem e2 : x2 = Zp := by kernel_rfl
noncomputable def F := u2 Pf
theorem rn x : H.u P_ x = F x := Eq.trans (b := u2 (Aai x2) x) (by kernel_rfl) (by simp only [e2] <;> rfl)
noncomputable def c : Con := ⟨H.p, H.r, F⟩
theorem ok : ConOk P_ gl 91 c := co H func91 (.cons F68.ok (.cons Nl (.cons F79.ok (.cons F114.ok (.cons F115.ok .nil))))) rn
end F91
namespace F92
abbrev R_ := (Int × Int)
noncomputable def H : Hd := ⟨[.agg [Si, Si, Si, Si, Si], Si], [Si, Si], (.seq .d (.seq .d (.seq .d (.seq .d (.cut [2, 8] [] (.seq .d (.blk (.loop [2, 6, 8, 23, 24] [] .d))) .d))))), ⟨[(68, F68.c)], gl, false⟩, [], f92⟩
def t4 (n f a b g h : Int) (m : LI) (k o : Int) : S := ⟨[(2, .ptr 0 []), (6, .own 1), (8, vi k), (23, vi n), (24, vi o)], [.box 46 (.agg [vi f, vi a, vi b, vi g, vi h]), Ai 3 m], []⟩
def z4 : Nat → S → Option R_ := H.i P_ [r,r,r,r,l,r,d]
def x6 (k f a b g h : Int) : Option R_ := H.e P_ [r,r,r,r,r] ⟨[(2, .ptr 0 []), (8, vi k)], [.box 46 (.agg [vi f, vi a, vi b, vi g, vi h])], []⟩
def x4 (n f a b g h : Int) (m : LI) (k o : Int) : Option R_ := H.e P_ [r,r,r,r,l,r,d] (t4 n f a b g h m k o)
theorem e6 : x6 = Aaa := by kernel_rfl
theorem i4 (n f a b g h : Int) (m : LI) : ∀ (q : Nat) (k o : Int), z4 q (t4 n f a b g h m k o) = Mj n f a b g h m q k o :=
 ind (fun _ _ => by kernel_rfl) fun q ih k o => Eq.trans (b := Yp x6 (fun k o => (z4 q) (t4 n f a b g h m k o)) n f a b g h m k o) (by kernel_rfl) (by simp only [e6, ih] <;> rfl)
theorem e4 : x4 = Zz := by funext n f a b g h m k o; exact Eq.trans (by kernel_rfl) ((i4 n f a b g h m Bg k o).trans (by rw [Aj]; rfl))
noncomputable def F := u6 Zr
theorem rn x : H.u P_ x = F x := Eq.trans (b := u6 (Wt x4) x) (by kernel_rfl) (by simp only [e4] <;> rfl)
noncomputable def c : Con := ⟨H.p, H.r, F⟩
theorem ok : ConOk P_ gl 92 c := co H func92 (.cons F68.ok .nil) rn
end F92
namespace F54
abbrev R_ := (Int × UInt8 × Int × Int × Int)
noncomputable def H : Hd := ⟨[Sb, Ss, Si], [.agg [Si, Sc, Si, Si], Si], (.seq .d (.seq .d (.seq .d (.seq .d (.seq .d (.seq .d (.seq .d (.seq .d (.seq .d (.cut [6] [] (.seq .d (.blk (.loop [2, 6, 11, 12, 79, 80, 81] [] .d))) .d)))))))))), ⟨[(89, F89.c), (90, F90.c), (91, F91.c), (92, F92.c)], gl, false⟩, [], f54⟩
def t4 (a : Int) (b : LI) (g h k m n o p f : Int) : S := ⟨[(2, vi a), (6, .ptr 0 []), (11, .ptr 1 []), (12, vi p), (79, .own 2), (80, vi (Ac b)), (81, vi f)], [.box 64 (.agg [vi 0, vc 0, vi 0, vi 0]), .box 138 (.agg [.agg [vi g, vi h, vi k, vi m, vi n], vi o, .own 2]), Ai 3 b], []⟩
def z4 : Nat → S → Option R_ := H.i P_ [r,r,r,r,r,r,r,r,r,l,r,d]
def x6 : Option R_ := H.e P_ [r,r,r,r,r,r,r,r,r,r] ⟨[(6, .ptr 0 [])], [.box 64 (.agg [vi 0, vc 0, vi 0, vi 0])], []⟩
def x4 (a : Int) (b : LI) (g h k m n o p f : Int) : Option R_ := H.e P_ [r,r,r,r,r,r,r,r,r,l,r,d] (t4 a b g h k m n o p f)
theorem e6 : x6 = Vp := by kernel_rfl
theorem i4 (a : Int) (b : LI) (g h k m n o : Int) : ∀ (q : Nat) (p f : Int), z4 q (t4 a b g h k m n o p f) = La a b g h k m n o q p f :=
 ind (fun _ _ => by kernel_rfl) fun q ih p f => Eq.trans (b := Ut x6 (fun p f => (z4 q) (t4 a b g h k m n o p f)) a b g h k m n o p f) (by kernel_rfl) (by simp only [e6, ih] <;> rfl)
theorem e4 : x4 = Ux := by funext a b g h k m n o p f; exact Eq.trans (by kernel_rfl) ((i4 a b g h k m n o Bg p f).trans (by rw [Aj]; rfl))
noncomputable def F := u3 Ad5
theorem rn x : H.u P_ x = F x := Eq.trans (b := u3 (To x4) x) (by kernel_rfl) (by simp only [e4] <;> rfl)
noncomputable def c : Con := ⟨H.p, H.r, F⟩
theorem ok : ConOk P_ gl 54 c := co H func54 (.cons F89.ok (.cons F90.ok (.cons F91.ok (.cons F92.ok .nil)))) rn
end F54
namespace F30
def Lb (a : LB) : Option (LB) :=
Amg a (
some ([] : LB)) (
(Dp ([] : LB) a).bind fun b =>
some b)
theorem Ado : @Lb = @Eg := by
  unfold Lb Eg
  repeat (refine funext fun _ => ?_)
  repeat' first
    | with_reducible rfl
    | with_reducible refine Fz ?_ ?_
    | with_reducible refine Gg ?_ ?_ ?_
    | with_reducible refine Fy ?_ ?_ ?_ ?_
    | ((with_reducible refine It ?_ ?_); focus (intro h; first | (subst h; rfl) | (simp only [h]; rfl) | (simp [Dp, Ac, h]; done)))
    | with_reducible refine Jd fun x => ?_
    | with_reducible refine Nt (fun _ => ?_) (fun _ => ?_)
    | (refine Du (fun h => by simp only [h, Jc, Cw, Cn, ite_self]) (fun x h => ?_); (try simp only [h, Cw]))
    | (refine Eu (fun h => ?_) (fun h => ?_) <;> simp only [h, if_true, if_false, Bool.false_eq_true])
noncomputable def H : Hd := ⟨[Sb], [Ob 5], .d, ⟨[], gl, false⟩, [], f30⟩
noncomputable def F := Eg
theorem rn x : H.u P_ x = F x := Eq.trans (b := Lb x) (by kernel_rfl) (by rw [Ado]; rfl)
noncomputable def c : Con := ⟨H.p, H.r, F⟩
theorem ok : ConOk P_ gl 30 c := co H func30 .nil rn
end F30
namespace F10
noncomputable def H : Hd := ⟨[Sb, Si, Sc], [Ob 5, Si], .d, ⟨[(30, F30.c)], gl, false⟩, [], f10⟩
noncomputable def F := u3 Is
theorem rn x : H.u P_ x = F x := by kernel_rfl
noncomputable def c : Con := ⟨H.p, H.r, F⟩
theorem ok : ConOk P_ gl 10 c := co H func10 (.cons F30.ok .nil) rn
end F10
namespace F93
noncomputable def H : Hd := ⟨[Sb, Ss, Si], [Sc], .d, ⟨[(78, Hg), (79, F79.c)], gl, false⟩, [], f93⟩
noncomputable def F := u3 Aft
theorem rn x : H.u P_ x = F x := by kernel_rfl
noncomputable def c : Con := ⟨H.p, H.r, F⟩
theorem ok : ConOk P_ gl 93 c := co H func93 (.cons Nl (.cons F79.ok .nil)) rn
end F93
namespace F194
abbrev R_ := (LI × Int)
abbrev K_ := S → Option R_
noncomputable def H : Hd := ⟨[Sl], [Ol 3, Si], (.seq .d (.seq .d (.seq .d (.seq .d (.seq .d (.cut [7] [] (.seq .d (.blk (.loop [6, 7, 17, 18, 19] [] (.seq .d (.seq .d (.cut [6, 7, 17, 18, 19] [] (.blk (.seq .d (.keep [6, 7, 9, 17, 18, 19, 23, 24, 25, 26, 27, 28] true))) .d)))))) .d)))))), ⟨[(70, F70.c)], gl, false⟩, [(238, .d)], f194⟩
def t6 (a : LI) (b g : Int) (f : LI) : S := ⟨[(6, .fn 238 [.ptr 0 []]), (7, .own 1), (17, vl a), (18, vi (Ac a)), (19, vi b)], [.box 3 (vi g), Ai 3 f], []⟩
def z6 : Nat → S → Option R_ := H.i P_ [r,r,r,r,r,l,r,d]
def x10 (f : LI) : Option R_ := H.e P_ [r,r,r,r,r,r] ⟨[(7, .own 0)], [Ai 3 f], []⟩
def x8 (kn6 : K_) (a : LI) (b g h : Int) (k : LI) : Option R_ := H.e P_ [r,r,r,r,r,l,r,d,(lp kn6),r,r,r] ⟨[(6, .fn 238 [.ptr 0 []]), (7, .own 1), (17, vl a), (18, vi (Ac a)), (19, vi b)], [.box 3 (vi (Aa g h)), Ai 3 k], []⟩
def x6 (a : LI) (b g : Int) (f : LI) : Option R_ := H.e P_ [r,r,r,r,r,l,r,d] (t6 a b g f)
theorem e10 : x10 = Oq := by kernel_rfl
theorem e8 (kn6 : K_) (a : LI) : x8 kn6 a = Ro (fun b g f => kn6 (t6 a b g f)) a := by kernel_rfl
theorem i6 (a : LI) : ∀ (q : Nat) (b g : Int) (f : LI), z6 q (t6 a b g f) = Jw a q b g f :=
 ind (fun _ _ _ => by kernel_rfl) fun q ih b g f => Eq.trans (b := Rb (x8 (z6 q) a) x10 a b g f) (by kernel_rfl) (by simp only [e8, e10, ih] <;> rfl)
theorem e6 : x6 = Qy := by funext a b g f; exact Eq.trans (by kernel_rfl) ((i6 a Bg b g f).trans (by rw [Aj]; rfl))
noncomputable def F := Ace
theorem rn x : H.u P_ x = F x := Eq.trans (b := Qq x6 x) (by kernel_rfl) (by simp only [e6] <;> rfl)
noncomputable def c : Con := ⟨H.p, H.r, F⟩
theorem ok : ConOk P_ gl 194 c := cr H func194 (.cons F70.ok .nil) (AnsOk.cons ent238 AnsOk.nil) rn
end F194
namespace F119
abbrev R_ := (LB × Int)
abbrev K_ := S → Option R_
noncomputable def H : Hd := ⟨[Si, Sw], [Ob 5, Si], (.seq .d (.seq .d (.seq .d (.cut [7] [] (.seq .d (.blk (.loop [0, 7, 17, 18, 19] [⟨7, [], .own 5 (.int .u8)⟩] (.seq .d (.seq .d (.cut [0, 7, 17, 18, 19] [] (.blk (.seq .d (.cut [0, 7, 9, 17, 18, 19] [] .d (.seq .d (.blk (.loop [0, 7, 9, 17, 18, 19, 28, 29] [] .d)))))) .d)))))) .d)))), ⟨[(167, F167.c)], gl, false⟩, [], f119⟩
def t26 (b : Int) (a : LX) (k : Int32) (f m : Int) (h : LB) : S := ⟨[(0, vi b), (7, .own 0), (9, vx k), (17, vw a), (18, vi (Ac a)), (19, vi f), (28, vi (Hj b (8 : Int))), (29, vi m)], [Ab 5 h], []⟩
def z26 (kn16 : K_) : Nat → S → Option R_ := H.i P_ [r,r,r,l,r,d,(lp kn16),r,r,l,d,r,r,r,d]
def t16 (b : Int) (a : LX) (f : Int) (g : LB) : S := ⟨[(0, vi b), (7, .own 0), (17, vw a), (18, vi (Ac a)), (19, vi f)], [Ab 5 g], []⟩
def z16 : Nat → S → Option R_ := H.i P_ [r,r,r,l,r,d]
def x30 (g : LB) : Option R_ := H.e P_ [r,r,r,r] ⟨[(7, .own 0)], [Ab 5 g], []⟩
def x28 (kn16 : K_) (b : Int) (a : LX) (f : Int) (h : LB) : Option R_ := H.e P_ [r,r,r,l,r,d,(lp kn16),r,r,r] ⟨[(0, vi b), (7, .own 0), (17, vw a), (18, vi (Ac a)), (19, vi f)], [Ab 5 h], []⟩
def x26 (kn16 : K_) (b : Int) (a : LX) (k : Int32) (f m : Int) (h : LB) : Option R_ := H.e P_ [r,r,r,l,r,d,(lp kn16),r,r,l,d,r,r,r,d] (t26 b a k f m h)
def x25 (kn16 : K_) (b : Int) (a : LX) (f : Int) (g : LB) (k : Int32) : Option R_ := H.e P_ [r,r,r,l,r,d,(lp kn16),r,r,l,d,r,r] ⟨[(0, vi b), (7, .own 0), (9, vx k), (17, vw a), (18, vi (Ac a)), (19, vi f)], [Ab 5 g], []⟩
def x16 (b : Int) (a : LX) (f : Int) (g : LB) : Option R_ := H.e P_ [r,r,r,l,r,d] (t16 b a f g)
theorem e30 : x30 = Vj := by kernel_rfl
theorem e28 (kn16 : K_) (b : Int) (a : LX) : x28 kn16 b a = Tl (fun f g => kn16 (t16 b a f g)) b a := by kernel_rfl
theorem i26 (kn16 : K_) (b : Int) (a : LX) (k : Int32) (f : Int) : ∀ (q : Nat) (m : Int) (h : LB), z26 kn16 q (t26 b a k f m h) = Lg (fun f g => kn16 (t16 b a f g)) b a k f q m h :=
 ind (fun _ _ => by kernel_rfl) fun q ih m h => Eq.trans (b := Ud (x28 kn16 b a) (fun m h => (z26 kn16 q) (t26 b a k f m h)) b a k f m h) (by kernel_rfl) (by simp only [e28, ih] <;> rfl)
theorem e26 (kn16 : K_) (b : Int) (a : LX) : x26 kn16 b a = Vg (fun f g => kn16 (t16 b a f g)) b a := by funext k f m h; exact Eq.trans (by kernel_rfl) ((i26 kn16 b a k f Bg m h).trans (by rw [Aj]; rfl))
theorem e25 (kn16 : K_) (b : Int) (a : LX) : x25 kn16 b a = Vo (fun f g => kn16 (t16 b a f g)) b a := Eq.trans (b := Vk (x26 kn16 b a) b a) (by kernel_rfl) (by simp only [e26] <;> rfl)
theorem i16 (b : Int) (a : LX) : ∀ (q : Nat) (f : Int) (g : LB), z16 q (t16 b a f g) = Lc b a q f g :=
 ind (fun _ _ => by kernel_rfl) fun q ih f g => Eq.trans (b := Vf (x25 (z16 q) b a) x30 b a f g) (by kernel_rfl) (by simp only [e25, e30, ih] <;> rfl)
theorem e16 : x16 = Uc := by funext b a f g; exact Eq.trans (by kernel_rfl) ((i16 b a Bg f g).trans (by rw [Aj]; rfl))
noncomputable def F := u2 Ah6
theorem rn x : H.u P_ x = F x := Eq.trans (b := u2 (Vt x16) x) (by kernel_rfl) (by simp only [e16] <;> rfl)
noncomputable def c : Con := ⟨H.p, H.r, F⟩
theorem ok : ConOk P_ gl 119 c := co H func119 (.cons F167.ok .nil) rn
end F119
namespace F94
abbrev R_ := (LB × Int)
noncomputable def H : Hd := ⟨[Sb, Ss, Si], [Ob 5, Si], (.seq .d (.cut [2, 8, 9, 11] [] (.keep [0, 1, 2, 8, 9, 11, 12, 13, 14, 15, 16, 17, 18, 19] true) (.seq .d (.seq .d (.cut [6, 7] [⟨6, [], .own 5 (.int .u8)⟩] (.keep [2, 6, 7, 8, 30, 31, 32, 33, 34] true) .d))))), ⟨[(68, F68.c), (91, F91.c), (116, F116.c), (117, F117.c), (119, F119.c), (194, F194.c)], gl, false⟩, [(149, .d), (195, (.seq .d (.cut [0, 3, 4, 5, 6, 10, 11] [] .d (.seq .d (.cut [4, 12, 13] [] .d .d)))))], f94⟩
def x6 (a ac : Int) : Option R_ := H.e P_ [r,r] ⟨[(2, vi a), (8, .cst .nilFunc), (9, vi 0), (11, vi ac)], [], []⟩
def x10 (ad : Int) (ae : LB) : Option R_ := H.e P_ [r,r,r,r,r] ⟨[(6, .own 0), (7, vi ad)], [Ab 5 ae], []⟩
def x9 (w a h b : Int) (aa : LX) (n o p k : Int) (m : LB) (u : LX) (v f g : LI) : Option R_ := H.e P_ [r,r,r,r,l,(call 2 195),r,r,r,r] ⟨[(4, .ptr 0 []), (12, .own 1), (13, vi w)], [.box 69 (.agg [vi h, vi b]), Aw 21 aa, .box 138 (.agg [.agg [vi n, vi h, vi b, vi o, vi p], vi k, .own 7]), .box 31 (.own 8), .box 22 (vb m), .box 164 (.val (.vec 16 (.int .i32)) u), .box 31 (.own 9), Ai 3 v, Ai 3 f, Ai 3 g], [[(2, vi a), (8, .fn 195 [.ptr 2 [], .ptr 3 [], .ptr 4 [], .ptr 0 [], .ptr 5 [], .ptr 6 []]), (30, .fn 195 [.ptr 2 [], .ptr 3 [], .ptr 4 [], .ptr 0 [], .ptr 5 [], .ptr 6 []]), (31, vi a)]]⟩
def x8 (a k ab y : Int) (m : LB) (h b : Int) (u : LX) (n o p : Int) (g v f : LI) : Option R_ := H.e P_ [r,r,r,r,l,(call 2 195),r,r] ⟨[(0, vi a), (3, .ptr 0 []), (4, .ptr 1 []), (5, .ptr 2 []), (6, .ptr 3 []), (10, vi (Aa k ab)), (11, vi (Aa k y))], [.box 22 (vb m), .box 69 (.agg [vi h, vi b]), .box 164 (.val (.vec 16 (.int .i32)) u), .box 31 (.own 6), .box 138 (.agg [.agg [vi n, vi h, vi b, vi o, vi p], vi k, .own 7]), .box 31 (.own 8), Ai 3 g, Ai 3 v, Ai 3 f], [[(2, vi a), (8, .fn 195 [.ptr 4 [], .ptr 5 [], .ptr 0 [], .ptr 1 [], .ptr 2 [], .ptr 3 []]), (30, .fn 195 [.ptr 4 [], .ptr 5 [], .ptr 0 [], .ptr 1 [], .ptr 2 [], .ptr 3 []]), (31, vi a)]]⟩
def x7 (a : Int) (g : LI) (n h b o p k : Int) (m : LB) (u : LX) (v f : LI) : Option R_ := H.e P_ [r,r] ⟨[(2, vi a), (8, .fn 195 [.ptr 0 [], .ptr 1 [], .ptr 2 [], .ptr 3 [], .ptr 4 [], .ptr 5 []]), (9, vi (Ac g)), (11, vi 0)], [.box 138 (.agg [.agg [vi n, vi h, vi b, vi o, vi p], vi k, .own 6]), .box 31 (.own 7), .box 22 (vb m), .box 69 (.agg [vi h, vi b]), .box 164 (.val (.vec 16 (.int .i32)) u), .box 31 (.own 8), Ai 3 v, Ai 3 f, Ai 3 g], []⟩
theorem e6 : x6 = Ur := by kernel_rfl
theorem e10 : x10 = Jv := by kernel_rfl
theorem e9 : x9 = Uu := Eq.trans (b := Uh x10) (by kernel_rfl) (by simp only [e10] <;> rfl)
theorem e8 : x8 = Us := Eq.trans (b := Uk x10 x9) (by kernel_rfl) (by simp only [e10, e9] <;> rfl)
theorem e7 : x7 = Tz := Eq.trans (b := Ty x8) (by kernel_rfl) (by simp only [e8] <;> rfl)
noncomputable def F := u3 Ae4
theorem rn x : H.u P_ x = F x := Eq.trans (b := u3 (Uf x6 x7) x) (by kernel_rfl) (by simp only [e6, e7] <;> rfl)
noncomputable def c : Con := ⟨H.p, H.r, F⟩
theorem ok : ConOk P_ gl 94 c := cr H func94 (.cons F68.ok (.cons F91.ok (.cons F116.ok (.cons F117.ok (.cons F119.ok (.cons F194.ok .nil)))))) (AnsOk.cons ent149 (AnsOk.cons ent195 AnsOk.nil)) rn
end F94
namespace F55
abbrev R_ := (Int × UInt8 × Int × Int × Int)
noncomputable def H : Hd := ⟨[Sb, Ss], [.agg [Si, Sc, Si, Si], Si], (.seq .d (.seq .d (.seq .d (.seq .d (.seq .d (.cut [0, 1, 4, 6, 7] [] .d (.seq .d (.cut [4, 6, 7, 9] [] (.seq .d (.blk (.loop [0, 1, 4, 6, 7, 9, 42, 43] [] .d))) .d)))))))), ⟨[(89, F89.c), (91, F91.c), (92, F92.c), (93, F93.c), (94, F94.c)], gl, false⟩, [], f55⟩
def t6 (p o : LB) (a : LI) (b : Int) (u : UInt8) (f g h k m n v : Int) : S := ⟨[(0, vb p), (1, vs o), (4, .ptr 0 []), (6, .ptr 1 []), (7, .ptr 2 []), (9, vi (Ac a)), (42, vi (Ac a)), (43, vi v)], [.box 64 (.agg [vi 0, vc 0, vi 0, vi 0]), .box 64 (.agg [vi b, vc u, vi 0, vi 0]), .box 138 (.agg [.agg [vi f, vi g, vi h, vi k, vi m], vi n, .own 3]), Ai 3 a], []⟩
def z6 : Nat → S → Option R_ := H.i P_ [r,r,r,r,r,r,r,l,r,d]
def x8 (b f g h k m n : Int) (a : LI) (w : Int) (y : UInt8) (aa : Int) : Option R_ := H.e P_ [r,r,r,r,r,r,r,r] ⟨[(4, .ptr 0 []), (6, .ptr 1 []), (7, .ptr 2 []), (9, vi w)], [.box 64 (.agg [vi 0, vc 0, vi 0, vi 0]), .box 64 (.agg [vi b, vc y, vi aa, vi 0]), .box 138 (.agg [.agg [vi f, vi g, vi h, vi k, vi m], vi n, .own 3]), Ai 3 a], []⟩
def x6 (p o : LB) (a : LI) (b : Int) (u : UInt8) (f g h k m n v : Int) : Option R_ := H.e P_ [r,r,r,r,r,r,r,l,r,d] (t6 p o a b u f g h k m n v)
def x5 (p o : LB) (b f g h k m n : Int) (a : LI) (u : UInt8) : Option R_ := H.e P_ [r,r,r,r,r,r] ⟨[(0, vb p), (1, vs o), (4, .ptr 0 []), (6, .ptr 1 []), (7, .ptr 2 [])], [.box 64 (.agg [vi 0, vc 0, vi 0, vi 0]), .box 64 (.agg [vi b, vc u, vi 0, vi 0]), .box 138 (.agg [.agg [vi f, vi g, vi h, vi k, vi m], vi n, .own 3]), Ai 3 a], []⟩
theorem e8 : x8 = Zy := by kernel_rfl
theorem i6 (p o : LB) (a : LI) (b : Int) (u : UInt8) (f g h k m n : Int) : ∀ (q : Nat) (v : Int), z6 q (t6 p o a b u f g h k m n v) = Mg p o a b u f g h k m n q v :=
 ind (fun _ => by kernel_rfl) fun q ih v => Eq.trans (b := Xv x8 (fun v => (z6 q) (t6 p o a b u f g h k m n v)) p o a b u f g h k m n v) (by kernel_rfl) (by simp only [e8, ih] <;> rfl)
theorem e6 : x6 = Xx := by funext p o a b u f g h k m n v; exact Eq.trans (by kernel_rfl) ((i6 p o a b u f g h k m n Bg v).trans (by rw [Aj]; rfl))
theorem e5 : x5 = Wn := Eq.trans (b := Wq x6) (by kernel_rfl) (by simp only [e6] <;> rfl)
noncomputable def F := u2 Ag5
theorem rn x : H.u P_ x = F x := Eq.trans (b := u2 (Aaj x5) x) (by kernel_rfl) (by simp only [e5] <;> rfl)
noncomputable def c : Con := ⟨H.p, H.r, F⟩
theorem ok : ConOk P_ gl 55 c := co H func55 (.cons F89.ok (.cons F91.ok (.cons F92.ok (.cons F93.ok (.cons F94.ok .nil))))) rn
end F55
namespace F29
noncomputable def H : Hd := ⟨[Sb, Si, .agg [Si, Sc, Si, Si], Si], [Sz], .d, ⟨[(10, F10.c), (54, F54.c), (55, F55.c)], gl, false⟩, [], f29⟩
noncomputable def F := u7 Bp
theorem rn x : H.u P_ x = F x := by kernel_rfl
noncomputable def c : Con := ⟨H.p, H.r, F⟩
theorem ok : ConOk P_ gl 29 c := co H func29 (.cons F10.ok (.cons F54.ok (.cons F55.ok .nil))) rn
end F29
namespace F9
noncomputable def H : Hd := ⟨[], [Sz], .d, ⟨[(28, F28.c), (29, F29.c)], gl, false⟩, [], f9⟩
noncomputable def F (x : Unit) := Ez
theorem rn x : H.u P_ x = F x := by kernel_rfl
noncomputable def c : Con := ⟨H.p, H.r, F⟩
theorem ok : ConOk P_ gl 9 c := co H func9 (.cons F28.ok (.cons F29.ok .nil)) rn
end F9
namespace F11
abbrev R_ := (LB × Int)
abbrev K_ := S → Option R_
noncomputable def H : Hd := ⟨[Sb, Si, Su], [Ob 5, Si], (.seq .d (.seq .d (.seq .d (.seq .d (.seq .d (.cut [8, 9] [] (.seq .d (.blk (.loop [1, 2, 8, 9, 10, 24] [] (.seq .d (.seq .d (.cut [1, 2, 8, 9, 10, 24] [] (.blk (.seq .d (.seq .d (.cond (.keep [1, 2, 8, 9, 10, 11, 24, 32, 33, 34, 35] true) .d)))) .d)))))) .d)))))), ⟨[(30, F30.c)], gl, false⟩, [(31, .d)], f11⟩
def t6 (a : Int) (g : UInt32) (b : Int) (h : Bool) (f : LB) : S := ⟨[(1, vi a), (2, vu g), (8, .ptr 0 []), (9, .ptr 1 []), (10, .fn 31 [.ptr 0 [], .ptr 1 []]), (24, vi b)], [.box 22 (.own 2), .box 4 (vt h), Ab 5 f], []⟩
def z6 : Nat → S → Option R_ := H.i P_ [r,r,r,r,r,l,r,d]
def x10 (h : Bool) (f : LB) : Option R_ := H.e P_ [r,r,r,r,r,r] ⟨[(8, .ptr 0 []), (9, .ptr 1 [])], [.box 22 (.own 2), .box 4 (vt h), Ab 5 f], []⟩
def x8 (kn6 : K_) (a : Int) (g : UInt32) (b : Int) (k : Bool) (m : LB) : Option R_ := H.e P_ [r,r,r,r,r,l,r,d,(lp kn6),r,r,r] ⟨[(1, vi a), (2, vu g), (8, .ptr 0 []), (9, .ptr 1 []), (10, .fn 31 [.ptr 0 [], .ptr 1 []]), (24, vi b)], [.box 22 (.own 2), .box 4 (vt k), Ab 5 m], []⟩
def x6 (a : Int) (g : UInt32) (b : Int) (h : Bool) (f : LB) : Option R_ := H.e P_ [r,r,r,r,r,l,r,d] (t6 a g b h f)
theorem e10 : x10 = Qs := by kernel_rfl
theorem e8 (kn6 : K_) (a : Int) (g : UInt32) : x8 kn6 a g = Hy (fun b h f => kn6 (t6 a g b h f)) a g := by kernel_rfl
theorem i6 (a : Int) (g : UInt32) : ∀ (q : Nat) (b : Int) (h : Bool) (f : LB), z6 q (t6 a g b h f) = Dj a g q b h f :=
 ind (fun _ _ _ => by kernel_rfl) fun q ih b h f => Eq.trans (b := Hx (x8 (z6 q) a g) x10 a g b h f) (by kernel_rfl) (by simp only [e8, e10, ih] <;> rfl)
theorem e6 : x6 = Kv := by funext a g b h f; exact Eq.trans (by kernel_rfl) ((i6 a g Bg b h f).trans (by rw [Aj]; rfl))
noncomputable def F := u3 Gk
theorem rn x : H.u P_ x = F x := Eq.trans (b := u3 (Lf x6) x) (by kernel_rfl) (by simp only [e6] <;> rfl)
noncomputable def c : Con := ⟨H.p, H.r, F⟩
theorem ok : ConOk P_ gl 11 c := cr H func11 (.cons F30.ok .nil) (AnsOk.cons ent31 AnsOk.nil) rn
end F11
namespace F3
abbrev R_ := Bool
noncomputable def H : Hd := ⟨[Sb, Si, Sc, Si, Su], [Sz], (.seq .d (.seq .d (.seq .d (.seq .d (.cut [0, 3, 4, 11] [] .d .d))))), ⟨[(9, F9.c), (10, F10.c), (11, F11.c)], gl, false⟩, [], f3⟩
def x2 (a : LB) (f : Int) (g : UInt32) (b : Bool) : Option R_ := H.e P_ [r,r,r,r,r] ⟨[(0, vb a), (3, vi f), (4, vu g), (11, vt b)], [], []⟩
theorem e2 : x2 = Cm := by kernel_rfl
noncomputable def F := u5 Dh
theorem rn x : H.u P_ x = F x := Eq.trans (b := u5 (Dv x2) x) (by kernel_rfl) (by simp only [e2] <;> rfl)
noncomputable def c : Con := ⟨H.p, H.r, F⟩
theorem ok : ConOk P_ gl 3 c := co H func3 (.cons F9.ok (.cons F10.ok (.cons F11.ok .nil))) rn
end F3
end
end Go.Proofs.YtneipcijjnibdaaGreatDoor
