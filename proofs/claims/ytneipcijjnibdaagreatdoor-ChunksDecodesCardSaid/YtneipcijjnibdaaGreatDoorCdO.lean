/- A part of the proof of a statement of this seat (see the text that ends in Proof): CdOk. No conditions of its own. -/
import Derived.Test.YtneipcijjnibdaaGreatDoorCdBC
import Derived.Test.YtneipcijjnibdaaGreatDoorCdPA
import Derived.Test.YtneipcijjnibdaaGreatDoorCdHA
import Derived.Test.YtneipcijjnibdaaGreatDoorProg
import Derived.KernelRfl
set_option linter.unusedVariables false
set_option linter.unusedSimpArgs false
set_option maxRecDepth 10000
namespace Go.Proofs.YtneipcijjnibdaaGreatDoor
open Go Go.Lv Go.Pl Go.Rx Go.Rx.PS
noncomputable section
def g0 : List Value := [.bool true, .int .i64 0]
def g1 : List Value := [.bool false, .int .i64 0]
def g2 : List Value := [.int .i64 2, .int .i64 2, .int .i64 2, .int .i64 4, .int .i64 4]
def g3 : List Value := [.int .u8 0, .int .u8 1, .int .u8 56, .int .u8 2, .int .u8 57, .int .u8 49, .int .u8 28, .int .u8 3, .int .u8 61, .int .u8 58, .int .u8 42, .int .u8 50, .int .u8 38, .int .u8 29, .int .u8 17, .int .u8 4, .int .u8 62, .int .u8 47, .int .u8 59, .int .u8 36, .int .u8 45, .int .u8 43, .int .u8 51, .int .u8 22, .int .u8 53, .int .u8 39, .int .u8 33, .int .u8 30, .int .u8 24, .int .u8 18, .int .u8 12, .int .u8 5, .int .u8 63, .int .u8 55, .int .u8 48, .int .u8 27, .int .u8 60, .int .u8 41, .int .u8 37, .int .u8 16, .int .u8 46, .int .u8 35, .int .u8 44, .int .u8 21, .int .u8 52, .int .u8 32, .int .u8 23, .int .u8 11, .int .u8 54, .int .u8 26, .int .u8 40, .int .u8 15, .int .u8 34, .int .u8 20, .int .u8 31, .int .u8 10, .int .u8 25, .int .u8 14, .int .u8 19, .int .u8 9, .int .u8 13, .int .u8 8, .int .u8 7, .int .u8 6]
def gl : List (Nat × List Value) := [(0, g0), (1, g1), (2, g2), (3, g3)]
theorem mixed : Tryz.prog.follows .mixedOrders = true := by kernel_rfl
noncomputable abbrev P_ := Tryz.prog
theorem cr (H : Hd) {f : Nat} {F : LTy (shL H.p) → Option (LTy (shL H.r))} (hf : P_.funcs[f]? = some H.f) (hT : Aqg P_ H.T) (hA : ∀ p ∈ H.s, Ent P_ p.1) (h : ∀ x, H.u P_ x = F x) (hb : okH H = true := by kernel_rfl) : ConOk P_ H.T.gl f ⟨H.p, H.r, F⟩ := Hd.con mixed H hf hT hA hb h
theorem co (H : Hd) {f : Nat} {F : LTy (shL H.p) → Option (LTy (shL H.r))} (hf : P_.funcs[f]? = some H.f) (hT : Aqg P_ H.T) (h : ∀ x, H.u P_ x = F x) (hb : (H.s.isEmpty && okH H) = true := by kernel_rfl) : ConOk P_ H.T.gl f ⟨H.p, H.r, F⟩ := Hd.Cay mixed H hf hT hb h
theorem ent44 : Ent Tryz.prog 44 := Ent.mk Tryz.func44 (by kernel_rfl) rfl
theorem ent63 : Ent Tryz.prog 63 := Ent.mk Tryz.func63 (by kernel_rfl) rfl
theorem ent64 : Ent Tryz.prog 64 := Ent.mk Tryz.func64 (by kernel_rfl) rfl
theorem ent65 : Ent Tryz.prog 65 := Ent.mk Tryz.func65 (by kernel_rfl) rfl
theorem ent78 : Ent Tryz.prog 78 := Ent.mk Tryz.func78 (by kernel_rfl) rfl
theorem ent137 : Ent Tryz.prog 137 := Ent.mk Tryz.func137 (by kernel_rfl) rfl
theorem ent228 : Ent Tryz.prog 228 := Ent.mk Tryz.func228 (by kernel_rfl) rfl
theorem ent237 : Ent Tryz.prog 237 := Ent.mk Tryz.func237 (by kernel_rfl) rfl
theorem ent246 : Ent Tryz.prog 246 := Ent.mk Tryz.func246 (by kernel_rfl) rfl
theorem ent247 : Ent Tryz.prog 247 := Ent.mk Tryz.func247 (by kernel_rfl) rfl
theorem ent248 : Ent Tryz.prog 248 := Ent.mk Tryz.func248 (by kernel_rfl) rfl
theorem ent255 : Ent Tryz.prog 255 := Ent.mk Tryz.func255 (by kernel_rfl) rfl
theorem ent258 : Ent Tryz.prog 258 := Ent.mk Tryz.func258 (by kernel_rfl) rfl
theorem ent274 : Ent Tryz.prog 274 := Ent.mk Tryz.func274 (by kernel_rfl) rfl
theorem ent280 : Ent Tryz.prog 280 := Ent.mk Tryz.func280 (by kernel_rfl) rfl
theorem ent303 : Ent Tryz.prog 303 := Ent.mk Tryz.func303 (by kernel_rfl) rfl
abbrev u2 {A B R : Type} (f : A → B → R) (x : A × B) := f x.1 x.2
abbrev u3 {A B C R : Type} (f : A → B → C → R) := u2 fun a => u2 (f a)
abbrev u4 {A B C D R : Type} (f : A → B → C → D → R) := u2 fun a => u3 (f a)
abbrev u5 {A B C D E R : Type} (f : A → B → C → D → E → R) := u2 fun a => u4 (f a)
abbrev u6 {A B C D E F R : Type} (f : A → B → C → D → E → F → R) := u2 fun a => u5 (f a)
abbrev u7 {A B C D E F G R : Type} (f : A → B → C → D → E → F → G → R) := u2 fun a => u6 (f a)
abbrev u8 {A B C D E F G H R : Type} (f : A → B → C → D → E → F → G → H → R) := u2 fun a => u7 (f a)
abbrev u9 {A B C D E F G H I R : Type} (f : A → B → C → D → E → F → G → H → I → R) := u2 fun a => u8 (f a)
abbrev u10 {A B C D E F G H I J R : Type} (f : A → B → C → D → E → F → G → H → I → J → R) := u2 fun a => u9 (f a)
abbrev u11 {A B C D E F G H I J K R : Type} (f : A → B → C → D → E → F → G → H → I → J → K → R) := u2 fun a => u10 (f a)
abbrev u12 {A B C D E F G H I J K L R : Type} (f : A → B → C → D → E → F → G → H → I → J → K → L → R) := u2 fun a => u11 (f a)
abbrev u13 {A B C D E F G H I J K L M R : Type} (f : A → B → C → D → E → F → G → H → I → J → K → L → M → R) := u2 fun a => u12 (f a)
open Go.Proofs.Tryz
namespace F14
noncomputable def H : Hd := ⟨[Sb], [Sz], .d, ⟨[], gl, false⟩, [], f14⟩
noncomputable def F := Ad9
theorem rn x : H.u P_ x = F x := by kernel_rfl
noncomputable def c : Con := ⟨H.p, H.r, F⟩
theorem ok : ConOk P_ gl 14 c := co H func14 .nil rn
end F14
namespace F13
abbrev R_ := (LI × Int)
noncomputable def H : Hd := ⟨[Si, Sq], [Ol 3, Si], (.seq .d (.seq .d (.seq .d (.seq .d (.cut [6] [] (.seq .d (.blk (.loop [0, 1, 6, 7, 15, 16] [⟨6, [], .own 3 (.int .i64)⟩] .d))) .d))))), ⟨[], gl, false⟩, [], f13⟩
def t4 (f : Int) (g : UInt64) (h a : Int) (b : LI) : S := ⟨[(0, vi f), (1, vq g), (6, .own 0), (7, vi h), (15, vi f), (16, vi a)], [Ai 3 b], []⟩
def z4 : Nat → S → Option R_ := H.i P_ [r,r,r,r,l,r,d]
def x6 (b : LI) : Option R_ := H.e P_ [r,r,r,r,r] ⟨[(6, .own 0)], [Ai 3 b], []⟩
def x4 (f : Int) (g : UInt64) (h a : Int) (b : LI) : Option R_ := H.e P_ [r,r,r,r,l,r,d] (t4 f g h a b)
theorem e6 : x6 = Anv := by kernel_rfl
theorem i4 (f : Int) (g : UInt64) : ∀ (q : Nat) (h a : Int) (b : LI), z4 q (t4 f g h a b) = Mo f g q h a b :=
 ind (fun _ _ _ => by kernel_rfl) fun q ih h a b => Eq.trans (b := Zp x6 (fun h a b => (z4 q) (t4 f g h a b)) f g h a b) (by kernel_rfl) (by simp only [e6, ih] <;> rfl)
theorem e4 : x4 = Agi := by funext f g h a b; exact Eq.trans (by kernel_rfl) ((i4 f g Bm h a b).trans (by rw [Aj]; rfl))
noncomputable def F := u2 Vn
theorem rn x : H.u P_ x = F x := Eq.trans (b := u2 (Zy x4) x) (by kernel_rfl) (by simp only [e4] <;> rfl)
noncomputable def c : Con := ⟨H.p, H.r, F⟩
theorem ok : ConOk P_ gl 13 c := co H func13 .nil rn
end F13
namespace F21
noncomputable def H : Hd := ⟨[Ss], [.agg [Ss, Ob 5, .agg [Si, Si, Si, Si, Si], Ol 3, Si, Ob 5, Sz, Si], Si], .d, ⟨[], gl, false⟩, [], f21⟩
noncomputable def F := Ahv
theorem rn x : H.u P_ x = F x := by kernel_rfl
noncomputable def c : Con := ⟨H.p, H.r, F⟩
theorem ok : ConOk P_ gl 21 c := co H func21 .nil rn
end F21
namespace F30
def Aiv (a : LB) : Option (LB) :=
Bbl a (
some ([] : LB)) (
(Cv ([] : LB) a).bind fun b =>
some b)
theorem Aul : @Aiv = @Jy := by
  unfold Aiv Jy
  repeat (refine funext fun _ => ?_)
  repeat' first
    | with_reducible rfl
    | with_reducible refine Ez ?_ ?_
    | with_reducible refine Et ?_ ?_ ?_
    | with_reducible refine Ex ?_ ?_ ?_ ?_
    | ((with_reducible refine Hz ?_ ?_); focus (intro h; first | (subst h; rfl) | (simp only [h]; rfl) | (simp [Cv, Ac, h]; done)))
    | with_reducible refine Il fun x => ?_
    | with_reducible refine Ms (fun _ => ?_) (fun _ => ?_)
    | (refine Cj (fun h => by simp only [h, Im, Bu, Bs, ite_self]) (fun x h => ?_); (try simp only [h, Bu]))
    | (refine Dd (fun h => ?_) (fun h => ?_) <;> simp only [h, if_true, if_false, Bool.false_eq_true])
noncomputable def H : Hd := ⟨[Sb], [Ob 5], .d, ⟨[], gl, false⟩, [], f30⟩
noncomputable def F := Jy
theorem rn x : H.u P_ x = F x := Eq.trans (b := Aiv x) (by kernel_rfl) (by rw [Aul]; rfl)
noncomputable def c : Con := ⟨H.p, H.r, F⟩
theorem ok : ConOk P_ gl 30 c := co H func30 .nil rn
end F30
namespace F67
def Qp (a : LI) : Option (LI) :=
Bbl a (
some ([] : LI)) (
(Cv ([] : LI) a).bind fun b =>
some b)
theorem Ajo : @Qp = @Ey := by
  unfold Qp Ey
  repeat (refine funext fun _ => ?_)
  repeat' first
    | with_reducible rfl
    | with_reducible refine Ez ?_ ?_
    | with_reducible refine Et ?_ ?_ ?_
    | with_reducible refine Ex ?_ ?_ ?_ ?_
    | ((with_reducible refine Hz ?_ ?_); focus (intro h; first | (subst h; rfl) | (simp only [h]; rfl) | (simp [Cv, Ac, h]; done)))
    | with_reducible refine Il fun x => ?_
    | with_reducible refine Ms (fun _ => ?_) (fun _ => ?_)
    | (refine Cj (fun h => by simp only [h, Im, Bu, Bs, ite_self]) (fun x h => ?_); (try simp only [h, Bu]))
    | (refine Dd (fun h => ?_) (fun h => ?_) <;> simp only [h, if_true, if_false, Bool.false_eq_true])
noncomputable def H : Hd := ⟨[Sl], [Ol 3], .d, ⟨[], gl, false⟩, [], f67⟩
noncomputable def F := Ey
theorem rn x : H.u P_ x = F x := Eq.trans (b := Qp x) (by kernel_rfl) (by rw [Ajo]; rfl)
noncomputable def c : Con := ⟨H.p, H.r, F⟩
theorem ok : ConOk P_ gl 67 c := co H func67 .nil rn
end F67
namespace F45
noncomputable def H : Hd := ⟨[.agg [Ss, Sb, .agg [Si, Si, Si, Si, Si], Sl, Si, Sb, Sz, Si]], [.agg [Ss, Ob 5, .agg [Si, Si, Si, Si, Si], Ol 3, Si, Ob 5, Sz, Si]], .d, ⟨[(30, F30.c), (67, F67.c)], gl, false⟩, [], f45⟩
noncomputable def F := u12 Cw
theorem rn x : H.u P_ x = F x := by kernel_rfl
noncomputable def c : Con := ⟨H.p, H.r, F⟩
theorem ok : ConOk P_ gl 45 c := co H func45 (.cons F30.ok (.cons F67.ok .nil)) rn
end F45
namespace F135
abbrev R_ := Bool
noncomputable def H : Hd := ⟨[.agg [Si, Si, Si, Si, Si]], [Sz], (.seq .d (.cut [1] [] .d .d)), ⟨[], gl, false⟩, [], f135⟩
def x2 (b f a g h : Int) : Option R_ := H.e P_ [r,r] ⟨[(1, .ptr 0 [])], [.box 46 (.agg [vi b, vi f, vi a, vi g, vi h])], []⟩
theorem e2 : x2 = Ml := by kernel_rfl
noncomputable def F := u5 Ql
theorem rn x : H.u P_ x = F x := Eq.trans (b := u5 (Zz x2) x) (by kernel_rfl) (by simp only [e2] <;> rfl)
noncomputable def c : Con := ⟨H.p, H.r, F⟩
theorem ok : ConOk P_ gl 135 c := co H func135 .nil rn
end F135
namespace F150
noncomputable def H : Hd := ⟨[Si], [Si, Si], .d, ⟨[], gl, false⟩, [], f150⟩
noncomputable def F := Ad3
theorem rn x : H.u P_ x = F x := by kernel_rfl
noncomputable def c : Con := ⟨H.p, H.r, F⟩
theorem ok : ConOk P_ gl 150 c := co H func150 .nil rn
end F150
namespace F168
noncomputable def H : Hd := ⟨[Si, Si], [Si, Si], .d, ⟨[(150, F150.c)], gl, false⟩, [], f168⟩
noncomputable def F := u2 Aa6
theorem rn x : H.u P_ x = F x := by kernel_rfl
noncomputable def c : Con := ⟨H.p, H.r, F⟩
theorem ok : ConOk P_ gl 168 c := co H func168 (.cons F150.ok .nil) rn
end F168
namespace F136
noncomputable def H : Hd := ⟨[.agg [Si, Si, Si, Si, Si]], [Sz], .d, ⟨[(168, F168.c)], gl, false⟩, [], f136⟩
noncomputable def F := u5 Ahq
theorem rn x : H.u P_ x = F x := by kernel_rfl
noncomputable def c : Con := ⟨H.p, H.r, F⟩
theorem ok : ConOk P_ gl 136 c := co H func136 (.cons F168.ok .nil) rn
end F136
namespace F120
noncomputable def H : Hd := ⟨[.agg [Si, Si, Si, Si, Si]], [Si], .d, ⟨[(135, F135.c), (136, F136.c)], gl, false⟩, [], f120⟩
noncomputable def F := u5 Aad
theorem rn x : H.u P_ x = F x := by kernel_rfl
noncomputable def c : Con := ⟨H.p, H.r, F⟩
theorem ok : ConOk P_ gl 120 c := co H func120 (.cons F135.ok (.cons F136.ok .nil)) rn
end F120
namespace F257
noncomputable def H : Hd := ⟨[Sq, Sq], [Sq, Sq], .d, ⟨[], gl, false⟩, [], f257⟩
noncomputable def F := u2 Ah6
theorem rn x : H.u P_ x = F x := by kernel_rfl
noncomputable def c : Con := ⟨H.p, H.r, F⟩
theorem ok : ConOk P_ gl 257 c := co H func257 .nil rn
end F257
namespace F213
noncomputable def H : Hd := ⟨[Sq, Sq], [Sq, Sq], .d, ⟨[(257, F257.c)], gl, false⟩, [], f213⟩
noncomputable def F := u2 Agt
theorem rn x : H.u P_ x = F x := by kernel_rfl
noncomputable def c : Con := ⟨H.p, H.r, F⟩
theorem ok : ConOk P_ gl 213 c := co H func213 (.cons F257.ok .nil) rn
end F213
namespace F169
def Oe (j10 : LI → Option (LI)) (bk8 : Int → LI → Option (LI)) (b : Int) (a : LI) : Option (LI) :=
if (By b (Ac a)) then
both (
(vwI (Ac a) b (Ac a)).bind fun _ =>
(vwI (Ac a) 0 b).bind fun _ =>
bk8 (Ae b (Ako ((Ac a) - b) (Anz a 0 (b - (0 : Int))).length)) (Wl a b ((Ac a) - b) (Anz a 0 (b - (0 : Int))))) [
(vwI (Ac a) 0 b).bind fun _ =>
(vwI (Ac a) b (Ac a)).bind fun _ =>
bk8 (Ae b (Ako ((Ac a) - b) (Anz a 0 (b - (0 : Int))).length)) (Wl a b ((Ac a) - b) (Anz a 0 (b - (0 : Int))))]
else
j10 a
theorem Aig : @Oe = @Gv := by
  unfold Oe Gv
  repeat (refine funext fun _ => ?_)
  repeat' first
    | with_reducible rfl
    | with_reducible refine Ez ?_ ?_
    | with_reducible refine Et ?_ ?_ ?_
    | with_reducible refine Ex ?_ ?_ ?_ ?_
    | ((with_reducible refine Hz ?_ ?_); focus (intro h; first | (subst h; rfl) | (simp only [h]; rfl) | (simp [Cv, Ac, h]; done)))
    | with_reducible refine Il fun x => ?_
    | with_reducible refine Ms (fun _ => ?_) (fun _ => ?_)
    | (refine Cj (fun h => by simp only [h, Im, Bu, Bs, ite_self]) (fun x h => ?_); (try simp only [h, Bu]))
    | (refine Dd (fun h => ?_) (fun h => ?_) <;> simp only [h, if_true, if_false, Bool.false_eq_true])
abbrev R_ := LI
noncomputable def H : Hd := ⟨[Sl, Si], [Ol 3], (.seq .d (.cut [0, 1] [] .d (.seq .d (.cut [0, 6] [] .d (.seq .d (.seq .d (.cut [7] [] (.blk (.loop [7, 8] [] (.seq .d (.blk (.mode false))))) .d))))))), ⟨[(213, F213.c)], gl, true⟩, [], f169⟩
def t8 (b : Int) (a : LI) : S := ⟨[(7, .own 0), (8, vi b)], [Ai 3 a], []⟩
def z8 : Nat → S → Option R_ := H.i P_ [r,r,r,r,r,r,l,d]
def x10 (a : LI) : Option R_ := H.e P_ [r,r,r,r,r,r,r] ⟨[(7, .own 0)], [Ai 3 a], []⟩
def x8 (b : Int) (a : LI) : Option R_ := H.e P_ [r,r,r,r,r,r,l,d] (t8 b a)
def x7 (f : LI) (g : UInt64) : Option R_ := H.e P_ [r,r,r,r] ⟨[(0, vl f), (6, vq g)], [], []⟩
def x6 (f : LI) (h : Int) : Option R_ := H.e P_ [r,r] ⟨[(0, vl f), (1, vi h)], [], []⟩
theorem e10 : x10 = Jd := by kernel_rfl
theorem i8 : ∀ (q : Nat) (b : Int) (a : LI), z8 q (t8 b a) = Dv q b a :=
 ind (fun _ _ => by kernel_rfl) fun q ih b a => Eq.trans (b := Oe x10 (fun b a => (z8 q) (t8 b a)) b a) (by kernel_rfl) (by rw [Aig]; simp only [e10, ih] <;> rfl)
theorem e8 : x8 = Qw := by funext b a; exact Eq.trans (by kernel_rfl) ((i8 Bm b a).trans (by rw [Aj]; rfl))
theorem e7 : x7 = Qn := Eq.trans (b := Qv x8) (by kernel_rfl) (by simp only [e8] <;> rfl)
theorem e6 : x6 = Qt := Eq.trans (b := Qy x7) (by kernel_rfl) (by simp only [e7] <;> rfl)
noncomputable def F := u2 Nz
theorem rn x : H.u P_ x = F x := Eq.trans (b := u2 (Qm x6) x) (by kernel_rfl) (by simp only [e6] <;> rfl)
noncomputable def c : Con := ⟨H.p, H.r, F⟩
theorem ok : ConOk P_ gl 169 c := co H func169 (.cons F213.ok .nil) rn
end F169
namespace F214
abbrev R_ := LI
noncomputable def H : Hd := ⟨[.lf (.list (.list (.int .i64))) none], [Ol 3], (.seq .d (.seq .d (.cut [0, 3] [] (.seq .d (.blk (.loop [0, 3, 9, 10, 11] [] .d))) (.cut [0, 6] [⟨6, [], .own 3 (.int .i64)⟩] (.keep [0, 3, 6, 23, 24] true) (.cut [6] [] (.seq .d (.blk (.loop [6, 25, 26, 27] [] .d))) .d))))), ⟨[], gl, true⟩, [(258, (.seq .d (.cut [0, 1] [] .d .d)))], f214⟩
def t14 (a : List LI) (g : Int) (f : LI) : S := ⟨[(6, .own 0), (25, .val (.list (.list (.int .i64))) a), (26, vi (Ac a)), (27, vi g)], [Ai 3 f], []⟩
def z14 : Nat → S → Option R_ := H.i P_ [r,r,r,r,l,r,d]
def t9 (a : List LI) (b h : Int) : S := ⟨[(0, .val (.list (.list (.int .i64))) a), (3, vi b), (9, .val (.list (.list (.int .i64))) a), (10, vi (Ac a)), (11, vi h)], [], []⟩
def z9 : Nat → S → Option R_ := H.i P_ [r,r,l,r,d]
def x16 (f : LI) : Option R_ := H.e P_ [r,r,r,r,r] ⟨[(6, .own 0)], [Ai 3 f], []⟩
def x14 (a : List LI) (g : Int) (f : LI) : Option R_ := H.e P_ [r,r,r,r,l,r,d] (t14 a g f)
def x13 (a : List LI) (k : LI) : Option R_ := H.e P_ [r,r,r,r] ⟨[(0, .val (.list (.list (.int .i64))) a), (6, .own 0)], [Ai 3 k], []⟩
def x12 (b : Int) (a : List LI) : Option R_ := H.e P_ [r,r,r,l,(call 1 258),r,r] ⟨[(0, .nils), (1, vi b)], [], [[(0, .val (.list (.list (.int .i64))) a), (3, vi b), (23, vi b)]]⟩
def x11 (a : List LI) (b : Int) : Option R_ := H.e P_ [r,r,r] ⟨[(0, .val (.list (.list (.int .i64))) a), (3, vi b)], [], []⟩
def x9 (a : List LI) (b h : Int) : Option R_ := H.e P_ [r,r,l,r,d] (t9 a b h)
theorem e16 : x16 = Aah := by kernel_rfl
theorem i14 (a : List LI) : ∀ (q : Nat) (g : Int) (f : LI), z14 q (t14 a g f) = Dm a q g f :=
 ind (fun _ _ => by kernel_rfl) fun q ih g f => Eq.trans (b := Fp x16 (fun g f => (z14 q) (t14 a g f)) a g f) (by kernel_rfl) (by simp only [e16, ih] <;> rfl)
theorem e14 : x14 = Of := by funext a g f; exact Eq.trans (by kernel_rfl) ((i14 a Bm g f).trans (by rw [Aj]; rfl))
theorem e13 : x13 = Jc := Eq.trans (b := Oi x14) (by kernel_rfl) (by simp only [e14] <;> rfl)
theorem e12 : x12 = Od := Eq.trans (b := Oh x13) (by kernel_rfl) (by simp only [e13] <;> rfl)
theorem e11 : x11 = Ok := Eq.trans (b := Oc x12) (by kernel_rfl) (by simp only [e12] <;> rfl)
theorem i9 (a : List LI) : ∀ (q : Nat) (b h : Int), z9 q (t9 a b h) = Dw a q b h :=
 ind (fun _ _ => by kernel_rfl) fun q ih b h => Eq.trans (b := Gp x11 (fun b h => (z9 q) (t9 a b h)) a b h) (by kernel_rfl) (by simp only [e11, ih] <;> rfl)
theorem e9 : x9 = Qo := by funext a b h; exact Eq.trans (by kernel_rfl) ((i9 a Bm b h).trans (by rw [Aj]; rfl))
noncomputable def F := Nx
theorem rn x : H.u P_ x = F x := Eq.trans (b := Qz x9 x) (by kernel_rfl) (by simp only [e9] <;> rfl)
noncomputable def c : Con := ⟨H.p, H.r, F⟩
theorem ok : ConOk P_ gl 214 c := cr H func214 .nil (AnsOk.cons ent258 AnsOk.nil) rn
end F214
namespace F170
noncomputable def H : Hd := ⟨[Sl, Sl], [Ol 3], .d, ⟨[(214, F214.c)], gl, false⟩, [], f170⟩
noncomputable def F := u2 Akv
theorem rn x : H.u P_ x = F x := by kernel_rfl
noncomputable def c : Con := ⟨H.p, H.r, F⟩
theorem ok : ConOk P_ gl 170 c := co H func170 (.cons F214.ok .nil) rn
end F170
namespace F121
noncomputable def H : Hd := ⟨[Si, Si], [Ol 3, Si], .d, ⟨[(150, F150.c), (168, F168.c), (169, F169.c), (170, F170.c)], gl, false⟩, [], f121⟩
noncomputable def F := u2 Al4
theorem rn x : H.u P_ x = F x := by kernel_rfl
noncomputable def c : Con := ⟨H.p, H.r, F⟩
theorem ok : ConOk P_ gl 121 c := co H func121 (.cons F150.ok (.cons F168.ok (.cons F169.ok (.cons F170.ok .nil)))) rn
end F121
namespace F68
noncomputable def H : Hd := ⟨[.agg [Si, Si, Si, Si, Si]], [Ol 3, Si], .d, ⟨[(120, F120.c), (121, F121.c)], gl, false⟩, [], f68⟩
noncomputable def F := u5 Cx
theorem rn x : H.u P_ x = F x := by kernel_rfl
noncomputable def c : Con := ⟨H.p, H.r, F⟩
theorem ok : ConOk P_ gl 68 c := co H func68 (.cons F120.ok (.cons F121.ok .nil)) rn
end F68
namespace F69
noncomputable def H : Hd := ⟨[.agg [Si, Si, Si, Si, Si], Ss], [Si], .d, ⟨[], gl, false⟩, [], f69⟩
noncomputable def F := u6 Mv
theorem rn x : H.u P_ x = F x := by kernel_rfl
noncomputable def c : Con := ⟨H.p, H.r, F⟩
theorem ok : ConOk P_ gl 69 c := co H func69 .nil rn
end F69
namespace F70
abbrev R_ := Int
noncomputable def H : Hd := ⟨[Sl], [Si], (.seq .d (.seq .d (.seq .d (.cut [] [] (.seq .d (.blk (.loop [3, 14, 15, 16] [] .d))) .d)))), ⟨[], gl, false⟩, [], f70⟩
def t4 (a : LI) (f b : Int) : S := ⟨[(3, vi f), (14, vl a), (15, vi (Ac a)), (16, vi b)], [], []⟩
def z4 : Nat → S → Option R_ := H.i P_ [r,r,r,l,r,d]
def x6 : Option R_ := H.e P_ [r,r,r,r] ⟨[], [], []⟩
def x4 (a : LI) (f b : Int) : Option R_ := H.e P_ [r,r,r,l,r,d] (t4 a f b)
theorem e6 : x6 = Arq := by kernel_rfl
theorem i4 (a : LI) : ∀ (q : Nat) (f b : Int), z4 q (t4 a f b) = Tk a q f b :=
 ind (fun _ _ => by kernel_rfl) fun q ih f b => Eq.trans (b := Adl x6 (fun f b => (z4 q) (t4 a f b)) a f b) (by kernel_rfl) (by simp only [e6, ih] <;> rfl)
theorem e4 : x4 = Ak5 := by funext a f b; exact Eq.trans (by kernel_rfl) ((i4 a Bm f b).trans (by rw [Aj]; rfl))
noncomputable def F := Tq
theorem rn x : H.u P_ x = F x := Eq.trans (b := Aez x4 x) (by kernel_rfl) (by simp only [e4] <;> rfl)
noncomputable def c : Con := ⟨H.p, H.r, F⟩
theorem ok : ConOk P_ gl 70 c := co H func70 .nil rn
end F70
namespace F48
abbrev R_ := Bool
noncomputable def H : Hd := ⟨[.agg [Ss, Sb, .agg [Si, Si, Si, Si, Si], Sl, Si, Sb, Sz, Si]], [Sz], (.seq .d (.seq .d (.seq .d (.cut [1, 3] [] .d (.seq .d (.seq .d (.seq .d (.cut [1, 5] [] (.seq .d (.blk (.loop [1, 5, 83, 84, 85] [] .d))) .d)))))))), ⟨[(68, F68.c), (69, F69.c), (70, F70.c)], gl, false⟩, [], f48⟩
def t6 (y : LI) (o p : LB) (h b f k m : Int) (g : LI) (a : Int) (n : LB) (u : Bool) (v w aa : Int) : S := ⟨[(1, .ptr 0 []), (5, vi w), (83, vl y), (84, vi (Ac y)), (85, vi aa)], [.box 48 (.agg [vs o, vb p, .agg [vi h, vi b, vi f, vi k, vi m], vl g, vi a, vb n, vt u, vi v])], []⟩
def z6 : Nat → S → Option R_ := H.i P_ [r,r,r,r,r,r,r,l,r,d]
def x8 (w : Int) (o p : LB) (h b f k m : Int) (g : LI) (a : Int) (n : LB) (u : Bool) (v : Int) : Option R_ := H.e P_ [r,r,r,r,r,r,r,r] ⟨[(1, .ptr 0 []), (5, vi w)], [.box 48 (.agg [vs o, vb p, .agg [vi h, vi b, vi f, vi k, vi m], vl g, vi a, vb n, vt u, vi v])], []⟩
def x6 (y : LI) (o p : LB) (h b f k m : Int) (g : LI) (a : Int) (n : LB) (u : Bool) (v w aa : Int) : Option R_ := H.e P_ [r,r,r,r,r,r,r,l,r,d] (t6 y o p h b f k m g a n u v w aa)
def x5 (o p : LB) (h b f k m : Int) (g : LI) (a : Int) (n : LB) (u : Bool) (v : Int) (ab : LI) : Option R_ := H.e P_ [r,r,r,r] ⟨[(1, .ptr 0 []), (3, .own 1)], [.box 48 (.agg [vs o, vb p, .agg [vi h, vi b, vi f, vi k, vi m], vl g, vi a, vb n, vt u, vi v]), Ai 3 ab], []⟩
theorem e8 : x8 = Aih := by kernel_rfl
theorem i6 (y : LI) (o p : LB) (h b f k m : Int) (g : LI) (a : Int) (n : LB) (u : Bool) (v : Int) : ∀ (q : Nat) (w aa : Int), z6 q (t6 y o p h b f k m g a n u v w aa) = Ot y o p h b f k m g a n u v q w aa :=
 ind (fun _ _ => by kernel_rfl) fun q ih w aa => Eq.trans (b := Abq x8 (fun w aa => (z6 q) (t6 y o p h b f k m g a n u v w aa)) y o p h b f k m g a n u v w aa) (by kernel_rfl) (by simp only [e8, ih] <;> rfl)
theorem e6 : x6 = Aia := by funext y o p h b f k m g a n u v w aa; exact Eq.trans (by kernel_rfl) ((i6 y o p h b f k m g a n u v Bm w aa).trans (by rw [Aj]; rfl))
theorem e5 : x5 = Aic := Eq.trans (b := Aif x6) (by kernel_rfl) (by simp only [e6] <;> rfl)
noncomputable def F := u12 Zx
theorem rn x : H.u P_ x = F x := Eq.trans (b := u12 (Ah9 x5) x) (by kernel_rfl) (by simp only [e5] <;> rfl)
noncomputable def c : Con := ⟨H.p, H.r, F⟩
theorem ok : ConOk P_ gl 48 c := co H func48 (.cons F68.ok (.cons F69.ok (.cons F70.ok .nil))) rn
end F48
namespace F37
noncomputable def H : Hd := ⟨[Sb, Sb], [Sz], .d, ⟨[], gl, false⟩, [], f37⟩
noncomputable def F := u2 Fc
theorem rn x : H.u P_ x = F x := by kernel_rfl
noncomputable def c : Con := ⟨H.p, H.r, F⟩
theorem ok : ConOk P_ gl 37 c := co H func37 .nil rn
end F37
namespace F183
noncomputable def H : Hd := ⟨[Sb, Sb], [Sz], .d, ⟨[(37, F37.c)], gl, false⟩, [], f183⟩
noncomputable def F := u2 Le
theorem rn x : H.u P_ x = F x := by kernel_rfl
noncomputable def c : Con := ⟨H.p, H.r, F⟩
theorem ok : ConOk P_ gl 183 c := co H func183 (.cons F37.ok .nil) rn
end F183
namespace F273
abbrev R_ := (Int × Int)
noncomputable def H : Hd := ⟨[Sb], [Si, Si], (.seq .d (.seq .d (.seq .d (.cut [4] [] (.seq .d (.blk (.loop [4, 10, 11, 12] [] .d))) .d)))), ⟨[], gl, false⟩, [], f273⟩
def t4 (a : LB) (b f : Int) : S := ⟨[(4, vi b), (10, vb a), (11, vi (Ac a)), (12, vi f)], [], []⟩
def z4 : Nat → S → Option R_ := H.i P_ [r,r,r,l,r,d]
def x6 (b : Int) : Option R_ := H.e P_ [r,r,r,r] ⟨[(4, vi b)], [], []⟩
def x4 (a : LB) (b f : Int) : Option R_ := H.e P_ [r,r,r,l,r,d] (t4 a b f)
theorem e6 : x6 = Aod := by kernel_rfl
theorem i4 (a : LB) : ∀ (q : Nat) (b f : Int), z4 q (t4 a b f) = Mr a q b f :=
 ind (fun _ _ => by kernel_rfl) fun q ih b f => Eq.trans (b := Zr x6 (fun b f => (z4 q) (t4 a b f)) a b f) (by kernel_rfl) (by simp only [e6, ih] <;> rfl)
theorem e4 : x4 = Af8 := by funext a b f; exact Eq.trans (by kernel_rfl) ((i4 a Bm b f).trans (by rw [Aj]; rfl))
noncomputable def F := Ags
theorem rn x : H.u P_ x = F x := Eq.trans (b := Afz x4 x) (by kernel_rfl) (by simp only [e4] <;> rfl)
noncomputable def c : Con := ⟨H.p, H.r, F⟩
theorem ok : ConOk P_ gl 273 c := co H func273 .nil rn
end F273
namespace F226
def Af3 (j5 : LB → UInt8 → UInt8 → Option (Int × Int)) (a : LB) : Option (Int × Int) :=
(Le a ([(73 : UInt8), (68 : UInt8), (51 : UInt8)] : LB)).bind fun n =>
if (!n) then
some (0, 6)
else
if (By (Ac a) 10) then
some (0, 24)
else
(Ak a 3).bind fun f =>
(Ak a 5).bind fun b =>
(fun o : Option (Int × Int) =>
(fun p : Option (Int × Int) =>
both (
both (
bo (
j5 a f b)) [
o,
o]) [
bo2 (
bo (
j5 a f b)),
p,
p]) (
both (
o) [
bo (
j5 a f b),
both (
bo (
j5 a f b)) [
j5 a f b]])) (
both (
j5 a f b) [
bo (
j5 a f b)])
theorem Atf : @Af3 = @Abk := by
  unfold Af3 Abk
  try simp only [Afm, Ws, Vr]
  all_goals
    repeat (refine funext fun _ => ?_)
    repeat' first
      | with_reducible rfl
      | with_reducible refine Ez ?_ ?_
      | with_reducible refine Et ?_ ?_ ?_
      | with_reducible refine Ex ?_ ?_ ?_ ?_
      | ((with_reducible refine Hz ?_ ?_); focus (intro h; first | (subst h; rfl) | (simp only [h]; rfl) | (simp [Cv, Ac, h]; done)))
      | with_reducible refine Il fun x => ?_
      | with_reducible refine Ms (fun _ => ?_) (fun _ => ?_)
      | (refine Cj (fun h => by simp only [h, Im, Bu, Bs, ite_self]) (fun x h => ?_); (try simp only [h, Bu]))
      | (refine Dd (fun h => ?_) (fun h => ?_) <;> simp only [h, if_true, if_false, Bool.false_eq_true])
abbrev R_ := (Int × Int)
noncomputable def H : Hd := ⟨[Sb], [Si, Si], (.seq .d (.seq .d (.seq .d (.cut [0, 4, 5] [] (.mode false) (.seq .d (.seq .d (.cut [0, 5, 6] [] (.cut [0, 5, 6, 43] [] (.keep [0, 5, 6, 7, 8, 31, 32, 33, 34, 35, 36, 37, 38, 39, 40, 41, 42, 43] true) .d) (.seq .d (.cut [0, 5, 6] [] .d .d))))))))), ⟨[(37, F37.c), (183, F183.c), (273, F273.c)], gl, false⟩, [(274, .d)], f226⟩
def x8 (a : LB) (b : UInt8) (h : Int) : Option R_ := H.e P_ [r,r,r,r,r,r,r,r,r] ⟨[(0, vb a), (5, .ptr 0 []), (6, vi h)], [.box 5 (vc b)], []⟩
def x7 (a : LB) (g : Int) (b : UInt8) : Option R_ := H.e P_ [r,r,r,r,r,r,r] ⟨[(0, vb a), (5, .ptr 0 []), (6, vi g)], [.box 5 (vc b)], []⟩
def x6 (a : LB) (g : Int) (b : UInt8) (m : Bool) : Option R_ := H.e P_ [r,r,r,r,r,r,l,r] ⟨[(0, vb a), (5, .ptr 0 []), (6, vi g), (43, vt m)], [.box 5 (vc b)], []⟩
def x5 (a : LB) (f b : UInt8) : Option R_ := H.e P_ [r,r,r,r] ⟨[(0, vb a), (4, .ptr 0 []), (5, .ptr 1 [])], [.box 5 (vc f), .box 5 (vc b)], []⟩
theorem e8 : x8 = Abn := by kernel_rfl
theorem e7 : x7 = Abj := Eq.trans (b := Aii x8) (by kernel_rfl) (by simp only [e8] <;> rfl)
theorem e6 : x6 = Ain := Eq.trans (b := Aim x7) (by kernel_rfl) (by simp only [e7] <;> rfl)
theorem e5 : x5 = Aik := Eq.trans (b := Ail x6) (by kernel_rfl) (by simp only [e6] <;> rfl)
noncomputable def F := Ajl
theorem rn x : H.u P_ x = F x := Eq.trans (b := Af3 x5 x) (by kernel_rfl) (by unfold F; rw [Atf]; simp only [e5] <;> rfl)
noncomputable def c : Con := ⟨H.p, H.r, F⟩
theorem ok : ConOk P_ gl 226 c := cr H func226 (.cons F37.ok (.cons F183.ok (.cons F273.ok .nil))) (AnsOk.cons ent274 AnsOk.nil) rn
end F226
namespace F181
abbrev R_ := (UInt64 × Int)
noncomputable def H : Hd := ⟨[Sb], [Sq, Si], (.seq .d (.seq .d (.seq .d (.cut [4] [] (.seq .d (.blk (.loop [4, 15, 16, 17] [] .d))) .d)))), ⟨[], gl, false⟩, [], f181⟩
def t4 (a : LB) (b : UInt64) (f : Int) : S := ⟨[(4, vq b), (15, vb a), (16, vi (Ac a)), (17, vi f)], [], []⟩
def z4 : Nat → S → Option R_ := H.i P_ [r,r,r,l,r,d]
def x6 (b : UInt64) : Option R_ := H.e P_ [r,r,r,r] ⟨[(4, vq b)], [], []⟩
def x4 (a : LB) (b : UInt64) (f : Int) : Option R_ := H.e P_ [r,r,r,l,r,d] (t4 a b f)
theorem e6 : x6 = Axm := by kernel_rfl
theorem i4 (a : LB) : ∀ (q : Nat) (b : UInt64) (f : Int), z4 q (t4 a b f) = Ach a q b f :=
 ind (fun _ _ => by kernel_rfl) fun q ih b f => Eq.trans (b := Alw x6 (fun b f => (z4 q) (t4 a b f)) a b f) (by kernel_rfl) (by simp only [e6, ih] <;> rfl)
theorem e4 : x4 = Ari := by funext a b f; exact Eq.trans (by kernel_rfl) ((i4 a Bm b f).trans (by rw [Aj]; rfl))
noncomputable def F := Arb
theorem rn x : H.u P_ x = F x := Eq.trans (b := Arz x4 x) (by kernel_rfl) (by simp only [e4] <;> rfl)
noncomputable def c : Con := ⟨H.p, H.r, F⟩
theorem ok : ConOk P_ gl 181 c := co H func181 .nil rn
end F181
namespace F133
noncomputable def H : Hd := ⟨[Sb, Si, Si], [Sq, Si], .d, ⟨[(181, F181.c)], gl, false⟩, [], f133⟩
noncomputable def F := u3 Ans
theorem rn x : H.u P_ x = F x := by kernel_rfl
noncomputable def c : Con := ⟨H.p, H.r, F⟩
theorem ok : ConOk P_ gl 133 c := co H func133 (.cons F181.ok .nil) rn
end F133
namespace F192
noncomputable def H : Hd := ⟨[Sq, Si], [Sz], .d, ⟨[], gl, false⟩, [], f192⟩
noncomputable def F := u2 Ay6
theorem rn x : H.u P_ x = F x := by kernel_rfl
noncomputable def c : Con := ⟨H.p, H.r, F⟩
theorem ok : ConOk P_ gl 192 c := co H func192 .nil rn
end F192
namespace F143
abbrev R_ := (LB × Int)
noncomputable def H : Hd := ⟨[Sq, Si], [Ob 5, Si], (.seq .d (.seq .d (.seq .d (.seq .d (.cut [6] [] (.seq .d (.blk (.loop [0, 6, 21, 22] [] .d))) .d))))), ⟨[(192, F192.c)], gl, false⟩, [], f143⟩
def t4 (f : UInt64) (g : LB) (b : Int) (a : LB) : S := ⟨[(0, vq f), (6, .own 0), (21, vi (Ac g)), (22, vi b)], [Ab 5 a], []⟩
def z4 : Nat → S → Option R_ := H.i P_ [r,r,r,r,l,r,d]
def x6 (a : LB) : Option R_ := H.e P_ [r,r,r,r,r] ⟨[(6, .own 0)], [Ab 5 a], []⟩
def x4 (f : UInt64) (g : LB) (b : Int) (a : LB) : Option R_ := H.e P_ [r,r,r,r,l,r,d] (t4 f g b a)
theorem e6 : x6 = Ar9 := by kernel_rfl
theorem i4 (f : UInt64) (g : LB) : ∀ (q : Nat) (b : Int) (a : LB), z4 q (t4 f g b a) = Aco f g q b a :=
 ind (fun _ _ => by kernel_rfl) fun q ih b a => Eq.trans (b := Al9 x6 (fun b a => (z4 q) (t4 f g b a)) f g b a) (by kernel_rfl) (by simp only [e6, ih] <;> rfl)
theorem e4 : x4 = Aqy := by funext f g b a; exact Eq.trans (by kernel_rfl) ((i4 f g Bm b a).trans (by rw [Aj]; rfl))
noncomputable def F := u2 Asj
theorem rn x : H.u P_ x = F x := Eq.trans (b := u2 (Ark x4) x) (by kernel_rfl) (by simp only [e4] <;> rfl)
noncomputable def c : Con := ⟨H.p, H.r, F⟩
theorem ok : ConOk P_ gl 143 c := co H func143 (.cons F192.ok .nil) rn
end F143
namespace F185
abbrev R_ := LB
noncomputable def H : Hd := ⟨[Si, Si, Sq], [Ob 5], (.seq .d (.seq .d (.cut [7] [] (.seq .d (.blk (.loop [7, 20, 21, 22] [] .d))) .d))), ⟨[(143, F143.c)], gl, false⟩, [], f185⟩
def t4 (a b : Int) (f : UInt64) (h : Int) (g : LB) : S := ⟨[(7, .own 0), (20, .own 1), (21, vi (Ac ([(2000 : UInt64), (Ad (Ae a (32 : Int)) : UInt64), (Ad b : UInt64), f, (0 : UInt64), (0 : UInt64)] : LQ))), (22, vi h)], [Ab 5 g, .arr 30 (.int .u64) ([(2000 : UInt64), (Ad (Ae a (32 : Int)) : UInt64), (Ad b : UInt64), f, (0 : UInt64), (0 : UInt64)] : LQ)], []⟩
def z4 : Nat → S → Option R_ := H.i P_ [r,r,l,r,d]
def x6 (g : LB) : Option R_ := H.e P_ [r,r,r] ⟨[(7, .own 0)], [Ab 5 g], []⟩
def x4 (a b : Int) (f : UInt64) (h : Int) (g : LB) : Option R_ := H.e P_ [r,r,l,r,d] (t4 a b f h g)
theorem e6 : x6 = At2 := by kernel_rfl
theorem i4 (a b : Int) (f : UInt64) : ∀ (q : Nat) (h : Int) (g : LB), z4 q (t4 a b f h g) = Abt a b f q h g :=
 ind (fun _ _ => by kernel_rfl) fun q ih h g => Eq.trans (b := Ap0 x6 (fun h g => (z4 q) (t4 a b f h g)) a b f h g) (by kernel_rfl) (by simp only [e6, ih] <;> rfl)
theorem e4 : x4 = At8 := by funext a b f h g; exact Eq.trans (by kernel_rfl) ((i4 a b f Bm h g).trans (by rw [Aj]; rfl))
noncomputable def F := u3 As0
theorem rn x : H.u P_ x = F x := Eq.trans (b := u3 (Aua x4) x) (by kernel_rfl) (by simp only [e4] <;> rfl)
noncomputable def c : Con := ⟨H.p, H.r, F⟩
theorem ok : ConOk P_ gl 185 c := co H func185 (.cons F143.ok .nil) rn
end F185
namespace F184
noncomputable def H : Hd := ⟨[Sb, Sq], [.agg [Si, Si], Sz], .d, ⟨[(37, F37.c), (133, F133.c), (185, F185.c)], gl, false⟩, [], f184⟩
noncomputable def F := u2 Aj1
theorem rn x : H.u P_ x = F x := by kernel_rfl
noncomputable def c : Con := ⟨H.p, H.r, F⟩
theorem ok : ConOk P_ gl 184 c := co H func184 (.cons F37.ok (.cons F133.ok (.cons F185.ok .nil))) rn
end F184
namespace F227
noncomputable def H : Hd := ⟨[Sb], [Si, Si], .d, ⟨[(37, F37.c), (183, F183.c), (184, F184.c), (185, F185.c)], gl, false⟩, [], f227⟩
noncomputable def F := Asz
theorem rn x : H.u P_ x = F x := by kernel_rfl
noncomputable def c : Con := ⟨H.p, H.r, F⟩
theorem ok : ConOk P_ gl 227 c := co H func227 (.cons F37.ok (.cons F183.ok (.cons F184.ok (.cons F185.ok .nil)))) rn
end F227
namespace F179
noncomputable def H : Hd := ⟨[Sb], [Si, Si], .d, ⟨[(226, F226.c), (227, F227.c)], gl, false⟩, [], f179⟩
noncomputable def F := Yj
theorem rn x : H.u P_ x = F x := by kernel_rfl
noncomputable def c : Con := ⟨H.p, H.r, F⟩
theorem ok : ConOk P_ gl 179 c := co H func179 (.cons F226.ok (.cons F227.ok .nil)) rn
end F179
theorem Alp : ConOk Tryz.prog gl 78 Abf := Baz ent78 F179.ok
namespace F66
noncomputable def H : Hd := ⟨[Si], [.agg [Sz, Si]], .d, ⟨[], gl, false⟩, [], f66⟩
noncomputable def F := Ag
theorem rn x : H.u P_ x = F x := by kernel_rfl
noncomputable def c : Con := ⟨H.p, H.r, F⟩
theorem ok : ConOk P_ gl 66 c := co H func66 .nil rn
end F66
namespace F180
noncomputable def H : Hd := ⟨[Ss, Ss], [Sz], .d, ⟨[], gl, false⟩, [], f180⟩
noncomputable def F := u2 Fk
theorem rn x : H.u P_ x = F x := by kernel_rfl
noncomputable def c : Con := ⟨H.p, H.r, F⟩
theorem ok : ConOk P_ gl 180 c := co H func180 .nil rn
end F180
namespace F132
noncomputable def H : Hd := ⟨[Ss, Ss], [Sz], .d, ⟨[(180, F180.c)], gl, false⟩, [], f132⟩
noncomputable def F := u2 Ia
theorem rn x : H.u P_ x = F x := by kernel_rfl
noncomputable def c : Con := ⟨H.p, H.r, F⟩
theorem ok : ConOk P_ gl 132 c := co H func132 (.cons F180.ok .nil) rn
end F132
namespace F113
abbrev R_ := Bool
noncomputable def H : Hd := ⟨[Sb], [Sz], (.seq .d (.cut [] [] (.seq .d (.blk (.loop [0, 5, 6] [] .d))) .d)), ⟨[(132, F132.c)], gl, false⟩, [], f113⟩
def t4 (a : LB) (b : Int) : S := ⟨[(0, vb a), (5, .val (.vec 2 .str) ([([73, 68, 51] : LB), ([65, 80, 69, 84, 65, 71, 69, 88] : LB)] : List LB)), (6, vi b)], [], []⟩
def z4 : Nat → S → Option R_ := H.i P_ [r,l,r,d]
def x6 : Option R_ := H.e P_ [r,r] ⟨[], [], []⟩
def x4 (a : LB) (b : Int) : Option R_ := H.e P_ [r,l,r,d] (t4 a b)
theorem e6 : x6 = Ap8 := by kernel_rfl
theorem i4 (a : LB) : ∀ (q : Nat) (b : Int), z4 q (t4 a b) = Ja a q b :=
 ind (fun _ => by kernel_rfl) fun q ih b => Eq.trans (b := Vg x6 (fun b => (z4 q) (t4 a b)) a b) (by kernel_rfl) (by simp only [e6, ih] <;> rfl)
theorem e4 : x4 = Aiu := by funext a b; exact Eq.trans (by kernel_rfl) ((i4 a Bm b).trans (by rw [Aj]; rfl))
noncomputable def F := Py
theorem rn x : H.u P_ x = F x := Eq.trans (b := Ah8 x4 x) (by kernel_rfl) (by simp only [e4] <;> rfl)
noncomputable def c : Con := ⟨H.p, H.r, F⟩
theorem ok : ConOk P_ gl 113 c := co H func113 (.cons F132.ok .nil) rn
end F113
namespace F182
abbrev R_ := (UInt32 × Int)
abbrev K_ := S → Option R_
noncomputable def H : Hd := ⟨[Su, Sb], [Su, Si], (.seq .d (.seq .d (.cut [0, 1, 6] [] (.keep [0, 1, 6, 12] true) (.cut [0] [] (.seq .d (.blk (.loop [0, 6, 13, 14, 15] [] .d))) .d)))), ⟨[], gl, false⟩, [(228, (.seq .d (.seq .d (.cut [1] [] (.seq .d (.blk (.loop [1, 5] [] (.seq .d (.seq .d (.cut [1, 5] [] (.blk (.seq .d (.seq .d (.cut [1, 2, 3, 5] [] (.seq .d (.blk (.loop [1, 2, 3, 5, 10] [] .d))) .d)))) .d)))))) .d))))], f182⟩
def t28 (a : LB) (b : LU) (h : UInt32) (m : Int) : S := ⟨[(0, vu h), (6, .ptr 0 []), (13, vb a), (14, vi (Ac a)), (15, vi m)], [.box 357 (.val (.vec 256 (.int .u32)) b)], []⟩
def z28 : Nat → S → Option R_ := H.i P_ [r,r,r,l,r,d]
def t21 (f : UInt32) (a : LB) (g : Int) (b : LU) (k : UInt32) (n : Int) : S := ⟨[(1, .ptr 0 []), (2, vi g), (3, vu k), (5, vi g), (10, vi n)], [.box 357 (.val (.vec 256 (.int .u32)) b)], [[(0, vu f), (1, vb a)]]⟩
def z21 (kn16 : K_) : Nat → S → Option R_ := H.i P_ [r,r,l,(call 0 228),r,r,l,r,d,(lp kn16),r,r,l,d,r,r,l,r,d]
def t16 (f : UInt32) (a : LB) (g : Int) (b : LU) : S := ⟨[(1, .ptr 0 []), (5, vi g)], [.box 357 (.val (.vec 256 (.int .u32)) b)], [[(0, vu f), (1, vb a)]]⟩
def z16 : Nat → S → Option R_ := H.i P_ [r,r,l,(call 0 228),r,r,l,r,d]
def x30 (h : UInt32) : Option R_ := H.e P_ [r,r,r,r] ⟨[(0, vu h)], [], []⟩
def x28 (a : LB) (b : LU) (h : UInt32) (m : Int) : Option R_ := H.e P_ [r,r,r,l,r,d] (t28 a b h m)
def x27 (f : UInt32) (a : LB) (b : LU) : Option R_ := H.e P_ [r,r,r] ⟨[(0, vu f), (1, vb a), (6, .ptr 0 [])], [.box 357 (.val (.vec 256 (.int .u32)) b)], []⟩
def x26 (f : UInt32) (a : LB) (b : LU) : Option R_ := H.e P_ [r,r,l,(call 0 228),r,r,r] ⟨[(1, .ptr 0 [])], [.box 357 (.val (.vec 256 (.int .u32)) b)], [[(0, vu f), (1, vb a)]]⟩
def x24 (kn16 : K_) (f : UInt32) (a : LB) (g : Int) (o : LU) : Option R_ := H.e P_ [r,r,l,(call 0 228),r,r,l,r,d,(lp kn16),r,r,r] ⟨[(1, .ptr 0 []), (5, vi g)], [.box 357 (.val (.vec 256 (.int .u32)) o)], [[(0, vu f), (1, vb a)]]⟩
def x23 (kn16 : K_) (f : UInt32) (a : LB) (g : Int) (k : UInt32) (b : LU) : Option R_ := H.e P_ [r,r,l,(call 0 228),r,r,l,r,d,(lp kn16),r,r,l,d,r,r,r] ⟨[(1, .ptr 0 []), (2, vi g), (3, vu k), (5, vi g)], [.box 357 (.val (.vec 256 (.int .u32)) b)], [[(0, vu f), (1, vb a)]]⟩
def x21 (kn16 : K_) (f : UInt32) (a : LB) (g : Int) (b : LU) (k : UInt32) (n : Int) : Option R_ := H.e P_ [r,r,l,(call 0 228),r,r,l,r,d,(lp kn16),r,r,l,d,r,r,l,r,d] (t21 f a g b k n)
def x16 (f : UInt32) (a : LB) (g : Int) (b : LU) : Option R_ := H.e P_ [r,r,l,(call 0 228),r,r,l,r,d] (t16 f a g b)
theorem e30 : x30 = Aln := by kernel_rfl
theorem i28 (a : LB) (b : LU) : ∀ (q : Nat) (h : UInt32) (m : Int), z28 q (t28 a b h m) = Sg a b q h m :=
 ind (fun _ _ => by kernel_rfl) fun q ih h m => Eq.trans (b := Ac9 x30 (fun h m => (z28 q) (t28 a b h m)) a b h m) (by kernel_rfl) (by simp only [e30, ih] <;> rfl)
theorem e28 : x28 = Ale := by funext a b h m; exact Eq.trans (by kernel_rfl) ((i28 a b Bm h m).trans (by rw [Aj]; rfl))
theorem e27 : x27 = Alh := Eq.trans (b := Akr x28) (by kernel_rfl) (by simp only [e28] <;> rfl)
theorem e26 : x26 = Ac5 := Eq.trans (b := Aj7 x27) (by kernel_rfl) (by simp only [e27] <;> rfl)
theorem e24 (kn16 : K_) (f : UInt32) (a : LB) : x24 kn16 f a = Alj (fun g b => kn16 (t16 f a g b)) f a := by kernel_rfl
theorem e23 (kn16 : K_) (f : UInt32) (a : LB) : x23 kn16 f a = Ad0 (fun g b => kn16 (t16 f a g b)) f a := Eq.trans (b := Ak1 (x24 kn16 f a) f a) (by kernel_rfl) (by simp only [e24] <;> rfl)
theorem i21 (kn16 : K_) (f : UInt32) (a : LB) (g : Int) (b : LU) : ∀ (q : Nat) (k : UInt32) (n : Int), z21 kn16 q (t21 f a g b k n) = Sk (fun g b => kn16 (t16 f a g b)) f a g b q k n :=
 ind (fun _ _ => by kernel_rfl) fun q ih k n => Eq.trans (b := Ad7 (x23 kn16 f a) (fun k n => (z21 kn16 q) (t21 f a g b k n)) f a g b k n) (by kernel_rfl) (by simp only [e23, ih] <;> rfl)
theorem e21 (kn16 : K_) (f : UInt32) (a : LB) : x21 kn16 f a = Akz (fun g b => kn16 (t16 f a g b)) f a := by funext g b k n; exact Eq.trans (by kernel_rfl) ((i21 kn16 f a g b Bm k n).trans (by rw [Aj]; rfl))
theorem i16 (f : UInt32) (a : LB) : ∀ (q : Nat) (g : Int) (b : LU), z16 q (t16 f a g b) = Na f a q g b :=
 ind (fun _ _ => by kernel_rfl) fun q ih g b => Eq.trans (b := Aee (x21 (z16 q) f a) x26 f a g b) (by kernel_rfl) (by simp only [e21, e26, ih] <;> rfl)
theorem e16 : x16 = Alk := by funext f a g b; exact Eq.trans (by kernel_rfl) ((i16 f a Bm g b).trans (by rw [Aj]; rfl))
noncomputable def F := u2 Aov
theorem rn x : H.u P_ x = F x := Eq.trans (b := u2 (Ams x16) x) (by kernel_rfl) (by simp only [e16] <;> rfl)
noncomputable def c : Con := ⟨H.p, H.r, F⟩
theorem ok : ConOk P_ gl 182 c := cr H func182 .nil (AnsOk.cons ent228 AnsOk.nil) rn
end F182
namespace F134
noncomputable def H : Hd := ⟨[Sb], [Su, Si], .d, ⟨[(182, F182.c)], gl, false⟩, [], f134⟩
noncomputable def F := Ajt
theorem rn x : H.u P_ x = F x := by kernel_rfl
noncomputable def c : Con := ⟨H.p, H.r, F⟩
theorem ok : ConOk P_ gl 134 c := co H func134 (.cons F182.ok .nil) rn
end F134
namespace F79
abbrev R_ := (Int × Int × Int × Int × Int × Int)
noncomputable def H : Hd := ⟨[Sb], [.agg [Si, Si, Si, Si, Si], Si], (.seq .d (.seq .d (.seq .d (.seq .d (.seq .d (.seq .d (.seq .d (.cut [2, 8] [] (.seq .d (.blk (.loop [0, 2, 8, 9, 44, 45] [] .d))) .d)))))))), ⟨[(132, F132.c), (133, F133.c), (134, F134.c), (135, F135.c), (136, F136.c)], gl, false⟩, [], f79⟩
def t4 (b : LB) (g f : Int) (a : LI) : S := ⟨[(0, vb b), (2, .ptr 0 []), (8, .ptr 1 []), (9, vi g), (44, .val (.vec 5 (.int .i64)) ([(2 : Int), (2 : Int), (2 : Int), (4 : Int), (4 : Int)] : LI)), (45, vi f)], [.box 46 (.agg [vi 0, vi 0, vi 0, vi 0, vi 0]), .box 188 (.val (.vec 5 (.int .i64)) a)], []⟩
def z4 : Nat → S → Option R_ := H.i P_ [r,r,r,r,r,r,r,l,r,d]
def x6 (a : LI) : Option R_ := H.e P_ [r,r,r,r,r,r,r,r] ⟨[(2, .ptr 0 []), (8, .ptr 1 [])], [.box 46 (.agg [vi 0, vi 0, vi 0, vi 0, vi 0]), .box 188 (.val (.vec 5 (.int .i64)) a)], []⟩
def x4 (b : LB) (g f : Int) (a : LI) : Option R_ := H.e P_ [r,r,r,r,r,r,r,l,r,d] (t4 b g f a)
theorem e6 : x6 = Adu := by kernel_rfl
theorem i4 (b : LB) : ∀ (q : Nat) (g f : Int) (a : LI), z4 q (t4 b g f a) = Mz b q g f a :=
 ind (fun _ _ _ => by kernel_rfl) fun q ih g f a => Eq.trans (b := Adh x6 (fun g f a => (z4 q) (t4 b g f a)) b g f a) (by kernel_rfl) (by simp only [e6, ih] <;> rfl)
theorem e4 : x4 = Ad5 := by funext b g f a; exact Eq.trans (by kernel_rfl) ((i4 b Bm g f a).trans (by rw [Aj]; rfl))
noncomputable def F := Pm
theorem rn x : H.u P_ x = F x := Eq.trans (b := Ala x4 x) (by kernel_rfl) (by simp only [e4] <;> rfl)
noncomputable def c : Con := ⟨H.p, H.r, F⟩
theorem ok : ConOk P_ gl 79 c := co H func79 (.cons F132.ok (.cons F133.ok (.cons F134.ok (.cons F135.ok (.cons F136.ok .nil))))) rn
end F79
namespace F203
abbrev R_ := (UInt64 × Int)
abbrev K_ := S → Option R_
noncomputable def H : Hd := ⟨[Sq, Sb], [Sq, Si], (.seq .d (.seq .d (.cut [4, 5] [] (.keep [0, 1, 4, 5, 9, 10, 11, 12] true) .d))), ⟨[], gl, false⟩, [(246, (.seq .d (.cut [1] [] (.seq .d (.blk (.loop [0, 1, 9, 10, 11] [] .d))) .d))), (247, (.seq .d (.seq .d (.cut [1] [] (.seq .d (.blk (.loop [1, 5] [] (.seq .d (.seq .d (.cut [1, 5] [] (.blk (.seq .d (.seq .d (.cut [1, 2, 3, 5] [] (.seq .d (.blk (.loop [1, 2, 3, 5, 11] [] .d))) .d)))) .d)))))) .d))))], f203⟩
def t27 (a : LB) (b : UInt64) (f : LQ) (h : UInt64) (m : Int) : S := ⟨[(0, .ptr 0 []), (1, vq h), (9, vb a), (10, vi (Ac a)), (11, vi m)], [.box 365 (.val (.vec 256 (.int .u64)) f)], [[(0, vq b), (1, vb a), (4, vq 0), (5, vi 0), (9, .ptr 0 []), (10, vq b), (11, vb a)]]⟩
def z27 : Nat → S → Option R_ := H.i P_ [r,r,l,(call 3 246),r,l,r,d]
def t21 (b : UInt64) (a : LB) (g : Int) (f : LQ) (k : UInt64) (n : Int) : S := ⟨[(1, .ptr 0 []), (2, vi g), (3, vq k), (5, vi g), (11, vi n)], [.box 365 (.val (.vec 256 (.int .u64)) f)], [[(0, vq b), (1, vb a), (4, vq 0), (5, vi 0)]]⟩
def z21 (kn16 : K_) : Nat → S → Option R_ := H.i P_ [r,r,l,(call 0 247),r,r,l,r,d,(lp kn16),r,r,l,d,r,r,l,r,d]
def t16 (b : UInt64) (a : LB) (g : Int) (f : LQ) : S := ⟨[(1, .ptr 0 []), (5, vi g)], [.box 365 (.val (.vec 256 (.int .u64)) f)], [[(0, vq b), (1, vb a), (4, vq 0), (5, vi 0)]]⟩
def z16 : Nat → S → Option R_ := H.i P_ [r,r,l,(call 0 247),r,r,l,r,d]
def x30 (h : UInt64) : Option R_ := H.e P_ [r,r,r] ⟨[(4, vq h), (5, vi 0)], [], []⟩
def x29 (h b : UInt64) (a : LB) (f : LQ) : Option R_ := H.e P_ [r,r,l,(call 3 246),r,r] ⟨[(1, vq h)], [.box 365 (.val (.vec 256 (.int .u64)) f)], [[(0, vq b), (1, vb a), (4, vq 0), (5, vi 0), (9, .ptr 0 []), (10, vq b), (11, vb a)]]⟩
def x27 (a : LB) (b : UInt64) (f : LQ) (h : UInt64) (m : Int) : Option R_ := H.e P_ [r,r,l,(call 3 246),r,l,r,d] (t27 a b f h m)
def x26 (b : UInt64) (a : LB) (f : LQ) : Option R_ := H.e P_ [r,r,l,(call 0 247),r,r,r] ⟨[(1, .ptr 0 [])], [.box 365 (.val (.vec 256 (.int .u64)) f)], [[(0, vq b), (1, vb a), (4, vq 0), (5, vi 0)]]⟩
def x24 (kn16 : K_) (b : UInt64) (a : LB) (g : Int) (o : LQ) : Option R_ := H.e P_ [r,r,l,(call 0 247),r,r,l,r,d,(lp kn16),r,r,r] ⟨[(1, .ptr 0 []), (5, vi g)], [.box 365 (.val (.vec 256 (.int .u64)) o)], [[(0, vq b), (1, vb a), (4, vq 0), (5, vi 0)]]⟩
def x23 (kn16 : K_) (b : UInt64) (a : LB) (g : Int) (k : UInt64) (f : LQ) : Option R_ := H.e P_ [r,r,l,(call 0 247),r,r,l,r,d,(lp kn16),r,r,l,d,r,r,r] ⟨[(1, .ptr 0 []), (2, vi g), (3, vq k), (5, vi g)], [.box 365 (.val (.vec 256 (.int .u64)) f)], [[(0, vq b), (1, vb a), (4, vq 0), (5, vi 0)]]⟩
def x21 (kn16 : K_) (b : UInt64) (a : LB) (g : Int) (f : LQ) (k : UInt64) (n : Int) : Option R_ := H.e P_ [r,r,l,(call 0 247),r,r,l,r,d,(lp kn16),r,r,l,d,r,r,l,r,d] (t21 b a g f k n)
def x16 (b : UInt64) (a : LB) (g : Int) (f : LQ) : Option R_ := H.e P_ [r,r,l,(call 0 247),r,r,l,r,d] (t16 b a g f)
theorem e30 : x30 = Aj2 := by kernel_rfl
theorem e29 : x29 = Ak7 := Eq.trans (b := Akl x30) (by kernel_rfl) (by simp only [e30] <;> rfl)
theorem i27 (a : LB) (b : UInt64) (f : LQ) : ∀ (q : Nat) (h : UInt64) (m : Int), z27 q (t27 a b f h m) = Sn a b f q h m :=
 ind (fun _ _ => by kernel_rfl) fun q ih h m => Eq.trans (b := Aes x29 (fun h m => (z27 q) (t27 a b f h m)) a b f h m) (by kernel_rfl) (by simp only [e29, ih] <;> rfl)
theorem e27 : x27 = Akb := by funext a b f h m; exact Eq.trans (by kernel_rfl) ((i27 a b f Bm h m).trans (by rw [Aj]; rfl))
theorem e26 : x26 = Aep := Eq.trans (b := Aj8 x27) (by kernel_rfl) (by simp only [e27] <;> rfl)
theorem e24 (kn16 : K_) (b : UInt64) (a : LB) : x24 kn16 b a = Akx (fun g f => kn16 (t16 b a g f)) b a := by kernel_rfl
theorem e23 (kn16 : K_) (b : UInt64) (a : LB) : x23 kn16 b a = Ac3 (fun g f => kn16 (t16 b a g f)) b a := Eq.trans (b := Akp (x24 kn16 b a) b a) (by kernel_rfl) (by simp only [e24] <;> rfl)
theorem i21 (kn16 : K_) (b : UInt64) (a : LB) (g : Int) (f : LQ) : ∀ (q : Nat) (k : UInt64) (n : Int), z21 kn16 q (t21 b a g f k n) = Sm (fun g f => kn16 (t16 b a g f)) b a g f q k n :=
 ind (fun _ _ => by kernel_rfl) fun q ih k n => Eq.trans (b := Adq (x23 kn16 b a) (fun k n => (z21 kn16 q) (t21 b a g f k n)) b a g f k n) (by kernel_rfl) (by simp only [e23, ih] <;> rfl)
theorem e21 (kn16 : K_) (b : UInt64) (a : LB) : x21 kn16 b a = Akc (fun g f => kn16 (t16 b a g f)) b a := by funext g f k n; exact Eq.trans (by kernel_rfl) ((i21 kn16 b a g f Bm k n).trans (by rw [Aj]; rfl))
theorem i16 (b : UInt64) (a : LB) : ∀ (q : Nat) (g : Int) (f : LQ), z16 q (t16 b a g f) = Mx b a q g f :=
 ind (fun _ _ => by kernel_rfl) fun q ih g f => Eq.trans (b := Aet (x21 (z16 q) b a) x26 b a g f) (by kernel_rfl) (by simp only [e21, e26, ih] <;> rfl)
theorem e16 : x16 = Aku := by funext b a g f; exact Eq.trans (by kernel_rfl) ((i16 b a Bm g f).trans (by rw [Aj]; rfl))
noncomputable def F := u2 Aos
theorem rn x : H.u P_ x = F x := Eq.trans (b := u2 (Amt x16) x) (by kernel_rfl) (by simp only [e16] <;> rfl)
noncomputable def c : Con := ⟨H.p, H.r, F⟩
theorem ok : ConOk P_ gl 203 c := cr H func203 .nil (AnsOk.cons ent246 (AnsOk.cons ent247 AnsOk.nil)) rn
end F203
namespace F160
noncomputable def H : Hd := ⟨[Sb], [Sq, Si], .d, ⟨[(203, F203.c)], gl, false⟩, [], f160⟩
noncomputable def F := Aoh
theorem rn x : H.u P_ x = F x := by kernel_rfl
noncomputable def c : Con := ⟨H.p, H.r, F⟩
theorem ok : ConOk P_ gl 160 c := co H func160 (.cons F203.ok .nil) rn
end F160
namespace F144
noncomputable def H : Hd := ⟨[Ss], [Sq, Si], .d, ⟨[(160, F160.c)], gl, false⟩, [], f144⟩
noncomputable def F := Aw4
theorem rn x : H.u P_ x = F x := by kernel_rfl
noncomputable def c : Con := ⟨H.p, H.r, F⟩
theorem ok : ConOk P_ gl 144 c := co H func144 (.cons F160.ok .nil) rn
end F144
namespace F84
noncomputable def H : Hd := ⟨[Ss], [Ob 5, Si], .d, ⟨[(143, F143.c), (144, F144.c)], gl, false⟩, [], f84⟩
noncomputable def F := Ajp
theorem rn x : H.u P_ x = F x := by kernel_rfl
noncomputable def c : Con := ⟨H.p, H.r, F⟩
theorem ok : ConOk P_ gl 84 c := co H func84 (.cons F143.ok (.cons F144.ok .nil)) rn
end F84
namespace F114
noncomputable def H : Hd := ⟨[Sb, Ss], [Sz, Si], .d, ⟨[(37, F37.c), (84, F84.c)], gl, false⟩, [], f114⟩
noncomputable def F := u2 Adx
theorem rn x : H.u P_ x = F x := by kernel_rfl
noncomputable def c : Con := ⟨H.p, H.r, F⟩
theorem ok : ConOk P_ gl 114 c := co H func114 (.cons F37.ok (.cons F84.ok .nil)) rn
end F114
namespace F115
abbrev R_ := (LI × Int)
noncomputable def H : Hd := ⟨[Sb, Si], [Ol 3, Si], (.seq .d (.seq .d (.seq .d (.seq .d (.seq .d (.seq .d (.cut [10] [] (.seq .d (.blk (.loop [0, 10, 48, 49] [] .d))) .d))))))), ⟨[(70, F70.c), (133, F133.c), (134, F134.c)], gl, false⟩, [], f115⟩
def t4 (b : LB) (f : LI) (g : Int) (a : LI) : S := ⟨[(0, vb b), (10, .own 0), (48, vi (Ac f)), (49, vi g)], [Ai 3 a], []⟩
def z4 : Nat → S → Option R_ := H.i P_ [r,r,r,r,r,r,l,r,d]
def x6 (a : LI) : Option R_ := H.e P_ [r,r,r,r,r,r,r] ⟨[(10, .own 0)], [Ai 3 a], []⟩
def x4 (b : LB) (f : LI) (g : Int) (a : LI) : Option R_ := H.e P_ [r,r,r,r,r,r,l,r,d] (t4 b f g a)
theorem e6 : x6 = Agw := by kernel_rfl
theorem i4 (b : LB) (f : LI) : ∀ (q : Nat) (g : Int) (a : LI), z4 q (t4 b f g a) = Vi b f q g a :=
 ind (fun _ _ => by kernel_rfl) fun q ih g a => Eq.trans (b := Agu x6 (fun g a => (z4 q) (t4 b f g a)) b f g a) (by kernel_rfl) (by simp only [e6, ih] <;> rfl)
theorem e4 : x4 = Amy := by funext b f g a; exact Eq.trans (by kernel_rfl) ((i4 b f Bm g a).trans (by rw [Aj]; rfl))
noncomputable def F := u2 Ak8
theorem rn x : H.u P_ x = F x := Eq.trans (b := u2 (Am1 x4) x) (by kernel_rfl) (by simp only [e4] <;> rfl)
noncomputable def c : Con := ⟨H.p, H.r, F⟩
theorem ok : ConOk P_ gl 115 c := co H func115 (.cons F70.ok (.cons F133.ok (.cons F134.ok .nil))) rn
end F115
namespace F161
abbrev R_ := LX
noncomputable def H : Hd := ⟨[Sq], [.lf (.vec 16 (.int .i32)) none], (.seq .d (.seq .d (.cut [2, 3] [] (.seq .d (.blk (.loop [0, 2, 3, 5] [] .d))) .d))), ⟨[], gl, false⟩, [], f161⟩
def t4 (f : UInt64) (b : Int) (a : LX) : S := ⟨[(0, vq f), (2, .ptr 0 []), (3, .ptr 1 []), (5, vi b)], [.box 164 (.val (.vec 16 (.int .i32)) (List.replicate 16 (0 : Int32))), .box 164 (.val (.vec 16 (.int .i32)) a)], []⟩
def z4 : Nat → S → Option R_ := H.i P_ [r,r,l,r,d]
def x6 (a : LX) : Option R_ := H.e P_ [r,r,r] ⟨[(2, .ptr 0 []), (3, .ptr 1 [])], [.box 164 (.val (.vec 16 (.int .i32)) (List.replicate 16 (0 : Int32))), .box 164 (.val (.vec 16 (.int .i32)) a)], []⟩
def x4 (f : UInt64) (b : Int) (a : LX) : Option R_ := H.e P_ [r,r,l,r,d] (t4 f b a)
theorem e6 : x6 = Aze := by kernel_rfl
theorem i4 (f : UInt64) : ∀ (q : Nat) (b : Int) (a : LX), z4 q (t4 f b a) = Agl f q b a :=
 ind (fun _ _ => by kernel_rfl) fun q ih b a => Eq.trans (b := Apf x6 (fun b a => (z4 q) (t4 f b a)) f b a) (by kernel_rfl) (by simp only [e6, ih] <;> rfl)
theorem e4 : x4 = Bbj := by funext f b a; exact Eq.trans (by kernel_rfl) ((i4 f Bm b a).trans (by rw [Aj]; rfl))
noncomputable def F := Bfz
theorem rn x : H.u P_ x = F x := Eq.trans (b := Bco x4 x) (by kernel_rfl) (by simp only [e4] <;> rfl)
noncomputable def c : Con := ⟨H.p, H.r, F⟩
theorem ok : ConOk P_ gl 161 c := co H func161 .nil rn
end F161
namespace F116
noncomputable def H : Hd := ⟨[Ss], [.lf (.vec 16 (.int .i32)) none, Si], .d, ⟨[(160, F160.c), (161, F161.c)], gl, false⟩, [], f116⟩
noncomputable def F := Ack
theorem rn x : H.u P_ x = F x := by kernel_rfl
noncomputable def c : Con := ⟨H.p, H.r, F⟩
theorem ok : ConOk P_ gl 116 c := co H func116 (.cons F160.ok (.cons F161.ok .nil)) rn
end F116
namespace F118
noncomputable def H : Hd := ⟨[.agg [Si, Si, Si, Si, Si]], [.agg [Si, Si]], .d, ⟨[], gl, false⟩, [], f118⟩
noncomputable def F := u5 Aa9
theorem rn x : H.u P_ x = F x := by kernel_rfl
noncomputable def c : Con := ⟨H.p, H.r, F⟩
theorem ok : ConOk P_ gl 118 c := co H func118 .nil rn
end F118
namespace F152
abbrev R_ := (Int32 × Int32 × Int)
noncomputable def H : Hd := ⟨[Si], [Sx, Sx, Si], (.seq .d (.seq (.seq .d (.blk (.cut [0, 7] [] .d .d))) .d)), ⟨[], gl, false⟩, [], f152⟩
def x2 (a : Int) (b : Bool) : Option R_ := H.e P_ [r,l,r,d,r] ⟨[(0, vi a), (7, vt b)], [], []⟩
theorem e2 : x2 = Arl := by kernel_rfl
noncomputable def F := Ag4
theorem rn x : H.u P_ x = F x := Eq.trans (b := Aq3 x2 x) (by kernel_rfl) (by simp only [e2] <;> rfl)
noncomputable def c : Con := ⟨H.p, H.r, F⟩
theorem ok : ConOk P_ gl 152 c := co H func152 .nil rn
end F152
namespace F151
noncomputable def H : Hd := ⟨[.agg [Si, Si]], [Si], .d, ⟨[(152, F152.c)], gl, false⟩, [], f151⟩
noncomputable def F := u2 Agy
theorem rn x : H.u P_ x = F x := by kernel_rfl
noncomputable def c : Con := ⟨H.p, H.r, F⟩
theorem ok : ConOk P_ gl 151 c := co H func151 (.cons F152.ok .nil) rn
end F151
namespace F162
noncomputable def H : Hd := ⟨[Sb], [Sb, Si], .d, ⟨[(134, F134.c), (181, F181.c)], gl, false⟩, [], f162⟩
noncomputable def F := Aeg
theorem rn x : H.u P_ x = F x := by kernel_rfl
noncomputable def c : Con := ⟨H.p, H.r, F⟩
theorem ok : ConOk P_ gl 162 c := co H func162 (.cons F134.ok (.cons F181.ok .nil)) rn
end F162
namespace F107
def Nf (a : LB) : Option (LB) :=
Bbl a (
some ([] : LB)) (
(Cv ([] : LB) a).bind fun b =>
some b)
theorem Ahn : @Nf = @Ib := by
  unfold Nf Ib
  repeat (refine funext fun _ => ?_)
  repeat' first
    | with_reducible rfl
    | with_reducible refine Ez ?_ ?_
    | with_reducible refine Et ?_ ?_ ?_
    | with_reducible refine Ex ?_ ?_ ?_ ?_
    | ((with_reducible refine Hz ?_ ?_); focus (intro h; first | (subst h; rfl) | (simp only [h]; rfl) | (simp [Cv, Ac, h]; done)))
    | with_reducible refine Il fun x => ?_
    | with_reducible refine Ms (fun _ => ?_) (fun _ => ?_)
    | (refine Cj (fun h => by simp only [h, Im, Bu, Bs, ite_self]) (fun x h => ?_); (try simp only [h, Bu]))
    | (refine Dd (fun h => ?_) (fun h => ?_) <;> simp only [h, if_true, if_false, Bool.false_eq_true])
noncomputable def H : Hd := ⟨[Sb], [Ob 5], .d, ⟨[], gl, false⟩, [], f107⟩
noncomputable def F := Ib
theorem rn x : H.u P_ x = F x := Eq.trans (b := Nf x) (by kernel_rfl) (by rw [Ahn]; rfl)
noncomputable def c : Con := ⟨H.p, H.r, F⟩
theorem ok : ConOk P_ gl 107 c := co H func107 .nil rn
end F107
namespace F163
noncomputable def H : Hd := ⟨[Sb], [.agg [Ob 5, Si], Si], .d, ⟨[(107, F107.c)], gl, false⟩, [], f163⟩
noncomputable def F := Bfu
theorem rn x : H.u P_ x = F x := by kernel_rfl
noncomputable def c : Con := ⟨H.p, H.r, F⟩
theorem ok : ConOk P_ gl 163 c := co H func163 (.cons F107.ok .nil) rn
end F163
namespace F204
noncomputable def H : Hd := ⟨[], [.agg [Si, Si, Sq, Sq]], .d, ⟨[], gl, false⟩, [], f204⟩
noncomputable def F (x : Unit) := Bbd
theorem rn x : H.u P_ x = F x := by kernel_rfl
noncomputable def c : Con := ⟨H.p, H.r, F⟩
theorem ok : ConOk P_ gl 204 c := co H func204 .nil rn
end F204
namespace F207
noncomputable def H : Hd := ⟨[.agg [Sb, Si]], [Si], .d, ⟨[], gl, false⟩, [], f207⟩
noncomputable def F := u2 Va
theorem rn x : H.u P_ x = F x := by kernel_rfl
noncomputable def c : Con := ⟨H.p, H.r, F⟩
theorem ok : ConOk P_ gl 207 c := co H func207 .nil rn
end F207
namespace F208
abbrev R_ := UInt64
noncomputable def H : Hd := ⟨[.agg [Sb, Si], Si, Si], [Sq], (.seq .d (.seq .d (.cut [7] [] (.blk (.loop [1, 2, 3, 7, 8] [] .d)) .d))), ⟨[], gl, false⟩, [], f208⟩
def t4 (b f : Int) (h : LB) (k : Int) (g : UInt64) (a : Int) : S := ⟨[(1, vi b), (2, vi f), (3, .ptr 0 []), (7, vq g), (8, vi a)], [.box 224 (.agg [vb h, vi k])], []⟩
def z4 : Nat → S → Option R_ := H.i P_ [r,r,l,d]
def x6 (g : UInt64) : Option R_ := H.e P_ [r,r,r] ⟨[(7, vq g)], [], []⟩
def x4 (b f : Int) (h : LB) (k : Int) (g : UInt64) (a : Int) : Option R_ := H.e P_ [r,r,l,d] (t4 b f h k g a)
theorem e6 : x6 = Axo := by kernel_rfl
theorem i4 (b f : Int) (h : LB) (k : Int) : ∀ (q : Nat) (g : UInt64) (a : Int), z4 q (t4 b f h k g a) = Ah0 b f h k q g a :=
 ind (fun _ _ => by kernel_rfl) fun q ih g a => Eq.trans (b := Arm x6 (fun g a => (z4 q) (t4 b f h k g a)) b f h k g a) (by kernel_rfl) (by simp only [e6, ih] <;> rfl)
theorem e4 : x4 = Axi := by funext b f h k g a; exact Eq.trans (by kernel_rfl) ((i4 b f h k Bm g a).trans (by rw [Aj]; rfl))
noncomputable def F := u4 Awe
theorem rn x : H.u P_ x = F x := Eq.trans (b := u4 (Ax8 x4) x) (by kernel_rfl) (by simp only [e4] <;> rfl)
noncomputable def c : Con := ⟨H.p, H.r, F⟩
theorem ok : ConOk P_ gl 208 c := co H func208 .nil rn
end F208
namespace F205
abbrev R_ := (LB × Int × Int)
abbrev K_ := S → Option R_
noncomputable def H : Hd := ⟨[.agg [Sb, Si], Si, Si], [.agg [Ob 5, Si], Si], (.seq .d (.seq .d (.seq .d (.seq .d (.cut [6, 8] [] (.seq .d (.blk (.loop [2, 3, 6, 8, 9] [⟨8, [0], .own 5 (.int .u8)⟩] (.seq .d (.cut [2, 3, 6, 8, 9] [] (.blk (.seq .d (.keep [2, 3, 6, 8, 9, 10, 39, 40, 41, 42, 43] true))) .d))))) .d))))), ⟨[(207, F207.c), (208, F208.c)], gl, false⟩, [(248, (.blk (.loop [0, 1, 2] [] (.seq .d (.blk (.cut [0, 1, 2] [] .d (.seq .d (.cut [0, 1, 2, 7] [] .d .d))))))))], f205⟩
def t44 (a : Int) (g : LB) (f b : Int) (k n : UInt64) (m h : Int) (u : LB) : S := ⟨[(0, .ptr 0 []), (1, vq n), (2, vi m)], [.box 224 (.agg [.own 3, vi h]), .box 224 (.agg [vb g, vi f]), .box 224 (.agg [.nils, vi 0]), Ab 5 u], [[(2, vi a), (3, .ptr 1 []), (6, .ptr 2 []), (8, .ptr 0 []), (9, vi b), (10, vi (Hq (64 : Int) (Al a b))), (39, .agg [vb g, vi f]), (40, vi b), (41, vi (Hq (64 : Int) (Al a b))), (42, vq k), (43, vi (Hq (64 : Int) (Al a b)))]]⟩
def z44 (kn27 : K_) : Nat → S → Option R_ := H.i P_ [r,r,r,r,l,r,d,(lp kn27),r,l,d,r,(call 5 248),d]
def t27 (a : Int) (g : LB) (f b o : Int) (p : LB) : S := ⟨[(2, vi a), (3, .ptr 0 []), (6, .ptr 1 []), (8, .ptr 2 []), (9, vi b)], [.box 224 (.agg [vb g, vi f]), .box 224 (.agg [.nils, vi 0]), .box 224 (.agg [.own 3, vi o]), Ab 5 p], []⟩
def z27 : Nat → S → Option R_ := H.i P_ [r,r,r,r,l,r,d]
def x52 (o : Int) (p : LB) : Option R_ := H.e P_ [r,r,r,r,r] ⟨[(6, .ptr 0 []), (8, .ptr 1 [])], [.box 224 (.agg [.nils, vi 0]), .box 224 (.agg [.own 2, vi o]), Ab 5 p], []⟩
def x50 (kn27 : K_) (a : Int) (g : LB) (f b h : Int) (u : LB) : Option R_ := H.e P_ [r,r,r,r,l,r,d,(lp kn27),r,r] ⟨[(2, vi a), (3, .ptr 0 []), (6, .ptr 1 []), (8, .ptr 2 []), (9, vi b)], [.box 224 (.agg [vb g, vi f]), .box 224 (.agg [.nils, vi 0]), .box 224 (.agg [.own 3, vi h]), Ab 5 u], []⟩
def x48 (kn27 kn44 : K_) (a b : Int) (g : LB) (f : Int) (k n : UInt64) (m h : Int) (w : LB) : Option R_ := H.e P_ [r,r,r,r,l,r,d,(lp kn27),r,l,d,r,(call 5 248),d,(lp kn44),r,d,r,r,r] ⟨[(0, .ptr 0 []), (1, vq n), (2, vi m), (7, vi (Hq m (Al (8 : Int) (Hr h (7 : Int)))))], [.box 224 (.agg [.own 3, vi h]), .box 224 (.agg [vb g, vi f]), .box 224 (.agg [.nils, vi 0]), Ab 5 w], [[(2, vi a), (3, .ptr 1 []), (6, .ptr 2 []), (8, .ptr 0 []), (9, vi b), (10, vi (Hq (64 : Int) (Al a b))), (39, .agg [vb g, vi f]), (40, vi b), (41, vi (Hq (64 : Int) (Al a b))), (42, vq k), (43, vi (Hq (64 : Int) (Al a b)))]]⟩
def x47 (kn27 kn44 : K_) (a b : Int) (g : LB) (f : Int) (k n : UInt64) (m h : Int) (v : LB) : Option R_ := H.e P_ [r,r,r,r,l,r,d,(lp kn27),r,l,d,r,(call 5 248),d,(lp kn44),r,d,r] ⟨[(0, .ptr 0 []), (1, vq n), (2, vi m)], [.box 224 (.agg [.own 3, vi h]), .box 224 (.agg [vb g, vi f]), .box 224 (.agg [.nils, vi 0]), Ab 5 v], [[(2, vi a), (3, .ptr 1 []), (6, .ptr 2 []), (8, .ptr 0 []), (9, vi b), (10, vi (Hq (64 : Int) (Al a b))), (39, .agg [vb g, vi f]), (40, vi b), (41, vi (Hq (64 : Int) (Al a b))), (42, vq k), (43, vi (Hq (64 : Int) (Al a b)))]]⟩
def x44 (kn27 : K_) (a : Int) (g : LB) (f b : Int) (k n : UInt64) (m h : Int) (u : LB) : Option R_ := H.e P_ [r,r,r,r,l,r,d,(lp kn27),r,l,d,r,(call 5 248),d] (t44 a g f b k n m h u)
def x27 (a : Int) (g : LB) (f b o : Int) (p : LB) : Option R_ := H.e P_ [r,r,r,r,l,r,d] (t27 a g f b o p)
theorem e52 : x52 = Aph := by kernel_rfl
theorem e50 (kn27 : K_) (a : Int) (g : LB) (f : Int) : x50 kn27 a g f = Ajq (fun b o p => kn27 (t27 a g f b o p)) a g f := by kernel_rfl
theorem e48 (kn27 kn44 : K_) (a : Int) (g : LB) (f b : Int) (k : UInt64) : x48 kn27 kn44 a b g f k = Aps (fun n m h u => kn44 (t44 a g f b k n m h u)) a b g f k := by kernel_rfl
theorem e47 (kn27 kn44 : K_) (a : Int) (g : LB) (f b : Int) (k : UInt64) : x47 kn27 kn44 a b g f k = Ajm (fun n m h u => kn44 (t44 a g f b k n m h u)) a b g f k := Eq.trans (b := Ao0 (x48 kn27 kn44 a b g f k) a b g f k) (by kernel_rfl) (by simp only [e48] <;> rfl)
theorem i44 (kn27 : K_) (a : Int) (g : LB) (f b : Int) (k : UInt64) : ∀ (q : Nat) (n : UInt64) (m h : Int) (u : LB), z44 kn27 q (t44 a g f b k n m h u) = Pd (fun b o p => kn27 (t27 a g f b o p)) a g f b k q n m h u :=
 ind (fun _ _ _ _ => by kernel_rfl) fun q ih n m h u => Eq.trans (b := Aje (x47 kn27 (z44 kn27 q) a b g f k) (x50 kn27 a g f) a g f b k n m h u) (by kernel_rfl) (by simp only [e47, e50, ih] <;> rfl)
theorem e44 (kn27 : K_) (a : Int) (g : LB) (f : Int) : x44 kn27 a g f = Apx (fun b o p => kn27 (t27 a g f b o p)) a g f := by funext b k n m h u; exact Eq.trans (by kernel_rfl) ((i44 kn27 a g f b k Bm n m h u).trans (by rw [Aj]; rfl))
theorem i27 (a : Int) (g : LB) (f : Int) : ∀ (q : Nat) (b o : Int) (p : LB), z27 q (t27 a g f b o p) = Zq a g f q b o p :=
 ind (fun _ _ _ => by kernel_rfl) fun q ih b o p => Eq.trans (b := Api (x44 (z27 q) a g f) x52 a g f b o p) (by kernel_rfl) (by simp only [e44, e52, ih] <;> rfl)
theorem e27 : x27 = Apy := by funext a g f b o p; exact Eq.trans (by kernel_rfl) ((i27 a g f Bm b o p).trans (by rw [Aj]; rfl))
noncomputable def F := u4 Arx
theorem rn x : H.u P_ x = F x := Eq.trans (b := u4 (Aqz x27) x) (by kernel_rfl) (by simp only [e27] <;> rfl)
noncomputable def c : Con := ⟨H.p, H.r, F⟩
theorem ok : ConOk P_ gl 205 c := cr H func205 (.cons F207.ok (.cons F208.ok .nil)) (AnsOk.cons ent248 AnsOk.nil) rn
end F205
namespace F233
def Aj9 (j4 : Int → Int → UInt64 → UInt64 → Option Int) (a b : Int) (f g : UInt64) : Option Int :=
both (
bo (
j4 a b f g)) [
j4 a b f g]
theorem Av3 : @Aj9 = @Ag0 := by
  unfold Aj9 Ag0
  repeat (refine funext fun _ => ?_)
  repeat' first
    | with_reducible rfl
    | with_reducible refine Ez ?_ ?_
    | with_reducible refine Et ?_ ?_ ?_
    | with_reducible refine Ex ?_ ?_ ?_ ?_
    | ((with_reducible refine Hz ?_ ?_); focus (intro h; first | (subst h; rfl) | (simp only [h]; rfl) | (simp [Cv, Ac, h]; done)))
    | with_reducible refine Il fun x => ?_
    | with_reducible refine Ms (fun _ => ?_) (fun _ => ?_)
    | (refine Cj (fun h => by simp only [h, Im, Bu, Bs, ite_self]) (fun x h => ?_); (try simp only [h, Bu]))
    | (refine Dd (fun h => ?_) (fun h => ?_) <;> simp only [h, if_true, if_false, Bool.false_eq_true])
def Aj4 (j3 : Int → Int → UInt64 → UInt64 → Option Int) (a b : Int) (f g : UInt64) : Option Int :=
both (
bo (
j3 a b f g)) [
j3 a b f g]
theorem Avq : @Aj4 = @Agr := by
  unfold Aj4 Agr
  repeat (refine funext fun _ => ?_)
  repeat' first
    | with_reducible rfl
    | with_reducible refine Ez ?_ ?_
    | with_reducible refine Et ?_ ?_ ?_
    | with_reducible refine Ex ?_ ?_ ?_ ?_
    | ((with_reducible refine Hz ?_ ?_); focus (intro h; first | (subst h; rfl) | (simp only [h]; rfl) | (simp [Cv, Ac, h]; done)))
    | with_reducible refine Il fun x => ?_
    | with_reducible refine Ms (fun _ => ?_) (fun _ => ?_)
    | (refine Cj (fun h => by simp only [h, Im, Bu, Bs, ite_self]) (fun x h => ?_); (try simp only [h, Bu]))
    | (refine Dd (fun h => ?_) (fun h => ?_) <;> simp only [h, if_true, if_false, Bool.false_eq_true])
abbrev R_ := Int
noncomputable def H : Hd := ⟨[.agg [Si, Si, Sq, Sq]], [Si], (.seq .d (.seq .d (.cut [1, 3] [] (.mode false) (.cut [1, 3] [] (.mode false) .d)))), ⟨[], gl, false⟩, [], f233⟩
def x4 (a b : Int) (f g : UInt64) : Option R_ := H.e P_ [r,r,r,r] ⟨[(1, .ptr 0 []), (3, .ptr 1 [])], [.box 258 (.agg [vi a, vi b, vq f, vq g]), .box 258 (.agg [vi (Hq (Ate a (0 : Int)) (24 : Int)), vi (Hq (Ate b (0 : Int)) (24 : Int)), vq (Hq f (68719476735 : UInt64)), vq (Hq g (68719476735 : UInt64))])], []⟩
def x3 (a b : Int) (f g : UInt64) : Option R_ := H.e P_ [r,r,r] ⟨[(1, .ptr 0 []), (3, .ptr 1 [])], [.box 258 (.agg [vi a, vi b, vq f, vq g]), .box 258 (.agg [vi (Hq (Ate a (0 : Int)) (24 : Int)), vi (Hq (Ate b (0 : Int)) (24 : Int)), vq f, vq g])], []⟩
theorem e4 : x4 = Amp := by kernel_rfl
theorem e3 : x3 = Anf := Eq.trans (b := Aj9 x4) (by kernel_rfl) (by rw [Av3]; simp only [e4] <;> rfl)
noncomputable def F := u4 Ap1
theorem rn x : H.u P_ x = F x := Eq.trans (b := u4 (Aj4 x3) x) (by kernel_rfl) (by unfold F; rw [Avq]; simp only [e3] <;> rfl)
noncomputable def c : Con := ⟨H.p, H.r, F⟩
theorem ok : ConOk P_ gl 233 c := co H func233 .nil rn
end F233
namespace F165
noncomputable def H : Hd := ⟨[.agg [Sb, Si], Si, Si], [Sq, Si], .d, ⟨[(207, F207.c), (208, F208.c)], gl, false⟩, [], f165⟩
noncomputable def F := u4 Adt
theorem rn x : H.u P_ x = F x := by kernel_rfl
noncomputable def c : Con := ⟨H.p, H.r, F⟩
theorem ok : ConOk P_ gl 165 c := co H func165 (.cons F207.ok (.cons F208.ok .nil)) rn
end F165
namespace F304
noncomputable def H : Hd := ⟨[Sq], [Si], .d, ⟨[], gl, false⟩, [], f304⟩
noncomputable def F := Fq
theorem rn x : H.u P_ x = F x := by kernel_rfl
noncomputable def c : Con := ⟨H.p, H.r, F⟩
theorem ok : ConOk P_ gl 304 c := co H func304 .nil rn
end F304
namespace F284
def Ak2 (j6 : Int → UInt64 → Int → LB → Int → Option (Int × Int × Int)) (g : LB) (b a : Int) : Option (Int × Int × Int) :=
(Va g b).bind fun m =>
if (Bn m 0) then
some (0, 0, m)
else
if (By a 0) then
some (0, 0, 2)
else
if (Qq a b) then
some (0, 0, 24)
else
(fun n : Option (Int × Int × Int) =>
(fun o : Option (Int × Int × Int) =>
bo2 (
o)) (
bo (
n))) (
(Adt g b a (Hq 48 (Al b a))).bind fun (k, h) =>
j6 h k a g b)
theorem Avt : @Ak2 = @Aa7 := by
  unfold Ak2 Aa7
  simp only [Afm, Ws, Vr]
abbrev R_ := (Int × Int × Int)
noncomputable def H : Hd := ⟨[.agg [Sb, Si], Si], [Si, Si, Si], (.seq .d (.seq .d (.seq .d (.seq .d (.seq .d (.cut [3, 5, 6, 8, 9] [] (.keep [2, 3, 5, 6, 8, 9, 22, 23, 24, 25, 26, 27, 28, 29] false) (.seq .d (.seq .d (.cut [] [] (.blk (.seq (.blk (.seq (.blk (.cut [] [] (.cut [3, 4, 5] [] (.cut [3, 4, 5, 36] [] (.keep [3, 4, 5, 8, 36, 37, 38, 39, 40] true) .d) .d) .d)) .d)) .d)) .d))))))))), ⟨[(165, F165.c), (207, F207.c), (304, F304.c)], gl, false⟩, [(303, .d)], f284⟩
def x10 : Option R_ := H.e P_ [r,r,r,r,r,r,r,r,r] ⟨[], [], []⟩
def x9 : Option R_ := H.e P_ [r,r,r,r,r,r,r,r,l,d,l,d,l,d,r] ⟨[], [], []⟩
def x8 (f a : Int) : Option R_ := H.e P_ [r,r,r,r,r,r,r,r,l,d,l,d,l,d,l,r] ⟨[(3, .ptr 0 []), (4, vi f), (5, vi 0)], [.box 3 (vi a)], []⟩
def x7 (f b a : Int) : Option R_ := H.e P_ [r,r,r,r,r,r,r,r,l,d,l,d,l,d,l,l,r] ⟨[(3, .ptr 0 []), (4, vi f), (5, vi 0), (36, vt (By f (Hq (48 : Int) (Al b a))))], [.box 3 (vi a)], []⟩
def x6 (h : Int) (k : UInt64) (a : Int) (g : LB) (b : Int) : Option R_ := H.e P_ [r,r,r,r,r,r] ⟨[(3, .ptr 0 []), (5, vi 0), (6, vi h), (8, .fn 303 [.ptr 1 [], .ptr 0 []]), (9, vq k)], [.box 3 (vi a), .box 224 (.agg [vb g, vi b])], []⟩
theorem e10 : x10 = Ar4 := by kernel_rfl
theorem e9 : x9 = Atu := Eq.trans (b := Aty x10) (by kernel_rfl) (by simp only [e10] <;> rfl)
theorem e8 : x8 = Am2 := Eq.trans (b := Am7 x9) (by kernel_rfl) (by simp only [e9] <;> rfl)
theorem e7 : x7 = Amr := Eq.trans (b := Amo x8) (by kernel_rfl) (by simp only [e8] <;> rfl)
theorem e6 : x6 = Aml := Eq.trans (b := Amk x7) (by kernel_rfl) (by simp only [e7] <;> rfl)
noncomputable def F := u3 Afx
theorem rn x : H.u P_ x = F x := Eq.trans (b := u3 (Ak2 x6) x) (by kernel_rfl) (by unfold F; rw [Avt]; simp only [e6] <;> rfl)
noncomputable def c : Con := ⟨H.p, H.r, F⟩
theorem ok : ConOk P_ gl 284 c := cr H func284 (.cons F165.ok (.cons F207.ok (.cons F304.ok .nil))) (AnsOk.cons ent303 AnsOk.nil) rn
end F284
namespace F278
noncomputable def H : Hd := ⟨[Su, Si], [Sz], .d, ⟨[], gl, false⟩, [], f278⟩
noncomputable def F := u2 Apd
theorem rn x : H.u P_ x = F x := by kernel_rfl
noncomputable def c : Con := ⟨H.p, H.r, F⟩
theorem ok : ConOk P_ gl 278 c := co H func278 .nil rn
end F278
namespace F249
abbrev R_ := (UInt32 × Int × Int)
noncomputable def H : Hd := ⟨[.agg [Sb, Si], Si, Si], [Su, Si, Si], (.seq .d (.seq .d (.seq .d (.seq .d (.seq .d (.seq .d (.cut [2, 3, 7, 10, 11] [] .d .d))))))), ⟨[(165, F165.c), (207, F207.c), (278, F278.c), (284, F284.c)], gl, false⟩, [], f249⟩
def x2 (a b f : Int) (g : LB) (h k : Int) : Option R_ := H.e P_ [r,r,r,r,r,r,r] ⟨[(2, vi a), (3, .ptr 0 []), (7, vi b), (10, vi f), (11, vi k)], [.box 224 (.agg [vb g, vi h])], []⟩
theorem e2 : x2 = Aji := by kernel_rfl
noncomputable def F := u4 Aso
theorem rn x : H.u P_ x = F x := Eq.trans (b := u4 (Apq x2) x) (by kernel_rfl) (by simp only [e2] <;> rfl)
noncomputable def c : Con := ⟨H.p, H.r, F⟩
theorem ok : ConOk P_ gl 249 c := co H func249 (.cons F165.ok (.cons F207.ok (.cons F278.ok (.cons F284.ok .nil)))) rn
end F249
namespace F234
noncomputable def H : Hd := ⟨[.agg [Si, Si, Sq, Sq], Su], [Si, Su], .d, ⟨[], gl, false⟩, [], f234⟩
noncomputable def F := u5 Aow
theorem rn x : H.u P_ x = F x := by kernel_rfl
noncomputable def c : Con := ⟨H.p, H.r, F⟩
theorem ok : ConOk P_ gl 234 c := co H func234 .nil rn
end F234
namespace F206
abbrev R_ := (UInt32 × Int × Int × Int × UInt64 × UInt64 × Int)
noncomputable def H : Hd := ⟨[.agg [Sb, Si], Si, .agg [Si, Si, Sq, Sq]], [Su, Si, .agg [Si, Si, Sq, Sq], Si], (.seq .d (.cut [1, 3, 5, 8] [] .d (.seq .d (.seq .d (.cut [5, 6, 7, 8] [] .d (.cut [5, 6, 7, 8] [] (.keep [5, 6, 7, 8, 81] true) .d)))))), ⟨[(165, F165.c), (207, F207.c), (233, F233.c), (234, F234.c), (249, F249.c)], gl, false⟩, [(237, (.seq .d (.seq .d (.seq .d (.blk (.cut [0, 1, 4] [] (.blk (.seq .d (.keep [0, 1, 4, 6, 18, 19, 20, 21, 22, 23, 24, 25] true))) (.cut [] [] (.keep [0, 1, 4, 27, 28, 29, 30, 31, 32, 33, 34] true) .d))))))), (280, .d)], f206⟩
def x10 (f : UInt32) (k w m : Int) (a n : UInt64) : Option R_ := H.e P_ [r,r,r,r,r,r] ⟨[(5, .ptr 0 []), (6, vu f), (7, vi k), (8, .ptr 1 [])], [.box 258 (.agg [vi w, vi m, vq (Ae a (Al (Ad f : UInt64) (Ci a (GI.toZ (4 : UInt64)).toNat))), vq n]), .box 258 (.agg [vi 0, vi 0, vq 0, vq 0])], []⟩
def x9 (f : UInt32) (k m : Int) (a n : UInt64) (w : Int) : Option R_ := H.e P_ [r,r,r,r,r,l,(call 1 237),r,r,r,d,r,r] ⟨[], [.box 258 (.agg [vi w, vi m, vq (Ae a (Al (Ad f : UInt64) (Ci a (GI.toZ (4 : UInt64)).toNat))), vq n]), .box 258 (.agg [vi 0, vi 0, vq 0, vq 0])], [[(5, .ptr 0 []), (6, vu f), (7, vi k), (8, .ptr 1 []), (81, vu f)]]⟩
def x8 (f : UInt32) (k b : Int) (a : UInt64) (m : Int) (n : UInt64) : Option R_ := H.e P_ [r,r,r,r,r,l,(call 1 237),r,r,r,d,r] ⟨[(0, .ptr 0 []), (1, vu f), (4, .fn 280 [])], [.box 258 (.agg [vi b, vi m, vq a, vq n]), .box 258 (.agg [vi 0, vi 0, vq 0, vq 0])], [[(5, .ptr 0 []), (6, vu f), (7, vi k), (8, .ptr 1 []), (81, vu f)]]⟩
def x7 (b h : Int) (a g : UInt64) (f : UInt32) (k : Int) : Option R_ := H.e P_ [r,r,r,r,r] ⟨[(5, .ptr 0 []), (6, vu f), (7, vi k), (8, .ptr 1 [])], [.box 258 (.agg [vi b, vi h, vq a, vq g]), .box 258 (.agg [vi 0, vi 0, vq 0, vq 0])], []⟩
def x6 (p : Int) (u : LB) (v b h : Int) (a g : UInt64) : Option R_ := H.e P_ [r,r] ⟨[(1, vi p), (3, .ptr 0 []), (5, .ptr 1 []), (8, .ptr 2 [])], [.box 224 (.agg [vb u, vi v]), .box 258 (.agg [vi b, vi h, vq a, vq g]), .box 258 (.agg [vi 0, vi 0, vq 0, vq 0])], []⟩
theorem e10 : x10 = Am0 := by kernel_rfl
theorem e9 : x9 = Apm := Eq.trans (b := Apt x10) (by kernel_rfl) (by simp only [e10] <;> rfl)
theorem e8 : x8 = Adi := Eq.trans (b := Ao8 x9) (by kernel_rfl) (by simp only [e9] <;> rfl)
theorem e7 : x7 = Ajr := Eq.trans (b := Apa x8) (by kernel_rfl) (by simp only [e8] <;> rfl)
theorem e6 : x6 = Apz := Eq.trans (b := Apb x7) (by kernel_rfl) (by simp only [e7] <;> rfl)
noncomputable def F := u7 Af9
theorem rn x : H.u P_ x = F x := Eq.trans (b := u7 (Aon x6) x) (by kernel_rfl) (by simp only [e6] <;> rfl)
noncomputable def c : Con := ⟨H.p, H.r, F⟩
theorem ok : ConOk P_ gl 206 c := cr H func206 (.cons F165.ok (.cons F207.ok (.cons F233.ok (.cons F234.ok (.cons F249.ok .nil))))) (AnsOk.cons ent237 (AnsOk.cons ent280 AnsOk.nil)) rn
end F206
namespace F164
def Aaz (j21 : Int → Int → Int → UInt32 → Int → (List (Int × Int × UInt64 × UInt64 × Unit)) → LU → Int → Int → UInt64 → UInt64 → Option (LU × Int × Int)) (j24 : Int → LU → Option (LU × Int × Int)) (a f : Int) (g : LB) (b k h : Int) (n : List (Int × Int × UInt64 × UInt64 × Unit)) (m : LU) : Option (LU × Int × Int) :=
if (By h (Bq f a)) then
(Arx g b k (Hq (Ae k 81) b)).bind fun (ah, ae, af) =>
if (Bn af 0) then
some (([] : LU), 0, af)
else
(Vf (Bn a 0)).bind fun _ =>
(Ak n (Ig h a)).bind fun _ =>
(fun ai : Option (LU × Int × Int) =>
both (
both (
(Ak n (Ig h a)).bind fun p =>
(fun ao : Option (LU × Int × Int) =>
bo (
ao)) (
(Af9 ah ae 0 p.1 p.2.1 p.2.2.1 p.2.2.2.1).bind fun (w, v, aa, ab, ac, ad, y) =>
j21 k h y w v n m aa ab ac ad)) [
ai]) [
(Ak n (Ig h a)).bind fun p =>
(fun aj : Option (LU × Int × Int) =>
both (
bo (
aj)) [
aj]) (
(Af9 ah ae 0 p.1 p.2.1 p.2.2.1 p.2.2.2.1).bind fun (w, v, aa, ab, ac, ad, y) =>
j21 k h y w v n m aa ab ac ad),
bo (
ai)]) (
(Ak n (Ig h a)).bind fun p =>
(Af9 ah ae 0 p.1 p.2.1 p.2.2.1 p.2.2.2.1).bind fun (w, v, aa, ab, ac, ad, y) =>
j21 k h y w v n m aa ab ac ad)
else
j24 k m
theorem Aor : @Aaz = @Ua := by
  unfold Aaz Ua
  try simp only [Afm, Ws, Vr]
  all_goals
    repeat (refine funext fun _ => ?_)
    repeat' first
      | with_reducible rfl
      | with_reducible refine Ez ?_ ?_
      | with_reducible refine Et ?_ ?_ ?_
      | with_reducible refine Ex ?_ ?_ ?_ ?_
      | ((with_reducible refine Hz ?_ ?_); focus (intro h; first | (subst h; rfl) | (simp only [h]; rfl) | (simp [Cv, Ac, h]; done)))
      | with_reducible refine Il fun x => ?_
      | with_reducible refine Ms (fun _ => ?_) (fun _ => ?_)
      | (refine Cj (fun h => by simp only [h, Im, Bu, Bs, ite_self]) (fun x h => ?_); (try simp only [h, Bu]))
      | (refine Dd (fun h => ?_) (fun h => ?_) <;> simp only [h, if_true, if_false, Bool.false_eq_true])
abbrev R_ := (LU × Int × Int)
abbrev K_ := S → Option R_
noncomputable def H : Hd := ⟨[Si, Si, .agg [Sb, Si]], [Ov 23, Si, Si], (.seq .d (.seq .d (.cut [0, 1, 5, 9] [] (.seq .d (.blk (.loop [0, 1, 5, 9, 19] [] .d))) (.seq .d (.seq .d (.cut [11, 12] [] (.seq .d (.blk (.loop [0, 5, 9, 11, 12, 28, 29] [⟨11, [], .own 23 (.int .u32)⟩] (.seq .d (.seq .d (.seq (.blk (.seq .d (.seq .d (.seq .d (.cut [0, 5, 9, 11, 12, 13, 15, 16, 17, 18, 28, 29] [] (.mode false) (.seq .d (.cut [0, 5, 9, 11, 12, 16, 28, 29] [] .d .d))))))) .d)))))) .d)))))), ⟨[(204, F204.c), (205, F205.c), (206, F206.c)], gl, false⟩, [], f164⟩
def t16 (a f : Int) (g : LB) (b k h : Int) (n : List (Int × Int × UInt64 × UInt64 × Unit)) (m : LU) : S := ⟨[(0, vi a), (5, .ptr 0 []), (9, .ptr 1 []), (11, .own 2), (12, vi k), (28, vi (Bq f a)), (29, vi h)], [.box 224 (.agg [vb g, vi b]), .box 259 (.val (.vec 6 (.cons (.int .i64) (.cons (.int .i64) (.cons (.int .u64) (.cons (.int .u64) .nil))))) n), Av 23 m], []⟩
def z16 : Nat → S → Option R_ := H.i P_ [r,r,r,r,r,l,r,d]
def t13 (a f : Int) (g : LB) (b u : Int) (o : List (Int × Int × UInt64 × UInt64 × Unit)) : S := ⟨[(0, vi a), (1, vi f), (5, .ptr 0 []), (9, .ptr 1 []), (19, vi u)], [.box 224 (.agg [vb g, vi b]), .box 259 (.val (.vec 6 (.cons (.int .i64) (.cons (.int .i64) (.cons (.int .u64) (.cons (.int .u64) .nil))))) o)], []⟩
def z13 : Nat → S → Option R_ := H.i P_ [r,r,l,r,d]
def x24 (k : Int) (m : LU) : Option R_ := H.e P_ [r,r,r,r,r,r] ⟨[(11, .own 0), (12, vi k)], [Av 23 m], []⟩
def x22 (kn16 : K_) (a f : Int) (g : LB) (b k v : Int) (w : UInt32) (h : Int) (ag : List (Int × Int × UInt64 × UInt64 × Unit)) (m : LU) : Option R_ := H.e P_ [r,r,r,r,r,l,r,d,(lp kn16),r,r,l,d,r,r,r,r,r,r] ⟨[(0, vi a), (5, .ptr 0 []), (9, .ptr 1 []), (11, .own 2), (12, vi (Ae k v)), (16, vu w), (28, vi (Bq f a)), (29, vi h)], [.box 224 (.agg [vb g, vi b]), .box 259 (.val (.vec 6 (.cons (.int .i64) (.cons (.int .i64) (.cons (.int .u64) (.cons (.int .u64) .nil))))) ag), Av 23 m], []⟩
def x21 (kn16 : K_) (a f : Int) (g : LB) (b k h y : Int) (w : UInt32) (v : Int) (n : List (Int × Int × UInt64 × UInt64 × Unit)) (m : LU) (aa ab : Int) (ac ad : UInt64) : Option R_ := H.e P_ [r,r,r,r,r,l,r,d,(lp kn16),r,r,l,d,r,r,r,r] ⟨[(0, vi a), (5, .ptr 0 []), (9, .ptr 1 []), (11, .own 2), (12, vi k), (13, vi h), (15, vi y), (16, vu w), (17, vi v), (18, .ptr 3 []), (28, vi (Bq f a)), (29, vi h)], [.box 224 (.agg [vb g, vi b]), .box 259 (.val (.vec 6 (.cons (.int .i64) (.cons (.int .i64) (.cons (.int .u64) (.cons (.int .u64) .nil))))) n), Av 23 m, .box 258 (.agg [vi aa, vi ab, vq ac, vq ad])], []⟩
def x16 (a f : Int) (g : LB) (b k h : Int) (n : List (Int × Int × UInt64 × UInt64 × Unit)) (m : LU) : Option R_ := H.e P_ [r,r,r,r,r,l,r,d] (t16 a f g b k h n m)
def x15 (a f : Int) (g : LB) (b : Int) (o : List (Int × Int × UInt64 × UInt64 × Unit)) : Option R_ := H.e P_ [r,r,r] ⟨[(0, vi a), (1, vi f), (5, .ptr 0 []), (9, .ptr 1 [])], [.box 224 (.agg [vb g, vi b]), .box 259 (.val (.vec 6 (.cons (.int .i64) (.cons (.int .i64) (.cons (.int .u64) (.cons (.int .u64) .nil))))) o)], []⟩
def x13 (a f : Int) (g : LB) (b u : Int) (o : List (Int × Int × UInt64 × UInt64 × Unit)) : Option R_ := H.e P_ [r,r,l,r,d] (t13 a f g b u o)
theorem e24 : x24 = Akt := by kernel_rfl
theorem e22 (kn16 : K_) (a f : Int) (g : LB) (b : Int) : x22 kn16 a f g b = Ab6 (fun k h n m => kn16 (t16 a f g b k h n m)) a f g b := by kernel_rfl
theorem e21 (kn16 : K_) (a f : Int) (g : LB) (b : Int) : x21 kn16 a f g b = Uh (fun k h n m => kn16 (t16 a f g b k h n m)) a f g b := Eq.trans (b := Tv (x22 kn16 a f g b) a f g b) (by kernel_rfl) (by simp only [e22] <;> rfl)
theorem i16 (a f : Int) (g : LB) (b : Int) : ∀ (q : Nat) (k h : Int) (n : List (Int × Int × UInt64 × UInt64 × Unit)) (m : LU), z16 q (t16 a f g b k h n m) = My a f g b q k h n m :=
 ind (fun _ _ _ _ => by kernel_rfl) fun q ih k h n m => Eq.trans (b := Aaz (x21 (z16 q) a f g b) x24 a f g b k h n m) (by kernel_rfl) (by rw [Aor]; simp only [e21, e24, ih] <;> rfl)
theorem e16 : x16 = Alb := by funext a f g b k h n m; exact Eq.trans (by kernel_rfl) ((i16 a f g b Bm k h n m).trans (by rw [Aj]; rfl))
theorem e15 : x15 = Ab5 := Eq.trans (b := Ak0 x16) (by kernel_rfl) (by simp only [e16] <;> rfl)
theorem i13 (a f : Int) (g : LB) (b : Int) : ∀ (q : Nat) (u : Int) (o : List (Int × Int × UInt64 × UInt64 × Unit)), z13 q (t13 a f g b u o) = Abr a f g b q u o :=
 ind (fun _ _ => by kernel_rfl) fun q ih u o => Eq.trans (b := Akg x15 (fun u o => (z13 q) (t13 a f g b u o)) a f g b u o) (by kernel_rfl) (by simp only [e15, ih] <;> rfl)
theorem e13 : x13 = Uf := by funext a f g b u o; exact Eq.trans (by kernel_rfl) ((i13 a f g b Bm u o).trans (by rw [Aj]; rfl))
noncomputable def F := u4 Ad8
theorem rn x : H.u P_ x = F x := Eq.trans (b := u4 (Ads x13) x) (by kernel_rfl) (by simp only [e13] <;> rfl)
noncomputable def c : Con := ⟨H.p, H.r, F⟩
theorem ok : ConOk P_ gl 164 c := co H func164 (.cons F204.ok (.cons F205.ok (.cons F206.ok .nil))) rn
end F164
namespace F250
abbrev R_ := (Int × LX × LX × Int)
noncomputable def H : Hd := ⟨[Si, .lf (.vec 16 (.int .i32)) none], [.agg [Si, .lf (.vec 16 (.int .i32)) none, .lf (.vec 16 (.int .i32)) none], Si], (.seq .d (.seq .d (.seq (.seq .d (.blk (.cut [4, 6, 9, 11] [] .d .d))) .d))), ⟨[], gl, false⟩, [], f250⟩
def x2 (a : Int) (b : LX) (f : Bool) : Option R_ := H.e P_ [r,r,l,r,d,r] ⟨[(4, .ptr 0 []), (6, .ptr 1 []), (9, vi a), (11, vt f)], [.box 281 (.agg [vi 0, .val (.vec 16 (.int .i32)) (List.replicate 16 (0 : Int32)), .val (.vec 16 (.int .i32)) (List.replicate 16 (0 : Int32))]), .box 281 (.agg [vi 10, .val (.vec 16 (.int .i32)) b, .val (.vec 16 (.int .i32)) (List.replicate 16 (0 : Int32))])], []⟩
theorem e2 : x2 = Ax2 := by kernel_rfl
noncomputable def F := u2 Au5
theorem rn x : H.u P_ x = F x := Eq.trans (b := u2 (Axk x2) x) (by kernel_rfl) (by simp only [e2] <;> rfl)
noncomputable def c : Con := ⟨H.p, H.r, F⟩
theorem ok : ConOk P_ gl 250 c := co H func250 .nil rn
end F250
namespace F209
noncomputable def H : Hd := ⟨[Si, .lf (.vec 16 (.int .i32)) none], [.agg [Si, Sx, .agg [Si, .lf (.vec 16 (.int .i32)) none, .lf (.vec 16 (.int .i32)) none]], Si], .d, ⟨[(250, F250.c)], gl, false⟩, [], f209⟩
noncomputable def F := u2 Bdv
theorem rn x : H.u P_ x = F x := by kernel_rfl
noncomputable def c : Con := ⟨H.p, H.r, F⟩
theorem ok : ConOk P_ gl 209 c := co H func209 (.cons F250.ok .nil) rn
end F209
namespace F211
noncomputable def H : Hd := ⟨[Su], [Sx], .d, ⟨[], gl, false⟩, [], f211⟩
noncomputable def F := Zo
theorem rn x : H.u P_ x = F x := by kernel_rfl
noncomputable def c : Con := ⟨H.p, H.r, F⟩
theorem ok : ConOk P_ gl 211 c := co H func211 .nil rn
end F211
namespace F251
noncomputable def H : Hd := ⟨[.agg [Si, Sx, .agg [Si, .lf (.vec 16 (.int .i32)) none, .lf (.vec 16 (.int .i32)) none]]], [Si], .d, ⟨[(250, F250.c)], gl, false⟩, [], f251⟩
noncomputable def F := u5 Ahy
theorem rn x : H.u P_ x = F x := by kernel_rfl
noncomputable def c : Con := ⟨H.p, H.r, F⟩
theorem ok : ConOk P_ gl 251 c := co H func251 (.cons F250.ok .nil) rn
end F251
namespace F285
noncomputable def H : Hd := ⟨[Si], [Si, Si], .d, ⟨[], gl, false⟩, [], f285⟩
noncomputable def F := Ar3
theorem rn x : H.u P_ x = F x := by kernel_rfl
noncomputable def c : Con := ⟨H.p, H.r, F⟩
theorem ok : ConOk P_ gl 285 c := co H func285 .nil rn
end F285
namespace F286
noncomputable def H : Hd := ⟨[Si, Sx], [Sx], .d, ⟨[], gl, false⟩, [], f286⟩
noncomputable def F := u2 Al7
theorem rn x : H.u P_ x = F x := by kernel_rfl
noncomputable def c : Con := ⟨H.p, H.r, F⟩
theorem ok : ConOk P_ gl 286 c := co H func286 .nil rn
end F286
namespace F252
noncomputable def H : Hd := ⟨[Si, Sx], [Sx, Si], .d, ⟨[(285, F285.c), (286, F286.c)], gl, false⟩, [], f252⟩
noncomputable def F := u2 Ahb
theorem rn x : H.u P_ x = F x := by kernel_rfl
noncomputable def c : Con := ⟨H.p, H.r, F⟩
theorem ok : ConOk P_ gl 252 c := co H func252 (.cons F285.ok (.cons F286.ok .nil)) rn
end F252
namespace F305
noncomputable def H : Hd := ⟨[.agg [Si, .lf (.vec 16 (.int .i32)) none, .lf (.vec 16 (.int .i32)) none]], [Si], .d, ⟨[], gl, false⟩, [], f305⟩
noncomputable def F := u3 Agk
theorem rn x : H.u P_ x = F x := by kernel_rfl
noncomputable def c : Con := ⟨H.p, H.r, F⟩
theorem ok : ConOk P_ gl 305 c := co H func305 .nil rn
end F305
namespace F287
abbrev R_ := (Int32 × Int)
noncomputable def H : Hd := ⟨[.agg [Si, .lf (.vec 16 (.int .i32)) none, .lf (.vec 16 (.int .i32)) none]], [Sx, Si], (.seq .d (.seq .d (.seq .d (.cut [1, 5] [] (.seq .d (.blk (.loop [1, 5, 18, 19] [] .d))) .d)))), ⟨[(305, F305.c)], gl, false⟩, [], f287⟩
def t4 (b : LX) (a : Int) (f : LX) (g : Int32) (h : Int) : S := ⟨[(1, .ptr 0 []), (5, vx g), (18, .val (.vec 16 (.int .i32)) b), (19, vi h)], [.box 281 (.agg [vi a, .val (.vec 16 (.int .i32)) b, .val (.vec 16 (.int .i32)) f])], []⟩
def z4 : Nat → S → Option R_ := H.i P_ [r,r,r,l,r,d]
def x6 (g : Int32) (a : Int) (b f : LX) : Option R_ := H.e P_ [r,r,r,r] ⟨[(1, .ptr 0 []), (5, vx g)], [.box 281 (.agg [vi a, .val (.vec 16 (.int .i32)) b, .val (.vec 16 (.int .i32)) f])], []⟩
def x4 (b : LX) (a : Int) (f : LX) (g : Int32) (h : Int) : Option R_ := H.e P_ [r,r,r,l,r,d] (t4 b a f g h)
theorem e6 : x6 = Ana := by kernel_rfl
theorem i4 (b : LX) (a : Int) (f : LX) : ∀ (q : Nat) (g : Int32) (h : Int), z4 q (t4 b a f g h) = Vj b a f q g h :=
 ind (fun _ _ => by kernel_rfl) fun q ih g h => Eq.trans (b := Agz x6 (fun g h => (z4 q) (t4 b a f g h)) b a f g h) (by kernel_rfl) (by simp only [e6, ih] <;> rfl)
theorem e4 : x4 = Am3 := by funext b a f g h; exact Eq.trans (by kernel_rfl) ((i4 b a f Bm g h).trans (by rw [Aj]; rfl))
noncomputable def F := u3 Ap4
theorem rn x : H.u P_ x = F x := Eq.trans (b := u3 (Am4 x4) x) (by kernel_rfl) (by simp only [e4] <;> rfl)
noncomputable def c : Con := ⟨H.p, H.r, F⟩
theorem ok : ConOk P_ gl 287 c := co H func287 (.cons F305.ok .nil) rn
end F287
namespace F319
noncomputable def H : Hd := ⟨[Si], [Sx], .d, ⟨[], gl, false⟩, [], f319⟩
noncomputable def F := Aol
theorem rn x : H.u P_ x = F x := by kernel_rfl
noncomputable def c : Con := ⟨H.p, H.r, F⟩
theorem ok : ConOk P_ gl 319 c := co H func319 .nil rn
end F319
namespace F306
abbrev R_ := (Int × LX × LX × Int)
noncomputable def H : Hd := ⟨[.agg [Si, .lf (.vec 16 (.int .i32)) none, .lf (.vec 16 (.int .i32)) none], Sx], [.agg [Si, .lf (.vec 16 (.int .i32)) none, .lf (.vec 16 (.int .i32)) none], Si], (.seq .d (.seq .d (.seq .d (.cut [2, 4] [] (.seq .d (.blk (.loop [1, 2, 4, 19, 20] [] .d))) .d)))), ⟨[(305, F305.c), (319, F319.c)], gl, false⟩, [], f306⟩
def t4 (h : Int32) (f : LX) (g a : Int) (b : LX) : S := ⟨[(1, vx h), (2, .ptr 0 []), (4, .ptr 1 []), (19, .val (.vec 16 (.int .i32)) f), (20, vi a)], [.box 281 (.agg [vi g, .val (.vec 16 (.int .i32)) b, .val (.vec 16 (.int .i32)) f]), .box 281 (.agg [vi 0, .val (.vec 16 (.int .i32)) (List.replicate 16 (0 : Int32)), .val (.vec 16 (.int .i32)) (List.replicate 16 (0 : Int32))])], []⟩
def z4 : Nat → S → Option R_ := H.i P_ [r,r,r,l,r,d]
def x6 (g : Int) (b f : LX) : Option R_ := H.e P_ [r,r,r,r] ⟨[(2, .ptr 0 []), (4, .ptr 1 [])], [.box 281 (.agg [vi g, .val (.vec 16 (.int .i32)) b, .val (.vec 16 (.int .i32)) f]), .box 281 (.agg [vi 0, .val (.vec 16 (.int .i32)) (List.replicate 16 (0 : Int32)), .val (.vec 16 (.int .i32)) (List.replicate 16 (0 : Int32))])], []⟩
def x4 (h : Int32) (f : LX) (g a : Int) (b : LX) : Option R_ := H.e P_ [r,r,r,l,r,d] (t4 h f g a b)
theorem e6 : x6 = At0 := by kernel_rfl
theorem i4 (h : Int32) (f : LX) (g : Int) : ∀ (q : Nat) (a : Int) (b : LX), z4 q (t4 h f g a b) = Vl h f g q a b :=
 ind (fun _ _ => by kernel_rfl) fun q ih a b => Eq.trans (b := Agq x6 (fun a b => (z4 q) (t4 h f g a b)) h f g a b) (by kernel_rfl) (by simp only [e6, ih] <;> rfl)
theorem e4 : x4 = Ato := by funext h f g a b; exact Eq.trans (by kernel_rfl) ((i4 h f g Bm a b).trans (by rw [Aj]; rfl))
noncomputable def F := u4 Aoy
theorem rn x : H.u P_ x = F x := Eq.trans (b := u4 (Amx x4) x) (by kernel_rfl) (by simp only [e4] <;> rfl)
noncomputable def c : Con := ⟨H.p, H.r, F⟩
theorem ok : ConOk P_ gl 306 c := co H func306 (.cons F305.ok (.cons F319.ok .nil)) rn
end F306
namespace F307
def Am8 (j2 : Int32 → Int → LX → LX → Option (Int × LX × LX × Int)) (b : Int) (f a : LX) (g : Int32) : Option (Int × LX × LX × Int) :=
(Agk b f a).bind fun h =>
if (Bn h 0) then
some (0, (List.replicate 16 (0 : Int32)), (List.replicate 16 (0 : Int32)), h)
else
both (
(vwI 16 1 16).bind fun _ =>
(vwI 16 0 16).bind fun _ =>
j2 g b f a) [
(vwI 16 0 16).bind fun _ =>
(vwI 16 1 16).bind fun _ =>
j2 g b f a]
theorem Awt : @Am8 = @Ajg := by
  unfold Am8 Ajg
  repeat (refine funext fun _ => ?_)
  repeat' first
    | with_reducible rfl
    | with_reducible refine Ez ?_ ?_
    | with_reducible refine Et ?_ ?_ ?_
    | with_reducible refine Ex ?_ ?_ ?_ ?_
    | ((with_reducible refine Hz ?_ ?_); focus (intro h; first | (subst h; rfl) | (simp only [h]; rfl) | (simp [Cv, Ac, h]; done)))
    | with_reducible refine Il fun x => ?_
    | with_reducible refine Ms (fun _ => ?_) (fun _ => ?_)
    | (refine Cj (fun h => by simp only [h, Im, Bu, Bs, ite_self]) (fun x h => ?_); (try simp only [h, Bu]))
    | (refine Dd (fun h => ?_) (fun h => ?_) <;> simp only [h, if_true, if_false, Bool.false_eq_true])
abbrev R_ := (Int × LX × LX × Int)
noncomputable def H : Hd := ⟨[.agg [Si, .lf (.vec 16 (.int .i32)) none, .lf (.vec 16 (.int .i32)) none], Sx], [.agg [Si, .lf (.vec 16 (.int .i32)) none, .lf (.vec 16 (.int .i32)) none], Si], (.seq .d (.seq .d (.cut [1, 2, 4] [] .d .d))), ⟨[(305, F305.c)], gl, false⟩, [], f307⟩
def x2 (g : Int32) (b : Int) (f a : LX) : Option R_ := H.e P_ [r,r,r] ⟨[(1, vx g), (2, .ptr 0 []), (4, .ptr 1 [])], [.box 281 (.agg [vi b, .val (.vec 16 (.int .i32)) f, .val (.vec 16 (.int .i32)) (Wl a (1 : Int) ((16 : Int) - (1 : Int)) (Anz a (0 : Int) ((16 : Int) - (0 : Int))))]), .box 281 (.agg [vi 0, .val (.vec 16 (.int .i32)) (List.replicate 16 (0 : Int32)), .val (.vec 16 (.int .i32)) (List.replicate 16 (0 : Int32))])], []⟩
theorem e2 : x2 = Ao5 := by kernel_rfl
noncomputable def F := u4 As1
theorem rn x : H.u P_ x = F x := Eq.trans (b := u4 (Am8 x2) x) (by kernel_rfl) (by unfold F; rw [Awt]; simp only [e2] <;> rfl)
noncomputable def c : Con := ⟨H.p, H.r, F⟩
theorem ok : ConOk P_ gl 307 c := co H func307 (.cons F305.ok .nil) rn
end F307
namespace F288
noncomputable def H : Hd := ⟨[.agg [Si, .lf (.vec 16 (.int .i32)) none, .lf (.vec 16 (.int .i32)) none], Sx, Sx], [.agg [Si, .lf (.vec 16 (.int .i32)) none, .lf (.vec 16 (.int .i32)) none]], .d, ⟨[(306, F306.c), (307, F307.c)], gl, false⟩, [], f288⟩
noncomputable def F := u5 Auz
theorem rn x : H.u P_ x = F x := by kernel_rfl
noncomputable def c : Con := ⟨H.p, H.r, F⟩
theorem ok : ConOk P_ gl 288 c := co H func288 (.cons F306.ok (.cons F307.ok .nil)) rn
end F288
namespace F253
noncomputable def H : Hd := ⟨[.agg [Si, .lf (.vec 16 (.int .i32)) none, .lf (.vec 16 (.int .i32)) none], Sx], [Sx, .agg [Si, .lf (.vec 16 (.int .i32)) none, .lf (.vec 16 (.int .i32)) none], Si], .d, ⟨[(287, F287.c), (288, F288.c)], gl, false⟩, [], f253⟩
noncomputable def F := u4 Asn
theorem rn x : H.u P_ x = F x := by kernel_rfl
noncomputable def c : Con := ⟨H.p, H.r, F⟩
theorem ok : ConOk P_ gl 253 c := co H func253 (.cons F287.ok (.cons F288.ok .nil)) rn
end F253
namespace F210
def Ali (a : Int) (b : Int32) (f : Int) (g h : LX) (o : Int32) : Option (Int32 × Int × Int32 × Int × LX × LX × Int) :=
(Ahy a b f g h).bind fun k =>
if (Bn k 0) then
some (0, 0, 0, 0, (List.replicate 16 (0 : Int32)), (List.replicate 16 (0 : Int32)), k)
else
(Ahb a b).bind fun (m, y) =>
(Asn f g h o).bind fun (n, p, u, v, w) =>
(fun aa : Option (Int32 × Int × Int32 × Int × LX × LX × Int) =>
bo (
aa)) (
some ((Ae n m), a, (Ae n m), p, u, v, w))
theorem Awf : @Ali = @Lc := by
  unfold Ali Lc
  simp only [Afm, Ws, Vr]
noncomputable def H : Hd := ⟨[.agg [Si, Sx, .agg [Si, .lf (.vec 16 (.int .i32)) none, .lf (.vec 16 (.int .i32)) none]], Sx], [Sx, .agg [Si, Sx, .agg [Si, .lf (.vec 16 (.int .i32)) none, .lf (.vec 16 (.int .i32)) none]], Si], (.seq .d (.seq .d (.seq .d (.seq .d (.seq (.mode false) .d))))), ⟨[(251, F251.c), (252, F252.c), (253, F253.c)], gl, false⟩, [], f210⟩
noncomputable def F := u6 Lc
theorem rn x : H.u P_ x = F x := Eq.trans (b := u6 Ali x) (by kernel_rfl) (by rw [Awf]; rfl)
noncomputable def c : Con := ⟨H.p, H.r, F⟩
theorem ok : ConOk P_ gl 210 c := co H func210 (.cons F251.ok (.cons F252.ok (.cons F253.ok .nil))) rn
end F210
namespace F254
noncomputable def H : Hd := ⟨[Si, Sw], [Si], .d, ⟨[], gl, false⟩, [], f254⟩
noncomputable def F := u2 As9
theorem rn x : H.u P_ x = F x := by kernel_rfl
noncomputable def c : Con := ⟨H.p, H.r, F⟩
theorem ok : ConOk P_ gl 254 c := co H func254 .nil rn
end F254
namespace F156
def Ld (a : LX) : Option (LX) :=
Bbl a (
some ([] : LX)) (
(Cv ([] : LX) a).bind fun b =>
some b)
theorem Ae3 : @Ld = @Gq := by
  unfold Ld Gq
  repeat (refine funext fun _ => ?_)
  repeat' first
    | with_reducible rfl
    | with_reducible refine Ez ?_ ?_
    | with_reducible refine Et ?_ ?_ ?_
    | with_reducible refine Ex ?_ ?_ ?_ ?_
    | ((with_reducible refine Hz ?_ ?_); focus (intro h; first | (subst h; rfl) | (simp only [h]; rfl) | (simp [Cv, Ac, h]; done)))
    | with_reducible refine Il fun x => ?_
    | with_reducible refine Ms (fun _ => ?_) (fun _ => ?_)
    | (refine Cj (fun h => by simp only [h, Im, Bu, Bs, ite_self]) (fun x h => ?_); (try simp only [h, Bu]))
    | (refine Dd (fun h => ?_) (fun h => ?_) <;> simp only [h, if_true, if_false, Bool.false_eq_true])
noncomputable def H : Hd := ⟨[Sw], [Ow 21], .d, ⟨[], gl, false⟩, [], f156⟩
noncomputable def F := Gq
theorem rn x : H.u P_ x = F x := Eq.trans (b := Ld x) (by kernel_rfl) (by rw [Ae3]; rfl)
noncomputable def c : Con := ⟨H.p, H.r, F⟩
theorem ok : ConOk P_ gl 156 c := co H func156 .nil rn
end F156
namespace F212
abbrev R_ := (LX × Int)
abbrev K_ := S → Option R_
noncomputable def H : Hd := ⟨[Si, Sw], [Ow 21, Si], (.seq .d (.seq .d (.seq .d (.cut [7] [] (.seq .d (.blk (.loop [0, 7, 8] [] (.seq .d (.cut [0, 7, 8] [] (.blk (.keep [0, 7, 8, 24, 25, 26, 27, 28, 29] true)) .d))))) .d)))), ⟨[(156, F156.c), (254, F254.c)], gl, true⟩, [(255, (.seq .d (.cut [0, 2] [] .d (.seq .d (.blk (.loop [0, 3] [] .d))))))], f212⟩
def t18 (b a g : Int) (h : LX) : S := ⟨[(0, .view true 0 [] (.int .i32) a ((Ae a b) - a)), (3, vi g)], [Aw 21 h], [[(0, vi b), (7, .own 0), (8, vi a), (24, .own 0), (25, vi a), (26, vi a), (27, vi b), (28, vi (Ae a b)), (29, .view true 0 [] (.int .i32) a ((Ae a b) - a))]]⟩
def z18 (kn12 : K_) : Nat → S → Option R_ := H.i P_ [r,r,r,l,r,d,(lp kn12),r,l,d,(call 6 255),r,r,r,d]
def t12 (b a : Int) (f : LX) : S := ⟨[(0, vi b), (7, .own 0), (8, vi a)], [Aw 21 f], []⟩
def z12 : Nat → S → Option R_ := H.i P_ [r,r,r,l,r,d]
def x22 (f : LX) : Option R_ := H.e P_ [r,r,r,r] ⟨[(7, .own 0)], [Aw 21 f], []⟩
def x20 (kn12 : K_) (b a : Int) (h : LX) : Option R_ := H.e P_ [r,r,r,l,r,d,(lp kn12),r,r] ⟨[(0, vi b), (7, .own 0), (8, vi a)], [Aw 21 h], []⟩
def x18 (kn12 : K_) (b a g : Int) (h : LX) : Option R_ := H.e P_ [r,r,r,l,r,d,(lp kn12),r,l,d,(call 6 255),r,r,r,d] (t18 b a g h)
def x17 (kn12 : K_) (b a : Int) (k : LX) : Option R_ := H.e P_ [r,r,r,l,r,d,(lp kn12),r,l,d,(call 6 255),r,r] ⟨[(0, .view true 0 [] (.int .i32) a ((Ae a b) - a)), (2, vi (Al ((Ae a b) - a) (1 : Int)))], [Aw 21 k], [[(0, vi b), (7, .own 0), (8, vi a), (24, .own 0), (25, vi a), (26, vi a), (27, vi b), (28, vi (Ae a b)), (29, .view true 0 [] (.int .i32) a ((Ae a b) - a))]]⟩
def x12 (b a : Int) (f : LX) : Option R_ := H.e P_ [r,r,r,l,r,d] (t12 b a f)
theorem e22 : x22 = Au2 := by kernel_rfl
theorem e20 (kn12 : K_) (b : Int) : x20 kn12 b = Apn (fun a f => kn12 (t12 b a f)) b := by kernel_rfl
theorem i18 (kn12 : K_) (b a : Int) : ∀ (q : Nat) (g : Int) (h : LX), z18 kn12 q (t18 b a g h) = Zu (fun a f => kn12 (t12 b a f)) b a q g h :=
 ind (fun _ _ => by kernel_rfl) fun q ih g h => Eq.trans (b := Ajs (x20 kn12 b) (fun g h => (z18 kn12 q) (t18 b a g h)) b a g h) (by kernel_rfl) (by simp only [e20, ih] <;> rfl)
theorem e18 (kn12 : K_) (b : Int) : x18 kn12 b = Apv (fun a f => kn12 (t12 b a f)) b := by funext a g h; exact Eq.trans (by kernel_rfl) ((i18 kn12 b a Bm g h).trans (by rw [Aj]; rfl))
theorem e17 (kn12 : K_) (b : Int) : x17 kn12 b = Ajf (fun a f => kn12 (t12 b a f)) b := Eq.trans (b := Ap2 (x18 kn12 b) b) (by kernel_rfl) (by simp only [e18] <;> rfl)
theorem i12 (b : Int) : ∀ (q : Nat) (a : Int) (f : LX), z12 q (t12 b a f) = Tu b q a f :=
 ind (fun _ _ => by kernel_rfl) fun q ih a f => Eq.trans (b := Ao7 (x17 (z12 q) b) x22 b a f) (by kernel_rfl) (by simp only [e17, e22, ih] <;> rfl)
theorem e12 : x12 = Apj := by funext b a f; exact Eq.trans (by kernel_rfl) ((i12 b Bm a f).trans (by rw [Aj]; rfl))
noncomputable def F := u2 Avd
theorem rn x : H.u P_ x = F x := Eq.trans (b := u2 (Ars x12) x) (by kernel_rfl) (by simp only [e12] <;> rfl)
noncomputable def c : Con := ⟨H.p, H.r, F⟩
theorem ok : ConOk P_ gl 212 c := cr H func212 (.cons F156.ok (.cons F254.ok .nil)) (AnsOk.cons ent255 AnsOk.nil) rn
end F212
namespace F167
abbrev R_ := Int
noncomputable def H : Hd := ⟨[Si, Sw], [Si], (.seq .d (.seq .d (.seq .d (.seq .d (.cut [] [] (.seq .d (.blk (.loop [5, 6, 22, 23, 24] [] .d))) .d))))), ⟨[(152, F152.c)], gl, false⟩, [], f167⟩
def t4 (b f : Int32) (a : LX) (g : Int) : S := ⟨[(5, vx b), (6, vx f), (22, vw a), (23, vi (Ac a)), (24, vi g)], [], []⟩
def z4 : Nat → S → Option R_ := H.i P_ [r,r,r,r,l,r,d]
def x6 : Option R_ := H.e P_ [r,r,r,r,r] ⟨[], [], []⟩
def x4 (b f : Int32) (a : LX) (g : Int) : Option R_ := H.e P_ [r,r,r,r,l,r,d] (t4 b f a g)
theorem e6 : x6 = Aqx := by kernel_rfl
theorem i4 (b f : Int32) (a : LX) : ∀ (q : Nat) (g : Int), z4 q (t4 b f a g) = To b f a q g :=
 ind (fun _ => by kernel_rfl) fun q ih g => Eq.trans (b := Aew x6 (fun g => (z4 q) (t4 b f a g)) b f a g) (by kernel_rfl) (by simp only [e6, ih] <;> rfl)
theorem e4 : x4 = Aqw := by funext b f a g; exact Eq.trans (by kernel_rfl) ((i4 b f a Bm g).trans (by rw [Aj]; rfl))
noncomputable def F := u2 Ahk
theorem rn x : H.u P_ x = F x := Eq.trans (b := u2 (Aj3 x4) x) (by kernel_rfl) (by simp only [e4] <;> rfl)
noncomputable def c : Con := ⟨H.p, H.r, F⟩
theorem ok : ConOk P_ gl 167 c := co H func167 (.cons F152.ok .nil) rn
end F167
namespace F166
def Yd (j16 : Int → Int32 → Int → (List (Int × Int32 × (Int × LX × LX × Unit) × Unit)) → LX → Int → Int32 → Int → LX → LX → Option (LX × Int)) (j18 : Int → Int → LX → Option (LX × Int)) (f : LU) (a b g : Int) (h : List (Int × Int32 × (Int × LX × LX × Unit) × Unit)) (k : LX) : Option (LX × Int) :=
if (By g (Ac f)) then
(Ak f g).bind fun ag =>
(Vf (Bn a 0)).bind fun _ =>
(Ak h (Ig g a)).bind fun _ =>
both (
(Ak h (Ig g a)).bind fun m =>
both (
(Zo ag).bind fun ae =>
(fun ao : Option (LX × Int) =>
bo (
ao)) (
(Lc m.1 m.2.1 m.2.2.1.1 m.2.2.1.2.1 m.2.2.1.2.2.1 ae).bind fun (w, y, v, aa, ab, ac, u) =>
j16 g w u h k y v aa ab ac)) [
(Zo ag).bind fun ae =>
(Lc m.1 m.2.1 m.2.2.1.1 m.2.2.1.2.1 m.2.2.1.2.2.1 ae).bind fun (w, y, v, aa, ab, ac, u) =>
j16 g w u h k y v aa ab ac]) [
(Zo ag).bind fun af =>
both (
(Ak h (Ig g a)).bind fun ad =>
(fun ap : Option (LX × Int) =>
bo (
ap)) (
(Lc ad.1 ad.2.1 ad.2.2.1.1 ad.2.2.1.2.1 ad.2.2.1.2.2.1 af).bind fun (w, y, v, aa, ab, ac, u) =>
j16 g w u h k y v aa ab ac)) [
(Ak h (Ig g a)).bind fun ad =>
(Lc ad.1 ad.2.1 ad.2.2.1.1 ad.2.2.1.2.1 ad.2.2.1.2.2.1 af).bind fun (w, y, v, aa, ab, ac, u) =>
j16 g w u h k y v aa ab ac],
both (
(Ak h (Ig g a)).bind fun m =>
(Zo ag).bind fun ae =>
(Lc m.1 m.2.1 m.2.2.1.1 m.2.2.1.2.1 m.2.2.1.2.2.1 ae).bind fun (w, y, v, aa, ab, ac, u) =>
j16 g w u h k y v aa ab ac) [
(Zo ag).bind fun af =>
(Ak h (Ig g a)).bind fun ad =>
(Lc ad.1 ad.2.1 ad.2.2.1.1 ad.2.2.1.2.1 ad.2.2.1.2.2.1 af).bind fun (w, y, v, aa, ab, ac, u) =>
j16 g w u h k y v aa ab ac]]
else
j18 a b k
theorem Anp : @Yd = @Li := by
  unfold Yd Li
  try simp only [Afm, Ws, Vr]
  all_goals
    repeat (refine funext fun _ => ?_)
    repeat' first
      | with_reducible rfl
      | with_reducible refine Ez ?_ ?_
      | with_reducible refine Et ?_ ?_ ?_
      | with_reducible refine Ex ?_ ?_ ?_ ?_
      | ((with_reducible refine Hz ?_ ?_); focus (intro h; first | (subst h; rfl) | (simp only [h]; rfl) | (simp [Cv, Ac, h]; done)))
      | with_reducible refine Il fun x => ?_
      | with_reducible refine Ms (fun _ => ?_) (fun _ => ?_)
      | (refine Cj (fun h => by simp only [h, Im, Bu, Bs, ite_self]) (fun x h => ?_); (try simp only [h, Bu]))
      | (refine Dd (fun h => ?_) (fun h => ?_) <;> simp only [h, if_true, if_false, Bool.false_eq_true])
abbrev R_ := (LX × Int)
abbrev K_ := S → Option R_
noncomputable def H : Hd := ⟨[.agg [Si, Si], .lf (.vec 16 (.int .i32)) none, Sv], [Ow 21, Si], (.seq .d (.seq .d (.cut [2, 3, 8] [] (.seq .d (.blk (.loop [2, 3, 4, 8, 20] [] .d))) (.seq .d (.cut [3, 10] [] (.seq .d (.blk (.loop [3, 8, 10, 33, 34, 35] [⟨10, [], .own 21 (.int .i32)⟩] (.seq .d (.seq .d (.seq (.blk (.seq .d (.seq .d (.cut [3, 8, 10, 13, 14, 15, 16, 33, 34, 35] [] (.mode false) .d)))) .d)))))) .d))))), ⟨[(167, F167.c), (209, F209.c), (210, F210.c), (211, F211.c), (212, F212.c)], gl, false⟩, [], f166⟩
def t13 (f : LU) (a b g : Int) (h : List (Int × Int32 × (Int × LX × LX × Unit) × Unit)) (k : LX) : S := ⟨[(3, .ptr 0 []), (8, .ptr 1 []), (10, .own 2), (33, vv f), (34, vi (Ac f)), (35, vi g)], [.box 69 (.agg [vi a, vi b]), .box 284 (.val (.vec 6 (.cons (.int .i64) (.cons (.int .i32) (.cons (.cons (.int .i64) (.cons (.vec 16 (.int .i32)) (.cons (.vec 16 (.int .i32)) .nil))) .nil)))) h), Aw 21 k], []⟩
def z13 : Nat → S → Option R_ := H.i P_ [r,r,r,r,l,r,d]
def t10 (f : LU) (a b : Int) (o : LX) (p : Int) (n : List (Int × Int32 × (Int × LX × LX × Unit) × Unit)) : S := ⟨[(2, vv f), (3, .ptr 0 []), (4, .ptr 1 []), (8, .ptr 2 []), (20, vi p)], [.box 69 (.agg [vi a, vi b]), .box 164 (.val (.vec 16 (.int .i32)) o), .box 284 (.val (.vec 6 (.cons (.int .i64) (.cons (.int .i32) (.cons (.cons (.int .i64) (.cons (.vec 16 (.int .i32)) (.cons (.vec 16 (.int .i32)) .nil))) .nil)))) n)], []⟩
def z10 : Nat → S → Option R_ := H.i P_ [r,r,l,r,d]
def x18 (a b : Int) (k : LX) : Option R_ := H.e P_ [r,r,r,r,r] ⟨[(3, .ptr 0 []), (10, .own 1)], [.box 69 (.agg [vi a, vi b]), Aw 21 k], []⟩
def x16 (kn13 : K_) (a : Int) (f : LU) (b g : Int) (w : Int32) (u : Int) (h : List (Int × Int32 × (Int × LX × LX × Unit) × Unit)) (k : LX) (y : Int) (v : Int32) (aa : Int) (ab ac : LX) : Option R_ := H.e P_ [r,r,r,r,l,r,d,(lp kn13),r,r,l,d,r,r,r] ⟨[(3, .ptr 0 []), (8, .ptr 1 []), (10, .own 2), (13, .ptr 1 [.idx (Ig g a) 35]), (14, vx w), (15, .ptr 3 []), (16, vi u), (33, vv f), (34, vi (Ac f)), (35, vi g)], [.box 69 (.agg [vi a, vi b]), .box 284 (.val (.vec 6 (.cons (.int .i64) (.cons (.int .i32) (.cons (.cons (.int .i64) (.cons (.vec 16 (.int .i32)) (.cons (.vec 16 (.int .i32)) .nil))) .nil)))) h), Aw 21 k, .box 283 (.agg [vi y, vx v, .agg [vi aa, .val (.vec 16 (.int .i32)) ab, .val (.vec 16 (.int .i32)) ac]])], []⟩
def x13 (f : LU) (a b g : Int) (h : List (Int × Int32 × (Int × LX × LX × Unit) × Unit)) (k : LX) : Option R_ := H.e P_ [r,r,r,r,l,r,d] (t13 f a b g h k)
def x12 (f : LU) (a b : Int) (n : List (Int × Int32 × (Int × LX × LX × Unit) × Unit)) : Option R_ := H.e P_ [r,r,r] ⟨[(2, vv f), (3, .ptr 0 []), (8, .ptr 1 [])], [.box 69 (.agg [vi a, vi b]), .box 284 (.val (.vec 6 (.cons (.int .i64) (.cons (.int .i32) (.cons (.cons (.int .i64) (.cons (.vec 16 (.int .i32)) (.cons (.vec 16 (.int .i32)) .nil))) .nil)))) n)], []⟩
def x10 (f : LU) (a b : Int) (o : LX) (p : Int) (n : List (Int × Int32 × (Int × LX × LX × Unit) × Unit)) : Option R_ := H.e P_ [r,r,l,r,d] (t10 f a b o p n)
theorem e18 : x18 = Lo := by kernel_rfl
theorem e16 (kn13 : K_) (f : LU) (a b : Int) : x16 kn13 a f b = Aan (fun g h k => kn13 (t13 f a b g h k)) a f b := by kernel_rfl
theorem i13 (f : LU) (a b : Int) : ∀ (q : Nat) (g : Int) (h : List (Int × Int32 × (Int × LX × LX × Unit) × Unit)) (k : LX), z13 q (t13 f a b g h k) = Is f a b q g h k :=
 ind (fun _ _ _ => by kernel_rfl) fun q ih g h k => Eq.trans (b := Yd (x16 (z13 q) a f b) x18 f a b g h k) (by kernel_rfl) (by rw [Anp]; simp only [e16, e18, ih] <;> rfl)
theorem e13 : x13 = Ajb := by funext f a b g h k; exact Eq.trans (by kernel_rfl) ((i13 f a b Bm g h k).trans (by rw [Aj]; rfl))
theorem e12 : x12 = Aao := Eq.trans (b := Ai4 x13) (by kernel_rfl) (by simp only [e13] <;> rfl)
theorem i10 (f : LU) (a b : Int) (o : LX) : ∀ (q : Nat) (p : Int) (n : List (Int × Int32 × (Int × LX × LX × Unit) × Unit)), z10 q (t10 f a b o p n) = Aax f a b o q p n :=
 ind (fun _ _ => by kernel_rfl) fun q ih p n => Eq.trans (b := Ai7 x12 (fun p n => (z10 q) (t10 f a b o p n)) f a b o p n) (by kernel_rfl) (by simp only [e12, ih] <;> rfl)
theorem e10 : x10 = Rb := by funext f a b o p n; exact Eq.trans (by kernel_rfl) ((i10 f a b o Bm p n).trans (by rw [Aj]; rfl))
noncomputable def F := u4 Ve
theorem rn x : H.u P_ x = F x := Eq.trans (b := u4 (Ab7 x10) x) (by kernel_rfl) (by simp only [e10] <;> rfl)
noncomputable def c : Con := ⟨H.p, H.r, F⟩
theorem ok : ConOk P_ gl 166 c := co H func166 (.cons F167.ok (.cons F209.ok (.cons F210.ok (.cons F211.ok (.cons F212.ok .nil))))) rn
end F166
namespace F117
noncomputable def H : Hd := ⟨[.agg [Si, Si], .lf (.vec 16 (.int .i32)) none, Si, Sb], [Ow 21, Si], .d, ⟨[(151, F151.c), (162, F162.c), (163, F163.c), (164, F164.c), (165, F165.c), (166, F166.c)], gl, false⟩, [], f117⟩
noncomputable def F := u5 Ys
theorem rn x : H.u P_ x = F x := by kernel_rfl
noncomputable def c : Con := ⟨H.p, H.r, F⟩
theorem ok : ConOk P_ gl 117 c := co H func117 (.cons F151.ok (.cons F162.ok (.cons F163.ok (.cons F164.ok (.cons F165.ok (.cons F166.ok .nil)))))) rn
end F117
namespace F119
abbrev R_ := (LB × Int)
abbrev K_ := S → Option R_
noncomputable def H : Hd := ⟨[Si, Sw], [Ob 5, Si], (.seq .d (.seq .d (.seq .d (.cut [7] [] (.seq .d (.blk (.loop [0, 7, 17, 18, 19] [⟨7, [], .own 5 (.int .u8)⟩] (.seq .d (.seq .d (.cut [0, 7, 17, 18, 19] [] (.blk (.seq .d (.cut [0, 7, 9, 17, 18, 19] [] .d (.seq .d (.blk (.loop [0, 7, 9, 17, 18, 19, 28, 29] [] .d)))))) .d)))))) .d)))), ⟨[(167, F167.c)], gl, false⟩, [], f119⟩
def t26 (b : Int) (a : LX) (k : Int32) (f m : Int) (h : LB) : S := ⟨[(0, vi b), (7, .own 0), (9, vx k), (17, vw a), (18, vi (Ac a)), (19, vi f), (28, vi (Cn b (8 : Int))), (29, vi m)], [Ab 5 h], []⟩
def z26 (kn16 : K_) : Nat → S → Option R_ := H.i P_ [r,r,r,l,r,d,(lp kn16),r,r,l,d,r,r,r,d]
def t16 (b : Int) (a : LX) (f : Int) (g : LB) : S := ⟨[(0, vi b), (7, .own 0), (17, vw a), (18, vi (Ac a)), (19, vi f)], [Ab 5 g], []⟩
def z16 : Nat → S → Option R_ := H.i P_ [r,r,r,l,r,d]
def x30 (g : LB) : Option R_ := H.e P_ [r,r,r,r] ⟨[(7, .own 0)], [Ab 5 g], []⟩
def x28 (kn16 : K_) (b : Int) (a : LX) (f : Int) (h : LB) : Option R_ := H.e P_ [r,r,r,l,r,d,(lp kn16),r,r,r] ⟨[(0, vi b), (7, .own 0), (17, vw a), (18, vi (Ac a)), (19, vi f)], [Ab 5 h], []⟩
def x26 (kn16 : K_) (b : Int) (a : LX) (k : Int32) (f m : Int) (h : LB) : Option R_ := H.e P_ [r,r,r,l,r,d,(lp kn16),r,r,l,d,r,r,r,d] (t26 b a k f m h)
def x25 (kn16 : K_) (b : Int) (a : LX) (f : Int) (g : LB) (k : Int32) : Option R_ := H.e P_ [r,r,r,l,r,d,(lp kn16),r,r,l,d,r,r] ⟨[(0, vi b), (7, .own 0), (9, vx k), (17, vw a), (18, vi (Ac a)), (19, vi f)], [Ab 5 g], []⟩
def x16 (b : Int) (a : LX) (f : Int) (g : LB) : Option R_ := H.e P_ [r,r,r,l,r,d] (t16 b a f g)
theorem e30 : x30 = Aqh := by kernel_rfl
theorem e28 (kn16 : K_) (b : Int) (a : LX) : x28 kn16 b a = Ait (fun f g => kn16 (t16 b a f g)) b a := by kernel_rfl
theorem i26 (kn16 : K_) (b : Int) (a : LX) (k : Int32) (f : Int) : ∀ (q : Nat) (m : Int) (h : LB), z26 kn16 q (t26 b a k f m h) = Ix (fun f g => kn16 (t16 b a f g)) b a k f q m h :=
 ind (fun _ _ => by kernel_rfl) fun q ih m h => Eq.trans (b := Abh (x28 kn16 b a) (fun m h => (z26 kn16 q) (t26 b a k f m h)) b a k f m h) (by kernel_rfl) (by simp only [e28, ih] <;> rfl)
theorem e26 (kn16 : K_) (b : Int) (a : LX) : x26 kn16 b a = Ais (fun f g => kn16 (t16 b a f g)) b a := by funext k f m h; exact Eq.trans (by kernel_rfl) ((i26 kn16 b a k f Bm m h).trans (by rw [Aj]; rfl))
theorem e25 (kn16 : K_) (b : Int) (a : LX) : x25 kn16 b a = Lb (fun f g => kn16 (t16 b a f g)) b a := Eq.trans (b := Aib (x26 kn16 b a) b a) (by kernel_rfl) (by simp only [e26] <;> rfl)
theorem i16 (b : Int) (a : LX) : ∀ (q : Nat) (f : Int) (g : LB), z16 q (t16 b a f g) = Ff b a q f g :=
 ind (fun _ _ => by kernel_rfl) fun q ih f g => Eq.trans (b := Abl (x25 (z16 q) b a) x30 b a f g) (by kernel_rfl) (by simp only [e25, e30, ih] <;> rfl)
theorem e16 : x16 = Aqm := by funext b a f g; exact Eq.trans (by kernel_rfl) ((i16 b a Bm f g).trans (by rw [Aj]; rfl))
noncomputable def F := u2 Zm
theorem rn x : H.u P_ x = F x := Eq.trans (b := u2 (Akw x16) x) (by kernel_rfl) (by simp only [e16] <;> rfl)
noncomputable def c : Con := ⟨H.p, H.r, F⟩
theorem ok : ConOk P_ gl 119 c := co H func119 (.cons F167.ok .nil) rn
end F119
namespace F122
abbrev R_ := Int
noncomputable def H : Hd := ⟨[Sl, Si], [Si], (.seq .d (.cut [] [] (.seq .d (.blk (.loop [0, 1, 7, 8] [] .d))) .d)), ⟨[], gl, false⟩, [], f122⟩
def t4 (a : LI) (b f : Int) : S := ⟨[(0, vl a), (1, vi b), (7, vi (Ac a)), (8, vi f)], [], []⟩
def z4 : Nat → S → Option R_ := H.i P_ [r,l,r,d]
def x6 : Option R_ := H.e P_ [r,r] ⟨[], [], []⟩
def x4 (a : LI) (b f : Int) : Option R_ := H.e P_ [r,l,r,d] (t4 a b f)
theorem e6 : x6 = Mj := by kernel_rfl
theorem i4 (a : LI) (b : Int) : ∀ (q : Nat) (f : Int), z4 q (t4 a b f) = Bi a b q f :=
 ind (fun _ => by kernel_rfl) fun q ih f => Eq.trans (b := Dg x6 (fun f => (z4 q) (t4 a b f)) a b f) (by kernel_rfl) (by simp only [e6, ih] <;> rfl)
theorem e4 : x4 = Gw := by funext a b f; exact Eq.trans (by kernel_rfl) ((i4 a b Bm f).trans (by rw [Aj]; rfl))
noncomputable def F := u2 Hv
theorem rn x : H.u P_ x = F x := Eq.trans (b := u2 (Gs x4) x) (by kernel_rfl) (by simp only [e4] <;> rfl)
noncomputable def c : Con := ⟨H.p, H.r, F⟩
theorem ok : ConOk P_ gl 122 c := co H func122 .nil rn
end F122
namespace F71
noncomputable def H : Hd := ⟨[Sl, Si], [Sz], .d, ⟨[(122, F122.c)], gl, false⟩, [], f71⟩
noncomputable def F := u2 Gt
theorem rn x : H.u P_ x = F x := by kernel_rfl
noncomputable def c : Con := ⟨H.p, H.r, F⟩
theorem ok : ConOk P_ gl 71 c := co H func71 (.cons F122.ok .nil) rn
end F71
namespace F49
noncomputable def H : Hd := ⟨[Si], [Sz], .d, ⟨[(71, F71.c)], gl, false⟩, [], f49⟩
noncomputable def F := Qr
theorem rn x : H.u P_ x = F x := by kernel_rfl
noncomputable def c : Con := ⟨H.p, H.r, F⟩
theorem ok : ConOk P_ gl 49 c := co H func49 (.cons F71.ok .nil) rn
end F49
namespace F25
def Ab4 (j28 : Bool → Int → Option Int) (w ah : Int) (g a : LB) (k p o u v b : Int) (m : Bool) (n : Int) (ao : LX) (f : LI) (h : LB) : Option Int :=
if (Bn ah 0) then
(Ag ah).bind fun (br, bs) =>
j28 br bs
else
(Zm o ao).bind fun (bt, be) =>
if (Bn be 0) then
(Ag be).bind fun (bu, bv) =>
j28 bu bv
else
(Cv h bt).bind fun dv =>
(fun fa : Option Int =>
bo (
fa)) (
(Bc a w (Ac a)).bind fun dw =>
j28 false 0)
theorem Aqr : @Ab4 = @Xj := by
  unfold Ab4 Xj
  simp only [Afm, Ws, Vr]
def Adn (j13 : Bool → Int → Option Int) (j12 : LB → LB → Int → Int → Int → Int → Int → Int → Bool → Int → LI → LB → Option Int) (j25 : Bool → Int → Option Int) (j23 : LB → LB → Int → Int → Int → Int → Int → Int → Bool → Int → LI → LB → Option Int) (j24 : LB → LB → Int → Int → Int → Int → Int → Int → Bool → Int → LI → LB → Int → Option Int) (j28 : Bool → Int → Option Int) (j26 : Int → LB → LB → Int → Int → Int → Int → Int → Int → Bool → Int → LX → LI → LI → LB → Option Int) (j22 : Bool → Option Int) (j21 : Option Int) (aq ar : LB) (au av aw ax ay : Int) (az : LI) (ai : Int) (aj : LB) (ac : Bool) (y : Int) : Option Int :=
if (Du (Ac aq) 64) then
some 8
else
if ((geq y 0) && (!ac)) then
(Cw aq ar au av aw ax ay az ai aj ac y).bind fun (g, a, k, p, o, u, v, f, b, h, m, n) =>
(Zx aq ar au av aw ax ay az ai aj ac y).bind fun bw =>
if bw then
if (geq k 0) then
(Kc a).bind fun (al, ba) =>
if (geq ba 24) then
j13 true 0
else
if (Bn ba 0) then
(Ag ba).bind fun (bx, bz) =>
j13 bx bz
else
(Bc a al (Ac a)).bind fun da =>
(Py da).bind fun an =>
if an then
j13 true 0
else
(Bc a al (Ac a)).bind fun db =>
(Pm db).bind fun (ae, af, aa, ag, ab, bb) =>
if (geq bb 24) then
j13 true 0
else
if (Bn bb 0) then
(Ag bb).bind fun (dc, dd) =>
j13 dc dd
else
both (
(Bc a (Ae al 22) (Ac a)).bind fun ak =>
(fun fb : Option Int =>
bo (
fb)) (
j12 g ak ae af aa ag ab b m n f h)) [
(Bc a (Ae al 22) (Ac a)).bind fun ak =>
j12 g ak ae af aa ag ab b m n f h]
else
if (geq (Ac f) 0) then
if (geq k 2) then
if (By (Ac a) 8) then
j25 true 0
else
j23 g a k p o u v b m n f h
else
j24 g a k p o u v b m n f h 0
else
if (By b (Ac f)) then
(Ak f b).bind fun _ =>
(Ak f b).bind fun w =>
if (By (Ac a) w) then
j28 true 0
else
(Ack g).bind fun (ap, am) =>
if (Bn am 0) then
(Ag am).bind fun (de, df) =>
j28 de df
else
(Cx k p o u v).bind fun (ad, dg) =>
if ((Bn dg 0) || (Qq b (Ac ad))) then
(Ag 8).bind fun (dh, di) =>
j28 dh di
else
j26 w g a k p o u v b m n ap ad f h
else
if (Du (Ac a) 4000) then
(Ag 38).bind fun (dj, bf) =>
j22 ((dj == true) && ((geq bf 0) && true))
else
j21
else
j22 false
else
if ((geq (Ac ar) 0) && (geq (Ac az) 0)) then
if ((((geq au 0) && ((geq av 0) && ((geq aw 0) && ((geq ax 0) && ((geq ay 0) && true))))) && (geq ai 0)) && (gle (Ac aj) 12000)) then
if (geq y 0) then
j22 true
else
if (!ac) then
(Qr y).bind fun dk =>
j22 dk
else
j22 false
else
j22 false
else
if ((false && (geq ai 0)) && (gle (Ac aj) 12000)) then
if (geq y 0) then
j22 true
else
if (!ac) then
(Qr y).bind fun dl =>
j22 dl
else
j22 false
else
j22 false
theorem Arv : @Adn = @Aae := by
  unfold Adn Aae
  try simp only [Afm, Ws, Vr]
  all_goals
    repeat (refine funext fun _ => ?_)
    repeat' first
      | with_reducible rfl
      | with_reducible refine Ez ?_ ?_
      | with_reducible refine Et ?_ ?_ ?_
      | with_reducible refine Ex ?_ ?_ ?_ ?_
      | ((with_reducible refine Hz ?_ ?_); focus (intro h; first | (subst h; rfl) | (simp only [h]; rfl) | (simp [Cv, Ac, h]; done)))
      | with_reducible refine Il fun x => ?_
      | with_reducible refine Ms (fun _ => ?_) (fun _ => ?_)
      | (refine Cj (fun h => by simp only [h, Im, Bu, Bs, ite_self]) (fun x h => ?_); (try simp only [h, Bu]))
      | (refine Dd (fun h => ?_) (fun h => ?_) <;> simp only [h, if_true, if_false, Bool.false_eq_true])
abbrev R_ := Int
noncomputable def H : Hd := ⟨[.agg [Ss, Sb, .agg [Si, Si, Si, Si, Si], Sl, Si, Sb, Sz, Si]], [Si], (.seq .d (.seq .d (.seq .d (.cut [3] [] (.seq .d (.cond (.seq .d (.keep [3, 21, 22, 23, 24, 25] false)) .d)) .d)))), ⟨[(45, F45.c), (48, F48.c), (49, F49.c), (66, F66.c), (68, F68.c), (69, F69.c), (78, Abf), (79, F79.c), (113, F113.c), (114, F114.c), (115, F115.c), (116, F116.c), (117, F117.c), (118, F118.c), (119, F119.c)], gl, false⟩, [(44, (.seq .d (.cut [2] [] (.blk (.seq .d (.cond (.cut [2] [] (.keep [2, 11] true) .d) (.seq .d (.cond (.cut [2] [] (.keep [2, 20] true) .d) (.seq .d (.cond (.cut [2] [] (.keep [2, 33] true) .d) .d))))))) .d))), (63, (.seq .d (.seq .d (.seq .d (.seq .d (.seq .d (.cut [0, 2, 5] [] (.mode false) .d))))))), (64, (.seq .d (.seq .d (.cut [0, 2, 3] [⟨0, [1], .ro (.int .u8)⟩] (.seq .d (.cond (.seq .d (.cut [0, 2, 3] [⟨0, [1], .ro (.int .u8)⟩, ⟨9, [1], .ro (.int .u8)⟩, ⟨10, [1], .ro (.int .u8)⟩, ⟨15, [1], .ro (.int .u8)⟩, ⟨16, [1], .ro (.int .u8)⟩, ⟨18, [], .ro (.int .u8)⟩] .d (.cut [0, 2, 3, 4, 5] [] .d .d))) .d)) .d)))), (65, (.seq .d (.seq .d (.seq .d (.seq .d (.seq .d (.seq .d (.cut [0, 2, 3, 4, 6] [⟨0, [1], .ro (.int .u8)⟩, ⟨9, [1], .ro (.int .u8)⟩, ⟨10, [1], .ro (.int .u8)⟩, ⟨13, [1], .ro (.int .u8)⟩, ⟨14, [1], .ro (.int .u8)⟩, ⟨19, [1], .ro (.int .u8)⟩, ⟨20, [1], .ro (.int .u8)⟩, ⟨22, [], .ro (.int .u8)⟩, ⟨28, [1], .ro (.int .u8)⟩, ⟨29, [1], .ro (.int .u8)⟩, ⟨40, [1], .ro (.int .u8)⟩, ⟨41, [1], .ro (.int .u8)⟩] .d (.cut [0, 2, 3, 5, 7] [] .d (.seq .d (.seq .d (.seq .d (.seq .d (.seq (.mode false) .d))))))))))))))], f25⟩
def x22 (bi : Bool) : Option R_ := H.e P_ [r,r,r,r] ⟨[(3, vt bi)], [], []⟩
def x21 : Option R_ := H.e P_ [r,r,r,l,r,l,r,(dcall 3 44 3 #[true, true, true, true, true, true, true, true] #[true, true, true, true, true, false, false, false]),r,r] ⟨[(2, .ptr 0 [])], [.box 82 (.agg [vt false, vi 0])], [[(3, vt false), (21, .cst (.bool true)), (23, .agg [vt true, vi 0])]]⟩
def x13 (bj : Bool) (bk : Int) : Option R_ := H.e P_ [r,r,r,l,r,l,r,(dcall 3 44 3 #[true, true, true, true, true, true, true, true] #[true, true, true, true, true, false, false, false]),r,l,d,r,l,r] ⟨[(2, .ptr 0 [])], [.box 82 (.agg [vt bj, vi bk])], [[(3, vt false), (21, .cst (.bool true)), (23, .agg [vt true, vi 0])]]⟩
def x12 (g ak : LB) (ae af aa ag ab b : Int) (m : Bool) (n : Int) (f : LI) (h : LB) : Option R_ := H.e P_ [r,r,r,l,r,l,r,(dcall 3 44 3 #[true, true, true, true, true, true, true, true] #[true, true, true, true, true, false, false, false]),r,l,d,r,l,l,(call 1 63),r,r,r,r,r,r] ⟨[(0, .ptr 0 []), (2, .ptr 1 []), (5, .ptr 2 [])], [.box 48 (.agg [vs g, vb ak, .agg [vi ae, vi af, vi aa, vi ag, vi ab], .own 4, vi b, .own 5, vt m, vi n]), .box 82 (.agg [vt false, vi 0]), .box 46 (.agg [vi ae, vi af, vi aa, vi ag, vi ab]), .box 82 (.agg [vt false, vi 0]), Ai 3 f, Ab 5 h], [[(2, .ptr 3 [])], [(3, vt false), (21, .cst (.bool true)), (23, .agg [vt true, vi 0])]]⟩
def x25 (bl : Bool) (bm : Int) : Option R_ := H.e P_ [r,r,r,l,r,l,r,(dcall 3 44 3 #[true, true, true, true, true, true, true, true] #[true, true, true, true, true, false, false, false]),r,l,d,r,r,r,l,r] ⟨[(2, .ptr 0 [])], [.box 82 (.agg [vt bl, vi bm])], [[(3, vt false), (21, .cst (.bool true)), (23, .agg [vt true, vi 0])]]⟩
def x24 (g a : LB) (k p o u v b : Int) (m : Bool) (n : Int) (f : LI) (h : LB) (bg : Int) : Option R_ := H.e P_ [r,r,r,l,r,l,r,(dcall 3 44 3 #[true, true, true, true, true, true, true, true] #[true, true, true, true, true, false, false, false]),r,l,d,r,r,r,l,l,(call 1 64),r,r,r] ⟨[(0, .ptr 0 []), (2, .ptr 1 []), (3, vi bg)], [.box 48 (.agg [vs g, vb a, .agg [vi k, vi p, vi o, vi u, vi v], .own 3, vi b, .own 4, vt m, vi n]), .box 82 (.agg [vt false, vi 0]), .box 82 (.agg [vt false, vi 0]), Ai 3 f, Ab 5 h], [[(2, .ptr 2 [])], [(3, vt false), (21, .cst (.bool true)), (23, .agg [vt true, vi 0])]]⟩
def x15 (bd : Bool) (bc : Int) (g a : LB) (k p o u v b : Int) (m : Bool) (n : Int) (f : LI) (h : LB) : Option R_ := H.e P_ [r,r,r,l,r,l,r,(dcall 3 44 3 #[true, true, true, true, true, true, true, true] #[true, true, true, true, true, false, false, false]),r,l,d,r,r,r,l,l,(call 1 64),r,r,l,r,l,r,r,r] ⟨[(0, .ptr 0 []), (2, .ptr 1 []), (3, vi 8), (4, vt bd), (5, vi bc)], [.box 48 (.agg [vs g, vb a, .agg [vi k, vi p, vi o, vi u, vi v], .own 3, vi b, .own 4, vt m, vi n]), .box 82 (.agg [vt false, vi 0]), .box 82 (.agg [vt false, vi 0]), Ai 3 f, Ab 5 h], [[(2, .ptr 2 [])], [(3, vt false), (21, .cst (.bool true)), (23, .agg [vt true, vi 0])]]⟩
def x23 (g a : LB) (k p o u v b : Int) (m : Bool) (n : Int) (f : LI) (h : LB) : Option R_ := H.e P_ [r,r,r,l,r,l,r,(dcall 3 44 3 #[true, true, true, true, true, true, true, true] #[true, true, true, true, true, false, false, false]),r,l,d,r,r,r,l,l,(call 1 64),r,r,l,r,l,r,r] ⟨[(0, .ptr 0 []), (2, .ptr 1 []), (3, vi 8)], [.box 48 (.agg [vs g, vb a, .agg [vi k, vi p, vi o, vi u, vi v], .own 3, vi b, .own 4, vt m, vi n]), .box 82 (.agg [vt false, vi 0]), .box 82 (.agg [vt false, vi 0]), Ai 3 f, Ab 5 h], [[(2, .ptr 2 [])], [(3, vt false), (21, .cst (.bool true)), (23, .agg [vt true, vi 0])]]⟩
def x28 (bp : Bool) (bq : Int) : Option R_ := H.e P_ [r,r,r,l,r,l,r,(dcall 3 44 3 #[true, true, true, true, true, true, true, true] #[true, true, true, true, true, false, false, false]),r,l,d,r,r,r,r,r,l,r] ⟨[(2, .ptr 0 [])], [.box 82 (.agg [vt bp, vi bq])], [[(3, vt false), (21, .cst (.bool true)), (23, .agg [vt true, vi 0])]]⟩
def x27 (w ah : Int) (g a : LB) (k p o u v b : Int) (m : Bool) (n : Int) (ao : LX) (f : LI) (h : LB) : Option R_ := H.e P_ [r,r,r,l,r,l,r,(dcall 3 44 3 #[true, true, true, true, true, true, true, true] #[true, true, true, true, true, false, false, false]),r,l,d,r,r,r,r,r,l,l,(call 1 65),r,r,r,r,r,r,r,r] ⟨[(0, .ptr 0 []), (2, .ptr 1 []), (3, vi w), (5, vi ah), (7, .own 2)], [.box 48 (.agg [vs g, vb a, .agg [vi k, vi p, vi o, vi u, vi v], .own 4, vi b, .own 5, vt m, vi n]), .box 82 (.agg [vt false, vi 0]), Aw 21 ao, .box 82 (.agg [vt false, vi 0]), Ai 3 f, Ab 5 h], [[(2, .ptr 3 [])], [(3, vt false), (21, .cst (.bool true)), (23, .agg [vt true, vi 0])]]⟩
def x26 (w : Int) (g a : LB) (k p o u v b : Int) (m : Bool) (n : Int) (ap : LX) (ad f : LI) (h : LB) : Option R_ := H.e P_ [r,r,r,l,r,l,r,(dcall 3 44 3 #[true, true, true, true, true, true, true, true] #[true, true, true, true, true, false, false, false]),r,l,d,r,r,r,r,r,l,l,(call 1 65),r,r,r,r,r,r,r] ⟨[(0, .ptr 0 []), (2, .ptr 1 []), (3, vi w), (4, .ptr 2 []), (6, .own 3)], [.box 48 (.agg [vs g, vb a, .agg [vi k, vi p, vi o, vi u, vi v], .own 5, vi b, .own 6, vt m, vi n]), .box 82 (.agg [vt false, vi 0]), .box 164 (.val (.vec 16 (.int .i32)) ap), Ai 3 ad, .box 82 (.agg [vt false, vi 0]), Ai 3 f, Ab 5 h], [[(2, .ptr 4 [])], [(3, vt false), (21, .cst (.bool true)), (23, .agg [vt true, vi 0])]]⟩
theorem e22 : x22 = Bd := by kernel_rfl
theorem e21 : x21 = Xg := Eq.trans (b := Ad2 x22) (by kernel_rfl) (by simp only [e22] <;> rfl)
theorem e13 : x13 = Df := Eq.trans (b := Aev x22) (by kernel_rfl) (by simp only [e22] <;> rfl)
theorem e12 : x12 = Xf := Eq.trans (b := Adc x13) (by kernel_rfl) (by simp only [e13] <;> rfl)
theorem e25 : x25 = Ii := Eq.trans (b := Adg x22) (by kernel_rfl) (by simp only [e22] <;> rfl)
theorem e24 : x24 = Ie := Eq.trans (b := Ac8 x25) (by kernel_rfl) (by simp only [e25] <;> rfl)
theorem e15 : x15 = Adj := Eq.trans (b := Aeb x25 x24) (by kernel_rfl) (by simp only [e25, e24] <;> rfl)
theorem e23 : x23 = Xw := Eq.trans (b := Adm x15) (by kernel_rfl) (by simp only [e15] <;> rfl)
theorem e28 : x28 = Fz := Eq.trans (b := Ady x22) (by kernel_rfl) (by simp only [e22] <;> rfl)
theorem e27 : x27 = Ac7 := Eq.trans (b := Ab4 x28) (by kernel_rfl) (by rw [Aqr]; simp only [e28] <;> rfl)
theorem e26 : x26 = Xn := Eq.trans (b := Adk x27) (by kernel_rfl) (by simp only [e27] <;> rfl)
noncomputable def F := u12 Vm
theorem rn x : H.u P_ x = F x := Eq.trans (b := u12 (Adn x13 x12 x25 x23 x24 x28 x26 x22 x21) x) (by kernel_rfl) (by unfold F; rw [Arv]; simp only [e13, e12, e25, e23, e24, e28, e26, e22, e21] <;> rfl)
noncomputable def c : Con := ⟨H.p, H.r, F⟩
theorem ok : ConOk P_ gl 25 c := cr H func25 (.cons F45.ok (.cons F48.ok (.cons F49.ok (.cons F66.ok (.cons F68.ok (.cons F69.ok (.cons Alp (.cons F79.ok (.cons F113.ok (.cons F114.ok (.cons F115.ok (.cons F116.ok (.cons F117.ok (.cons F118.ok (.cons F119.ok .nil))))))))))))))) (AnsOk.cons ent44 (AnsOk.cons ent63 (AnsOk.cons ent64 (AnsOk.cons ent65 AnsOk.nil)))) rn
end F25
namespace F43
def Aej (f g : LB) (h k m n o : Int) (p : LI) (u : Int) (v : LB) (b : Bool) (a : Int) : Option (LB × LB × Int × Int × Int × Int × Int × LI × Int × LB × Bool × Int × Int) :=
(Vm f g h k m n o p u v b a).bind fun w =>
if (Bn w 0) then
some (([] : LB), ([] : LB), 0, 0, 0, 0, 0, ([] : LI), 0, ([] : LB), false, 0, w)
else
if (Bn a 0) then
(fun bl : Option (LB × LB × Int × Int × Int × Int × Int × LI × Int × LB × Bool × Int × Int) =>
both (
both (
(Cw f g h k m n o p u v b a).bind fun (y, aa, ab, ac, ad, ae, af, ag, ah, ai, aj, ak) =>
(fun bm : Option (LB × LB × Int × Int × Int × Int × Int × LI × Int × LB × Bool × Int × Int) =>
bo (
bm)) (
some (y, aa, ab, ac, ad, ae, af, ag, ah, ai, aj, ak, a))) [
bl]) [
bl]) (
(Cw f g h k m n o p u v b a).bind fun (y, aa, ab, ac, ad, ae, af, ag, ah, ai, aj, ak) =>
some (y, aa, ab, ac, ad, ae, af, ag, ah, ai, aj, ak, a))
else
if b then
(Cw f g h k m n o p u v b a).bind fun (al, am, an, ao, ap, aq, ar, au, av, aw, ax, ay) =>
some (al, am, an, ao, ap, aq, ar, au, av, aw, ax, ay, 36)
else
(Cw f g h k m n o p u v b a).bind fun (az, ba, bb, bc, bd, be, bf, bg, bh, bi, bj, bk) =>
some (az, ba, bb, bc, bd, be, bf, bg, bh, bi, bj, bk, 0)
theorem Arn : @Aej = @Qk := by
  unfold Aej Qk
  try simp only [Afm, Ws, Vr]
  all_goals
    repeat (refine funext fun _ => ?_)
    repeat' first
      | with_reducible rfl
      | with_reducible refine Ez ?_ ?_
      | with_reducible refine Et ?_ ?_ ?_
      | with_reducible refine Ex ?_ ?_ ?_ ?_
      | ((with_reducible refine Hz ?_ ?_); focus (intro h; first | (subst h; rfl) | (simp only [h]; rfl) | (simp [Cv, Ac, h]; done)))
      | with_reducible refine Il fun x => ?_
      | with_reducible refine Ms (fun _ => ?_) (fun _ => ?_)
      | (refine Cj (fun h => by simp only [h, Im, Bu, Bs, ite_self]) (fun x h => ?_); (try simp only [h, Bu]))
      | (refine Dd (fun h => ?_) (fun h => ?_) <;> simp only [h, if_true, if_false, Bool.false_eq_true])
noncomputable def H : Hd := ⟨[.agg [Ss, Sb, .agg [Si, Si, Si, Si, Si], Sl, Si, Sb, Sz, Si]], [.agg [Ss, Ob 5, .agg [Si, Si, Si, Si, Si], Ol 3, Si, Ob 5, Sz, Si], Si], (.seq .d (.seq .d (.seq (.blk (.seq .d (.cond (.seq (.mode false) .d) .d))) .d))), ⟨[(25, F25.c), (45, F45.c)], gl, false⟩, [], f43⟩
noncomputable def F := u12 Qk
theorem rn x : H.u P_ x = F x := Eq.trans (b := u12 Aej x) (by kernel_rfl) (by rw [Arn]; rfl)
noncomputable def c : Con := ⟨H.p, H.r, F⟩
theorem ok : ConOk P_ gl 43 c := co H func43 (.cons F25.ok (.cons F45.ok .nil)) rn
end F43
namespace F46
noncomputable def H : Hd := ⟨[.agg [Ss, Sb, .agg [Si, Si, Si, Si, Si], Sl, Si, Sb, Sz, Si], Si], [.agg [Ss, Ob 5, .agg [Si, Si, Si, Si, Si], Ol 3, Si, Sb, Sz, Si], Si], .d, ⟨[], gl, false⟩, [], f46⟩
noncomputable def F := u13 Apu
theorem rn x : H.u P_ x = F x := by kernel_rfl
noncomputable def c : Con := ⟨H.p, H.r, F⟩
theorem ok : ConOk P_ gl 46 c := co H func46 .nil rn
end F46
namespace F22
def Aea (j78 : Int → Int → Int → Int → Int → LI → Bool → Int → LB → Int → LB → Option (LB × LB × Int × Int × Int × Int × Int × LI × Int × LB × Bool × Int × Int)) (a : LB) (b : Bool) (f w ag : Int) (g : LB) (m p o u v h : Int) (am : LX) (k : LI) (n : LB) : Option (LB × LB × Int × Int × Int × Int × Int × LI × Int × LB × Bool × Int × Int) :=
if (Bn ag 0) then
(Ag ag).bind fun (dd, de) =>
j78 m p o u v k dd de g h n
else
(Zm o am).bind fun (df, aj) =>
if (Bn aj 0) then
(Ag aj).bind fun (dg, dh) =>
j78 m p o u v k dg dh g h n
else
(Cv n df).bind fun di =>
(fun hb : Option (LB × LB × Int × Int × Int × Int × Int × LI × Int × LB × Bool × Int × Int) =>
bo (
hb)) (
(Bc g w (Ac g)).bind fun dj =>
j78 m p o u v k false 0 dj (Ae h 1) di)
theorem Aq6 : @Aea = @Aab := by
  unfold Aea Aab
  simp only [Afm, Ws, Vr]
def Aec (j62 : Int → LI → LB → Bool → Int → LB → Int → Int → Int → Int → Int → Option (LB × LB × Int × Int × Int × Int × Int × LI × Int × LB × Bool × Int × Int)) (j61 : LB → Int → Int → Int → Int → Int → Int → LI → LB → Option (LB × LB × Int × Int × Int × Int × Int × LI × Int × LB × Bool × Int × Int)) (j75 : Int → Int → Int → Int → Int → Int → LB → Bool → Int → LB → LI → Option (LB × LB × Int × Int × Int × Int × Int × LI × Int × LB × Bool × Int × Int)) (j73 : LB → Int → Int → Int → Int → Int → Int → LI → LB → Option (LB × LB × Int × Int × Int × Int × Int × LI × Int × LB × Bool × Int × Int)) (j74 : LB → Int → Int → Int → Int → Int → Int → LI → LB → Int → Option (LB × LB × Int × Int × Int × Int × Int × LI × Int × LB × Bool × Int × Int)) (j78 : Int → Int → Int → Int → Int → LI → Bool → Int → LB → Int → LB → Option (LB × LB × Int × Int × Int × Int × Int × LI × Int × LB × Bool × Int × Int)) (j76 : Int → LB → Int → Int → Int → Int → Int → Int → LX → LI → LI → LB → Option (LB × LB × Int × Int × Int × Int × Int × LI × Int × LB × Bool × Int × Int)) (j71 : LB → Int → Int → Int → Int → Int → Int → Bool → Int → LI → LB → Option (LB × LB × Int × Int × Int × Int × Int × LI × Int × LB × Bool × Int × Int)) (j70 : LB → Int → Int → Int → Int → Int → Int → LI → LB → Option (LB × LB × Int × Int × Int × Int × Int × LI × Int × LB × Bool × Int × Int)) (a : LB) (b : Bool) (f : Int) (g : LB) (m p o u v h : Int) (k : LI) (n : LB) : Option (LB × LB × Int × Int × Int × Int × Int × LI × Int × LB × Bool × Int × Int) :=
if (geq m 0) then
(Kc g).bind fun (ah, ao) =>
if (geq ao 24) then
j62 h k n true 0 g m p o u v
else
if (Bn ao 0) then
(Ag ao).bind fun (dk, dl) =>
j62 h k n dk dl g m p o u v
else
(Bc g ah (Ac g)).bind fun dm =>
(Py dm).bind fun al =>
if al then
j62 h k n true 0 g m p o u v
else
(Bc g ah (Ac g)).bind fun dn =>
(Pm dn).bind fun (ab, ac, y, ad, aa, ap) =>
if (geq ap 24) then
j62 h k n true 0 g m p o u v
else
if (Bn ap 0) then
(Ag ap).bind fun (dp, dq) =>
j62 h k n dp dq g m p o u v
else
both (
(Bc g (Ae ah 22) (Ac g)).bind fun af =>
bo (
j61 af ab ac y ad aa h k n)) [
(Bc g (Ae ah 22) (Ac g)).bind fun af =>
j61 af ab ac y ad aa h k n]
else
if (geq (Ac k) 0) then
if (geq m 2) then
if (By (Ac g) 8) then
j75 m p o u v h n true 0 g k
else
j73 g m p o u v h k n
else
j74 g m p o u v h k n 0
else
if (By h (Ac k)) then
(Ak k h).bind fun _ =>
(Ak k h).bind fun w =>
if (By (Ac g) w) then
j78 m p o u v k true 0 g h n
else
(Ack a).bind fun (an, ak) =>
if (Bn ak 0) then
(Ag ak).bind fun (dr, ds) =>
j78 m p o u v k dr ds g h n
else
(Cx m p o u v).bind fun (ae, dt) =>
if ((Bn dt 0) || (Qq h (Ac ae))) then
(Ag 8).bind fun (du, bc) =>
j78 m p o u v k du bc g h n
else
j76 w g m p o u v h an ae k n
else
if (Du (Ac g) 4000) then
(Ag 38).bind fun (dv, ai) =>
j71 g m p o u v h dv ai k n
else
j70 g m p o u v h k n
theorem Arc : @Aec = @Hn := by
  unfold Aec Hn
  repeat (refine funext fun _ => ?_)
  repeat' first
    | with_reducible rfl
    | with_reducible refine Ez ?_ ?_
    | with_reducible refine Et ?_ ?_ ?_
    | with_reducible refine Ex ?_ ?_ ?_ ?_
    | ((with_reducible refine Hz ?_ ?_); focus (intro h; first | (subst h; rfl) | (simp only [h]; rfl) | (simp [Cv, Ac, h]; done)))
    | with_reducible refine Il fun x => ?_
    | with_reducible refine Ms (fun _ => ?_) (fun _ => ?_)
    | (refine Cj (fun h => by simp only [h, Im, Bu, Bs, ite_self]) (fun x h => ?_); (try simp only [h, Bu]))
    | (refine Dd (fun h => ?_) (fun h => ?_) <;> simp only [h, if_true, if_false, Bool.false_eq_true])
abbrev R_ := (LB × LB × Int × Int × Int × Int × Int × LI × Int × LB × Bool × Int × Int)
abbrev K_ := S → Option R_
noncomputable def H : Hd := ⟨[.agg [Ss, Sb, .agg [Si, Si, Si, Si, Si], Sl, Si, Sb, Sz, Si], Sb], [.agg [Ss, Ob 5, .agg [Si, Si, Si, Si, Si], Ol 3, Si, Sb, Sz, Si], Si], (.seq .d (.seq .d (.seq .d (.seq .d (.blk (.loop [2, 4] [⟨2, [1], .ro (.int .u8)⟩] (.blk (.cut [2, 4, 7] [] (.keep [2, 4, 7, 22] true) .d)))))))), ⟨[(43, F43.c), (45, F45.c), (46, F46.c), (66, F66.c), (68, F68.c), (69, F69.c), (78, Abf), (79, F79.c), (113, F113.c), (114, F114.c), (115, F115.c), (116, F116.c), (117, F117.c), (118, F118.c), (119, F119.c)], gl, false⟩, [(44, (.seq .d (.cut [2] [] (.blk (.seq .d (.cond (.cut [2] [] (.keep [2, 11] true) .d) (.seq .d (.cond (.cut [2] [] (.keep [2, 20] true) .d) (.seq .d (.cond (.cut [2] [] (.keep [2, 33] true) .d) .d))))))) .d))), (63, (.seq .d (.seq .d (.seq .d (.seq .d (.seq .d (.cut [0, 2, 5] [] (.mode false) .d))))))), (64, (.seq .d (.seq .d (.cut [0, 2, 3] [] (.seq .d (.cond (.seq .d (.cut [0, 2, 3] [⟨0, [1], .ro (.int .u8)⟩, ⟨9, [1], .ro (.int .u8)⟩, ⟨10, [1], .ro (.int .u8)⟩, ⟨15, [1], .ro (.int .u8)⟩, ⟨16, [1], .ro (.int .u8)⟩, ⟨18, [], .ro (.int .u8)⟩] .d (.cut [0, 2, 3, 4, 5] [] .d .d))) .d)) .d)))), (65, (.seq .d (.seq .d (.seq .d (.seq .d (.seq .d (.seq .d (.cut [0, 2, 3, 4, 6] [⟨0, [1], .ro (.int .u8)⟩, ⟨9, [1], .ro (.int .u8)⟩, ⟨10, [1], .ro (.int .u8)⟩, ⟨13, [1], .ro (.int .u8)⟩, ⟨14, [1], .ro (.int .u8)⟩, ⟨19, [1], .ro (.int .u8)⟩, ⟨20, [1], .ro (.int .u8)⟩, ⟨22, [], .ro (.int .u8)⟩, ⟨28, [1], .ro (.int .u8)⟩, ⟨29, [1], .ro (.int .u8)⟩, ⟨40, [1], .ro (.int .u8)⟩, ⟨41, [1], .ro (.int .u8)⟩] .d (.cut [0, 2, 3, 5, 7] [] .d (.seq .d (.seq .d (.seq .d (.seq .d (.seq (.mode false) .d))))))))))))))], f22⟩
def t37 (a : LB) (b : Bool) (f : Int) (g : LB) (m p o u v h : Int) (k : LI) (n : LB) : S := ⟨[(2, .ptr 0 []), (4, .ptr 1 [])], [.box 48 (.agg [vs a, vb g, .agg [vi m, vi p, vi o, vi u, vi v], .own 2, vi h, .own 3, vt b, vi f]), .box 48 (.agg [vs ([] : LB), .nils, .agg [vi 0, vi 0, vi 0, vi 0, vi 0], .nils, vi 0, .nils, vt false, vi 0]), Ai 3 k, Ab 5 n], []⟩
def z37 : Nat → S → Option R_ := H.i P_ [r,r,r,r,d]
def x71 (kn37 : K_) (a : LB) (b : Bool) (f : Int) (ar : LB) (au av aw ax ay az : Int) (bh : Bool) (be : Int) (ba : LI) (bb : LB) : Option R_ := H.e P_ [r,r,r,r,d,(lp kn37),d,r] ⟨[(2, .ptr 0 []), (4, .ptr 1 []), (7, .ptr 2 [])], [.box 48 (.agg [vs a, vb ar, .agg [vi au, vi av, vi aw, vi ax, vi ay], .own 3, vi az, .own 4, vt b, vi f]), .box 48 (.agg [vs ([] : LB), .nils, .agg [vi 0, vi 0, vi 0, vi 0, vi 0], .nils, vi 0, .nils, vt false, vi 0]), .box 82 (.agg [vt bh, vi be]), Ai 3 ba, Ab 5 bb], []⟩
def x70 (kn37 : K_) (a : LB) (b : Bool) (f : Int) (g : LB) (m p o u v h : Int) (k : LI) (n : LB) : Option R_ := H.e P_ [r,r,r,r,d,(lp kn37),d,l,(call 0 44),r,r] ⟨[(2, .ptr 0 [])], [.box 82 (.agg [vt false, vi 0]), .box 48 (.agg [vs a, vb g, .agg [vi m, vi p, vi o, vi u, vi v], .own 3, vi h, .own 4, vt b, vi f]), .box 48 (.agg [vs ([] : LB), .nils, .agg [vi 0, vi 0, vi 0, vi 0, vi 0], .nils, vi 0, .nils, vt false, vi 0]), Ai 3 k, Ab 5 n], [[(2, .ptr 1 []), (4, .ptr 2 [])]]⟩
def x62 (kn37 : K_) (a : LB) (b : Bool) (f h : Int) (k : LI) (n : LB) (bj : Bool) (bk : Int) (bl : LB) (bm bn bp bq br : Int) : Option R_ := H.e P_ [r,r,r,r,d,(lp kn37),d,l,(call 0 44),r,l,d,r,l,r] ⟨[(2, .ptr 0 [])], [.box 82 (.agg [vt bj, vi bk]), .box 48 (.agg [vs a, vb bl, .agg [vi bm, vi bn, vi bp, vi bq, vi br], .own 3, vi h, .own 4, vt b, vi f]), .box 48 (.agg [vs ([] : LB), .nils, .agg [vi 0, vi 0, vi 0, vi 0, vi 0], .nils, vi 0, .nils, vt false, vi 0]), Ai 3 k, Ab 5 n], [[(2, .ptr 1 []), (4, .ptr 2 [])]]⟩
def x61 (kn37 : K_) (a : LB) (b : Bool) (f : Int) (af : LB) (ab ac y ad aa h : Int) (k : LI) (n : LB) : Option R_ := H.e P_ [r,r,r,r,d,(lp kn37),d,l,(call 0 44),r,l,d,r,l,l,(call 1 63),r,r,r,r,r,r] ⟨[(0, .ptr 0 []), (2, .ptr 1 []), (5, .ptr 2 [])], [.box 48 (.agg [vs a, vb af, .agg [vi ab, vi ac, vi y, vi ad, vi aa], .own 5, vi h, .own 6, vt b, vi f]), .box 82 (.agg [vt false, vi 0]), .box 46 (.agg [vi ab, vi ac, vi y, vi ad, vi aa]), .box 82 (.agg [vt false, vi 0]), .box 48 (.agg [vs ([] : LB), .nils, .agg [vi 0, vi 0, vi 0, vi 0, vi 0], .nils, vi 0, .nils, vt false, vi 0]), Ai 3 k, Ab 5 n], [[(2, .ptr 3 [])], [(2, .ptr 0 []), (4, .ptr 4 [])]]⟩
def x75 (kn37 : K_) (a : LB) (b : Bool) (f m p o u v h : Int) (n : LB) (bs : Bool) (bt : Int) (bu : LB) (bv : LI) : Option R_ := H.e P_ [r,r,r,r,d,(lp kn37),d,l,(call 0 44),r,l,d,r,r,r,l,r] ⟨[(2, .ptr 0 [])], [.box 82 (.agg [vt bs, vi bt]), .box 48 (.agg [vs a, vb bu, .agg [vi m, vi p, vi o, vi u, vi v], .own 3, vi h, .own 4, vt b, vi f]), .box 48 (.agg [vs ([] : LB), .nils, .agg [vi 0, vi 0, vi 0, vi 0, vi 0], .nils, vi 0, .nils, vt false, vi 0]), Ai 3 bv, Ab 5 n], [[(2, .ptr 1 []), (4, .ptr 2 [])]]⟩
def x74 (kn37 : K_) (a : LB) (b : Bool) (f : Int) (g : LB) (m p o u v h : Int) (k : LI) (n : LB) (bf : Int) : Option R_ := H.e P_ [r,r,r,r,d,(lp kn37),d,l,(call 0 44),r,l,d,r,r,r,l,l,(call 1 64),r,r,r] ⟨[(0, .ptr 0 []), (2, .ptr 1 []), (3, vi bf)], [.box 48 (.agg [vs a, vb g, .agg [vi m, vi p, vi o, vi u, vi v], .own 4, vi h, .own 5, vt b, vi f]), .box 82 (.agg [vt false, vi 0]), .box 82 (.agg [vt false, vi 0]), .box 48 (.agg [vs ([] : LB), .nils, .agg [vi 0, vi 0, vi 0, vi 0, vi 0], .nils, vi 0, .nils, vt false, vi 0]), Ai 3 k, Ab 5 n], [[(2, .ptr 2 [])], [(2, .ptr 0 []), (4, .ptr 3 [])]]⟩
def x64 (kn37 : K_) (a : LB) (b : Bool) (f : Int) (bd : Bool) (aq : Int) (g : LB) (m p o u v h : Int) (k : LI) (n : LB) : Option R_ := H.e P_ [r,r,r,r,d,(lp kn37),d,l,(call 0 44),r,l,d,r,r,r,l,l,(call 1 64),r,r,l,r,l,r,r,r] ⟨[(0, .ptr 0 []), (2, .ptr 1 []), (3, vi 8), (4, vt bd), (5, vi aq)], [.box 48 (.agg [vs a, vb g, .agg [vi m, vi p, vi o, vi u, vi v], .own 4, vi h, .own 5, vt b, vi f]), .box 82 (.agg [vt false, vi 0]), .box 82 (.agg [vt false, vi 0]), .box 48 (.agg [vs ([] : LB), .nils, .agg [vi 0, vi 0, vi 0, vi 0, vi 0], .nils, vi 0, .nils, vt false, vi 0]), Ai 3 k, Ab 5 n], [[(2, .ptr 2 [])], [(2, .ptr 0 []), (4, .ptr 3 [])]]⟩
def x73 (kn37 : K_) (a : LB) (b : Bool) (f : Int) (g : LB) (m p o u v h : Int) (k : LI) (n : LB) : Option R_ := H.e P_ [r,r,r,r,d,(lp kn37),d,l,(call 0 44),r,l,d,r,r,r,l,l,(call 1 64),r,r,l,r,l,r,r] ⟨[(0, .ptr 0 []), (2, .ptr 1 []), (3, vi 8)], [.box 48 (.agg [vs a, vb g, .agg [vi m, vi p, vi o, vi u, vi v], .own 4, vi h, .own 5, vt b, vi f]), .box 82 (.agg [vt false, vi 0]), .box 82 (.agg [vt false, vi 0]), .box 48 (.agg [vs ([] : LB), .nils, .agg [vi 0, vi 0, vi 0, vi 0, vi 0], .nils, vi 0, .nils, vt false, vi 0]), Ai 3 k, Ab 5 n], [[(2, .ptr 2 [])], [(2, .ptr 0 []), (4, .ptr 3 [])]]⟩
def x78 (kn37 : K_) (a : LB) (b : Bool) (f m p o u v : Int) (k : LI) (bx : Bool) (bz : Int) (da : LB) (db : Int) (dc : LB) : Option R_ := H.e P_ [r,r,r,r,d,(lp kn37),d,l,(call 0 44),r,l,d,r,r,r,r,r,l,r] ⟨[(2, .ptr 0 [])], [.box 82 (.agg [vt bx, vi bz]), .box 48 (.agg [vs a, vb da, .agg [vi m, vi p, vi o, vi u, vi v], .own 3, vi db, .own 4, vt b, vi f]), .box 48 (.agg [vs ([] : LB), .nils, .agg [vi 0, vi 0, vi 0, vi 0, vi 0], .nils, vi 0, .nils, vt false, vi 0]), Ai 3 k, Ab 5 dc], [[(2, .ptr 1 []), (4, .ptr 2 [])]]⟩
def x77 (kn37 : K_) (a : LB) (b : Bool) (f w ag : Int) (g : LB) (m p o u v h : Int) (am : LX) (k : LI) (n : LB) : Option R_ := H.e P_ [r,r,r,r,d,(lp kn37),d,l,(call 0 44),r,l,d,r,r,r,r,r,l,l,(call 1 65),r,r,r,r,r,r,r,r] ⟨[(0, .ptr 0 []), (2, .ptr 1 []), (3, vi w), (5, vi ag), (7, .own 2)], [.box 48 (.agg [vs a, vb g, .agg [vi m, vi p, vi o, vi u, vi v], .own 5, vi h, .own 6, vt b, vi f]), .box 82 (.agg [vt false, vi 0]), Aw 21 am, .box 82 (.agg [vt false, vi 0]), .box 48 (.agg [vs ([] : LB), .nils, .agg [vi 0, vi 0, vi 0, vi 0, vi 0], .nils, vi 0, .nils, vt false, vi 0]), Ai 3 k, Ab 5 n], [[(2, .ptr 3 [])], [(2, .ptr 0 []), (4, .ptr 4 [])]]⟩
def x76 (kn37 : K_) (a : LB) (b : Bool) (f w : Int) (g : LB) (m p o u v h : Int) (an : LX) (ae k : LI) (n : LB) : Option R_ := H.e P_ [r,r,r,r,d,(lp kn37),d,l,(call 0 44),r,l,d,r,r,r,r,r,l,l,(call 1 65),r,r,r,r,r,r,r] ⟨[(0, .ptr 0 []), (2, .ptr 1 []), (3, vi w), (4, .ptr 2 []), (6, .own 3)], [.box 48 (.agg [vs a, vb g, .agg [vi m, vi p, vi o, vi u, vi v], .own 6, vi h, .own 7, vt b, vi f]), .box 82 (.agg [vt false, vi 0]), .box 164 (.val (.vec 16 (.int .i32)) an), Ai 3 ae, .box 82 (.agg [vt false, vi 0]), .box 48 (.agg [vs ([] : LB), .nils, .agg [vi 0, vi 0, vi 0, vi 0, vi 0], .nils, vi 0, .nils, vt false, vi 0]), Ai 3 k, Ab 5 n], [[(2, .ptr 4 [])], [(2, .ptr 0 []), (4, .ptr 5 [])]]⟩
def x37 (a : LB) (b : Bool) (f : Int) (g : LB) (m p o u v h : Int) (k : LI) (n : LB) : Option R_ := H.e P_ [r,r,r,r,d] (t37 a b f g m p o u v h k n)
theorem e71 (kn37 : K_) (a : LB) (b : Bool) (f : Int) : x71 kn37 a b f = Bl (fun g m p o u v h k n => kn37 (t37 a b f g m p o u v h k n)) a b f := by kernel_rfl
theorem e70 (kn37 : K_) (a : LB) (b : Bool) (f : Int) : x70 kn37 a b f = Aac (fun g m p o u v h k n => kn37 (t37 a b f g m p o u v h k n)) a b f := Eq.trans (b := Anl (x71 kn37 a b f) a b f) (by kernel_rfl) (by simp only [e71] <;> rfl)
theorem e62 (kn37 : K_) (a : LB) (b : Bool) (f : Int) : x62 kn37 a b f = Mn (fun g m p o u v h k n => kn37 (t37 a b f g m p o u v h k n)) a b f := Eq.trans (b := An7 (x71 kn37 a b f) a b f) (by kernel_rfl) (by simp only [e71] <;> rfl)
theorem e61 (kn37 : K_) (a : LB) (b : Bool) (f : Int) : x61 kn37 a b f = Ti (fun g m p o u v h k n => kn37 (t37 a b f g m p o u v h k n)) a b f := Eq.trans (b := Af1 (x62 kn37 a b f) a b f) (by kernel_rfl) (by simp only [e62] <;> rfl)
theorem e75 (kn37 : K_) (a : LB) (b : Bool) (f : Int) : x75 kn37 a b f = Js (fun g m p o u v h k n => kn37 (t37 a b f g m p o u v h k n)) a b f := Eq.trans (b := Anh (x71 kn37 a b f) a b f) (by kernel_rfl) (by simp only [e71] <;> rfl)
theorem e74 (kn37 : K_) (a : LB) (b : Bool) (f : Int) : x74 kn37 a b f = Jm (fun g m p o u v h k n => kn37 (t37 a b f g m p o u v h k n)) a b f := Eq.trans (b := Afv (x75 kn37 a b f) a b f) (by kernel_rfl) (by simp only [e75] <;> rfl)
theorem e64 (kn37 : K_) (a : LB) (b : Bool) (f : Int) : x64 kn37 a b f = Agc (fun g m p o u v h k n => kn37 (t37 a b f g m p o u v h k n)) a b f := Eq.trans (b := Agm (x75 kn37 a b f) (x74 kn37 a b f) a b f) (by kernel_rfl) (by simp only [e75, e74] <;> rfl)
theorem e73 (kn37 : K_) (a : LB) (b : Bool) (f : Int) : x73 kn37 a b f = Ta (fun g m p o u v h k n => kn37 (t37 a b f g m p o u v h k n)) a b f := Eq.trans (b := Ago (x64 kn37 a b f) a b f) (by kernel_rfl) (by simp only [e64] <;> rfl)
theorem e78 (kn37 : K_) (a : LB) (b : Bool) (f : Int) : x78 kn37 a b f = Mp (fun g m p o u v h k n => kn37 (t37 a b f g m p o u v h k n)) a b f := Eq.trans (b := Ang (x71 kn37 a b f) a b f) (by kernel_rfl) (by simp only [e71] <;> rfl)
theorem e77 (kn37 : K_) (a : LB) (b : Bool) (f : Int) : x77 kn37 a b f = Afy (fun g m p o u v h k n => kn37 (t37 a b f g m p o u v h k n)) a b f := Eq.trans (b := Aea (x78 kn37 a b f) a b f) (by kernel_rfl) (by rw [Aq6]; simp only [e78] <;> rfl)
theorem e76 (kn37 : K_) (a : LB) (b : Bool) (f : Int) : x76 kn37 a b f = Te (fun g m p o u v h k n => kn37 (t37 a b f g m p o u v h k n)) a b f := Eq.trans (b := Age (x77 kn37 a b f) a b f) (by kernel_rfl) (by simp only [e77] <;> rfl)
theorem i37 (a : LB) (b : Bool) (f : Int) : ∀ (q : Nat) (g : LB) (m p o u v h : Int) (k : LI) (n : LB), z37 q (t37 a b f g m p o u v h k n) = Ay a b f q g m p o u v h k n :=
 ind (fun _ _ _ _ _ _ _ _ _ => by kernel_rfl) fun q ih g m p o u v h k n => Eq.trans (b := Aec (x62 (z37 q) a b f) (x61 (z37 q) a b f) (x75 (z37 q) a b f) (x73 (z37 q) a b f) (x74 (z37 q) a b f) (x78 (z37 q) a b f) (x76 (z37 q) a b f) (x71 (z37 q) a b f) (x70 (z37 q) a b f) a b f g m p o u v h k n) (by kernel_rfl) (by rw [Arc]; simp only [e62, e61, e75, e73, e74, e78, e76, e71, e70, ih] <;> rfl)
theorem e37 : x37 = Aoc := by funext a b f g m p o u v h k n; exact Eq.trans (by kernel_rfl) ((i37 a b f Bm g m p o u v h k n).trans (by rw [Aj]; rfl))
noncomputable def F := u13 Ajj
theorem rn x : H.u P_ x = F x := Eq.trans (b := u13 (Aio x37) x) (by kernel_rfl) (by simp only [e37] <;> rfl)
noncomputable def c : Con := ⟨H.p, H.r, F⟩
theorem ok : ConOk P_ gl 22 c := cr H func22 (.cons F43.ok (.cons F45.ok (.cons F46.ok (.cons F66.ok (.cons F68.ok (.cons F69.ok (.cons Alp (.cons F79.ok (.cons F113.ok (.cons F114.ok (.cons F115.ok (.cons F116.ok (.cons F117.ok (.cons F118.ok (.cons F119.ok .nil))))))))))))))) (AnsOk.cons ent44 (AnsOk.cons ent63 (AnsOk.cons ent64 (AnsOk.cons ent65 AnsOk.nil)))) rn
end F22
namespace F138
abbrev R_ := (Int × Int)
noncomputable def H : Hd := ⟨[Sb], [Si, Si], (.seq .d (.seq .d (.cut [0, 4] [] .d .d))), ⟨[(37, F37.c), (183, F183.c), (184, F184.c), (185, F185.c)], gl, false⟩, [], f138⟩
def x2 (a : LB) : Option R_ := H.e P_ [r,r,r] ⟨[(0, vb a), (4, vi (Al (Ac a) (32 : Int)))], [], []⟩
theorem e2 : x2 = Arj := by kernel_rfl
noncomputable def F := Au7
theorem rn x : H.u P_ x = F x := Eq.trans (b := Ar2 x2 x) (by kernel_rfl) (by simp only [e2] <;> rfl)
noncomputable def c : Con := ⟨H.p, H.r, F⟩
theorem ok : ConOk P_ gl 138 c := co H func138 (.cons F37.ok (.cons F183.ok (.cons F184.ok (.cons F185.ok .nil)))) rn
end F138
namespace F80
abbrev R_ := (Int × Int)
abbrev K_ := S → Option R_
noncomputable def H : Hd := ⟨[Sb], [Si, Si], (.seq .d (.seq .d (.seq .d (.seq .d (.cut [5] [] (.blk (.loop [1, 4, 5] [] (.seq .d (.cut [1, 4, 5] [] (.blk (.cut [1, 4, 5, 6] [] (.keep [1, 4, 5, 6, 16, 17] true) .d)) .d)))) .d))))), ⟨[(138, F138.c)], gl, false⟩, [(137, .d)], f80⟩
def t8 (a : Int) (b : LB) : S := ⟨[(1, .ptr 0 []), (4, .fn 137 [.ptr 0 []]), (5, vi a)], [.box 22 (vb b)], []⟩
def z8 : Nat → S → Option R_ := H.i P_ [r,r,r,r,l,d]
def x14 (a : Int) : Option R_ := H.e P_ [r,r,r,r,r] ⟨[(5, vi a)], [], []⟩
def x12 (kn8 : K_) (a : Int) (g : LB) : Option R_ := H.e P_ [r,r,r,r,l,d,(lp kn8),r,r] ⟨[(1, .ptr 0 []), (4, .fn 137 [.ptr 0 []]), (5, vi a)], [.box 22 (vb g)], []⟩
def x11 (kn8 : K_) (a f : Int) (b : LB) : Option R_ := H.e P_ [r,r,r,r,l,d,(lp kn8),r,l,d,r] ⟨[(1, .ptr 0 []), (4, .fn 137 [.ptr 0 []]), (5, vi a), (6, vi f)], [.box 22 (vb b)], []⟩
def x8 (a : Int) (b : LB) : Option R_ := H.e P_ [r,r,r,r,l,d] (t8 a b)
theorem e14 : x14 = An5 := by kernel_rfl
theorem e12 (kn8 : K_) : x12 kn8 = Af2 (fun a b => kn8 (t8 a b)) := by kernel_rfl
theorem e11 (kn8 : K_) : x11 kn8 = Agh (fun a b => kn8 (t8 a b)) := Eq.trans (b := Aga (x12 kn8)) (by kernel_rfl) (by simp only [e12] <;> rfl)
theorem i8 : ∀ (q : Nat) (a : Int) (b : LB), z8 q (t8 a b) = Vd q a b :=
 ind (fun _ _ => by kernel_rfl) fun q ih a b => Eq.trans (b := Aip (x11 (z8 q)) x14 a b) (by kernel_rfl) (by simp only [e11, e14, ih] <;> rfl)
theorem e8 : x8 = Aqi := by funext a b; exact Eq.trans (by kernel_rfl) ((i8 Bm a b).trans (by rw [Aj]; rfl))
noncomputable def F := Ajh
theorem rn x : H.u P_ x = F x := Eq.trans (b := Aiq x8 x) (by kernel_rfl) (by simp only [e8] <;> rfl)
noncomputable def c : Con := ⟨H.p, H.r, F⟩
theorem ok : ConOk P_ gl 80 c := cr H func80 (.cons F138.ok .nil) (AnsOk.cons ent137 AnsOk.nil) rn
end F80
namespace F52
noncomputable def H : Hd := ⟨[.agg [Ss, Sb, .agg [Si, Si, Si, Si, Si], Sl, Si, Sb, Sz, Si]], [Si], .d, ⟨[(78, Abf), (79, F79.c), (80, F80.c)], gl, false⟩, [], f52⟩
noncomputable def F := u12 Aeq
theorem rn x : H.u P_ x = F x := by kernel_rfl
noncomputable def c : Con := ⟨H.p, H.r, F⟩
theorem ok : ConOk P_ gl 52 c := co H func52 (.cons Alp (.cons F79.ok (.cons F80.ok .nil))) rn
end F52
namespace F27
noncomputable def H : Hd := ⟨[.agg [Ss, Sb, .agg [Si, Si, Si, Si, Si], Sl, Si, Sb, Sz, Si]], [.agg [Ss, Ob 5, .agg [Si, Si, Si, Si, Si], Ol 3, Si, Sb, Sz, Si], Si], .d, ⟨[(43, F43.c), (46, F46.c), (52, F52.c)], gl, false⟩, [], f27⟩
noncomputable def F := u12 Aef
theorem rn x : H.u P_ x = F x := by kernel_rfl
noncomputable def c : Con := ⟨H.p, H.r, F⟩
theorem ok : ConOk P_ gl 27 c := co H func27 (.cons F43.ok (.cons F46.ok (.cons F52.ok .nil))) rn
end F27
namespace F34
abbrev R_ := (LB × Int)
abbrev K_ := S → Option R_
noncomputable def H : Hd := ⟨[Ss, Sb, Sl], [Sb, Si], (.seq .d (.seq .d (.seq .d (.cut [8] [] (.seq .d (.blk (.loop [1, 8, 20, 21, 22] [⟨8, [5], .ro (.int .u8)⟩] (.seq .d (.seq .d (.seq (.blk (.seq .d (.seq (.cut [1, 8, 9, 11, 20, 21, 22] [] (.mode false) .d) .d))) .d)))))) .d)))), ⟨[(21, F21.c), (22, F22.c), (27, F27.c)], gl, false⟩, [], f34⟩
def t7 (a : LI) (b : LB) (f : Int) (g : LB) (h k m n o p : Int) (u : LB) (v : Bool) (w : Int) (y : LB) (aa : LI) : S := ⟨[(1, vb b), (8, .ptr 0 []), (20, vl a), (21, vi (Ac a)), (22, vi f)], [.box 48 (.agg [vs g, .own 1, .agg [vi h, vi k, vi m, vi n, vi o], .own 2, vi p, vb u, vt v, vi w]), Ab 5 y, Ai 3 aa], []⟩
def z7 : Nat → S → Option R_ := H.i P_ [r,r,r,l,r,d]
def x12 (g : LB) (h k m n o p : Int) (u : LB) (v : Bool) (w : Int) (y : LB) (aa : LI) : Option R_ := H.e P_ [r,r,r,r] ⟨[(8, .ptr 0 [])], [.box 48 (.agg [vs g, .own 1, .agg [vi h, vi k, vi m, vi n, vi o], .own 2, vi p, vb u, vt v, vi w]), Ab 5 y, Ai 3 aa], []⟩
def x10 (kn7 : K_) (a : LI) (b : LB) (ag ah f : Int) (aj : LB) (ac ad ae ak af al : Int) (ai : LB) (am : Bool) (an : Int) (ao : LB) (ab : LI) : Option R_ := H.e P_ [r,r,r,l,r,d,(lp kn7),r,r,l,d,r,l,r] ⟨[(1, vb b), (8, .ptr 0 []), (9, vi ag), (11, vi ah), (20, vl a), (21, vi (Ac a)), (22, vi f)], [.box 48 (.agg [vs aj, .own 1, .agg [vi ac, vi ad, vi ae, vi ak, vi af], .own 2, vi al, vb ai, vt am, vi an]), Ab 5 ao, Ai 3 ab], []⟩
def x7 (a : LI) (b : LB) (f : Int) (g : LB) (h k m n o p : Int) (u : LB) (v : Bool) (w : Int) (y : LB) (aa : LI) : Option R_ := H.e P_ [r,r,r,l,r,d] (t7 a b f g h k m n o p u v w y aa)
theorem e12 : x12 = Ada := by kernel_rfl
theorem e10 (kn7 : K_) (a : LI) : x10 kn7 a = Ad6 (fun b f g h k m n o p u v w y aa => kn7 (t7 a b f g h k m n o p u v w y aa)) a := by kernel_rfl
theorem i7 (a : LI) : ∀ (q : Nat) (b : LB) (f : Int) (g : LB) (h k m n o p : Int) (u : LB) (v : Bool) (w : Int) (y : LB) (aa : LI), z7 q (t7 a b f g h k m n o p u v w y aa) = Tm a q b f g h k m n o p u v w y aa :=
 ind (fun _ _ _ _ _ _ _ _ _ _ _ _ _ _ => by kernel_rfl) fun q ih b f g h k m n o p u v w y aa => Eq.trans (b := Af7 (x10 (z7 q) a) x12 a b f g h k m n o p u v w y aa) (by kernel_rfl) (by simp only [e10, e12, ih] <;> rfl)
theorem e7 : x7 = Aoa := by funext a b f g h k m n o p u v w y aa; exact Eq.trans (by kernel_rfl) ((i7 a Bm b f g h k m n o p u v w y aa).trans (by rw [Aj]; rfl))
noncomputable def F := u3 Mi
theorem rn x : H.u P_ x = F x := Eq.trans (b := u3 (Af4 x7) x) (by kernel_rfl) (by simp only [e7] <;> rfl)
noncomputable def c : Con := ⟨H.p, H.r, F⟩
theorem ok : ConOk P_ gl 34 c := co H func34 (.cons F21.ok (.cons F22.ok (.cons F27.ok .nil))) rn
end F34
namespace F15
noncomputable def H : Hd := ⟨[Ss, Sb, Sq], [Sb, Si], .d, ⟨[(13, F13.c), (34, F34.c)], gl, false⟩, [], f15⟩
noncomputable def F := u3 Agv
theorem rn x : H.u P_ x = F x := by kernel_rfl
noncomputable def c : Con := ⟨H.p, H.r, F⟩
theorem ok : ConOk P_ gl 15 c := co H func15 (.cons F13.ok (.cons F34.ok .nil)) rn
end F15
namespace F39
abbrev R_ := Bool
noncomputable def H : Hd := ⟨[Sq, Si], [Sz], (.seq .d (.cut [0] [] (.seq .d (.blk (.loop [0, 1, 5] [] .d))) .d)), ⟨[], gl, false⟩, [], f39⟩
def t4 (b : Int) (a : UInt64) (f : Int) : S := ⟨[(0, vq a), (1, vi b), (5, vi f)], [], []⟩
def z4 : Nat → S → Option R_ := H.i P_ [r,l,r,d]
def x6 (a : UInt64) : Option R_ := H.e P_ [r,r] ⟨[(0, vq a)], [], []⟩
def x4 (b : Int) (a : UInt64) (f : Int) : Option R_ := H.e P_ [r,l,r,d] (t4 b a f)
theorem e6 : x6 = Aav := by kernel_rfl
theorem i4 (b : Int) : ∀ (q : Nat) (a : UInt64) (f : Int), z4 q (t4 b a f) = Ll b q a f :=
 ind (fun _ _ => by kernel_rfl) fun q ih a f => Eq.trans (b := Aa0 x6 (fun a f => (z4 q) (t4 b a f)) b a f) (by kernel_rfl) (by simp only [e6, ih] <;> rfl)
theorem e4 : x4 = Aja := by funext b a f; exact Eq.trans (by kernel_rfl) ((i4 b Bm a f).trans (by rw [Aj]; rfl))
noncomputable def F := u2 Aaa
theorem rn x : H.u P_ x = F x := Eq.trans (b := u2 (Ai2 x4) x) (by kernel_rfl) (by simp only [e4] <;> rfl)
noncomputable def c : Con := ⟨H.p, H.r, F⟩
theorem ok : ConOk P_ gl 39 c := co H func39 .nil rn
end F39
namespace F36
abbrev R_ := LI
abbrev K_ := S → Option R_
noncomputable def H : Hd := ⟨[Si, Sq], [Ol 3], (.seq .d (.seq .d (.seq .d (.cut [5] [] (.seq .d (.blk (.loop [0, 1, 5, 6, 7] [⟨5, [], .own 3 (.int .i64)⟩] (.seq .d (.seq (.blk (.cut [0, 1, 5, 6, 7, 21] [] .d .d)) .d))))) .d)))), ⟨[(39, F39.c)], gl, false⟩, [], f36⟩
def t7 (a : Int) (f : UInt64) (h g : Int) (b : LI) : S := ⟨[(0, vi a), (1, vq f), (5, .own 0), (6, vi h), (7, vi g)], [Ai 3 b], []⟩
def z7 : Nat → S → Option R_ := H.i P_ [r,r,r,l,r,d]
def x12 (b : LI) : Option R_ := H.e P_ [r,r,r,r] ⟨[(5, .own 0)], [Ai 3 b], []⟩
def x10 (kn7 : K_) (a : Int) (f : UInt64) (h g : Int) (b : LI) (k : Bool) : Option R_ := H.e P_ [r,r,r,l,r,d,(lp kn7),r,l,d,r] ⟨[(0, vi a), (1, vq f), (5, .own 0), (6, vi h), (7, vi g), (21, vt k)], [Ai 3 b], []⟩
def x7 (a : Int) (f : UInt64) (h g : Int) (b : LI) : Option R_ := H.e P_ [r,r,r,l,r,d] (t7 a f h g b)
theorem e12 : x12 = Ahw := by kernel_rfl
theorem e10 (kn7 : K_) (a : Int) (f : UInt64) : x10 kn7 a f = Ph (fun h g b => kn7 (t7 a f h g b)) a f := by kernel_rfl
theorem i7 (a : Int) (f : UInt64) : ∀ (q : Nat) (h g : Int) (b : LI), z7 q (t7 a f h g b) = Ft a f q h g b :=
 ind (fun _ _ _ => by kernel_rfl) fun q ih h g b => Eq.trans (b := Rn (x10 (z7 q) a f) x12 a f h g b) (by kernel_rfl) (by simp only [e10, e12, ih] <;> rfl)
theorem e7 : x7 = Aaw := by funext a f h g b; exact Eq.trans (by kernel_rfl) ((i7 a f Bm h g b).trans (by rw [Aj]; rfl))
noncomputable def F := u2 Rw
theorem rn x : H.u P_ x = F x := Eq.trans (b := u2 (Aaj x7) x) (by kernel_rfl) (by simp only [e7] <;> rfl)
noncomputable def c : Con := ⟨H.p, H.r, F⟩
theorem ok : ConOk P_ gl 36 c := co H func36 (.cons F39.ok .nil) rn
end F36
namespace F38
noncomputable def H : Hd := ⟨[Ss], [.agg [Ss, Ob 5, .agg [Si, Si, Si, Si, Si], Ol 3, Si, Ob 5, Sz, Si], Si], .d, ⟨[], gl, false⟩, [], f38⟩
noncomputable def F := Mk
theorem rn x : H.u P_ x = F x := by kernel_rfl
noncomputable def c : Con := ⟨H.p, H.r, F⟩
theorem ok : ConOk P_ gl 38 c := co H func38 .nil rn
end F38
namespace F123
noncomputable def H : Hd := ⟨[.agg [Si, Si, Si, Si, Si]], [Sz], .d, ⟨[], gl, false⟩, [], f123⟩
noncomputable def F := u5 Fs
theorem rn x : H.u P_ x = F x := by kernel_rfl
noncomputable def c : Con := ⟨H.p, H.r, F⟩
theorem ok : ConOk P_ gl 123 c := co H func123 .nil rn
end F123
namespace F171
noncomputable def H : Hd := ⟨[Si], [Si], .d, ⟨[], gl, false⟩, [], f171⟩
noncomputable def F := Qg
theorem rn x : H.u P_ x = F x := by kernel_rfl
noncomputable def c : Con := ⟨H.p, H.r, F⟩
theorem ok : ConOk P_ gl 171 c := co H func171 .nil rn
end F171
namespace F125
abbrev R_ := LI
noncomputable def H : Hd := ⟨[Si, Si], [Ol 3], (.seq .d (.seq .d (.cut [5] [] (.seq .d (.blk (.loop [0, 5, 6] [⟨5, [], .own 3 (.int .i64)⟩] .d))) .d))), ⟨[(171, F171.c)], gl, false⟩, [], f125⟩
def t4 (b f : Int) (a : LI) : S := ⟨[(0, vi b), (5, .own 0), (6, vi f)], [Ai 3 a], []⟩
def z4 : Nat → S → Option R_ := H.i P_ [r,r,l,r,d]
def x6 (a : LI) : Option R_ := H.e P_ [r,r,r] ⟨[(5, .own 0)], [Ai 3 a], []⟩
def x4 (b f : Int) (a : LI) : Option R_ := H.e P_ [r,r,l,r,d] (t4 b f a)
theorem e6 : x6 = Je := by kernel_rfl
theorem i4 (b : Int) : ∀ (q : Nat) (f : Int) (a : LI), z4 q (t4 b f a) = Da b q f a :=
 ind (fun _ _ => by kernel_rfl) fun q ih f a => Eq.trans (b := Gi x6 (fun f a => (z4 q) (t4 b f a)) b f a) (by kernel_rfl) (by simp only [e6, ih] <;> rfl)
theorem e4 : x4 = Wq := by funext b f a; exact Eq.trans (by kernel_rfl) ((i4 b Bm f a).trans (by rw [Aj]; rfl))
noncomputable def F := u2 Jj
theorem rn x : H.u P_ x = F x := Eq.trans (b := u2 (Xd x4) x) (by kernel_rfl) (by simp only [e4] <;> rfl)
noncomputable def c : Con := ⟨H.p, H.r, F⟩
theorem ok : ConOk P_ gl 125 c := co H func125 (.cons F171.ok .nil) rn
end F125
namespace F124
def Vy (h a k f b : Int) : Option Bool :=
(fun m : Option Bool =>
(fun n : Option Bool =>
bo (
n)) (
(Vf (Bn a 0)).bind fun _ =>
bo (
m))) (
if (Du b (Cn 4000 a)) then
some true
else
(Jj f b).bind fun g =>
some (Du (Ac g) 1000))
theorem Anb : @Vy = @Ih := by
  unfold Vy Ih
  simp only [Afm, Ws, Vr]
noncomputable def H : Hd := ⟨[.agg [Si, Si, Si, Si, Si]], [Sz], (.seq .d (.seq (.mode false) .d)), ⟨[(125, F125.c)], gl, false⟩, [], f124⟩
noncomputable def F := u5 Ih
theorem rn x : H.u P_ x = F x := Eq.trans (b := u5 Vy x) (by kernel_rfl) (by rw [Anb]; rfl)
noncomputable def c : Con := ⟨H.p, H.r, F⟩
theorem ok : ConOk P_ gl 124 c := co H func124 (.cons F125.ok .nil) rn
end F124
namespace F72
noncomputable def H : Hd := ⟨[.agg [Si, Si, Si, Si, Si]], [Si], .d, ⟨[(123, F123.c), (124, F124.c)], gl, false⟩, [], f72⟩
noncomputable def F := u5 Hf
theorem rn x : H.u P_ x = F x := by kernel_rfl
noncomputable def c : Con := ⟨H.p, H.r, F⟩
theorem ok : ConOk P_ gl 72 c := co H func72 (.cons F123.ok (.cons F124.ok .nil)) rn
end F72
namespace F73
noncomputable def H : Hd := ⟨[.agg [Si, Si, Si, Si, Si], Ss], [Si], .d, ⟨[], gl, false⟩, [], f73⟩
noncomputable def F := u6 He
theorem rn x : H.u P_ x = F x := by kernel_rfl
noncomputable def c : Con := ⟨H.p, H.r, F⟩
theorem ok : ConOk P_ gl 73 c := co H func73 .nil rn
end F73
namespace F74
abbrev R_ := Int
abbrev K_ := S → Option R_
noncomputable def H : Hd := ⟨[Sl], [Si], (.seq .d (.seq .d (.seq .d (.cut [3] [] (.seq .d (.blk (.loop [0, 3, 4] [] (.seq .d (.seq (.blk (.cut [0, 3, 4] [] .d .d)) .d))))) .d)))), ⟨[], gl, false⟩, [], f74⟩
def t6 (a : LI) (b f : Int) : S := ⟨[(0, vl a), (3, vi b), (4, vi f)], [], []⟩
def z6 : Nat → S → Option R_ := H.i P_ [r,r,r,l,r,d]
def x10 (b : Int) : Option R_ := H.e P_ [r,r,r,r] ⟨[(3, vi b)], [], []⟩
def x8 (kn6 : K_) (a : LI) (b f : Int) : Option R_ := H.e P_ [r,r,r,l,r,d,(lp kn6),r,l,d,r] ⟨[(0, vl a), (3, vi b), (4, vi f)], [], []⟩
def x6 (a : LI) (b f : Int) : Option R_ := H.e P_ [r,r,r,l,r,d] (t6 a b f)
theorem e10 : x10 = Ts := by kernel_rfl
theorem e8 (kn6 : K_) (a : LI) : x8 kn6 a = Vw (fun b f => kn6 (t6 a b f)) a := by kernel_rfl
theorem i6 (a : LI) : ∀ (q : Nat) (b f : Int), z6 q (t6 a b f) = Gn a q b f :=
 ind (fun _ _ => by kernel_rfl) fun q ih b f => Eq.trans (b := Nm (x8 (z6 q) a) x10 a b f) (by kernel_rfl) (by simp only [e8, e10, ih] <;> rfl)
theorem e6 : x6 = Wk := by funext a b f; exact Eq.trans (by kernel_rfl) ((i6 a Bm b f).trans (by rw [Aj]; rfl))
noncomputable def F := Er
theorem rn x : H.u P_ x = F x := Eq.trans (b := Nk x6 x) (by kernel_rfl) (by simp only [e6] <;> rfl)
noncomputable def c : Con := ⟨H.p, H.r, F⟩
theorem ok : ConOk P_ gl 74 c := co H func74 .nil rn
end F74
namespace F75
noncomputable def H : Hd := ⟨[.agg [Si, Si, Si, Si, Si]], [Ol 3], .d, ⟨[(125, F125.c)], gl, false⟩, [], f75⟩
noncomputable def F := u5 Dl
theorem rn x : H.u P_ x = F x := by kernel_rfl
noncomputable def c : Con := ⟨H.p, H.r, F⟩
theorem ok : ConOk P_ gl 75 c := co H func75 (.cons F125.ok .nil) rn
end F75
namespace F127
noncomputable def H : Hd := ⟨[.agg [Si, Si, Si, Si, Si]], [.agg [Si, Si]], .d, ⟨[], gl, false⟩, [], f127⟩
noncomputable def F := u5 Jo
theorem rn x : H.u P_ x = F x := by kernel_rfl
noncomputable def c : Con := ⟨H.p, H.r, F⟩
theorem ok : ConOk P_ gl 127 c := co H func127 .nil rn
end F127
namespace F126
noncomputable def H : Hd := ⟨[.agg [Si, Si]], [Si], .d, ⟨[], gl, false⟩, [], f126⟩
noncomputable def F := u2 Aak
theorem rn x : H.u P_ x = F x := by kernel_rfl
noncomputable def c : Con := ⟨H.p, H.r, F⟩
theorem ok : ConOk P_ gl 126 c := co H func126 .nil rn
end F126
namespace F76
abbrev R_ := Int
noncomputable def H : Hd := ⟨[.agg [Si, Si, Si, Si, Si], Si], [Si], (.seq .d (.seq .d (.seq .d (.cut [2, 6] [] (.seq .d (.blk (.loop [1, 2, 5, 6, 7] [] .d))) .d)))), ⟨[(75, F75.c), (126, F126.c), (127, F127.c)], gl, false⟩, [], f76⟩
def t4 (n a b f g h : Int) (m : LI) (k o : Int) : S := ⟨[(1, vi n), (2, .ptr 0 []), (5, .own 1), (6, vi k), (7, vi o)], [.box 46 (.agg [vi a, vi b, vi f, vi g, vi h]), Ai 3 m], []⟩
def z4 : Nat → S → Option R_ := H.i P_ [r,r,r,l,r,d]
def x6 (k a b f g h : Int) : Option R_ := H.e P_ [r,r,r,r] ⟨[(2, .ptr 0 []), (6, vi k)], [.box 46 (.agg [vi a, vi b, vi f, vi g, vi h])], []⟩
def x4 (n a b f g h : Int) (m : LI) (k o : Int) : Option R_ := H.e P_ [r,r,r,l,r,d] (t4 n a b f g h m k o)
theorem e6 : x6 = Yf := by kernel_rfl
theorem i4 (n a b f g h : Int) (m : LI) : ∀ (q : Nat) (k o : Int), z4 q (t4 n a b f g h m k o) = Hl n a b f g h m q k o :=
 ind (fun _ _ => by kernel_rfl) fun q ih k o => Eq.trans (b := Qh x6 (fun k o => (z4 q) (t4 n a b f g h m k o)) n a b f g h m k o) (by kernel_rfl) (by simp only [e6, ih] <;> rfl)
theorem e4 : x4 = Ah2 := by funext n a b f g h m k o; exact Eq.trans (by kernel_rfl) ((i4 n a b f g h m Bm k o).trans (by rw [Aj]; rfl))
noncomputable def F := u6 Pz
theorem rn x : H.u P_ x = F x := Eq.trans (b := u6 (Zd x4) x) (by kernel_rfl) (by simp only [e4] <;> rfl)
noncomputable def c : Con := ⟨H.p, H.r, F⟩
theorem ok : ConOk P_ gl 76 c := co H func76 (.cons F75.ok (.cons F126.ok (.cons F127.ok .nil))) rn
end F76
namespace F281
abbrev R_ := (Int × Int)
noncomputable def H : Hd := ⟨[Sb], [Si, Si], (.seq .d (.seq .d (.seq .d (.cut [4] [] (.seq .d (.blk (.loop [0, 4, 5] [] .d))) .d)))), ⟨[], gl, false⟩, [], f281⟩
def t4 (b : LB) (a f : Int) : S := ⟨[(0, vb b), (4, vi a), (5, vi f)], [], []⟩
def z4 : Nat → S → Option R_ := H.i P_ [r,r,r,l,r,d]
def x6 (a : Int) : Option R_ := H.e P_ [r,r,r,r] ⟨[(4, vi a)], [], []⟩
def x4 (b : LB) (a f : Int) : Option R_ := H.e P_ [r,r,r,l,r,d] (t4 b a f)
theorem e6 : x6 = Afb := by kernel_rfl
theorem i4 (b : LB) : ∀ (q : Nat) (a f : Int), z4 q (t4 b a f) = Gg b q a f :=
 ind (fun _ _ => by kernel_rfl) fun q ih a f => Eq.trans (b := Nu x6 (fun a f => (z4 q) (t4 b a f)) b a f) (by kernel_rfl) (by simp only [e6, ih] <;> rfl)
theorem e4 : x4 = Vx := by funext b a f; exact Eq.trans (by kernel_rfl) ((i4 b Bm a f).trans (by rw [Aj]; rfl))
noncomputable def F := Ux
theorem rn x : H.u P_ x = F x := Eq.trans (b := Ww x4 x) (by kernel_rfl) (by simp only [e4] <;> rfl)
noncomputable def c : Con := ⟨H.p, H.r, F⟩
theorem ok : ConOk P_ gl 281 c := co H func281 .nil rn
end F281
namespace F240
abbrev R_ := (Int × Int)
noncomputable def H : Hd := ⟨[Sb], [Si, Si], (.seq .d (.cut [0] [] .d (.seq .d (.seq .d (.cut [0, 4] [] .d (.seq .d (.cut [0, 6] [] .d .d))))))), ⟨[(281, F281.c)], gl, false⟩, [], f240⟩
def x6 (a : LB) (g : Int) : Option R_ := H.e P_ [r,r,r,r,r,r,r] ⟨[(0, vb a), (6, vi g)], [], []⟩
def x5 (a : LB) (b : Int) : Option R_ := H.e P_ [r,r,r,r,r] ⟨[(0, vb a), (4, vi b)], [], []⟩
def x4 (a : LB) : Option R_ := H.e P_ [r,r] ⟨[(0, vb a)], [], []⟩
theorem e6 : x6 = Pa := by kernel_rfl
theorem e5 : x5 = Pu := Eq.trans (b := Yq x6) (by kernel_rfl) (by simp only [e6] <;> rfl)
theorem e4 : x4 = Xz := Eq.trans (b := Yo x5) (by kernel_rfl) (by simp only [e5] <;> rfl)
noncomputable def F := Xx
theorem rn x : H.u P_ x = F x := Eq.trans (b := Yp x4 x) (by kernel_rfl) (by simp only [e4] <;> rfl)
noncomputable def c : Con := ⟨H.p, H.r, F⟩
theorem ok : ConOk P_ gl 240 c := co H func240 (.cons F281.ok .nil) rn
end F240
namespace F200
abbrev R_ := UInt64
noncomputable def H : Hd := ⟨[Sb], [Sq], (.seq .d (.seq .d (.cut [3] [] (.seq .d (.blk (.loop [0, 3, 4] [] .d))) .d))), ⟨[], gl, false⟩, [], f200⟩
def t4 (b : LB) (a : UInt64) (f : Int) : S := ⟨[(0, vb b), (3, vq a), (4, vi f)], [], []⟩
def z4 : Nat → S → Option R_ := H.i P_ [r,r,l,r,d]
def x6 (a : UInt64) : Option R_ := H.e P_ [r,r,r] ⟨[(3, vq a)], [], []⟩
def x4 (b : LB) (a : UInt64) (f : Int) : Option R_ := H.e P_ [r,r,l,r,d] (t4 b a f)
theorem e6 : x6 = Ab2 := by kernel_rfl
theorem i4 (b : LB) : ∀ (q : Nat) (a : UInt64) (f : Int), z4 q (t4 b a f) = Jn b q a f :=
 ind (fun _ _ => by kernel_rfl) fun q ih a f => Eq.trans (b := Ur x6 (fun a f => (z4 q) (t4 b a f)) b a f) (by kernel_rfl) (by simp only [e6, ih] <;> rfl)
theorem e4 : x4 = Abu := by funext b a f; exact Eq.trans (by kernel_rfl) ((i4 b Bm a f).trans (by rw [Aj]; rfl))
noncomputable def F := Ao
theorem rn x : H.u P_ x = F x := Eq.trans (b := Ab0 x4 x) (by kernel_rfl) (by simp only [e4] <;> rfl)
noncomputable def c : Con := ⟨H.p, H.r, F⟩
theorem ok : ConOk P_ gl 200 c := co H func200 .nil rn
end F200
namespace F243
noncomputable def H : Hd := ⟨[Sb], [Si, Si, Sz], .d, ⟨[(200, F200.c)], gl, false⟩, [], f243⟩
noncomputable def F := Ku
theorem rn x : H.u P_ x = F x := by kernel_rfl
noncomputable def c : Con := ⟨H.p, H.r, F⟩
theorem ok : ConOk P_ gl 243 c := co H func243 (.cons F200.ok .nil) rn
end F243
namespace F215
abbrev R_ := LB
noncomputable def H : Hd := ⟨[Sq, Si], [Ob 5], (.seq .d (.seq .d (.cut [5] [] (.seq .d (.blk (.loop [0, 1, 5, 6] [⟨5, [], .own 5 (.int .u8)⟩] .d))) .d))), ⟨[], gl, false⟩, [], f215⟩
def t4 (b : Int) (f : UInt64) (g : Int) (a : LB) : S := ⟨[(0, vq f), (1, vi b), (5, .own 0), (6, vi g)], [Ab 5 a], []⟩
def z4 : Nat → S → Option R_ := H.i P_ [r,r,l,r,d]
def x6 (a : LB) : Option R_ := H.e P_ [r,r,r] ⟨[(5, .own 0)], [Ab 5 a], []⟩
def x4 (b : Int) (f : UInt64) (g : Int) (a : LB) : Option R_ := H.e P_ [r,r,l,r,d] (t4 b f g a)
theorem e6 : x6 = Th := by kernel_rfl
theorem i4 (b : Int) : ∀ (q : Nat) (f : UInt64) (g : Int) (a : LB), z4 q (t4 b f g a) = Ei b q f g a :=
 ind (fun _ _ _ => by kernel_rfl) fun q ih f g a => Eq.trans (b := Kj x6 (fun f g a => (z4 q) (t4 b f g a)) b f g a) (by kernel_rfl) (by simp only [e6, ih] <;> rfl)
theorem e4 : x4 = Sa := by funext b f g a; exact Eq.trans (by kernel_rfl) ((i4 b Bm f g a).trans (by rw [Aj]; rfl))
noncomputable def F := u2 Ct
theorem rn x : H.u P_ x = F x := Eq.trans (b := u2 (So x4) x) (by kernel_rfl) (by simp only [e4] <;> rfl)
noncomputable def c : Con := ⟨H.p, H.r, F⟩
theorem ok : ConOk P_ gl 215 c := co H func215 .nil rn
end F215
namespace F283
noncomputable def H : Hd := ⟨[Si, Si, Sq], [Ob 5], .d, ⟨[(215, F215.c)], gl, false⟩, [], f283⟩
noncomputable def F := u3 Mq
theorem rn x : H.u P_ x = F x := by kernel_rfl
noncomputable def c : Con := ⟨H.p, H.r, F⟩
theorem ok : ConOk P_ gl 283 c := co H func283 (.cons F215.ok .nil) rn
end F283
namespace F245
noncomputable def H : Hd := ⟨[Si, Si], [Ob 5], .d, ⟨[(283, F283.c)], gl, false⟩, [], f245⟩
noncomputable def F := u2 Px
theorem rn x : H.u P_ x = F x := by kernel_rfl
noncomputable def c : Con := ⟨H.p, H.r, F⟩
theorem ok : ConOk P_ gl 245 c := co H func245 (.cons F283.ok .nil) rn
end F245
namespace F244
noncomputable def H : Hd := ⟨[Si, Si, Sz], [Ob 5], .d, ⟨[(283, F283.c)], gl, false⟩, [], f244⟩
noncomputable def F := u3 Di
theorem rn x : H.u P_ x = F x := by kernel_rfl
noncomputable def c : Con := ⟨H.p, H.r, F⟩
theorem ok : ConOk P_ gl 244 c := co H func244 (.cons F283.ok .nil) rn
end F244
namespace F241
abbrev R_ := (Int × Int)
noncomputable def H : Hd := ⟨[Sb], [Si, Si], (.seq .d (.cut [0] [] .d (.seq .d (.seq .d (.cut [0, 4, 5] [] .d .d))))), ⟨[(243, F243.c), (244, F244.c), (245, F245.c)], gl, false⟩, [], f241⟩
def x4 (a : LB) (b f : Int) : Option R_ := H.e P_ [r,r,r,r,r] ⟨[(0, vb a), (4, vi b), (5, vi f)], [], []⟩
def x3 (a : LB) : Option R_ := H.e P_ [r,r] ⟨[(0, vb a)], [], []⟩
theorem e4 : x4 = Wr := by kernel_rfl
theorem e3 : x3 = Wx := Eq.trans (b := Wn x4) (by kernel_rfl) (by simp only [e4] <;> rfl)
noncomputable def F := Us
theorem rn x : H.u P_ x = F x := Eq.trans (b := Wz x3 x) (by kernel_rfl) (by simp only [e3] <;> rfl)
noncomputable def c : Con := ⟨H.p, H.r, F⟩
theorem ok : ConOk P_ gl 241 c := co H func241 (.cons F243.ok (.cons F244.ok (.cons F245.ok .nil))) rn
end F241
namespace F199
abbrev R_ := (LI × Int)
abbrev K_ := S → Option R_
noncomputable def H : Hd := ⟨[Sb], [Ol 3, Si], (.seq .d (.seq .d (.seq .d (.blk (.loop [0, 4, 5] [⟨4, [], .own 3 (.int .i64)⟩] (.blk (.seq .d (.cut [0, 4, 5, 6, 7] [] .d .d)))))))), ⟨[(240, F240.c), (241, F241.c)], gl, false⟩, [], f199⟩
def t6 (a : LB) (b : Int) (f : LI) : S := ⟨[(0, vb a), (4, .own 0), (5, vi b)], [Ai 3 f], []⟩
def z6 : Nat → S → Option R_ := H.i P_ [r,r,r,d]
def x9 (kn6 : K_) (a : LB) (b : Int) (f : LI) (g h : Int) : Option R_ := H.e P_ [r,r,r,d,(lp kn6),d,r,r] ⟨[(0, vb a), (4, .own 0), (5, vi b), (6, vi g), (7, vi h)], [Ai 3 f], []⟩
def x6 (a : LB) (b : Int) (f : LI) : Option R_ := H.e P_ [r,r,r,d] (t6 a b f)
theorem e9 (kn6 : K_) (a : LB) : x9 kn6 a = Jh (fun b f => kn6 (t6 a b f)) a := by kernel_rfl
theorem i6 (a : LB) : ∀ (q : Nat) (b : Int) (f : LI), z6 q (t6 a b f) = Jf a q b f :=
 ind (fun _ _ => by kernel_rfl) fun q ih b f => Eq.trans (b := Nv (x9 (z6 q) a) a b f) (by kernel_rfl) (by simp only [e9, ih] <;> rfl)
theorem e6 : x6 = Ae8 := by funext a b f; exact Eq.trans (by kernel_rfl) ((i6 a Bm b f).trans (by rw [Aj]; rfl))
noncomputable def F := Aby
theorem rn x : H.u P_ x = F x := Eq.trans (b := Ae6 x6 x) (by kernel_rfl) (by simp only [e6] <;> rfl)
noncomputable def c : Con := ⟨H.p, H.r, F⟩
theorem ok : ConOk P_ gl 199 c := co H func199 (.cons F240.ok (.cons F241.ok .nil)) rn
end F199
namespace F157
abbrev R_ := (Int × Int)
noncomputable def H : Hd := ⟨[Sb], [Si, Si], (.seq .d (.seq .d (.seq .d (.cut [5, 6] [] (.seq .d (.blk (.loop [4, 5, 6, 7] [] .d))) .d)))), ⟨[(199, F199.c)], gl, false⟩, [], f157⟩
def t4 (a : Int) (f : LI) (b g : Int) : S := ⟨[(4, .own 0), (5, vi a), (6, vi b), (7, vi g)], [Ai 3 f], []⟩
def z4 : Nat → S → Option R_ := H.i P_ [r,r,r,l,r,d]
def x6 (a b : Int) : Option R_ := H.e P_ [r,r,r,r] ⟨[(5, vi a), (6, vi b)], [], []⟩
def x4 (a : Int) (f : LI) (b g : Int) : Option R_ := H.e P_ [r,r,r,l,r,d] (t4 a f b g)
theorem e6 : x6 = Xe := by kernel_rfl
theorem i4 (a : Int) (f : LI) : ∀ (q : Nat) (b g : Int), z4 q (t4 a f b g) = Gm a f q b g :=
 ind (fun _ _ => by kernel_rfl) fun q ih b g => Eq.trans (b := Nt x6 (fun b g => (z4 q) (t4 a f b g)) a f b g) (by kernel_rfl) (by simp only [e6, ih] <;> rfl)
theorem e4 : x4 = Ny := by funext a f b g; exact Eq.trans (by kernel_rfl) ((i4 a f Bm b g).trans (by rw [Aj]; rfl))
noncomputable def F := Mu
theorem rn x : H.u P_ x = F x := Eq.trans (b := Wt x4 x) (by kernel_rfl) (by simp only [e4] <;> rfl)
noncomputable def c : Con := ⟨H.p, H.r, F⟩
theorem ok : ConOk P_ gl 157 c := co H func157 (.cons F199.ok .nil) rn
end F157
namespace F172
noncomputable def H : Hd := ⟨[Sb, Ss], [Sz], .d, ⟨[], gl, false⟩, [], f172⟩
noncomputable def F := u2 Lq
theorem rn x : H.u P_ x = F x := by kernel_rfl
noncomputable def c : Con := ⟨H.p, H.r, F⟩
theorem ok : ConOk P_ gl 172 c := co H func172 .nil rn
end F172
namespace F302
abbrev R_ := UInt32
noncomputable def H : Hd := ⟨[Su, Si], [Su], (.seq .d (.seq .d (.cut [0, 5] [] .d .d))), ⟨[], gl, false⟩, [], f302⟩
def x2 (a : UInt32) (b : Bool) : Option R_ := H.e P_ [r,r,r] ⟨[(0, vu a), (5, vt b)], [], []⟩
theorem e2 : x2 = Zh := by kernel_rfl
noncomputable def F := u2 Xk
theorem rn x : H.u P_ x = F x := Eq.trans (b := u2 (Yg x2) x) (by kernel_rfl) (by simp only [e2] <;> rfl)
noncomputable def c : Con := ⟨H.p, H.r, F⟩
theorem ok : ConOk P_ gl 302 c := co H func302 .nil rn
end F302
namespace F282
abbrev R_ := UInt32
noncomputable def H : Hd := ⟨[Su, Sc], [Su], (.seq .d (.cut [0] [] (.seq .d (.blk (.loop [0, 1, 5] [] .d))) .d)), ⟨[(302, F302.c)], gl, false⟩, [], f282⟩
def t4 (a : UInt32) (b : UInt8) (f : Int) : S := ⟨[(0, vu a), (1, vc b), (5, vi f)], [], []⟩
def z4 : Nat → S → Option R_ := H.i P_ [r,l,r,d]
def x6 (a : UInt32) : Option R_ := H.e P_ [r,r] ⟨[(0, vu a)], [], []⟩
def x4 (a : UInt32) (b : UInt8) (f : Int) : Option R_ := H.e P_ [r,l,r,d] (t4 a b f)
theorem e6 : x6 = Yz := by kernel_rfl
theorem i4 : ∀ (q : Nat) (a : UInt32) (b : UInt8) (f : Int), z4 q (t4 a b f) = Hh q a b f :=
 ind (fun _ _ _ => by kernel_rfl) fun q ih a b f => Eq.trans (b := Pj x6 (fun a b f => (z4 q) (t4 a b f)) a b f) (by kernel_rfl) (by simp only [e6, ih] <;> rfl)
theorem e4 : x4 = Ahs := by funext a b f; exact Eq.trans (by kernel_rfl) ((i4 Bm a b f).trans (by rw [Aj]; rfl))
noncomputable def F := u2 Adr
theorem rn x : H.u P_ x = F x := Eq.trans (b := u2 (Ag6 x4) x) (by kernel_rfl) (by simp only [e4] <;> rfl)
noncomputable def c : Con := ⟨H.p, H.r, F⟩
theorem ok : ConOk P_ gl 282 c := co H func282 (.cons F302.ok .nil) rn
end F282
namespace F242
abbrev R_ := UInt32
noncomputable def H : Hd := ⟨[Su, Sb], [Su], (.seq .d (.cut [0] [] (.seq .d (.blk (.loop [0, 1, 5] [] .d))) .d)), ⟨[(282, F282.c)], gl, false⟩, [], f242⟩
def t4 (b : LB) (a : UInt32) (f : Int) : S := ⟨[(0, vu a), (1, vb b), (5, vi f)], [], []⟩
def z4 : Nat → S → Option R_ := H.i P_ [r,l,r,d]
def x6 (a : UInt32) : Option R_ := H.e P_ [r,r] ⟨[(0, vu a)], [], []⟩
def x4 (b : LB) (a : UInt32) (f : Int) : Option R_ := H.e P_ [r,l,r,d] (t4 b a f)
theorem e6 : x6 = Uc := by kernel_rfl
theorem i4 (b : LB) : ∀ (q : Nat) (a : UInt32) (f : Int), z4 q (t4 b a f) = Fg b q a f :=
 ind (fun _ _ => by kernel_rfl) fun q ih a f => Eq.trans (b := Md x6 (fun a f => (z4 q) (t4 b a f)) b a f) (by kernel_rfl) (by simp only [e6, ih] <;> rfl)
theorem e4 : x4 = Vc := by funext b a f; exact Eq.trans (by kernel_rfl) ((i4 b Bm a f).trans (by rw [Aj]; rfl))
noncomputable def F := u2 Aa3
theorem rn x : H.u P_ x = F x := Eq.trans (b := u2 (Ul x4) x) (by kernel_rfl) (by simp only [e4] <;> rfl)
noncomputable def c : Con := ⟨H.p, H.r, F⟩
theorem ok : ConOk P_ gl 242 c := co H func242 (.cons F282.ok .nil) rn
end F242
namespace F201
noncomputable def H : Hd := ⟨[Sb], [Su], .d, ⟨[(242, F242.c)], gl, false⟩, [], f201⟩
noncomputable def F := Oq
theorem rn x : H.u P_ x = F x := by kernel_rfl
noncomputable def c : Con := ⟨H.p, H.r, F⟩
theorem ok : ConOk P_ gl 201 c := co H func201 (.cons F242.ok .nil) rn
end F201
namespace F158
def Wb (j6 : UInt64 → UInt64 → UInt64 → UInt64 → UInt64 → Option (Int × Int × Int × Int × Int × Int)) (a : LB) : Option (Int × Int × Int × Int × Int × Int) :=
(Bc a 4 6).bind fun u =>
(Bc a 6 8).bind fun p =>
(Bc a 8 10).bind fun o =>
(Bc a 10 14).bind fun n =>
(Bc a 14 18).bind fun m =>
both (
(Ao u).bind fun k =>
both (
(Ao p).bind fun h =>
both (
(Ao o).bind fun g =>
both (
(Ao n).bind fun f =>
both (
(Ao m).bind fun b =>
bo (
j6 k h g f b)) [
(Ao m).bind fun b =>
j6 k h g f b]) [
(Ao n).bind fun f =>
(Ao m).bind fun b =>
j6 k h g f b]) [
(Ao o).bind fun g =>
(Ao n).bind fun f =>
(Ao m).bind fun b =>
j6 k h g f b]) [
(Ao p).bind fun h =>
(Ao o).bind fun g =>
(Ao n).bind fun f =>
(Ao m).bind fun b =>
j6 k h g f b]) [
(Ao u).bind fun k =>
(Ao p).bind fun h =>
(Ao o).bind fun g =>
(Ao n).bind fun f =>
(Ao m).bind fun b =>
j6 k h g f b]
theorem Amj : @Wb = @Pk := by
  unfold Wb Pk
  repeat (refine funext fun _ => ?_)
  repeat' first
    | with_reducible rfl
    | with_reducible refine Ez ?_ ?_
    | with_reducible refine Et ?_ ?_ ?_
    | with_reducible refine Ex ?_ ?_ ?_ ?_
    | ((with_reducible refine Hz ?_ ?_); focus (intro h; first | (subst h; rfl) | (simp only [h]; rfl) | (simp [Cv, Ac, h]; done)))
    | with_reducible refine Il fun x => ?_
    | with_reducible refine Ms (fun _ => ?_) (fun _ => ?_)
    | (refine Cj (fun h => by simp only [h, Im, Bu, Bs, ite_self]) (fun x h => ?_); (try simp only [h, Bu]))
    | (refine Dd (fun h => ?_) (fun h => ?_) <;> simp only [h, if_true, if_false, Bool.false_eq_true])
abbrev R_ := (Int × Int × Int × Int × Int × Int)
noncomputable def H : Hd := ⟨[Sb], [.agg [Si, Si, Si, Si, Si], Si], (.seq .d (.seq .d (.cut [0, 2] [] .d (.seq .d (.cut [0, 2] [] .d (.cut [2, 5] [] .d .d)))))), ⟨[(123, F123.c), (124, F124.c), (200, F200.c), (201, F201.c)], gl, false⟩, [], f158⟩
def x6 (k h g f b : UInt64) : Option R_ := H.e P_ [r,r,r,r,r,r] ⟨[(2, .ptr 0 []), (5, .ptr 1 [])], [.box 46 (.agg [vi 0, vi 0, vi 0, vi 0, vi 0]), .box 46 (.agg [vi (Ad k : Int), vi (Ad h : Int), vi (Ad g : Int), vi (Ad f : Int), vi (Ad b : Int)])], []⟩
def x5 (a : LB) : Option R_ := H.e P_ [r,r,r,r,r] ⟨[(0, vb a), (2, .ptr 0 [])], [.box 46 (.agg [vi 0, vi 0, vi 0, vi 0, vi 0])], []⟩
def x4 (a : LB) : Option R_ := H.e P_ [r,r,r] ⟨[(0, vb a), (2, .ptr 0 [])], [.box 46 (.agg [vi 0, vi 0, vi 0, vi 0, vi 0])], []⟩
theorem e6 : x6 = Yt := by kernel_rfl
theorem e5 : x5 = Zl := Eq.trans (b := Wb x6) (by kernel_rfl) (by rw [Amj]; simp only [e6] <;> rfl)
theorem e4 : x4 = Yb := Eq.trans (b := Za x5) (by kernel_rfl) (by simp only [e5] <;> rfl)
noncomputable def F := Pr
theorem rn x : H.u P_ x = F x := Eq.trans (b := Yl x4 x) (by kernel_rfl) (by simp only [e4] <;> rfl)
noncomputable def c : Con := ⟨H.p, H.r, F⟩
theorem ok : ConOk P_ gl 158 c := co H func158 (.cons F123.ok (.cons F124.ok (.cons F200.ok (.cons F201.ok .nil)))) rn
end F158
namespace F128
abbrev R_ := (Int × Int × Int × Int × Int × Int × Int)
noncomputable def H : Hd := ⟨[Sb], [Si, .agg [Si, Si, Si, Si, Si], Si], (.seq .d (.seq .d (.seq .d (.seq .d (.seq .d (.cut [3, 5, 7] [] .d (.seq .d (.seq .d (.seq (.mode false) .d))))))))), ⟨[(157, F157.c), (158, F158.c), (172, F172.c)], gl, false⟩, [], f128⟩
def x2 (b : Int) (a : LB) : Option R_ := H.e P_ [r,r,r,r,r,r] ⟨[(3, .ptr 0 []), (5, vi b), (7, vb a)], [.box 46 (.agg [vi 0, vi 0, vi 0, vi 0, vi 0])], []⟩
theorem e2 : x2 = Se := by kernel_rfl
noncomputable def F := Kf
theorem rn x : H.u P_ x = F x := Eq.trans (b := Ru x2 x) (by kernel_rfl) (by simp only [e2] <;> rfl)
noncomputable def c : Con := ⟨H.p, H.r, F⟩
theorem ok : ConOk P_ gl 128 c := co H func128 (.cons F157.ok (.cons F158.ok (.cons F172.ok .nil))) rn
end F128
namespace F308
abbrev R_ := UInt64
noncomputable def H : Hd := ⟨[Sq, Si], [Sq], (.seq .d (.seq .d (.cut [0, 5] [] .d .d))), ⟨[], gl, false⟩, [], f308⟩
def x2 (a : UInt64) (b : Bool) : Option R_ := H.e P_ [r,r,r] ⟨[(0, vq a), (5, vt b)], [], []⟩
theorem e2 : x2 = Pv := by kernel_rfl
noncomputable def F := u2 Xq
theorem rn x : H.u P_ x = F x := Eq.trans (b := u2 (Yw x2) x) (by kernel_rfl) (by simp only [e2] <;> rfl)
noncomputable def c : Con := ⟨H.p, H.r, F⟩
theorem ok : ConOk P_ gl 308 c := co H func308 .nil rn
end F308
namespace F289
abbrev R_ := UInt64
noncomputable def H : Hd := ⟨[Sq, Sc], [Sq], (.seq .d (.cut [0] [] (.seq .d (.blk (.loop [0, 1, 5] [] .d))) .d)), ⟨[(308, F308.c)], gl, false⟩, [], f289⟩
def t4 (b : UInt8) (a : UInt64) (f : Int) : S := ⟨[(0, vq a), (1, vc b), (5, vi f)], [], []⟩
def z4 : Nat → S → Option R_ := H.i P_ [r,l,r,d]
def x6 (a : UInt64) : Option R_ := H.e P_ [r,r] ⟨[(0, vq a)], [], []⟩
def x4 (b : UInt8) (a : UInt64) (f : Int) : Option R_ := H.e P_ [r,l,r,d] (t4 b a f)
theorem e6 : x6 = Zb := by kernel_rfl
theorem i4 (b : UInt8) : ∀ (q : Nat) (a : UInt64) (f : Int), z4 q (t4 b a f) = Hk b q a f :=
 ind (fun _ _ => by kernel_rfl) fun q ih a f => Eq.trans (b := Pg x6 (fun a f => (z4 q) (t4 b a f)) b a f) (by kernel_rfl) (by simp only [e6, ih] <;> rfl)
theorem e4 : x4 = Ag9 := by funext b a f; exact Eq.trans (by kernel_rfl) ((i4 b Bm a f).trans (by rw [Aj]; rfl))
noncomputable def F := u2 Ade
theorem rn x : H.u P_ x = F x := Eq.trans (b := u2 (Ahx x4) x) (by kernel_rfl) (by simp only [e4] <;> rfl)
noncomputable def c : Con := ⟨H.p, H.r, F⟩
theorem ok : ConOk P_ gl 289 c := co H func289 (.cons F308.ok .nil) rn
end F289
namespace F259
abbrev R_ := UInt64
noncomputable def H : Hd := ⟨[Sq, Sb], [Sq], (.seq .d (.cut [0] [] (.seq .d (.blk (.loop [0, 1, 5] [] .d))) .d)), ⟨[(289, F289.c)], gl, false⟩, [], f259⟩
def t4 (b : LB) (a : UInt64) (f : Int) : S := ⟨[(0, vq a), (1, vb b), (5, vi f)], [], []⟩
def z4 : Nat → S → Option R_ := H.i P_ [r,l,r,d]
def x6 (a : UInt64) : Option R_ := H.e P_ [r,r] ⟨[(0, vq a)], [], []⟩
def x4 (b : LB) (a : UInt64) (f : Int) : Option R_ := H.e P_ [r,l,r,d] (t4 b a f)
theorem e6 : x6 = Tz := by kernel_rfl
theorem i4 (b : LB) : ∀ (q : Nat) (a : UInt64) (f : Int), z4 q (t4 b a f) = Fj b q a f :=
 ind (fun _ _ => by kernel_rfl) fun q ih a f => Eq.trans (b := Ma x6 (fun a f => (z4 q) (t4 b a f)) b a f) (by kernel_rfl) (by simp only [e6, ih] <;> rfl)
theorem e4 : x4 = Ae0 := by funext b a f; exact Eq.trans (by kernel_rfl) ((i4 b Bm a f).trans (by rw [Aj]; rfl))
noncomputable def F := u2 Rp
theorem rn x : H.u P_ x = F x := Eq.trans (b := u2 (Ac6 x4) x) (by kernel_rfl) (by simp only [e4] <;> rfl)
noncomputable def c : Con := ⟨H.p, H.r, F⟩
theorem ok : ConOk P_ gl 259 c := co H func259 (.cons F289.ok .nil) rn
end F259
namespace F216
noncomputable def H : Hd := ⟨[Ss], [Sq], .d, ⟨[(259, F259.c)], gl, false⟩, [], f216⟩
noncomputable def F := Ac2
theorem rn x : H.u P_ x = F x := by kernel_rfl
noncomputable def c : Con := ⟨H.p, H.r, F⟩
theorem ok : ConOk P_ gl 216 c := co H func216 (.cons F259.ok .nil) rn
end F216
namespace F173
noncomputable def H : Hd := ⟨[Ss], [Ob 5], .d, ⟨[(215, F215.c), (216, F216.c)], gl, false⟩, [], f173⟩
noncomputable def F := Po
theorem rn x : H.u P_ x = F x := by kernel_rfl
noncomputable def c : Con := ⟨H.p, H.r, F⟩
theorem ok : ConOk P_ gl 173 c := co H func173 (.cons F215.ok (.cons F216.ok .nil)) rn
end F173
namespace F174
abbrev R_ := (LI × Int)
noncomputable def H : Hd := ⟨[Sb, Si], [Ol 3, Si], (.seq .d (.seq .d (.seq .d (.cut [0, 1] [] .d (.seq .d (.cut [6] [] (.seq .d (.blk (.loop [0, 1, 6, 7] [⟨6, [], .own 3 (.int .i64)⟩] .d))) .d)))))), ⟨[(74, F74.c), (200, F200.c), (201, F201.c)], gl, false⟩, [], f174⟩
def t6 (b : LB) (a g : Int) (f : LI) : S := ⟨[(0, vb b), (1, vi a), (6, .own 0), (7, vi g)], [Ai 3 f], []⟩
def z6 : Nat → S → Option R_ := H.i P_ [r,r,r,r,r,l,r,d]
def x8 (f : LI) : Option R_ := H.e P_ [r,r,r,r,r,r] ⟨[(6, .own 0)], [Ai 3 f], []⟩
def x6 (b : LB) (a g : Int) (f : LI) : Option R_ := H.e P_ [r,r,r,r,r,l,r,d] (t6 b a g f)
def x5 (b : LB) (a : Int) : Option R_ := H.e P_ [r,r,r,r] ⟨[(0, vb b), (1, vi a)], [], []⟩
theorem e8 : x8 = Pc := by kernel_rfl
theorem i6 (b : LB) (a : Int) : ∀ (q : Nat) (g : Int) (f : LI), z6 q (t6 b a g f) = Hi b a q g f :=
 ind (fun _ _ => by kernel_rfl) fun q ih g f => Eq.trans (b := Pb x8 (fun g f => (z6 q) (t6 b a g f)) b a g f) (by kernel_rfl) (by simp only [e8, ih] <;> rfl)
theorem e6 : x6 = Zi := by funext b a g f; exact Eq.trans (by kernel_rfl) ((i6 b a Bm g f).trans (by rw [Aj]; rfl))
theorem e5 : x5 = Yr := Eq.trans (b := Yx x6) (by kernel_rfl) (by simp only [e6] <;> rfl)
noncomputable def F := u2 Xu
theorem rn x : H.u P_ x = F x := Eq.trans (b := u2 (Xy x5) x) (by kernel_rfl) (by simp only [e5] <;> rfl)
noncomputable def c : Con := ⟨H.p, H.r, F⟩
theorem ok : ConOk P_ gl 174 c := co H func174 (.cons F74.ok (.cons F200.ok (.cons F201.ok .nil))) rn
end F174
namespace F129
abbrev R_ := (Int × LI × Int)
noncomputable def H : Hd := ⟨[Sb, .agg [Si, Si, Si, Si, Si], Ss], [Si, Ol 3, Si], (.seq .d (.seq .d (.cut [0, 4, 9] [] .d (.cut [9, 10, 11] [] .d .d)))), ⟨[(75, F75.c), (173, F173.c), (174, F174.c)], gl, false⟩, [], f129⟩
def x4 (b g : Int) (h : LI) : Option R_ := H.e P_ [r,r,r,r] ⟨[(9, vi b), (10, .own 0), (11, vi g)], [Ai 3 h], []⟩
def x3 (a : LB) (f k m n o b : Int) : Option R_ := H.e P_ [r,r,r] ⟨[(0, vb a), (4, .ptr 0 []), (9, vi b)], [.box 46 (.agg [vi f, vi k, vi m, vi n, vi o])], []⟩
theorem e4 : x4 = Uk := by kernel_rfl
theorem e3 : x3 = Fh := Eq.trans (b := Uv x4) (by kernel_rfl) (by simp only [e4] <;> rfl)
noncomputable def F := u7 Lg
theorem rn x : H.u P_ x = F x := Eq.trans (b := u7 (Mh x3) x) (by kernel_rfl) (by simp only [e3] <;> rfl)
noncomputable def c : Con := ⟨H.p, H.r, F⟩
theorem ok : ConOk P_ gl 129 c := co H func129 (.cons F75.ok (.cons F173.ok (.cons F174.ok .nil))) rn
end F129
namespace F260
noncomputable def H : Hd := ⟨[Sq, Sb], [Sq, Si], .d, ⟨[(259, F259.c)], gl, false⟩, [], f260⟩
noncomputable def F := u2 Aey
theorem rn x : H.u P_ x = F x := by kernel_rfl
noncomputable def c : Con := ⟨H.p, H.r, F⟩
theorem ok : ConOk P_ gl 260 c := co H func260 (.cons F259.ok .nil) rn
end F260
namespace F217
noncomputable def H : Hd := ⟨[Sb], [Sq, Si], .d, ⟨[(260, F260.c)], gl, false⟩, [], f217⟩
noncomputable def F := Afu
theorem rn x : H.u P_ x = F x := by kernel_rfl
noncomputable def c : Con := ⟨H.p, H.r, F⟩
theorem ok : ConOk P_ gl 217 c := co H func217 (.cons F260.ok .nil) rn
end F217
namespace F218
abbrev R_ := LX
abbrev K_ := S → Option R_
noncomputable def H : Hd := ⟨[Sq], [.lf (.vec 16 (.int .i32)) none], (.seq .d (.seq .d (.cut [2, 3] [] (.seq .d (.blk (.loop [0, 2, 3, 4] [] (.seq .d (.seq (.blk (.seq .d (.cut [0, 2, 3, 4, 5] [] .d .d))) .d))))) .d))), ⟨[], gl, false⟩, [], f218⟩
def t6 (b : UInt64) (f : Int) (a : LX) : S := ⟨[(0, vq b), (2, .ptr 0 []), (3, .ptr 1 []), (4, vi f)], [.box 164 (.val (.vec 16 (.int .i32)) (List.replicate 16 (0 : Int32))), .box 164 (.val (.vec 16 (.int .i32)) a)], []⟩
def z6 : Nat → S → Option R_ := H.i P_ [r,r,l,r,d]
def x10 (a : LX) : Option R_ := H.e P_ [r,r,r] ⟨[(2, .ptr 0 []), (3, .ptr 1 [])], [.box 164 (.val (.vec 16 (.int .i32)) (List.replicate 16 (0 : Int32))), .box 164 (.val (.vec 16 (.int .i32)) a)], []⟩
def x8 (kn6 : K_) (b : UInt64) (f : Int) (a : LX) (g : Int32) : Option R_ := H.e P_ [r,r,l,r,d,(lp kn6),r,l,d,r,r] ⟨[(0, vq b), (2, .ptr 0 []), (3, .ptr 1 []), (4, vi f), (5, vx g)], [.box 164 (.val (.vec 16 (.int .i32)) (List.replicate 16 (0 : Int32))), .box 164 (.val (.vec 16 (.int .i32)) a)], []⟩
def x6 (b : UInt64) (f : Int) (a : LX) : Option R_ := H.e P_ [r,r,l,r,d] (t6 b f a)
theorem e10 : x10 = Ai3 := by kernel_rfl
theorem e8 (kn6 : K_) : x8 kn6 = Up (fun b f a => kn6 (t6 b f a)) := by kernel_rfl
theorem i6 : ∀ (q : Nat) (b : UInt64) (f : Int) (a : LX), z6 q (t6 b f a) = Ha q b f a :=
 ind (fun _ _ _ => by kernel_rfl) fun q ih b f a => Eq.trans (b := Ue (x8 (z6 q)) x10 b f a) (by kernel_rfl) (by simp only [e8, e10, ih] <;> rfl)
theorem e6 : x6 = Aki := by funext b f a; exact Eq.trans (by kernel_rfl) ((i6 Bm b f a).trans (by rw [Aj]; rfl))
noncomputable def F := Air
theorem rn x : H.u P_ x = F x := Eq.trans (b := Alg x6 x) (by kernel_rfl) (by simp only [e6] <;> rfl)
noncomputable def c : Con := ⟨H.p, H.r, F⟩
theorem ok : ConOk P_ gl 218 c := co H func218 .nil rn
end F218
namespace F175
noncomputable def H : Hd := ⟨[Ss], [.lf (.vec 16 (.int .i32)) none, Si], .d, ⟨[(217, F217.c), (218, F218.c)], gl, false⟩, [], f175⟩
noncomputable def F := Xs
theorem rn x : H.u P_ x = F x := by kernel_rfl
noncomputable def c : Con := ⟨H.p, H.r, F⟩
theorem ok : ConOk P_ gl 175 c := co H func175 (.cons F217.ok (.cons F218.ok .nil)) rn
end F175
namespace F272
noncomputable def H : Hd := ⟨[Si], [Si], .d, ⟨[], gl, false⟩, [], f272⟩
noncomputable def F := Kw
theorem rn x : H.u P_ x = F x := by kernel_rfl
noncomputable def c : Con := ⟨H.p, H.r, F⟩
theorem ok : ConOk P_ gl 272 c := co H func272 .nil rn
end F272
namespace F261
noncomputable def H : Hd := ⟨[.agg [Si, Si]], [Si], .d, ⟨[(272, F272.c)], gl, false⟩, [], f261⟩
noncomputable def F := u2 Ty
theorem rn x : H.u P_ x = F x := by kernel_rfl
noncomputable def c : Con := ⟨H.p, H.r, F⟩
theorem ok : ConOk P_ gl 261 c := co H func261 (.cons F272.ok .nil) rn
end F261
namespace F219
noncomputable def H : Hd := ⟨[.agg [Si, Si], Si], [Si], .d, ⟨[(261, F261.c)], gl, false⟩, [], f219⟩
noncomputable def F := u3 Jq
theorem rn x : H.u P_ x = F x := by kernel_rfl
noncomputable def c : Con := ⟨H.p, H.r, F⟩
theorem ok : ConOk P_ gl 219 c := co H func219 (.cons F261.ok .nil) rn
end F219
namespace F262
noncomputable def H : Hd := ⟨[Sb], [Ob 5], .d, ⟨[(201, F201.c)], gl, false⟩, [], f262⟩
noncomputable def F := Rj
theorem rn x : H.u P_ x = F x := by kernel_rfl
noncomputable def c : Con := ⟨H.p, H.r, F⟩
theorem ok : ConOk P_ gl 262 c := co H func262 (.cons F201.ok .nil) rn
end F262
namespace F220
noncomputable def H : Hd := ⟨[Sb], [Si], .d, ⟨[(262, F262.c)], gl, false⟩, [], f220⟩
noncomputable def F := Lh
theorem rn x : H.u P_ x = F x := by kernel_rfl
noncomputable def c : Con := ⟨H.p, H.r, F⟩
theorem ok : ConOk P_ gl 220 c := co H func220 (.cons F262.ok .nil) rn
end F220
namespace F263
noncomputable def H : Hd := ⟨[], [.agg [Si, Si, Sq, Sq]], .d, ⟨[], gl, false⟩, [], f263⟩
noncomputable def F (x : Unit) := Jl
theorem rn x : H.u P_ x = F x := by kernel_rfl
noncomputable def c : Con := ⟨H.p, H.r, F⟩
theorem ok : ConOk P_ gl 263 c := co H func263 .nil rn
end F263
namespace F294
abbrev R_ := UInt64
noncomputable def H : Hd := ⟨[Si], [Sq], (.seq .d (.seq .d (.cut [3] [] (.seq .d (.blk (.loop [0, 3, 4] [] .d))) .d))), ⟨[], gl, false⟩, [], f294⟩
def t4 (b : Int) (a : UInt64) (f : Int) : S := ⟨[(0, vi b), (3, vq a), (4, vi f)], [], []⟩
def z4 : Nat → S → Option R_ := H.i P_ [r,r,l,r,d]
def x6 (a : UInt64) : Option R_ := H.e P_ [r,r,r] ⟨[(3, vq a)], [], []⟩
def x4 (b : Int) (a : UInt64) (f : Int) : Option R_ := H.e P_ [r,r,l,r,d] (t4 b a f)
theorem e6 : x6 = Afa := by kernel_rfl
theorem i4 (b : Int) : ∀ (q : Nat) (a : UInt64) (f : Int), z4 q (t4 b a f) = Gk b q a f :=
 ind (fun _ _ => by kernel_rfl) fun q ih a f => Eq.trans (b := Nj x6 (fun a f => (z4 q) (t4 b a f)) b a f) (by kernel_rfl) (by simp only [e6, ih] <;> rfl)
theorem e4 : x4 = Afj := by funext b a f; exact Eq.trans (by kernel_rfl) ((i4 b Bm a f).trans (by rw [Aj]; rfl))
noncomputable def F := Ds
theorem rn x : H.u P_ x = F x := Eq.trans (b := Afk x4 x) (by kernel_rfl) (by simp only [e4] <;> rfl)
noncomputable def c : Con := ⟨H.p, H.r, F⟩
theorem ok : ConOk P_ gl 294 c := co H func294 .nil rn
end F294
namespace F309
noncomputable def H : Hd := ⟨[.agg [Si, Si, Sq, Sq], Su], [Sz], .d, ⟨[(294, F294.c)], gl, false⟩, [], f309⟩
noncomputable def F := u5 Tc
theorem rn x : H.u P_ x = F x := by kernel_rfl
noncomputable def c : Con := ⟨H.p, H.r, F⟩
theorem ok : ConOk P_ gl 309 c := co H func309 (.cons F294.ok .nil) rn
end F309
namespace F311
noncomputable def H : Hd := ⟨[.agg [Si, Si, Sq, Sq], Su], [Su], .d, ⟨[(294, F294.c)], gl, false⟩, [], f311⟩
noncomputable def F := u5 Kx
theorem rn x : H.u P_ x = F x := by kernel_rfl
noncomputable def c : Con := ⟨H.p, H.r, F⟩
theorem ok : ConOk P_ gl 311 c := co H func311 (.cons F294.ok .nil) rn
end F311
namespace F310
abbrev R_ := (Int × UInt64)
noncomputable def H : Hd := ⟨[Si, Sq, Sq], [Si, Sq], (.seq .d (.seq .d (.cut [0, 1] [] .d .d))), ⟨[(294, F294.c)], gl, false⟩, [], f310⟩
def x2 (b : Int) (a f : UInt64) : Option R_ := H.e P_ [r,r,r] ⟨[(0, vi b), (1, vq (Al (Ae a f) (Cn a (16 : UInt64))))], [], []⟩
theorem e2 : x2 = Ps := by kernel_rfl
noncomputable def F := u3 Hs
theorem rn x : H.u P_ x = F x := Eq.trans (b := u3 (Zf x2) x) (by kernel_rfl) (by simp only [e2] <;> rfl)
noncomputable def c : Con := ⟨H.p, H.r, F⟩
theorem ok : ConOk P_ gl 310 c := co H func310 (.cons F294.ok .nil) rn
end F310
namespace F290
def Tj (j2 : UInt32 → Int → Int → UInt64 → UInt64 → Int → UInt64 → Option (Int × Int × UInt64 × UInt64)) (f a : Int) (g b : UInt64) (h : UInt32) : Option (Int × Int × UInt64 × UInt64) :=
(Tc f a g b h).bind fun u =>
if (!u) then
(fun w : Option (Int × Int × UInt64 × UInt64) =>
(fun v : Option (Int × Int × UInt64 × UInt64) =>
(fun y : Option (Int × Int × UInt64 × UInt64) =>
both (
y) [
y,
both (
v) [
v,
(Kx f a g b h).bind fun k =>
(fun ac : Option (Int × Int × UInt64 × UInt64) =>
bo (
ac)) (
(Hs a b (Ad k : UInt64)).bind fun (m, n) =>
j2 h f a g b m n)]]) (
both (
w) [
v])) (
bo (
w))) (
(Kx f a g b h).bind fun k =>
(Hs a b (Ad k : UInt64)).bind fun (m, n) =>
j2 h f a g b m n)
else
j2 h f a g b a b
theorem Akq : @Tj = @Mb := by
  unfold Tj Mb
  try simp only [Afm, Ws, Vr]
  all_goals
    repeat (refine funext fun _ => ?_)
    repeat' first
      | with_reducible rfl
      | with_reducible refine Ez ?_ ?_
      | with_reducible refine Et ?_ ?_ ?_
      | with_reducible refine Ex ?_ ?_ ?_ ?_
      | ((with_reducible refine Hz ?_ ?_); focus (intro h; first | (subst h; rfl) | (simp only [h]; rfl) | (simp [Cv, Ac, h]; done)))
      | with_reducible refine Il fun x => ?_
      | with_reducible refine Ms (fun _ => ?_) (fun _ => ?_)
      | (refine Cj (fun h => by simp only [h, Im, Bu, Bs, ite_self]) (fun x h => ?_); (try simp only [h, Bu]))
      | (refine Dd (fun h => ?_) (fun h => ?_) <;> simp only [h, if_true, if_false, Bool.false_eq_true])
abbrev R_ := (Int × Int × UInt64 × UInt64)
noncomputable def H : Hd := ⟨[.agg [Si, Si, Sq, Sq], Su], [.agg [Si, Si, Sq, Sq]], (.seq .d (.seq .d (.cut [1, 2, 4, 5] [] (.seq .d (.cond (.mode false) .d)) .d))), ⟨[(309, F309.c), (310, F310.c), (311, F311.c)], gl, false⟩, [], f290⟩
def x2 (h : UInt32) (f a : Int) (g b : UInt64) (o : Int) (p : UInt64) : Option R_ := H.e P_ [r,r,r] ⟨[(1, vu h), (2, .ptr 0 []), (4, .ptr 1 []), (5, .ptr 2 [])], [.box 258 (.agg [vi f, vi a, vq g, vq b]), .box 258 (.agg [vi 0, vi 0, vq 0, vq 0]), .box 258 (.agg [vi f, vi o, vq g, vq p])], []⟩
theorem e2 : x2 = Lu := by kernel_rfl
noncomputable def F := u5 Rh
theorem rn x : H.u P_ x = F x := Eq.trans (b := u5 (Tj x2) x) (by kernel_rfl) (by unfold F; rw [Akq]; simp only [e2] <;> rfl)
noncomputable def c : Con := ⟨H.p, H.r, F⟩
theorem ok : ConOk P_ gl 290 c := co H func290 (.cons F309.ok (.cons F310.ok (.cons F311.ok .nil))) rn
end F290
namespace F264
abbrev R_ := (Int × Int × UInt64 × UInt64)
noncomputable def H : Hd := ⟨[Si, Sv], [.agg [Si, Si, Sq, Sq]], (.seq .d (.seq .d (.cut [4, 5] [] (.seq .d (.blk (.loop [0, 1, 4, 5, 6] [] .d))) .d))), ⟨[(263, F263.c), (290, F290.c)], gl, false⟩, [], f264⟩
def t4 (h : Int) (k : LU) (m a b : Int) (f g : UInt64) : S := ⟨[(0, vi h), (1, vv k), (4, .ptr 0 []), (5, .ptr 1 []), (6, vi m)], [.box 258 (.agg [vi 0, vi 0, vq 0, vq 0]), .box 258 (.agg [vi a, vi b, vq f, vq g])], []⟩
def z4 : Nat → S → Option R_ := H.i P_ [r,r,l,r,d]
def x6 (a b : Int) (f g : UInt64) : Option R_ := H.e P_ [r,r,r] ⟨[(4, .ptr 0 []), (5, .ptr 1 [])], [.box 258 (.agg [vi 0, vi 0, vq 0, vq 0]), .box 258 (.agg [vi a, vi b, vq f, vq g])], []⟩
def x4 (h : Int) (k : LU) (m a b : Int) (f g : UInt64) : Option R_ := H.e P_ [r,r,l,r,d] (t4 h k m a b f g)
theorem e6 : x6 = Adp := by kernel_rfl
theorem i4 (h : Int) (k : LU) : ∀ (q : Nat) (m a b : Int) (f g : UInt64), z4 q (t4 h k m a b f g) = Hw h k q m a b f g :=
 ind (fun _ _ _ _ _ => by kernel_rfl) fun q ih m a b f g => Eq.trans (b := Vb x6 (fun m a b f g => (z4 q) (t4 h k m a b f g)) h k m a b f g) (by kernel_rfl) (by simp only [e6, ih] <;> rfl)
theorem e4 : x4 = Ad1 := by funext h k m a b f g; exact Eq.trans (by kernel_rfl) ((i4 h k Bm m a b f g).trans (by rw [Aj]; rfl))
noncomputable def F := u2 Lk
theorem rn x : H.u P_ x = F x := Eq.trans (b := u2 (Ud x4) x) (by kernel_rfl) (by simp only [e4] <;> rfl)
noncomputable def c : Con := ⟨H.p, H.r, F⟩
theorem ok : ConOk P_ gl 264 c := co H func264 (.cons F263.ok (.cons F290.ok .nil)) rn
end F264
namespace F267
abbrev R_ := Int
noncomputable def H : Hd := ⟨[.agg [Sb, Si], Si], [Si], (.seq .d (.seq .d (.cut [5] [] (.seq .d (.blk (.loop [1, 5, 6] [] .d))) .d))), ⟨[], gl, false⟩, [], f267⟩
def t4 (b a f : Int) : S := ⟨[(1, vi b), (5, vi a), (6, vi f)], [], []⟩
def z4 : Nat → S → Option R_ := H.i P_ [r,r,l,r,d]
def x6 (a : Int) : Option R_ := H.e P_ [r,r,r] ⟨[(5, vi a)], [], []⟩
def x4 (b a f : Int) : Option R_ := H.e P_ [r,r,l,r,d] (t4 b a f)
theorem e6 : x6 = Abx := by kernel_rfl
theorem i4 (b : Int) : ∀ (q : Nat) (a f : Int), z4 q (t4 b a f) = Jp b q a f :=
 ind (fun _ _ => by kernel_rfl) fun q ih a f => Eq.trans (b := Uu x6 (fun a f => (z4 q) (t4 b a f)) b a f) (by kernel_rfl) (by simp only [e6, ih] <;> rfl)
theorem e4 : x4 = Abw := by funext b a f; exact Eq.trans (by kernel_rfl) ((i4 b Bm a f).trans (by rw [Aj]; rfl))
noncomputable def F := u3 Iz
theorem rn x : H.u P_ x = F x := Eq.trans (b := u3 (Ab3 x4) x) (by kernel_rfl) (by simp only [e4] <;> rfl)
noncomputable def c : Con := ⟨H.p, H.r, F⟩
theorem ok : ConOk P_ gl 267 c := co H func267 .nil rn
end F267
namespace F291
abbrev R_ := (LB × Int)
noncomputable def H : Hd := ⟨[.agg [Ob 5, Si], Si], [.agg [Ob 5, Si]], (.seq .d (.cut [1, 2, 4] [] .d (.seq .d (.cut [1, 2, 4, 5] [] (.seq .d (.blk (.loop [1, 2, 4, 5, 6] [] .d))) .d)))), ⟨[], gl, false⟩, [], f291⟩
def t6 (b a : Int) (f : LB) (g h : Int) : S := ⟨[(1, vi b), (2, .ptr 0 []), (4, .ptr 1 []), (5, vi g), (6, vi h)], [.box 224 (.agg [.own 2, vi a]), .box 224 (.agg [.nils, vi 0]), Ab 5 f], []⟩
def z6 : Nat → S → Option R_ := H.i P_ [r,r,r,l,r,d]
def x8 (b g a : Int) (f : LB) : Option R_ := H.e P_ [r,r,r,r] ⟨[(1, vi b), (2, .ptr 0 []), (4, .ptr 1 []), (5, vi g)], [.box 224 (.agg [.own 2, vi a]), .box 224 (.agg [.nils, vi 0]), Ab 5 f], []⟩
def x6 (b a : Int) (f : LB) (g h : Int) : Option R_ := H.e P_ [r,r,r,l,r,d] (t6 b a f g h)
def x5 (b a : Int) (f : LB) : Option R_ := H.e P_ [r,r] ⟨[(1, vi b), (2, .ptr 0 []), (4, .ptr 1 [])], [.box 224 (.agg [.own 2, vi a]), .box 224 (.agg [.nils, vi 0]), Ab 5 f], []⟩
theorem e8 : x8 = Rg := by kernel_rfl
theorem i6 (b a : Int) (f : LB) : ∀ (q : Nat) (g h : Int), z6 q (t6 b a f g h) = Ip b a f q g h :=
 ind (fun _ _ => by kernel_rfl) fun q ih g h => Eq.trans (b := Rt x8 (fun g h => (z6 q) (t6 b a f g h)) b a f g h) (by kernel_rfl) (by simp only [e8, ih] <;> rfl)
theorem e6 : x6 = Aas := by funext b a f g h; exact Eq.trans (by kernel_rfl) ((i6 b a f Bm g h).trans (by rw [Aj]; rfl))
theorem e5 : x5 = Ri := Eq.trans (b := Aal x6) (by kernel_rfl) (by simp only [e6] <;> rfl)
noncomputable def F := u3 Td
theorem rn x : H.u P_ x = F x := Eq.trans (b := u3 (Aat x5) x) (by kernel_rfl) (by simp only [e5] <;> rfl)
noncomputable def c : Con := ⟨H.p, H.r, F⟩
theorem ok : ConOk P_ gl 291 c := co H func291 .nil rn
end F291
namespace F265
abbrev R_ := (LB × Int)
noncomputable def H : Hd := ⟨[.agg [Sb, Si], Si, Si], [.agg [Ob 5, Si]], (.seq .d (.seq .d (.cut [6, 7] [] (.seq .d (.blk (.loop [2, 3, 6, 7, 8] [⟨7, [0], .own 5 (.int .u8)⟩] .d))) .d))), ⟨[(267, F267.c), (291, F291.c)], gl, false⟩, [], f265⟩
def t4 (f : Int) (g : LB) (h k a : Int) (b : LB) : S := ⟨[(2, vi f), (3, .ptr 0 []), (6, .ptr 1 []), (7, .ptr 2 []), (8, vi k)], [.box 224 (.agg [vb g, vi h]), .box 224 (.agg [.nils, vi 0]), .box 224 (.agg [.own 3, vi a]), Ab 5 b], []⟩
def z4 : Nat → S → Option R_ := H.i P_ [r,r,l,r,d]
def x6 (a : Int) (b : LB) : Option R_ := H.e P_ [r,r,r] ⟨[(6, .ptr 0 []), (7, .ptr 1 [])], [.box 224 (.agg [.nils, vi 0]), .box 224 (.agg [.own 2, vi a]), Ab 5 b], []⟩
def x4 (f : Int) (g : LB) (h k a : Int) (b : LB) : Option R_ := H.e P_ [r,r,l,r,d] (t4 f g h k a b)
theorem e6 : x6 = Acd := by kernel_rfl
theorem i4 (f : Int) (g : LB) (h : Int) : ∀ (q : Nat) (k a : Int) (b : LB), z4 q (t4 f g h k a b) = El f g h q k a b :=
 ind (fun _ _ _ => by kernel_rfl) fun q ih k a b => Eq.trans (b := Km x6 (fun k a b => (z4 q) (t4 f g h k a b)) f g h k a b) (by kernel_rfl) (by simp only [e6, ih] <;> rfl)
theorem e4 : x4 = Acp := by funext f g h k a b; exact Eq.trans (by kernel_rfl) ((i4 f g h Bm k a b).trans (by rw [Aj]; rfl))
noncomputable def F := u4 Zg
theorem rn x : H.u P_ x = F x := Eq.trans (b := u4 (Acy x4) x) (by kernel_rfl) (by simp only [e4] <;> rfl)
noncomputable def c : Con := ⟨H.p, H.r, F⟩
theorem ok : ConOk P_ gl 265 c := co H func265 (.cons F267.ok (.cons F291.ok .nil)) rn
end F265
namespace F292
abbrev R_ := UInt64
noncomputable def H : Hd := ⟨[.agg [Sb, Si], Si, Si], [Sq], (.seq .d (.seq .d (.cut [7] [] (.seq .d (.blk (.loop [1, 3, 7, 8] [] .d))) .d))), ⟨[(267, F267.c)], gl, false⟩, [], f292⟩
def t4 (b : Int) (f : LB) (g : Int) (a : UInt64) (h : Int) : S := ⟨[(1, vi b), (3, .ptr 0 []), (7, vq a), (8, vi h)], [.box 224 (.agg [vb f, vi g])], []⟩
def z4 : Nat → S → Option R_ := H.i P_ [r,r,l,r,d]
def x6 (a : UInt64) : Option R_ := H.e P_ [r,r,r] ⟨[(7, vq a)], [], []⟩
def x4 (b : Int) (f : LB) (g : Int) (a : UInt64) (h : Int) : Option R_ := H.e P_ [r,r,l,r,d] (t4 b f g a h)
theorem e6 : x6 = Afp := by kernel_rfl
theorem i4 (b : Int) (f : LB) (g : Int) : ∀ (q : Nat) (a : UInt64) (h : Int), z4 q (t4 b f g a h) = Gl b f g q a h :=
 ind (fun _ _ => by kernel_rfl) fun q ih a h => Eq.trans (b := Ni x6 (fun a h => (z4 q) (t4 b f g a h)) b f g a h) (by kernel_rfl) (by simp only [e6, ih] <;> rfl)
theorem e4 : x4 = Wc := by funext b f g a h; exact Eq.trans (by kernel_rfl) ((i4 b f g Bm a h).trans (by rw [Aj]; rfl))
noncomputable def F := u4 Nc
theorem rn x : H.u P_ x = F x := Eq.trans (b := u4 (Xa x4) x) (by kernel_rfl) (by simp only [e4] <;> rfl)
noncomputable def c : Con := ⟨H.p, H.r, F⟩
theorem ok : ConOk P_ gl 292 c := co H func292 (.cons F267.ok .nil) rn
end F292
namespace F312
abbrev R_ := (Int × Int)
noncomputable def H : Hd := ⟨[.agg [Sb, Si], Si], [Si, Si], (.seq .d (.seq .d (.cut [1, 2, 6] [] (.blk (.loop [1, 2, 6] [] .d)) .d))), ⟨[(267, F267.c)], gl, false⟩, [], f312⟩
def t4 (b : Int) (g : LB) (f a : Int) : S := ⟨[(1, vi b), (2, .ptr 0 []), (6, vi a)], [.box 224 (.agg [vb g, vi f])], []⟩
def z4 : Nat → S → Option R_ := H.i P_ [r,r,l,d]
def x6 (b a : Int) (g : LB) (f : Int) : Option R_ := H.e P_ [r,r,r] ⟨[(1, vi b), (2, .ptr 0 []), (6, vi a)], [.box 224 (.agg [vb g, vi f])], []⟩
def x4 (b : Int) (g : LB) (f a : Int) : Option R_ := H.e P_ [r,r,l,d] (t4 b g f a)
theorem e6 : x6 = Rs := by kernel_rfl
theorem i4 (b : Int) (g : LB) (f : Int) : ∀ (q : Nat) (a : Int), z4 q (t4 b g f a) = Iv b g f q a :=
 ind (fun _ => by kernel_rfl) fun q ih a => Eq.trans (b := Rk x6 (fun a => (z4 q) (t4 b g f a)) b g f a) (by kernel_rfl) (by simp only [e6, ih] <;> rfl)
theorem e4 : x4 = Ai9 := by funext b g f a; exact Eq.trans (by kernel_rfl) ((i4 b g f Bm a).trans (by rw [Aj]; rfl))
noncomputable def F := u3 Afw
theorem rn x : H.u P_ x = F x := Eq.trans (b := u3 (Aiz x4) x) (by kernel_rfl) (by simp only [e4] <;> rfl)
noncomputable def c : Con := ⟨H.p, H.r, F⟩
theorem ok : ConOk P_ gl 312 c := co H func312 (.cons F267.ok .nil) rn
end F312
namespace F313
noncomputable def H : Hd := ⟨[Su, Si], [Si], .d, ⟨[(294, F294.c)], gl, false⟩, [], f313⟩
noncomputable def F := u2 Xh
theorem rn x : H.u P_ x = F x := by kernel_rfl
noncomputable def c : Con := ⟨H.p, H.r, F⟩
theorem ok : ConOk P_ gl 313 c := co H func313 (.cons F294.ok .nil) rn
end F313
namespace F293
abbrev R_ := (UInt32 × Int × Int)
noncomputable def H : Hd := ⟨[.agg [Sb, Si], Si, Si], [Su, Si, Si], (.seq .d (.seq .d (.seq .d (.seq .d (.cut [2, 3, 9, 10, 11] [] .d .d))))), ⟨[(292, F292.c), (294, F294.c), (312, F312.c), (313, F313.c)], gl, false⟩, [], f293⟩
def x2 (g a b : Int) (h : LB) (f k : Int) : Option R_ := H.e P_ [r,r,r,r,r] ⟨[(2, vi g), (3, .ptr 0 []), (9, vi a), (10, vi b), (11, vi k)], [.box 224 (.agg [vb h, vi f])], []⟩
theorem e2 : x2 = Rf := by kernel_rfl
noncomputable def F := u4 Zt
theorem rn x : H.u P_ x = F x := Eq.trans (b := u4 (Aa4 x2) x) (by kernel_rfl) (by simp only [e2] <;> rfl)
noncomputable def c : Con := ⟨H.p, H.r, F⟩
theorem ok : ConOk P_ gl 293 c := co H func293 (.cons F292.ok (.cons F294.ok (.cons F312.ok (.cons F313.ok .nil)))) rn
end F293
namespace F266
noncomputable def H : Hd := ⟨[.agg [Sb, Si], Si, .agg [Si, Si, Sq, Sq]], [Su, Si, Si], .d, ⟨[(267, F267.c), (292, F292.c), (293, F293.c), (294, F294.c)], gl, false⟩, [], f266⟩
noncomputable def F := u7 Aag
theorem rn x : H.u P_ x = F x := by kernel_rfl
noncomputable def c : Con := ⟨H.p, H.r, F⟩
theorem ok : ConOk P_ gl 266 c := co H func266 (.cons F267.ok (.cons F292.ok (.cons F293.ok (.cons F294.ok .nil)))) rn
end F266
namespace F221
abbrev R_ := (LU × Int)
abbrev K_ := S → Option R_
noncomputable def H : Hd := ⟨[Si, Si, Sb], [Ov 23, Si], (.seq .d (.seq .d (.seq .d (.seq .d (.cut [8, 9, 10] [] (.seq .d (.blk (.loop [0, 1, 8, 9, 10, 11] [⟨9, [], .own 23 (.int .u32)⟩] (.seq .d (.seq (.blk (.seq .d (.cut [0, 1, 8, 9, 10, 11, 12] [] .d .d))) .d))))) (.seq .d (.cut [9] [] (.blk (.loop [8, 9, 10] [] .d)) .d))))))), ⟨[(263, F263.c), (264, F264.c), (265, F265.c), (266, F266.c), (267, F267.c)], gl, false⟩, [], f221⟩
def t16 (a : LB) (b : LU) (m : Int) : S := ⟨[(8, .ptr 0 []), (9, .own 1), (10, vi m)], [.box 224 (.agg [vb a, vi (Bq (8 : Int) (Ac a))]), Av 23 b], []⟩
def z16 : Nat → S → Option R_ := H.i P_ [r,r,r,r,r,r,l,d]
def t10 (g h : Int) (a : LB) (f k : Int) (b : LU) : S := ⟨[(0, vi g), (1, vi h), (8, .ptr 0 []), (9, .own 1), (10, vi f), (11, vi k)], [.box 224 (.agg [vb a, vi (Bq (8 : Int) (Ac a))]), Av 23 b], []⟩
def z10 : Nat → S → Option R_ := H.i P_ [r,r,r,r,l,r,d]
def x18 (b : LU) : Option R_ := H.e P_ [r,r,r,r,r,r,r] ⟨[(9, .own 0)], [Av 23 b], []⟩
def x16 (a : LB) (b : LU) (m : Int) : Option R_ := H.e P_ [r,r,r,r,r,r,l,d] (t16 a b m)
def x15 (f : Int) (a : LB) (b : LU) : Option R_ := H.e P_ [r,r,r,r,r] ⟨[(8, .ptr 0 []), (9, .own 1), (10, vi f)], [.box 224 (.agg [vb a, vi (Bq (8 : Int) (Ac a))]), Av 23 b], []⟩
def x13 (kn10 : K_) (g h : Int) (a : LB) (f k : Int) (b : LU) (o p : Int) (u v : UInt64) : Option R_ := H.e P_ [r,r,r,r,l,r,d,(lp kn10),r,l,d,r,r] ⟨[(0, vi g), (1, vi h), (8, .ptr 0 []), (9, .own 1), (10, vi f), (11, vi k), (12, .ptr 2 [])], [.box 224 (.agg [vb a, vi (Bq (8 : Int) (Ac a))]), Av 23 b, .box 258 (.agg [vi o, vi p, vq u, vq v])], []⟩
def x10 (g h : Int) (a : LB) (f k : Int) (b : LU) : Option R_ := H.e P_ [r,r,r,r,l,r,d] (t10 g h a f k b)
theorem e18 : x18 = Ae4 := by kernel_rfl
theorem i16 (a : LB) (b : LU) : ∀ (q : Nat) (m : Int), z16 q (t16 a b m) = Gb a b q m :=
 ind (fun _ => by kernel_rfl) fun q ih m => Eq.trans (b := Np x18 (fun m => (z16 q) (t16 a b m)) a b m) (by kernel_rfl) (by simp only [e18, ih] <;> rfl)
theorem e16 : x16 = Vp := by funext a b m; exact Eq.trans (by kernel_rfl) ((i16 a b Bm m).trans (by rw [Aj]; rfl))
theorem e15 : x15 = Nr := Eq.trans (b := We x16) (by kernel_rfl) (by simp only [e16] <;> rfl)
theorem e13 (kn10 : K_) (g h : Int) (a : LB) : x13 kn10 g h a = Gj (fun f k b => kn10 (t10 g h a f k b)) g h a := by kernel_rfl
theorem i10 (g h : Int) (a : LB) : ∀ (q : Nat) (f k : Int) (b : LU), z10 q (t10 g h a f k b) = Cz g h a q f k b :=
 ind (fun _ _ _ => by kernel_rfl) fun q ih f k b => Eq.trans (b := Wu (x13 (z10 q) g h a) x15 g h a f k b) (by kernel_rfl) (by simp only [e13, e15, ih] <;> rfl)
theorem e10 : x10 = Afc := by funext g h a f k b; exact Eq.trans (by kernel_rfl) ((i10 g h a Bm f k b).trans (by rw [Aj]; rfl))
noncomputable def F := u3 Xr
theorem rn x : H.u P_ x = F x := Eq.trans (b := u3 (Yu x10) x) (by kernel_rfl) (by simp only [e10] <;> rfl)
noncomputable def c : Con := ⟨H.p, H.r, F⟩
theorem ok : ConOk P_ gl 221 c := co H func221 (.cons F263.ok (.cons F264.ok (.cons F265.ok (.cons F266.ok (.cons F267.ok .nil))))) rn
end F221
namespace F314
noncomputable def H : Hd := ⟨[Si], [Si, Si], .d, ⟨[], gl, false⟩, [], f314⟩
noncomputable def F := Alo
theorem rn x : H.u P_ x = F x := by kernel_rfl
noncomputable def c : Con := ⟨H.p, H.r, F⟩
theorem ok : ConOk P_ gl 314 c := co H func314 .nil rn
end F314
namespace F295
noncomputable def H : Hd := ⟨[Si, .lf (.vec 16 (.int .i32)) none], [.agg [Si, .lf (.vec 16 (.int .i32)) none, .lf (.vec 16 (.int .i32)) none], Si], .d, ⟨[(314, F314.c)], gl, false⟩, [], f295⟩
noncomputable def F := u2 Anw
theorem rn x : H.u P_ x = F x := by kernel_rfl
noncomputable def c : Con := ⟨H.p, H.r, F⟩
theorem ok : ConOk P_ gl 295 c := co H func295 (.cons F314.ok .nil) rn
end F295
namespace F268
noncomputable def H : Hd := ⟨[Si, .lf (.vec 16 (.int .i32)) none], [.agg [Si, Sx, .agg [Si, .lf (.vec 16 (.int .i32)) none, .lf (.vec 16 (.int .i32)) none]], Si], .d, ⟨[(295, F295.c)], gl, false⟩, [], f268⟩
noncomputable def F := u2 Agn
theorem rn x : H.u P_ x = F x := by kernel_rfl
noncomputable def c : Con := ⟨H.p, H.r, F⟩
theorem ok : ConOk P_ gl 268 c := co H func268 (.cons F295.ok .nil) rn
end F268
namespace F270
noncomputable def H : Hd := ⟨[Su], [Sx], .d, ⟨[], gl, false⟩, [], f270⟩
noncomputable def F := Kv
theorem rn x : H.u P_ x = F x := by kernel_rfl
noncomputable def c : Con := ⟨H.p, H.r, F⟩
theorem ok : ConOk P_ gl 270 c := co H func270 .nil rn
end F270
namespace F297
noncomputable def H : Hd := ⟨[Si], [Sx], .d, ⟨[], gl, false⟩, [], f297⟩
noncomputable def F := Bz
theorem rn x : H.u P_ x = F x := by kernel_rfl
noncomputable def c : Con := ⟨H.p, H.r, F⟩
theorem ok : ConOk P_ gl 297 c := co H func297 .nil rn
end F297
namespace F320
abbrev R_ := Int32
noncomputable def H : Hd := ⟨[.agg [Si, .lf (.vec 16 (.int .i32)) none, .lf (.vec 16 (.int .i32)) none]], [Sx], (.seq .d (.seq .d (.cut [3] [] (.seq .d (.blk (.loop [1, 3, 4] [] .d))) .d))), ⟨[(297, F297.c)], gl, false⟩, [], f320⟩
def t4 (h : Int) (f g : LX) (a b : Int) : S := ⟨[(1, .ptr 0 []), (3, vi a), (4, vi b)], [.box 281 (.agg [vi h, .val (.vec 16 (.int .i32)) f, .val (.vec 16 (.int .i32)) g])], []⟩
def z4 : Nat → S → Option R_ := H.i P_ [r,r,l,r,d]
def x6 (a : Int) : Option R_ := H.e P_ [r,r,r] ⟨[(3, vi a)], [], []⟩
def x4 (h : Int) (f g : LX) (a b : Int) : Option R_ := H.e P_ [r,r,l,r,d] (t4 h f g a b)
theorem e6 : x6 = Aar := by kernel_rfl
theorem i4 (h : Int) (f g : LX) : ∀ (q : Nat) (a b : Int), z4 q (t4 h f g a b) = Iu h f g q a b :=
 ind (fun _ _ => by kernel_rfl) fun q ih a b => Eq.trans (b := Rc x6 (fun a b => (z4 q) (t4 h f g a b)) h f g a b) (by kernel_rfl) (by simp only [e6, ih] <;> rfl)
theorem e4 : x4 = Ai6 := by funext h f g a b; exact Eq.trans (by kernel_rfl) ((i4 h f g Bm a b).trans (by rw [Aj]; rfl))
noncomputable def F := u3 Af6
theorem rn x : H.u P_ x = F x := Eq.trans (b := u3 (Ai5 x4) x) (by kernel_rfl) (by simp only [e4] <;> rfl)
noncomputable def c : Con := ⟨H.p, H.r, F⟩
theorem ok : ConOk P_ gl 320 c := co H func320 (.cons F297.ok .nil) rn
end F320
namespace F315
abbrev R_ := Int32
noncomputable def H : Hd := ⟨[.agg [Si, .lf (.vec 16 (.int .i32)) none, .lf (.vec 16 (.int .i32)) none]], [Sx], (.seq .d (.seq .d (.cut [1, 3] [] .d .d))), ⟨[(297, F297.c), (320, F320.c)], gl, false⟩, [], f315⟩
def x2 (b : Int) (f g : LX) (a : Int) : Option R_ := H.e P_ [r,r,r] ⟨[(1, .ptr 0 []), (3, vi a)], [.box 281 (.agg [vi b, .val (.vec 16 (.int .i32)) f, .val (.vec 16 (.int .i32)) g])], []⟩
theorem e2 : x2 = Qc := by kernel_rfl
noncomputable def F := u3 Xm
theorem rn x : H.u P_ x = F x := Eq.trans (b := u3 (Yn x2) x) (by kernel_rfl) (by simp only [e2] <;> rfl)
noncomputable def c : Con := ⟨H.p, H.r, F⟩
theorem ok : ConOk P_ gl 315 c := co H func315 (.cons F297.ok (.cons F320.ok .nil)) rn
end F315
namespace F321
noncomputable def H : Hd := ⟨[Si], [Sx], .d, ⟨[], gl, false⟩, [], f321⟩
noncomputable def F := Xl
theorem rn x : H.u P_ x = F x := by kernel_rfl
noncomputable def c : Con := ⟨H.p, H.r, F⟩
theorem ok : ConOk P_ gl 321 c := co H func321 .nil rn
end F321
namespace F322
noncomputable def H : Hd := ⟨[Sx], [Sx], .d, ⟨[], gl, false⟩, [], f322⟩
noncomputable def F := Qe
theorem rn x : H.u P_ x = F x := by kernel_rfl
noncomputable def c : Con := ⟨H.p, H.r, F⟩
theorem ok : ConOk P_ gl 322 c := co H func322 .nil rn
end F322
namespace F317
abbrev R_ := (Int × LX × LX)
noncomputable def H : Hd := ⟨[.agg [Si, .lf (.vec 16 (.int .i32)) none, .lf (.vec 16 (.int .i32)) none], Sx], [.agg [Si, .lf (.vec 16 (.int .i32)) none, .lf (.vec 16 (.int .i32)) none]], (.seq .d (.cut [2, 4] [] (.seq .d (.blk (.loop [1, 2, 4, 5] [] .d))) .d)), ⟨[(321, F321.c), (322, F322.c)], gl, false⟩, [], f317⟩
def t4 (h : Int32) (g : Int) (a : LX) (f : Int) (b : LX) : S := ⟨[(1, vx h), (2, .ptr 0 []), (4, .ptr 1 []), (5, vi f)], [.box 281 (.agg [vi g, .val (.vec 16 (.int .i32)) b, .val (.vec 16 (.int .i32)) a]), .box 281 (.agg [vi 0, .val (.vec 16 (.int .i32)) (List.replicate 16 (0 : Int32)), .val (.vec 16 (.int .i32)) (List.replicate 16 (0 : Int32))])], []⟩
def z4 : Nat → S → Option R_ := H.i P_ [r,l,r,d]
def x6 (g : Int) (b a : LX) : Option R_ := H.e P_ [r,r] ⟨[(2, .ptr 0 []), (4, .ptr 1 [])], [.box 281 (.agg [vi g, .val (.vec 16 (.int .i32)) b, .val (.vec 16 (.int .i32)) a]), .box 281 (.agg [vi 0, .val (.vec 16 (.int .i32)) (List.replicate 16 (0 : Int32)), .val (.vec 16 (.int .i32)) (List.replicate 16 (0 : Int32))])], []⟩
def x4 (h : Int32) (g : Int) (a : LX) (f : Int) (b : LX) : Option R_ := H.e P_ [r,l,r,d] (t4 h g a f b)
theorem e6 : x6 = Ac0 := by kernel_rfl
theorem i4 (h : Int32) (g : Int) (a : LX) : ∀ (q : Nat) (f : Int) (b : LX), z4 q (t4 h g a f b) = Eo h g a q f b :=
 ind (fun _ _ => by kernel_rfl) fun q ih f b => Eq.trans (b := Kn x6 (fun f b => (z4 q) (t4 h g a f b)) h g a f b) (by kernel_rfl) (by simp only [e6, ih] <;> rfl)
theorem e4 : x4 = Acr := by funext h g a f b; exact Eq.trans (by kernel_rfl) ((i4 h g a Bm f b).trans (by rw [Aj]; rfl))
noncomputable def F := u4 Yy
theorem rn x : H.u P_ x = F x := Eq.trans (b := u4 (Aci x4) x) (by kernel_rfl) (by simp only [e4] <;> rfl)
noncomputable def c : Con := ⟨H.p, H.r, F⟩
theorem ok : ConOk P_ gl 317 c := co H func317 (.cons F321.ok (.cons F322.ok .nil)) rn
end F317
namespace F316
abbrev R_ := (Int × LX × LX)
noncomputable def H : Hd := ⟨[.agg [Si, .lf (.vec 16 (.int .i32)) none, .lf (.vec 16 (.int .i32)) none], Sx], [.agg [Si, .lf (.vec 16 (.int .i32)) none, .lf (.vec 16 (.int .i32)) none]], (.seq .d (.cut [1, 2, 4] [] (.seq .d (.blk (.loop [1, 2, 4, 5] [] .d))) .d)), ⟨[], gl, false⟩, [], f316⟩
def t4 (b : Int32) (f : Int) (g : LX) (h : Int) (a : LX) : S := ⟨[(1, vx b), (2, .ptr 0 []), (4, .ptr 1 []), (5, vi h)], [.box 281 (.agg [vi f, .val (.vec 16 (.int .i32)) g, .val (.vec 16 (.int .i32)) a]), .box 281 (.agg [vi 0, .val (.vec 16 (.int .i32)) (List.replicate 16 (0 : Int32)), .val (.vec 16 (.int .i32)) (List.replicate 16 (0 : Int32))])], []⟩
def z4 : Nat → S → Option R_ := H.i P_ [r,l,r,d]
def x6 (b : Int32) (f : Int) (g a : LX) : Option R_ := H.e P_ [r,r] ⟨[(1, vx b), (2, .ptr 0 []), (4, .ptr 1 [])], [.box 281 (.agg [vi f, .val (.vec 16 (.int .i32)) g, .val (.vec 16 (.int .i32)) a]), .box 281 (.agg [vi 0, .val (.vec 16 (.int .i32)) (List.replicate 16 (0 : Int32)), .val (.vec 16 (.int .i32)) (List.replicate 16 (0 : Int32))])], []⟩
def x4 (b : Int32) (f : Int) (g : LX) (h : Int) (a : LX) : Option R_ := H.e P_ [r,l,r,d] (t4 b f g h a)
theorem e6 : x6 = Ub := by kernel_rfl
theorem i4 (b : Int32) (f : Int) (g : LX) : ∀ (q : Nat) (h : Int) (a : LX), z4 q (t4 b f g h a) = Fi b f g q h a :=
 ind (fun _ _ => by kernel_rfl) fun q ih h a => Eq.trans (b := Ly x6 (fun h a => (z4 q) (t4 b f g h a)) b f g h a) (by kernel_rfl) (by simp only [e6, ih] <;> rfl)
theorem e4 : x4 = Aeo := by funext b f g h a; exact Eq.trans (by kernel_rfl) ((i4 b f g Bm h a).trans (by rw [Aj]; rfl))
noncomputable def F := u4 Aa2
theorem rn x : H.u P_ x = F x := Eq.trans (b := u4 (Aek x4) x) (by kernel_rfl) (by simp only [e4] <;> rfl)
noncomputable def c : Con := ⟨H.p, H.r, F⟩
theorem ok : ConOk P_ gl 316 c := co H func316 .nil rn
end F316
namespace F296
noncomputable def H : Hd := ⟨[.agg [Si, .lf (.vec 16 (.int .i32)) none, .lf (.vec 16 (.int .i32)) none], Sx], [Sx, .agg [Si, .lf (.vec 16 (.int .i32)) none, .lf (.vec 16 (.int .i32)) none]], .d, ⟨[(297, F297.c), (315, F315.c), (316, F316.c), (317, F317.c)], gl, false⟩, [], f296⟩
noncomputable def F := u4 Qf
theorem rn x : H.u P_ x = F x := by kernel_rfl
noncomputable def c : Con := ⟨H.p, H.r, F⟩
theorem ok : ConOk P_ gl 296 c := co H func296 (.cons F297.ok (.cons F315.ok (.cons F316.ok (.cons F317.ok .nil)))) rn
end F296
namespace F318
abbrev R_ := Int32
noncomputable def H : Hd := ⟨[Si, Sx], [Sx], (.seq .d (.seq .d (.cut [1, 5] [] .d .d))), ⟨[], gl, false⟩, [], f318⟩
def x2 (b : Int32) (a : Int) : Option R_ := H.e P_ [r,r,r] ⟨[(1, vx b), (5, vi a)], [], []⟩
theorem e2 : x2 = Lz := by kernel_rfl
noncomputable def F := u2 Lf
theorem rn x : H.u P_ x = F x := Eq.trans (b := u2 (Uw x2) x) (by kernel_rfl) (by simp only [e2] <;> rfl)
noncomputable def c : Con := ⟨H.p, H.r, F⟩
theorem ok : ConOk P_ gl 318 c := co H func318 .nil rn
end F318
namespace F298
noncomputable def H : Hd := ⟨[.agg [Si, Sx, .agg [Si, .lf (.vec 16 (.int .i32)) none, .lf (.vec 16 (.int .i32)) none]]], [Si], .d, ⟨[(318, F318.c)], gl, false⟩, [], f298⟩
noncomputable def F := u5 Re
theorem rn x : H.u P_ x = F x := by kernel_rfl
noncomputable def c : Con := ⟨H.p, H.r, F⟩
theorem ok : ConOk P_ gl 298 c := co H func298 (.cons F318.ok .nil) rn
end F298
namespace F269
noncomputable def H : Hd := ⟨[.agg [Si, Sx, .agg [Si, .lf (.vec 16 (.int .i32)) none, .lf (.vec 16 (.int .i32)) none]], Sx], [Sx, .agg [Si, Sx, .agg [Si, .lf (.vec 16 (.int .i32)) none, .lf (.vec 16 (.int .i32)) none]]], .d, ⟨[(296, F296.c), (297, F297.c), (298, F298.c)], gl, false⟩, [], f269⟩
noncomputable def F := u6 Hg
theorem rn x : H.u P_ x = F x := by kernel_rfl
noncomputable def c : Con := ⟨H.p, H.r, F⟩
theorem ok : ConOk P_ gl 269 c := co H func269 (.cons F296.ok (.cons F297.ok (.cons F298.ok .nil))) rn
end F269
namespace F299
noncomputable def H : Hd := ⟨[Si, Sw], [Si], .d, ⟨[], gl, false⟩, [], f299⟩
noncomputable def F := u2 Nb
theorem rn x : H.u P_ x = F x := by kernel_rfl
noncomputable def c : Con := ⟨H.p, H.r, F⟩
theorem ok : ConOk P_ gl 299 c := co H func299 .nil rn
end F299
namespace F300
abbrev R_ := LX
noncomputable def H : Hd := ⟨[Sw], [Ow 21], (.seq .d (.seq .d (.seq .d (.seq .d (.cut [0, 3, 4] [] .d (.cut [4] [] (.seq .d (.blk (.loop [0, 4, 5] [] .d))) .d)))))), ⟨[(297, F297.c)], gl, false⟩, [], f300⟩
def t6 (a : LX) (f : Int) (b : LX) : S := ⟨[(0, vw a), (4, .own 0), (5, vi f)], [Aw 21 b], []⟩
def z6 : Nat → S → Option R_ := H.i P_ [r,r,r,r,r,l,r,d]
def x8 (b : LX) : Option R_ := H.e P_ [r,r,r,r,r,r] ⟨[(4, .own 0)], [Aw 21 b], []⟩
def x6 (a : LX) (f : Int) (b : LX) : Option R_ := H.e P_ [r,r,r,r,r,l,r,d] (t6 a f b)
def x5 (a g : LX) : Option R_ := H.e P_ [r,r,r,r,r] ⟨[(0, vw a), (3, vi (Ac a)), (4, .own 0)], [Aw 21 g], []⟩
theorem e8 : x8 = Acg := by kernel_rfl
theorem i6 (a : LX) : ∀ (q : Nat) (f : Int) (b : LX), z6 q (t6 a f b) = Ek a q f b :=
 ind (fun _ _ => by kernel_rfl) fun q ih f b => Eq.trans (b := Ks x8 (fun f b => (z6 q) (t6 a f b)) a f b) (by kernel_rfl) (by simp only [e8, ih] <;> rfl)
theorem e6 : x6 = Acv := by funext a f b; exact Eq.trans (by kernel_rfl) ((i6 a Bm f b).trans (by rw [Aj]; rfl))
theorem e5 : x5 = Kl := Eq.trans (b := Tl x6) (by kernel_rfl) (by simp only [e6] <;> rfl)
noncomputable def F := Pq
theorem rn x : H.u P_ x = F x := Eq.trans (b := Tn x5 x) (by kernel_rfl) (by simp only [e5] <;> rfl)
noncomputable def c : Con := ⟨H.p, H.r, F⟩
theorem ok : ConOk P_ gl 300 c := co H func300 (.cons F297.ok .nil) rn
end F300
namespace F271
abbrev R_ := (LX × Int)
noncomputable def H : Hd := ⟨[Si, Sw], [Ow 21, Si], (.seq .d (.seq .d (.seq .d (.cut [6] [] (.seq .d (.blk (.loop [0, 1, 6, 7] [⟨6, [], .own 21 (.int .i32)⟩] .d))) .d)))), ⟨[(299, F299.c), (300, F300.c)], gl, false⟩, [], f271⟩
def t4 (a : Int) (b : LX) (g : Int) (f : LX) : S := ⟨[(0, vi a), (1, vw b), (6, .own 0), (7, vi g)], [Aw 21 f], []⟩
def z4 : Nat → S → Option R_ := H.i P_ [r,r,r,l,r,d]
def x6 (f : LX) : Option R_ := H.e P_ [r,r,r,r] ⟨[(6, .own 0)], [Aw 21 f], []⟩
def x4 (a : Int) (b : LX) (g : Int) (f : LX) : Option R_ := H.e P_ [r,r,r,l,r,d] (t4 a b g f)
theorem e6 : x6 = Ahr := by kernel_rfl
theorem i4 (a : Int) (b : LX) : ∀ (q : Nat) (g : Int) (f : LX), z4 q (t4 a b g f) = Kb a b q g f :=
 ind (fun _ _ => by kernel_rfl) fun q ih g f => Eq.trans (b := Yi x6 (fun g f => (z4 q) (t4 a b g f)) a b g f) (by kernel_rfl) (by simp only [e6, ih] <;> rfl)
theorem e4 : x4 = Ahp := by funext a b g f; exact Eq.trans (by kernel_rfl) ((i4 a b Bm g f).trans (by rw [Aj]; rfl))
noncomputable def F := u2 Xt
theorem rn x : H.u P_ x = F x := Eq.trans (b := u2 (Zn x4) x) (by kernel_rfl) (by simp only [e4] <;> rfl)
noncomputable def c : Con := ⟨H.p, H.r, F⟩
theorem ok : ConOk P_ gl 271 c := co H func271 (.cons F299.ok (.cons F300.ok .nil)) rn
end F271
namespace F223
def Qx (j29 : Int → Int32 → LX → Int → Int32 → Int → LX → LX → Int → Int32 → Int → LX → LX → Option (LX)) (j32 : Int → LX → Option (LX)) (b : LU) (a f : Int) (g : LX) (h k : Int) (m : LX) (n : Int) (o : Int32) (p : Int) (u v : LX) : Option (LX) :=
if (By k (Ac b)) then
(Ak b k).bind fun ah =>
both (
(Kv ah).bind fun ag =>
(fun ap : Option (LX) =>
bo (
ap)) (
(Hg n o p u v ag).bind fun (ae, y, aa, ab, ac, ad) =>
j29 k ae m n o p u v y aa ab ac ad)) [
(Kv ah).bind fun ag =>
(Hg n o p u v ag).bind fun (ae, y, aa, ab, ac, ad) =>
j29 k ae m n o p u v y aa ab ac ad]
else
j32 h m
theorem Ajk : @Qx = @Kt := by
  unfold Qx Kt
  try simp only [Afm, Ws, Vr]
  all_goals
    repeat (refine funext fun _ => ?_)
    repeat' first
      | with_reducible rfl
      | with_reducible refine Ez ?_ ?_
      | with_reducible refine Et ?_ ?_ ?_
      | with_reducible refine Ex ?_ ?_ ?_ ?_
      | ((with_reducible refine Hz ?_ ?_); focus (intro h; first | (subst h; rfl) | (simp only [h]; rfl) | (simp [Cv, Ac, h]; done)))
      | with_reducible refine Il fun x => ?_
      | with_reducible refine Ms (fun _ => ?_) (fun _ => ?_)
      | (refine Cj (fun h => by simp only [h, Im, Bu, Bs, ite_self]) (fun x h => ?_); (try simp only [h, Bu]))
      | (refine Dd (fun h => ?_) (fun h => ?_) <;> simp only [h, if_true, if_false, Bool.false_eq_true])
abbrev R_ := LX
abbrev K_ := S → Option R_
noncomputable def H : Hd := ⟨[.agg [Si, Si], .lf (.vec 16 (.int .i32)) none, Sv], [Ow 21], (.seq .d (.seq .d (.cut [3, 7] [] (.seq .d (.blk (.loop [2, 3, 4, 7, 8] [] (.seq .d (.cut [2, 3, 4, 7, 8] [] (.blk (.seq .d (.seq .d (.blk (.loop [2, 3, 4, 7, 8, 9, 11] [] (.seq .d (.cut [2, 3, 4, 7, 8, 9, 11] [] (.blk (.cut [2, 3, 4, 7, 8, 9, 11, 12, 13] [] .d .d)) .d))))))) .d))))) .d))), ⟨[(268, F268.c), (269, F269.c), (270, F270.c), (271, F271.c)], gl, false⟩, [], f223⟩
def t26 (b : LU) (a f : Int) (g : LX) (h k : Int) (m : LX) (n : Int) (o : Int32) (p : Int) (u v : LX) : S := ⟨[(2, vv b), (3, .ptr 0 []), (4, .ptr 1 []), (7, .own 2), (8, vi h), (9, .ptr 3 []), (11, vi k)], [.box 69 (.agg [vi a, vi f]), .box 164 (.val (.vec 16 (.int .i32)) g), Aw 21 m, .box 283 (.agg [vi n, vx o, .agg [vi p, .val (.vec 16 (.int .i32)) u, .val (.vec 16 (.int .i32)) v]])], []⟩
def z26 (kn18 : K_) : Nat → S → Option R_ := H.i P_ [r,r,l,r,d,(lp kn18),r,l,d,r,r,d]
def t18 (b : LU) (a f : Int) (g : LX) (h : Int) (w : LX) : S := ⟨[(2, vv b), (3, .ptr 0 []), (4, .ptr 1 []), (7, .own 2), (8, vi h)], [.box 69 (.agg [vi a, vi f]), .box 164 (.val (.vec 16 (.int .i32)) g), Aw 21 w], []⟩
def z18 : Nat → S → Option R_ := H.i P_ [r,r,l,r,d]
def x34 (a f : Int) (w : LX) : Option R_ := H.e P_ [r,r,r] ⟨[(3, .ptr 0 []), (7, .own 1)], [.box 69 (.agg [vi a, vi f]), Aw 21 w], []⟩
def x32 (kn18 : K_) (b : LU) (a f : Int) (g : LX) (h : Int) (m : LX) : Option R_ := H.e P_ [r,r,l,r,d,(lp kn18),r,r] ⟨[(2, vv b), (3, .ptr 0 []), (4, .ptr 1 []), (7, .own 2), (8, vi h)], [.box 69 (.agg [vi a, vi f]), .box 164 (.val (.vec 16 (.int .i32)) g), Aw 21 m], []⟩
def x30 (kn18 kn26 : K_) (b : LU) (h a f : Int) (g : LX) (k : Int) (af : LX) (y : Int) (aa : Int32) (ab : Int) (ac ad : LX) : Option R_ := H.e P_ [r,r,l,r,d,(lp kn18),r,l,d,r,r,d,(lp kn26),r,r] ⟨[(2, vv b), (3, .ptr 0 []), (4, .ptr 1 []), (7, .own 2), (8, vi h), (9, .ptr 3 []), (11, vi k)], [.box 69 (.agg [vi a, vi f]), .box 164 (.val (.vec 16 (.int .i32)) g), Aw 21 af, .box 283 (.agg [vi y, vx aa, .agg [vi ab, .val (.vec 16 (.int .i32)) ac, .val (.vec 16 (.int .i32)) ad]])], []⟩
def x29 (kn18 kn26 : K_) (b : LU) (h a f : Int) (g : LX) (k : Int) (ae : Int32) (m : LX) (n : Int) (o : Int32) (p : Int) (u v : LX) (y : Int) (aa : Int32) (ab : Int) (ac ad : LX) : Option R_ := H.e P_ [r,r,l,r,d,(lp kn18),r,l,d,r,r,d,(lp kn26),r,l,d,r] ⟨[(2, vv b), (3, .ptr 0 []), (4, .ptr 1 []), (7, .own 2), (8, vi h), (9, .ptr 3 []), (11, vi k), (12, vx ae), (13, .ptr 4 [])], [.box 69 (.agg [vi a, vi f]), .box 164 (.val (.vec 16 (.int .i32)) g), Aw 21 m, .box 283 (.agg [vi n, vx o, .agg [vi p, .val (.vec 16 (.int .i32)) u, .val (.vec 16 (.int .i32)) v]]), .box 283 (.agg [vi y, vx aa, .agg [vi ab, .val (.vec 16 (.int .i32)) ac, .val (.vec 16 (.int .i32)) ad]])], []⟩
def x26 (kn18 : K_) (b : LU) (a f : Int) (g : LX) (h k : Int) (m : LX) (n : Int) (o : Int32) (p : Int) (u v : LX) : Option R_ := H.e P_ [r,r,l,r,d,(lp kn18),r,l,d,r,r,d] (t26 b a f g h k m n o p u v)
def x18 (b : LU) (a f : Int) (g : LX) (h : Int) (w : LX) : Option R_ := H.e P_ [r,r,l,r,d] (t18 b a f g h w)
theorem e34 : x34 = Ko := by kernel_rfl
theorem e32 (kn18 : K_) (b : LU) (a f : Int) (g : LX) : x32 kn18 b a f g = Tg (fun h w => kn18 (t18 b a f g h w)) b a f g := by kernel_rfl
theorem e30 (kn18 kn26 : K_) (b : LU) (a f : Int) (g : LX) (h : Int) : x30 kn18 kn26 b h a f g = Sf (fun k m n o p u v => kn26 (t26 b a f g h k m n o p u v)) b h a f g := by kernel_rfl
theorem e29 (kn18 kn26 : K_) (b : LU) (a f : Int) (g : LX) (h : Int) : x29 kn18 kn26 b h a f g = Sp (fun k m n o p u v => kn26 (t26 b a f g h k m n o p u v)) b h a f g := Eq.trans (b := Sr (x30 kn18 kn26 b h a f g) b h a f g) (by kernel_rfl) (by simp only [e30] <;> rfl)
theorem i26 (kn18 : K_) (b : LU) (a f : Int) (g : LX) (h : Int) : ∀ (q : Nat) (k : Int) (m : LX) (n : Int) (o : Int32) (p : Int) (u v : LX), z26 kn18 q (t26 b a f g h k m n o p u v) = Hj (fun h w => kn18 (t18 b a f g h w)) b a f g h q k m n o p u v :=
 ind (fun _ _ _ _ _ _ _ => by kernel_rfl) fun q ih k m n o p u v => Eq.trans (b := Qx (x29 kn18 (z26 kn18 q) b h a f g) (x32 kn18 b a f g) b a f g h k m n o p u v) (by kernel_rfl) (by rw [Ajk]; simp only [e29, e32, ih] <;> rfl)
theorem e26 (kn18 : K_) (b : LU) (a f : Int) (g : LX) : x26 kn18 b a f g = Sj (fun h w => kn18 (t18 b a f g h w)) b a f g := by funext h k m n o p u v; exact Eq.trans (by kernel_rfl) ((i26 kn18 b a f g h Bm k m n o p u v).trans (by rw [Aj]; rfl))
theorem i18 (b : LU) (a f : Int) (g : LX) : ∀ (q : Nat) (h : Int) (w : LX), z18 q (t18 b a f g h w) = De b a f g q h w :=
 ind (fun _ _ => by kernel_rfl) fun q ih h w => Eq.trans (b := Kq (x26 (z18 q) b a f g) x34 b a f g h w) (by kernel_rfl) (by simp only [e26, e34, ih] <;> rfl)
theorem e18 : x18 = Sd := by funext b a f g h w; exact Eq.trans (by kernel_rfl) ((i18 b a f g Bm h w).trans (by rw [Aj]; rfl))
noncomputable def F := u4 Ir
theorem rn x : H.u P_ x = F x := Eq.trans (b := u4 (Ut x18) x) (by kernel_rfl) (by simp only [e18] <;> rfl)
noncomputable def c : Con := ⟨H.p, H.r, F⟩
theorem ok : ConOk P_ gl 223 c := co H func223 (.cons F268.ok (.cons F269.ok (.cons F270.ok (.cons F271.ok .nil)))) rn
end F223
namespace F224
abbrev R_ := Int
noncomputable def H : Hd := ⟨[Si, Sw], [Si], (.seq .d (.seq .d (.seq .d (.seq .d (.cut [] [] (.seq .d (.blk (.loop [1, 5, 6] [] .d))) .d))))), ⟨[(272, F272.c)], gl, false⟩, [], f224⟩
def t4 (a : LX) (b f : Int) : S := ⟨[(1, vw a), (5, vi b), (6, vi f)], [], []⟩
def z4 : Nat → S → Option R_ := H.i P_ [r,r,r,r,l,r,d]
def x6 : Option R_ := H.e P_ [r,r,r,r,r] ⟨[], [], []⟩
def x4 (a : LX) (b f : Int) : Option R_ := H.e P_ [r,r,r,r,l,r,d] (t4 a b f)
theorem e6 : x6 = Ae7 := by kernel_rfl
theorem i4 (a : LX) (b : Int) : ∀ (q : Nat) (f : Int), z4 q (t4 a b f) = Be a b q f :=
 ind (fun _ => by kernel_rfl) fun q ih f => Eq.trans (b := Db x6 (fun f => (z4 q) (t4 a b f)) a b f) (by kernel_rfl) (by simp only [e6, ih] <;> rfl)
theorem e4 : x4 = Afq := by funext a b f; exact Eq.trans (by kernel_rfl) ((i4 a b Bm f).trans (by rw [Aj]; rfl))
noncomputable def F := u2 Bg
theorem rn x : H.u P_ x = F x := Eq.trans (b := u2 (Gd x4) x) (by kernel_rfl) (by simp only [e4] <;> rfl)
noncomputable def c : Con := ⟨H.p, H.r, F⟩
theorem ok : ConOk P_ gl 224 c := co H func224 (.cons F272.ok .nil) rn
end F224
namespace F222
noncomputable def H : Hd := ⟨[.agg [Si, Si], Sw], [Sw, Si], .d, ⟨[(224, F224.c)], gl, false⟩, [], f222⟩
noncomputable def F := u3 Lm
theorem rn x : H.u P_ x = F x := by kernel_rfl
noncomputable def c : Con := ⟨H.p, H.r, F⟩
theorem ok : ConOk P_ gl 222 c := co H func222 (.cons F224.ok .nil) rn
end F222
namespace F176
def Ry (f a b : Int) (g : LX) (h : LU) : Option (LX × Int) :=
if (Bn f 0) then
some (([] : LX), f)
else
(fun u : Option (LX × Int) =>
(fun v : Option (LX × Int) =>
(fun w : Option (LX × Int) =>
both (
v) [
w,
w]) (
both (
u) [
v])) (
bo (
u))) (
(Ir a b g h).bind fun m =>
(Lm a b m).bind fun (n, o) =>
some (n, o))
theorem Ake : @Ry = @Dp := by
  unfold Ry Dp
  try simp only [Afm, Ws, Vr]
  all_goals
    repeat (refine funext fun _ => ?_)
    repeat' first
      | with_reducible rfl
      | with_reducible refine Ez ?_ ?_
      | with_reducible refine Et ?_ ?_ ?_
      | with_reducible refine Ex ?_ ?_ ?_ ?_
      | ((with_reducible refine Hz ?_ ?_); focus (intro h; first | (subst h; rfl) | (simp only [h]; rfl) | (simp [Cv, Ac, h]; done)))
      | with_reducible refine Il fun x => ?_
      | with_reducible refine Ms (fun _ => ?_) (fun _ => ?_)
      | (refine Cj (fun h => by simp only [h, Im, Bu, Bs, ite_self]) (fun x h => ?_); (try simp only [h, Bu]))
      | (refine Dd (fun h => ?_) (fun h => ?_) <;> simp only [h, if_true, if_false, Bool.false_eq_true])
abbrev R_ := (LX × Int)
noncomputable def H : Hd := ⟨[.agg [Si, Si], .lf (.vec 16 (.int .i32)) none, Si, Sb], [Sw, Si], (.seq .d (.seq .d (.seq .d (.cut [4, 5, 10, 11] [] .d (.seq .d (.seq (.mode false) .d)))))), ⟨[(219, F219.c), (220, F220.c), (221, F221.c), (222, F222.c), (223, F223.c)], gl, false⟩, [], f176⟩
def x2 (f a b : Int) (g : LX) (h : LU) : Option R_ := H.e P_ [r,r,r,r] ⟨[(4, .ptr 0 []), (5, .ptr 1 []), (10, .own 2), (11, vi f)], [.box 69 (.agg [vi a, vi b]), .box 164 (.val (.vec 16 (.int .i32)) g), Av 23 h], []⟩
theorem e2 : x2 = Fm := Eq.trans (b := Ry) (by kernel_rfl) (by rw [Ake]; rfl)
noncomputable def F := u5 It
theorem rn x : H.u P_ x = F x := Eq.trans (b := u5 (Me x2) x) (by kernel_rfl) (by simp only [e2] <;> rfl)
noncomputable def c : Con := ⟨H.p, H.r, F⟩
theorem ok : ConOk P_ gl 176 c := co H func176 (.cons F219.ok (.cons F220.ok (.cons F221.ok (.cons F222.ok (.cons F223.ok .nil))))) rn
end F176
namespace F225
abbrev R_ := LB
noncomputable def H : Hd := ⟨[Si, Sx], [Ob 5], (.seq .d (.seq .d (.seq .d (.cut [0, 5] [] .d .d)))), ⟨[(272, F272.c)], gl, false⟩, [], f225⟩
def x2 (a b : Int) : Option R_ := H.e P_ [r,r,r,r] ⟨[(0, vi a), (5, vi b)], [], []⟩
theorem e2 : x2 = Iq := by kernel_rfl
noncomputable def F := u2 Aaf
theorem rn x : H.u P_ x = F x := Eq.trans (b := u2 (Aay x2) x) (by kernel_rfl) (by simp only [e2] <;> rfl)
noncomputable def c : Con := ⟨H.p, H.r, F⟩
theorem ok : ConOk P_ gl 225 c := co H func225 (.cons F272.ok .nil) rn
end F225
namespace F177
abbrev R_ := (LB × Int)
noncomputable def H : Hd := ⟨[Si, Sw], [Ob 5, Si], (.seq .d (.seq .d (.seq .d (.cut [6] [] (.seq .d (.blk (.loop [0, 1, 6, 7] [⟨6, [], .own 5 (.int .u8)⟩] .d))) .d)))), ⟨[(224, F224.c), (225, F225.c)], gl, false⟩, [], f177⟩
def t4 (f : Int) (a : LX) (g : Int) (b : LB) : S := ⟨[(0, vi f), (1, vw a), (6, .own 0), (7, vi g)], [Ab 5 b], []⟩
def z4 : Nat → S → Option R_ := H.i P_ [r,r,r,l,r,d]
def x6 (b : LB) : Option R_ := H.e P_ [r,r,r,r] ⟨[(6, .own 0)], [Ab 5 b], []⟩
def x4 (f : Int) (a : LX) (g : Int) (b : LB) : Option R_ := H.e P_ [r,r,r,l,r,d] (t4 f a g b)
theorem e6 : x6 = Afl := by kernel_rfl
theorem i4 (f : Int) (a : LX) : ∀ (q : Nat) (g : Int) (b : LB), z4 q (t4 f a g b) = Gf f a q g b :=
 ind (fun _ _ => by kernel_rfl) fun q ih g b => Eq.trans (b := Nw x6 (fun g b => (z4 q) (t4 f a g b)) f a g b) (by kernel_rfl) (by simp only [e6, ih] <;> rfl)
theorem e4 : x4 = Ae5 := by funext f a g b; exact Eq.trans (by kernel_rfl) ((i4 f a Bm g b).trans (by rw [Aj]; rfl))
noncomputable def F := u2 Uq
theorem rn x : H.u P_ x = F x := Eq.trans (b := u2 (Wa x4) x) (by kernel_rfl) (by simp only [e4] <;> rfl)
noncomputable def c : Con := ⟨H.p, H.r, F⟩
theorem ok : ConOk P_ gl 177 c := co H func177 (.cons F224.ok (.cons F225.ok .nil)) rn
end F177
namespace F130
abbrev R_ := (LB × Int)
noncomputable def H : Hd := ⟨[.agg [Ss, Sb, .agg [Si, Si, Si, Si, Si], Sl, Si, Sb, Sz, Si]], [Ob 5, Si], (.seq .d (.seq .d (.seq .d (.seq .d (.cut [1, 7, 8] [] .d .d))))), ⟨[(75, F75.c), (127, F127.c), (175, F175.c), (176, F176.c), (177, F177.c)], gl, false⟩, [], f130⟩
def x2 (o : LX) (f : Int) (p g : LB) (h k a m n : Int) (u : LI) (b : Int) (v : LB) (w : Bool) (y : Int) : Option R_ := H.e P_ [r,r,r,r,r] ⟨[(1, .ptr 0 []), (7, vw o), (8, vi f)], [.box 48 (.agg [vs p, vb g, .agg [vi h, vi k, vi a, vi m, vi n], vl u, vi b, vb v, vt w, vi y])], []⟩
theorem e2 : x2 = Lw := by kernel_rfl
noncomputable def F := u12 Lp
theorem rn x : H.u P_ x = F x := Eq.trans (b := u12 (Ls x2) x) (by kernel_rfl) (by simp only [e2] <;> rfl)
noncomputable def c : Con := ⟨H.p, H.r, F⟩
theorem ok : ConOk P_ gl 130 c := co H func130 (.cons F75.ok (.cons F127.ok (.cons F175.ok (.cons F176.ok (.cons F177.ok .nil))))) rn
end F130
namespace F77
def Wd (g a : LB) (m o p u v : Int) (b : LI) (f : Int) (n : LB) (h : Bool) (k : Int) : Option (LB × LB × Int × Int × Int × Int × Int × LI × Int × LB × Bool × Int × Int) :=
if (geq (Ac b) 0) then
(Lg a m o p u v g).bind fun (ag, ak, w) =>
if (Bn w 0) then
some (g, a, m, o, p, u, v, b, f, n, h, k, w)
else
(Bc a ag (Ac a)).bind fun al =>
some (g, al, m, o, p, u, v, ak, f, n, h, k, 0)
else
if (geq f (Ac b)) then
if (Du (Ac a) 4000) then
some (g, a, m, o, p, u, v, b, f, n, h, k, 38)
else
some (g, a, m, o, p, u, v, b, f, n, h, k, (-1 : Int))
else
(Lp g a m o p u v b f n h k).bind fun (am, y) =>
if (Bn y 0) then
some (g, a, m, o, p, u, v, b, f, n, h, k, y)
else
(Cv ([] : LB) n).bind fun an =>
(Cv an am).bind fun ah =>
(fun aj : Option (LB × LB × Int × Int × Int × Int × Int × LI × Int × LB × Bool × Int × Int) =>
(fun ap : Option (LB × LB × Int × Int × Int × Int × Int × LI × Int × LB × Bool × Int × Int) =>
(fun ao : Option (LB × LB × Int × Int × Int × Int × Int × LI × Int × LB × Bool × Int × Int) =>
(fun aq : Option (LB × LB × Int × Int × Int × Int × Int × LI × Int × LB × Bool × Int × Int) =>
(fun ar : Option (LB × LB × Int × Int × Int × Int × Int × LI × Int × LB × Bool × Int × Int) =>
(fun au : Option (LB × LB × Int × Int × Int × Int × Int × LI × Int × LB × Bool × Int × Int) =>
both (
both (
aq) [
aq,
au]) [
ap,
ap,
both (
au) [
ar,
ar]]) (
bo (
ao))) (
both (
ao) [
aj])) (
both (
aj) [
ao])) (
(Ak b f).bind fun ad =>
(Bc a ad (Ac a)).bind fun ae =>
some (g, ae, m, o, p, u, v, b, (Ae f 1), ah, h, k, 0))) (
(fun av : Option (LB × LB × Int × Int × Int × Int × Int × LI × Int × LB × Bool × Int × Int) =>
both (
both (
aj) [
av]) [
(Ak b f).bind fun ad =>
(fun ax : Option (LB × LB × Int × Int × Int × Int × Int × LI × Int × LB × Bool × Int × Int) =>
(fun ay : Option (LB × LB × Int × Int × Int × Int × Int × LI × Int × LB × Bool × Int × Int) =>
bo2 (
ay)) (
bo (
ax))) (
(Bc a ad (Ac a)).bind fun ae =>
some (g, ae, m, o, p, u, v, b, (Ae f 1), ah, h, k, 0)),
both (
av) [
aj]]) (
(Ak b f).bind fun ad =>
(Bc a ad (Ac a)).bind fun ae =>
some (g, ae, m, o, p, u, v, b, (Ae f 1), ah, h, k, 0)))) (
(Ak b f).bind fun ad =>
(fun az : Option (LB × LB × Int × Int × Int × Int × Int × LI × Int × LB × Bool × Int × Int) =>
bo (
az)) (
(Bc a ad (Ac a)).bind fun ae =>
some (g, ae, m, o, p, u, v, b, (Ae f 1), ah, h, k, 0)))
theorem Ane : @Wd = @Es := by
  unfold Wd Es
  try simp only [Afm, Ws, Vr]
  all_goals
    repeat (refine funext fun _ => ?_)
    repeat' first
      | with_reducible rfl
      | with_reducible refine Ez ?_ ?_
      | with_reducible refine Et ?_ ?_ ?_
      | with_reducible refine Ex ?_ ?_ ?_ ?_
      | ((with_reducible refine Hz ?_ ?_); focus (intro h; first | (subst h; rfl) | (simp only [h]; rfl) | (simp [Cv, Ac, h]; done)))
      | with_reducible refine Il fun x => ?_
      | with_reducible refine Ms (fun _ => ?_) (fun _ => ?_)
      | (refine Cj (fun h => by simp only [h, Im, Bu, Bs, ite_self]) (fun x h => ?_); (try simp only [h, Bu]))
      | (refine Dd (fun h => ?_) (fun h => ?_) <;> simp only [h, if_true, if_false, Bool.false_eq_true])
def Vu (j3 : LB → LB → Int → Int → Int → Int → Int → LI → Int → LB → Bool → Int → Option (LB × LB × Int × Int × Int × Int × Int × LI × Int × LB × Bool × Int × Int)) (j4 : LB → LB → Int → Int → Int → Int → Int → LI → Int → LB → Bool → Int → Option (LB × LB × Int × Int × Int × Int × Int × LI × Int × LB × Bool × Int × Int)) (g a : LB) (m o p u v : Int) (b : LI) (f : Int) (n : LB) (h : Bool) (k : Int) : Option (LB × LB × Int × Int × Int × Int × Int × LI × Int × LB × Bool × Int × Int) :=
if (geq m 0) then
(Kf a).bind fun (ag, aa, w, ab, ac, y, ai) =>
if (Bn ai 0) then
some (g, a, m, o, p, u, v, b, f, n, h, k, ai)
else
both (
(Bc a ag (Ac a)).bind fun af =>
bo (
j3 g af aa w ab ac y b f n h k)) [
(Bc a ag (Ac a)).bind fun af =>
j3 g af aa w ab ac y b f n h k]
else
j4 g a m o p u v b f n h k
theorem Amm : @Vu = @Cu := by
  unfold Vu Cu
  repeat (refine funext fun _ => ?_)
  repeat' first
    | with_reducible rfl
    | with_reducible refine Ez ?_ ?_
    | with_reducible refine Et ?_ ?_ ?_
    | with_reducible refine Ex ?_ ?_ ?_ ?_
    | ((with_reducible refine Hz ?_ ?_); focus (intro h; first | (subst h; rfl) | (simp only [h]; rfl) | (simp [Cv, Ac, h]; done)))
    | with_reducible refine Il fun x => ?_
    | with_reducible refine Ms (fun _ => ?_) (fun _ => ?_)
    | (refine Cj (fun h => by simp only [h, Im, Bu, Bs, ite_self]) (fun x h => ?_); (try simp only [h, Bu]))
    | (refine Dd (fun h => ?_) (fun h => ?_) <;> simp only [h, if_true, if_false, Bool.false_eq_true])
abbrev R_ := (LB × LB × Int × Int × Int × Int × Int × LI × Int × LB × Bool × Int × Int)
noncomputable def H : Hd := ⟨[.agg [Ss, Sb, .agg [Si, Si, Si, Si, Si], Sl, Si, Sb, Sz, Si]], [.agg [Ss, Sb, .agg [Si, Si, Si, Si, Si], Sl, Si, Sb, Sz, Si], Si], (.seq .d (.cut [1, 2] [] (.seq .d (.cond (.seq .d (.seq .d (.cut [1, 2, 5] [] (.mode false) .d))) .d)) (.seq .d (.seq .d (.seq .d (.seq .d (.seq .d (.seq (.mode false) .d)))))))), ⟨[(73, F73.c), (128, F128.c), (129, F129.c), (130, F130.c)], gl, false⟩, [], f77⟩
def x4 (g a : LB) (m o p u v : Int) (b : LI) (f : Int) (n : LB) (h : Bool) (k : Int) : Option R_ := H.e P_ [r,r] ⟨[(1, .ptr 0 []), (2, .ptr 1 [])], [.box 48 (.agg [vs g, vb a, .agg [vi m, vi o, vi p, vi u, vi v], vl b, vi f, vb n, vt h, vi k]), .box 48 (.agg [vs ([] : LB), .nils, .agg [vi 0, vi 0, vi 0, vi 0, vi 0], .nils, vi 0, .nils, vt false, vi 0])], []⟩
def x3 (g af : LB) (aa w ab ac y : Int) (b : LI) (f : Int) (n : LB) (h : Bool) (k : Int) : Option R_ := H.e P_ [r,l,r,l,r,r,r] ⟨[(1, .ptr 0 []), (2, .ptr 1 []), (5, .ptr 2 [])], [.box 48 (.agg [vs g, vb af, .agg [vi aa, vi w, vi ab, vi ac, vi y], vl b, vi f, vb n, vt h, vi k]), .box 48 (.agg [vs ([] : LB), .nils, .agg [vi 0, vi 0, vi 0, vi 0, vi 0], .nils, vi 0, .nils, vt false, vi 0]), .box 46 (.agg [vi aa, vi w, vi ab, vi ac, vi y])], []⟩
theorem e4 : x4 = Hm := Eq.trans (b := Wd) (by kernel_rfl) (by rw [Ane]; rfl)
theorem e3 : x3 = Pw := by kernel_rfl
noncomputable def F := u12 cadenzaref37_take
theorem rn x : H.u P_ x = F x := Eq.trans (b := u12 (Vu x3 x4) x) (by kernel_rfl) (by unfold F; rw [Amm]; simp only [e3, e4] <;> rfl)
noncomputable def c : Con := ⟨H.p, H.r, F⟩
theorem ok : ConOk P_ gl 77 c := co H func77 (.cons F73.ok (.cons F128.ok (.cons F129.ok (.cons F130.ok .nil)))) rn
end F77
namespace F50
abbrev R_ := Bool
noncomputable def H : Hd := ⟨[.agg [Ss, Sb, .agg [Si, Si, Si, Si, Si], Sl, Si, Sb, Sz, Si]], [Sz], (.seq .d (.cut [1] [] (.seq .d (.cond .d (.cut [1] [] .d .d))) .d)), ⟨[(72, F72.c), (73, F73.c), (74, F74.c), (75, F75.c), (76, F76.c), (77, F77.c)], gl, false⟩, [], f50⟩
def x4 (o p : LB) (b f g h k : Int) (m : LI) (a : Int) (n : LB) (u : Bool) (v : Int) : Option R_ := H.e P_ [r,r] ⟨[(1, .ptr 0 [])], [.box 48 (.agg [vs o, vb p, .agg [vi b, vi f, vi g, vi h, vi k], vl m, vi a, vb n, vt u, vi v])], []⟩
def x3 (o p : LB) (b f g h k : Int) (m : LI) (a : Int) (n : LB) (u : Bool) (v : Int) : Option R_ := H.e P_ [r,l,r,r,r] ⟨[(1, .ptr 0 [])], [.box 48 (.agg [vs o, vb p, .agg [vi b, vi f, vi g, vi h, vi k], vl m, vi a, vb n, vt u, vi v])], []⟩
theorem e4 : x4 = Bw := by kernel_rfl
theorem e3 : x3 = Wv := Eq.trans (b := Wf x4) (by kernel_rfl) (by simp only [e4] <;> rfl)
noncomputable def F := u12 Mw
theorem rn x : H.u P_ x = F x := Eq.trans (b := u12 (Vt x4 x3) x) (by kernel_rfl) (by simp only [e4, e3] <;> rfl)
noncomputable def c : Con := ⟨H.p, H.r, F⟩
theorem ok : ConOk P_ gl 50 c := co H func50 (.cons F72.ok (.cons F73.ok (.cons F74.ok (.cons F75.ok (.cons F76.ok (.cons F77.ok .nil)))))) rn
end F50
namespace F51
noncomputable def H : Hd := ⟨[Si], [Sz], .d, ⟨[], gl, false⟩, [], f51⟩
noncomputable def F := Qd
theorem rn x : H.u P_ x = F x := by kernel_rfl
noncomputable def c : Con := ⟨H.p, H.r, F⟩
theorem ok : ConOk P_ gl 51 c := co H func51 .nil rn
end F51
namespace F26
noncomputable def H : Hd := ⟨[.agg [Ss, Sb, .agg [Si, Si, Si, Si, Si], Sl, Si, Sb, Sz, Si]], [Si], .d, ⟨[(50, F50.c), (51, F51.c)], gl, false⟩, [], f26⟩
noncomputable def F := u12 Jr
theorem rn x : H.u P_ x = F x := by kernel_rfl
noncomputable def c : Con := ⟨H.p, H.r, F⟩
theorem ok : ConOk P_ gl 26 c := co H func26 (.cons F50.ok (.cons F51.ok .nil)) rn
end F26
namespace F108
def Wh (j2 : LB → Int → Int → Int → Int → Int → LI → Int → Bool → Int → LB → LB → Option (LB × LB × Int × Int × Int × Int × Int × LI × Int × LB × Bool × Int)) (f w : LB) (g h k m n : Int) (o : LI) (p : Int) (y : LB) (u : Bool) (v : Int) : Option (LB × LB × Int × Int × Int × Int × Int × LI × Int × LB × Bool × Int) :=
(fun ac : Option (LB × LB × Int × Int × Int × Int × Int × LI × Int × LB × Bool × Int) =>
(fun aa : Option (LB × LB × Int × Int × Int × Int × Int × LI × Int × LB × Bool × Int) =>
(fun ab : Option (LB × LB × Int × Int × Int × Int × Int × LI × Int × LB × Bool × Int) =>
(fun ad : Option (LB × LB × Int × Int × Int × Int × Int × LI × Int × LB × Bool × Int) =>
(fun ae : Option (LB × LB × Int × Int × Int × Int × Int × LI × Int × LB × Bool × Int) =>
both (
ad) [
ad,
ae,
ae]) (
both (
ab) [
ab,
aa])) (
both (
both (
(Cv ([] : LB) w).bind fun a =>
(fun ag : Option (LB × LB × Int × Int × Int × Int × Int × LI × Int × LB × Bool × Int) =>
bo (
ag)) (
(Cv ([] : LB) y).bind fun b =>
j2 f g h k m n o p u v a b)) [
aa,
aa]) [
ab,
ab])) (
both (
aa) [
ac])) (
bo (
ac))) (
(Cv ([] : LB) w).bind fun a =>
(Cv ([] : LB) y).bind fun b =>
j2 f g h k m n o p u v a b)
theorem Amu : @Wh = @Pf := by
  unfold Wh Pf
  try simp only [Afm, Ws, Vr]
  all_goals
    repeat (refine funext fun _ => ?_)
    repeat' first
      | with_reducible rfl
      | with_reducible refine Ez ?_ ?_
      | with_reducible refine Et ?_ ?_ ?_
      | with_reducible refine Ex ?_ ?_ ?_ ?_
      | ((with_reducible refine Hz ?_ ?_); focus (intro h; first | (subst h; rfl) | (simp only [h]; rfl) | (simp [Cv, Ac, h]; done)))
      | with_reducible refine Il fun x => ?_
      | with_reducible refine Ms (fun _ => ?_) (fun _ => ?_)
      | (refine Cj (fun h => by simp only [h, Im, Bu, Bs, ite_self]) (fun x h => ?_); (try simp only [h, Bu]))
      | (refine Dd (fun h => ?_) (fun h => ?_) <;> simp only [h, if_true, if_false, Bool.false_eq_true])
abbrev R_ := (LB × LB × Int × Int × Int × Int × Int × LI × Int × LB × Bool × Int)
noncomputable def H : Hd := ⟨[.agg [Ss, Sb, .agg [Si, Si, Si, Si, Si], Sl, Si, Sb, Sz, Si]], [.agg [Ss, Ob 5, .agg [Si, Si, Si, Si, Si], Ol 3, Si, Ob 5, Sz, Si]], (.seq .d (.cut [1, 2] [] (.mode false) .d)), ⟨[], gl, false⟩, [], f108⟩
def x2 (f : LB) (g h k m n : Int) (o : LI) (p : Int) (u : Bool) (v : Int) (a b : LB) : Option R_ := H.e P_ [r,r] ⟨[(1, .ptr 0 []), (2, .ptr 1 [])], [.box 48 (.agg [vs f, .own 2, .agg [vi g, vi h, vi k, vi m, vi n], vl o, vi p, .own 3, vt u, vi v]), .box 48 (.agg [vs ([] : LB), .nils, .agg [vi 0, vi 0, vi 0, vi 0, vi 0], .nils, vi 0, .nils, vt false, vi 0]), Ab 5 a, Ab 5 b], []⟩
theorem e2 : x2 = Ze := by kernel_rfl
noncomputable def F := u12 Kh
theorem rn x : H.u P_ x = F x := Eq.trans (b := u12 (Wh x2) x) (by kernel_rfl) (by unfold F; rw [Amu]; simp only [e2] <;> rfl)
noncomputable def c : Con := ⟨H.p, H.r, F⟩
theorem ok : ConOk P_ gl 108 c := co H func108 .nil rn
end F108
namespace F109
noncomputable def H : Hd := ⟨[.agg [Ss, Sb, .agg [Si, Si, Si, Si, Si], Sl, Si, Sb, Sz, Si]], [Si], .d, ⟨[], gl, false⟩, [], f109⟩
noncomputable def F := u12 Jz
theorem rn x : H.u P_ x = F x := by kernel_rfl
noncomputable def c : Con := ⟨H.p, H.r, F⟩
theorem ok : ConOk P_ gl 109 c := co H func109 .nil rn
end F109
namespace F112
def Vv (a m : LB) (n o p u v : Int) (w : LI) (y : Int) (b : LB) (aa : Bool) (ab : Int) : Option (LB × LB × Int × Int × Int × Int × Int × LI × Int × LB × Bool × Int) :=
(fun g : Option (LB × LB × Int × Int × Int × Int × Int × LI × Int × LB × Bool × Int) =>
(fun h : Option (LB × LB × Int × Int × Int × Int × Int × LI × Int × LB × Bool × Int) =>
(fun k : Option (LB × LB × Int × Int × Int × Int × Int × LI × Int × LB × Bool × Int) =>
both (
h) [
k,
k]) (
both (
g) [
h])) (
bo (
g))) (
(Cv ([] : LB) b).bind fun f =>
some (a, ([] : LB), 0, 0, 0, 0, 0, ([] : LI), 0, f, false, 0))
theorem Amv : @Vv = @Ij := by
  unfold Vv Ij
  try simp only [Afm, Ws, Vr]
  all_goals
    repeat (refine funext fun _ => ?_)
    repeat' first
      | with_reducible rfl
      | with_reducible refine Ez ?_ ?_
      | with_reducible refine Et ?_ ?_ ?_
      | with_reducible refine Ex ?_ ?_ ?_ ?_
      | ((with_reducible refine Hz ?_ ?_); focus (intro h; first | (subst h; rfl) | (simp only [h]; rfl) | (simp [Cv, Ac, h]; done)))
      | with_reducible refine Il fun x => ?_
      | with_reducible refine Ms (fun _ => ?_) (fun _ => ?_)
      | (refine Cj (fun h => by simp only [h, Im, Bu, Bs, ite_self]) (fun x h => ?_); (try simp only [h, Bu]))
      | (refine Dd (fun h => ?_) (fun h => ?_) <;> simp only [h, if_true, if_false, Bool.false_eq_true])
noncomputable def H : Hd := ⟨[.agg [Ss, Sb, .agg [Si, Si, Si, Si, Si], Sl, Si, Sb, Sz, Si]], [.agg [Ss, Ob 5, .agg [Si, Si, Si, Si, Si], Ol 3, Si, Ob 5, Sz, Si]], (.seq .d (.seq (.mode false) .d)), ⟨[], gl, false⟩, [], f112⟩
noncomputable def F := u12 Ij
theorem rn x : H.u P_ x = F x := Eq.trans (b := u12 Vv x) (by kernel_rfl) (by rw [Amv]; rfl)
noncomputable def c : Con := ⟨H.p, H.r, F⟩
theorem ok : ConOk P_ gl 112 c := co H func112 .nil rn
end F112
namespace F110
noncomputable def H : Hd := ⟨[.agg [Ss, Sb, .agg [Si, Si, Si, Si, Si], Sl, Si, Sb, Sz, Si], Si], [.agg [Ss, Ob 5, .agg [Si, Si, Si, Si, Si], Ol 3, Si, Ob 5, Sz, Si], Si], .d, ⟨[(112, F112.c)], gl, false⟩, [], f110⟩
noncomputable def F := u13 Ln
theorem rn x : H.u P_ x = F x := by kernel_rfl
noncomputable def c : Con := ⟨H.p, H.r, F⟩
theorem ok : ConOk P_ gl 110 c := co H func110 (.cons F112.ok .nil) rn
end F110
namespace F61
abbrev R_ := (LB × LB × Int × Int × Int × Int × Int × LI × Int × LB × Bool × Int × Int)
noncomputable def H : Hd := ⟨[.agg [Ss, Sb, .agg [Si, Si, Si, Si, Si], Sl, Si, Sb, Sz, Si], Sb], [.agg [Ss, Ob 5, .agg [Si, Si, Si, Si, Si], Ol 3, Si, Ob 5, Sz, Si], Si], (.seq .d (.seq .d (.seq .d (.seq .d (.seq .d (.blk (.loop [2, 4] [⟨2, [1], .ro (.int .u8)⟩, ⟨2, [3], .ro (.int .i64)⟩, ⟨2, [5], .ro (.int .u8)⟩] .d))))))), ⟨[(26, F26.c), (77, F77.c), (108, F108.c), (109, F109.c), (110, F110.c)], gl, false⟩, [], f61⟩
def t3 (a b : LB) (f g h k m : Int) (n : LI) (o : Int) (p : LB) (u : Bool) (v : Int) : S := ⟨[(2, .ptr 0 []), (4, .ptr 1 [])], [.box 48 (.agg [vs a, vb b, .agg [vi f, vi g, vi h, vi k, vi m], vl n, vi o, vb p, vt u, vi v]), .box 48 (.agg [vs ([] : LB), .nils, .agg [vi 0, vi 0, vi 0, vi 0, vi 0], .nils, vi 0, .nils, vt false, vi 0])], []⟩
def z3 : Nat → S → Option R_ := H.i P_ [r,r,r,r,r,d]
def x3 (a b : LB) (f g h k m : Int) (n : LI) (o : Int) (p : LB) (u : Bool) (v : Int) : Option R_ := H.e P_ [r,r,r,r,r,d] (t3 a b f g h k m n o p u v)
theorem i3 : ∀ (q : Nat) (a b : LB) (f g h k m : Int) (n : LI) (o : Int) (p : LB) (u : Bool) (v : Int), z3 q (t3 a b f g h k m n o p u v) = Jw q a b f g h k m n o p u v :=
 ind (fun _ _ _ _ _ _ _ _ _ _ _ _ => by kernel_rfl) fun q ih a b f g h k m n o p u v => Eq.trans (b := Yc (fun a b f g h k m n o p u v => (z3 q) (t3 a b f g h k m n o p u v)) a b f g h k m n o p u v) (by kernel_rfl) (by simp only [ih] <;> rfl)
theorem e3 : x3 = Ah1 := by funext a b f g h k m n o p u v; exact Eq.trans (by kernel_rfl) ((i3 Bm a b f g h k m n o p u v).trans (by rw [Aj]; rfl))
noncomputable def F := u13 If
theorem rn x : H.u P_ x = F x := Eq.trans (b := u13 (Pe x3) x) (by kernel_rfl) (by simp only [e3] <;> rfl)
noncomputable def c : Con := ⟨H.p, H.r, F⟩
theorem ok : ConOk P_ gl 61 c := co H func61 (.cons F26.ok (.cons F77.ok (.cons F108.ok (.cons F109.ok (.cons F110.ok .nil))))) rn
end F61
namespace F202
def Wi (j5 : LB → Int → Int → LB → LB → Option (Int × Int)) (a : LB) : Option (Int × Int) :=
(Bc a (Al (Ac a) 32) (Ac a)).bind fun b =>
(Ku b).bind fun (f, g, n) =>
if (!n) then
some (0, 12)
else
(Di f g true).bind fun h =>
both (
if (!(b == h)) then
(Di f g false).bind fun m =>
if (b != m) then
some (0, 12)
else
j5 a f g b h
else
j5 a f g b h) [
if (!(b == h)) then
(Di f g false).bind fun m =>
(fun v : Option (Int × Int) =>
bo (
v)) (
if (b != m) then
some (0, 12)
else
j5 a f g b h)
else
j5 a f g b h]
theorem Amw : @Wi = @Pp := by
  unfold Wi Pp
  try simp only [Afm, Ws, Vr]
  all_goals
    repeat (refine funext fun _ => ?_)
    repeat' first
      | with_reducible rfl
      | with_reducible refine Ez ?_ ?_
      | with_reducible refine Et ?_ ?_ ?_
      | with_reducible refine Ex ?_ ?_ ?_ ?_
      | ((with_reducible refine Hz ?_ ?_); focus (intro h; first | (subst h; rfl) | (simp only [h]; rfl) | (simp [Cv, Ac, h]; done)))
      | with_reducible refine Il fun x => ?_
      | with_reducible refine Ms (fun _ => ?_) (fun _ => ?_)
      | (refine Cj (fun h => by simp only [h, Im, Bu, Bs, ite_self]) (fun x h => ?_); (try simp only [h, Bu]))
      | (refine Dd (fun h => ?_) (fun h => ?_) <;> simp only [h, if_true, if_false, Bool.false_eq_true])
abbrev R_ := (Int × Int)
noncomputable def H : Hd := ⟨[Sb], [Si, Si], (.seq .d (.cut [0] [] .d (.seq .d (.seq .d (.seq .d (.seq .d (.cut [0, 5, 6, 8] [] (.seq (.mode false) .d) (.seq .d (.cut [0, 5, 6, 8, 9] [] .d .d))))))))), ⟨[(243, F243.c), (244, F244.c), (245, F245.c)], gl, false⟩, [], f202⟩
def x6 (a : LB) (f g : Int) (b h : LB) (k : Int) : Option R_ := H.e P_ [r,r,r,r,r,r,r,r,r] ⟨[(0, vb a), (5, vi f), (6, vi g), (8, vt (b == h)), (9, vi k)], [], []⟩
def x5 (a : LB) (f g : Int) (b h : LB) : Option R_ := H.e P_ [r,r,r,r,r,r,r] ⟨[(0, vb a), (5, vi f), (6, vi g), (8, vt (b == h))], [], []⟩
def x4 (a : LB) : Option R_ := H.e P_ [r,r] ⟨[(0, vb a)], [], []⟩
theorem e6 : x6 = Oz := by kernel_rfl
theorem e5 : x5 = Oy := Eq.trans (b := Pn x6) (by kernel_rfl) (by simp only [e6] <;> rfl)
theorem e4 : x4 = Zj := Eq.trans (b := Wi x5) (by kernel_rfl) (by rw [Amw]; simp only [e5] <;> rfl)
noncomputable def F := Xv
theorem rn x : H.u P_ x = F x := Eq.trans (b := Yv x4 x) (by kernel_rfl) (by simp only [e4] <;> rfl)
noncomputable def c : Con := ⟨H.p, H.r, F⟩
theorem ok : ConOk P_ gl 202 c := co H func202 (.cons F243.ok (.cons F244.ok (.cons F245.ok .nil))) rn
end F202
namespace F159
abbrev R_ := (Int × Int)
noncomputable def H : Hd := ⟨[Sb], [Si, Si], (.seq .d (.seq .d (.seq .d (.cut [4] [] (.blk (.loop [0, 4] [] .d)) .d)))), ⟨[(202, F202.c)], gl, false⟩, [], f159⟩
def t4 (b : LB) (a : Int) : S := ⟨[(0, vb b), (4, vi a)], [], []⟩
def z4 : Nat → S → Option R_ := H.i P_ [r,r,r,l,d]
def x6 (a : Int) : Option R_ := H.e P_ [r,r,r,r] ⟨[(4, vi a)], [], []⟩
def x4 (b : LB) (a : Int) : Option R_ := H.e P_ [r,r,r,l,d] (t4 b a)
theorem e6 : x6 = Aem := by kernel_rfl
theorem i4 : ∀ (q : Nat) (b : LB) (a : Int), z4 q (t4 b a) = Ht q b a :=
 ind (fun _ _ => by kernel_rfl) fun q ih b a => Eq.trans (b := Tw x6 (fun b a => (z4 q) (t4 b a)) b a) (by kernel_rfl) (by simp only [e6, ih] <;> rfl)
theorem e4 : x4 = Aex := by funext b a; exact Eq.trans (by kernel_rfl) ((i4 Bm b a).trans (by rw [Aj]; rfl))
noncomputable def F := Rm
theorem rn x : H.u P_ x = F x := Eq.trans (b := Ui x4 x) (by kernel_rfl) (by simp only [e4] <;> rfl)
noncomputable def c : Con := ⟨H.p, H.r, F⟩
theorem ok : ConOk P_ gl 159 c := co H func159 (.cons F202.ok .nil) rn
end F159
namespace F111
noncomputable def H : Hd := ⟨[.agg [Ss, Sb, .agg [Si, Si, Si, Si, Si], Sl, Si, Sb, Sz, Si]], [Si], .d, ⟨[(157, F157.c), (158, F158.c), (159, F159.c)], gl, false⟩, [], f111⟩
noncomputable def F := u12 Rl
theorem rn x : H.u P_ x = F x := by kernel_rfl
noncomputable def c : Con := ⟨H.p, H.r, F⟩
theorem ok : ConOk P_ gl 111 c := co H func111 (.cons F157.ok (.cons F158.ok (.cons F159.ok .nil))) rn
end F111
namespace F62
noncomputable def H : Hd := ⟨[.agg [Ss, Sb, .agg [Si, Si, Si, Si, Si], Sl, Si, Sb, Sz, Si]], [.agg [Ss, Ob 5, .agg [Si, Si, Si, Si, Si], Ol 3, Si, Ob 5, Sz, Si], Si], .d, ⟨[(26, F26.c), (108, F108.c), (109, F109.c), (110, F110.c), (111, F111.c), (112, F112.c)], gl, false⟩, [], f62⟩
noncomputable def F := u12 Ra
theorem rn x : H.u P_ x = F x := by kernel_rfl
noncomputable def c : Con := ⟨H.p, H.r, F⟩
theorem ok : ConOk P_ gl 62 c := co H func62 (.cons F26.ok (.cons F108.ok (.cons F109.ok (.cons F110.ok (.cons F111.ok (.cons F112.ok .nil)))))) rn
end F62
namespace F35
def Tf (j8 : Int → Int → Int → LB → Int → Int → Int → Int → Int → Int → Bool → Int → LB → LI → LB → Option (LB × Int)) (j10 : LB → Int → Int → Int → Int → Int → Int → Bool → Int → LB → LI → LB → Option (LB × Int)) (b : LB) (a : LI) (g f : Int) (h : LB) (k m n o p u : Int) (v : Bool) (w : Int) (y : LB) (aa : LI) (ab : LB) : Option (LB × Int) :=
if (By f (Ac a)) then
(Ak a f).bind fun ap =>
(fun bj : Option (LB × Int) =>
bo (
bj)) (
(Bc b g (Ae g ap)).bind fun aq =>
(If h y k m n o p aa u ab v w aq).bind fun (aj, ao, ad, ae, af, ak, ag, ac, al, ai, am, an, ah) =>
j8 ah g f aj ad ae af ak ag al am an ao ac ai)
else
j10 h k m n o p u v w y aa ab
theorem Akf : @Tf = @Hu := by
  unfold Tf Hu
  simp only [Afm, Ws, Vr]
abbrev R_ := (LB × Int)
abbrev K_ := S → Option R_
noncomputable def H : Hd := ⟨[Ss, Sb, Sl], [Ob 5, Si], (.seq .d (.seq .d (.seq .d (.seq .d (.cut [8] [] (.seq .d (.blk (.loop [1, 2, 8, 10, 11] [] (.seq .d (.seq (.blk (.cut [1, 2, 8, 9, 10, 11] [] (.mode false) .d)) .d))))) .d))))), ⟨[(38, F38.c), (61, F61.c), (62, F62.c)], gl, false⟩, [], f35⟩
def t6 (b : LB) (a : LI) (g f : Int) (h : LB) (k m n o p u : Int) (v : Bool) (w : Int) (y : LB) (aa : LI) (ab : LB) : S := ⟨[(1, vb b), (2, vl a), (8, .ptr 0 []), (10, vi g), (11, vi f)], [.box 48 (.agg [vs h, .own 1, .agg [vi k, vi m, vi n, vi o, vi p], .own 2, vi u, .own 3, vt v, vi w]), Ab 5 y, Ai 3 aa, Ab 5 ab], []⟩
def z6 : Nat → S → Option R_ := H.i P_ [r,r,r,r,l,r,d]
def x10 (h : LB) (k m n o p u : Int) (v : Bool) (w : Int) (y : LB) (aa : LI) (ab : LB) : Option R_ := H.e P_ [r,r,r,r,r] ⟨[(8, .ptr 0 [])], [.box 48 (.agg [vs h, .own 1, .agg [vi k, vi m, vi n, vi o, vi p], .own 2, vi u, .own 3, vt v, vi w]), Ab 5 y, Ai 3 aa, Ab 5 ab], []⟩
def x8 (kn6 : K_) (b : LB) (a : LI) (ah g f : Int) (aj : LB) (ad ae af ak ag al : Int) (am : Bool) (an : Int) (ao : LB) (ac : LI) (ai : LB) : Option R_ := H.e P_ [r,r,r,r,l,r,d,(lp kn6),r,l,d,r] ⟨[(1, vb b), (2, vl a), (8, .ptr 0 []), (9, vi ah), (10, vi g), (11, vi f)], [.box 48 (.agg [vs aj, .own 1, .agg [vi ad, vi ae, vi af, vi ak, vi ag], .own 2, vi al, .own 3, vt am, vi an]), Ab 5 ao, Ai 3 ac, Ab 5 ai], []⟩
def x6 (b : LB) (a : LI) (g f : Int) (h : LB) (k m n o p u : Int) (v : Bool) (w : Int) (y : LB) (aa : LI) (ab : LB) : Option R_ := H.e P_ [r,r,r,r,l,r,d] (t6 b a g f h k m n o p u v w y aa ab)
theorem e10 : x10 = Rv := by kernel_rfl
theorem e8 (kn6 : K_) (b : LB) (a : LI) : x8 kn6 b a = Mg (fun g f h k m n o p u v w y aa ab => kn6 (t6 b a g f h k m n o p u v w y aa ab)) b a := by kernel_rfl
theorem i6 (b : LB) (a : LI) : ∀ (q : Nat) (g f : Int) (h : LB) (k m n o p u : Int) (v : Bool) (w : Int) (y : LB) (aa : LI) (ab : LB), z6 q (t6 b a g f h k m n o p u v w y aa ab) = Fo b a q g f h k m n o p u v w y aa ab :=
 ind (fun _ _ _ _ _ _ _ _ _ _ _ _ _ _ => by kernel_rfl) fun q ih g f h k m n o p u v w y aa ab => Eq.trans (b := Tf (x8 (z6 q) b a) x10 b a g f h k m n o p u v w y aa ab) (by kernel_rfl) (by rw [Akf]; simp only [e8, e10, ih] <;> rfl)
theorem e6 : x6 = Mf := by funext b a g f h k m n o p u v w y aa ab; exact Eq.trans (by kernel_rfl) ((i6 b a Bm g f h k m n o p u v w y aa ab).trans (by rw [Aj]; rfl))
noncomputable def F := u3 Cg
theorem rn x : H.u P_ x = F x := Eq.trans (b := u3 (Hx x6) x) (by kernel_rfl) (by simp only [e6] <;> rfl)
noncomputable def c : Con := ⟨H.p, H.r, F⟩
theorem ok : ConOk P_ gl 35 c := co H func35 (.cons F38.ok (.cons F61.ok (.cons F62.ok .nil))) rn
end F35
namespace F16
noncomputable def H : Hd := ⟨[Ss, Sb, Sq], [Ob 5, Si], .d, ⟨[(35, F35.c), (36, F36.c)], gl, false⟩, [], f16⟩
noncomputable def F := u3 Rr
theorem rn x : H.u P_ x = F x := by kernel_rfl
noncomputable def c : Con := ⟨H.p, H.r, F⟩
theorem ok : ConOk P_ gl 16 c := co H func16 (.cons F35.ok (.cons F36.ok .nil)) rn
end F16
namespace F17
abbrev R_ := (Int × Int)
abbrev K_ := S → Option R_
noncomputable def H : Hd := ⟨[Ss, Sb, Si, Si], [Si, Si], (.seq .d (.seq .d (.seq .d (.seq .d (.seq .d (.seq .d (.cut [14] [] (.seq .d (.blk (.loop [0, 1, 2, 3, 12, 13, 14, 66, 67] [] (.seq .d (.seq .d (.cut [0, 1, 2, 3, 12, 13, 14, 66, 67] [] (.blk (.seq .d (.seq .d (.seq .d (.cut [0, 1, 2, 3, 12, 13, 14, 16, 17, 66, 67] [] (.seq .d (.blk (.loop [0, 1, 2, 3, 12, 13, 14, 15, 16, 17, 66, 67, 70, 71] [⟨16, [], .own 3 (.int .i64)⟩] .d))) .d))))) .d)))))) .d))))))), ⟨[(21, F21.c), (34, F34.c), (37, F37.c)], gl, false⟩, [], f17⟩
def t17 (g b : LB) (f a : Int) (h : LB) (k n m o u : Int) (p : LI) : S := ⟨[(0, vs g), (1, vb b), (2, vi f), (3, vi a), (12, vb h), (13, vi k), (14, vi n), (15, vi m), (16, .own 0), (17, vi o), (66, vi (Eh (1 : Int) (GI.toZ a).toNat)), (67, vi m), (70, vi a), (71, vi u)], [Ai 3 p], []⟩
def z17 (kn12 : K_) : Nat → S → Option R_ := H.i P_ [r,r,r,r,r,r,l,r,d,(lp kn12),r,r,l,d,r,r,r,l,r,d]
def t12 (g b : LB) (f a : Int) (h : LB) (k n m : Int) : S := ⟨[(0, vs g), (1, vb b), (2, vi f), (3, vi a), (12, vb h), (13, vi k), (14, vi n), (66, vi (Eh (1 : Int) (GI.toZ a).toNat)), (67, vi m)], [], []⟩
def z12 : Nat → S → Option R_ := H.i P_ [r,r,r,r,r,r,l,r,d]
def x22 (n : Int) : Option R_ := H.e P_ [r,r,r,r,r,r,r] ⟨[(14, vi n)], [], []⟩
def x20 (kn12 : K_) (g b : LB) (f a : Int) (h : LB) (k m v : Int) : Option R_ := H.e P_ [r,r,r,r,r,r,l,r,d,(lp kn12),r,r,r] ⟨[(0, vs g), (1, vb b), (2, vi f), (3, vi a), (12, vb h), (13, vi k), (14, vi v), (66, vi (Eh (1 : Int) (GI.toZ a).toNat)), (67, vi m)], [], []⟩
def x19 (kn12 : K_) (g b : LB) (f a : Int) (h : LB) (k n o m : Int) (p : LI) : Option R_ := H.e P_ [r,r,r,r,r,r,l,r,d,(lp kn12),r,r,l,d,r,r,r,r] ⟨[(0, vs g), (1, vb b), (2, vi f), (3, vi a), (12, vb h), (13, vi k), (14, vi n), (16, .own 0), (17, vi o), (66, vi (Eh (1 : Int) (GI.toZ a).toNat)), (67, vi m)], [Ai 3 p], []⟩
def x17 (kn12 : K_) (g b : LB) (f a : Int) (h : LB) (k n m o u : Int) (p : LI) : Option R_ := H.e P_ [r,r,r,r,r,r,l,r,d,(lp kn12),r,r,l,d,r,r,r,l,r,d] (t17 g b f a h k n m o u p)
def x12 (g b : LB) (f a : Int) (h : LB) (k n m : Int) : Option R_ := H.e P_ [r,r,r,r,r,r,l,r,d] (t12 g b f a h k n m)
theorem e22 : x22 = Aql := by kernel_rfl
theorem e20 (kn12 : K_) (g b : LB) (f a : Int) (h : LB) (k : Int) : x20 kn12 g b f a h k = Ou (fun n m => kn12 (t12 g b f a h k n m)) g b f a h k := by kernel_rfl
theorem e19 (kn12 : K_) (g b : LB) (f a : Int) (h : LB) (k : Int) : x19 kn12 g b f a h k = Aie (fun n m => kn12 (t12 g b f a h k n m)) g b f a h k := Eq.trans (b := Aix (x20 kn12 g b f a h k) g b f a h k) (by kernel_rfl) (by simp only [e20] <;> rfl)
theorem i17 (kn12 : K_) (g b : LB) (f a : Int) (h : LB) (k n m : Int) : ∀ (q : Nat) (o u : Int) (p : LI), z17 kn12 q (t17 g b f a h k n m o u p) = Ox (fun n m => kn12 (t12 g b f a h k n m)) g b f a h k n m q o u p :=
 ind (fun _ _ _ => by kernel_rfl) fun q ih o u p => Eq.trans (b := Abp (x19 kn12 g b f a h k) (fun o u p => (z17 kn12 q) (t17 g b f a h k n m o u p)) g b f a h k n m o u p) (by kernel_rfl) (by simp only [e19, ih] <;> rfl)
theorem e17 (kn12 : K_) (g b : LB) (f a : Int) (h : LB) (k : Int) : x17 kn12 g b f a h k = Aiw (fun n m => kn12 (t12 g b f a h k n m)) g b f a h k := by funext n m o u p; exact Eq.trans (by kernel_rfl) ((i17 kn12 g b f a h k n m Bm o u p).trans (by rw [Aj]; rfl))
theorem i12 (g b : LB) (f a : Int) (h : LB) (k : Int) : ∀ (q : Nat) (n m : Int), z12 q (t12 g b f a h k n m) = Oo g b f a h k q n m :=
 ind (fun _ _ => by kernel_rfl) fun q ih n m => Eq.trans (b := Aid (x17 (z12 q) g b f a h k) x22 g b f a h k n m) (by kernel_rfl) (by simp only [e17, e22, ih] <;> rfl)
theorem e12 : x12 = Aqk := by funext g b f a h k n m; exact Eq.trans (by kernel_rfl) ((i12 g b f a h k Bm n m).trans (by rw [Aj]; rfl))
noncomputable def F := u4 Al5
theorem rn x : H.u P_ x = F x := Eq.trans (b := u4 (Akh x12) x) (by kernel_rfl) (by simp only [e12] <;> rfl)
noncomputable def c : Con := ⟨H.p, H.r, F⟩
theorem ok : ConOk P_ gl 17 c := co H func17 (.cons F21.ok (.cons F34.ok (.cons F37.ok .nil))) rn
end F17
namespace F18
abbrev R_ := (Int × Int)
abbrev K_ := S → Option R_
noncomputable def H : Hd := ⟨[Ss, Sb, Si, Si], [Si, Si], (.seq .d (.seq .d (.seq .d (.seq .d (.seq .d (.seq .d (.cut [0, 1, 2, 3, 12, 13, 14] [] (.seq .d (.blk (.loop [0, 1, 2, 3, 12, 13, 14, 15] [] .d))) (.seq .d (.cut [16] [] (.seq .d (.blk (.loop [0, 1, 2, 3, 12, 13, 14, 16, 17] [] (.seq .d (.cut [0, 1, 2, 3, 12, 13, 14, 16, 17] [] (.blk (.seq .d (.seq .d (.cut [0, 1, 2, 3, 12, 13, 14, 16, 17, 18, 19] [] (.seq .d (.blk (.loop [0, 1, 2, 3, 12, 13, 14, 16, 17, 18, 19, 20] [⟨18, [], .own 3 (.int .i64)⟩] .d))) .d)))) .d))))) .d))))))))), ⟨[(35, F35.c), (36, F36.c), (38, F38.c), (39, F39.c)], gl, false⟩, [], f18⟩
def t23 (g a : LB) (b f h m : Int) (k : LB) (o n p v : Int) (u : LI) : S := ⟨[(0, vs g), (1, vb a), (2, vi b), (3, vi f), (12, .own 0), (13, vi h), (14, vi m), (16, vi o), (17, vi n), (18, .own 1), (19, vi p), (20, vi v)], [Ab 5 k, Ai 3 u], []⟩
def z23 (kn18 : K_) : Nat → S → Option R_ := H.i P_ [r,r,r,r,r,r,r,r,l,r,d,(lp kn18),r,l,d,r,r,l,r,d]
def t18 (g a : LB) (b f h m : Int) (k : LB) (o n : Int) : S := ⟨[(0, vs g), (1, vb a), (2, vi b), (3, vi f), (12, .own 0), (13, vi h), (14, vi m), (16, vi o), (17, vi n)], [Ab 5 k], []⟩
def z18 : Nat → S → Option R_ := H.i P_ [r,r,r,r,r,r,r,r,l,r,d]
def t15 (g a : LB) (b f h : Int) (k : LB) (m w : Int) : S := ⟨[(0, vs g), (1, vb a), (2, vi b), (3, vi f), (12, .own 0), (13, vi h), (14, vi m), (15, vi w)], [Ab 5 k], []⟩
def z15 : Nat → S → Option R_ := H.i P_ [r,r,r,r,r,r,l,r,d]
def x28 (o : Int) : Option R_ := H.e P_ [r,r,r,r,r,r,r,r,r] ⟨[(16, vi o)], [], []⟩
def x26 (kn18 : K_) (g a : LB) (b f h m : Int) (k : LB) (n y : Int) : Option R_ := H.e P_ [r,r,r,r,r,r,r,r,l,r,d,(lp kn18),r,r] ⟨[(0, vs g), (1, vb a), (2, vi b), (3, vi f), (12, .own 0), (13, vi h), (14, vi m), (16, vi y), (17, vi n)], [Ab 5 k], []⟩
def x25 (kn18 : K_) (g a : LB) (b f h m : Int) (k : LB) (o n p : Int) (u : LI) : Option R_ := H.e P_ [r,r,r,r,r,r,r,r,l,r,d,(lp kn18),r,l,d,r,r,r] ⟨[(0, vs g), (1, vb a), (2, vi b), (3, vi f), (12, .own 0), (13, vi h), (14, vi m), (16, vi o), (17, vi n), (18, .own 1), (19, vi p)], [Ab 5 k, Ai 3 u], []⟩
def x23 (kn18 : K_) (g a : LB) (b f h m : Int) (k : LB) (o n p v : Int) (u : LI) : Option R_ := H.e P_ [r,r,r,r,r,r,r,r,l,r,d,(lp kn18),r,l,d,r,r,l,r,d] (t23 g a b f h m k o n p v u)
def x18 (g a : LB) (b f h m : Int) (k : LB) (o n : Int) : Option R_ := H.e P_ [r,r,r,r,r,r,r,r,l,r,d] (t18 g a b f h m k o n)
def x17 (g a : LB) (b f h m : Int) (k : LB) : Option R_ := H.e P_ [r,r,r,r,r,r,r] ⟨[(0, vs g), (1, vb a), (2, vi b), (3, vi f), (12, .own 0), (13, vi h), (14, vi m)], [Ab 5 k], []⟩
def x15 (g a : LB) (b f h : Int) (k : LB) (m w : Int) : Option R_ := H.e P_ [r,r,r,r,r,r,l,r,d] (t15 g a b f h k m w)
theorem e28 : x28 = Aff := by kernel_rfl
theorem e26 (kn18 : K_) (g a : LB) (b f h m : Int) (k : LB) : x26 kn18 g a b f h m k = Jg (fun o n => kn18 (t18 g a b f h m k o n)) g a b f h m k := by kernel_rfl
theorem e25 (kn18 : K_) (g a : LB) (b f h m : Int) (k : LB) : x25 kn18 g a b f h m k = Wm (fun o n => kn18 (t18 g a b f h m k o n)) g a b f h m k := Eq.trans (b := Vz (x26 kn18 g a b f h m k) g a b f h m k) (by kernel_rfl) (by simp only [e26] <;> rfl)
theorem i23 (kn18 : K_) (g a : LB) (b f h m : Int) (k : LB) (o n : Int) : ∀ (q : Nat) (p v : Int) (u : LI), z23 kn18 q (t23 g a b f h m k o n p v u) = Gh (fun o n => kn18 (t18 g a b f h m k o n)) g a b f h m k o n q p v u :=
 ind (fun _ _ _ => by kernel_rfl) fun q ih p v u => Eq.trans (b := Nn (x25 kn18 g a b f h m k) (fun p v u => (z23 kn18 q) (t23 g a b f h m k o n p v u)) g a b f h m k o n p v u) (by kernel_rfl) (by simp only [e25, ih] <;> rfl)
theorem e23 (kn18 : K_) (g a : LB) (b f h m : Int) (k : LB) : x23 kn18 g a b f h m k = Wp (fun o n => kn18 (t18 g a b f h m k o n)) g a b f h m k := by funext o n p v u; exact Eq.trans (by kernel_rfl) ((i23 kn18 g a b f h m k o n Bm p v u).trans (by rw [Aj]; rfl))
theorem i18 (g a : LB) (b f h m : Int) (k : LB) : ∀ (q : Nat) (o n : Int), z18 q (t18 g a b f h m k o n) = Gc g a b f h m k q o n :=
 ind (fun _ _ => by kernel_rfl) fun q ih o n => Eq.trans (b := Xb (x23 (z18 q) g a b f h m k) x28 g a b f h m k o n) (by kernel_rfl) (by simp only [e23, e28, ih] <;> rfl)
theorem e18 : x18 = Xc := by funext g a b f h m k o n; exact Eq.trans (by kernel_rfl) ((i18 g a b f h m k Bm o n).trans (by rw [Aj]; rfl))
theorem e17 : x17 = Afi := Eq.trans (b := Afr x18) (by kernel_rfl) (by simp only [e18] <;> rfl)
theorem i15 (g a : LB) (b f h : Int) (k : LB) : ∀ (q : Nat) (m w : Int), z15 q (t15 g a b f h k m w) = Ge g a b f h k q m w :=
 ind (fun _ _ => by kernel_rfl) fun q ih m w => Eq.trans (b := Ns x17 (fun m w => (z15 q) (t15 g a b f h k m w)) g a b f h k m w) (by kernel_rfl) (by simp only [e17, ih] <;> rfl)
theorem e15 : x15 = Wj := by funext g a b f h k m w; exact Eq.trans (by kernel_rfl) ((i15 g a b f h k Bm m w).trans (by rw [Aj]; rfl))
noncomputable def F := u4 Xi
theorem rn x : H.u P_ x = F x := Eq.trans (b := u4 (Yk x15) x) (by kernel_rfl) (by simp only [e15] <;> rfl)
noncomputable def c : Con := ⟨H.p, H.r, F⟩
theorem ok : ConOk P_ gl 18 c := co H func18 (.cons F35.ok (.cons F36.ok (.cons F38.ok (.cons F39.ok .nil)))) rn
end F18
namespace F5
noncomputable def H : Hd := ⟨[Ss, Sb, Sq, Si, Si], [Sz], .d, ⟨[(14, F14.c), (15, F15.c), (16, F16.c), (17, F17.c), (18, F18.c)], gl, false⟩, [], f5⟩
noncomputable def F := u5 Nd
theorem rn x : H.u P_ x = F x := by kernel_rfl
noncomputable def c : Con := ⟨H.p, H.r, F⟩
theorem ok : ConOk P_ gl 5 c := co H func5 (.cons F14.ok (.cons F15.ok (.cons F16.ok (.cons F17.ok (.cons F18.ok .nil))))) rn
end F5
end
end Go.Proofs.YtneipcijjnibdaaGreatDoor
