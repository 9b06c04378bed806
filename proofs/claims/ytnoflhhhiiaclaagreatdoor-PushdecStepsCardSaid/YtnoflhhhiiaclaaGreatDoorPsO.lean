/- A part of the proof of a statement of this seat (see the text that ends in Proof): PsOk. No conditions of its own. -/
import Derived.Test.YtnoflhhhiiaclaaGreatDoorPsBC
import Derived.Test.YtnoflhhhiiaclaaGreatDoorPsPA
import Derived.Test.YtnoflhhhiiaclaaGreatDoorPsHA
import Derived.Test.YtnoflhhhiiaclaaGreatDoorProg
import Derived.KernelRfl
set_option linter.unusedVariables false
set_option linter.unusedSimpArgs false
set_option maxRecDepth 10000
namespace Go.Proofs.YtnoflhhhiiaclaaGreatDoor
open Go Go.Lv Go.Pl Go.Rx Go.Rx.PS
noncomputable section
def g0 : List Value := [.bool true, .int .i64 0]
def g1 : List Value := [.bool false, .int .i64 0]
def g2 : List Value := [.int .i64 2, .int .i64 2, .int .i64 2, .int .i64 4, .int .i64 4]
def g6 : List Value := [.int .u8 0, .int .u8 1, .int .u8 56, .int .u8 2, .int .u8 57, .int .u8 49, .int .u8 28, .int .u8 3, .int .u8 61, .int .u8 58, .int .u8 42, .int .u8 50, .int .u8 38, .int .u8 29, .int .u8 17, .int .u8 4, .int .u8 62, .int .u8 47, .int .u8 59, .int .u8 36, .int .u8 45, .int .u8 43, .int .u8 51, .int .u8 22, .int .u8 53, .int .u8 39, .int .u8 33, .int .u8 30, .int .u8 24, .int .u8 18, .int .u8 12, .int .u8 5, .int .u8 63, .int .u8 55, .int .u8 48, .int .u8 27, .int .u8 60, .int .u8 41, .int .u8 37, .int .u8 16, .int .u8 46, .int .u8 35, .int .u8 44, .int .u8 21, .int .u8 52, .int .u8 32, .int .u8 23, .int .u8 11, .int .u8 54, .int .u8 26, .int .u8 40, .int .u8 15, .int .u8 34, .int .u8 20, .int .u8 31, .int .u8 10, .int .u8 25, .int .u8 14, .int .u8 19, .int .u8 9, .int .u8 13, .int .u8 8, .int .u8 7, .int .u8 6]
def gl : List (Nat × List Value) := [(0, g0), (1, g1), (2, g2), (6, g6)]
theorem mixed : Tryz.prog.follows .mixedOrders = true := by kernel_rfl
noncomputable abbrev P_ := Tryz.prog
theorem cr (H : Hd) {f : Nat} {F : LTy (shL H.p) → Option (LTy (shL H.r))} (hf : P_.funcs[f]? = some H.f) (hT : Aoc P_ H.T) (hA : ∀ p ∈ H.s, Ent P_ p.1) (h : ∀ x, H.u P_ x = F x) (hb : okH H = true := by kernel_rfl) : ConOk P_ H.T.gl f ⟨H.p, H.r, F⟩ := Hd.con mixed H hf hT hA hb h
theorem co (H : Hd) {f : Nat} {F : LTy (shL H.p) → Option (LTy (shL H.r))} (hf : P_.funcs[f]? = some H.f) (hT : Aoc P_ H.T) (h : ∀ x, H.u P_ x = F x) (hb : (H.s.isEmpty && okH H) = true := by kernel_rfl) : ConOk P_ H.T.gl f ⟨H.p, H.r, F⟩ := Hd.Bxm mixed H hf hT hb h
theorem ent37 : Ent Tryz.prog 37 := Ent.mk Tryz.func37 (by kernel_rfl) rfl
theorem ent75 : Ent Tryz.prog 75 := Ent.mk Tryz.func75 (by kernel_rfl) rfl
theorem ent76 : Ent Tryz.prog 76 := Ent.mk Tryz.func76 (by kernel_rfl) rfl
theorem ent77 : Ent Tryz.prog 77 := Ent.mk Tryz.func77 (by kernel_rfl) rfl
theorem ent88 : Ent Tryz.prog 88 := Ent.mk Tryz.func88 (by kernel_rfl) rfl
theorem ent102 : Ent Tryz.prog 102 := Ent.mk Tryz.func102 (by kernel_rfl) rfl
theorem ent220 : Ent Tryz.prog 220 := Ent.mk Tryz.func220 (by kernel_rfl) rfl
theorem ent221 : Ent Tryz.prog 221 := Ent.mk Tryz.func221 (by kernel_rfl) rfl
theorem ent222 : Ent Tryz.prog 222 := Ent.mk Tryz.func222 (by kernel_rfl) rfl
theorem ent225 : Ent Tryz.prog 225 := Ent.mk Tryz.func225 (by kernel_rfl) rfl
theorem ent232 : Ent Tryz.prog 232 := Ent.mk Tryz.func232 (by kernel_rfl) rfl
theorem ent261 : Ent Tryz.prog 261 := Ent.mk Tryz.func261 (by kernel_rfl) rfl
theorem ent266 : Ent Tryz.prog 266 := Ent.mk Tryz.func266 (by kernel_rfl) rfl
theorem ent289 : Ent Tryz.prog 289 := Ent.mk Tryz.func289 (by kernel_rfl) rfl
theorem ent291 : Ent Tryz.prog 291 := Ent.mk Tryz.func291 (by kernel_rfl) rfl
theorem ent293 : Ent Tryz.prog 293 := Ent.mk Tryz.func293 (by kernel_rfl) rfl
abbrev u2 {A B R : Type} (f : A → B → R) (x : A × B) := f x.1 x.2
abbrev u3 {A B C R : Type} (f : A → B → C → R) := u2 fun a => u2 (f a)
abbrev u4 {A B C D R : Type} (f : A → B → C → D → R) := u2 fun a => u3 (f a)
abbrev u5 {A B C D E R : Type} (f : A → B → C → D → E → R) := u2 fun a => u4 (f a)
abbrev u6 {A B C D E F R : Type} (f : A → B → C → D → E → F → R) := u2 fun a => u5 (f a)
abbrev u7 {A B C D E F G R : Type} (f : A → B → C → D → E → F → G → R) := u2 fun a => u6 (f a)
abbrev u8 {A B C D E F G H R : Type} (f : A → B → C → D → E → F → G → H → R) := u2 fun a => u7 (f a)
abbrev u9 {A B C D E F G H I R : Type} (f : A → B → C → D → E → F → G → H → I → R) := u2 fun a => u8 (f a)
abbrev u10 {A B C D E F G H I J R : Type} (f : A → B → C → D → E → F → G → H → I → J → R) := u2 fun a => u9 (f a)
abbrev u11 {A B C D E F G H I J K R : Type} (f : A → B → C → D → E → F → G → H → I → J → K → R) := u2 fun a => u10 (f a)
abbrev u12 {A B C D E F G H I J K L R : Type} (f : A → B → C → D → E → F → G → H → I → J → K → L → R) := u2 fun a => u11 (f a)
abbrev u13 {A B C D E F G H I J K L M R : Type} (f : A → B → C → D → E → F → G → H → I → J → K → L → M → R) := u2 fun a => u12 (f a)
open Go.Proofs.Tryz
namespace F7
noncomputable def H : Hd := ⟨[.agg [Ss, Sb, .agg [Si, Si, Si, Si, Si], Sl, Si, Sb, Sz, Si]], [Sz], .d, ⟨[], gl, false⟩, [], f7⟩
noncomputable def F := u12 Tk
theorem rn x : H.u P_ x = F x := by kernel_rfl
noncomputable def c : Con := ⟨H.p, H.r, F⟩
theorem ok : ConOk P_ gl 7 c := co H func7 .nil rn
end F7
namespace F13
noncomputable def H : Hd := ⟨[Sb], [Sz], .d, ⟨[], gl, false⟩, [], f13⟩
noncomputable def F := We
theorem rn x : H.u P_ x = F x := by kernel_rfl
noncomputable def c : Con := ⟨H.p, H.r, F⟩
theorem ok : ConOk P_ gl 13 c := co H func13 .nil rn
end F13
namespace F14
def Vf (j2 : LB → Int → Int → Int → Int → Int → LI → Int → Bool → Int → LB → LB → Option (LB × LB × Int × Int × Int × Int × Int × LI × Int × LB × Bool × Int)) (f w : LB) (g h k m n : Int) (o : LI) (p : Int) (y : LB) (u : Bool) (v : Int) : Option (LB × LB × Int × Int × Int × Int × Int × LI × Int × LB × Bool × Int) :=
(fun ac : Option (LB × LB × Int × Int × Int × Int × Int × LI × Int × LB × Bool × Int) =>
(fun aa : Option (LB × LB × Int × Int × Int × Int × Int × LI × Int × LB × Bool × Int) =>
(fun ab : Option (LB × LB × Int × Int × Int × Int × Int × LI × Int × LB × Bool × Int) =>
(fun ad : Option (LB × LB × Int × Int × Int × Int × Int × LI × Int × LB × Bool × Int) =>
(fun ae : Option (LB × LB × Int × Int × Int × Int × Int × LI × Int × LB × Bool × Int) =>
both (
ad) [
ad,
ae,
ae]) (
both (
ab) [
ab,
aa])) (
both (
both (
(Db ([] : LB) w).bind fun a =>
(fun ag : Option (LB × LB × Int × Int × Int × Int × Int × LI × Int × LB × Bool × Int) =>
bo (
ag)) (
(Db ([] : LB) y).bind fun b =>
j2 f g h k m n o p u v a b)) [
aa,
aa]) [
ab,
ab])) (
both (
aa) [
ac])) (
bo (
ac))) (
(Db ([] : LB) w).bind fun a =>
(Db ([] : LB) y).bind fun b =>
j2 f g h k m n o p u v a b)
theorem Alf : @Vf = @Oi := by
  unfold Vf Oi
  try simp only [Af8, Xd, Xe]
  all_goals
    repeat (refine funext fun _ => ?_)
    repeat' first
      | with_reducible rfl
      | with_reducible refine Ev ?_ ?_
      | with_reducible refine Eu ?_ ?_ ?_
      | with_reducible refine En ?_ ?_ ?_ ?_
      | ((with_reducible refine Hm ?_ ?_); focus (intro h; first | (subst h; rfl) | (simp only [h]; rfl) | (simp [Db, Ac, h]; done)))
      | with_reducible refine Hu fun x => ?_
      | with_reducible refine Mi (fun _ => ?_) (fun _ => ?_)
      | (refine Cd (fun h => by simp only [h, Hx, Br, Bm, ite_self]) (fun x h => ?_); (try simp only [h, Br]))
      | (refine Da (fun h => ?_) (fun h => ?_) <;> simp only [h, if_true, if_false, Bool.false_eq_true])
abbrev R_ := (LB × LB × Int × Int × Int × Int × Int × LI × Int × LB × Bool × Int)
noncomputable def H : Hd := ⟨[.agg [Ss, Sb, .agg [Si, Si, Si, Si, Si], Sl, Si, Sb, Sz, Si]], [.agg [Ss, Ob 5, .agg [Si, Si, Si, Si, Si], Ol 3, Si, Ob 5, Sz, Si]], (.seq .d (.cut [1, 2] [] (.mode false) .d)), ⟨[], gl, false⟩, [], f14⟩
def x2 (f : LB) (g h k m n : Int) (o : LI) (p : Int) (u : Bool) (v : Int) (a b : LB) : Option R_ := H.e P_ [r,r] ⟨[(1, .ptr 0 []), (2, .ptr 1 [])], [.box 28 (.agg [vs f, .own 2, .agg [vi g, vi h, vi k, vi m, vi n], vl o, vi p, .own 3, vt u, vi v]), .box 28 (.agg [vs ([] : LB), .nils, .agg [vi 0, vi 0, vi 0, vi 0, vi 0], .nils, vi 0, .nils, vt false, vi 0]), Ab 5 a, Ab 5 b], []⟩
theorem e2 : x2 = Xh := by kernel_rfl
noncomputable def F := u12 Fs
theorem rn x : H.u P_ x = F x := Eq.trans (b := u12 (Vf x2) x) (by kernel_rfl) (by unfold F; rw [Alf]; simp only [e2] <;> rfl)
noncomputable def c : Con := ⟨H.p, H.r, F⟩
theorem ok : ConOk P_ gl 14 c := co H func14 .nil rn
end F14
namespace F50
def Ag8 (a : LB) : Option (LB) :=
Axl a (
some ([] : LB)) (
(Db ([] : LB) a).bind fun b =>
some b)
theorem Ar4 : @Ag8 = @Hc := by
  unfold Ag8 Hc
  repeat (refine funext fun _ => ?_)
  repeat' first
    | with_reducible rfl
    | with_reducible refine Ev ?_ ?_
    | with_reducible refine Eu ?_ ?_ ?_
    | with_reducible refine En ?_ ?_ ?_ ?_
    | ((with_reducible refine Hm ?_ ?_); focus (intro h; first | (subst h; rfl) | (simp only [h]; rfl) | (simp [Db, Ac, h]; done)))
    | with_reducible refine Hu fun x => ?_
    | with_reducible refine Mi (fun _ => ?_) (fun _ => ?_)
    | (refine Cd (fun h => by simp only [h, Hx, Br, Bm, ite_self]) (fun x h => ?_); (try simp only [h, Br]))
    | (refine Da (fun h => ?_) (fun h => ?_) <;> simp only [h, if_true, if_false, Bool.false_eq_true])
noncomputable def H : Hd := ⟨[Sb], [Ob 5], .d, ⟨[], gl, false⟩, [], f50⟩
noncomputable def F := Hc
theorem rn x : H.u P_ x = F x := Eq.trans (b := Ag8 x) (by kernel_rfl) (by rw [Ar4]; rfl)
noncomputable def c : Con := ⟨H.p, H.r, F⟩
theorem ok : ConOk P_ gl 50 c := co H func50 .nil rn
end F50
namespace F71
def Py (a : LI) : Option (LI) :=
Axl a (
some ([] : LI)) (
(Db ([] : LI) a).bind fun b =>
some b)
theorem Ahr : @Py = @Es := by
  unfold Py Es
  repeat (refine funext fun _ => ?_)
  repeat' first
    | with_reducible rfl
    | with_reducible refine Ev ?_ ?_
    | with_reducible refine Eu ?_ ?_ ?_
    | with_reducible refine En ?_ ?_ ?_ ?_
    | ((with_reducible refine Hm ?_ ?_); focus (intro h; first | (subst h; rfl) | (simp only [h]; rfl) | (simp [Db, Ac, h]; done)))
    | with_reducible refine Hu fun x => ?_
    | with_reducible refine Mi (fun _ => ?_) (fun _ => ?_)
    | (refine Cd (fun h => by simp only [h, Hx, Br, Bm, ite_self]) (fun x h => ?_); (try simp only [h, Br]))
    | (refine Da (fun h => ?_) (fun h => ?_) <;> simp only [h, if_true, if_false, Bool.false_eq_true])
noncomputable def H : Hd := ⟨[Sl], [Ol 3], .d, ⟨[], gl, false⟩, [], f71⟩
noncomputable def F := Es
theorem rn x : H.u P_ x = F x := Eq.trans (b := Py x) (by kernel_rfl) (by rw [Ahr]; rfl)
noncomputable def c : Con := ⟨H.p, H.r, F⟩
theorem ok : ConOk P_ gl 71 c := co H func71 .nil rn
end F71
namespace F35
noncomputable def H : Hd := ⟨[.agg [Ss, Sb, .agg [Si, Si, Si, Si, Si], Sl, Si, Sb, Sz, Si]], [.agg [Ss, Ob 5, .agg [Si, Si, Si, Si, Si], Ol 3, Si, Ob 5, Sz, Si]], .d, ⟨[(50, F50.c), (71, F71.c)], gl, false⟩, [], f35⟩
noncomputable def F := u12 Cf
theorem rn x : H.u P_ x = F x := by kernel_rfl
noncomputable def c : Con := ⟨H.p, H.r, F⟩
theorem ok : ConOk P_ gl 35 c := co H func35 (.cons F50.ok (.cons F71.ok .nil)) rn
end F35
namespace F142
abbrev R_ := Bool
noncomputable def H : Hd := ⟨[.agg [Si, Si, Si, Si, Si]], [Sz], (.seq .d (.cut [1] [] .d .d)), ⟨[], gl, false⟩, [], f142⟩
def x2 (b f a g h : Int) : Option R_ := H.e P_ [r,r] ⟨[(1, .ptr 0 [])], [.box 24 (.agg [vi b, vi f, vi a, vi g, vi h])], []⟩
theorem e2 : x2 = Mc := by kernel_rfl
noncomputable def F := u5 Qb
theorem rn x : H.u P_ x = F x := Eq.trans (b := u5 (Yk x2) x) (by kernel_rfl) (by simp only [e2] <;> rfl)
noncomputable def c : Con := ⟨H.p, H.r, F⟩
theorem ok : ConOk P_ gl 142 c := co H func142 .nil rn
end F142
namespace F199
noncomputable def H : Hd := ⟨[Si], [Si, Si], .d, ⟨[], gl, false⟩, [], f199⟩
noncomputable def F := Ada
theorem rn x : H.u P_ x = F x := by kernel_rfl
noncomputable def c : Con := ⟨H.p, H.r, F⟩
theorem ok : ConOk P_ gl 199 c := co H func199 .nil rn
end F199
namespace F209
noncomputable def H : Hd := ⟨[Si, Si], [Si, Si], .d, ⟨[(199, F199.c)], gl, false⟩, [], f209⟩
noncomputable def F := u2 Zr
theorem rn x : H.u P_ x = F x := by kernel_rfl
noncomputable def c : Con := ⟨H.p, H.r, F⟩
theorem ok : ConOk P_ gl 209 c := co H func209 (.cons F199.ok .nil) rn
end F209
namespace F143
noncomputable def H : Hd := ⟨[.agg [Si, Si, Si, Si, Si]], [Sz], .d, ⟨[(209, F209.c)], gl, false⟩, [], f143⟩
noncomputable def F := u5 Agk
theorem rn x : H.u P_ x = F x := by kernel_rfl
noncomputable def c : Con := ⟨H.p, H.r, F⟩
theorem ok : ConOk P_ gl 143 c := co H func143 (.cons F209.ok .nil) rn
end F143
namespace F127
noncomputable def H : Hd := ⟨[.agg [Si, Si, Si, Si, Si]], [Si], .d, ⟨[(142, F142.c), (143, F143.c)], gl, false⟩, [], f127⟩
noncomputable def F := u5 Yw
theorem rn x : H.u P_ x = F x := by kernel_rfl
noncomputable def c : Con := ⟨H.p, H.r, F⟩
theorem ok : ConOk P_ gl 127 c := co H func127 (.cons F142.ok (.cons F143.ok .nil)) rn
end F127
namespace F288
noncomputable def H : Hd := ⟨[Sq, Sq], [Sq, Sq], .d, ⟨[], gl, false⟩, [], f288⟩
noncomputable def F := u2 Ag6
theorem rn x : H.u P_ x = F x := by kernel_rfl
noncomputable def c : Con := ⟨H.p, H.r, F⟩
theorem ok : ConOk P_ gl 288 c := co H func288 .nil rn
end F288
namespace F257
noncomputable def H : Hd := ⟨[Sq, Sq], [Sq, Sq], .d, ⟨[(288, F288.c)], gl, false⟩, [], f257⟩
noncomputable def F := u2 Afi
theorem rn x : H.u P_ x = F x := by kernel_rfl
noncomputable def c : Con := ⟨H.p, H.r, F⟩
theorem ok : ConOk P_ gl 257 c := co H func257 (.cons F288.ok .nil) rn
end F257
namespace F210
def Nk (j10 : LI → Option (LI)) (bk8 : Int → LI → Option (LI)) (b : Int) (a : LI) : Option (LI) :=
if (Ci b (Ac a)) then
both (
(vwI (Ac a) b (Ac a)).bind fun _ =>
(vwI (Ac a) 0 b).bind fun _ =>
bk8 (Af b (Ajw ((Ac a) - b) (Alq a 0 (b - (0 : Int))).length)) (Vn a b ((Ac a) - b) (Alq a 0 (b - (0 : Int))))) [
(vwI (Ac a) 0 b).bind fun _ =>
(vwI (Ac a) b (Ac a)).bind fun _ =>
bk8 (Af b (Ajw ((Ac a) - b) (Alq a 0 (b - (0 : Int))).length)) (Vn a b ((Ac a) - b) (Alq a 0 (b - (0 : Int))))]
else
j10 a
theorem Ag0 : @Nk = @Gj := by
  unfold Nk Gj
  repeat (refine funext fun _ => ?_)
  repeat' first
    | with_reducible rfl
    | with_reducible refine Ev ?_ ?_
    | with_reducible refine Eu ?_ ?_ ?_
    | with_reducible refine En ?_ ?_ ?_ ?_
    | ((with_reducible refine Hm ?_ ?_); focus (intro h; first | (subst h; rfl) | (simp only [h]; rfl) | (simp [Db, Ac, h]; done)))
    | with_reducible refine Hu fun x => ?_
    | with_reducible refine Mi (fun _ => ?_) (fun _ => ?_)
    | (refine Cd (fun h => by simp only [h, Hx, Br, Bm, ite_self]) (fun x h => ?_); (try simp only [h, Br]))
    | (refine Da (fun h => ?_) (fun h => ?_) <;> simp only [h, if_true, if_false, Bool.false_eq_true])
abbrev R_ := LI
noncomputable def H : Hd := ⟨[Sl, Si], [Ol 3], (.seq .d (.cut [0, 1] [] .d (.seq .d (.cut [0, 6] [] .d (.seq .d (.seq .d (.cut [7] [] (.blk (.loop [7, 8] [] (.seq .d (.blk (.mode false))))) .d))))))), ⟨[(257, F257.c)], gl, true⟩, [], f210⟩
def t8 (b : Int) (a : LI) : S := ⟨[(7, .own 0), (8, vi b)], [Ai 3 a], []⟩
def z8 : Nat → S → Option R_ := H.i P_ [r,r,r,r,r,r,l,d]
def x10 (a : LI) : Option R_ := H.e P_ [r,r,r,r,r,r,r] ⟨[(7, .own 0)], [Ai 3 a], []⟩
def x8 (b : Int) (a : LI) : Option R_ := H.e P_ [r,r,r,r,r,r,l,d] (t8 b a)
def x7 (f : LI) (g : UInt64) : Option R_ := H.e P_ [r,r,r,r] ⟨[(0, vl f), (6, vq g)], [], []⟩
def x6 (f : LI) (h : Int) : Option R_ := H.e P_ [r,r] ⟨[(0, vl f), (1, vi h)], [], []⟩
theorem e10 : x10 = Ir := by kernel_rfl
theorem i8 : ∀ (q : Nat) (b : Int) (a : LI), z8 q (t8 b a) = Dt q b a :=
 ind (fun _ _ => by kernel_rfl) fun q ih b a => Eq.trans (b := Nk x10 (fun b a => (z8 q) (t8 b a)) b a) (by kernel_rfl) (by rw [Ag0]; simp only [e10, ih] <;> rfl)
theorem e8 : x8 = Pp := by funext b a; exact Eq.trans (by kernel_rfl) ((i8 Bv b a).trans (by rw [Am]; rfl))
theorem e7 : x7 = Pr := Eq.trans (b := Qc x8) (by kernel_rfl) (by simp only [e8] <;> rfl)
theorem e6 : x6 = Pv := Eq.trans (b := Pn x7) (by kernel_rfl) (by simp only [e7] <;> rfl)
noncomputable def F := u2 My
theorem rn x : H.u P_ x = F x := Eq.trans (b := u2 (Qa x6) x) (by kernel_rfl) (by simp only [e6] <;> rfl)
noncomputable def c : Con := ⟨H.p, H.r, F⟩
theorem ok : ConOk P_ gl 210 c := co H func210 (.cons F257.ok .nil) rn
end F210
namespace F258
abbrev R_ := LI
noncomputable def H : Hd := ⟨[.lf (.list (.list (.int .i64))) none], [Ol 3], (.seq .d (.seq .d (.cut [0, 3] [] (.seq .d (.blk (.loop [0, 3, 9, 10, 11] [] .d))) (.cut [0, 6] [⟨6, [], .own 3 (.int .i64)⟩] (.keep [0, 3, 6, 23, 24] true) (.cut [6] [] (.seq .d (.blk (.loop [6, 25, 26, 27] [] .d))) .d))))), ⟨[], gl, true⟩, [(289, (.seq .d (.cut [0, 1] [] .d .d)))], f258⟩
def t14 (a : List LI) (g : Int) (f : LI) : S := ⟨[(6, .own 0), (25, .val (.list (.list (.int .i64))) a), (26, vi (Ac a)), (27, vi g)], [Ai 3 f], []⟩
def z14 : Nat → S → Option R_ := H.i P_ [r,r,r,r,l,r,d]
def t9 (a : List LI) (b h : Int) : S := ⟨[(0, .val (.list (.list (.int .i64))) a), (3, vi b), (9, .val (.list (.list (.int .i64))) a), (10, vi (Ac a)), (11, vi h)], [], []⟩
def z9 : Nat → S → Option R_ := H.i P_ [r,r,l,r,d]
def x16 (f : LI) : Option R_ := H.e P_ [r,r,r,r,r] ⟨[(6, .own 0)], [Ai 3 f], []⟩
def x14 (a : List LI) (g : Int) (f : LI) : Option R_ := H.e P_ [r,r,r,r,l,r,d] (t14 a g f)
def x13 (a : List LI) (k : LI) : Option R_ := H.e P_ [r,r,r,r] ⟨[(0, .val (.list (.list (.int .i64))) a), (6, .own 0)], [Ai 3 k], []⟩
def x12 (b : Int) (a : List LI) : Option R_ := H.e P_ [r,r,r,l,(call 1 289),r,r] ⟨[(0, .nils), (1, vi b)], [], [[(0, .val (.list (.list (.int .i64))) a), (3, vi b), (23, vi b)]]⟩
def x11 (a : List LI) (b : Int) : Option R_ := H.e P_ [r,r,r] ⟨[(0, .val (.list (.list (.int .i64))) a), (3, vi b)], [], []⟩
def x9 (a : List LI) (b h : Int) : Option R_ := H.e P_ [r,r,l,r,d] (t9 a b h)
theorem e16 : x16 = Yy := by kernel_rfl
theorem i14 (a : List LI) : ∀ (q : Nat) (g : Int) (f : LI), z14 q (t14 a g f) = Dj a q g f :=
 ind (fun _ _ => by kernel_rfl) fun q ih g f => Eq.trans (b := Fj x16 (fun g f => (z14 q) (t14 a g f)) a g f) (by kernel_rfl) (by simp only [e16, ih] <;> rfl)
theorem e14 : x14 = Nq := by funext a g f; exact Eq.trans (by kernel_rfl) ((i14 a Bv g f).trans (by rw [Am]; rfl))
theorem e13 : x13 = Iq := Eq.trans (b := Np x14) (by kernel_rfl) (by simp only [e14] <;> rfl)
theorem e12 : x12 = Nn := Eq.trans (b := Nu x13) (by kernel_rfl) (by simp only [e13] <;> rfl)
theorem e11 : x11 = Nt := Eq.trans (b := Nl x12) (by kernel_rfl) (by simp only [e12] <;> rfl)
theorem i9 (a : List LI) : ∀ (q : Nat) (b h : Int), z9 q (t9 a b h) = Dr a q b h :=
 ind (fun _ _ => by kernel_rfl) fun q ih b h => Eq.trans (b := Gm x11 (fun b h => (z9 q) (t9 a b h)) a b h) (by kernel_rfl) (by simp only [e11, ih] <;> rfl)
theorem e9 : x9 = Px := by funext a b h; exact Eq.trans (by kernel_rfl) ((i9 a Bv b h).trans (by rw [Am]; rfl))
noncomputable def F := Mt
theorem rn x : H.u P_ x = F x := Eq.trans (b := Po x9 x) (by kernel_rfl) (by simp only [e9] <;> rfl)
noncomputable def c : Con := ⟨H.p, H.r, F⟩
theorem ok : ConOk P_ gl 258 c := cr H func258 .nil (AnsOk.cons ent289 AnsOk.nil) rn
end F258
namespace F211
noncomputable def H : Hd := ⟨[Sl, Sl], [Ol 3], .d, ⟨[(258, F258.c)], gl, false⟩, [], f211⟩
noncomputable def F := u2 Ajs
theorem rn x : H.u P_ x = F x := by kernel_rfl
noncomputable def c : Con := ⟨H.p, H.r, F⟩
theorem ok : ConOk P_ gl 211 c := co H func211 (.cons F258.ok .nil) rn
end F211
namespace F128
noncomputable def H : Hd := ⟨[Si, Si], [Ol 3, Si], .d, ⟨[(199, F199.c), (209, F209.c), (210, F210.c), (211, F211.c)], gl, false⟩, [], f128⟩
noncomputable def F := u2 Akk
theorem rn x : H.u P_ x = F x := by kernel_rfl
noncomputable def c : Con := ⟨H.p, H.r, F⟩
theorem ok : ConOk P_ gl 128 c := co H func128 (.cons F199.ok (.cons F209.ok (.cons F210.ok (.cons F211.ok .nil)))) rn
end F128
namespace F72
noncomputable def H : Hd := ⟨[.agg [Si, Si, Si, Si, Si]], [Ol 3, Si], .d, ⟨[(127, F127.c), (128, F128.c)], gl, false⟩, [], f72⟩
noncomputable def F := u5 Ct
theorem rn x : H.u P_ x = F x := by kernel_rfl
noncomputable def c : Con := ⟨H.p, H.r, F⟩
theorem ok : ConOk P_ gl 72 c := co H func72 (.cons F127.ok (.cons F128.ok .nil)) rn
end F72
namespace F73
noncomputable def H : Hd := ⟨[.agg [Si, Si, Si, Si, Si], Ss], [Si], .d, ⟨[], gl, false⟩, [], f73⟩
noncomputable def F := u6 Mk
theorem rn x : H.u P_ x = F x := by kernel_rfl
noncomputable def c : Con := ⟨H.p, H.r, F⟩
theorem ok : ConOk P_ gl 73 c := co H func73 .nil rn
end F73
namespace F74
abbrev R_ := Int
noncomputable def H : Hd := ⟨[Sl], [Si], (.seq .d (.seq .d (.seq .d (.cut [] [] (.seq .d (.blk (.loop [3, 14, 15, 16] [] .d))) .d)))), ⟨[], gl, false⟩, [], f74⟩
def t4 (a : LI) (f b : Int) : S := ⟨[(3, vi f), (14, vl a), (15, vi (Ac a)), (16, vi b)], [], []⟩
def z4 : Nat → S → Option R_ := H.i P_ [r,r,r,l,r,d]
def x6 : Option R_ := H.e P_ [r,r,r,r] ⟨[], [], []⟩
def x4 (a : LI) (f b : Int) : Option R_ := H.e P_ [r,r,r,l,r,d] (t4 a f b)
theorem e6 : x6 = Apo := by kernel_rfl
theorem i4 (a : LI) : ∀ (q : Nat) (f b : Int), z4 q (t4 a f b) = Rj a q f b :=
 ind (fun _ _ => by kernel_rfl) fun q ih f b => Eq.trans (b := Aca x6 (fun f b => (z4 q) (t4 a f b)) a f b) (by kernel_rfl) (by simp only [e6, ih] <;> rfl)
theorem e4 : x4 = Ai2 := by funext a f b; exact Eq.trans (by kernel_rfl) ((i4 a Bv f b).trans (by rw [Am]; rfl))
noncomputable def F := Sd
theorem rn x : H.u P_ x = F x := Eq.trans (b := Adq x4 x) (by kernel_rfl) (by simp only [e4] <;> rfl)
noncomputable def c : Con := ⟨H.p, H.r, F⟩
theorem ok : ConOk P_ gl 74 c := co H func74 .nil rn
end F74
namespace F36
abbrev R_ := Bool
noncomputable def H : Hd := ⟨[.agg [Ss, Sb, .agg [Si, Si, Si, Si, Si], Sl, Si, Sb, Sz, Si]], [Sz], (.seq .d (.seq .d (.seq .d (.cut [1, 3] [] .d (.seq .d (.seq .d (.seq .d (.cut [1, 5] [] (.seq .d (.blk (.loop [1, 5, 83, 84, 85] [] .d))) .d)))))))), ⟨[(72, F72.c), (73, F73.c), (74, F74.c)], gl, false⟩, [], f36⟩
def t6 (y : LI) (o p : LB) (h b f k m : Int) (g : LI) (a : Int) (n : LB) (u : Bool) (v w aa : Int) : S := ⟨[(1, .ptr 0 []), (5, vi w), (83, vl y), (84, vi (Ac y)), (85, vi aa)], [.box 28 (.agg [vs o, vb p, .agg [vi h, vi b, vi f, vi k, vi m], vl g, vi a, vb n, vt u, vi v])], []⟩
def z6 : Nat → S → Option R_ := H.i P_ [r,r,r,r,r,r,r,l,r,d]
def x8 (w : Int) (o p : LB) (h b f k m : Int) (g : LI) (a : Int) (n : LB) (u : Bool) (v : Int) : Option R_ := H.e P_ [r,r,r,r,r,r,r,r] ⟨[(1, .ptr 0 []), (5, vi w)], [.box 28 (.agg [vs o, vb p, .agg [vi h, vi b, vi f, vi k, vi m], vl g, vi a, vb n, vt u, vi v])], []⟩
def x6 (y : LI) (o p : LB) (h b f k m : Int) (g : LI) (a : Int) (n : LB) (u : Bool) (v w aa : Int) : Option R_ := H.e P_ [r,r,r,r,r,r,r,l,r,d] (t6 y o p h b f k m g a n u v w aa)
def x5 (o p : LB) (h b f k m : Int) (g : LI) (a : Int) (n : LB) (u : Bool) (v : Int) (ab : LI) : Option R_ := H.e P_ [r,r,r,r] ⟨[(1, .ptr 0 []), (3, .own 1)], [.box 28 (.agg [vs o, vb p, .agg [vi h, vi b, vi f, vi k, vi m], vl g, vi a, vb n, vt u, vi v]), Ai 3 ab], []⟩
theorem e8 : x8 = Ag7 := by kernel_rfl
theorem i6 (y : LI) (o p : LB) (h b f k m : Int) (g : LI) (a : Int) (n : LB) (u : Bool) (v : Int) : ∀ (q : Nat) (w aa : Int), z6 q (t6 y o p h b f k m g a n u v w aa) = Nx y o p h b f k m g a n u v q w aa :=
 ind (fun _ _ => by kernel_rfl) fun q ih w aa => Eq.trans (b := Aag x8 (fun w aa => (z6 q) (t6 y o p h b f k m g a n u v w aa)) y o p h b f k m g a n u v w aa) (by kernel_rfl) (by simp only [e8, ih] <;> rfl)
theorem e6 : x6 = Agr := by funext y o p h b f k m g a n u v w aa; exact Eq.trans (by kernel_rfl) ((i6 y o p h b f k m g a n u v Bv w aa).trans (by rw [Am]; rfl))
theorem e5 : x5 = Ag4 := Eq.trans (b := Aha x6) (by kernel_rfl) (by simp only [e6] <;> rfl)
noncomputable def F := u12 Yq
theorem rn x : H.u P_ x = F x := Eq.trans (b := u12 (Agq x5) x) (by kernel_rfl) (by simp only [e5] <;> rfl)
noncomputable def c : Con := ⟨H.p, H.r, F⟩
theorem ok : ConOk P_ gl 36 c := co H func36 (.cons F72.ok (.cons F73.ok (.cons F74.ok .nil))) rn
end F36
namespace F148
noncomputable def H : Hd := ⟨[Sb, Sb], [Sz], .d, ⟨[], gl, false⟩, [], f148⟩
noncomputable def F := u2 Il
theorem rn x : H.u P_ x = F x := by kernel_rfl
noncomputable def c : Con := ⟨H.p, H.r, F⟩
theorem ok : ConOk P_ gl 148 c := co H func148 .nil rn
end F148
namespace F163
noncomputable def H : Hd := ⟨[Sb, Sb], [Sz], .d, ⟨[(148, F148.c)], gl, false⟩, [], f163⟩
noncomputable def F := u2 Kr
theorem rn x : H.u P_ x = F x := by kernel_rfl
noncomputable def c : Con := ⟨H.p, H.r, F⟩
theorem ok : ConOk P_ gl 163 c := co H func163 (.cons F148.ok .nil) rn
end F163
namespace F290
abbrev R_ := (Int × Int)
noncomputable def H : Hd := ⟨[Sb], [Si, Si], (.seq .d (.seq .d (.seq .d (.cut [4] [] (.seq .d (.blk (.loop [4, 10, 11, 12] [] .d))) .d)))), ⟨[], gl, false⟩, [], f290⟩
def t4 (a : LB) (b f : Int) : S := ⟨[(4, vi b), (10, vb a), (11, vi (Ac a)), (12, vi f)], [], []⟩
def z4 : Nat → S → Option R_ := H.i P_ [r,r,r,l,r,d]
def x6 (b : Int) : Option R_ := H.e P_ [r,r,r,r] ⟨[(4, vi b)], [], []⟩
def x4 (a : LB) (b f : Int) : Option R_ := H.e P_ [r,r,r,l,r,d] (t4 a b f)
theorem e6 : x6 = Alm := by kernel_rfl
theorem i4 (a : LB) : ∀ (q : Nat) (b f : Int), z4 q (t4 a b f) = Ly a q b f :=
 ind (fun _ _ => by kernel_rfl) fun q ih b f => Eq.trans (b := Yu x6 (fun b f => (z4 q) (t4 a b f)) a b f) (by kernel_rfl) (by simp only [e6, ih] <;> rfl)
theorem e4 : x4 = Aew := by funext a b f; exact Eq.trans (by kernel_rfl) ((i4 a Bv b f).trans (by rw [Am]; rfl))
noncomputable def F := Afh
theorem rn x : H.u P_ x = F x := Eq.trans (b := Aek x4 x) (by kernel_rfl) (by simp only [e4] <;> rfl)
noncomputable def c : Con := ⟨H.p, H.r, F⟩
theorem ok : ConOk P_ gl 290 c := co H func290 .nil rn
end F290
namespace F259
def Aej (j5 : LB → UInt8 → UInt8 → Option (Int × Int)) (a : LB) : Option (Int × Int) :=
(Kr a ([(73 : UInt8), (68 : UInt8), (51 : UInt8)] : LB)).bind fun n =>
if (!n) then
some (0, 6)
else
if (Ci (Ac a) 10) then
some (0, 24)
else
(Al a 3).bind fun f =>
(Al a 5).bind fun b =>
(fun o : Option (Int × Int) =>
(fun p : Option (Int × Int) =>
both (
both (
bo (
j5 a f b)) [
o,
o]) [
bo2 (
bo (
j5 a f b)),
p,
p]) (
both (
o) [
bo (
j5 a f b),
both (
bo (
j5 a f b)) [
j5 a f b]])) (
both (
j5 a f b) [
bo (
j5 a f b)])
theorem Arc : @Aej = @Aai := by
  unfold Aej Aai
  try simp only [Af8, Xd, Xe]
  all_goals
    repeat (refine funext fun _ => ?_)
    repeat' first
      | with_reducible rfl
      | with_reducible refine Ev ?_ ?_
      | with_reducible refine Eu ?_ ?_ ?_
      | with_reducible refine En ?_ ?_ ?_ ?_
      | ((with_reducible refine Hm ?_ ?_); focus (intro h; first | (subst h; rfl) | (simp only [h]; rfl) | (simp [Db, Ac, h]; done)))
      | with_reducible refine Hu fun x => ?_
      | with_reducible refine Mi (fun _ => ?_) (fun _ => ?_)
      | (refine Cd (fun h => by simp only [h, Hx, Br, Bm, ite_self]) (fun x h => ?_); (try simp only [h, Br]))
      | (refine Da (fun h => ?_) (fun h => ?_) <;> simp only [h, if_true, if_false, Bool.false_eq_true])
abbrev R_ := (Int × Int)
noncomputable def H : Hd := ⟨[Sb], [Si, Si], (.seq .d (.seq .d (.seq .d (.cut [0, 4, 5] [] (.mode false) (.seq .d (.seq .d (.cut [0, 5, 6] [] (.cut [0, 5, 6, 43] [] (.keep [0, 5, 6, 7, 8, 31, 32, 33, 34, 35, 36, 37, 38, 39, 40, 41, 42, 43] true) .d) (.seq .d (.cut [0, 5, 6] [] .d .d))))))))), ⟨[(148, F148.c), (163, F163.c), (290, F290.c)], gl, false⟩, [(291, .d)], f259⟩
def x8 (a : LB) (b : UInt8) (h : Int) : Option R_ := H.e P_ [r,r,r,r,r,r,r,r,r] ⟨[(0, vb a), (5, .ptr 0 []), (6, vi h)], [.box 5 (vc b)], []⟩
def x7 (a : LB) (g : Int) (b : UInt8) : Option R_ := H.e P_ [r,r,r,r,r,r,r] ⟨[(0, vb a), (5, .ptr 0 []), (6, vi g)], [.box 5 (vc b)], []⟩
def x6 (a : LB) (g : Int) (b : UInt8) (m : Bool) : Option R_ := H.e P_ [r,r,r,r,r,r,l,r] ⟨[(0, vb a), (5, .ptr 0 []), (6, vi g), (43, vt m)], [.box 5 (vc b)], []⟩
def x5 (a : LB) (f b : UInt8) : Option R_ := H.e P_ [r,r,r,r] ⟨[(0, vb a), (4, .ptr 0 []), (5, .ptr 1 [])], [.box 5 (vc f), .box 5 (vc b)], []⟩
theorem e8 : x8 = Aaj := by kernel_rfl
theorem e7 : x7 = Aal := Eq.trans (b := Agt x8) (by kernel_rfl) (by simp only [e8] <;> rfl)
theorem e6 : x6 = Agw := Eq.trans (b := Ahb x7) (by kernel_rfl) (by simp only [e7] <;> rfl)
theorem e5 : x5 = Ags := Eq.trans (b := Ag5 x6) (by kernel_rfl) (by simp only [e6] <;> rfl)
noncomputable def F := Ahy
theorem rn x : H.u P_ x = F x := Eq.trans (b := Aej x5 x) (by kernel_rfl) (by unfold F; rw [Arc]; simp only [e5] <;> rfl)
noncomputable def c : Con := ⟨H.p, H.r, F⟩
theorem ok : ConOk P_ gl 259 c := cr H func259 (.cons F148.ok (.cons F163.ok (.cons F290.ok .nil))) (AnsOk.cons ent291 AnsOk.nil) rn
end F259
namespace F151
abbrev R_ := (UInt64 × Int)
noncomputable def H : Hd := ⟨[Sb], [Sq, Si], (.seq .d (.seq .d (.seq .d (.cut [4] [] (.seq .d (.blk (.loop [4, 15, 16, 17] [] .d))) .d)))), ⟨[], gl, false⟩, [], f151⟩
def t4 (a : LB) (b : UInt64) (f : Int) : S := ⟨[(4, vq b), (15, vb a), (16, vi (Ac a)), (17, vi f)], [], []⟩
def z4 : Nat → S → Option R_ := H.i P_ [r,r,r,l,r,d]
def x6 (b : UInt64) : Option R_ := H.e P_ [r,r,r,r] ⟨[(4, vq b)], [], []⟩
def x4 (a : LB) (b : UInt64) (f : Int) : Option R_ := H.e P_ [r,r,r,l,r,d] (t4 a b f)
theorem e6 : x6 = Av6 := by kernel_rfl
theorem i4 (a : LB) : ∀ (q : Nat) (b : UInt64) (f : Int), z4 q (t4 a b f) = Aa8 a q b f :=
 ind (fun _ _ => by kernel_rfl) fun q ih b f => Eq.trans (b := Akl x6 (fun b f => (z4 q) (t4 a b f)) a b f) (by kernel_rfl) (by simp only [e6, ih] <;> rfl)
theorem e4 : x4 = Ao9 := by funext a b f; exact Eq.trans (by kernel_rfl) ((i4 a Bv b f).trans (by rw [Am]; rfl))
noncomputable def F := Ap6
theorem rn x : H.u P_ x = F x := Eq.trans (b := Apk x4 x) (by kernel_rfl) (by simp only [e4] <;> rfl)
noncomputable def c : Con := ⟨H.p, H.r, F⟩
theorem ok : ConOk P_ gl 151 c := co H func151 .nil rn
end F151
namespace F140
noncomputable def H : Hd := ⟨[Sb, Si, Si], [Sq, Si], .d, ⟨[(151, F151.c)], gl, false⟩, [], f140⟩
noncomputable def F := u3 Ami
theorem rn x : H.u P_ x = F x := by kernel_rfl
noncomputable def c : Con := ⟨H.p, H.r, F⟩
theorem ok : ConOk P_ gl 140 c := co H func140 (.cons F151.ok .nil) rn
end F140
namespace F252
noncomputable def H : Hd := ⟨[Sq, Si], [Sz], .d, ⟨[], gl, false⟩, [], f252⟩
noncomputable def F := u2 Awj
theorem rn x : H.u P_ x = F x := by kernel_rfl
noncomputable def c : Con := ⟨H.p, H.r, F⟩
theorem ok : ConOk P_ gl 252 c := co H func252 .nil rn
end F252
namespace F189
abbrev R_ := (LB × Int)
noncomputable def H : Hd := ⟨[Sq, Si], [Ob 5, Si], (.seq .d (.seq .d (.seq .d (.seq .d (.cut [6] [] (.seq .d (.blk (.loop [0, 6, 21, 22] [] .d))) .d))))), ⟨[(252, F252.c)], gl, false⟩, [], f189⟩
def t4 (f : UInt64) (g : LB) (b : Int) (a : LB) : S := ⟨[(0, vq f), (6, .own 0), (21, vi (Ac g)), (22, vi b)], [Ab 5 a], []⟩
def z4 : Nat → S → Option R_ := H.i P_ [r,r,r,r,l,r,d]
def x6 (a : LB) : Option R_ := H.e P_ [r,r,r,r,r] ⟨[(6, .own 0)], [Ab 5 a], []⟩
def x4 (f : UInt64) (g : LB) (b : Int) (a : LB) : Option R_ := H.e P_ [r,r,r,r,l,r,d] (t4 f g b a)
theorem e6 : x6 = Ape := by kernel_rfl
theorem i4 (f : UInt64) (g : LB) : ∀ (q : Nat) (b : Int) (a : LB), z4 q (t4 f g b a) = Abc f g q b a :=
 ind (fun _ _ => by kernel_rfl) fun q ih b a => Eq.trans (b := Akh x6 (fun b a => (z4 q) (t4 f g b a)) f g b a) (by kernel_rfl) (by simp only [e6, ih] <;> rfl)
theorem e4 : x4 = Apn := by funext f g b a; exact Eq.trans (by kernel_rfl) ((i4 f g Bv b a).trans (by rw [Am]; rfl))
noncomputable def F := u2 Aqd
theorem rn x : H.u P_ x = F x := Eq.trans (b := u2 (Apu x4) x) (by kernel_rfl) (by simp only [e4] <;> rfl)
noncomputable def c : Con := ⟨H.p, H.r, F⟩
theorem ok : ConOk P_ gl 189 c := co H func189 (.cons F252.ok .nil) rn
end F189
namespace F165
abbrev R_ := LB
noncomputable def H : Hd := ⟨[Si, Si, Sq], [Ob 5], (.seq .d (.seq .d (.cut [7] [] (.seq .d (.blk (.loop [7, 20, 21, 22] [] .d))) .d))), ⟨[(189, F189.c)], gl, false⟩, [], f165⟩
def t4 (a b : Int) (f : UInt64) (h : Int) (g : LB) : S := ⟨[(7, .own 0), (20, .own 1), (21, vi (Ac ([(2000 : UInt64), (Ad (Af a (32 : Int)) : UInt64), (Ad b : UInt64), f, (0 : UInt64), (0 : UInt64)] : LQ))), (22, vi h)], [Ab 5 g, .arr 139 (.int .u64) ([(2000 : UInt64), (Ad (Af a (32 : Int)) : UInt64), (Ad b : UInt64), f, (0 : UInt64), (0 : UInt64)] : LQ)], []⟩
def z4 : Nat → S → Option R_ := H.i P_ [r,r,l,r,d]
def x6 (g : LB) : Option R_ := H.e P_ [r,r,r] ⟨[(7, .own 0)], [Ab 5 g], []⟩
def x4 (a b : Int) (f : UInt64) (h : Int) (g : LB) : Option R_ := H.e P_ [r,r,l,r,d] (t4 a b f h g)
theorem e6 : x6 = Ase := by kernel_rfl
theorem i4 (a b : Int) (f : UInt64) : ∀ (q : Nat) (h : Int) (g : LB), z4 q (t4 a b f h g) = Aay a b f q h g :=
 ind (fun _ _ => by kernel_rfl) fun q ih h g => Eq.trans (b := An7 x6 (fun h g => (z4 q) (t4 a b f h g)) a b f h g) (by kernel_rfl) (by simp only [e6, ih] <;> rfl)
theorem e4 : x4 = Asp := by funext a b f h g; exact Eq.trans (by kernel_rfl) ((i4 a b f Bv h g).trans (by rw [Am]; rfl))
noncomputable def F := u3 Aqo
theorem rn x : H.u P_ x = F x := Eq.trans (b := u3 (Ar1 x4) x) (by kernel_rfl) (by simp only [e4] <;> rfl)
noncomputable def c : Con := ⟨H.p, H.r, F⟩
theorem ok : ConOk P_ gl 165 c := co H func165 (.cons F189.ok .nil) rn
end F165
namespace F164
noncomputable def H : Hd := ⟨[Sb, Sq], [.agg [Si, Si], Sz], .d, ⟨[(140, F140.c), (148, F148.c), (165, F165.c)], gl, false⟩, [], f164⟩
noncomputable def F := u2 Ah8
theorem rn x : H.u P_ x = F x := by kernel_rfl
noncomputable def c : Con := ⟨H.p, H.r, F⟩
theorem ok : ConOk P_ gl 164 c := co H func164 (.cons F140.ok (.cons F148.ok (.cons F165.ok .nil))) rn
end F164
namespace F260
noncomputable def H : Hd := ⟨[Sb], [Si, Si], .d, ⟨[(148, F148.c), (163, F163.c), (164, F164.c), (165, F165.c)], gl, false⟩, [], f260⟩
noncomputable def F := Aqw
theorem rn x : H.u P_ x = F x := by kernel_rfl
noncomputable def c : Con := ⟨H.p, H.r, F⟩
theorem ok : ConOk P_ gl 260 c := co H func260 (.cons F148.ok (.cons F163.ok (.cons F164.ok (.cons F165.ok .nil)))) rn
end F260
namespace F213
noncomputable def H : Hd := ⟨[Sb], [Si, Si], .d, ⟨[(259, F259.c), (260, F260.c)], gl, false⟩, [], f213⟩
noncomputable def F := Xa
theorem rn x : H.u P_ x = F x := by kernel_rfl
noncomputable def c : Con := ⟨H.p, H.r, F⟩
theorem ok : ConOk P_ gl 213 c := co H func213 (.cons F259.ok (.cons F260.ok .nil)) rn
end F213
theorem Ajm : ConOk Tryz.prog gl 88 Zz := Ax4 ent88 F213.ok
namespace F78
noncomputable def H : Hd := ⟨[Si], [.agg [Sz, Si]], .d, ⟨[], gl, false⟩, [], f78⟩
noncomputable def F := Ag
theorem rn x : H.u P_ x = F x := by kernel_rfl
noncomputable def c : Con := ⟨H.p, H.r, F⟩
theorem ok : ConOk P_ gl 78 c := co H func78 .nil rn
end F78
namespace F214
noncomputable def H : Hd := ⟨[Ss, Ss], [Sz], .d, ⟨[], gl, false⟩, [], f214⟩
noncomputable def F := u2 Fg
theorem rn x : H.u P_ x = F x := by kernel_rfl
noncomputable def c : Con := ⟨H.p, H.r, F⟩
theorem ok : ConOk P_ gl 214 c := co H func214 .nil rn
end F214
namespace F139
noncomputable def H : Hd := ⟨[Ss, Ss], [Sz], .d, ⟨[(214, F214.c)], gl, false⟩, [], f139⟩
noncomputable def F := u2 Hn
theorem rn x : H.u P_ x = F x := by kernel_rfl
noncomputable def c : Con := ⟨H.p, H.r, F⟩
theorem ok : ConOk P_ gl 139 c := co H func139 (.cons F214.ok .nil) rn
end F139
namespace F129
abbrev R_ := Bool
noncomputable def H : Hd := ⟨[Sb], [Sz], (.seq .d (.cut [] [] (.seq .d (.blk (.loop [0, 5, 6] [] .d))) .d)), ⟨[(139, F139.c)], gl, false⟩, [], f129⟩
def t4 (a : LB) (b : Int) : S := ⟨[(0, vb a), (5, .val (.vec 2 .str) ([([73, 68, 51] : LB), ([65, 80, 69, 84, 65, 71, 69, 88] : LB)] : List LB)), (6, vi b)], [], []⟩
def z4 : Nat → S → Option R_ := H.i P_ [r,l,r,d]
def x6 : Option R_ := H.e P_ [r,r] ⟨[], [], []⟩
def x4 (a : LB) (b : Int) : Option R_ := H.e P_ [r,l,r,d] (t4 a b)
theorem e6 : x6 = Aof := by kernel_rfl
theorem i4 (a : LB) : ∀ (q : Nat) (b : Int), z4 q (t4 a b) = Im a q b :=
 ind (fun _ => by kernel_rfl) fun q ih b => Eq.trans (b := Uh x6 (fun b => (z4 q) (t4 a b)) a b) (by kernel_rfl) (by simp only [e6, ih] <;> rfl)
theorem e4 : x4 = Agu := by funext a b; exact Eq.trans (by kernel_rfl) ((i4 a Bv b).trans (by rw [Am]; rfl))
noncomputable def F := Pk
theorem rn x : H.u P_ x = F x := Eq.trans (b := Agx x4 x) (by kernel_rfl) (by simp only [e4] <;> rfl)
noncomputable def c : Con := ⟨H.p, H.r, F⟩
theorem ok : ConOk P_ gl 129 c := co H func129 (.cons F139.ok .nil) rn
end F129
namespace F215
abbrev R_ := (UInt32 × Int)
abbrev K_ := S → Option R_
noncomputable def H : Hd := ⟨[Su, Sb], [Su, Si], (.seq .d (.seq .d (.cut [0, 1, 6] [] (.keep [0, 1, 6, 12] true) (.cut [0] [] (.seq .d (.blk (.loop [0, 6, 13, 14, 15] [] .d))) .d)))), ⟨[], gl, false⟩, [(261, (.seq .d (.seq .d (.cut [1] [] (.seq .d (.blk (.loop [1, 5] [] (.seq .d (.seq .d (.cut [1, 5] [] (.blk (.seq .d (.seq .d (.cut [1, 2, 3, 5] [] (.seq .d (.blk (.loop [1, 2, 3, 5, 10] [] .d))) .d)))) .d)))))) .d))))], f215⟩
def t28 (a : LB) (b : LU) (h : UInt32) (m : Int) : S := ⟨[(0, vu h), (6, .ptr 0 []), (13, vb a), (14, vi (Ac a)), (15, vi m)], [.box 363 (.val (.vec 256 (.int .u32)) b)], []⟩
def z28 : Nat → S → Option R_ := H.i P_ [r,r,r,l,r,d]
def t21 (f : UInt32) (a : LB) (g : Int) (b : LU) (k : UInt32) (n : Int) : S := ⟨[(1, .ptr 0 []), (2, vi g), (3, vu k), (5, vi g), (10, vi n)], [.box 363 (.val (.vec 256 (.int .u32)) b)], [[(0, vu f), (1, vb a)]]⟩
def z21 (kn16 : K_) : Nat → S → Option R_ := H.i P_ [r,r,l,(call 0 261),r,r,l,r,d,(lp kn16),r,r,l,d,r,r,l,r,d]
def t16 (f : UInt32) (a : LB) (g : Int) (b : LU) : S := ⟨[(1, .ptr 0 []), (5, vi g)], [.box 363 (.val (.vec 256 (.int .u32)) b)], [[(0, vu f), (1, vb a)]]⟩
def z16 : Nat → S → Option R_ := H.i P_ [r,r,l,(call 0 261),r,r,l,r,d]
def x30 (h : UInt32) : Option R_ := H.e P_ [r,r,r,r] ⟨[(0, vu h)], [], []⟩
def x28 (a : LB) (b : LU) (h : UInt32) (m : Int) : Option R_ := H.e P_ [r,r,r,l,r,d] (t28 a b h m)
def x27 (f : UInt32) (a : LB) (b : LU) : Option R_ := H.e P_ [r,r,r] ⟨[(0, vu f), (1, vb a), (6, .ptr 0 [])], [.box 363 (.val (.vec 256 (.int .u32)) b)], []⟩
def x26 (f : UInt32) (a : LB) (b : LU) : Option R_ := H.e P_ [r,r,l,(call 0 261),r,r,r] ⟨[(1, .ptr 0 [])], [.box 363 (.val (.vec 256 (.int .u32)) b)], [[(0, vu f), (1, vb a)]]⟩
def x24 (kn16 : K_) (f : UInt32) (a : LB) (g : Int) (o : LU) : Option R_ := H.e P_ [r,r,l,(call 0 261),r,r,l,r,d,(lp kn16),r,r,r] ⟨[(1, .ptr 0 []), (5, vi g)], [.box 363 (.val (.vec 256 (.int .u32)) o)], [[(0, vu f), (1, vb a)]]⟩
def x23 (kn16 : K_) (f : UInt32) (a : LB) (g : Int) (k : UInt32) (b : LU) : Option R_ := H.e P_ [r,r,l,(call 0 261),r,r,l,r,d,(lp kn16),r,r,l,d,r,r,r] ⟨[(1, .ptr 0 []), (2, vi g), (3, vu k), (5, vi g)], [.box 363 (.val (.vec 256 (.int .u32)) b)], [[(0, vu f), (1, vb a)]]⟩
def x21 (kn16 : K_) (f : UInt32) (a : LB) (g : Int) (b : LU) (k : UInt32) (n : Int) : Option R_ := H.e P_ [r,r,l,(call 0 261),r,r,l,r,d,(lp kn16),r,r,l,d,r,r,l,r,d] (t21 f a g b k n)
def x16 (f : UInt32) (a : LB) (g : Int) (b : LU) : Option R_ := H.e P_ [r,r,l,(call 0 261),r,r,l,r,d] (t16 f a g b)
theorem e30 : x30 = Aiy := by kernel_rfl
theorem i28 (a : LB) (b : LU) : ∀ (q : Nat) (h : UInt32) (m : Int), z28 q (t28 a b h m) = Qy a b q h m :=
 ind (fun _ _ => by kernel_rfl) fun q ih h m => Eq.trans (b := Adp x30 (fun h m => (z28 q) (t28 a b h m)) a b h m) (by kernel_rfl) (by simp only [e30, ih] <;> rfl)
theorem e28 : x28 = Aie := by funext a b h m; exact Eq.trans (by kernel_rfl) ((i28 a b Bv h m).trans (by rw [Am]; rfl))
theorem e27 : x27 = Ajx := Eq.trans (b := Ajg x28) (by kernel_rfl) (by simp only [e28] <;> rfl)
theorem e26 : x26 = Acf := Eq.trans (b := Ai1 x27) (by kernel_rfl) (by simp only [e27] <;> rfl)
theorem e24 (kn16 : K_) (f : UInt32) (a : LB) : x24 kn16 f a = Aiw (fun g b => kn16 (t16 f a g b)) f a := by kernel_rfl
theorem e23 (kn16 : K_) (f : UInt32) (a : LB) : x23 kn16 f a = Adn (fun g b => kn16 (t16 f a g b)) f a := Eq.trans (b := Ai4 (x24 kn16 f a) f a) (by kernel_rfl) (by simp only [e24] <;> rfl)
theorem i21 (kn16 : K_) (f : UInt32) (a : LB) (g : Int) (b : LU) : ∀ (q : Nat) (k : UInt32) (n : Int), z21 kn16 q (t21 f a g b k n) = Rs (fun g b => kn16 (t16 f a g b)) f a g b q k n :=
 ind (fun _ _ => by kernel_rfl) fun q ih k n => Eq.trans (b := Abx (x23 kn16 f a) (fun k n => (z21 kn16 q) (t21 f a g b k n)) f a g b k n) (by kernel_rfl) (by simp only [e23, ih] <;> rfl)
theorem e21 (kn16 : K_) (f : UInt32) (a : LB) : x21 kn16 f a = Ajp (fun g b => kn16 (t16 f a g b)) f a := by funext g b k n; exact Eq.trans (by kernel_rfl) ((i21 kn16 f a g b Bv k n).trans (by rw [Am]; rfl))
theorem i16 (f : UInt32) (a : LB) : ∀ (q : Nat) (g : Int) (b : LU), z16 q (t16 f a g b) = Me f a q g b :=
 ind (fun _ _ => by kernel_rfl) fun q ih g b => Eq.trans (b := Acn (x21 (z16 q) f a) x26 f a g b) (by kernel_rfl) (by simp only [e21, e26, ih] <;> rfl)
theorem e16 : x16 = Ajd := by funext f a g b; exact Eq.trans (by kernel_rfl) ((i16 f a Bv g b).trans (by rw [Am]; rfl))
noncomputable def F := u2 Amx
theorem rn x : H.u P_ x = F x := Eq.trans (b := u2 (Akv x16) x) (by kernel_rfl) (by simp only [e16] <;> rfl)
noncomputable def c : Con := ⟨H.p, H.r, F⟩
theorem ok : ConOk P_ gl 215 c := cr H func215 .nil (AnsOk.cons ent261 AnsOk.nil) rn
end F215
namespace F141
noncomputable def H : Hd := ⟨[Sb], [Su, Si], .d, ⟨[(215, F215.c)], gl, false⟩, [], f141⟩
noncomputable def F := Ah6
theorem rn x : H.u P_ x = F x := by kernel_rfl
noncomputable def c : Con := ⟨H.p, H.r, F⟩
theorem ok : ConOk P_ gl 141 c := co H func141 (.cons F215.ok .nil) rn
end F141
namespace F89
abbrev R_ := (Int × Int × Int × Int × Int × Int)
noncomputable def H : Hd := ⟨[Sb], [.agg [Si, Si, Si, Si, Si], Si], (.seq .d (.seq .d (.seq .d (.seq .d (.seq .d (.seq .d (.seq .d (.cut [2, 8] [] (.seq .d (.blk (.loop [0, 2, 8, 9, 44, 45] [] .d))) .d)))))))), ⟨[(139, F139.c), (140, F140.c), (141, F141.c), (142, F142.c), (143, F143.c)], gl, false⟩, [], f89⟩
def t4 (b : LB) (g f : Int) (a : LI) : S := ⟨[(0, vb b), (2, .ptr 0 []), (8, .ptr 1 []), (9, vi g), (44, .val (.vec 5 (.int .i64)) ([(2 : Int), (2 : Int), (2 : Int), (4 : Int), (4 : Int)] : LI)), (45, vi f)], [.box 24 (.agg [vi 0, vi 0, vi 0, vi 0, vi 0]), .box 197 (.val (.vec 5 (.int .i64)) a)], []⟩
def z4 : Nat → S → Option R_ := H.i P_ [r,r,r,r,r,r,r,l,r,d]
def x6 (a : LI) : Option R_ := H.e P_ [r,r,r,r,r,r,r,r] ⟨[(2, .ptr 0 []), (8, .ptr 1 [])], [.box 24 (.agg [vi 0, vi 0, vi 0, vi 0, vi 0]), .box 197 (.val (.vec 5 (.int .i64)) a)], []⟩
def x4 (b : LB) (g f : Int) (a : LI) : Option R_ := H.e P_ [r,r,r,r,r,r,r,l,r,d] (t4 b g f a)
theorem e6 : x6 = Ab3 := by kernel_rfl
theorem i4 (b : LB) : ∀ (q : Nat) (g f : Int) (a : LI), z4 q (t4 b g f a) = Md b q g f a :=
 ind (fun _ _ _ => by kernel_rfl) fun q ih g f a => Eq.trans (b := Acs x6 (fun g f a => (z4 q) (t4 b g f a)) b g f a) (by kernel_rfl) (by simp only [e6, ih] <;> rfl)
theorem e4 : x4 = Ac0 := by funext b g f a; exact Eq.trans (by kernel_rfl) ((i4 b Bv g f a).trans (by rw [Am]; rfl))
noncomputable def F := Pg
theorem rn x : H.u P_ x = F x := Eq.trans (b := Ajr x4 x) (by kernel_rfl) (by simp only [e4] <;> rfl)
noncomputable def c : Con := ⟨H.p, H.r, F⟩
theorem ok : ConOk P_ gl 89 c := co H func89 (.cons F139.ok (.cons F140.ok (.cons F141.ok (.cons F142.ok (.cons F143.ok .nil))))) rn
end F89
namespace F149
abbrev R_ := (UInt64 × Int)
abbrev K_ := S → Option R_
noncomputable def H : Hd := ⟨[Sq, Sb], [Sq, Si], (.seq .d (.seq .d (.cut [4, 5] [] (.keep [0, 1, 4, 5, 9, 10, 11, 12] true) .d))), ⟨[], gl, false⟩, [(220, (.seq .d (.cut [1] [] (.seq .d (.blk (.loop [0, 1, 9, 10, 11] [] .d))) .d))), (221, (.seq .d (.seq .d (.cut [1] [] (.seq .d (.blk (.loop [1, 5] [] (.seq .d (.seq .d (.cut [1, 5] [] (.blk (.seq .d (.seq .d (.cut [1, 2, 3, 5] [] (.seq .d (.blk (.loop [1, 2, 3, 5, 11] [] .d))) .d)))) .d)))))) .d))))], f149⟩
def t27 (a : LB) (b : UInt64) (f : LQ) (h : UInt64) (m : Int) : S := ⟨[(0, .ptr 0 []), (1, vq h), (9, vb a), (10, vi (Ac a)), (11, vi m)], [.box 334 (.val (.vec 256 (.int .u64)) f)], [[(0, vq b), (1, vb a), (4, vq 0), (5, vi 0), (9, .ptr 0 []), (10, vq b), (11, vb a)]]⟩
def z27 : Nat → S → Option R_ := H.i P_ [r,r,l,(call 3 220),r,l,r,d]
def t21 (b : UInt64) (a : LB) (g : Int) (f : LQ) (k : UInt64) (n : Int) : S := ⟨[(1, .ptr 0 []), (2, vi g), (3, vq k), (5, vi g), (11, vi n)], [.box 334 (.val (.vec 256 (.int .u64)) f)], [[(0, vq b), (1, vb a), (4, vq 0), (5, vi 0)]]⟩
def z21 (kn16 : K_) : Nat → S → Option R_ := H.i P_ [r,r,l,(call 0 221),r,r,l,r,d,(lp kn16),r,r,l,d,r,r,l,r,d]
def t16 (b : UInt64) (a : LB) (g : Int) (f : LQ) : S := ⟨[(1, .ptr 0 []), (5, vi g)], [.box 334 (.val (.vec 256 (.int .u64)) f)], [[(0, vq b), (1, vb a), (4, vq 0), (5, vi 0)]]⟩
def z16 : Nat → S → Option R_ := H.i P_ [r,r,l,(call 0 221),r,r,l,r,d]
def x30 (h : UInt64) : Option R_ := H.e P_ [r,r,r] ⟨[(4, vq h), (5, vi 0)], [], []⟩
def x29 (h b : UInt64) (a : LB) (f : LQ) : Option R_ := H.e P_ [r,r,l,(call 3 220),r,r] ⟨[(1, vq h)], [.box 334 (.val (.vec 256 (.int .u64)) f)], [[(0, vq b), (1, vb a), (4, vq 0), (5, vi 0), (9, .ptr 0 []), (10, vq b), (11, vb a)]]⟩
def x27 (a : LB) (b : UInt64) (f : LQ) (h : UInt64) (m : Int) : Option R_ := H.e P_ [r,r,l,(call 3 220),r,l,r,d] (t27 a b f h m)
def x26 (b : UInt64) (a : LB) (f : LQ) : Option R_ := H.e P_ [r,r,l,(call 0 221),r,r,r] ⟨[(1, .ptr 0 [])], [.box 334 (.val (.vec 256 (.int .u64)) f)], [[(0, vq b), (1, vb a), (4, vq 0), (5, vi 0)]]⟩
def x24 (kn16 : K_) (b : UInt64) (a : LB) (g : Int) (o : LQ) : Option R_ := H.e P_ [r,r,l,(call 0 221),r,r,l,r,d,(lp kn16),r,r,r] ⟨[(1, .ptr 0 []), (5, vi g)], [.box 334 (.val (.vec 256 (.int .u64)) o)], [[(0, vq b), (1, vb a), (4, vq 0), (5, vi 0)]]⟩
def x23 (kn16 : K_) (b : UInt64) (a : LB) (g : Int) (k : UInt64) (f : LQ) : Option R_ := H.e P_ [r,r,l,(call 0 221),r,r,l,r,d,(lp kn16),r,r,l,d,r,r,r] ⟨[(1, .ptr 0 []), (2, vi g), (3, vq k), (5, vi g)], [.box 334 (.val (.vec 256 (.int .u64)) f)], [[(0, vq b), (1, vb a), (4, vq 0), (5, vi 0)]]⟩
def x21 (kn16 : K_) (b : UInt64) (a : LB) (g : Int) (f : LQ) (k : UInt64) (n : Int) : Option R_ := H.e P_ [r,r,l,(call 0 221),r,r,l,r,d,(lp kn16),r,r,l,d,r,r,l,r,d] (t21 b a g f k n)
def x16 (b : UInt64) (a : LB) (g : Int) (f : LQ) : Option R_ := H.e P_ [r,r,l,(call 0 221),r,r,l,r,d] (t16 b a g f)
theorem e30 : x30 = Ajf := by kernel_rfl
theorem e29 : x29 = Aih := Eq.trans (b := Ai7 x30) (by kernel_rfl) (by simp only [e30] <;> rfl)
theorem i27 (a : LB) (b : UInt64) (f : LQ) : ∀ (q : Nat) (h : UInt64) (m : Int), z27 q (t27 a b f h m) = Rl a b f q h m :=
 ind (fun _ _ => by kernel_rfl) fun q ih h m => Eq.trans (b := Acm x29 (fun h m => (z27 q) (t27 a b f h m)) a b f h m) (by kernel_rfl) (by simp only [e29, ih] <;> rfl)
theorem e27 : x27 = Aiq := by funext a b f h m; exact Eq.trans (by kernel_rfl) ((i27 a b f Bv h m).trans (by rw [Am]; rfl))
theorem e26 : x26 = Abz := Eq.trans (b := Aja x27) (by kernel_rfl) (by simp only [e27] <;> rfl)
theorem e24 (kn16 : K_) (b : UInt64) (a : LB) : x24 kn16 b a = Ajq (fun g f => kn16 (t16 b a g f)) b a := by kernel_rfl
theorem e23 (kn16 : K_) (b : UInt64) (a : LB) : x23 kn16 b a = Ace (fun g f => kn16 (t16 b a g f)) b a := Eq.trans (b := Ajc (x24 kn16 b a) b a) (by kernel_rfl) (by simp only [e24] <;> rfl)
theorem i21 (kn16 : K_) (b : UInt64) (a : LB) (g : Int) (f : LQ) : ∀ (q : Nat) (k : UInt64) (n : Int), z21 kn16 q (t21 b a g f k n) = Rf (fun g f => kn16 (t16 b a g f)) b a g f q k n :=
 ind (fun _ _ => by kernel_rfl) fun q ih k n => Eq.trans (b := Ads (x23 kn16 b a) (fun k n => (z21 kn16 q) (t21 b a g f k n)) b a g f k n) (by kernel_rfl) (by simp only [e23, ih] <;> rfl)
theorem e21 (kn16 : K_) (b : UInt64) (a : LB) : x21 kn16 b a = Ajj (fun g f => kn16 (t16 b a g f)) b a := by funext g f k n; exact Eq.trans (by kernel_rfl) ((i21 kn16 b a g f Bv k n).trans (by rw [Am]; rfl))
theorem i16 (b : UInt64) (a : LB) : ∀ (q : Nat) (g : Int) (f : LQ), z16 q (t16 b a g f) = Mm b a q g f :=
 ind (fun _ _ => by kernel_rfl) fun q ih g f => Eq.trans (b := Aco (x21 (z16 q) b a) x26 b a g f) (by kernel_rfl) (by simp only [e21, e26, ih] <;> rfl)
theorem e16 : x16 = Aj0 := by funext b a g f; exact Eq.trans (by kernel_rfl) ((i16 b a Bv g f).trans (by rw [Am]; rfl))
noncomputable def F := u2 Anx
theorem rn x : H.u P_ x = F x := Eq.trans (b := u2 (Aku x16) x) (by kernel_rfl) (by simp only [e16] <;> rfl)
noncomputable def c : Con := ⟨H.p, H.r, F⟩
theorem ok : ConOk P_ gl 149 c := cr H func149 .nil (AnsOk.cons ent220 (AnsOk.cons ent221 AnsOk.nil)) rn
end F149
namespace F94
noncomputable def H : Hd := ⟨[Sb], [Sq, Si], .d, ⟨[(149, F149.c)], gl, false⟩, [], f94⟩
noncomputable def F := Aln
theorem rn x : H.u P_ x = F x := by kernel_rfl
noncomputable def c : Con := ⟨H.p, H.r, F⟩
theorem ok : ConOk P_ gl 94 c := co H func94 (.cons F149.ok .nil) rn
end F94
namespace F219
noncomputable def H : Hd := ⟨[Ss], [Sq, Si], .d, ⟨[(94, F94.c)], gl, false⟩, [], f219⟩
noncomputable def F := Aui
theorem rn x : H.u P_ x = F x := by kernel_rfl
noncomputable def c : Con := ⟨H.p, H.r, F⟩
theorem ok : ConOk P_ gl 219 c := co H func219 (.cons F94.ok .nil) rn
end F219
namespace F147
noncomputable def H : Hd := ⟨[Ss], [Ob 5, Si], .d, ⟨[(189, F189.c), (219, F219.c)], gl, false⟩, [], f147⟩
noncomputable def F := Ah3
theorem rn x : H.u P_ x = F x := by kernel_rfl
noncomputable def c : Con := ⟨H.p, H.r, F⟩
theorem ok : ConOk P_ gl 147 c := co H func147 (.cons F189.ok (.cons F219.ok .nil)) rn
end F147
namespace F92
noncomputable def H : Hd := ⟨[Sb, Ss], [Sz, Si], .d, ⟨[(147, F147.c), (148, F148.c)], gl, false⟩, [], f92⟩
noncomputable def F := u2 Ab5
theorem rn x : H.u P_ x = F x := by kernel_rfl
noncomputable def c : Con := ⟨H.p, H.r, F⟩
theorem ok : ConOk P_ gl 92 c := co H func92 (.cons F147.ok (.cons F148.ok .nil)) rn
end F92
namespace F93
abbrev R_ := (LI × Int)
noncomputable def H : Hd := ⟨[Sb, Si], [Ol 3, Si], (.seq .d (.seq .d (.seq .d (.seq .d (.seq .d (.seq .d (.cut [10] [] (.seq .d (.blk (.loop [0, 10, 48, 49] [] .d))) .d))))))), ⟨[(74, F74.c), (140, F140.c), (141, F141.c)], gl, false⟩, [], f93⟩
def t4 (b : LB) (f : LI) (g : Int) (a : LI) : S := ⟨[(0, vb b), (10, .own 0), (48, vi (Ac f)), (49, vi g)], [Ai 3 a], []⟩
def z4 : Nat → S → Option R_ := H.i P_ [r,r,r,r,r,r,l,r,d]
def x6 (a : LI) : Option R_ := H.e P_ [r,r,r,r,r,r,r] ⟨[(10, .own 0)], [Ai 3 a], []⟩
def x4 (b : LB) (f : LI) (g : Int) (a : LI) : Option R_ := H.e P_ [r,r,r,r,r,r,l,r,d] (t4 b f g a)
theorem e6 : x6 = Afd := by kernel_rfl
theorem i4 (b : LB) (f : LI) : ∀ (q : Nat) (g : Int) (a : LI), z4 q (t4 b f g a) = Um b f q g a :=
 ind (fun _ _ => by kernel_rfl) fun q ih g a => Eq.trans (b := Ae7 x6 (fun g a => (z4 q) (t4 b f g a)) b f g a) (by kernel_rfl) (by simp only [e6, ih] <;> rfl)
theorem e4 : x4 = Ak1 := by funext b f g a; exact Eq.trans (by kernel_rfl) ((i4 b f Bv g a).trans (by rw [Am]; rfl))
noncomputable def F := u2 Ajl
theorem rn x : H.u P_ x = F x := Eq.trans (b := u2 (Akp x4) x) (by kernel_rfl) (by simp only [e4] <;> rfl)
noncomputable def c : Con := ⟨H.p, H.r, F⟩
theorem ok : ConOk P_ gl 93 c := co H func93 (.cons F74.ok (.cons F140.ok (.cons F141.ok .nil))) rn
end F93
namespace F95
abbrev R_ := LX
noncomputable def H : Hd := ⟨[Sq], [.lf (.vec 16 (.int .i32)) none], (.seq .d (.seq .d (.cut [2, 3] [] (.seq .d (.blk (.loop [0, 2, 3, 5] [] .d))) .d))), ⟨[], gl, false⟩, [], f95⟩
def t4 (f : UInt64) (b : Int) (a : LX) : S := ⟨[(0, vq f), (2, .ptr 0 []), (3, .ptr 1 []), (5, vi b)], [.box 95 (.val (.vec 16 (.int .i32)) (List.replicate 16 (0 : Int32))), .box 95 (.val (.vec 16 (.int .i32)) a)], []⟩
def z4 : Nat → S → Option R_ := H.i P_ [r,r,l,r,d]
def x6 (a : LX) : Option R_ := H.e P_ [r,r,r] ⟨[(2, .ptr 0 []), (3, .ptr 1 [])], [.box 95 (.val (.vec 16 (.int .i32)) (List.replicate 16 (0 : Int32))), .box 95 (.val (.vec 16 (.int .i32)) a)], []⟩
def x4 (f : UInt64) (b : Int) (a : LX) : Option R_ := H.e P_ [r,r,l,r,d] (t4 f b a)
theorem e6 : x6 = Axw := by kernel_rfl
theorem i4 (f : UInt64) : ∀ (q : Nat) (b : Int) (a : LX), z4 q (t4 f b a) = Aem f q b a :=
 ind (fun _ _ => by kernel_rfl) fun q ih b a => Eq.trans (b := An0 x6 (fun b a => (z4 q) (t4 f b a)) f b a) (by kernel_rfl) (by simp only [e6, ih] <;> rfl)
theorem e4 : x4 = Azv := by funext f b a; exact Eq.trans (by kernel_rfl) ((i4 f Bv b a).trans (by rw [Am]; rfl))
noncomputable def F := Bdd
theorem rn x : H.u P_ x = F x := Eq.trans (b := Azo x4 x) (by kernel_rfl) (by simp only [e4] <;> rfl)
noncomputable def c : Con := ⟨H.p, H.r, F⟩
theorem ok : ConOk P_ gl 95 c := co H func95 .nil rn
end F95
namespace F54
noncomputable def H : Hd := ⟨[Ss], [.lf (.vec 16 (.int .i32)) none, Si], .d, ⟨[(94, F94.c), (95, F95.c)], gl, false⟩, [], f54⟩
noncomputable def F := Abe
theorem rn x : H.u P_ x = F x := by kernel_rfl
noncomputable def c : Con := ⟨H.p, H.r, F⟩
theorem ok : ConOk P_ gl 54 c := co H func54 (.cons F94.ok (.cons F95.ok .nil)) rn
end F54
namespace F130
noncomputable def H : Hd := ⟨[.agg [Si, Si, Si, Si, Si]], [.agg [Si, Si]], .d, ⟨[], gl, false⟩, [], f130⟩
noncomputable def F := u5 Zv
theorem rn x : H.u P_ x = F x := by kernel_rfl
noncomputable def c : Con := ⟨H.p, H.r, F⟩
theorem ok : ConOk P_ gl 130 c := co H func130 .nil rn
end F130
namespace F150
abbrev R_ := (Int32 × Int32 × Int)
noncomputable def H : Hd := ⟨[Si], [Sx, Sx, Si], (.seq .d (.seq (.seq .d (.blk (.cut [0, 7] [] .d .d))) .d)), ⟨[], gl, false⟩, [], f150⟩
def x2 (a : Int) (b : Bool) : Option R_ := H.e P_ [r,l,r,d,r] ⟨[(0, vi a), (7, vt b)], [], []⟩
theorem e2 : x2 = Aqk := by kernel_rfl
noncomputable def F := Agl
theorem rn x : H.u P_ x = F x := Eq.trans (b := Apm x2 x) (by kernel_rfl) (by simp only [e2] <;> rfl)
noncomputable def c : Con := ⟨H.p, H.r, F⟩
theorem ok : ConOk P_ gl 150 c := co H func150 .nil rn
end F150
namespace F96
noncomputable def H : Hd := ⟨[.agg [Si, Si]], [Si], .d, ⟨[(150, F150.c)], gl, false⟩, [], f96⟩
noncomputable def F := u2 Afa
theorem rn x : H.u P_ x = F x := by kernel_rfl
noncomputable def c : Con := ⟨H.p, H.r, F⟩
theorem ok : ConOk P_ gl 96 c := co H func96 (.cons F150.ok .nil) rn
end F96
namespace F97
noncomputable def H : Hd := ⟨[Sb], [Sb, Si], .d, ⟨[(141, F141.c), (151, F151.c)], gl, false⟩, [], f97⟩
noncomputable def F := Ac2
theorem rn x : H.u P_ x = F x := by kernel_rfl
noncomputable def c : Con := ⟨H.p, H.r, F⟩
theorem ok : ConOk P_ gl 97 c := co H func97 (.cons F141.ok (.cons F151.ok .nil)) rn
end F97
namespace F152
def Ml (a : LB) : Option (LB) :=
Axl a (
some ([] : LB)) (
(Db ([] : LB) a).bind fun b =>
some b)
theorem Afx : @Ml = @Hl := by
  unfold Ml Hl
  repeat (refine funext fun _ => ?_)
  repeat' first
    | with_reducible rfl
    | with_reducible refine Ev ?_ ?_
    | with_reducible refine Eu ?_ ?_ ?_
    | with_reducible refine En ?_ ?_ ?_ ?_
    | ((with_reducible refine Hm ?_ ?_); focus (intro h; first | (subst h; rfl) | (simp only [h]; rfl) | (simp [Db, Ac, h]; done)))
    | with_reducible refine Hu fun x => ?_
    | with_reducible refine Mi (fun _ => ?_) (fun _ => ?_)
    | (refine Cd (fun h => by simp only [h, Hx, Br, Bm, ite_self]) (fun x h => ?_); (try simp only [h, Br]))
    | (refine Da (fun h => ?_) (fun h => ?_) <;> simp only [h, if_true, if_false, Bool.false_eq_true])
noncomputable def H : Hd := ⟨[Sb], [Ob 5], .d, ⟨[], gl, false⟩, [], f152⟩
noncomputable def F := Hl
theorem rn x : H.u P_ x = F x := Eq.trans (b := Ml x) (by kernel_rfl) (by rw [Afx]; rfl)
noncomputable def c : Con := ⟨H.p, H.r, F⟩
theorem ok : ConOk P_ gl 152 c := co H func152 .nil rn
end F152
namespace F98
noncomputable def H : Hd := ⟨[Sb], [.agg [Ob 5, Si], Si], .d, ⟨[(152, F152.c)], gl, false⟩, [], f98⟩
noncomputable def F := Bc4
theorem rn x : H.u P_ x = F x := by kernel_rfl
noncomputable def c : Con := ⟨H.p, H.r, F⟩
theorem ok : ConOk P_ gl 98 c := co H func98 (.cons F152.ok .nil) rn
end F98
namespace F153
noncomputable def H : Hd := ⟨[], [.agg [Si, Si, Sq, Sq]], .d, ⟨[], gl, false⟩, [], f153⟩
noncomputable def F (x : Unit) := Ayp
theorem rn x : H.u P_ x = F x := by kernel_rfl
noncomputable def c : Con := ⟨H.p, H.r, F⟩
theorem ok : ConOk P_ gl 153 c := co H func153 .nil rn
end F153
namespace F156
noncomputable def H : Hd := ⟨[.agg [Sb, Si]], [Si], .d, ⟨[], gl, false⟩, [], f156⟩
noncomputable def F := u2 Tl
theorem rn x : H.u P_ x = F x := by kernel_rfl
noncomputable def c : Con := ⟨H.p, H.r, F⟩
theorem ok : ConOk P_ gl 156 c := co H func156 .nil rn
end F156
namespace F157
abbrev R_ := UInt64
noncomputable def H : Hd := ⟨[.agg [Sb, Si], Si, Si], [Sq], (.seq .d (.seq .d (.cut [7] [] (.blk (.loop [1, 2, 3, 7, 8] [] .d)) .d))), ⟨[], gl, false⟩, [], f157⟩
def t4 (b f : Int) (h : LB) (k : Int) (g : UInt64) (a : Int) : S := ⟨[(1, vi b), (2, vi f), (3, .ptr 0 []), (7, vq g), (8, vi a)], [.box 146 (.agg [vb h, vi k])], []⟩
def z4 : Nat → S → Option R_ := H.i P_ [r,r,l,d]
def x6 (g : UInt64) : Option R_ := H.e P_ [r,r,r] ⟨[(7, vq g)], [], []⟩
def x4 (b f : Int) (h : LB) (k : Int) (g : UInt64) (a : Int) : Option R_ := H.e P_ [r,r,l,d] (t4 b f h k g a)
theorem e6 : x6 = Avr := by kernel_rfl
theorem i4 (b f : Int) (h : LB) (k : Int) : ∀ (q : Nat) (g : UInt64) (a : Int), z4 q (t4 b f h k g a) = Afp b f h k q g a :=
 ind (fun _ _ => by kernel_rfl) fun q ih g a => Eq.trans (b := Aqm x6 (fun g a => (z4 q) (t4 b f h k g a)) b f h k g a) (by kernel_rfl) (by simp only [e6, ih] <;> rfl)
theorem e4 : x4 = Avi := by funext b f h k g a; exact Eq.trans (by kernel_rfl) ((i4 b f h k Bv g a).trans (by rw [Am]; rfl))
noncomputable def F := u4 Ath
theorem rn x : H.u P_ x = F x := Eq.trans (b := u4 (Av2 x4) x) (by kernel_rfl) (by simp only [e4] <;> rfl)
noncomputable def c : Con := ⟨H.p, H.r, F⟩
theorem ok : ConOk P_ gl 157 c := co H func157 .nil rn
end F157
namespace F154
abbrev R_ := (LB × Int × Int)
abbrev K_ := S → Option R_
noncomputable def H : Hd := ⟨[.agg [Sb, Si], Si, Si], [.agg [Ob 5, Si], Si], (.seq .d (.seq .d (.seq .d (.seq .d (.cut [6, 8] [] (.seq .d (.blk (.loop [2, 3, 6, 8, 9] [⟨8, [0], .own 5 (.int .u8)⟩] (.seq .d (.cut [2, 3, 6, 8, 9] [] (.blk (.seq .d (.keep [2, 3, 6, 8, 9, 10, 39, 40, 41, 42, 43] true))) .d))))) .d))))), ⟨[(156, F156.c), (157, F157.c)], gl, false⟩, [(222, (.blk (.loop [0, 1, 2] [] (.seq .d (.blk (.cut [0, 1, 2] [] .d (.seq .d (.cut [0, 1, 2, 7] [] .d .d))))))))], f154⟩
def t44 (a : Int) (g : LB) (f b : Int) (k n : UInt64) (m h : Int) (u : LB) : S := ⟨[(0, .ptr 0 []), (1, vq n), (2, vi m)], [.box 146 (.agg [.own 3, vi h]), .box 146 (.agg [vb g, vi f]), .box 146 (.agg [.nils, vi 0]), Ab 5 u], [[(2, vi a), (3, .ptr 1 []), (6, .ptr 2 []), (8, .ptr 0 []), (9, vi b), (10, vi (Fv (64 : Int) (Ao a b))), (39, .agg [vb g, vi f]), (40, vi b), (41, vi (Fv (64 : Int) (Ao a b))), (42, vq k), (43, vi (Fv (64 : Int) (Ao a b)))]]⟩
def z44 (kn27 : K_) : Nat → S → Option R_ := H.i P_ [r,r,r,r,l,r,d,(lp kn27),r,l,d,r,(call 5 222),d]
def t27 (a : Int) (g : LB) (f b o : Int) (p : LB) : S := ⟨[(2, vi a), (3, .ptr 0 []), (6, .ptr 1 []), (8, .ptr 2 []), (9, vi b)], [.box 146 (.agg [vb g, vi f]), .box 146 (.agg [.nils, vi 0]), .box 146 (.agg [.own 3, vi o]), Ab 5 p], []⟩
def z27 : Nat → S → Option R_ := H.i P_ [r,r,r,r,l,r,d]
def x52 (o : Int) (p : LB) : Option R_ := H.e P_ [r,r,r,r,r] ⟨[(6, .ptr 0 []), (8, .ptr 1 [])], [.box 146 (.agg [.nils, vi 0]), .box 146 (.agg [.own 2, vi o]), Ab 5 p], []⟩
def x50 (kn27 : K_) (a : Int) (g : LB) (f b h : Int) (u : LB) : Option R_ := H.e P_ [r,r,r,r,l,r,d,(lp kn27),r,r] ⟨[(2, vi a), (3, .ptr 0 []), (6, .ptr 1 []), (8, .ptr 2 []), (9, vi b)], [.box 146 (.agg [vb g, vi f]), .box 146 (.agg [.nils, vi 0]), .box 146 (.agg [.own 3, vi h]), Ab 5 u], []⟩
def x48 (kn27 kn44 : K_) (a b : Int) (g : LB) (f : Int) (k n : UInt64) (m h : Int) (w : LB) : Option R_ := H.e P_ [r,r,r,r,l,r,d,(lp kn27),r,l,d,r,(call 5 222),d,(lp kn44),r,d,r,r,r] ⟨[(0, .ptr 0 []), (1, vq n), (2, vi m), (7, vi (Fv m (Ao (8 : Int) (Jg h (7 : Int)))))], [.box 146 (.agg [.own 3, vi h]), .box 146 (.agg [vb g, vi f]), .box 146 (.agg [.nils, vi 0]), Ab 5 w], [[(2, vi a), (3, .ptr 1 []), (6, .ptr 2 []), (8, .ptr 0 []), (9, vi b), (10, vi (Fv (64 : Int) (Ao a b))), (39, .agg [vb g, vi f]), (40, vi b), (41, vi (Fv (64 : Int) (Ao a b))), (42, vq k), (43, vi (Fv (64 : Int) (Ao a b)))]]⟩
def x47 (kn27 kn44 : K_) (a b : Int) (g : LB) (f : Int) (k n : UInt64) (m h : Int) (v : LB) : Option R_ := H.e P_ [r,r,r,r,l,r,d,(lp kn27),r,l,d,r,(call 5 222),d,(lp kn44),r,d,r] ⟨[(0, .ptr 0 []), (1, vq n), (2, vi m)], [.box 146 (.agg [.own 3, vi h]), .box 146 (.agg [vb g, vi f]), .box 146 (.agg [.nils, vi 0]), Ab 5 v], [[(2, vi a), (3, .ptr 1 []), (6, .ptr 2 []), (8, .ptr 0 []), (9, vi b), (10, vi (Fv (64 : Int) (Ao a b))), (39, .agg [vb g, vi f]), (40, vi b), (41, vi (Fv (64 : Int) (Ao a b))), (42, vq k), (43, vi (Fv (64 : Int) (Ao a b)))]]⟩
def x44 (kn27 : K_) (a : Int) (g : LB) (f b : Int) (k n : UInt64) (m h : Int) (u : LB) : Option R_ := H.e P_ [r,r,r,r,l,r,d,(lp kn27),r,l,d,r,(call 5 222),d] (t44 a g f b k n m h u)
def x27 (a : Int) (g : LB) (f b o : Int) (p : LB) : Option R_ := H.e P_ [r,r,r,r,l,r,d] (t27 a g f b o p)
theorem e52 : x52 = Amq := by kernel_rfl
theorem e50 (kn27 : K_) (a : Int) (g : LB) (f : Int) : x50 kn27 a g f = Ah0 (fun b o p => kn27 (t27 a g f b o p)) a g f := by kernel_rfl
theorem e48 (kn27 kn44 : K_) (a : Int) (g : LB) (f b : Int) (k : UInt64) : x48 kn27 kn44 a b g f k = Anp (fun n m h u => kn44 (t44 a g f b k n m h u)) a b g f k := by kernel_rfl
theorem e47 (kn27 kn44 : K_) (a : Int) (g : LB) (f b : Int) (k : UInt64) : x47 kn27 kn44 a b g f k = Ahs (fun n m h u => kn44 (t44 a g f b k n m h u)) a b g f k := Eq.trans (b := An9 (x48 kn27 kn44 a b g f k) a b g f k) (by kernel_rfl) (by simp only [e48] <;> rfl)
theorem i44 (kn27 : K_) (a : Int) (g : LB) (f b : Int) (k : UInt64) : ∀ (q : Nat) (n : UInt64) (m h : Int) (u : LB), z44 kn27 q (t44 a g f b k n m h u) = Oe (fun b o p => kn27 (t27 a g f b o p)) a g f b k q n m h u :=
 ind (fun _ _ _ _ => by kernel_rfl) fun q ih n m h u => Eq.trans (b := Aht (x47 kn27 (z44 kn27 q) a b g f k) (x50 kn27 a g f) a g f b k n m h u) (by kernel_rfl) (by simp only [e47, e50, ih] <;> rfl)
theorem e44 (kn27 : K_) (a : Int) (g : LB) (f : Int) : x44 kn27 a g f = An6 (fun b o p => kn27 (t27 a g f b o p)) a g f := by funext b k n m h u; exact Eq.trans (by kernel_rfl) ((i44 kn27 a g f b k Bv n m h u).trans (by rw [Am]; rfl))
theorem i27 (a : Int) (g : LB) (f : Int) : ∀ (q : Nat) (b o : Int) (p : LB), z27 q (t27 a g f b o p) = Yj a g f q b o p :=
 ind (fun _ _ _ => by kernel_rfl) fun q ih b o p => Eq.trans (b := Anu (x44 (z27 q) a g f) x52 a g f b o p) (by kernel_rfl) (by simp only [e44, e52, ih] <;> rfl)
theorem e27 : x27 = Am4 := by funext a g f b o p; exact Eq.trans (by kernel_rfl) ((i27 a g f Bv b o p).trans (by rw [Am]; rfl))
noncomputable def F := u4 Ap3
theorem rn x : H.u P_ x = F x := Eq.trans (b := u4 (Aqi x27) x) (by kernel_rfl) (by simp only [e27] <;> rfl)
noncomputable def c : Con := ⟨H.p, H.r, F⟩
theorem ok : ConOk P_ gl 154 c := cr H func154 (.cons F156.ok (.cons F157.ok .nil)) (AnsOk.cons ent222 AnsOk.nil) rn
end F154
namespace F223
def Aii (j4 : Int → Int → UInt64 → UInt64 → Option Int) (a b : Int) (f g : UInt64) : Option Int :=
both (
bo (
j4 a b f g)) [
j4 a b f g]
theorem As8 : @Aii = @Afc := by
  unfold Aii Afc
  repeat (refine funext fun _ => ?_)
  repeat' first
    | with_reducible rfl
    | with_reducible refine Ev ?_ ?_
    | with_reducible refine Eu ?_ ?_ ?_
    | with_reducible refine En ?_ ?_ ?_ ?_
    | ((with_reducible refine Hm ?_ ?_); focus (intro h; first | (subst h; rfl) | (simp only [h]; rfl) | (simp [Db, Ac, h]; done)))
    | with_reducible refine Hu fun x => ?_
    | with_reducible refine Mi (fun _ => ?_) (fun _ => ?_)
    | (refine Cd (fun h => by simp only [h, Hx, Br, Bm, ite_self]) (fun x h => ?_); (try simp only [h, Br]))
    | (refine Da (fun h => ?_) (fun h => ?_) <;> simp only [h, if_true, if_false, Bool.false_eq_true])
def Ajb (j3 : Int → Int → UInt64 → UInt64 → Option Int) (a b : Int) (f g : UInt64) : Option Int :=
both (
bo (
j3 a b f g)) [
j3 a b f g]
theorem Att : @Ajb = @Ae9 := by
  unfold Ajb Ae9
  repeat (refine funext fun _ => ?_)
  repeat' first
    | with_reducible rfl
    | with_reducible refine Ev ?_ ?_
    | with_reducible refine Eu ?_ ?_ ?_
    | with_reducible refine En ?_ ?_ ?_ ?_
    | ((with_reducible refine Hm ?_ ?_); focus (intro h; first | (subst h; rfl) | (simp only [h]; rfl) | (simp [Db, Ac, h]; done)))
    | with_reducible refine Hu fun x => ?_
    | with_reducible refine Mi (fun _ => ?_) (fun _ => ?_)
    | (refine Cd (fun h => by simp only [h, Hx, Br, Bm, ite_self]) (fun x h => ?_); (try simp only [h, Br]))
    | (refine Da (fun h => ?_) (fun h => ?_) <;> simp only [h, if_true, if_false, Bool.false_eq_true])
abbrev R_ := Int
noncomputable def H : Hd := ⟨[.agg [Si, Si, Sq, Sq]], [Si], (.seq .d (.seq .d (.cut [1, 3] [] (.mode false) (.cut [1, 3] [] (.mode false) .d)))), ⟨[], gl, false⟩, [], f223⟩
def x4 (a b : Int) (f g : UInt64) : Option R_ := H.e P_ [r,r,r,r] ⟨[(1, .ptr 0 []), (3, .ptr 1 [])], [.box 208 (.agg [vi a, vi b, vq f, vq g]), .box 208 (.agg [vi (Fv (Arb a (0 : Int)) (24 : Int)), vi (Fv (Arb b (0 : Int)) (24 : Int)), vq (Fv f (68719476735 : UInt64)), vq (Fv g (68719476735 : UInt64))])], []⟩
def x3 (a b : Int) (f g : UInt64) : Option R_ := H.e P_ [r,r,r] ⟨[(1, .ptr 0 []), (3, .ptr 1 [])], [.box 208 (.agg [vi a, vi b, vq f, vq g]), .box 208 (.agg [vi (Fv (Arb a (0 : Int)) (24 : Int)), vi (Fv (Arb b (0 : Int)) (24 : Int)), vq f, vq g])], []⟩
theorem e4 : x4 = Akz := by kernel_rfl
theorem e3 : x3 = Alj := Eq.trans (b := Aii x4) (by kernel_rfl) (by rw [As8]; simp only [e4] <;> rfl)
noncomputable def F := u4 Am3
theorem rn x : H.u P_ x = F x := Eq.trans (b := u4 (Ajb x3) x) (by kernel_rfl) (by unfold F; rw [Att]; simp only [e3] <;> rfl)
noncomputable def c : Con := ⟨H.p, H.r, F⟩
theorem ok : ConOk P_ gl 223 c := co H func223 .nil rn
end F223
namespace F100
noncomputable def H : Hd := ⟨[.agg [Sb, Si], Si, Si], [Sq, Si], .d, ⟨[(156, F156.c), (157, F157.c)], gl, false⟩, [], f100⟩
noncomputable def F := u4 Adg
theorem rn x : H.u P_ x = F x := by kernel_rfl
noncomputable def c : Con := ⟨H.p, H.r, F⟩
theorem ok : ConOk P_ gl 100 c := co H func100 (.cons F156.ok (.cons F157.ok .nil)) rn
end F100
namespace F294
noncomputable def H : Hd := ⟨[Sq], [Si], .d, ⟨[], gl, false⟩, [], f294⟩
noncomputable def F := Fi
theorem rn x : H.u P_ x = F x := by kernel_rfl
noncomputable def c : Con := ⟨H.p, H.r, F⟩
theorem ok : ConOk P_ gl 294 c := co H func294 .nil rn
end F294
namespace F264
def Ai9 (j6 : Int → UInt64 → Int → LB → Int → Option (Int × Int × Int)) (g : LB) (b a : Int) : Option (Int × Int × Int) :=
(Tl g b).bind fun m =>
if (Bn m 0) then
some (0, 0, m)
else
if (Ci a 0) then
some (0, 0, 2)
else
if (Ud a b) then
some (0, 0, 24)
else
(fun n : Option (Int × Int × Int) =>
(fun o : Option (Int × Int × Int) =>
bo2 (
o)) (
bo (
n))) (
(Adg g b a (Fv 48 (Ao b a))).bind fun (k, h) =>
j6 h k a g b)
theorem Atl : @Ai9 = @Zx := by
  unfold Ai9 Zx
  simp only [Af8, Xd, Xe]
abbrev R_ := (Int × Int × Int)
noncomputable def H : Hd := ⟨[.agg [Sb, Si], Si], [Si, Si, Si], (.seq .d (.seq .d (.seq .d (.seq .d (.seq .d (.cut [3, 5, 6, 8, 9] [] (.keep [2, 3, 5, 6, 8, 9, 22, 23, 24, 25, 26, 27, 28, 29] false) (.seq .d (.seq .d (.cut [] [] (.blk (.seq (.blk (.seq (.blk (.cut [] [] (.cut [3, 4, 5] [] (.cut [3, 4, 5, 36] [] (.keep [3, 4, 5, 8, 36, 37, 38, 39, 40] true) .d) .d) .d)) .d)) .d)) .d))))))))), ⟨[(100, F100.c), (156, F156.c), (294, F294.c)], gl, false⟩, [(293, .d)], f264⟩
def x10 : Option R_ := H.e P_ [r,r,r,r,r,r,r,r,r] ⟨[], [], []⟩
def x9 : Option R_ := H.e P_ [r,r,r,r,r,r,r,r,l,d,l,d,l,d,r] ⟨[], [], []⟩
def x8 (f a : Int) : Option R_ := H.e P_ [r,r,r,r,r,r,r,r,l,d,l,d,l,d,l,r] ⟨[(3, .ptr 0 []), (4, vi f), (5, vi 0)], [.box 3 (vi a)], []⟩
def x7 (f b a : Int) : Option R_ := H.e P_ [r,r,r,r,r,r,r,r,l,d,l,d,l,d,l,l,r] ⟨[(3, .ptr 0 []), (4, vi f), (5, vi 0), (36, vt (Ci f (Fv (48 : Int) (Ao b a))))], [.box 3 (vi a)], []⟩
def x6 (h : Int) (k : UInt64) (a : Int) (g : LB) (b : Int) : Option R_ := H.e P_ [r,r,r,r,r,r] ⟨[(3, .ptr 0 []), (5, vi 0), (6, vi h), (8, .fn 293 [.ptr 1 [], .ptr 0 []]), (9, vq k)], [.box 3 (vi a), .box 146 (.agg [vb g, vi b])], []⟩
theorem e10 : x10 = Ao0 := by kernel_rfl
theorem e9 : x9 = Arz := Eq.trans (b := Aro x10) (by kernel_rfl) (by simp only [e10] <;> rfl)
theorem e8 : x8 = Aky := Eq.trans (b := Ale x9) (by kernel_rfl) (by simp only [e9] <;> rfl)
theorem e7 : x7 = Ak7 := Eq.trans (b := Ald x8) (by kernel_rfl) (by simp only [e8] <;> rfl)
theorem e6 : x6 = Alc := Eq.trans (b := Ak3 x7) (by kernel_rfl) (by simp only [e7] <;> rfl)
noncomputable def F := u3 Aex
theorem rn x : H.u P_ x = F x := Eq.trans (b := u3 (Ai9 x6) x) (by kernel_rfl) (by unfold F; rw [Atl]; simp only [e6] <;> rfl)
noncomputable def c : Con := ⟨H.p, H.r, F⟩
theorem ok : ConOk P_ gl 264 c := cr H func264 (.cons F100.ok (.cons F156.ok (.cons F294.ok .nil))) (AnsOk.cons ent293 AnsOk.nil) rn
end F264
namespace F265
noncomputable def H : Hd := ⟨[Su, Si], [Sz], .d, ⟨[], gl, false⟩, [], f265⟩
noncomputable def F := u2 Anc
theorem rn x : H.u P_ x = F x := by kernel_rfl
noncomputable def c : Con := ⟨H.p, H.r, F⟩
theorem ok : ConOk P_ gl 265 c := co H func265 .nil rn
end F265
namespace F224
abbrev R_ := (UInt32 × Int × Int)
noncomputable def H : Hd := ⟨[.agg [Sb, Si], Si, Si], [Su, Si, Si], (.seq .d (.seq .d (.seq .d (.seq .d (.seq .d (.seq .d (.cut [2, 3, 7, 10, 11] [] .d .d))))))), ⟨[(100, F100.c), (156, F156.c), (264, F264.c), (265, F265.c)], gl, false⟩, [], f224⟩
def x2 (a b f : Int) (g : LB) (h k : Int) : Option R_ := H.e P_ [r,r,r,r,r,r,r] ⟨[(2, vi a), (3, .ptr 0 []), (7, vi b), (10, vi f), (11, vi k)], [.box 146 (.agg [vb g, vi h])], []⟩
theorem e2 : x2 = Ah1 := by kernel_rfl
noncomputable def F := u4 Aqy
theorem rn x : H.u P_ x = F x := Eq.trans (b := u4 (An8 x2) x) (by kernel_rfl) (by simp only [e2] <;> rfl)
noncomputable def c : Con := ⟨H.p, H.r, F⟩
theorem ok : ConOk P_ gl 224 c := co H func224 (.cons F100.ok (.cons F156.ok (.cons F264.ok (.cons F265.ok .nil)))) rn
end F224
namespace F267
noncomputable def H : Hd := ⟨[.agg [Si, Si, Sq, Sq], Su], [Si, Su], .d, ⟨[], gl, false⟩, [], f267⟩
noncomputable def F := u5 Am7
theorem rn x : H.u P_ x = F x := by kernel_rfl
noncomputable def c : Con := ⟨H.p, H.r, F⟩
theorem ok : ConOk P_ gl 267 c := co H func267 .nil rn
end F267
namespace F155
abbrev R_ := (UInt32 × Int × Int × Int × UInt64 × UInt64 × Int)
noncomputable def H : Hd := ⟨[.agg [Sb, Si], Si, .agg [Si, Si, Sq, Sq]], [Su, Si, .agg [Si, Si, Sq, Sq], Si], (.seq .d (.cut [1, 3, 5, 8] [] .d (.seq .d (.seq .d (.cut [5, 6, 7, 8] [] .d (.cut [5, 6, 7, 8] [] (.keep [5, 6, 7, 8, 81] true) .d)))))), ⟨[(100, F100.c), (156, F156.c), (223, F223.c), (224, F224.c), (267, F267.c)], gl, false⟩, [(225, (.seq .d (.seq .d (.seq .d (.blk (.cut [0, 1, 4] [] (.blk (.seq .d (.keep [0, 1, 4, 6, 18, 19, 20, 21, 22, 23, 24, 25] true))) (.cut [] [] (.keep [0, 1, 4, 27, 28, 29, 30, 31, 32, 33, 34] true) .d))))))), (266, .d)], f155⟩
def x10 (f : UInt32) (k w m : Int) (a n : UInt64) : Option R_ := H.e P_ [r,r,r,r,r,r] ⟨[(5, .ptr 0 []), (6, vu f), (7, vi k), (8, .ptr 1 [])], [.box 208 (.agg [vi w, vi m, vq (Af a (Ao (Ad f : UInt64) (Cg a (GI.toZ (4 : UInt64)).toNat))), vq n]), .box 208 (.agg [vi 0, vi 0, vq 0, vq 0])], []⟩
def x9 (f : UInt32) (k m : Int) (a n : UInt64) (w : Int) : Option R_ := H.e P_ [r,r,r,r,r,l,(call 1 225),r,r,r,d,r,r] ⟨[], [.box 208 (.agg [vi w, vi m, vq (Af a (Ao (Ad f : UInt64) (Cg a (GI.toZ (4 : UInt64)).toNat))), vq n]), .box 208 (.agg [vi 0, vi 0, vq 0, vq 0])], [[(5, .ptr 0 []), (6, vu f), (7, vi k), (8, .ptr 1 []), (81, vu f)]]⟩
def x8 (f : UInt32) (k b : Int) (a : UInt64) (m : Int) (n : UInt64) : Option R_ := H.e P_ [r,r,r,r,r,l,(call 1 225),r,r,r,d,r] ⟨[(0, .ptr 0 []), (1, vu f), (4, .fn 266 [])], [.box 208 (.agg [vi b, vi m, vq a, vq n]), .box 208 (.agg [vi 0, vi 0, vq 0, vq 0])], [[(5, .ptr 0 []), (6, vu f), (7, vi k), (8, .ptr 1 []), (81, vu f)]]⟩
def x7 (b h : Int) (a g : UInt64) (f : UInt32) (k : Int) : Option R_ := H.e P_ [r,r,r,r,r] ⟨[(5, .ptr 0 []), (6, vu f), (7, vi k), (8, .ptr 1 [])], [.box 208 (.agg [vi b, vi h, vq a, vq g]), .box 208 (.agg [vi 0, vi 0, vq 0, vq 0])], []⟩
def x6 (p : Int) (u : LB) (v b h : Int) (a g : UInt64) : Option R_ := H.e P_ [r,r] ⟨[(1, vi p), (3, .ptr 0 []), (5, .ptr 1 []), (8, .ptr 2 [])], [.box 146 (.agg [vb u, vi v]), .box 208 (.agg [vi b, vi h, vq a, vq g]), .box 208 (.agg [vi 0, vi 0, vq 0, vq 0])], []⟩
theorem e10 : x10 = Alk := by kernel_rfl
theorem e9 : x9 = Anf := Eq.trans (b := Am6 x10) (by kernel_rfl) (by simp only [e10] <;> rfl)
theorem e8 : x8 = Ac3 := Eq.trans (b := Anh x9) (by kernel_rfl) (by simp only [e9] <;> rfl)
theorem e7 : x7 = Ah4 := Eq.trans (b := Anj x8) (by kernel_rfl) (by simp only [e8] <;> rfl)
theorem e6 : x6 = Ano := Eq.trans (b := Amw x7) (by kernel_rfl) (by simp only [e7] <;> rfl)
noncomputable def F := u7 Aev
theorem rn x : H.u P_ x = F x := Eq.trans (b := u7 (Anw x6) x) (by kernel_rfl) (by simp only [e6] <;> rfl)
noncomputable def c : Con := ⟨H.p, H.r, F⟩
theorem ok : ConOk P_ gl 155 c := cr H func155 (.cons F100.ok (.cons F156.ok (.cons F223.ok (.cons F224.ok (.cons F267.ok .nil))))) (AnsOk.cons ent225 (AnsOk.cons ent266 AnsOk.nil)) rn
end F155
namespace F99
def Zk (j21 : Int → Int → Int → UInt32 → Int → (List (Int × Int × UInt64 × UInt64 × Unit)) → LU → Int → Int → UInt64 → UInt64 → Option (LU × Int × Int)) (j24 : Int → LU → Option (LU × Int × Int)) (a f : Int) (g : LB) (b k h : Int) (n : List (Int × Int × UInt64 × UInt64 × Unit)) (m : LU) : Option (LU × Int × Int) :=
if (Ci h (Bp f a)) then
(Ap3 g b k (Fv (Af k 81) b)).bind fun (ah, ae, af) =>
if (Bn af 0) then
some (([] : LU), 0, af)
else
(Wq (Bn a 0)).bind fun _ =>
(Al n (Lk h a)).bind fun _ =>
(fun ai : Option (LU × Int × Int) =>
both (
both (
(Al n (Lk h a)).bind fun p =>
(fun ao : Option (LU × Int × Int) =>
bo (
ao)) (
(Aev ah ae 0 p.1 p.2.1 p.2.2.1 p.2.2.2.1).bind fun (w, v, aa, ab, ac, ad, y) =>
j21 k h y w v n m aa ab ac ad)) [
ai]) [
(Al n (Lk h a)).bind fun p =>
(fun aj : Option (LU × Int × Int) =>
both (
bo (
aj)) [
aj]) (
(Aev ah ae 0 p.1 p.2.1 p.2.2.1 p.2.2.2.1).bind fun (w, v, aa, ab, ac, ad, y) =>
j21 k h y w v n m aa ab ac ad),
bo (
ai)]) (
(Al n (Lk h a)).bind fun p =>
(Aev ah ae 0 p.1 p.2.1 p.2.2.1 p.2.2.2.1).bind fun (w, v, aa, ab, ac, ad, y) =>
j21 k h y w v n m aa ab ac ad)
else
j24 k m
theorem An1 : @Zk = @Tz := by
  unfold Zk Tz
  try simp only [Af8, Xd, Xe]
  all_goals
    repeat (refine funext fun _ => ?_)
    repeat' first
      | with_reducible rfl
      | with_reducible refine Ev ?_ ?_
      | with_reducible refine Eu ?_ ?_ ?_
      | with_reducible refine En ?_ ?_ ?_ ?_
      | ((with_reducible refine Hm ?_ ?_); focus (intro h; first | (subst h; rfl) | (simp only [h]; rfl) | (simp [Db, Ac, h]; done)))
      | with_reducible refine Hu fun x => ?_
      | with_reducible refine Mi (fun _ => ?_) (fun _ => ?_)
      | (refine Cd (fun h => by simp only [h, Hx, Br, Bm, ite_self]) (fun x h => ?_); (try simp only [h, Br]))
      | (refine Da (fun h => ?_) (fun h => ?_) <;> simp only [h, if_true, if_false, Bool.false_eq_true])
abbrev R_ := (LU × Int × Int)
abbrev K_ := S → Option R_
noncomputable def H : Hd := ⟨[Si, Si, .agg [Sb, Si]], [Ov 194, Si, Si], (.seq .d (.seq .d (.cut [0, 1, 5, 9] [] (.seq .d (.blk (.loop [0, 1, 5, 9, 19] [] .d))) (.seq .d (.seq .d (.cut [11, 12] [] (.seq .d (.blk (.loop [0, 5, 9, 11, 12, 28, 29] [⟨11, [], .own 194 (.int .u32)⟩] (.seq .d (.seq .d (.seq (.blk (.seq .d (.seq .d (.seq .d (.cut [0, 5, 9, 11, 12, 13, 15, 16, 17, 18, 28, 29] [] (.mode false) (.seq .d (.cut [0, 5, 9, 11, 12, 16, 28, 29] [] .d .d))))))) .d)))))) .d)))))), ⟨[(153, F153.c), (154, F154.c), (155, F155.c)], gl, false⟩, [], f99⟩
def t16 (a f : Int) (g : LB) (b k h : Int) (n : List (Int × Int × UInt64 × UInt64 × Unit)) (m : LU) : S := ⟨[(0, vi a), (5, .ptr 0 []), (9, .ptr 1 []), (11, .own 2), (12, vi k), (28, vi (Bp f a)), (29, vi h)], [.box 146 (.agg [vb g, vi b]), .box 209 (.val (.vec 6 (.cons (.int .i64) (.cons (.int .i64) (.cons (.int .u64) (.cons (.int .u64) .nil))))) n), Av 194 m], []⟩
def z16 : Nat → S → Option R_ := H.i P_ [r,r,r,r,r,l,r,d]
def t13 (a f : Int) (g : LB) (b u : Int) (o : List (Int × Int × UInt64 × UInt64 × Unit)) : S := ⟨[(0, vi a), (1, vi f), (5, .ptr 0 []), (9, .ptr 1 []), (19, vi u)], [.box 146 (.agg [vb g, vi b]), .box 209 (.val (.vec 6 (.cons (.int .i64) (.cons (.int .i64) (.cons (.int .u64) (.cons (.int .u64) .nil))))) o)], []⟩
def z13 : Nat → S → Option R_ := H.i P_ [r,r,l,r,d]
def x24 (k : Int) (m : LU) : Option R_ := H.e P_ [r,r,r,r,r,r] ⟨[(11, .own 0), (12, vi k)], [Av 194 m], []⟩
def x22 (kn16 : K_) (a f : Int) (g : LB) (b k v : Int) (w : UInt32) (h : Int) (ag : List (Int × Int × UInt64 × UInt64 × Unit)) (m : LU) : Option R_ := H.e P_ [r,r,r,r,r,l,r,d,(lp kn16),r,r,l,d,r,r,r,r,r,r] ⟨[(0, vi a), (5, .ptr 0 []), (9, .ptr 1 []), (11, .own 2), (12, vi (Af k v)), (16, vu w), (28, vi (Bp f a)), (29, vi h)], [.box 146 (.agg [vb g, vi b]), .box 209 (.val (.vec 6 (.cons (.int .i64) (.cons (.int .i64) (.cons (.int .u64) (.cons (.int .u64) .nil))))) ag), Av 194 m], []⟩
def x21 (kn16 : K_) (a f : Int) (g : LB) (b k h y : Int) (w : UInt32) (v : Int) (n : List (Int × Int × UInt64 × UInt64 × Unit)) (m : LU) (aa ab : Int) (ac ad : UInt64) : Option R_ := H.e P_ [r,r,r,r,r,l,r,d,(lp kn16),r,r,l,d,r,r,r,r] ⟨[(0, vi a), (5, .ptr 0 []), (9, .ptr 1 []), (11, .own 2), (12, vi k), (13, vi h), (15, vi y), (16, vu w), (17, vi v), (18, .ptr 3 []), (28, vi (Bp f a)), (29, vi h)], [.box 146 (.agg [vb g, vi b]), .box 209 (.val (.vec 6 (.cons (.int .i64) (.cons (.int .i64) (.cons (.int .u64) (.cons (.int .u64) .nil))))) n), Av 194 m, .box 208 (.agg [vi aa, vi ab, vq ac, vq ad])], []⟩
def x16 (a f : Int) (g : LB) (b k h : Int) (n : List (Int × Int × UInt64 × UInt64 × Unit)) (m : LU) : Option R_ := H.e P_ [r,r,r,r,r,l,r,d] (t16 a f g b k h n m)
def x15 (a f : Int) (g : LB) (b : Int) (o : List (Int × Int × UInt64 × UInt64 × Unit)) : Option R_ := H.e P_ [r,r,r] ⟨[(0, vi a), (1, vi f), (5, .ptr 0 []), (9, .ptr 1 [])], [.box 146 (.agg [vb g, vi b]), .box 209 (.val (.vec 6 (.cons (.int .i64) (.cons (.int .i64) (.cons (.int .u64) (.cons (.int .u64) .nil))))) o)], []⟩
def x13 (a f : Int) (g : LB) (b u : Int) (o : List (Int × Int × UInt64 × UInt64 × Unit)) : Option R_ := H.e P_ [r,r,l,r,d] (t13 a f g b u o)
theorem e24 : x24 = Ai8 := by kernel_rfl
theorem e22 (kn16 : K_) (a f : Int) (g : LB) (b : Int) : x22 kn16 a f g b = Aaq (fun k h n m => kn16 (t16 a f g b k h n m)) a f g b := by kernel_rfl
theorem e21 (kn16 : K_) (a f : Int) (g : LB) (b : Int) : x21 kn16 a f g b = Ty (fun k h n m => kn16 (t16 a f g b k h n m)) a f g b := Eq.trans (b := Tw (x22 kn16 a f g b) a f g b) (by kernel_rfl) (by simp only [e22] <;> rfl)
theorem i16 (a f : Int) (g : LB) (b : Int) : ∀ (q : Nat) (k h : Int) (n : List (Int × Int × UInt64 × UInt64 × Unit)) (m : LU), z16 q (t16 a f g b k h n m) = Mh a f g b q k h n m :=
 ind (fun _ _ _ _ => by kernel_rfl) fun q ih k h n m => Eq.trans (b := Zk (x21 (z16 q) a f g b) x24 a f g b k h n m) (by kernel_rfl) (by rw [An1]; simp only [e21, e24, ih] <;> rfl)
theorem e16 : x16 = Aiv := by funext a f g b k h n m; exact Eq.trans (by kernel_rfl) ((i16 a f g b Bv k h n m).trans (by rw [Am]; rfl))
theorem e15 : x15 = Aaw := Eq.trans (b := Ajo x16) (by kernel_rfl) (by simp only [e16] <;> rfl)
theorem i13 (a f : Int) (g : LB) (b : Int) : ∀ (q : Nat) (u : Int) (o : List (Int × Int × UInt64 × UInt64 × Unit)), z13 q (t13 a f g b u o) = Aau a f g b q u o :=
 ind (fun _ _ => by kernel_rfl) fun q ih u o => Eq.trans (b := Aim x15 (fun u o => (z13 q) (t13 a f g b u o)) a f g b u o) (by kernel_rfl) (by simp only [e15, ih] <;> rfl)
theorem e13 : x13 = Tg := by funext a f g b u o; exact Eq.trans (by kernel_rfl) ((i13 a f g b Bv u o).trans (by rw [Am]; rfl))
noncomputable def F := u4 Ac9
theorem rn x : H.u P_ x = F x := Eq.trans (b := u4 (Ack x13) x) (by kernel_rfl) (by simp only [e13] <;> rfl)
noncomputable def c : Con := ⟨H.p, H.r, F⟩
theorem ok : ConOk P_ gl 99 c := co H func99 (.cons F153.ok (.cons F154.ok (.cons F155.ok .nil))) rn
end F99
namespace F226
abbrev R_ := (Int × LX × LX × Int)
noncomputable def H : Hd := ⟨[Si, .lf (.vec 16 (.int .i32)) none], [.agg [Si, .lf (.vec 16 (.int .i32)) none, .lf (.vec 16 (.int .i32)) none], Si], (.seq .d (.seq .d (.seq (.seq .d (.blk (.cut [4, 6, 9, 11] [] .d .d))) .d))), ⟨[], gl, false⟩, [], f226⟩
def x2 (a : Int) (b : LX) (f : Bool) : Option R_ := H.e P_ [r,r,l,r,d,r] ⟨[(4, .ptr 0 []), (6, .ptr 1 []), (9, vi a), (11, vt f)], [.box 217 (.agg [vi 0, .val (.vec 16 (.int .i32)) (List.replicate 16 (0 : Int32)), .val (.vec 16 (.int .i32)) (List.replicate 16 (0 : Int32))]), .box 217 (.agg [vi 10, .val (.vec 16 (.int .i32)) b, .val (.vec 16 (.int .i32)) (List.replicate 16 (0 : Int32))])], []⟩
theorem e2 : x2 = Av8 := by kernel_rfl
noncomputable def F := u2 Aua
theorem rn x : H.u P_ x = F x := Eq.trans (b := u2 (Awb x2) x) (by kernel_rfl) (by simp only [e2] <;> rfl)
noncomputable def c : Con := ⟨H.p, H.r, F⟩
theorem ok : ConOk P_ gl 226 c := co H func226 .nil rn
end F226
namespace F158
noncomputable def H : Hd := ⟨[Si, .lf (.vec 16 (.int .i32)) none], [.agg [Si, Sx, .agg [Si, .lf (.vec 16 (.int .i32)) none, .lf (.vec 16 (.int .i32)) none]], Si], .d, ⟨[(226, F226.c)], gl, false⟩, [], f158⟩
noncomputable def F := u2 Bby
theorem rn x : H.u P_ x = F x := by kernel_rfl
noncomputable def c : Con := ⟨H.p, H.r, F⟩
theorem ok : ConOk P_ gl 158 c := co H func158 (.cons F226.ok .nil) rn
end F158
namespace F160
noncomputable def H : Hd := ⟨[Su], [Sx], .d, ⟨[], gl, false⟩, [], f160⟩
noncomputable def F := Ym
theorem rn x : H.u P_ x = F x := by kernel_rfl
noncomputable def c : Con := ⟨H.p, H.r, F⟩
theorem ok : ConOk P_ gl 160 c := co H func160 .nil rn
end F160
namespace F227
noncomputable def H : Hd := ⟨[.agg [Si, Sx, .agg [Si, .lf (.vec 16 (.int .i32)) none, .lf (.vec 16 (.int .i32)) none]]], [Si], .d, ⟨[(226, F226.c)], gl, false⟩, [], f227⟩
noncomputable def F := u5 Af4
theorem rn x : H.u P_ x = F x := by kernel_rfl
noncomputable def c : Con := ⟨H.p, H.r, F⟩
theorem ok : ConOk P_ gl 227 c := co H func227 (.cons F226.ok .nil) rn
end F227
namespace F268
noncomputable def H : Hd := ⟨[Si], [Si, Si], .d, ⟨[], gl, false⟩, [], f268⟩
noncomputable def F := Apg
theorem rn x : H.u P_ x = F x := by kernel_rfl
noncomputable def c : Con := ⟨H.p, H.r, F⟩
theorem ok : ConOk P_ gl 268 c := co H func268 .nil rn
end F268
namespace F269
noncomputable def H : Hd := ⟨[Si, Sx], [Sx], .d, ⟨[], gl, false⟩, [], f269⟩
noncomputable def F := u2 Aj2
theorem rn x : H.u P_ x = F x := by kernel_rfl
noncomputable def c : Con := ⟨H.p, H.r, F⟩
theorem ok : ConOk P_ gl 269 c := co H func269 .nil rn
end F269
namespace F228
noncomputable def H : Hd := ⟨[Si, Sx], [Sx, Si], .d, ⟨[(268, F268.c), (269, F269.c)], gl, false⟩, [], f228⟩
noncomputable def F := u2 Af1
theorem rn x : H.u P_ x = F x := by kernel_rfl
noncomputable def c : Con := ⟨H.p, H.r, F⟩
theorem ok : ConOk P_ gl 228 c := co H func228 (.cons F268.ok (.cons F269.ok .nil)) rn
end F228
namespace F295
noncomputable def H : Hd := ⟨[.agg [Si, .lf (.vec 16 (.int .i32)) none, .lf (.vec 16 (.int .i32)) none]], [Si], .d, ⟨[], gl, false⟩, [], f295⟩
noncomputable def F := u3 Aes
theorem rn x : H.u P_ x = F x := by kernel_rfl
noncomputable def c : Con := ⟨H.p, H.r, F⟩
theorem ok : ConOk P_ gl 295 c := co H func295 .nil rn
end F295
namespace F270
abbrev R_ := (Int32 × Int)
noncomputable def H : Hd := ⟨[.agg [Si, .lf (.vec 16 (.int .i32)) none, .lf (.vec 16 (.int .i32)) none]], [Sx, Si], (.seq .d (.seq .d (.seq .d (.cut [1, 5] [] (.seq .d (.blk (.loop [1, 5, 18, 19] [] .d))) .d)))), ⟨[(295, F295.c)], gl, false⟩, [], f270⟩
def t4 (b : LX) (a : Int) (f : LX) (g : Int32) (h : Int) : S := ⟨[(1, .ptr 0 []), (5, vx g), (18, .val (.vec 16 (.int .i32)) b), (19, vi h)], [.box 217 (.agg [vi a, .val (.vec 16 (.int .i32)) b, .val (.vec 16 (.int .i32)) f])], []⟩
def z4 : Nat → S → Option R_ := H.i P_ [r,r,r,l,r,d]
def x6 (g : Int32) (a : Int) (b f : LX) : Option R_ := H.e P_ [r,r,r,r] ⟨[(1, .ptr 0 []), (5, vx g)], [.box 217 (.agg [vi a, .val (.vec 16 (.int .i32)) b, .val (.vec 16 (.int .i32)) f])], []⟩
def x4 (b : LX) (a : Int) (f : LX) (g : Int32) (h : Int) : Option R_ := H.e P_ [r,r,r,l,r,d] (t4 b a f g h)
theorem e6 : x6 = Alh := by kernel_rfl
theorem i4 (b : LX) (a : Int) (f : LX) : ∀ (q : Nat) (g : Int32) (h : Int), z4 q (t4 b a f g h) = Uk b a f q g h :=
 ind (fun _ _ => by kernel_rfl) fun q ih g h => Eq.trans (b := Afg x6 (fun g h => (z4 q) (t4 b a f g h)) b a f g h) (by kernel_rfl) (by simp only [e6, ih] <;> rfl)
theorem e4 : x4 = Ak2 := by funext b a f g h; exact Eq.trans (by kernel_rfl) ((i4 b a f Bv g h).trans (by rw [Am]; rfl))
noncomputable def F := u3 Amz
theorem rn x : H.u P_ x = F x := Eq.trans (b := u3 (Ak9 x4) x) (by kernel_rfl) (by simp only [e4] <;> rfl)
noncomputable def c : Con := ⟨H.p, H.r, F⟩
theorem ok : ConOk P_ gl 270 c := co H func270 (.cons F295.ok .nil) rn
end F270
namespace F303
noncomputable def H : Hd := ⟨[Si], [Sx], .d, ⟨[], gl, false⟩, [], f303⟩
noncomputable def F := Ama
theorem rn x : H.u P_ x = F x := by kernel_rfl
noncomputable def c : Con := ⟨H.p, H.r, F⟩
theorem ok : ConOk P_ gl 303 c := co H func303 .nil rn
end F303
namespace F296
abbrev R_ := (Int × LX × LX × Int)
noncomputable def H : Hd := ⟨[.agg [Si, .lf (.vec 16 (.int .i32)) none, .lf (.vec 16 (.int .i32)) none], Sx], [.agg [Si, .lf (.vec 16 (.int .i32)) none, .lf (.vec 16 (.int .i32)) none], Si], (.seq .d (.seq .d (.seq .d (.cut [2, 4] [] (.seq .d (.blk (.loop [1, 2, 4, 19, 20] [] .d))) .d)))), ⟨[(295, F295.c), (303, F303.c)], gl, false⟩, [], f296⟩
def t4 (h : Int32) (f : LX) (g a : Int) (b : LX) : S := ⟨[(1, vx h), (2, .ptr 0 []), (4, .ptr 1 []), (19, .val (.vec 16 (.int .i32)) f), (20, vi a)], [.box 217 (.agg [vi g, .val (.vec 16 (.int .i32)) b, .val (.vec 16 (.int .i32)) f]), .box 217 (.agg [vi 0, .val (.vec 16 (.int .i32)) (List.replicate 16 (0 : Int32)), .val (.vec 16 (.int .i32)) (List.replicate 16 (0 : Int32))])], []⟩
def z4 : Nat → S → Option R_ := H.i P_ [r,r,r,l,r,d]
def x6 (g : Int) (b f : LX) : Option R_ := H.e P_ [r,r,r,r] ⟨[(2, .ptr 0 []), (4, .ptr 1 [])], [.box 217 (.agg [vi g, .val (.vec 16 (.int .i32)) b, .val (.vec 16 (.int .i32)) f]), .box 217 (.agg [vi 0, .val (.vec 16 (.int .i32)) (List.replicate 16 (0 : Int32)), .val (.vec 16 (.int .i32)) (List.replicate 16 (0 : Int32))])], []⟩
def x4 (h : Int32) (f : LX) (g a : Int) (b : LX) : Option R_ := H.e P_ [r,r,r,l,r,d] (t4 h f g a b)
theorem e6 : x6 = Art := by kernel_rfl
theorem i4 (h : Int32) (f : LX) (g : Int) : ∀ (q : Nat) (a : Int) (b : LX), z4 q (t4 h f g a b) = Un h f g q a b :=
 ind (fun _ _ => by kernel_rfl) fun q ih a b => Eq.trans (b := Afb x6 (fun a b => (z4 q) (t4 h f g a b)) h f g a b) (by kernel_rfl) (by simp only [e6, ih] <;> rfl)
theorem e4 : x4 = Arl := by funext h f g a b; exact Eq.trans (by kernel_rfl) ((i4 h f g Bv a b).trans (by rw [Am]; rfl))
noncomputable def F := u4 Ams
theorem rn x : H.u P_ x = F x := Eq.trans (b := u4 (Ak8 x4) x) (by kernel_rfl) (by simp only [e4] <;> rfl)
noncomputable def c : Con := ⟨H.p, H.r, F⟩
theorem ok : ConOk P_ gl 296 c := co H func296 (.cons F295.ok (.cons F303.ok .nil)) rn
end F296
namespace F297
def Akr (j2 : Int32 → Int → LX → LX → Option (Int × LX × LX × Int)) (b : Int) (f a : LX) (g : Int32) : Option (Int × LX × LX × Int) :=
(Aes b f a).bind fun h =>
if (Bn h 0) then
some (0, (List.replicate 16 (0 : Int32)), (List.replicate 16 (0 : Int32)), h)
else
both (
(vwI 16 1 16).bind fun _ =>
(vwI 16 0 16).bind fun _ =>
j2 g b f a) [
(vwI 16 0 16).bind fun _ =>
(vwI 16 1 16).bind fun _ =>
j2 g b f a]
theorem Au5 : @Akr = @Ahw := by
  unfold Akr Ahw
  repeat (refine funext fun _ => ?_)
  repeat' first
    | with_reducible rfl
    | with_reducible refine Ev ?_ ?_
    | with_reducible refine Eu ?_ ?_ ?_
    | with_reducible refine En ?_ ?_ ?_ ?_
    | ((with_reducible refine Hm ?_ ?_); focus (intro h; first | (subst h; rfl) | (simp only [h]; rfl) | (simp [Db, Ac, h]; done)))
    | with_reducible refine Hu fun x => ?_
    | with_reducible refine Mi (fun _ => ?_) (fun _ => ?_)
    | (refine Cd (fun h => by simp only [h, Hx, Br, Bm, ite_self]) (fun x h => ?_); (try simp only [h, Br]))
    | (refine Da (fun h => ?_) (fun h => ?_) <;> simp only [h, if_true, if_false, Bool.false_eq_true])
abbrev R_ := (Int × LX × LX × Int)
noncomputable def H : Hd := ⟨[.agg [Si, .lf (.vec 16 (.int .i32)) none, .lf (.vec 16 (.int .i32)) none], Sx], [.agg [Si, .lf (.vec 16 (.int .i32)) none, .lf (.vec 16 (.int .i32)) none], Si], (.seq .d (.seq .d (.cut [1, 2, 4] [] .d .d))), ⟨[(295, F295.c)], gl, false⟩, [], f297⟩
def x2 (g : Int32) (b : Int) (f a : LX) : Option R_ := H.e P_ [r,r,r] ⟨[(1, vx g), (2, .ptr 0 []), (4, .ptr 1 [])], [.box 217 (.agg [vi b, .val (.vec 16 (.int .i32)) f, .val (.vec 16 (.int .i32)) (Vn a (1 : Int) ((16 : Int) - (1 : Int)) (Alq a (0 : Int) ((16 : Int) - (0 : Int))))]), .box 217 (.agg [vi 0, .val (.vec 16 (.int .i32)) (List.replicate 16 (0 : Int32)), .val (.vec 16 (.int .i32)) (List.replicate 16 (0 : Int32))])], []⟩
theorem e2 : x2 = Am1 := by kernel_rfl
noncomputable def F := u4 Aqq
theorem rn x : H.u P_ x = F x := Eq.trans (b := u4 (Akr x2) x) (by kernel_rfl) (by unfold F; rw [Au5]; simp only [e2] <;> rfl)
noncomputable def c : Con := ⟨H.p, H.r, F⟩
theorem ok : ConOk P_ gl 297 c := co H func297 (.cons F295.ok .nil) rn
end F297
namespace F271
noncomputable def H : Hd := ⟨[.agg [Si, .lf (.vec 16 (.int .i32)) none, .lf (.vec 16 (.int .i32)) none], Sx, Sx], [.agg [Si, .lf (.vec 16 (.int .i32)) none, .lf (.vec 16 (.int .i32)) none]], .d, ⟨[(296, F296.c), (297, F297.c)], gl, false⟩, [], f271⟩
noncomputable def F := u5 Asf
theorem rn x : H.u P_ x = F x := by kernel_rfl
noncomputable def c : Con := ⟨H.p, H.r, F⟩
theorem ok : ConOk P_ gl 271 c := co H func271 (.cons F296.ok (.cons F297.ok .nil)) rn
end F271
namespace F229
noncomputable def H : Hd := ⟨[.agg [Si, .lf (.vec 16 (.int .i32)) none, .lf (.vec 16 (.int .i32)) none], Sx], [Sx, .agg [Si, .lf (.vec 16 (.int .i32)) none, .lf (.vec 16 (.int .i32)) none], Si], .d, ⟨[(270, F270.c), (271, F271.c)], gl, false⟩, [], f229⟩
noncomputable def F := u4 Aox
theorem rn x : H.u P_ x = F x := by kernel_rfl
noncomputable def c : Con := ⟨H.p, H.r, F⟩
theorem ok : ConOk P_ gl 229 c := co H func229 (.cons F270.ok (.cons F271.ok .nil)) rn
end F229
namespace F159
def Ajt (a : Int) (b : Int32) (f : Int) (g h : LX) (o : Int32) : Option (Int32 × Int × Int32 × Int × LX × LX × Int) :=
(Af4 a b f g h).bind fun k =>
if (Bn k 0) then
some (0, 0, 0, 0, (List.replicate 16 (0 : Int32)), (List.replicate 16 (0 : Int32)), k)
else
(Af1 a b).bind fun (m, y) =>
(Aox f g h o).bind fun (n, p, u, v, w) =>
(fun aa : Option (Int32 × Int × Int32 × Int × LX × LX × Int) =>
bo (
aa)) (
some ((Af n m), a, (Af n m), p, u, v, w))
theorem As5 : @Ajt = @Kn := by
  unfold Ajt Kn
  simp only [Af8, Xd, Xe]
noncomputable def H : Hd := ⟨[.agg [Si, Sx, .agg [Si, .lf (.vec 16 (.int .i32)) none, .lf (.vec 16 (.int .i32)) none]], Sx], [Sx, .agg [Si, Sx, .agg [Si, .lf (.vec 16 (.int .i32)) none, .lf (.vec 16 (.int .i32)) none]], Si], (.seq .d (.seq .d (.seq .d (.seq .d (.seq (.mode false) .d))))), ⟨[(227, F227.c), (228, F228.c), (229, F229.c)], gl, false⟩, [], f159⟩
noncomputable def F := u6 Kn
theorem rn x : H.u P_ x = F x := Eq.trans (b := u6 Ajt x) (by kernel_rfl) (by rw [As5]; rfl)
noncomputable def c : Con := ⟨H.p, H.r, F⟩
theorem ok : ConOk P_ gl 159 c := co H func159 (.cons F227.ok (.cons F228.ok (.cons F229.ok .nil))) rn
end F159
namespace F230
noncomputable def H : Hd := ⟨[Si, Sw], [Si], .d, ⟨[], gl, false⟩, [], f230⟩
noncomputable def F := u2 Aqp
theorem rn x : H.u P_ x = F x := by kernel_rfl
noncomputable def c : Con := ⟨H.p, H.r, F⟩
theorem ok : ConOk P_ gl 230 c := co H func230 .nil rn
end F230
namespace F231
def Ks (a : LX) : Option (LX) :=
Axl a (
some ([] : LX)) (
(Db ([] : LX) a).bind fun b =>
some b)
theorem Adt : @Ks = @Gl := by
  unfold Ks Gl
  repeat (refine funext fun _ => ?_)
  repeat' first
    | with_reducible rfl
    | with_reducible refine Ev ?_ ?_
    | with_reducible refine Eu ?_ ?_ ?_
    | with_reducible refine En ?_ ?_ ?_ ?_
    | ((with_reducible refine Hm ?_ ?_); focus (intro h; first | (subst h; rfl) | (simp only [h]; rfl) | (simp [Db, Ac, h]; done)))
    | with_reducible refine Hu fun x => ?_
    | with_reducible refine Mi (fun _ => ?_) (fun _ => ?_)
    | (refine Cd (fun h => by simp only [h, Hx, Br, Bm, ite_self]) (fun x h => ?_); (try simp only [h, Br]))
    | (refine Da (fun h => ?_) (fun h => ?_) <;> simp only [h, if_true, if_false, Bool.false_eq_true])
noncomputable def H : Hd := ⟨[Sw], [Ow 21], .d, ⟨[], gl, false⟩, [], f231⟩
noncomputable def F := Gl
theorem rn x : H.u P_ x = F x := Eq.trans (b := Ks x) (by kernel_rfl) (by rw [Adt]; rfl)
noncomputable def c : Con := ⟨H.p, H.r, F⟩
theorem ok : ConOk P_ gl 231 c := co H func231 .nil rn
end F231
namespace F161
abbrev R_ := (LX × Int)
abbrev K_ := S → Option R_
noncomputable def H : Hd := ⟨[Si, Sw], [Ow 21, Si], (.seq .d (.seq .d (.seq .d (.cut [7] [] (.seq .d (.blk (.loop [0, 7, 8] [] (.seq .d (.cut [0, 7, 8] [] (.blk (.keep [0, 7, 8, 24, 25, 26, 27, 28, 29] true)) .d))))) .d)))), ⟨[(230, F230.c), (231, F231.c)], gl, true⟩, [(232, (.seq .d (.cut [0, 2] [] .d (.seq .d (.blk (.loop [0, 3] [] .d))))))], f161⟩
def t18 (b a g : Int) (h : LX) : S := ⟨[(0, .view true 0 [] (.int .i32) a ((Af a b) - a)), (3, vi g)], [Aw 21 h], [[(0, vi b), (7, .own 0), (8, vi a), (24, .own 0), (25, vi a), (26, vi a), (27, vi b), (28, vi (Af a b)), (29, .view true 0 [] (.int .i32) a ((Af a b) - a))]]⟩
def z18 (kn12 : K_) : Nat → S → Option R_ := H.i P_ [r,r,r,l,r,d,(lp kn12),r,l,d,(call 6 232),r,r,r,d]
def t12 (b a : Int) (f : LX) : S := ⟨[(0, vi b), (7, .own 0), (8, vi a)], [Aw 21 f], []⟩
def z12 : Nat → S → Option R_ := H.i P_ [r,r,r,l,r,d]
def x22 (f : LX) : Option R_ := H.e P_ [r,r,r,r] ⟨[(7, .own 0)], [Aw 21 f], []⟩
def x20 (kn12 : K_) (b a : Int) (h : LX) : Option R_ := H.e P_ [r,r,r,l,r,d,(lp kn12),r,r] ⟨[(0, vi b), (7, .own 0), (8, vi a)], [Aw 21 h], []⟩
def x18 (kn12 : K_) (b a g : Int) (h : LX) : Option R_ := H.e P_ [r,r,r,l,r,d,(lp kn12),r,l,d,(call 6 232),r,r,r,d] (t18 b a g h)
def x17 (kn12 : K_) (b a : Int) (k : LX) : Option R_ := H.e P_ [r,r,r,l,r,d,(lp kn12),r,l,d,(call 6 232),r,r] ⟨[(0, .view true 0 [] (.int .i32) a ((Af a b) - a)), (2, vi (Ao ((Af a b) - a) (1 : Int)))], [Aw 21 k], [[(0, vi b), (7, .own 0), (8, vi a), (24, .own 0), (25, vi a), (26, vi a), (27, vi b), (28, vi (Af a b)), (29, .view true 0 [] (.int .i32) a ((Af a b) - a))]]⟩
def x12 (b a : Int) (f : LX) : Option R_ := H.e P_ [r,r,r,l,r,d] (t12 b a f)
theorem e22 : x22 = As4 := by kernel_rfl
theorem e20 (kn12 : K_) (b : Int) : x20 kn12 b = Anl (fun a f => kn12 (t12 b a f)) b := by kernel_rfl
theorem i18 (kn12 : K_) (b a : Int) : ∀ (q : Nat) (g : Int) (h : LX), z18 kn12 q (t18 b a g h) = Yp (fun a f => kn12 (t12 b a f)) b a q g h :=
 ind (fun _ _ => by kernel_rfl) fun q ih g h => Eq.trans (b := Ah2 (x20 kn12 b) (fun g h => (z18 kn12 q) (t18 b a g h)) b a g h) (by kernel_rfl) (by simp only [e20, ih] <;> rfl)
theorem e18 (kn12 : K_) (b : Int) : x18 kn12 b = Anv (fun a f => kn12 (t12 b a f)) b := by funext a g h; exact Eq.trans (by kernel_rfl) ((i18 kn12 b a Bv g h).trans (by rw [Am]; rfl))
theorem e17 (kn12 : K_) (b : Int) : x17 kn12 b = Ahu (fun a f => kn12 (t12 b a f)) b := Eq.trans (b := Am8 (x18 kn12 b) b) (by kernel_rfl) (by simp only [e18] <;> rfl)
theorem i12 (b : Int) : ∀ (q : Nat) (a : Int) (f : LX), z12 q (t12 b a f) = Sm b q a f :=
 ind (fun _ _ => by kernel_rfl) fun q ih a f => Eq.trans (b := Amu (x17 (z12 q) b) x22 b a f) (by kernel_rfl) (by simp only [e17, e22, ih] <;> rfl)
theorem e12 : x12 = Am9 := by funext b a f; exact Eq.trans (by kernel_rfl) ((i12 b Bv a f).trans (by rw [Am]; rfl))
noncomputable def F := u2 As2
theorem rn x : H.u P_ x = F x := Eq.trans (b := u2 (Apj x12) x) (by kernel_rfl) (by simp only [e12] <;> rfl)
noncomputable def c : Con := ⟨H.p, H.r, F⟩
theorem ok : ConOk P_ gl 161 c := cr H func161 (.cons F230.ok (.cons F231.ok .nil)) (AnsOk.cons ent232 AnsOk.nil) rn
end F161
namespace F162
abbrev R_ := Int
noncomputable def H : Hd := ⟨[Si, Sw], [Si], (.seq .d (.seq .d (.seq .d (.seq .d (.cut [] [] (.seq .d (.blk (.loop [5, 6, 22, 23, 24] [] .d))) .d))))), ⟨[(150, F150.c)], gl, false⟩, [], f162⟩
def t4 (b f : Int32) (a : LX) (g : Int) : S := ⟨[(5, vx b), (6, vx f), (22, vw a), (23, vi (Ac a)), (24, vi g)], [], []⟩
def z4 : Nat → S → Option R_ := H.i P_ [r,r,r,r,l,r,d]
def x6 : Option R_ := H.e P_ [r,r,r,r,r] ⟨[], [], []⟩
def x4 (b f : Int32) (a : LX) (g : Int) : Option R_ := H.e P_ [r,r,r,r,l,r,d] (t4 b f a g)
theorem e6 : x6 = Apv := by kernel_rfl
theorem i4 (b f : Int32) (a : LX) : ∀ (q : Nat) (g : Int), z4 q (t4 b f a g) = Ri b f a q g :=
 ind (fun _ => by kernel_rfl) fun q ih g => Eq.trans (b := Ab6 x6 (fun g => (z4 q) (t4 b f a g)) b f a g) (by kernel_rfl) (by simp only [e6, ih] <;> rfl)
theorem e4 : x4 = Apy := by funext b f a g; exact Eq.trans (by kernel_rfl) ((i4 b f a Bv g).trans (by rw [Am]; rfl))
noncomputable def F := u2 Afw
theorem rn x : H.u P_ x = F x := Eq.trans (b := u2 (Ail x4) x) (by kernel_rfl) (by simp only [e4] <;> rfl)
noncomputable def c : Con := ⟨H.p, H.r, F⟩
theorem ok : ConOk P_ gl 162 c := co H func162 (.cons F150.ok .nil) rn
end F162
namespace F101
def Xu (j16 : Int → Int32 → Int → (List (Int × Int32 × (Int × LX × LX × Unit) × Unit)) → LX → Int → Int32 → Int → LX → LX → Option (LX × Int)) (j18 : Int → Int → LX → Option (LX × Int)) (f : LU) (a b g : Int) (h : List (Int × Int32 × (Int × LX × LX × Unit) × Unit)) (k : LX) : Option (LX × Int) :=
if (Ci g (Ac f)) then
(Al f g).bind fun ag =>
(Wq (Bn a 0)).bind fun _ =>
(Al h (Lk g a)).bind fun _ =>
both (
(Al h (Lk g a)).bind fun m =>
both (
(Ym ag).bind fun ae =>
(fun ao : Option (LX × Int) =>
bo (
ao)) (
(Kn m.1 m.2.1 m.2.2.1.1 m.2.2.1.2.1 m.2.2.1.2.2.1 ae).bind fun (w, y, v, aa, ab, ac, u) =>
j16 g w u h k y v aa ab ac)) [
(Ym ag).bind fun ae =>
(Kn m.1 m.2.1 m.2.2.1.1 m.2.2.1.2.1 m.2.2.1.2.2.1 ae).bind fun (w, y, v, aa, ab, ac, u) =>
j16 g w u h k y v aa ab ac]) [
(Ym ag).bind fun af =>
both (
(Al h (Lk g a)).bind fun ad =>
(fun ap : Option (LX × Int) =>
bo (
ap)) (
(Kn ad.1 ad.2.1 ad.2.2.1.1 ad.2.2.1.2.1 ad.2.2.1.2.2.1 af).bind fun (w, y, v, aa, ab, ac, u) =>
j16 g w u h k y v aa ab ac)) [
(Al h (Lk g a)).bind fun ad =>
(Kn ad.1 ad.2.1 ad.2.2.1.1 ad.2.2.1.2.1 ad.2.2.1.2.2.1 af).bind fun (w, y, v, aa, ab, ac, u) =>
j16 g w u h k y v aa ab ac],
both (
(Al h (Lk g a)).bind fun m =>
(Ym ag).bind fun ae =>
(Kn m.1 m.2.1 m.2.2.1.1 m.2.2.1.2.1 m.2.2.1.2.2.1 ae).bind fun (w, y, v, aa, ab, ac, u) =>
j16 g w u h k y v aa ab ac) [
(Ym ag).bind fun af =>
(Al h (Lk g a)).bind fun ad =>
(Kn ad.1 ad.2.1 ad.2.2.1.1 ad.2.2.1.2.1 ad.2.2.1.2.2.1 af).bind fun (w, y, v, aa, ab, ac, u) =>
j16 g w u h k y v aa ab ac]]
else
j18 a b k
theorem Alr : @Xu = @Kz := by
  unfold Xu Kz
  try simp only [Af8, Xd, Xe]
  all_goals
    repeat (refine funext fun _ => ?_)
    repeat' first
      | with_reducible rfl
      | with_reducible refine Ev ?_ ?_
      | with_reducible refine Eu ?_ ?_ ?_
      | with_reducible refine En ?_ ?_ ?_ ?_
      | ((with_reducible refine Hm ?_ ?_); focus (intro h; first | (subst h; rfl) | (simp only [h]; rfl) | (simp [Db, Ac, h]; done)))
      | with_reducible refine Hu fun x => ?_
      | with_reducible refine Mi (fun _ => ?_) (fun _ => ?_)
      | (refine Cd (fun h => by simp only [h, Hx, Br, Bm, ite_self]) (fun x h => ?_); (try simp only [h, Br]))
      | (refine Da (fun h => ?_) (fun h => ?_) <;> simp only [h, if_true, if_false, Bool.false_eq_true])
abbrev R_ := (LX × Int)
abbrev K_ := S → Option R_
noncomputable def H : Hd := ⟨[.agg [Si, Si], .lf (.vec 16 (.int .i32)) none, Sv], [Ow 21, Si], (.seq .d (.seq .d (.cut [2, 3, 8] [] (.seq .d (.blk (.loop [2, 3, 4, 8, 20] [] .d))) (.seq .d (.cut [3, 10] [] (.seq .d (.blk (.loop [3, 8, 10, 33, 34, 35] [⟨10, [], .own 21 (.int .i32)⟩] (.seq .d (.seq .d (.seq (.blk (.seq .d (.seq .d (.cut [3, 8, 10, 13, 14, 15, 16, 33, 34, 35] [] (.mode false) .d)))) .d)))))) .d))))), ⟨[(158, F158.c), (159, F159.c), (160, F160.c), (161, F161.c), (162, F162.c)], gl, false⟩, [], f101⟩
def t13 (f : LU) (a b g : Int) (h : List (Int × Int32 × (Int × LX × LX × Unit) × Unit)) (k : LX) : S := ⟨[(3, .ptr 0 []), (8, .ptr 1 []), (10, .own 2), (33, vv f), (34, vi (Ac f)), (35, vi g)], [.box 64 (.agg [vi a, vi b]), .box 220 (.val (.vec 6 (.cons (.int .i64) (.cons (.int .i32) (.cons (.cons (.int .i64) (.cons (.vec 16 (.int .i32)) (.cons (.vec 16 (.int .i32)) .nil))) .nil)))) h), Aw 21 k], []⟩
def z13 : Nat → S → Option R_ := H.i P_ [r,r,r,r,l,r,d]
def t10 (f : LU) (a b : Int) (o : LX) (p : Int) (n : List (Int × Int32 × (Int × LX × LX × Unit) × Unit)) : S := ⟨[(2, vv f), (3, .ptr 0 []), (4, .ptr 1 []), (8, .ptr 2 []), (20, vi p)], [.box 64 (.agg [vi a, vi b]), .box 95 (.val (.vec 16 (.int .i32)) o), .box 220 (.val (.vec 6 (.cons (.int .i64) (.cons (.int .i32) (.cons (.cons (.int .i64) (.cons (.vec 16 (.int .i32)) (.cons (.vec 16 (.int .i32)) .nil))) .nil)))) n)], []⟩
def z10 : Nat → S → Option R_ := H.i P_ [r,r,l,r,d]
def x18 (a b : Int) (k : LX) : Option R_ := H.e P_ [r,r,r,r,r] ⟨[(3, .ptr 0 []), (10, .own 1)], [.box 64 (.agg [vi a, vi b]), Aw 21 k], []⟩
def x16 (kn13 : K_) (a : Int) (f : LU) (b g : Int) (w : Int32) (u : Int) (h : List (Int × Int32 × (Int × LX × LX × Unit) × Unit)) (k : LX) (y : Int) (v : Int32) (aa : Int) (ab ac : LX) : Option R_ := H.e P_ [r,r,r,r,l,r,d,(lp kn13),r,r,l,d,r,r,r] ⟨[(3, .ptr 0 []), (8, .ptr 1 []), (10, .own 2), (13, .ptr 1 [.idx (Lk g a) 35]), (14, vx w), (15, .ptr 3 []), (16, vi u), (33, vv f), (34, vi (Ac f)), (35, vi g)], [.box 64 (.agg [vi a, vi b]), .box 220 (.val (.vec 6 (.cons (.int .i64) (.cons (.int .i32) (.cons (.cons (.int .i64) (.cons (.vec 16 (.int .i32)) (.cons (.vec 16 (.int .i32)) .nil))) .nil)))) h), Aw 21 k, .box 219 (.agg [vi y, vx v, .agg [vi aa, .val (.vec 16 (.int .i32)) ab, .val (.vec 16 (.int .i32)) ac]])], []⟩
def x13 (f : LU) (a b g : Int) (h : List (Int × Int32 × (Int × LX × LX × Unit) × Unit)) (k : LX) : Option R_ := H.e P_ [r,r,r,r,l,r,d] (t13 f a b g h k)
def x12 (f : LU) (a b : Int) (n : List (Int × Int32 × (Int × LX × LX × Unit) × Unit)) : Option R_ := H.e P_ [r,r,r] ⟨[(2, vv f), (3, .ptr 0 []), (8, .ptr 1 [])], [.box 64 (.agg [vi a, vi b]), .box 220 (.val (.vec 6 (.cons (.int .i64) (.cons (.int .i32) (.cons (.cons (.int .i64) (.cons (.vec 16 (.int .i32)) (.cons (.vec 16 (.int .i32)) .nil))) .nil)))) n)], []⟩
def x10 (f : LU) (a b : Int) (o : LX) (p : Int) (n : List (Int × Int32 × (Int × LX × LX × Unit) × Unit)) : Option R_ := H.e P_ [r,r,l,r,d] (t10 f a b o p n)
theorem e18 : x18 = Lf := by kernel_rfl
theorem e16 (kn13 : K_) (f : LU) (a b : Int) : x16 kn13 a f b = Zi (fun g h k => kn13 (t13 f a b g h k)) a f b := by kernel_rfl
theorem i13 (f : LU) (a b : Int) : ∀ (q : Nat) (g : Int) (h : List (Int × Int32 × (Int × LX × LX × Unit) × Unit)) (k : LX), z13 q (t13 f a b g h k) = Ib f a b q g h k :=
 ind (fun _ _ _ => by kernel_rfl) fun q ih g h k => Eq.trans (b := Xu (x16 (z13 q) a f b) x18 f a b g h k) (by kernel_rfl) (by rw [Alr]; simp only [e16, e18, ih] <;> rfl)
theorem e13 : x13 = Ahf := by funext f a b g h k; exact Eq.trans (by kernel_rfl) ((i13 f a b Bv g h k).trans (by rw [Am]; rfl))
theorem e12 : x12 = Zm := Eq.trans (b := Ahl x13) (by kernel_rfl) (by simp only [e13] <;> rfl)
theorem i10 (f : LU) (a b : Int) (o : LX) : ∀ (q : Nat) (p : Int) (n : List (Int × Int32 × (Int × LX × LX × Unit) × Unit)), z10 q (t10 f a b o p n) = Zc f a b o q p n :=
 ind (fun _ _ => by kernel_rfl) fun q ih p n => Eq.trans (b := Ahd x12 (fun p n => (z10 q) (t10 f a b o p n)) f a b o p n) (by kernel_rfl) (by simp only [e12, ih] <;> rfl)
theorem e10 : x10 = Qk := by funext f a b o p n; exact Eq.trans (by kernel_rfl) ((i10 f a b o Bv p n).trans (by rw [Am]; rfl))
noncomputable def F := u4 Ug
theorem rn x : H.u P_ x = F x := Eq.trans (b := u4 (Aar x10) x) (by kernel_rfl) (by simp only [e10] <;> rfl)
noncomputable def c : Con := ⟨H.p, H.r, F⟩
theorem ok : ConOk P_ gl 101 c := co H func101 (.cons F158.ok (.cons F159.ok (.cons F160.ok (.cons F161.ok (.cons F162.ok .nil))))) rn
end F101
namespace F55
noncomputable def H : Hd := ⟨[.agg [Si, Si], .lf (.vec 16 (.int .i32)) none, Si, Sb], [Ow 21, Si], .d, ⟨[(96, F96.c), (97, F97.c), (98, F98.c), (99, F99.c), (100, F100.c), (101, F101.c)], gl, false⟩, [], f55⟩
noncomputable def F := u5 Wy
theorem rn x : H.u P_ x = F x := by kernel_rfl
noncomputable def c : Con := ⟨H.p, H.r, F⟩
theorem ok : ConOk P_ gl 55 c := co H func55 (.cons F96.ok (.cons F97.ok (.cons F98.ok (.cons F99.ok (.cons F100.ok (.cons F101.ok .nil)))))) rn
end F55
namespace F117
abbrev R_ := (LB × Int)
abbrev K_ := S → Option R_
noncomputable def H : Hd := ⟨[Si, Sw], [Ob 5, Si], (.seq .d (.seq .d (.seq .d (.cut [7] [] (.seq .d (.blk (.loop [0, 7, 17, 18, 19] [⟨7, [], .own 5 (.int .u8)⟩] (.seq .d (.seq .d (.cut [0, 7, 17, 18, 19] [] (.blk (.seq .d (.cut [0, 7, 9, 17, 18, 19] [] .d (.seq .d (.blk (.loop [0, 7, 9, 17, 18, 19, 28, 29] [] .d)))))) .d)))))) .d)))), ⟨[(162, F162.c)], gl, false⟩, [], f117⟩
def t26 (b : Int) (a : LX) (k : Int32) (f m : Int) (h : LB) : S := ⟨[(0, vi b), (7, .own 0), (9, vx k), (17, vw a), (18, vi (Ac a)), (19, vi f), (28, vi (Cn b (8 : Int))), (29, vi m)], [Ab 5 h], []⟩
def z26 (kn16 : K_) : Nat → S → Option R_ := H.i P_ [r,r,r,l,r,d,(lp kn16),r,r,l,d,r,r,r,d]
def t16 (b : Int) (a : LX) (f : Int) (g : LB) : S := ⟨[(0, vi b), (7, .own 0), (17, vw a), (18, vi (Ac a)), (19, vi f)], [Ab 5 g], []⟩
def z16 : Nat → S → Option R_ := H.i P_ [r,r,r,l,r,d]
def x30 (g : LB) : Option R_ := H.e P_ [r,r,r,r] ⟨[(7, .own 0)], [Ab 5 g], []⟩
def x28 (kn16 : K_) (b : Int) (a : LX) (f : Int) (h : LB) : Option R_ := H.e P_ [r,r,r,l,r,d,(lp kn16),r,r,r] ⟨[(0, vi b), (7, .own 0), (17, vw a), (18, vi (Ac a)), (19, vi f)], [Ab 5 h], []⟩
def x26 (kn16 : K_) (b : Int) (a : LX) (k : Int32) (f m : Int) (h : LB) : Option R_ := H.e P_ [r,r,r,l,r,d,(lp kn16),r,r,l,d,r,r,r,d] (t26 b a k f m h)
def x25 (kn16 : K_) (b : Int) (a : LX) (f : Int) (g : LB) (k : Int32) : Option R_ := H.e P_ [r,r,r,l,r,d,(lp kn16),r,r,l,d,r,r] ⟨[(0, vi b), (7, .own 0), (9, vx k), (17, vw a), (18, vi (Ac a)), (19, vi f)], [Ab 5 g], []⟩
def x16 (b : Int) (a : LX) (f : Int) (g : LB) : Option R_ := H.e P_ [r,r,r,l,r,d] (t16 b a f g)
theorem e30 : x30 = Aok := by kernel_rfl
theorem e28 (kn16 : K_) (b : Int) (a : LX) : x28 kn16 b a = Agv (fun f g => kn16 (t16 b a f g)) b a := by kernel_rfl
theorem i26 (kn16 : K_) (b : Int) (a : LX) (k : Int32) (f : Int) : ∀ (q : Nat) (m : Int) (h : LB), z26 kn16 q (t26 b a k f m h) = Io (fun f g => kn16 (t16 b a f g)) b a k f q m h :=
 ind (fun _ _ => by kernel_rfl) fun q ih m h => Eq.trans (b := Aan (x28 kn16 b a) (fun m h => (z26 kn16 q) (t26 b a k f m h)) b a k f m h) (by kernel_rfl) (by simp only [e28, ih] <;> rfl)
theorem e26 (kn16 : K_) (b : Int) (a : LX) : x26 kn16 b a = Ag1 (fun f g => kn16 (t16 b a f g)) b a := by funext k f m h; exact Eq.trans (by kernel_rfl) ((i26 kn16 b a k f Bv m h).trans (by rw [Am]; rfl))
theorem e25 (kn16 : K_) (b : Int) (a : LX) : x25 kn16 b a = Kq (fun f g => kn16 (t16 b a f g)) b a := Eq.trans (b := Ago (x26 kn16 b a) b a) (by kernel_rfl) (by simp only [e26] <;> rfl)
theorem i16 (b : Int) (a : LX) : ∀ (q : Nat) (f : Int) (g : LB), z16 q (t16 b a f g) = Ey b a q f g :=
 ind (fun _ _ => by kernel_rfl) fun q ih f g => Eq.trans (b := Aak (x25 (z16 q) b a) x30 b a f g) (by kernel_rfl) (by simp only [e25, e30, ih] <;> rfl)
theorem e16 : x16 = Aod := by funext b a f g; exact Eq.trans (by kernel_rfl) ((i16 b a Bv f g).trans (by rw [Am]; rfl))
noncomputable def F := u2 Wx
theorem rn x : H.u P_ x = F x := Eq.trans (b := u2 (Aix x16) x) (by kernel_rfl) (by simp only [e16] <;> rfl)
noncomputable def c : Con := ⟨H.p, H.r, F⟩
theorem ok : ConOk P_ gl 117 c := co H func117 (.cons F162.ok .nil) rn
end F117
namespace F131
abbrev R_ := Int
noncomputable def H : Hd := ⟨[Sl, Si], [Si], (.seq .d (.cut [] [] (.seq .d (.blk (.loop [0, 1, 7, 8] [] .d))) .d)), ⟨[], gl, false⟩, [], f131⟩
def t4 (a : LI) (b f : Int) : S := ⟨[(0, vl a), (1, vi b), (7, vi (Ac a)), (8, vi f)], [], []⟩
def z4 : Nat → S → Option R_ := H.i P_ [r,l,r,d]
def x6 : Option R_ := H.e P_ [r,r] ⟨[], [], []⟩
def x4 (a : LI) (b f : Int) : Option R_ := H.e P_ [r,l,r,d] (t4 a b f)
theorem e6 : x6 = Lu := by kernel_rfl
theorem i4 (a : LI) (b : Int) : ∀ (q : Nat) (f : Int), z4 q (t4 a b f) = Bg a b q f :=
 ind (fun _ => by kernel_rfl) fun q ih f => Eq.trans (b := Df x6 (fun f => (z4 q) (t4 a b f)) a b f) (by kernel_rfl) (by simp only [e6, ih] <;> rfl)
theorem e4 : x4 = Gk := by funext a b f; exact Eq.trans (by kernel_rfl) ((i4 a b Bv f).trans (by rw [Am]; rfl))
noncomputable def F := u2 Hy
theorem rn x : H.u P_ x = F x := Eq.trans (b := u2 (Gi x4) x) (by kernel_rfl) (by simp only [e4] <;> rfl)
noncomputable def c : Con := ⟨H.p, H.r, F⟩
theorem ok : ConOk P_ gl 131 c := co H func131 .nil rn
end F131
namespace F79
noncomputable def H : Hd := ⟨[Sl, Si], [Sz], .d, ⟨[(131, F131.c)], gl, false⟩, [], f79⟩
noncomputable def F := u2 Gp
theorem rn x : H.u P_ x = F x := by kernel_rfl
noncomputable def c : Con := ⟨H.p, H.r, F⟩
theorem ok : ConOk P_ gl 79 c := co H func79 (.cons F131.ok .nil) rn
end F79
namespace F38
noncomputable def H : Hd := ⟨[Si], [Sz], .d, ⟨[(79, F79.c)], gl, false⟩, [], f38⟩
noncomputable def F := Pz
theorem rn x : H.u P_ x = F x := by kernel_rfl
noncomputable def c : Con := ⟨H.p, H.r, F⟩
theorem ok : ConOk P_ gl 38 c := co H func38 (.cons F79.ok .nil) rn
end F38
namespace F10
def Aaz (j28 : Bool → Int → Option Int) (w ah : Int) (g a : LB) (k p o u v b : Int) (m : Bool) (n : Int) (ao : LX) (f : LI) (h : LB) : Option Int :=
if (Bn ah 0) then
(Ag ah).bind fun (br, bs) =>
j28 br bs
else
(Wx o ao).bind fun (bt, be) =>
if (Bn be 0) then
(Ag be).bind fun (bu, bv) =>
j28 bu bv
else
(Db h bt).bind fun dv =>
(fun fa : Option Int =>
bo (
fa)) (
(Bb a w (Ac a)).bind fun dw =>
j28 false 0)
theorem Aot : @Aaz = @Wj := by
  unfold Aaz Wj
  simp only [Af8, Xd, Xe]
def Acl (j13 : Bool → Int → Option Int) (j12 : LB → LB → Int → Int → Int → Int → Int → Int → Bool → Int → LI → LB → Option Int) (j25 : Bool → Int → Option Int) (j23 : LB → LB → Int → Int → Int → Int → Int → Int → Bool → Int → LI → LB → Option Int) (j24 : LB → LB → Int → Int → Int → Int → Int → Int → Bool → Int → LI → LB → Int → Option Int) (j28 : Bool → Int → Option Int) (j26 : Int → LB → LB → Int → Int → Int → Int → Int → Int → Bool → Int → LX → LI → LI → LB → Option Int) (j22 : Bool → Option Int) (j21 : Option Int) (aq ar : LB) (au av aw ax ay : Int) (az : LI) (ai : Int) (aj : LB) (ac : Bool) (y : Int) : Option Int :=
if (Gf (Ac aq) 64) then
some 8
else
if ((geq y 0) && (!ac)) then
(Cf aq ar au av aw ax ay az ai aj ac y).bind fun (g, a, k, p, o, u, v, f, b, h, m, n) =>
(Yq aq ar au av aw ax ay az ai aj ac y).bind fun bw =>
if bw then
if (geq k 0) then
(Jq a).bind fun (al, ba) =>
if (geq ba 24) then
j13 true 0
else
if (Bn ba 0) then
(Ag ba).bind fun (bx, bz) =>
j13 bx bz
else
(Bb a al (Ac a)).bind fun da =>
(Pk da).bind fun an =>
if an then
j13 true 0
else
(Bb a al (Ac a)).bind fun db =>
(Pg db).bind fun (ae, af, aa, ag, ab, bb) =>
if (geq bb 24) then
j13 true 0
else
if (Bn bb 0) then
(Ag bb).bind fun (dc, dd) =>
j13 dc dd
else
both (
(Bb a (Af al 22) (Ac a)).bind fun ak =>
(fun fb : Option Int =>
bo (
fb)) (
j12 g ak ae af aa ag ab b m n f h)) [
(Bb a (Af al 22) (Ac a)).bind fun ak =>
j12 g ak ae af aa ag ab b m n f h]
else
if (geq (Ac f) 0) then
if (geq k 2) then
if (Ci (Ac a) 8) then
j25 true 0
else
j23 g a k p o u v b m n f h
else
j24 g a k p o u v b m n f h 0
else
if (Ci b (Ac f)) then
(Al f b).bind fun _ =>
(Al f b).bind fun w =>
if (Ci (Ac a) w) then
j28 true 0
else
(Abe g).bind fun (ap, am) =>
if (Bn am 0) then
(Ag am).bind fun (de, df) =>
j28 de df
else
(Ct k p o u v).bind fun (ad, dg) =>
if ((Bn dg 0) || (Ud b (Ac ad))) then
(Ag 8).bind fun (dh, di) =>
j28 dh di
else
j26 w g a k p o u v b m n ap ad f h
else
if (Gf (Ac a) 4000) then
(Ag 38).bind fun (dj, bf) =>
j22 ((dj == true) && ((geq bf 0) && true))
else
j21
else
j22 false
else
if ((geq (Ac ar) 0) && (geq (Ac az) 0)) then
if ((((geq au 0) && ((geq av 0) && ((geq aw 0) && ((geq ax 0) && ((geq ay 0) && true))))) && (geq ai 0)) && (gle (Ac aj) 12000)) then
if (geq y 0) then
j22 true
else
if (!ac) then
(Pz y).bind fun dk =>
j22 dk
else
j22 false
else
j22 false
else
if ((false && (geq ai 0)) && (gle (Ac aj) 12000)) then
if (geq y 0) then
j22 true
else
if (!ac) then
(Pz y).bind fun dl =>
j22 dl
else
j22 false
else
j22 false
theorem Apc : @Acl = @Rw := by
  unfold Acl Rw
  try simp only [Af8, Xd, Xe]
  all_goals
    repeat (refine funext fun _ => ?_)
    repeat' first
      | with_reducible rfl
      | with_reducible refine Ev ?_ ?_
      | with_reducible refine Eu ?_ ?_ ?_
      | with_reducible refine En ?_ ?_ ?_ ?_
      | ((with_reducible refine Hm ?_ ?_); focus (intro h; first | (subst h; rfl) | (simp only [h]; rfl) | (simp [Db, Ac, h]; done)))
      | with_reducible refine Hu fun x => ?_
      | with_reducible refine Mi (fun _ => ?_) (fun _ => ?_)
      | (refine Cd (fun h => by simp only [h, Hx, Br, Bm, ite_self]) (fun x h => ?_); (try simp only [h, Br]))
      | (refine Da (fun h => ?_) (fun h => ?_) <;> simp only [h, if_true, if_false, Bool.false_eq_true])
abbrev R_ := Int
noncomputable def H : Hd := ⟨[.agg [Ss, Sb, .agg [Si, Si, Si, Si, Si], Sl, Si, Sb, Sz, Si]], [Si], (.seq .d (.seq .d (.seq .d (.cut [3] [] (.seq .d (.cond (.seq .d (.keep [3, 21, 22, 23, 24, 25] false)) .d)) .d)))), ⟨[(35, F35.c), (36, F36.c), (38, F38.c), (54, F54.c), (55, F55.c), (72, F72.c), (73, F73.c), (78, F78.c), (88, Zz), (89, F89.c), (92, F92.c), (93, F93.c), (117, F117.c), (129, F129.c), (130, F130.c)], gl, false⟩, [(37, (.seq .d (.cut [2] [] (.blk (.seq .d (.cond (.cut [2] [] (.keep [2, 11] true) .d) (.seq .d (.cond (.cut [2] [] (.keep [2, 20] true) .d) (.seq .d (.cond (.cut [2] [] (.keep [2, 33] true) .d) .d))))))) .d))), (75, (.seq .d (.seq .d (.seq .d (.seq .d (.seq .d (.cut [0, 2, 5] [] (.mode false) .d))))))), (76, (.seq .d (.seq .d (.cut [0, 2, 3] [⟨0, [1], .ro (.int .u8)⟩] (.seq .d (.cond (.seq .d (.cut [0, 2, 3] [⟨0, [1], .ro (.int .u8)⟩, ⟨9, [1], .ro (.int .u8)⟩, ⟨10, [1], .ro (.int .u8)⟩, ⟨15, [1], .ro (.int .u8)⟩, ⟨16, [1], .ro (.int .u8)⟩, ⟨18, [], .ro (.int .u8)⟩] .d (.cut [0, 2, 3, 4, 5] [] .d .d))) .d)) .d)))), (77, (.seq .d (.seq .d (.seq .d (.seq .d (.seq .d (.seq .d (.cut [0, 2, 3, 4, 6] [⟨0, [1], .ro (.int .u8)⟩, ⟨9, [1], .ro (.int .u8)⟩, ⟨10, [1], .ro (.int .u8)⟩, ⟨13, [1], .ro (.int .u8)⟩, ⟨14, [1], .ro (.int .u8)⟩, ⟨19, [1], .ro (.int .u8)⟩, ⟨20, [1], .ro (.int .u8)⟩, ⟨22, [], .ro (.int .u8)⟩, ⟨28, [1], .ro (.int .u8)⟩, ⟨29, [1], .ro (.int .u8)⟩, ⟨40, [1], .ro (.int .u8)⟩, ⟨41, [1], .ro (.int .u8)⟩] .d (.cut [0, 2, 3, 5, 7] [] .d (.seq .d (.seq .d (.seq .d (.seq .d (.seq (.mode false) .d))))))))))))))], f10⟩
def x22 (bi : Bool) : Option R_ := H.e P_ [r,r,r,r] ⟨[(3, vt bi)], [], []⟩
def x21 : Option R_ := H.e P_ [r,r,r,l,r,l,r,(dcall 3 37 3 #[true, true, true, true, true, true, true, true] #[true, true, true, true, true, false, false, false]),r,r] ⟨[(2, .ptr 0 [])], [.box 79 (.agg [vt false, vi 0])], [[(3, vt false), (21, .cst (.bool true)), (23, .agg [vt true, vi 0])]]⟩
def x13 (bj : Bool) (bk : Int) : Option R_ := H.e P_ [r,r,r,l,r,l,r,(dcall 3 37 3 #[true, true, true, true, true, true, true, true] #[true, true, true, true, true, false, false, false]),r,l,d,r,l,r] ⟨[(2, .ptr 0 [])], [.box 79 (.agg [vt bj, vi bk])], [[(3, vt false), (21, .cst (.bool true)), (23, .agg [vt true, vi 0])]]⟩
def x12 (g ak : LB) (ae af aa ag ab b : Int) (m : Bool) (n : Int) (f : LI) (h : LB) : Option R_ := H.e P_ [r,r,r,l,r,l,r,(dcall 3 37 3 #[true, true, true, true, true, true, true, true] #[true, true, true, true, true, false, false, false]),r,l,d,r,l,l,(call 1 75),r,r,r,r,r,r] ⟨[(0, .ptr 0 []), (2, .ptr 1 []), (5, .ptr 2 [])], [.box 28 (.agg [vs g, vb ak, .agg [vi ae, vi af, vi aa, vi ag, vi ab], .own 4, vi b, .own 5, vt m, vi n]), .box 79 (.agg [vt false, vi 0]), .box 24 (.agg [vi ae, vi af, vi aa, vi ag, vi ab]), .box 79 (.agg [vt false, vi 0]), Ai 3 f, Ab 5 h], [[(2, .ptr 3 [])], [(3, vt false), (21, .cst (.bool true)), (23, .agg [vt true, vi 0])]]⟩
def x25 (bl : Bool) (bm : Int) : Option R_ := H.e P_ [r,r,r,l,r,l,r,(dcall 3 37 3 #[true, true, true, true, true, true, true, true] #[true, true, true, true, true, false, false, false]),r,l,d,r,r,r,l,r] ⟨[(2, .ptr 0 [])], [.box 79 (.agg [vt bl, vi bm])], [[(3, vt false), (21, .cst (.bool true)), (23, .agg [vt true, vi 0])]]⟩
def x24 (g a : LB) (k p o u v b : Int) (m : Bool) (n : Int) (f : LI) (h : LB) (bg : Int) : Option R_ := H.e P_ [r,r,r,l,r,l,r,(dcall 3 37 3 #[true, true, true, true, true, true, true, true] #[true, true, true, true, true, false, false, false]),r,l,d,r,r,r,l,l,(call 1 76),r,r,r] ⟨[(0, .ptr 0 []), (2, .ptr 1 []), (3, vi bg)], [.box 28 (.agg [vs g, vb a, .agg [vi k, vi p, vi o, vi u, vi v], .own 3, vi b, .own 4, vt m, vi n]), .box 79 (.agg [vt false, vi 0]), .box 79 (.agg [vt false, vi 0]), Ai 3 f, Ab 5 h], [[(2, .ptr 2 [])], [(3, vt false), (21, .cst (.bool true)), (23, .agg [vt true, vi 0])]]⟩
def x15 (bd : Bool) (bc : Int) (g a : LB) (k p o u v b : Int) (m : Bool) (n : Int) (f : LI) (h : LB) : Option R_ := H.e P_ [r,r,r,l,r,l,r,(dcall 3 37 3 #[true, true, true, true, true, true, true, true] #[true, true, true, true, true, false, false, false]),r,l,d,r,r,r,l,l,(call 1 76),r,r,l,r,l,r,r,r] ⟨[(0, .ptr 0 []), (2, .ptr 1 []), (3, vi 8), (4, vt bd), (5, vi bc)], [.box 28 (.agg [vs g, vb a, .agg [vi k, vi p, vi o, vi u, vi v], .own 3, vi b, .own 4, vt m, vi n]), .box 79 (.agg [vt false, vi 0]), .box 79 (.agg [vt false, vi 0]), Ai 3 f, Ab 5 h], [[(2, .ptr 2 [])], [(3, vt false), (21, .cst (.bool true)), (23, .agg [vt true, vi 0])]]⟩
def x23 (g a : LB) (k p o u v b : Int) (m : Bool) (n : Int) (f : LI) (h : LB) : Option R_ := H.e P_ [r,r,r,l,r,l,r,(dcall 3 37 3 #[true, true, true, true, true, true, true, true] #[true, true, true, true, true, false, false, false]),r,l,d,r,r,r,l,l,(call 1 76),r,r,l,r,l,r,r] ⟨[(0, .ptr 0 []), (2, .ptr 1 []), (3, vi 8)], [.box 28 (.agg [vs g, vb a, .agg [vi k, vi p, vi o, vi u, vi v], .own 3, vi b, .own 4, vt m, vi n]), .box 79 (.agg [vt false, vi 0]), .box 79 (.agg [vt false, vi 0]), Ai 3 f, Ab 5 h], [[(2, .ptr 2 [])], [(3, vt false), (21, .cst (.bool true)), (23, .agg [vt true, vi 0])]]⟩
def x28 (bp : Bool) (bq : Int) : Option R_ := H.e P_ [r,r,r,l,r,l,r,(dcall 3 37 3 #[true, true, true, true, true, true, true, true] #[true, true, true, true, true, false, false, false]),r,l,d,r,r,r,r,r,l,r] ⟨[(2, .ptr 0 [])], [.box 79 (.agg [vt bp, vi bq])], [[(3, vt false), (21, .cst (.bool true)), (23, .agg [vt true, vi 0])]]⟩
def x27 (w ah : Int) (g a : LB) (k p o u v b : Int) (m : Bool) (n : Int) (ao : LX) (f : LI) (h : LB) : Option R_ := H.e P_ [r,r,r,l,r,l,r,(dcall 3 37 3 #[true, true, true, true, true, true, true, true] #[true, true, true, true, true, false, false, false]),r,l,d,r,r,r,r,r,l,l,(call 1 77),r,r,r,r,r,r,r,r] ⟨[(0, .ptr 0 []), (2, .ptr 1 []), (3, vi w), (5, vi ah), (7, .own 2)], [.box 28 (.agg [vs g, vb a, .agg [vi k, vi p, vi o, vi u, vi v], .own 4, vi b, .own 5, vt m, vi n]), .box 79 (.agg [vt false, vi 0]), Aw 21 ao, .box 79 (.agg [vt false, vi 0]), Ai 3 f, Ab 5 h], [[(2, .ptr 3 [])], [(3, vt false), (21, .cst (.bool true)), (23, .agg [vt true, vi 0])]]⟩
def x26 (w : Int) (g a : LB) (k p o u v b : Int) (m : Bool) (n : Int) (ap : LX) (ad f : LI) (h : LB) : Option R_ := H.e P_ [r,r,r,l,r,l,r,(dcall 3 37 3 #[true, true, true, true, true, true, true, true] #[true, true, true, true, true, false, false, false]),r,l,d,r,r,r,r,r,l,l,(call 1 77),r,r,r,r,r,r,r] ⟨[(0, .ptr 0 []), (2, .ptr 1 []), (3, vi w), (4, .ptr 2 []), (6, .own 3)], [.box 28 (.agg [vs g, vb a, .agg [vi k, vi p, vi o, vi u, vi v], .own 5, vi b, .own 6, vt m, vi n]), .box 79 (.agg [vt false, vi 0]), .box 95 (.val (.vec 16 (.int .i32)) ap), Ai 3 ad, .box 79 (.agg [vt false, vi 0]), Ai 3 f, Ab 5 h], [[(2, .ptr 4 [])], [(3, vt false), (21, .cst (.bool true)), (23, .agg [vt true, vi 0])]]⟩
theorem e22 : x22 = Bc := by kernel_rfl
theorem e21 : x21 = Wb := Eq.trans (b := Ab4 x22) (by kernel_rfl) (by simp only [e22] <;> rfl)
theorem e13 : x13 = Dd := Eq.trans (b := Acw x22) (by kernel_rfl) (by simp only [e22] <;> rfl)
theorem e12 : x12 = Wd := Eq.trans (b := Acg x13) (by kernel_rfl) (by simp only [e13] <;> rfl)
theorem e25 : x25 = Ho := Eq.trans (b := Aci x22) (by kernel_rfl) (by simp only [e22] <;> rfl)
theorem e24 : x24 = Hz := Eq.trans (b := Ac1 x25) (by kernel_rfl) (by simp only [e25] <;> rfl)
theorem e15 : x15 = Ab7 := Eq.trans (b := Acz x25 x24) (by kernel_rfl) (by simp only [e25, e24] <;> rfl)
theorem e23 : x23 = Wh := Eq.trans (b := Acj x15) (by kernel_rfl) (by simp only [e15] <;> rfl)
theorem e28 : x28 = Ft := Eq.trans (b := Adh x22) (by kernel_rfl) (by simp only [e22] <;> rfl)
theorem e27 : x27 = Ac6 := Eq.trans (b := Aaz x28) (by kernel_rfl) (by rw [Aot]; simp only [e28] <;> rfl)
theorem e26 : x26 = Wf := Eq.trans (b := Adl x27) (by kernel_rfl) (by simp only [e27] <;> rfl)
noncomputable def F := u12 Jj
theorem rn x : H.u P_ x = F x := Eq.trans (b := u12 (Acl x13 x12 x25 x23 x24 x28 x26 x22 x21) x) (by kernel_rfl) (by unfold F; rw [Apc]; simp only [e13, e12, e25, e23, e24, e28, e26, e22, e21] <;> rfl)
noncomputable def c : Con := ⟨H.p, H.r, F⟩
theorem ok : ConOk P_ gl 10 c := cr H func10 (.cons F35.ok (.cons F36.ok (.cons F38.ok (.cons F54.ok (.cons F55.ok (.cons F72.ok (.cons F73.ok (.cons F78.ok (.cons Ajm (.cons F89.ok (.cons F92.ok (.cons F93.ok (.cons F117.ok (.cons F129.ok (.cons F130.ok .nil))))))))))))))) (AnsOk.cons ent37 (AnsOk.cons ent75 (AnsOk.cons ent76 (AnsOk.cons ent77 AnsOk.nil)))) rn
end F10
namespace F42
def Acv (f g : LB) (h k m n o : Int) (p : LI) (u : Int) (v : LB) (b : Bool) (a : Int) : Option (LB × LB × Int × Int × Int × Int × Int × LI × Int × LB × Bool × Int × Int) :=
(Jj f g h k m n o p u v b a).bind fun w =>
if (Bn w 0) then
some (([] : LB), ([] : LB), 0, 0, 0, 0, 0, ([] : LI), 0, ([] : LB), false, 0, w)
else
if (Bn a 0) then
(fun bl : Option (LB × LB × Int × Int × Int × Int × Int × LI × Int × LB × Bool × Int × Int) =>
both (
both (
(Cf f g h k m n o p u v b a).bind fun (y, aa, ab, ac, ad, ae, af, ag, ah, ai, aj, ak) =>
(fun bm : Option (LB × LB × Int × Int × Int × Int × Int × LI × Int × LB × Bool × Int × Int) =>
bo (
bm)) (
some (y, aa, ab, ac, ad, ae, af, ag, ah, ai, aj, ak, a))) [
bl]) [
bl]) (
(Cf f g h k m n o p u v b a).bind fun (y, aa, ab, ac, ad, ae, af, ag, ah, ai, aj, ak) =>
some (y, aa, ab, ac, ad, ae, af, ag, ah, ai, aj, ak, a))
else
if b then
(Cf f g h k m n o p u v b a).bind fun (al, am, an, ao, ap, aq, ar, au, av, aw, ax, ay) =>
some (al, am, an, ao, ap, aq, ar, au, av, aw, ax, ay, 36)
else
(Cf f g h k m n o p u v b a).bind fun (az, ba, bb, bc, bd, be, bf, bg, bh, bi, bj, bk) =>
some (az, ba, bb, bc, bd, be, bf, bg, bh, bi, bj, bk, 0)
theorem Apq : @Acv = @Pm := by
  unfold Acv Pm
  try simp only [Af8, Xd, Xe]
  all_goals
    repeat (refine funext fun _ => ?_)
    repeat' first
      | with_reducible rfl
      | with_reducible refine Ev ?_ ?_
      | with_reducible refine Eu ?_ ?_ ?_
      | with_reducible refine En ?_ ?_ ?_ ?_
      | ((with_reducible refine Hm ?_ ?_); focus (intro h; first | (subst h; rfl) | (simp only [h]; rfl) | (simp [Db, Ac, h]; done)))
      | with_reducible refine Hu fun x => ?_
      | with_reducible refine Mi (fun _ => ?_) (fun _ => ?_)
      | (refine Cd (fun h => by simp only [h, Hx, Br, Bm, ite_self]) (fun x h => ?_); (try simp only [h, Br]))
      | (refine Da (fun h => ?_) (fun h => ?_) <;> simp only [h, if_true, if_false, Bool.false_eq_true])
noncomputable def H : Hd := ⟨[.agg [Ss, Sb, .agg [Si, Si, Si, Si, Si], Sl, Si, Sb, Sz, Si]], [.agg [Ss, Ob 5, .agg [Si, Si, Si, Si, Si], Ol 3, Si, Ob 5, Sz, Si], Si], (.seq .d (.seq .d (.seq (.blk (.seq .d (.cond (.seq (.mode false) .d) .d))) .d))), ⟨[(10, F10.c), (35, F35.c)], gl, false⟩, [], f42⟩
noncomputable def F := u12 Pm
theorem rn x : H.u P_ x = F x := Eq.trans (b := u12 Acv x) (by kernel_rfl) (by rw [Apq]; rfl)
noncomputable def c : Con := ⟨H.p, H.r, F⟩
theorem ok : ConOk P_ gl 42 c := co H func42 (.cons F10.ok (.cons F35.ok .nil)) rn
end F42
namespace F43
noncomputable def H : Hd := ⟨[.agg [Ss, Sb, .agg [Si, Si, Si, Si, Si], Sl, Si, Sb, Sz, Si], Si], [.agg [Ss, Ob 5, .agg [Si, Si, Si, Si, Si], Ol 3, Si, Sb, Sz, Si], Si], .d, ⟨[], gl, false⟩, [], f43⟩
noncomputable def F := u13 Am2
theorem rn x : H.u P_ x = F x := by kernel_rfl
noncomputable def c : Con := ⟨H.p, H.r, F⟩
theorem ok : ConOk P_ gl 43 c := co H func43 .nil rn
end F43
namespace F15
def Acr (j78 : Int → Int → Int → Int → Int → LI → Bool → Int → LB → Int → LB → Option (LB × LB × Int × Int × Int × Int × Int × LI × Int × LB × Bool × Int × Int)) (a : LB) (b : Bool) (f w ag : Int) (g : LB) (m p o u v h : Int) (am : LX) (k : LI) (n : LB) : Option (LB × LB × Int × Int × Int × Int × Int × LI × Int × LB × Bool × Int × Int) :=
if (Bn ag 0) then
(Ag ag).bind fun (dd, de) =>
j78 m p o u v k dd de g h n
else
(Wx o am).bind fun (df, aj) =>
if (Bn aj 0) then
(Ag aj).bind fun (dg, dh) =>
j78 m p o u v k dg dh g h n
else
(Db n df).bind fun di =>
(fun hb : Option (LB × LB × Int × Int × Int × Int × Int × LI × Int × LB × Bool × Int × Int) =>
bo (
hb)) (
(Bb g w (Ac g)).bind fun dj =>
j78 m p o u v k false 0 dj (Af h 1) di)
theorem Apa : @Acr = @Yl := by
  unfold Acr Yl
  simp only [Af8, Xd, Xe]
def Acq (j62 : Int → LI → LB → Bool → Int → LB → Int → Int → Int → Int → Int → Option (LB × LB × Int × Int × Int × Int × Int × LI × Int × LB × Bool × Int × Int)) (j61 : LB → Int → Int → Int → Int → Int → Int → LI → LB → Option (LB × LB × Int × Int × Int × Int × Int × LI × Int × LB × Bool × Int × Int)) (j75 : Int → Int → Int → Int → Int → Int → LB → Bool → Int → LB → LI → Option (LB × LB × Int × Int × Int × Int × Int × LI × Int × LB × Bool × Int × Int)) (j73 : LB → Int → Int → Int → Int → Int → Int → LI → LB → Option (LB × LB × Int × Int × Int × Int × Int × LI × Int × LB × Bool × Int × Int)) (j74 : LB → Int → Int → Int → Int → Int → Int → LI → LB → Int → Option (LB × LB × Int × Int × Int × Int × Int × LI × Int × LB × Bool × Int × Int)) (j78 : Int → Int → Int → Int → Int → LI → Bool → Int → LB → Int → LB → Option (LB × LB × Int × Int × Int × Int × Int × LI × Int × LB × Bool × Int × Int)) (j76 : Int → LB → Int → Int → Int → Int → Int → Int → LX → LI → LI → LB → Option (LB × LB × Int × Int × Int × Int × Int × LI × Int × LB × Bool × Int × Int)) (j71 : LB → Int → Int → Int → Int → Int → Int → Bool → Int → LI → LB → Option (LB × LB × Int × Int × Int × Int × Int × LI × Int × LB × Bool × Int × Int)) (j70 : LB → Int → Int → Int → Int → Int → Int → LI → LB → Option (LB × LB × Int × Int × Int × Int × Int × LI × Int × LB × Bool × Int × Int)) (a : LB) (b : Bool) (f : Int) (g : LB) (m p o u v h : Int) (k : LI) (n : LB) : Option (LB × LB × Int × Int × Int × Int × Int × LI × Int × LB × Bool × Int × Int) :=
if (geq m 0) then
(Jq g).bind fun (ah, ao) =>
if (geq ao 24) then
j62 h k n true 0 g m p o u v
else
if (Bn ao 0) then
(Ag ao).bind fun (dk, dl) =>
j62 h k n dk dl g m p o u v
else
(Bb g ah (Ac g)).bind fun dm =>
(Pk dm).bind fun al =>
if al then
j62 h k n true 0 g m p o u v
else
(Bb g ah (Ac g)).bind fun dn =>
(Pg dn).bind fun (ab, ac, y, ad, aa, ap) =>
if (geq ap 24) then
j62 h k n true 0 g m p o u v
else
if (Bn ap 0) then
(Ag ap).bind fun (dp, dq) =>
j62 h k n dp dq g m p o u v
else
both (
(Bb g (Af ah 22) (Ac g)).bind fun af =>
bo (
j61 af ab ac y ad aa h k n)) [
(Bb g (Af ah 22) (Ac g)).bind fun af =>
j61 af ab ac y ad aa h k n]
else
if (geq (Ac k) 0) then
if (geq m 2) then
if (Ci (Ac g) 8) then
j75 m p o u v h n true 0 g k
else
j73 g m p o u v h k n
else
j74 g m p o u v h k n 0
else
if (Ci h (Ac k)) then
(Al k h).bind fun _ =>
(Al k h).bind fun w =>
if (Ci (Ac g) w) then
j78 m p o u v k true 0 g h n
else
(Abe a).bind fun (an, ak) =>
if (Bn ak 0) then
(Ag ak).bind fun (dr, ds) =>
j78 m p o u v k dr ds g h n
else
(Ct m p o u v).bind fun (ae, dt) =>
if ((Bn dt 0) || (Ud h (Ac ae))) then
(Ag 8).bind fun (du, bc) =>
j78 m p o u v k du bc g h n
else
j76 w g m p o u v h an ae k n
else
if (Gf (Ac g) 4000) then
(Ag 38).bind fun (dv, ai) =>
j71 g m p o u v h dv ai k n
else
j70 g m p o u v h k n
theorem Ap1 : @Acq = @Gz := by
  unfold Acq Gz
  repeat (refine funext fun _ => ?_)
  repeat' first
    | with_reducible rfl
    | with_reducible refine Ev ?_ ?_
    | with_reducible refine Eu ?_ ?_ ?_
    | with_reducible refine En ?_ ?_ ?_ ?_
    | ((with_reducible refine Hm ?_ ?_); focus (intro h; first | (subst h; rfl) | (simp only [h]; rfl) | (simp [Db, Ac, h]; done)))
    | with_reducible refine Hu fun x => ?_
    | with_reducible refine Mi (fun _ => ?_) (fun _ => ?_)
    | (refine Cd (fun h => by simp only [h, Hx, Br, Bm, ite_self]) (fun x h => ?_); (try simp only [h, Br]))
    | (refine Da (fun h => ?_) (fun h => ?_) <;> simp only [h, if_true, if_false, Bool.false_eq_true])
abbrev R_ := (LB × LB × Int × Int × Int × Int × Int × LI × Int × LB × Bool × Int × Int)
abbrev K_ := S → Option R_
noncomputable def H : Hd := ⟨[.agg [Ss, Sb, .agg [Si, Si, Si, Si, Si], Sl, Si, Sb, Sz, Si], Sb], [.agg [Ss, Ob 5, .agg [Si, Si, Si, Si, Si], Ol 3, Si, Sb, Sz, Si], Si], (.seq .d (.seq .d (.seq .d (.seq .d (.blk (.loop [2, 4] [⟨2, [1], .ro (.int .u8)⟩] (.blk (.cut [2, 4, 7] [] (.keep [2, 4, 7, 22] true) .d)))))))), ⟨[(35, F35.c), (42, F42.c), (43, F43.c), (54, F54.c), (55, F55.c), (72, F72.c), (73, F73.c), (78, F78.c), (88, Zz), (89, F89.c), (92, F92.c), (93, F93.c), (117, F117.c), (129, F129.c), (130, F130.c)], gl, false⟩, [(37, (.seq .d (.cut [2] [] (.blk (.seq .d (.cond (.cut [2] [] (.keep [2, 11] true) .d) (.seq .d (.cond (.cut [2] [] (.keep [2, 20] true) .d) (.seq .d (.cond (.cut [2] [] (.keep [2, 33] true) .d) .d))))))) .d))), (75, (.seq .d (.seq .d (.seq .d (.seq .d (.seq .d (.cut [0, 2, 5] [] (.mode false) .d))))))), (76, (.seq .d (.seq .d (.cut [0, 2, 3] [] (.seq .d (.cond (.seq .d (.cut [0, 2, 3] [⟨0, [1], .ro (.int .u8)⟩, ⟨9, [1], .ro (.int .u8)⟩, ⟨10, [1], .ro (.int .u8)⟩, ⟨15, [1], .ro (.int .u8)⟩, ⟨16, [1], .ro (.int .u8)⟩, ⟨18, [], .ro (.int .u8)⟩] .d (.cut [0, 2, 3, 4, 5] [] .d .d))) .d)) .d)))), (77, (.seq .d (.seq .d (.seq .d (.seq .d (.seq .d (.seq .d (.cut [0, 2, 3, 4, 6] [⟨0, [1], .ro (.int .u8)⟩, ⟨9, [1], .ro (.int .u8)⟩, ⟨10, [1], .ro (.int .u8)⟩, ⟨13, [1], .ro (.int .u8)⟩, ⟨14, [1], .ro (.int .u8)⟩, ⟨19, [1], .ro (.int .u8)⟩, ⟨20, [1], .ro (.int .u8)⟩, ⟨22, [], .ro (.int .u8)⟩, ⟨28, [1], .ro (.int .u8)⟩, ⟨29, [1], .ro (.int .u8)⟩, ⟨40, [1], .ro (.int .u8)⟩, ⟨41, [1], .ro (.int .u8)⟩] .d (.cut [0, 2, 3, 5, 7] [] .d (.seq .d (.seq .d (.seq .d (.seq .d (.seq (.mode false) .d))))))))))))))], f15⟩
def t37 (a : LB) (b : Bool) (f : Int) (g : LB) (m p o u v h : Int) (k : LI) (n : LB) : S := ⟨[(2, .ptr 0 []), (4, .ptr 1 [])], [.box 28 (.agg [vs a, vb g, .agg [vi m, vi p, vi o, vi u, vi v], .own 2, vi h, .own 3, vt b, vi f]), .box 28 (.agg [vs ([] : LB), .nils, .agg [vi 0, vi 0, vi 0, vi 0, vi 0], .nils, vi 0, .nils, vt false, vi 0]), Ai 3 k, Ab 5 n], []⟩
def z37 : Nat → S → Option R_ := H.i P_ [r,r,r,r,d]
def x71 (kn37 : K_) (a : LB) (b : Bool) (f : Int) (ar : LB) (au av aw ax ay az : Int) (bh : Bool) (be : Int) (ba : LI) (bb : LB) : Option R_ := H.e P_ [r,r,r,r,d,(lp kn37),d,r] ⟨[(2, .ptr 0 []), (4, .ptr 1 []), (7, .ptr 2 [])], [.box 28 (.agg [vs a, vb ar, .agg [vi au, vi av, vi aw, vi ax, vi ay], .own 3, vi az, .own 4, vt b, vi f]), .box 28 (.agg [vs ([] : LB), .nils, .agg [vi 0, vi 0, vi 0, vi 0, vi 0], .nils, vi 0, .nils, vt false, vi 0]), .box 79 (.agg [vt bh, vi be]), Ai 3 ba, Ab 5 bb], []⟩
def x70 (kn37 : K_) (a : LB) (b : Bool) (f : Int) (g : LB) (m p o u v h : Int) (k : LI) (n : LB) : Option R_ := H.e P_ [r,r,r,r,d,(lp kn37),d,l,(call 0 37),r,r] ⟨[(2, .ptr 0 [])], [.box 79 (.agg [vt false, vi 0]), .box 28 (.agg [vs a, vb g, .agg [vi m, vi p, vi o, vi u, vi v], .own 3, vi h, .own 4, vt b, vi f]), .box 28 (.agg [vs ([] : LB), .nils, .agg [vi 0, vi 0, vi 0, vi 0, vi 0], .nils, vi 0, .nils, vt false, vi 0]), Ai 3 k, Ab 5 n], [[(2, .ptr 1 []), (4, .ptr 2 [])]]⟩
def x62 (kn37 : K_) (a : LB) (b : Bool) (f h : Int) (k : LI) (n : LB) (bj : Bool) (bk : Int) (bl : LB) (bm bn bp bq br : Int) : Option R_ := H.e P_ [r,r,r,r,d,(lp kn37),d,l,(call 0 37),r,l,d,r,l,r] ⟨[(2, .ptr 0 [])], [.box 79 (.agg [vt bj, vi bk]), .box 28 (.agg [vs a, vb bl, .agg [vi bm, vi bn, vi bp, vi bq, vi br], .own 3, vi h, .own 4, vt b, vi f]), .box 28 (.agg [vs ([] : LB), .nils, .agg [vi 0, vi 0, vi 0, vi 0, vi 0], .nils, vi 0, .nils, vt false, vi 0]), Ai 3 k, Ab 5 n], [[(2, .ptr 1 []), (4, .ptr 2 [])]]⟩
def x61 (kn37 : K_) (a : LB) (b : Bool) (f : Int) (af : LB) (ab ac y ad aa h : Int) (k : LI) (n : LB) : Option R_ := H.e P_ [r,r,r,r,d,(lp kn37),d,l,(call 0 37),r,l,d,r,l,l,(call 1 75),r,r,r,r,r,r] ⟨[(0, .ptr 0 []), (2, .ptr 1 []), (5, .ptr 2 [])], [.box 28 (.agg [vs a, vb af, .agg [vi ab, vi ac, vi y, vi ad, vi aa], .own 5, vi h, .own 6, vt b, vi f]), .box 79 (.agg [vt false, vi 0]), .box 24 (.agg [vi ab, vi ac, vi y, vi ad, vi aa]), .box 79 (.agg [vt false, vi 0]), .box 28 (.agg [vs ([] : LB), .nils, .agg [vi 0, vi 0, vi 0, vi 0, vi 0], .nils, vi 0, .nils, vt false, vi 0]), Ai 3 k, Ab 5 n], [[(2, .ptr 3 [])], [(2, .ptr 0 []), (4, .ptr 4 [])]]⟩
def x75 (kn37 : K_) (a : LB) (b : Bool) (f m p o u v h : Int) (n : LB) (bs : Bool) (bt : Int) (bu : LB) (bv : LI) : Option R_ := H.e P_ [r,r,r,r,d,(lp kn37),d,l,(call 0 37),r,l,d,r,r,r,l,r] ⟨[(2, .ptr 0 [])], [.box 79 (.agg [vt bs, vi bt]), .box 28 (.agg [vs a, vb bu, .agg [vi m, vi p, vi o, vi u, vi v], .own 3, vi h, .own 4, vt b, vi f]), .box 28 (.agg [vs ([] : LB), .nils, .agg [vi 0, vi 0, vi 0, vi 0, vi 0], .nils, vi 0, .nils, vt false, vi 0]), Ai 3 bv, Ab 5 n], [[(2, .ptr 1 []), (4, .ptr 2 [])]]⟩
def x74 (kn37 : K_) (a : LB) (b : Bool) (f : Int) (g : LB) (m p o u v h : Int) (k : LI) (n : LB) (bf : Int) : Option R_ := H.e P_ [r,r,r,r,d,(lp kn37),d,l,(call 0 37),r,l,d,r,r,r,l,l,(call 1 76),r,r,r] ⟨[(0, .ptr 0 []), (2, .ptr 1 []), (3, vi bf)], [.box 28 (.agg [vs a, vb g, .agg [vi m, vi p, vi o, vi u, vi v], .own 4, vi h, .own 5, vt b, vi f]), .box 79 (.agg [vt false, vi 0]), .box 79 (.agg [vt false, vi 0]), .box 28 (.agg [vs ([] : LB), .nils, .agg [vi 0, vi 0, vi 0, vi 0, vi 0], .nils, vi 0, .nils, vt false, vi 0]), Ai 3 k, Ab 5 n], [[(2, .ptr 2 [])], [(2, .ptr 0 []), (4, .ptr 3 [])]]⟩
def x64 (kn37 : K_) (a : LB) (b : Bool) (f : Int) (bd : Bool) (aq : Int) (g : LB) (m p o u v h : Int) (k : LI) (n : LB) : Option R_ := H.e P_ [r,r,r,r,d,(lp kn37),d,l,(call 0 37),r,l,d,r,r,r,l,l,(call 1 76),r,r,l,r,l,r,r,r] ⟨[(0, .ptr 0 []), (2, .ptr 1 []), (3, vi 8), (4, vt bd), (5, vi aq)], [.box 28 (.agg [vs a, vb g, .agg [vi m, vi p, vi o, vi u, vi v], .own 4, vi h, .own 5, vt b, vi f]), .box 79 (.agg [vt false, vi 0]), .box 79 (.agg [vt false, vi 0]), .box 28 (.agg [vs ([] : LB), .nils, .agg [vi 0, vi 0, vi 0, vi 0, vi 0], .nils, vi 0, .nils, vt false, vi 0]), Ai 3 k, Ab 5 n], [[(2, .ptr 2 [])], [(2, .ptr 0 []), (4, .ptr 3 [])]]⟩
def x73 (kn37 : K_) (a : LB) (b : Bool) (f : Int) (g : LB) (m p o u v h : Int) (k : LI) (n : LB) : Option R_ := H.e P_ [r,r,r,r,d,(lp kn37),d,l,(call 0 37),r,l,d,r,r,r,l,l,(call 1 76),r,r,l,r,l,r,r] ⟨[(0, .ptr 0 []), (2, .ptr 1 []), (3, vi 8)], [.box 28 (.agg [vs a, vb g, .agg [vi m, vi p, vi o, vi u, vi v], .own 4, vi h, .own 5, vt b, vi f]), .box 79 (.agg [vt false, vi 0]), .box 79 (.agg [vt false, vi 0]), .box 28 (.agg [vs ([] : LB), .nils, .agg [vi 0, vi 0, vi 0, vi 0, vi 0], .nils, vi 0, .nils, vt false, vi 0]), Ai 3 k, Ab 5 n], [[(2, .ptr 2 [])], [(2, .ptr 0 []), (4, .ptr 3 [])]]⟩
def x78 (kn37 : K_) (a : LB) (b : Bool) (f m p o u v : Int) (k : LI) (bx : Bool) (bz : Int) (da : LB) (db : Int) (dc : LB) : Option R_ := H.e P_ [r,r,r,r,d,(lp kn37),d,l,(call 0 37),r,l,d,r,r,r,r,r,l,r] ⟨[(2, .ptr 0 [])], [.box 79 (.agg [vt bx, vi bz]), .box 28 (.agg [vs a, vb da, .agg [vi m, vi p, vi o, vi u, vi v], .own 3, vi db, .own 4, vt b, vi f]), .box 28 (.agg [vs ([] : LB), .nils, .agg [vi 0, vi 0, vi 0, vi 0, vi 0], .nils, vi 0, .nils, vt false, vi 0]), Ai 3 k, Ab 5 dc], [[(2, .ptr 1 []), (4, .ptr 2 [])]]⟩
def x77 (kn37 : K_) (a : LB) (b : Bool) (f w ag : Int) (g : LB) (m p o u v h : Int) (am : LX) (k : LI) (n : LB) : Option R_ := H.e P_ [r,r,r,r,d,(lp kn37),d,l,(call 0 37),r,l,d,r,r,r,r,r,l,l,(call 1 77),r,r,r,r,r,r,r,r] ⟨[(0, .ptr 0 []), (2, .ptr 1 []), (3, vi w), (5, vi ag), (7, .own 2)], [.box 28 (.agg [vs a, vb g, .agg [vi m, vi p, vi o, vi u, vi v], .own 5, vi h, .own 6, vt b, vi f]), .box 79 (.agg [vt false, vi 0]), Aw 21 am, .box 79 (.agg [vt false, vi 0]), .box 28 (.agg [vs ([] : LB), .nils, .agg [vi 0, vi 0, vi 0, vi 0, vi 0], .nils, vi 0, .nils, vt false, vi 0]), Ai 3 k, Ab 5 n], [[(2, .ptr 3 [])], [(2, .ptr 0 []), (4, .ptr 4 [])]]⟩
def x76 (kn37 : K_) (a : LB) (b : Bool) (f w : Int) (g : LB) (m p o u v h : Int) (an : LX) (ae k : LI) (n : LB) : Option R_ := H.e P_ [r,r,r,r,d,(lp kn37),d,l,(call 0 37),r,l,d,r,r,r,r,r,l,l,(call 1 77),r,r,r,r,r,r,r] ⟨[(0, .ptr 0 []), (2, .ptr 1 []), (3, vi w), (4, .ptr 2 []), (6, .own 3)], [.box 28 (.agg [vs a, vb g, .agg [vi m, vi p, vi o, vi u, vi v], .own 6, vi h, .own 7, vt b, vi f]), .box 79 (.agg [vt false, vi 0]), .box 95 (.val (.vec 16 (.int .i32)) an), Ai 3 ae, .box 79 (.agg [vt false, vi 0]), .box 28 (.agg [vs ([] : LB), .nils, .agg [vi 0, vi 0, vi 0, vi 0, vi 0], .nils, vi 0, .nils, vt false, vi 0]), Ai 3 k, Ab 5 n], [[(2, .ptr 4 [])], [(2, .ptr 0 []), (4, .ptr 5 [])]]⟩
def x37 (a : LB) (b : Bool) (f : Int) (g : LB) (m p o u v h : Int) (k : LI) (n : LB) : Option R_ := H.e P_ [r,r,r,r,d] (t37 a b f g m p o u v h k n)
theorem e71 (kn37 : K_) (a : LB) (b : Bool) (f : Int) : x71 kn37 a b f = Bi (fun g m p o u v h k n => kn37 (t37 a b f g m p o u v h k n)) a b f := by kernel_rfl
theorem e70 (kn37 : K_) (a : LB) (b : Bool) (f : Int) : x70 kn37 a b f = Ys (fun g m p o u v h k n => kn37 (t37 a b f g m p o u v h k n)) a b f := Eq.trans (b := Aly (x71 kn37 a b f) a b f) (by kernel_rfl) (by simp only [e71] <;> rfl)
theorem e62 (kn37 : K_) (a : LB) (b : Bool) (f : Int) : x62 kn37 a b f = Ma (fun g m p o u v h k n => kn37 (t37 a b f g m p o u v h k n)) a b f := Eq.trans (b := Amb (x71 kn37 a b f) a b f) (by kernel_rfl) (by simp only [e71] <;> rfl)
theorem e61 (kn37 : K_) (a : LB) (b : Bool) (f : Int) : x61 kn37 a b f = Rz (fun g m p o u v h k n => kn37 (t37 a b f g m p o u v h k n)) a b f := Eq.trans (b := Aep (x62 kn37 a b f) a b f) (by kernel_rfl) (by simp only [e62] <;> rfl)
theorem e75 (kn37 : K_) (a : LB) (b : Bool) (f : Int) : x75 kn37 a b f = Iz (fun g m p o u v h k n => kn37 (t37 a b f g m p o u v h k n)) a b f := Eq.trans (b := Amj (x71 kn37 a b f) a b f) (by kernel_rfl) (by simp only [e71] <;> rfl)
theorem e74 (kn37 : K_) (a : LB) (b : Bool) (f : Int) : x74 kn37 a b f = Jh (fun g m p o u v h k n => kn37 (t37 a b f g m p o u v h k n)) a b f := Eq.trans (b := Aet (x75 kn37 a b f) a b f) (by kernel_rfl) (by simp only [e75] <;> rfl)
theorem e64 (kn37 : K_) (a : LB) (b : Bool) (f : Int) : x64 kn37 a b f = Ae5 (fun g m p o u v h k n => kn37 (t37 a b f g m p o u v h k n)) a b f := Eq.trans (b := Aei (x75 kn37 a b f) (x74 kn37 a b f) a b f) (by kernel_rfl) (by simp only [e75, e74] <;> rfl)
theorem e73 (kn37 : K_) (a : LB) (b : Bool) (f : Int) : x73 kn37 a b f = Rg (fun g m p o u v h k n => kn37 (t37 a b f g m p o u v h k n)) a b f := Eq.trans (b := Aen (x64 kn37 a b f) a b f) (by kernel_rfl) (by simp only [e64] <;> rfl)
theorem e78 (kn37 : K_) (a : LB) (b : Bool) (f : Int) : x78 kn37 a b f = Lz (fun g m p o u v h k n => kn37 (t37 a b f g m p o u v h k n)) a b f := Eq.trans (b := Al6 (x71 kn37 a b f) a b f) (by kernel_rfl) (by simp only [e71] <;> rfl)
theorem e77 (kn37 : K_) (a : LB) (b : Bool) (f : Int) : x77 kn37 a b f = Aef (fun g m p o u v h k n => kn37 (t37 a b f g m p o u v h k n)) a b f := Eq.trans (b := Acr (x78 kn37 a b f) a b f) (by kernel_rfl) (by rw [Apa]; simp only [e78] <;> rfl)
theorem e76 (kn37 : K_) (a : LB) (b : Bool) (f : Int) : x76 kn37 a b f = Qv (fun g m p o u v h k n => kn37 (t37 a b f g m p o u v h k n)) a b f := Eq.trans (b := Aeo (x77 kn37 a b f) a b f) (by kernel_rfl) (by simp only [e77] <;> rfl)
theorem i37 (a : LB) (b : Bool) (f : Int) : ∀ (q : Nat) (g : LB) (m p o u v h : Int) (k : LI) (n : LB), z37 q (t37 a b f g m p o u v h k n) = Au a b f q g m p o u v h k n :=
 ind (fun _ _ _ _ _ _ _ _ _ => by kernel_rfl) fun q ih g m p o u v h k n => Eq.trans (b := Acq (x62 (z37 q) a b f) (x61 (z37 q) a b f) (x75 (z37 q) a b f) (x73 (z37 q) a b f) (x74 (z37 q) a b f) (x78 (z37 q) a b f) (x76 (z37 q) a b f) (x71 (z37 q) a b f) (x70 (z37 q) a b f) a b f g m p o u v h k n) (by kernel_rfl) (by rw [Ap1]; simp only [e62, e61, e75, e73, e74, e78, e76, e71, e70, ih] <;> rfl)
theorem e37 : x37 = Al9 := by funext a b f g m p o u v h k n; exact Eq.trans (by kernel_rfl) ((i37 a b f Bv g m p o u v h k n).trans (by rw [Am]; rfl))
noncomputable def F := u13 Ahv
theorem rn x : H.u P_ x = F x := Eq.trans (b := u13 (Ahc x37) x) (by kernel_rfl) (by simp only [e37] <;> rfl)
noncomputable def c : Con := ⟨H.p, H.r, F⟩
theorem ok : ConOk P_ gl 15 c := cr H func15 (.cons F35.ok (.cons F42.ok (.cons F43.ok (.cons F54.ok (.cons F55.ok (.cons F72.ok (.cons F73.ok (.cons F78.ok (.cons Ajm (.cons F89.ok (.cons F92.ok (.cons F93.ok (.cons F117.ok (.cons F129.ok (.cons F130.ok .nil))))))))))))))) (AnsOk.cons ent37 (AnsOk.cons ent75 (AnsOk.cons ent76 (AnsOk.cons ent77 AnsOk.nil)))) rn
end F15
namespace F132
noncomputable def H : Hd := ⟨[.agg [Si, Si, Si, Si, Si]], [Sz], .d, ⟨[], gl, false⟩, [], f132⟩
noncomputable def F := u5 Fq
theorem rn x : H.u P_ x = F x := by kernel_rfl
noncomputable def c : Con := ⟨H.p, H.r, F⟩
theorem ok : ConOk P_ gl 132 c := co H func132 .nil rn
end F132
namespace F106
noncomputable def H : Hd := ⟨[Si], [Si], .d, ⟨[], gl, false⟩, [], f106⟩
noncomputable def F := Pe
theorem rn x : H.u P_ x = F x := by kernel_rfl
noncomputable def c : Con := ⟨H.p, H.r, F⟩
theorem ok : ConOk P_ gl 106 c := co H func106 .nil rn
end F106
namespace F60
abbrev R_ := LI
noncomputable def H : Hd := ⟨[Si, Si], [Ol 3], (.seq .d (.seq .d (.cut [5] [] (.seq .d (.blk (.loop [0, 5, 6] [⟨5, [], .own 3 (.int .i64)⟩] .d))) .d))), ⟨[(106, F106.c)], gl, false⟩, [], f60⟩
def t4 (b f : Int) (a : LI) : S := ⟨[(0, vi b), (5, .own 0), (6, vi f)], [Ai 3 a], []⟩
def z4 : Nat → S → Option R_ := H.i P_ [r,r,l,r,d]
def x6 (a : LI) : Option R_ := H.e P_ [r,r,r] ⟨[(5, .own 0)], [Ai 3 a], []⟩
def x4 (b f : Int) (a : LI) : Option R_ := H.e P_ [r,r,l,r,d] (t4 b f a)
theorem e6 : x6 = Iv := by kernel_rfl
theorem i4 (b : Int) : ∀ (q : Nat) (f : Int) (a : LI), z4 q (t4 b f a) = Cw b q f a :=
 ind (fun _ _ => by kernel_rfl) fun q ih f a => Eq.trans (b := Ge x6 (fun f a => (z4 q) (t4 b f a)) b f a) (by kernel_rfl) (by simp only [e6, ih] <;> rfl)
theorem e4 : x4 = Vv := by funext b f a; exact Eq.trans (by kernel_rfl) ((i4 b Bv f a).trans (by rw [Am]; rfl))
noncomputable def F := u2 Jc
theorem rn x : H.u P_ x = F x := Eq.trans (b := u2 (Vj x4) x) (by kernel_rfl) (by simp only [e4] <;> rfl)
noncomputable def c : Con := ⟨H.p, H.r, F⟩
theorem ok : ConOk P_ gl 60 c := co H func60 (.cons F106.ok .nil) rn
end F60
namespace F133
def Vk (h a k f b : Int) : Option Bool :=
(fun m : Option Bool =>
(fun n : Option Bool =>
bo (
n)) (
(Wq (Bn a 0)).bind fun _ =>
bo (
m))) (
if (Gf b (Cn 4000 a)) then
some true
else
(Jc f b).bind fun g =>
some (Gf (Ac g) 1000))
theorem Akq : @Vk = @Ht := by
  unfold Vk Ht
  simp only [Af8, Xd, Xe]
noncomputable def H : Hd := ⟨[.agg [Si, Si, Si, Si, Si]], [Sz], (.seq .d (.seq (.mode false) .d)), ⟨[(60, F60.c)], gl, false⟩, [], f133⟩
noncomputable def F := u5 Ht
theorem rn x : H.u P_ x = F x := Eq.trans (b := u5 Vk x) (by kernel_rfl) (by rw [Akq]; rfl)
noncomputable def c : Con := ⟨H.p, H.r, F⟩
theorem ok : ConOk P_ gl 133 c := co H func133 (.cons F60.ok .nil) rn
end F133
namespace F80
noncomputable def H : Hd := ⟨[.agg [Si, Si, Si, Si, Si]], [Si], .d, ⟨[(132, F132.c), (133, F133.c)], gl, false⟩, [], f80⟩
noncomputable def F := u5 Gv
theorem rn x : H.u P_ x = F x := by kernel_rfl
noncomputable def c : Con := ⟨H.p, H.r, F⟩
theorem ok : ConOk P_ gl 80 c := co H func80 (.cons F132.ok (.cons F133.ok .nil)) rn
end F80
namespace F81
noncomputable def H : Hd := ⟨[.agg [Si, Si, Si, Si, Si], Ss], [Si], .d, ⟨[], gl, false⟩, [], f81⟩
noncomputable def F := u6 Gw
theorem rn x : H.u P_ x = F x := by kernel_rfl
noncomputable def c : Con := ⟨H.p, H.r, F⟩
theorem ok : ConOk P_ gl 81 c := co H func81 .nil rn
end F81
namespace F82
abbrev R_ := Int
abbrev K_ := S → Option R_
noncomputable def H : Hd := ⟨[Sl], [Si], (.seq .d (.seq .d (.seq .d (.cut [3] [] (.seq .d (.blk (.loop [0, 3, 4] [] (.seq .d (.seq (.blk (.cut [0, 3, 4] [] .d .d)) .d))))) .d)))), ⟨[], gl, false⟩, [], f82⟩
def t6 (a : LI) (b f : Int) : S := ⟨[(0, vl a), (3, vi b), (4, vi f)], [], []⟩
def z6 : Nat → S → Option R_ := H.i P_ [r,r,r,l,r,d]
def x10 (b : Int) : Option R_ := H.e P_ [r,r,r,r] ⟨[(3, vi b)], [], []⟩
def x8 (kn6 : K_) (a : LI) (b f : Int) : Option R_ := H.e P_ [r,r,r,l,r,d,(lp kn6),r,l,d,r] ⟨[(0, vl a), (3, vi b), (4, vi f)], [], []⟩
def x6 (a : LI) (b f : Int) : Option R_ := H.e P_ [r,r,r,l,r,d] (t6 a b f)
theorem e10 : x10 = Tr := by kernel_rfl
theorem e8 (kn6 : K_) (a : LI) : x8 kn6 a = Vt (fun b f => kn6 (t6 a b f)) a := by kernel_rfl
theorem i6 (a : LI) : ∀ (q : Nat) (b f : Int), z6 q (t6 a b f) = Gc a q b f :=
 ind (fun _ _ => by kernel_rfl) fun q ih b f => Eq.trans (b := Nf (x8 (z6 q) a) x10 a b f) (by kernel_rfl) (by simp only [e8, e10, ih] <;> rfl)
theorem e6 : x6 = Uu := by funext a b f; exact Eq.trans (by kernel_rfl) ((i6 a Bv b f).trans (by rw [Am]; rfl))
noncomputable def F := Ew
theorem rn x : H.u P_ x = F x := Eq.trans (b := Nb x6 x) (by kernel_rfl) (by simp only [e6] <;> rfl)
noncomputable def c : Con := ⟨H.p, H.r, F⟩
theorem ok : ConOk P_ gl 82 c := co H func82 .nil rn
end F82
namespace F83
noncomputable def H : Hd := ⟨[.agg [Si, Si, Si, Si, Si]], [Ol 3], .d, ⟨[(60, F60.c)], gl, false⟩, [], f83⟩
noncomputable def F := u5 Di
theorem rn x : H.u P_ x = F x := by kernel_rfl
noncomputable def c : Con := ⟨H.p, H.r, F⟩
theorem ok : ConOk P_ gl 83 c := co H func83 (.cons F60.ok .nil) rn
end F83
namespace F135
noncomputable def H : Hd := ⟨[.agg [Si, Si, Si, Si, Si]], [.agg [Si, Si]], .d, ⟨[], gl, false⟩, [], f135⟩
noncomputable def F := u5 Jf
theorem rn x : H.u P_ x = F x := by kernel_rfl
noncomputable def c : Con := ⟨H.p, H.r, F⟩
theorem ok : ConOk P_ gl 135 c := co H func135 .nil rn
end F135
namespace F134
noncomputable def H : Hd := ⟨[.agg [Si, Si]], [Si], .d, ⟨[], gl, false⟩, [], f134⟩
noncomputable def F := u2 Zj
theorem rn x : H.u P_ x = F x := by kernel_rfl
noncomputable def c : Con := ⟨H.p, H.r, F⟩
theorem ok : ConOk P_ gl 134 c := co H func134 .nil rn
end F134
namespace F84
abbrev R_ := Int
noncomputable def H : Hd := ⟨[.agg [Si, Si, Si, Si, Si], Si], [Si], (.seq .d (.seq .d (.seq .d (.cut [2, 6] [] (.seq .d (.blk (.loop [1, 2, 5, 6, 7] [] .d))) .d)))), ⟨[(83, F83.c), (134, F134.c), (135, F135.c)], gl, false⟩, [], f84⟩
def t4 (n a b f g h : Int) (m : LI) (k o : Int) : S := ⟨[(1, vi n), (2, .ptr 0 []), (5, .own 1), (6, vi k), (7, vi o)], [.box 24 (.agg [vi a, vi b, vi f, vi g, vi h]), Ai 3 m], []⟩
def z4 : Nat → S → Option R_ := H.i P_ [r,r,r,l,r,d]
def x6 (k a b f g h : Int) : Option R_ := H.e P_ [r,r,r,r] ⟨[(2, .ptr 0 []), (6, vi k)], [.box 24 (.agg [vi a, vi b, vi f, vi g, vi h])], []⟩
def x4 (n a b f g h : Int) (m : LI) (k o : Int) : Option R_ := H.e P_ [r,r,r,l,r,d] (t4 n a b f g h m k o)
theorem e6 : x6 = Xb := by kernel_rfl
theorem i4 (n a b f g h : Int) (m : LI) : ∀ (q : Nat) (k o : Int), z4 q (t4 n a b f g h m k o) = Hg n a b f g h m q k o :=
 ind (fun _ _ => by kernel_rfl) fun q ih k o => Eq.trans (b := Pd x6 (fun k o => (z4 q) (t4 n a b f g h m k o)) n a b f g h m k o) (by kernel_rfl) (by simp only [e6, ih] <;> rfl)
theorem e4 : x4 = Afq := by funext n a b f g h m k o; exact Eq.trans (by kernel_rfl) ((i4 n a b f g h m Bv k o).trans (by rw [Am]; rfl))
noncomputable def F := u6 Ok
theorem rn x : H.u P_ x = F x := Eq.trans (b := u6 (Xo x4) x) (by kernel_rfl) (by simp only [e4] <;> rfl)
noncomputable def c : Con := ⟨H.p, H.r, F⟩
theorem ok : ConOk P_ gl 84 c := co H func84 (.cons F83.ok (.cons F134.ok (.cons F135.ok .nil))) rn
end F84
namespace F262
abbrev R_ := (Int × Int)
noncomputable def H : Hd := ⟨[Sb], [Si, Si], (.seq .d (.seq .d (.seq .d (.cut [4] [] (.seq .d (.blk (.loop [0, 4, 5] [] .d))) .d)))), ⟨[], gl, false⟩, [], f262⟩
def t4 (b : LB) (a f : Int) : S := ⟨[(0, vb b), (4, vi a), (5, vi f)], [], []⟩
def z4 : Nat → S → Option R_ := H.i P_ [r,r,r,l,r,d]
def x6 (a : Int) : Option R_ := H.e P_ [r,r,r,r] ⟨[(4, vi a)], [], []⟩
def x4 (b : LB) (a f : Int) : Option R_ := H.e P_ [r,r,r,l,r,d] (t4 b a f)
theorem e6 : x6 = Aea := by kernel_rfl
theorem i4 (b : LB) : ∀ (q : Nat) (a f : Int), z4 q (t4 b a f) = Gd b q a f :=
 ind (fun _ _ => by kernel_rfl) fun q ih a f => Eq.trans (b := Mv x6 (fun a f => (z4 q) (t4 b a f)) b a f) (by kernel_rfl) (by simp only [e6, ih] <;> rfl)
theorem e4 : x4 = Uq := by funext b a f; exact Eq.trans (by kernel_rfl) ((i4 b Bv a f).trans (by rw [Am]; rfl))
noncomputable def F := Tt
theorem rn x : H.u P_ x = F x := Eq.trans (b := Vq x4 x) (by kernel_rfl) (by simp only [e4] <;> rfl)
noncomputable def c : Con := ⟨H.p, H.r, F⟩
theorem ok : ConOk P_ gl 262 c := co H func262 .nil rn
end F262
namespace F216
abbrev R_ := (Int × Int)
noncomputable def H : Hd := ⟨[Sb], [Si, Si], (.seq .d (.cut [0] [] .d (.seq .d (.seq .d (.cut [0, 4] [] .d (.seq .d (.cut [0, 6] [] .d .d))))))), ⟨[(262, F262.c)], gl, false⟩, [], f216⟩
def x6 (a : LB) (g : Int) : Option R_ := H.e P_ [r,r,r,r,r,r,r] ⟨[(0, vb a), (6, vi g)], [], []⟩
def x5 (a : LB) (b : Int) : Option R_ := H.e P_ [r,r,r,r,r] ⟨[(0, vb a), (4, vi b)], [], []⟩
def x4 (a : LB) : Option R_ := H.e P_ [r,r] ⟨[(0, vb a)], [], []⟩
theorem e6 : x6 = Pa := by kernel_rfl
theorem e5 : x5 = Oc := Eq.trans (b := Ws x6) (by kernel_rfl) (by simp only [e6] <;> rfl)
theorem e4 : x4 = Ye := Eq.trans (b := Xm x5) (by kernel_rfl) (by simp only [e5] <;> rfl)
noncomputable def F := Wl
theorem rn x : H.u P_ x = F x := Eq.trans (b := Yf x4 x) (by kernel_rfl) (by simp only [e4] <;> rfl)
noncomputable def c : Con := ⟨H.p, H.r, F⟩
theorem ok : ConOk P_ gl 216 c := co H func216 (.cons F262.ok .nil) rn
end F216
namespace F145
abbrev R_ := UInt64
noncomputable def H : Hd := ⟨[Sb], [Sq], (.seq .d (.seq .d (.cut [3] [] (.seq .d (.blk (.loop [0, 3, 4] [] .d))) .d))), ⟨[], gl, false⟩, [], f145⟩
def t4 (b : LB) (a : UInt64) (f : Int) : S := ⟨[(0, vb b), (3, vq a), (4, vi f)], [], []⟩
def z4 : Nat → S → Option R_ := H.i P_ [r,r,l,r,d]
def x6 (a : UInt64) : Option R_ := H.e P_ [r,r,r] ⟨[(3, vq a)], [], []⟩
def x4 (b : LB) (a : UInt64) (f : Int) : Option R_ := H.e P_ [r,r,l,r,d] (t4 b a f)
theorem e6 : x6 = Aas := by kernel_rfl
theorem i4 (b : LB) : ∀ (q : Nat) (a : UInt64) (f : Int), z4 q (t4 b a f) = Je b q a f :=
 ind (fun _ _ => by kernel_rfl) fun q ih a f => Eq.trans (b := Th x6 (fun a f => (z4 q) (t4 b a f)) b a f) (by kernel_rfl) (by simp only [e6, ih] <;> rfl)
theorem e4 : x4 = Aa3 := by funext b a f; exact Eq.trans (by kernel_rfl) ((i4 b Bv a f).trans (by rw [Am]; rfl))
noncomputable def F := Ak
theorem rn x : H.u P_ x = F x := Eq.trans (b := Aao x4 x) (by kernel_rfl) (by simp only [e4] <;> rfl)
noncomputable def c : Con := ⟨H.p, H.r, F⟩
theorem ok : ConOk P_ gl 145 c := co H func145 .nil rn
end F145
namespace F181
noncomputable def H : Hd := ⟨[Sb], [Si, Si, Sz], .d, ⟨[(145, F145.c)], gl, false⟩, [], f181⟩
noncomputable def F := Kh
theorem rn x : H.u P_ x = F x := by kernel_rfl
noncomputable def c : Con := ⟨H.p, H.r, F⟩
theorem ok : ConOk P_ gl 181 c := co H func181 (.cons F145.ok .nil) rn
end F181
namespace F166
abbrev R_ := LB
noncomputable def H : Hd := ⟨[Sq, Si], [Ob 5], (.seq .d (.seq .d (.cut [5] [] (.seq .d (.blk (.loop [0, 1, 5, 6] [⟨5, [], .own 5 (.int .u8)⟩] .d))) .d))), ⟨[], gl, false⟩, [], f166⟩
def t4 (b : Int) (f : UInt64) (g : Int) (a : LB) : S := ⟨[(0, vq f), (1, vi b), (5, .own 0), (6, vi g)], [Ab 5 a], []⟩
def z4 : Nat → S → Option R_ := H.i P_ [r,r,l,r,d]
def x6 (a : LB) : Option R_ := H.e P_ [r,r,r] ⟨[(5, .own 0)], [Ab 5 a], []⟩
def x4 (b : Int) (f : UInt64) (g : Int) (a : LB) : Option R_ := H.e P_ [r,r,l,r,d] (t4 b f g a)
theorem e6 : x6 = Qx := by kernel_rfl
theorem i4 (b : Int) : ∀ (q : Nat) (f : UInt64) (g : Int) (a : LB), z4 q (t4 b f g a) = Eh b q f g a :=
 ind (fun _ _ _ => by kernel_rfl) fun q ih f g a => Eq.trans (b := Kb x6 (fun f g a => (z4 q) (t4 b f g a)) b f g a) (by kernel_rfl) (by simp only [e6, ih] <;> rfl)
theorem e4 : x4 = Rk := by funext b f g a; exact Eq.trans (by kernel_rfl) ((i4 b Bv f g a).trans (by rw [Am]; rfl))
noncomputable def F := u2 Cr
theorem rn x : H.u P_ x = F x := Eq.trans (b := u2 (Qz x4) x) (by kernel_rfl) (by simp only [e4] <;> rfl)
noncomputable def c : Con := ⟨H.p, H.r, F⟩
theorem ok : ConOk P_ gl 166 c := co H func166 .nil rn
end F166
namespace F246
noncomputable def H : Hd := ⟨[Si, Si, Sq], [Ob 5], .d, ⟨[(166, F166.c)], gl, false⟩, [], f246⟩
noncomputable def F := u3 Lw
theorem rn x : H.u P_ x = F x := by kernel_rfl
noncomputable def c : Con := ⟨H.p, H.r, F⟩
theorem ok : ConOk P_ gl 246 c := co H func246 (.cons F166.ok .nil) rn
end F246
namespace F183
noncomputable def H : Hd := ⟨[Si, Si], [Ob 5], .d, ⟨[(246, F246.c)], gl, false⟩, [], f183⟩
noncomputable def F := u2 Pf
theorem rn x : H.u P_ x = F x := by kernel_rfl
noncomputable def c : Con := ⟨H.p, H.r, F⟩
theorem ok : ConOk P_ gl 183 c := co H func183 (.cons F246.ok .nil) rn
end F183
namespace F182
noncomputable def H : Hd := ⟨[Si, Si, Sz], [Ob 5], .d, ⟨[(246, F246.c)], gl, false⟩, [], f182⟩
noncomputable def F := u3 De
theorem rn x : H.u P_ x = F x := by kernel_rfl
noncomputable def c : Con := ⟨H.p, H.r, F⟩
theorem ok : ConOk P_ gl 182 c := co H func182 (.cons F246.ok .nil) rn
end F182
namespace F217
abbrev R_ := (Int × Int)
noncomputable def H : Hd := ⟨[Sb], [Si, Si], (.seq .d (.cut [0] [] .d (.seq .d (.seq .d (.cut [0, 4, 5] [] .d .d))))), ⟨[(181, F181.c), (182, F182.c), (183, F183.c)], gl, false⟩, [], f217⟩
def x4 (a : LB) (b f : Int) : Option R_ := H.e P_ [r,r,r,r,r] ⟨[(0, vb a), (4, vi b), (5, vi f)], [], []⟩
def x3 (a : LB) : Option R_ := H.e P_ [r,r] ⟨[(0, vb a)], [], []⟩
theorem e4 : x4 = Vm := by kernel_rfl
theorem e3 : x3 = Vo := Eq.trans (b := Vu x4) (by kernel_rfl) (by simp only [e4] <;> rfl)
noncomputable def F := Tj
theorem rn x : H.u P_ x = F x := Eq.trans (b := Uy x3 x) (by kernel_rfl) (by simp only [e3] <;> rfl)
noncomputable def c : Con := ⟨H.p, H.r, F⟩
theorem ok : ConOk P_ gl 217 c := co H func217 (.cons F181.ok (.cons F182.ok (.cons F183.ok .nil))) rn
end F217
namespace F144
abbrev R_ := (LI × Int)
abbrev K_ := S → Option R_
noncomputable def H : Hd := ⟨[Sb], [Ol 3, Si], (.seq .d (.seq .d (.seq .d (.blk (.loop [0, 4, 5] [⟨4, [], .own 3 (.int .i64)⟩] (.blk (.seq .d (.cut [0, 4, 5, 6, 7] [] .d .d)))))))), ⟨[(216, F216.c), (217, F217.c)], gl, false⟩, [], f144⟩
def t6 (a : LB) (b : Int) (f : LI) : S := ⟨[(0, vb a), (4, .own 0), (5, vi b)], [Ai 3 f], []⟩
def z6 : Nat → S → Option R_ := H.i P_ [r,r,r,d]
def x9 (kn6 : K_) (a : LB) (b : Int) (f : LI) (g h : Int) : Option R_ := H.e P_ [r,r,r,d,(lp kn6),d,r,r] ⟨[(0, vb a), (4, .own 0), (5, vi b), (6, vi g), (7, vi h)], [Ai 3 f], []⟩
def x6 (a : LB) (b : Int) (f : LI) : Option R_ := H.e P_ [r,r,r,d] (t6 a b f)
theorem e9 (kn6 : K_) (a : LB) : x9 kn6 a = Iw (fun b f => kn6 (t6 a b f)) a := by kernel_rfl
theorem i6 (a : LB) : ∀ (q : Nat) (b : Int) (f : LI), z6 q (t6 a b f) = Iu a q b f :=
 ind (fun _ _ => by kernel_rfl) fun q ih b f => Eq.trans (b := Ng (x9 (z6 q) a) a b f) (by kernel_rfl) (by simp only [e9, ih] <;> rfl)
theorem e6 : x6 = Ad6 := by funext a b f; exact Eq.trans (by kernel_rfl) ((i6 a Bv b f).trans (by rw [Am]; rfl))
noncomputable def F := Aa2
theorem rn x : H.u P_ x = F x := Eq.trans (b := Ad5 x6 x) (by kernel_rfl) (by simp only [e6] <;> rfl)
noncomputable def c : Con := ⟨H.p, H.r, F⟩
theorem ok : ConOk P_ gl 144 c := co H func144 (.cons F216.ok (.cons F217.ok .nil)) rn
end F144
namespace F90
abbrev R_ := (Int × Int)
noncomputable def H : Hd := ⟨[Sb], [Si, Si], (.seq .d (.seq .d (.seq .d (.cut [5, 6] [] (.seq .d (.blk (.loop [4, 5, 6, 7] [] .d))) .d)))), ⟨[(144, F144.c)], gl, false⟩, [], f90⟩
def t4 (a : Int) (f : LI) (b g : Int) : S := ⟨[(4, .own 0), (5, vi a), (6, vi b), (7, vi g)], [Ai 3 f], []⟩
def z4 : Nat → S → Option R_ := H.i P_ [r,r,r,l,r,d]
def x6 (a b : Int) : Option R_ := H.e P_ [r,r,r,r] ⟨[(5, vi a), (6, vi b)], [], []⟩
def x4 (a : Int) (f : LI) (b g : Int) : Option R_ := H.e P_ [r,r,r,l,r,d] (t4 a f b g)
theorem e6 : x6 = Uw := by kernel_rfl
theorem i4 (a : Int) (f : LI) : ∀ (q : Nat) (b g : Int), z4 q (t4 a f b g) = Ga a f q b g :=
 ind (fun _ _ => by kernel_rfl) fun q ih b g => Eq.trans (b := Nd x6 (fun b g => (z4 q) (t4 a f b g)) a f b g) (by kernel_rfl) (by simp only [e6, ih] <;> rfl)
theorem e4 : x4 = Mq := by funext a f b g; exact Eq.trans (by kernel_rfl) ((i4 a f Bv b g).trans (by rw [Am]; rfl))
noncomputable def F := Mn
theorem rn x : H.u P_ x = F x := Eq.trans (b := Uv x4 x) (by kernel_rfl) (by simp only [e4] <;> rfl)
noncomputable def c : Con := ⟨H.p, H.r, F⟩
theorem ok : ConOk P_ gl 90 c := co H func90 (.cons F144.ok .nil) rn
end F90
namespace F136
noncomputable def H : Hd := ⟨[Sb, Ss], [Sz], .d, ⟨[], gl, false⟩, [], f136⟩
noncomputable def F := u2 Kx
theorem rn x : H.u P_ x = F x := by kernel_rfl
noncomputable def c : Con := ⟨H.p, H.r, F⟩
theorem ok : ConOk P_ gl 136 c := co H func136 .nil rn
end F136
namespace F292
abbrev R_ := UInt32
noncomputable def H : Hd := ⟨[Su, Si], [Su], (.seq .d (.seq .d (.cut [0, 5] [] .d .d))), ⟨[], gl, false⟩, [], f292⟩
def x2 (a : UInt32) (b : Bool) : Option R_ := H.e P_ [r,r,r] ⟨[(0, vu a), (5, vt b)], [], []⟩
theorem e2 : x2 = Xw := by kernel_rfl
noncomputable def F := u2 Vy
theorem rn x : H.u P_ x = F x := Eq.trans (b := u2 (Yh x2) x) (by kernel_rfl) (by simp only [e2] <;> rfl)
noncomputable def c : Con := ⟨H.p, H.r, F⟩
theorem ok : ConOk P_ gl 292 c := co H func292 .nil rn
end F292
namespace F263
abbrev R_ := UInt32
noncomputable def H : Hd := ⟨[Su, Sc], [Su], (.seq .d (.cut [0] [] (.seq .d (.blk (.loop [0, 1, 5] [] .d))) .d)), ⟨[(292, F292.c)], gl, false⟩, [], f263⟩
def t4 (a : UInt32) (b : UInt8) (f : Int) : S := ⟨[(0, vu a), (1, vc b), (5, vi f)], [], []⟩
def z4 : Nat → S → Option R_ := H.i P_ [r,l,r,d]
def x6 (a : UInt32) : Option R_ := H.e P_ [r,r] ⟨[(0, vu a)], [], []⟩
def x4 (a : UInt32) (b : UInt8) (f : Int) : Option R_ := H.e P_ [r,l,r,d] (t4 a b f)
theorem e6 : x6 = Yc := by kernel_rfl
theorem i4 : ∀ (q : Nat) (a : UInt32) (b : UInt8) (f : Int), z4 q (t4 a b f) = He q a b f :=
 ind (fun _ _ _ => by kernel_rfl) fun q ih a b f => Eq.trans (b := Ox x6 (fun a b f => (z4 q) (t4 a b f)) a b f) (by kernel_rfl) (by simp only [e6, ih] <;> rfl)
theorem e4 : x4 = Afl := by funext a b f; exact Eq.trans (by kernel_rfl) ((i4 Bv a b f).trans (by rw [Am]; rfl))
noncomputable def F := u2 Ac4
theorem rn x : H.u P_ x = F x := Eq.trans (b := u2 (Afk x4) x) (by kernel_rfl) (by simp only [e4] <;> rfl)
noncomputable def c : Con := ⟨H.p, H.r, F⟩
theorem ok : ConOk P_ gl 263 c := co H func263 (.cons F292.ok .nil) rn
end F263
namespace F218
abbrev R_ := UInt32
noncomputable def H : Hd := ⟨[Su, Sb], [Su], (.seq .d (.cut [0] [] (.seq .d (.blk (.loop [0, 1, 5] [] .d))) .d)), ⟨[(263, F263.c)], gl, false⟩, [], f218⟩
def t4 (b : LB) (a : UInt32) (f : Int) : S := ⟨[(0, vu a), (1, vb b), (5, vi f)], [], []⟩
def z4 : Nat → S → Option R_ := H.i P_ [r,l,r,d]
def x6 (a : UInt32) : Option R_ := H.e P_ [r,r] ⟨[(0, vu a)], [], []⟩
def x4 (b : LB) (a : UInt32) (f : Int) : Option R_ := H.e P_ [r,l,r,d] (t4 b a f)
theorem e6 : x6 = Tc := by kernel_rfl
theorem i4 (b : LB) : ∀ (q : Nat) (a : UInt32) (f : Int), z4 q (t4 b a f) = Fc b q a f :=
 ind (fun _ _ => by kernel_rfl) fun q ih a f => Eq.trans (b := Lp x6 (fun a f => (z4 q) (t4 b a f)) b a f) (by kernel_rfl) (by simp only [e6, ih] <;> rfl)
theorem e4 : x4 = Tv := by funext b a f; exact Eq.trans (by kernel_rfl) ((i4 b Bv a f).trans (by rw [Am]; rfl))
noncomputable def F := u2 Ze
theorem rn x : H.u P_ x = F x := Eq.trans (b := u2 (Ts x4) x) (by kernel_rfl) (by simp only [e4] <;> rfl)
noncomputable def c : Con := ⟨H.p, H.r, F⟩
theorem ok : ConOk P_ gl 218 c := co H func218 (.cons F263.ok .nil) rn
end F218
namespace F146
noncomputable def H : Hd := ⟨[Sb], [Su], .d, ⟨[(218, F218.c)], gl, false⟩, [], f146⟩
noncomputable def F := Nw
theorem rn x : H.u P_ x = F x := by kernel_rfl
noncomputable def c : Con := ⟨H.p, H.r, F⟩
theorem ok : ConOk P_ gl 146 c := co H func146 (.cons F218.ok .nil) rn
end F146
namespace F91
def Vc (j6 : UInt64 → UInt64 → UInt64 → UInt64 → UInt64 → Option (Int × Int × Int × Int × Int × Int)) (a : LB) : Option (Int × Int × Int × Int × Int × Int) :=
(Bb a 4 6).bind fun u =>
(Bb a 6 8).bind fun p =>
(Bb a 8 10).bind fun o =>
(Bb a 10 14).bind fun n =>
(Bb a 14 18).bind fun m =>
both (
(Ak u).bind fun k =>
both (
(Ak p).bind fun h =>
both (
(Ak o).bind fun g =>
both (
(Ak n).bind fun f =>
both (
(Ak m).bind fun b =>
bo (
j6 k h g f b)) [
(Ak m).bind fun b =>
j6 k h g f b]) [
(Ak n).bind fun f =>
(Ak m).bind fun b =>
j6 k h g f b]) [
(Ak o).bind fun g =>
(Ak n).bind fun f =>
(Ak m).bind fun b =>
j6 k h g f b]) [
(Ak p).bind fun h =>
(Ak o).bind fun g =>
(Ak n).bind fun f =>
(Ak m).bind fun b =>
j6 k h g f b]) [
(Ak u).bind fun k =>
(Ak p).bind fun h =>
(Ak o).bind fun g =>
(Ak n).bind fun f =>
(Ak m).bind fun b =>
j6 k h g f b]
theorem All : @Vc = @Pj := by
  unfold Vc Pj
  repeat (refine funext fun _ => ?_)
  repeat' first
    | with_reducible rfl
    | with_reducible refine Ev ?_ ?_
    | with_reducible refine Eu ?_ ?_ ?_
    | with_reducible refine En ?_ ?_ ?_ ?_
    | ((with_reducible refine Hm ?_ ?_); focus (intro h; first | (subst h; rfl) | (simp only [h]; rfl) | (simp [Db, Ac, h]; done)))
    | with_reducible refine Hu fun x => ?_
    | with_reducible refine Mi (fun _ => ?_) (fun _ => ?_)
    | (refine Cd (fun h => by simp only [h, Hx, Br, Bm, ite_self]) (fun x h => ?_); (try simp only [h, Br]))
    | (refine Da (fun h => ?_) (fun h => ?_) <;> simp only [h, if_true, if_false, Bool.false_eq_true])
abbrev R_ := (Int × Int × Int × Int × Int × Int)
noncomputable def H : Hd := ⟨[Sb], [.agg [Si, Si, Si, Si, Si], Si], (.seq .d (.seq .d (.cut [0, 2] [] .d (.seq .d (.cut [0, 2] [] .d (.cut [2, 5] [] .d .d)))))), ⟨[(132, F132.c), (133, F133.c), (145, F145.c), (146, F146.c)], gl, false⟩, [], f91⟩
def x6 (k h g f b : UInt64) : Option R_ := H.e P_ [r,r,r,r,r,r] ⟨[(2, .ptr 0 []), (5, .ptr 1 [])], [.box 24 (.agg [vi 0, vi 0, vi 0, vi 0, vi 0]), .box 24 (.agg [vi (Ad k : Int), vi (Ad h : Int), vi (Ad g : Int), vi (Ad f : Int), vi (Ad b : Int)])], []⟩
def x5 (a : LB) : Option R_ := H.e P_ [r,r,r,r,r] ⟨[(0, vb a), (2, .ptr 0 [])], [.box 24 (.agg [vi 0, vi 0, vi 0, vi 0, vi 0])], []⟩
def x4 (a : LB) : Option R_ := H.e P_ [r,r,r] ⟨[(0, vb a), (2, .ptr 0 [])], [.box 24 (.agg [vi 0, vi 0, vi 0, vi 0, vi 0])], []⟩
theorem e6 : x6 = Xz := by kernel_rfl
theorem e5 : x5 = Xr := Eq.trans (b := Vc x6) (by kernel_rfl) (by rw [All]; simp only [e6] <;> rfl)
theorem e4 : x4 = Xc := Eq.trans (b := Xf x5) (by kernel_rfl) (by simp only [e5] <;> rfl)
noncomputable def F := Oz
theorem rn x : H.u P_ x = F x := Eq.trans (b := Xg x4 x) (by kernel_rfl) (by simp only [e4] <;> rfl)
noncomputable def c : Con := ⟨H.p, H.r, F⟩
theorem ok : ConOk P_ gl 91 c := co H func91 (.cons F132.ok (.cons F133.ok (.cons F145.ok (.cons F146.ok .nil)))) rn
end F91
namespace F85
abbrev R_ := (Int × Int × Int × Int × Int × Int × Int)
noncomputable def H : Hd := ⟨[Sb], [Si, .agg [Si, Si, Si, Si, Si], Si], (.seq .d (.seq .d (.seq .d (.seq .d (.seq .d (.cut [3, 5, 7] [] .d (.seq .d (.seq .d (.seq (.mode false) .d))))))))), ⟨[(90, F90.c), (91, F91.c), (136, F136.c)], gl, false⟩, [], f85⟩
def x2 (b : Int) (a : LB) : Option R_ := H.e P_ [r,r,r,r,r,r] ⟨[(3, .ptr 0 []), (5, vi b), (7, vb a)], [.box 24 (.agg [vi 0, vi 0, vi 0, vi 0, vi 0])], []⟩
theorem e2 : x2 = Rm := by kernel_rfl
noncomputable def F := Jo
theorem rn x : H.u P_ x = F x := Eq.trans (b := Rb x2 x) (by kernel_rfl) (by simp only [e2] <;> rfl)
noncomputable def c : Con := ⟨H.p, H.r, F⟩
theorem ok : ConOk P_ gl 85 c := co H func85 (.cons F90.ok (.cons F91.ok (.cons F136.ok .nil))) rn
end F85
namespace F298
abbrev R_ := UInt64
noncomputable def H : Hd := ⟨[Sq, Si], [Sq], (.seq .d (.seq .d (.cut [0, 5] [] .d .d))), ⟨[], gl, false⟩, [], f298⟩
def x2 (a : UInt64) (b : Bool) : Option R_ := H.e P_ [r,r,r] ⟨[(0, vq a), (5, vt b)], [], []⟩
theorem e2 : x2 = Nz := by kernel_rfl
noncomputable def F := u2 Vw
theorem rn x : H.u P_ x = F x := Eq.trans (b := u2 (Wt x2) x) (by kernel_rfl) (by simp only [e2] <;> rfl)
noncomputable def c : Con := ⟨H.p, H.r, F⟩
theorem ok : ConOk P_ gl 298 c := co H func298 .nil rn
end F298
namespace F272
abbrev R_ := UInt64
noncomputable def H : Hd := ⟨[Sq, Sc], [Sq], (.seq .d (.cut [0] [] (.seq .d (.blk (.loop [0, 1, 5] [] .d))) .d)), ⟨[(298, F298.c)], gl, false⟩, [], f272⟩
def t4 (b : UInt8) (a : UInt64) (f : Int) : S := ⟨[(0, vq a), (1, vc b), (5, vi f)], [], []⟩
def z4 : Nat → S → Option R_ := H.i P_ [r,l,r,d]
def x6 (a : UInt64) : Option R_ := H.e P_ [r,r] ⟨[(0, vq a)], [], []⟩
def x4 (b : UInt8) (a : UInt64) (f : Int) : Option R_ := H.e P_ [r,l,r,d] (t4 b a f)
theorem e6 : x6 = Xs := by kernel_rfl
theorem i4 (b : UInt8) : ∀ (q : Nat) (a : UInt64) (f : Int), z4 q (t4 b a f) = Ha b q a f :=
 ind (fun _ _ => by kernel_rfl) fun q ih a f => Eq.trans (b := Oo x6 (fun a f => (z4 q) (t4 b a f)) b a f) (by kernel_rfl) (by simp only [e6, ih] <;> rfl)
theorem e4 : x4 = Agi := by funext b a f; exact Eq.trans (by kernel_rfl) ((i4 b Bv a f).trans (by rw [Am]; rfl))
noncomputable def F := u2 Ab8
theorem rn x : H.u P_ x = F x := Eq.trans (b := u2 (Afo x4) x) (by kernel_rfl) (by simp only [e4] <;> rfl)
noncomputable def c : Con := ⟨H.p, H.r, F⟩
theorem ok : ConOk P_ gl 272 c := co H func272 (.cons F298.ok .nil) rn
end F272
namespace F233
abbrev R_ := UInt64
noncomputable def H : Hd := ⟨[Sq, Sb], [Sq], (.seq .d (.cut [0] [] (.seq .d (.blk (.loop [0, 1, 5] [] .d))) .d)), ⟨[(272, F272.c)], gl, false⟩, [], f233⟩
def t4 (b : LB) (a : UInt64) (f : Int) : S := ⟨[(0, vq a), (1, vb b), (5, vi f)], [], []⟩
def z4 : Nat → S → Option R_ := H.i P_ [r,l,r,d]
def x6 (a : UInt64) : Option R_ := H.e P_ [r,r] ⟨[(0, vq a)], [], []⟩
def x4 (b : LB) (a : UInt64) (f : Int) : Option R_ := H.e P_ [r,l,r,d] (t4 b a f)
theorem e6 : x6 = Sk := by kernel_rfl
theorem i4 (b : LB) : ∀ (q : Nat) (a : UInt64) (f : Int), z4 q (t4 b a f) = Fb b q a f :=
 ind (fun _ _ => by kernel_rfl) fun q ih a f => Eq.trans (b := Lo x6 (fun a f => (z4 q) (t4 b a f)) b a f) (by kernel_rfl) (by simp only [e6, ih] <;> rfl)
theorem e4 : x4 = Ado := by funext b a f; exact Eq.trans (by kernel_rfl) ((i4 b Bv a f).trans (by rw [Am]; rfl))
noncomputable def F := u2 Qe
theorem rn x : H.u P_ x = F x := Eq.trans (b := u2 (Ac7 x4) x) (by kernel_rfl) (by simp only [e4] <;> rfl)
noncomputable def c : Con := ⟨H.p, H.r, F⟩
theorem ok : ConOk P_ gl 233 c := co H func233 (.cons F272.ok .nil) rn
end F233
namespace F167
noncomputable def H : Hd := ⟨[Ss], [Sq], .d, ⟨[(233, F233.c)], gl, false⟩, [], f167⟩
noncomputable def F := Adi
theorem rn x : H.u P_ x = F x := by kernel_rfl
noncomputable def c : Con := ⟨H.p, H.r, F⟩
theorem ok : ConOk P_ gl 167 c := co H func167 (.cons F233.ok .nil) rn
end F167
namespace F104
noncomputable def H : Hd := ⟨[Ss], [Ob 5], .d, ⟨[(166, F166.c), (167, F167.c)], gl, false⟩, [], f104⟩
noncomputable def F := Ou
theorem rn x : H.u P_ x = F x := by kernel_rfl
noncomputable def c : Con := ⟨H.p, H.r, F⟩
theorem ok : ConOk P_ gl 104 c := co H func104 (.cons F166.ok (.cons F167.ok .nil)) rn
end F104
namespace F105
abbrev R_ := (LI × Int)
noncomputable def H : Hd := ⟨[Sb, Si], [Ol 3, Si], (.seq .d (.seq .d (.seq .d (.cut [0, 1] [] .d (.seq .d (.cut [6] [] (.seq .d (.blk (.loop [0, 1, 6, 7] [⟨6, [], .own 3 (.int .i64)⟩] .d))) .d)))))), ⟨[(82, F82.c), (145, F145.c), (146, F146.c)], gl, false⟩, [], f105⟩
def t6 (b : LB) (a g : Int) (f : LI) : S := ⟨[(0, vb b), (1, vi a), (6, .own 0), (7, vi g)], [Ai 3 f], []⟩
def z6 : Nat → S → Option R_ := H.i P_ [r,r,r,r,r,l,r,d]
def x8 (f : LI) : Option R_ := H.e P_ [r,r,r,r,r,r] ⟨[(6, .own 0)], [Ai 3 f], []⟩
def x6 (b : LB) (a g : Int) (f : LI) : Option R_ := H.e P_ [r,r,r,r,r,l,r,d] (t6 b a g f)
def x5 (b : LB) (a : Int) : Option R_ := H.e P_ [r,r,r,r] ⟨[(0, vb b), (1, vi a)], [], []⟩
theorem e8 : x8 = Od := by kernel_rfl
theorem i6 (b : LB) (a : Int) : ∀ (q : Nat) (g : Int) (f : LI), z6 q (t6 b a g f) = Hi b a q g f :=
 ind (fun _ _ => by kernel_rfl) fun q ih g f => Eq.trans (b := Oy x8 (fun g f => (z6 q) (t6 b a g f)) b a g f) (by kernel_rfl) (by simp only [e8, ih] <;> rfl)
theorem e6 : x6 = Xx := by funext b a g f; exact Eq.trans (by kernel_rfl) ((i6 b a Bv g f).trans (by rw [Am]; rfl))
theorem e5 : x5 = Yi := Eq.trans (b := Wu x6) (by kernel_rfl) (by simp only [e6] <;> rfl)
noncomputable def F := u2 Wm
theorem rn x : H.u P_ x = F x := Eq.trans (b := u2 (Yg x5) x) (by kernel_rfl) (by simp only [e5] <;> rfl)
noncomputable def c : Con := ⟨H.p, H.r, F⟩
theorem ok : ConOk P_ gl 105 c := co H func105 (.cons F82.ok (.cons F145.ok (.cons F146.ok .nil))) rn
end F105
namespace F86
abbrev R_ := (Int × LI × Int)
noncomputable def H : Hd := ⟨[Sb, .agg [Si, Si, Si, Si, Si], Ss], [Si, Ol 3, Si], (.seq .d (.seq .d (.cut [0, 4, 9] [] .d (.cut [9, 10, 11] [] .d .d)))), ⟨[(83, F83.c), (104, F104.c), (105, F105.c)], gl, false⟩, [], f86⟩
def x4 (b g : Int) (h : LI) : Option R_ := H.e P_ [r,r,r,r] ⟨[(9, vi b), (10, .own 0), (11, vi g)], [Ai 3 h], []⟩
def x3 (a : LB) (f k m n o b : Int) : Option R_ := H.e P_ [r,r,r] ⟨[(0, vb a), (4, .ptr 0 []), (9, vi b)], [.box 24 (.agg [vi f, vi k, vi m, vi n, vi o])], []⟩
theorem e4 : x4 = Uc := by kernel_rfl
theorem e3 : x3 = Fe := Eq.trans (b := Tq x4) (by kernel_rfl) (by simp only [e4] <;> rfl)
noncomputable def F := u7 Kw
theorem rn x : H.u P_ x = F x := Eq.trans (b := u7 (Ln x3) x) (by kernel_rfl) (by simp only [e3] <;> rfl)
noncomputable def c : Con := ⟨H.p, H.r, F⟩
theorem ok : ConOk P_ gl 86 c := co H func86 (.cons F83.ok (.cons F104.ok (.cons F105.ok .nil))) rn
end F86
namespace F168
noncomputable def H : Hd := ⟨[Sq, Sb], [Sq, Si], .d, ⟨[(233, F233.c)], gl, false⟩, [], f168⟩
noncomputable def F := u2 Acp
theorem rn x : H.u P_ x = F x := by kernel_rfl
noncomputable def c : Con := ⟨H.p, H.r, F⟩
theorem ok : ConOk P_ gl 168 c := co H func168 (.cons F233.ok .nil) rn
end F168
namespace F107
noncomputable def H : Hd := ⟨[Sb], [Sq, Si], .d, ⟨[(168, F168.c)], gl, false⟩, [], f107⟩
noncomputable def F := Ae4
theorem rn x : H.u P_ x = F x := by kernel_rfl
noncomputable def c : Con := ⟨H.p, H.r, F⟩
theorem ok : ConOk P_ gl 107 c := co H func107 (.cons F168.ok .nil) rn
end F107
namespace F108
abbrev R_ := LX
abbrev K_ := S → Option R_
noncomputable def H : Hd := ⟨[Sq], [.lf (.vec 16 (.int .i32)) none], (.seq .d (.seq .d (.cut [2, 3] [] (.seq .d (.blk (.loop [0, 2, 3, 4] [] (.seq .d (.seq (.blk (.seq .d (.cut [0, 2, 3, 4, 5] [] .d .d))) .d))))) .d))), ⟨[], gl, false⟩, [], f108⟩
def t6 (b : UInt64) (f : Int) (a : LX) : S := ⟨[(0, vq b), (2, .ptr 0 []), (3, .ptr 1 []), (4, vi f)], [.box 95 (.val (.vec 16 (.int .i32)) (List.replicate 16 (0 : Int32))), .box 95 (.val (.vec 16 (.int .i32)) a)], []⟩
def z6 : Nat → S → Option R_ := H.i P_ [r,r,l,r,d]
def x10 (a : LX) : Option R_ := H.e P_ [r,r,r] ⟨[(2, .ptr 0 []), (3, .ptr 1 [])], [.box 95 (.val (.vec 16 (.int .i32)) (List.replicate 16 (0 : Int32))), .box 95 (.val (.vec 16 (.int .i32)) a)], []⟩
def x8 (kn6 : K_) (b : UInt64) (f : Int) (a : LX) (g : Int32) : Option R_ := H.e P_ [r,r,l,r,d,(lp kn6),r,l,d,r,r] ⟨[(0, vq b), (2, .ptr 0 []), (3, .ptr 1 []), (4, vi f), (5, vx g)], [.box 95 (.val (.vec 16 (.int .i32)) (List.replicate 16 (0 : Int32))), .box 95 (.val (.vec 16 (.int .i32)) a)], []⟩
def x6 (b : UInt64) (f : Int) (a : LX) : Option R_ := H.e P_ [r,r,l,r,d] (t6 b f a)
theorem e10 : x10 = Ahe := by kernel_rfl
theorem e8 (kn6 : K_) : x8 kn6 = Sn (fun b f a => kn6 (t6 b f a)) := by kernel_rfl
theorem i6 : ∀ (q : Nat) (b : UInt64) (f : Int) (a : LX), z6 q (t6 b f a) = Gt q b f a :=
 ind (fun _ _ _ => by kernel_rfl) fun q ih b f a => Eq.trans (b := Sr (x8 (z6 q)) x10 b f a) (by kernel_rfl) (by simp only [e8, e10, ih] <;> rfl)
theorem e6 : x6 = Ajk := by funext b f a; exact Eq.trans (by kernel_rfl) ((i6 Bv b f a).trans (by rw [Am]; rfl))
noncomputable def F := Agz
theorem rn x : H.u P_ x = F x := Eq.trans (b := Ajv x6 x) (by kernel_rfl) (by simp only [e6] <;> rfl)
noncomputable def c : Con := ⟨H.p, H.r, F⟩
theorem ok : ConOk P_ gl 108 c := co H func108 .nil rn
end F108
namespace F61
noncomputable def H : Hd := ⟨[Ss], [.lf (.vec 16 (.int .i32)) none, Si], .d, ⟨[(107, F107.c), (108, F108.c)], gl, false⟩, [], f61⟩
noncomputable def F := Wp
theorem rn x : H.u P_ x = F x := by kernel_rfl
noncomputable def c : Con := ⟨H.p, H.r, F⟩
theorem ok : ConOk P_ gl 61 c := co H func61 (.cons F107.ok (.cons F108.ok .nil)) rn
end F61
namespace F234
noncomputable def H : Hd := ⟨[Si], [Si], .d, ⟨[], gl, false⟩, [], f234⟩
noncomputable def F := Kl
theorem rn x : H.u P_ x = F x := by kernel_rfl
noncomputable def c : Con := ⟨H.p, H.r, F⟩
theorem ok : ConOk P_ gl 234 c := co H func234 .nil rn
end F234
namespace F169
noncomputable def H : Hd := ⟨[.agg [Si, Si]], [Si], .d, ⟨[(234, F234.c)], gl, false⟩, [], f169⟩
noncomputable def F := u2 Sy
theorem rn x : H.u P_ x = F x := by kernel_rfl
noncomputable def c : Con := ⟨H.p, H.r, F⟩
theorem ok : ConOk P_ gl 169 c := co H func169 (.cons F234.ok .nil) rn
end F169
namespace F109
noncomputable def H : Hd := ⟨[.agg [Si, Si], Si], [Si], .d, ⟨[(169, F169.c)], gl, false⟩, [], f109⟩
noncomputable def F := u3 Ja
theorem rn x : H.u P_ x = F x := by kernel_rfl
noncomputable def c : Con := ⟨H.p, H.r, F⟩
theorem ok : ConOk P_ gl 109 c := co H func109 (.cons F169.ok .nil) rn
end F109
namespace F170
noncomputable def H : Hd := ⟨[Sb], [Ob 5], .d, ⟨[(146, F146.c)], gl, false⟩, [], f170⟩
noncomputable def F := Ql
theorem rn x : H.u P_ x = F x := by kernel_rfl
noncomputable def c : Con := ⟨H.p, H.r, F⟩
theorem ok : ConOk P_ gl 170 c := co H func170 (.cons F146.ok .nil) rn
end F170
namespace F110
noncomputable def H : Hd := ⟨[Sb], [Si], .d, ⟨[(170, F170.c)], gl, false⟩, [], f110⟩
noncomputable def F := Ld
theorem rn x : H.u P_ x = F x := by kernel_rfl
noncomputable def c : Con := ⟨H.p, H.r, F⟩
theorem ok : ConOk P_ gl 110 c := co H func110 (.cons F170.ok .nil) rn
end F110
namespace F171
noncomputable def H : Hd := ⟨[], [.agg [Si, Si, Sq, Sq]], .d, ⟨[], gl, false⟩, [], f171⟩
noncomputable def F (x : Unit) := Iy
theorem rn x : H.u P_ x = F x := by kernel_rfl
noncomputable def c : Con := ⟨H.p, H.r, F⟩
theorem ok : ConOk P_ gl 171 c := co H func171 .nil rn
end F171
namespace F239
abbrev R_ := UInt64
noncomputable def H : Hd := ⟨[Si], [Sq], (.seq .d (.seq .d (.cut [3] [] (.seq .d (.blk (.loop [0, 3, 4] [] .d))) .d))), ⟨[], gl, false⟩, [], f239⟩
def t4 (b : Int) (a : UInt64) (f : Int) : S := ⟨[(0, vi b), (3, vq a), (4, vi f)], [], []⟩
def z4 : Nat → S → Option R_ := H.i P_ [r,r,l,r,d]
def x6 (a : UInt64) : Option R_ := H.e P_ [r,r,r] ⟨[(3, vq a)], [], []⟩
def x4 (b : Int) (a : UInt64) (f : Int) : Option R_ := H.e P_ [r,r,l,r,d] (t4 b a f)
theorem e6 : x6 = Adv := by kernel_rfl
theorem i4 (b : Int) : ∀ (q : Nat) (a : UInt64) (f : Int), z4 q (t4 b a f) = Gh b q a f :=
 ind (fun _ _ => by kernel_rfl) fun q ih a f => Eq.trans (b := Mw x6 (fun a f => (z4 q) (t4 b a f)) b a f) (by kernel_rfl) (by simp only [e6, ih] <;> rfl)
theorem e4 : x4 = Aeb := by funext b a f; exact Eq.trans (by kernel_rfl) ((i4 b Bv a f).trans (by rw [Am]; rfl))
noncomputable def F := Dm
theorem rn x : H.u P_ x = F x := Eq.trans (b := Aec x4 x) (by kernel_rfl) (by simp only [e4] <;> rfl)
noncomputable def c : Con := ⟨H.p, H.r, F⟩
theorem ok : ConOk P_ gl 239 c := co H func239 .nil rn
end F239
namespace F273
noncomputable def H : Hd := ⟨[.agg [Si, Si, Sq, Sq], Su], [Sz], .d, ⟨[(239, F239.c)], gl, false⟩, [], f273⟩
noncomputable def F := u5 Qw
theorem rn x : H.u P_ x = F x := by kernel_rfl
noncomputable def c : Con := ⟨H.p, H.r, F⟩
theorem ok : ConOk P_ gl 273 c := co H func273 (.cons F239.ok .nil) rn
end F273
namespace F275
noncomputable def H : Hd := ⟨[.agg [Si, Si, Sq, Sq], Su], [Su], .d, ⟨[(239, F239.c)], gl, false⟩, [], f275⟩
noncomputable def F := u5 Kk
theorem rn x : H.u P_ x = F x := by kernel_rfl
noncomputable def c : Con := ⟨H.p, H.r, F⟩
theorem ok : ConOk P_ gl 275 c := co H func275 (.cons F239.ok .nil) rn
end F275
namespace F274
abbrev R_ := (Int × UInt64)
noncomputable def H : Hd := ⟨[Si, Sq, Sq], [Si, Sq], (.seq .d (.seq .d (.cut [0, 1] [] .d .d))), ⟨[(239, F239.c)], gl, false⟩, [], f274⟩
def x2 (b : Int) (a f : UInt64) : Option R_ := H.e P_ [r,r,r] ⟨[(0, vi b), (1, vq (Ao (Af a f) (Cn a (16 : UInt64))))], [], []⟩
theorem e2 : x2 = Om := by kernel_rfl
noncomputable def F := u3 Hs
theorem rn x : H.u P_ x = F x := Eq.trans (b := u3 (Xt x2) x) (by kernel_rfl) (by simp only [e2] <;> rfl)
noncomputable def c : Con := ⟨H.p, H.r, F⟩
theorem ok : ConOk P_ gl 274 c := co H func274 (.cons F239.ok .nil) rn
end F274
namespace F235
def Ra (j2 : UInt32 → Int → Int → UInt64 → UInt64 → Int → UInt64 → Option (Int × Int × UInt64 × UInt64)) (f a : Int) (g b : UInt64) (h : UInt32) : Option (Int × Int × UInt64 × UInt64) :=
(Qw f a g b h).bind fun u =>
if (!u) then
(fun w : Option (Int × Int × UInt64 × UInt64) =>
(fun v : Option (Int × Int × UInt64 × UInt64) =>
(fun y : Option (Int × Int × UInt64 × UInt64) =>
both (
y) [
y,
both (
v) [
v,
(Kk f a g b h).bind fun k =>
(fun ac : Option (Int × Int × UInt64 × UInt64) =>
bo (
ac)) (
(Hs a b (Ad k : UInt64)).bind fun (m, n) =>
j2 h f a g b m n)]]) (
both (
w) [
v])) (
bo (
w))) (
(Kk f a g b h).bind fun k =>
(Hs a b (Ad k : UInt64)).bind fun (m, n) =>
j2 h f a g b m n)
else
j2 h f a g b a b
theorem Aju : @Ra = @Lr := by
  unfold Ra Lr
  try simp only [Af8, Xd, Xe]
  all_goals
    repeat (refine funext fun _ => ?_)
    repeat' first
      | with_reducible rfl
      | with_reducible refine Ev ?_ ?_
      | with_reducible refine Eu ?_ ?_ ?_
      | with_reducible refine En ?_ ?_ ?_ ?_
      | ((with_reducible refine Hm ?_ ?_); focus (intro h; first | (subst h; rfl) | (simp only [h]; rfl) | (simp [Db, Ac, h]; done)))
      | with_reducible refine Hu fun x => ?_
      | with_reducible refine Mi (fun _ => ?_) (fun _ => ?_)
      | (refine Cd (fun h => by simp only [h, Hx, Br, Bm, ite_self]) (fun x h => ?_); (try simp only [h, Br]))
      | (refine Da (fun h => ?_) (fun h => ?_) <;> simp only [h, if_true, if_false, Bool.false_eq_true])
abbrev R_ := (Int × Int × UInt64 × UInt64)
noncomputable def H : Hd := ⟨[.agg [Si, Si, Sq, Sq], Su], [.agg [Si, Si, Sq, Sq]], (.seq .d (.seq .d (.cut [1, 2, 4, 5] [] (.seq .d (.cond (.mode false) .d)) .d))), ⟨[(273, F273.c), (274, F274.c), (275, F275.c)], gl, false⟩, [], f235⟩
def x2 (h : UInt32) (f a : Int) (g b : UInt64) (o : Int) (p : UInt64) : Option R_ := H.e P_ [r,r,r] ⟨[(1, vu h), (2, .ptr 0 []), (4, .ptr 1 []), (5, .ptr 2 [])], [.box 208 (.agg [vi f, vi a, vq g, vq b]), .box 208 (.agg [vi 0, vi 0, vq 0, vq 0]), .box 208 (.agg [vi f, vi o, vq g, vq p])], []⟩
theorem e2 : x2 = Lt := by kernel_rfl
noncomputable def F := u5 Qp
theorem rn x : H.u P_ x = F x := Eq.trans (b := u5 (Ra x2) x) (by kernel_rfl) (by unfold F; rw [Aju]; simp only [e2] <;> rfl)
noncomputable def c : Con := ⟨H.p, H.r, F⟩
theorem ok : ConOk P_ gl 235 c := co H func235 (.cons F273.ok (.cons F274.ok (.cons F275.ok .nil))) rn
end F235
namespace F172
abbrev R_ := (Int × Int × UInt64 × UInt64)
noncomputable def H : Hd := ⟨[Si, Sv], [.agg [Si, Si, Sq, Sq]], (.seq .d (.seq .d (.cut [4, 5] [] (.seq .d (.blk (.loop [0, 1, 4, 5, 6] [] .d))) .d))), ⟨[(171, F171.c), (235, F235.c)], gl, false⟩, [], f172⟩
def t4 (h : Int) (k : LU) (m a b : Int) (f g : UInt64) : S := ⟨[(0, vi h), (1, vv k), (4, .ptr 0 []), (5, .ptr 1 []), (6, vi m)], [.box 208 (.agg [vi 0, vi 0, vq 0, vq 0]), .box 208 (.agg [vi a, vi b, vq f, vq g])], []⟩
def z4 : Nat → S → Option R_ := H.i P_ [r,r,l,r,d]
def x6 (a b : Int) (f g : UInt64) : Option R_ := H.e P_ [r,r,r] ⟨[(4, .ptr 0 []), (5, .ptr 1 [])], [.box 208 (.agg [vi 0, vi 0, vq 0, vq 0]), .box 208 (.agg [vi a, vi b, vq f, vq g])], []⟩
def x4 (h : Int) (k : LU) (m a b : Int) (f g : UInt64) : Option R_ := H.e P_ [r,r,l,r,d] (t4 h k m a b f g)
theorem e6 : x6 = Adb := by kernel_rfl
theorem i4 (h : Int) (k : LU) : ∀ (q : Nat) (m a b : Int) (f g : UInt64), z4 q (t4 h k m a b f g) = Hv h k q m a b f g :=
 ind (fun _ _ _ _ _ => by kernel_rfl) fun q ih m a b f g => Eq.trans (b := Te x6 (fun m a b f g => (z4 q) (t4 h k m a b f g)) h k m a b f g) (by kernel_rfl) (by simp only [e6, ih] <;> rfl)
theorem e4 : x4 = Adj := by funext h k m a b f g; exact Eq.trans (by kernel_rfl) ((i4 h k Bv m a b f g).trans (by rw [Am]; rfl))
noncomputable def F := u2 Le
theorem rn x : H.u P_ x = F x := Eq.trans (b := u2 (Tm x4) x) (by kernel_rfl) (by simp only [e4] <;> rfl)
noncomputable def c : Con := ⟨H.p, H.r, F⟩
theorem ok : ConOk P_ gl 172 c := co H func172 (.cons F171.ok (.cons F235.ok .nil)) rn
end F172
namespace F175
abbrev R_ := Int
noncomputable def H : Hd := ⟨[.agg [Sb, Si], Si], [Si], (.seq .d (.seq .d (.cut [5] [] (.seq .d (.blk (.loop [1, 5, 6] [] .d))) .d))), ⟨[], gl, false⟩, [], f175⟩
def t4 (b a f : Int) : S := ⟨[(1, vi b), (5, vi a), (6, vi f)], [], []⟩
def z4 : Nat → S → Option R_ := H.i P_ [r,r,l,r,d]
def x6 (a : Int) : Option R_ := H.e P_ [r,r,r] ⟨[(5, vi a)], [], []⟩
def x4 (b a f : Int) : Option R_ := H.e P_ [r,r,l,r,d] (t4 b a f)
theorem e6 : x6 = Aa1 := by kernel_rfl
theorem i4 (b : Int) : ∀ (q : Nat) (a f : Int), z4 q (t4 b a f) = Jb b q a f :=
 ind (fun _ _ => by kernel_rfl) fun q ih a f => Eq.trans (b := Td x6 (fun a f => (z4 q) (t4 b a f)) b a f) (by kernel_rfl) (by simp only [e6, ih] <;> rfl)
theorem e4 : x4 = Aax := by funext b a f; exact Eq.trans (by kernel_rfl) ((i4 b Bv a f).trans (by rw [Am]; rfl))
noncomputable def F := u3 Ij
theorem rn x : H.u P_ x = F x := Eq.trans (b := u3 (Aa4 x4) x) (by kernel_rfl) (by simp only [e4] <;> rfl)
noncomputable def c : Con := ⟨H.p, H.r, F⟩
theorem ok : ConOk P_ gl 175 c := co H func175 .nil rn
end F175
namespace F236
abbrev R_ := (LB × Int)
noncomputable def H : Hd := ⟨[.agg [Ob 5, Si], Si], [.agg [Ob 5, Si]], (.seq .d (.cut [1, 2, 4] [] .d (.seq .d (.cut [1, 2, 4, 5] [] (.seq .d (.blk (.loop [1, 2, 4, 5, 6] [] .d))) .d)))), ⟨[], gl, false⟩, [], f236⟩
def t6 (b a : Int) (f : LB) (g h : Int) : S := ⟨[(1, vi b), (2, .ptr 0 []), (4, .ptr 1 []), (5, vi g), (6, vi h)], [.box 146 (.agg [.own 2, vi a]), .box 146 (.agg [.nils, vi 0]), Ab 5 f], []⟩
def z6 : Nat → S → Option R_ := H.i P_ [r,r,r,l,r,d]
def x8 (b g a : Int) (f : LB) : Option R_ := H.e P_ [r,r,r,r] ⟨[(1, vi b), (2, .ptr 0 []), (4, .ptr 1 []), (5, vi g)], [.box 146 (.agg [.own 2, vi a]), .box 146 (.agg [.nils, vi 0]), Ab 5 f], []⟩
def x6 (b a : Int) (f : LB) (g h : Int) : Option R_ := H.e P_ [r,r,r,l,r,d] (t6 b a f g h)
def x5 (b a : Int) (f : LB) : Option R_ := H.e P_ [r,r] ⟨[(1, vi b), (2, .ptr 0 []), (4, .ptr 1 [])], [.box 146 (.agg [.own 2, vi a]), .box 146 (.agg [.nils, vi 0]), Ab 5 f], []⟩
theorem e8 : x8 = Qr := by kernel_rfl
theorem i6 (b a : Int) (f : LB) : ∀ (q : Nat) (g h : Int), z6 q (t6 b a f g h) = Ie b a f q g h :=
 ind (fun _ _ => by kernel_rfl) fun q ih g h => Eq.trans (b := Qi x8 (fun g h => (z6 q) (t6 b a f g h)) b a f g h) (by kernel_rfl) (by simp only [e8, ih] <;> rfl)
theorem e6 : x6 = Zb := by funext b a f g h; exact Eq.trans (by kernel_rfl) ((i6 b a f Bv g h).trans (by rw [Am]; rfl))
theorem e5 : x5 = Qt := Eq.trans (b := Zo x6) (by kernel_rfl) (by simp only [e6] <;> rfl)
noncomputable def F := u3 Rp
theorem rn x : H.u P_ x = F x := Eq.trans (b := u3 (Zn x5) x) (by kernel_rfl) (by simp only [e5] <;> rfl)
noncomputable def c : Con := ⟨H.p, H.r, F⟩
theorem ok : ConOk P_ gl 236 c := co H func236 .nil rn
end F236
namespace F173
abbrev R_ := (LB × Int)
noncomputable def H : Hd := ⟨[.agg [Sb, Si], Si, Si], [.agg [Ob 5, Si]], (.seq .d (.seq .d (.cut [6, 7] [] (.seq .d (.blk (.loop [2, 3, 6, 7, 8] [⟨7, [0], .own 5 (.int .u8)⟩] .d))) .d))), ⟨[(175, F175.c), (236, F236.c)], gl, false⟩, [], f173⟩
def t4 (f : Int) (g : LB) (h k a : Int) (b : LB) : S := ⟨[(2, vi f), (3, .ptr 0 []), (6, .ptr 1 []), (7, .ptr 2 []), (8, vi k)], [.box 146 (.agg [vb g, vi h]), .box 146 (.agg [.nils, vi 0]), .box 146 (.agg [.own 3, vi a]), Ab 5 b], []⟩
def z4 : Nat → S → Option R_ := H.i P_ [r,r,l,r,d]
def x6 (a : Int) (b : LB) : Option R_ := H.e P_ [r,r,r] ⟨[(6, .ptr 0 []), (7, .ptr 1 [])], [.box 146 (.agg [.nils, vi 0]), .box 146 (.agg [.own 2, vi a]), Ab 5 b], []⟩
def x4 (f : Int) (g : LB) (h k a : Int) (b : LB) : Option R_ := H.e P_ [r,r,l,r,d] (t4 f g h k a b)
theorem e6 : x6 = Aa9 := by kernel_rfl
theorem i4 (f : Int) (g : LB) (h : Int) : ∀ (q : Nat) (k a : Int) (b : LB), z4 q (t4 f g h k a b) = Ee f g h q k a b :=
 ind (fun _ _ _ => by kernel_rfl) fun q ih k a b => Eq.trans (b := Ke x6 (fun k a b => (z4 q) (t4 f g h k a b)) f g h k a b) (by kernel_rfl) (by simp only [e6, ih] <;> rfl)
theorem e4 : x4 = Abt := by funext f g h k a b; exact Eq.trans (by kernel_rfl) ((i4 f g h Bv k a b).trans (by rw [Am]; rfl))
noncomputable def F := u4 Xl
theorem rn x : H.u P_ x = F x := Eq.trans (b := u4 (Aba x4) x) (by kernel_rfl) (by simp only [e4] <;> rfl)
noncomputable def c : Con := ⟨H.p, H.r, F⟩
theorem ok : ConOk P_ gl 173 c := co H func173 (.cons F175.ok (.cons F236.ok .nil)) rn
end F173
namespace F237
abbrev R_ := UInt64
noncomputable def H : Hd := ⟨[.agg [Sb, Si], Si, Si], [Sq], (.seq .d (.seq .d (.cut [7] [] (.seq .d (.blk (.loop [1, 3, 7, 8] [] .d))) .d))), ⟨[(175, F175.c)], gl, false⟩, [], f237⟩
def t4 (b : Int) (f : LB) (g : Int) (a : UInt64) (h : Int) : S := ⟨[(1, vi b), (3, .ptr 0 []), (7, vq a), (8, vi h)], [.box 146 (.agg [vb f, vi g])], []⟩
def z4 : Nat → S → Option R_ := H.i P_ [r,r,l,r,d]
def x6 (a : UInt64) : Option R_ := H.e P_ [r,r,r] ⟨[(7, vq a)], [], []⟩
def x4 (b : Int) (f : LB) (g : Int) (a : UInt64) (h : Int) : Option R_ := H.e P_ [r,r,l,r,d] (t4 b f g a h)
theorem e6 : x6 = Ad3 := by kernel_rfl
theorem i4 (b : Int) (f : LB) (g : Int) : ∀ (q : Nat) (a : UInt64) (h : Int), z4 q (t4 b f g a h) = Fx b f g q a h :=
 ind (fun _ _ => by kernel_rfl) fun q ih a h => Eq.trans (b := Na x6 (fun a h => (z4 q) (t4 b f g a h)) b f g a h) (by kernel_rfl) (by simp only [e6, ih] <;> rfl)
theorem e4 : x4 = Uz := by funext b f g a h; exact Eq.trans (by kernel_rfl) ((i4 b f g Bv a h).trans (by rw [Am]; rfl))
noncomputable def F := u4 Mo
theorem rn x : H.u P_ x = F x := Eq.trans (b := u4 (Vh x4) x) (by kernel_rfl) (by simp only [e4] <;> rfl)
noncomputable def c : Con := ⟨H.p, H.r, F⟩
theorem ok : ConOk P_ gl 237 c := co H func237 (.cons F175.ok .nil) rn
end F237
namespace F276
abbrev R_ := (Int × Int)
noncomputable def H : Hd := ⟨[.agg [Sb, Si], Si], [Si, Si], (.seq .d (.seq .d (.cut [1, 2, 6] [] (.blk (.loop [1, 2, 6] [] .d)) .d))), ⟨[(175, F175.c)], gl, false⟩, [], f276⟩
def t4 (b : Int) (g : LB) (f a : Int) : S := ⟨[(1, vi b), (2, .ptr 0 []), (6, vi a)], [.box 146 (.agg [vb g, vi f])], []⟩
def z4 : Nat → S → Option R_ := H.i P_ [r,r,l,d]
def x6 (b a : Int) (g : LB) (f : Int) : Option R_ := H.e P_ [r,r,r] ⟨[(1, vi b), (2, .ptr 0 []), (6, vi a)], [.box 146 (.agg [vb g, vi f])], []⟩
def x4 (b : Int) (g : LB) (f a : Int) : Option R_ := H.e P_ [r,r,l,d] (t4 b g f a)
theorem e6 : x6 = Qf := by kernel_rfl
theorem i4 (b : Int) (g : LB) (f : Int) : ∀ (q : Nat) (a : Int), z4 q (t4 b g f a) = If b g f q a :=
 ind (fun _ => by kernel_rfl) fun q ih a => Eq.trans (b := Qj x6 (fun a => (z4 q) (t4 b g f a)) b g f a) (by kernel_rfl) (by simp only [e6, ih] <;> rfl)
theorem e4 : x4 = Ahg := by funext b g f a; exact Eq.trans (by kernel_rfl) ((i4 b g f Bv a).trans (by rw [Am]; rfl))
noncomputable def F := u3 Ae3
theorem rn x : H.u P_ x = F x := Eq.trans (b := u3 (Ahh x4) x) (by kernel_rfl) (by simp only [e4] <;> rfl)
noncomputable def c : Con := ⟨H.p, H.r, F⟩
theorem ok : ConOk P_ gl 276 c := co H func276 (.cons F175.ok .nil) rn
end F276
namespace F277
noncomputable def H : Hd := ⟨[Su, Si], [Si], .d, ⟨[(239, F239.c)], gl, false⟩, [], f277⟩
noncomputable def F := u2 Wk
theorem rn x : H.u P_ x = F x := by kernel_rfl
noncomputable def c : Con := ⟨H.p, H.r, F⟩
theorem ok : ConOk P_ gl 277 c := co H func277 (.cons F239.ok .nil) rn
end F277
namespace F238
abbrev R_ := (UInt32 × Int × Int)
noncomputable def H : Hd := ⟨[.agg [Sb, Si], Si, Si], [Su, Si, Si], (.seq .d (.seq .d (.seq .d (.seq .d (.cut [2, 3, 9, 10, 11] [] .d .d))))), ⟨[(237, F237.c), (239, F239.c), (276, F276.c), (277, F277.c)], gl, false⟩, [], f238⟩
def x2 (g a b : Int) (h : LB) (f k : Int) : Option R_ := H.e P_ [r,r,r,r,r] ⟨[(2, vi g), (3, .ptr 0 []), (9, vi a), (10, vi b), (11, vi k)], [.box 146 (.agg [vb h, vi f])], []⟩
theorem e2 : x2 = Qu := by kernel_rfl
noncomputable def F := u4 Yo
theorem rn x : H.u P_ x = F x := Eq.trans (b := u4 (Zp x2) x) (by kernel_rfl) (by simp only [e2] <;> rfl)
noncomputable def c : Con := ⟨H.p, H.r, F⟩
theorem ok : ConOk P_ gl 238 c := co H func238 (.cons F237.ok (.cons F239.ok (.cons F276.ok (.cons F277.ok .nil)))) rn
end F238
namespace F174
noncomputable def H : Hd := ⟨[.agg [Sb, Si], Si, .agg [Si, Si, Sq, Sq]], [Su, Si, Si], .d, ⟨[(175, F175.c), (237, F237.c), (238, F238.c), (239, F239.c)], gl, false⟩, [], f174⟩
noncomputable def F := u7 Yr
theorem rn x : H.u P_ x = F x := by kernel_rfl
noncomputable def c : Con := ⟨H.p, H.r, F⟩
theorem ok : ConOk P_ gl 174 c := co H func174 (.cons F175.ok (.cons F237.ok (.cons F238.ok (.cons F239.ok .nil)))) rn
end F174
namespace F111
abbrev R_ := (LU × Int)
abbrev K_ := S → Option R_
noncomputable def H : Hd := ⟨[Si, Si, Sb], [Ov 194, Si], (.seq .d (.seq .d (.seq .d (.seq .d (.cut [8, 9, 10] [] (.seq .d (.blk (.loop [0, 1, 8, 9, 10, 11] [⟨9, [], .own 194 (.int .u32)⟩] (.seq .d (.seq (.blk (.seq .d (.cut [0, 1, 8, 9, 10, 11, 12] [] .d .d))) .d))))) (.seq .d (.cut [9] [] (.blk (.loop [8, 9, 10] [] .d)) .d))))))), ⟨[(171, F171.c), (172, F172.c), (173, F173.c), (174, F174.c), (175, F175.c)], gl, false⟩, [], f111⟩
def t16 (a : LB) (b : LU) (m : Int) : S := ⟨[(8, .ptr 0 []), (9, .own 1), (10, vi m)], [.box 146 (.agg [vb a, vi (Bp (8 : Int) (Ac a))]), Av 194 b], []⟩
def z16 : Nat → S → Option R_ := H.i P_ [r,r,r,r,r,r,l,d]
def t10 (g h : Int) (a : LB) (f k : Int) (b : LU) : S := ⟨[(0, vi g), (1, vi h), (8, .ptr 0 []), (9, .own 1), (10, vi f), (11, vi k)], [.box 146 (.agg [vb a, vi (Bp (8 : Int) (Ac a))]), Av 194 b], []⟩
def z10 : Nat → S → Option R_ := H.i P_ [r,r,r,r,l,r,d]
def x18 (b : LU) : Option R_ := H.e P_ [r,r,r,r,r,r,r] ⟨[(9, .own 0)], [Av 194 b], []⟩
def x16 (a : LB) (b : LU) (m : Int) : Option R_ := H.e P_ [r,r,r,r,r,r,l,d] (t16 a b m)
def x15 (f : Int) (a : LB) (b : LU) : Option R_ := H.e P_ [r,r,r,r,r] ⟨[(8, .ptr 0 []), (9, .own 1), (10, vi f)], [.box 146 (.agg [vb a, vi (Bp (8 : Int) (Ac a))]), Av 194 b], []⟩
def x13 (kn10 : K_) (g h : Int) (a : LB) (f k : Int) (b : LU) (o p : Int) (u v : UInt64) : Option R_ := H.e P_ [r,r,r,r,l,r,d,(lp kn10),r,l,d,r,r] ⟨[(0, vi g), (1, vi h), (8, .ptr 0 []), (9, .own 1), (10, vi f), (11, vi k), (12, .ptr 2 [])], [.box 146 (.agg [vb a, vi (Bp (8 : Int) (Ac a))]), Av 194 b, .box 208 (.agg [vi o, vi p, vq u, vq v])], []⟩
def x10 (g h : Int) (a : LB) (f k : Int) (b : LU) : Option R_ := H.e P_ [r,r,r,r,l,r,d] (t10 g h a f k b)
theorem e18 : x18 = Ad9 := by kernel_rfl
theorem i16 (a : LB) (b : LU) : ∀ (q : Nat) (m : Int), z16 q (t16 a b m) = Gb a b q m :=
 ind (fun _ => by kernel_rfl) fun q ih m => Eq.trans (b := Mr x18 (fun m => (z16 q) (t16 a b m)) a b m) (by kernel_rfl) (by simp only [e18, ih] <;> rfl)
theorem e16 : x16 = Vl := by funext a b m; exact Eq.trans (by kernel_rfl) ((i16 a b Bv m).trans (by rw [Am]; rfl))
theorem e15 : x15 = Mu := Eq.trans (b := Ux x16) (by kernel_rfl) (by simp only [e16] <;> rfl)
theorem e13 (kn10 : K_) (g h : Int) (a : LB) : x13 kn10 g h a = Fy (fun f k b => kn10 (t10 g h a f k b)) g h a := by kernel_rfl
theorem i10 (g h : Int) (a : LB) : ∀ (q : Nat) (f k : Int) (b : LU), z10 q (t10 g h a f k b) = Cx g h a q f k b :=
 ind (fun _ _ _ => by kernel_rfl) fun q ih f k b => Eq.trans (b := Vs (x13 (z10 q) g h a) x15 g h a f k b) (by kernel_rfl) (by simp only [e13, e15, ih] <;> rfl)
theorem e10 : x10 = Aee := by funext g h a f k b; exact Eq.trans (by kernel_rfl) ((i10 g h a Bv f k b).trans (by rw [Am]; rfl))
noncomputable def F := u3 Wg
theorem rn x : H.u P_ x = F x := Eq.trans (b := u3 (Xv x10) x) (by kernel_rfl) (by simp only [e10] <;> rfl)
noncomputable def c : Con := ⟨H.p, H.r, F⟩
theorem ok : ConOk P_ gl 111 c := co H func111 (.cons F171.ok (.cons F172.ok (.cons F173.ok (.cons F174.ok (.cons F175.ok .nil))))) rn
end F111
namespace F278
noncomputable def H : Hd := ⟨[Si], [Si, Si], .d, ⟨[], gl, false⟩, [], f278⟩
noncomputable def F := Ais
theorem rn x : H.u P_ x = F x := by kernel_rfl
noncomputable def c : Con := ⟨H.p, H.r, F⟩
theorem ok : ConOk P_ gl 278 c := co H func278 .nil rn
end F278
namespace F240
noncomputable def H : Hd := ⟨[Si, .lf (.vec 16 (.int .i32)) none], [.agg [Si, .lf (.vec 16 (.int .i32)) none, .lf (.vec 16 (.int .i32)) none], Si], .d, ⟨[(278, F278.c)], gl, false⟩, [], f240⟩
noncomputable def F := u2 Al7
theorem rn x : H.u P_ x = F x := by kernel_rfl
noncomputable def c : Con := ⟨H.p, H.r, F⟩
theorem ok : ConOk P_ gl 240 c := co H func240 (.cons F278.ok .nil) rn
end F240
namespace F177
noncomputable def H : Hd := ⟨[Si, .lf (.vec 16 (.int .i32)) none], [.agg [Si, Sx, .agg [Si, .lf (.vec 16 (.int .i32)) none, .lf (.vec 16 (.int .i32)) none]], Si], .d, ⟨[(240, F240.c)], gl, false⟩, [], f177⟩
noncomputable def F := u2 Ael
theorem rn x : H.u P_ x = F x := by kernel_rfl
noncomputable def c : Con := ⟨H.p, H.r, F⟩
theorem ok : ConOk P_ gl 177 c := co H func177 (.cons F240.ok .nil) rn
end F177
namespace F179
noncomputable def H : Hd := ⟨[Su], [Sx], .d, ⟨[], gl, false⟩, [], f179⟩
noncomputable def F := Kj
theorem rn x : H.u P_ x = F x := by kernel_rfl
noncomputable def c : Con := ⟨H.p, H.r, F⟩
theorem ok : ConOk P_ gl 179 c := co H func179 .nil rn
end F179
namespace F242
noncomputable def H : Hd := ⟨[Si], [Sx], .d, ⟨[], gl, false⟩, [], f242⟩
noncomputable def F := Bw
theorem rn x : H.u P_ x = F x := by kernel_rfl
noncomputable def c : Con := ⟨H.p, H.r, F⟩
theorem ok : ConOk P_ gl 242 c := co H func242 .nil rn
end F242
namespace F299
abbrev R_ := Int32
noncomputable def H : Hd := ⟨[.agg [Si, .lf (.vec 16 (.int .i32)) none, .lf (.vec 16 (.int .i32)) none]], [Sx], (.seq .d (.seq .d (.cut [3] [] (.seq .d (.blk (.loop [1, 3, 4] [] .d))) .d))), ⟨[(242, F242.c)], gl, false⟩, [], f299⟩
def t4 (h : Int) (f g : LX) (a b : Int) : S := ⟨[(1, .ptr 0 []), (3, vi a), (4, vi b)], [.box 217 (.agg [vi h, .val (.vec 16 (.int .i32)) f, .val (.vec 16 (.int .i32)) g])], []⟩
def z4 : Nat → S → Option R_ := H.i P_ [r,r,l,r,d]
def x6 (a : Int) : Option R_ := H.e P_ [r,r,r] ⟨[(3, vi a)], [], []⟩
def x4 (h : Int) (f g : LX) (a b : Int) : Option R_ := H.e P_ [r,r,l,r,d] (t4 h f g a b)
theorem e6 : x6 = Zq := by kernel_rfl
theorem i4 (h : Int) (f g : LX) : ∀ (q : Nat) (a b : Int), z4 q (t4 h f g a b) = Ii h f g q a b :=
 ind (fun _ _ => by kernel_rfl) fun q ih a b => Eq.trans (b := Qs x6 (fun a b => (z4 q) (t4 h f g a b)) h f g a b) (by kernel_rfl) (by simp only [e6, ih] <;> rfl)
theorem e4 : x4 = Ahn := by funext h f g a b; exact Eq.trans (by kernel_rfl) ((i4 h f g Bv a b).trans (by rw [Am]; rfl))
noncomputable def F := u3 Aeq
theorem rn x : H.u P_ x = F x := Eq.trans (b := u3 (Ahi x4) x) (by kernel_rfl) (by simp only [e4] <;> rfl)
noncomputable def c : Con := ⟨H.p, H.r, F⟩
theorem ok : ConOk P_ gl 299 c := co H func299 (.cons F242.ok .nil) rn
end F299
namespace F279
abbrev R_ := Int32
noncomputable def H : Hd := ⟨[.agg [Si, .lf (.vec 16 (.int .i32)) none, .lf (.vec 16 (.int .i32)) none]], [Sx], (.seq .d (.seq .d (.cut [1, 3] [] .d .d))), ⟨[(242, F242.c), (299, F299.c)], gl, false⟩, [], f279⟩
def x2 (b : Int) (f g : LX) (a : Int) : Option R_ := H.e P_ [r,r,r] ⟨[(1, .ptr 0 []), (3, vi a)], [.box 217 (.agg [vi b, .val (.vec 16 (.int .i32)) f, .val (.vec 16 (.int .i32)) g])], []⟩
theorem e2 : x2 = On := by kernel_rfl
noncomputable def F := u3 Vx
theorem rn x : H.u P_ x = F x := Eq.trans (b := u3 (Ww x2) x) (by kernel_rfl) (by simp only [e2] <;> rfl)
noncomputable def c : Con := ⟨H.p, H.r, F⟩
theorem ok : ConOk P_ gl 279 c := co H func279 (.cons F242.ok (.cons F299.ok .nil)) rn
end F279
namespace F300
noncomputable def H : Hd := ⟨[Si], [Sx], .d, ⟨[], gl, false⟩, [], f300⟩
noncomputable def F := Wa
theorem rn x : H.u P_ x = F x := by kernel_rfl
noncomputable def c : Con := ⟨H.p, H.r, F⟩
theorem ok : ConOk P_ gl 300 c := co H func300 .nil rn
end F300
namespace F301
noncomputable def H : Hd := ⟨[Sx], [Sx], .d, ⟨[], gl, false⟩, [], f301⟩
noncomputable def F := Of
theorem rn x : H.u P_ x = F x := by kernel_rfl
noncomputable def c : Con := ⟨H.p, H.r, F⟩
theorem ok : ConOk P_ gl 301 c := co H func301 .nil rn
end F301
namespace F281
abbrev R_ := (Int × LX × LX)
noncomputable def H : Hd := ⟨[.agg [Si, .lf (.vec 16 (.int .i32)) none, .lf (.vec 16 (.int .i32)) none], Sx], [.agg [Si, .lf (.vec 16 (.int .i32)) none, .lf (.vec 16 (.int .i32)) none]], (.seq .d (.cut [2, 4] [] (.seq .d (.blk (.loop [1, 2, 4, 5] [] .d))) .d)), ⟨[(300, F300.c), (301, F301.c)], gl, false⟩, [], f281⟩
def t4 (h : Int32) (g : Int) (a : LX) (f : Int) (b : LX) : S := ⟨[(1, vx h), (2, .ptr 0 []), (4, .ptr 1 []), (5, vi f)], [.box 217 (.agg [vi g, .val (.vec 16 (.int .i32)) b, .val (.vec 16 (.int .i32)) a]), .box 217 (.agg [vi 0, .val (.vec 16 (.int .i32)) (List.replicate 16 (0 : Int32)), .val (.vec 16 (.int .i32)) (List.replicate 16 (0 : Int32))])], []⟩
def z4 : Nat → S → Option R_ := H.i P_ [r,l,r,d]
def x6 (g : Int) (b a : LX) : Option R_ := H.e P_ [r,r] ⟨[(2, .ptr 0 []), (4, .ptr 1 [])], [.box 217 (.agg [vi g, .val (.vec 16 (.int .i32)) b, .val (.vec 16 (.int .i32)) a]), .box 217 (.agg [vi 0, .val (.vec 16 (.int .i32)) (List.replicate 16 (0 : Int32)), .val (.vec 16 (.int .i32)) (List.replicate 16 (0 : Int32))])], []⟩
def x4 (h : Int32) (g : Int) (a : LX) (f : Int) (b : LX) : Option R_ := H.e P_ [r,l,r,d] (t4 h g a f b)
theorem e6 : x6 = Abi := by kernel_rfl
theorem i4 (h : Int32) (g : Int) (a : LX) : ∀ (q : Nat) (f : Int) (b : LX), z4 q (t4 h g a f b) = Eg h g a q f b :=
 ind (fun _ _ => by kernel_rfl) fun q ih f b => Eq.trans (b := Kg x6 (fun f b => (z4 q) (t4 h g a f b)) h g a f b) (by kernel_rfl) (by simp only [e6, ih] <;> rfl)
theorem e4 : x4 = Abm := by funext h g a f b; exact Eq.trans (by kernel_rfl) ((i4 h g a Bv f b).trans (by rw [Am]; rfl))
noncomputable def F := u4 Xn
theorem rn x : H.u P_ x = F x := Eq.trans (b := u4 (Abo x4) x) (by kernel_rfl) (by simp only [e4] <;> rfl)
noncomputable def c : Con := ⟨H.p, H.r, F⟩
theorem ok : ConOk P_ gl 281 c := co H func281 (.cons F300.ok (.cons F301.ok .nil)) rn
end F281
namespace F280
abbrev R_ := (Int × LX × LX)
noncomputable def H : Hd := ⟨[.agg [Si, .lf (.vec 16 (.int .i32)) none, .lf (.vec 16 (.int .i32)) none], Sx], [.agg [Si, .lf (.vec 16 (.int .i32)) none, .lf (.vec 16 (.int .i32)) none]], (.seq .d (.cut [1, 2, 4] [] (.seq .d (.blk (.loop [1, 2, 4, 5] [] .d))) .d)), ⟨[], gl, false⟩, [], f280⟩
def t4 (b : Int32) (f : Int) (g : LX) (h : Int) (a : LX) : S := ⟨[(1, vx b), (2, .ptr 0 []), (4, .ptr 1 []), (5, vi h)], [.box 217 (.agg [vi f, .val (.vec 16 (.int .i32)) g, .val (.vec 16 (.int .i32)) a]), .box 217 (.agg [vi 0, .val (.vec 16 (.int .i32)) (List.replicate 16 (0 : Int32)), .val (.vec 16 (.int .i32)) (List.replicate 16 (0 : Int32))])], []⟩
def z4 : Nat → S → Option R_ := H.i P_ [r,l,r,d]
def x6 (b : Int32) (f : Int) (g a : LX) : Option R_ := H.e P_ [r,r] ⟨[(1, vx b), (2, .ptr 0 []), (4, .ptr 1 [])], [.box 217 (.agg [vi f, .val (.vec 16 (.int .i32)) g, .val (.vec 16 (.int .i32)) a]), .box 217 (.agg [vi 0, .val (.vec 16 (.int .i32)) (List.replicate 16 (0 : Int32)), .val (.vec 16 (.int .i32)) (List.replicate 16 (0 : Int32))])], []⟩
def x4 (b : Int32) (f : Int) (g : LX) (h : Int) (a : LX) : Option R_ := H.e P_ [r,l,r,d] (t4 b f g h a)
theorem e6 : x6 = Ub := by kernel_rfl
theorem i4 (b : Int32) (f : Int) (g : LX) : ∀ (q : Nat) (h : Int) (a : LX), z4 q (t4 b f g h a) = Ff b f g q h a :=
 ind (fun _ _ => by kernel_rfl) fun q ih h a => Eq.trans (b := Lm x6 (fun h a => (z4 q) (t4 b f g h a)) b f g h a) (by kernel_rfl) (by simp only [e6, ih] <;> rfl)
theorem e4 : x4 = Adr := by funext b f g h a; exact Eq.trans (by kernel_rfl) ((i4 b f g Bv h a).trans (by rw [Am]; rfl))
noncomputable def F := u4 Zl
theorem rn x : H.u P_ x = F x := Eq.trans (b := u4 (Ade x4) x) (by kernel_rfl) (by simp only [e4] <;> rfl)
noncomputable def c : Con := ⟨H.p, H.r, F⟩
theorem ok : ConOk P_ gl 280 c := co H func280 .nil rn
end F280
namespace F241
noncomputable def H : Hd := ⟨[.agg [Si, .lf (.vec 16 (.int .i32)) none, .lf (.vec 16 (.int .i32)) none], Sx], [Sx, .agg [Si, .lf (.vec 16 (.int .i32)) none, .lf (.vec 16 (.int .i32)) none]], .d, ⟨[(242, F242.c), (279, F279.c), (280, F280.c), (281, F281.c)], gl, false⟩, [], f241⟩
noncomputable def F := u4 Ny
theorem rn x : H.u P_ x = F x := by kernel_rfl
noncomputable def c : Con := ⟨H.p, H.r, F⟩
theorem ok : ConOk P_ gl 241 c := co H func241 (.cons F242.ok (.cons F279.ok (.cons F280.ok (.cons F281.ok .nil)))) rn
end F241
namespace F282
abbrev R_ := Int32
noncomputable def H : Hd := ⟨[Si, Sx], [Sx], (.seq .d (.seq .d (.cut [1, 5] [] .d .d))), ⟨[], gl, false⟩, [], f282⟩
def x2 (b : Int32) (a : Int) : Option R_ := H.e P_ [r,r,r] ⟨[(1, vx b), (5, vi a)], [], []⟩
theorem e2 : x2 = Lq := by kernel_rfl
noncomputable def F := u2 La
theorem rn x : H.u P_ x = F x := Eq.trans (b := u2 (Ti x2) x) (by kernel_rfl) (by simp only [e2] <;> rfl)
noncomputable def c : Con := ⟨H.p, H.r, F⟩
theorem ok : ConOk P_ gl 282 c := co H func282 .nil rn
end F282
namespace F243
noncomputable def H : Hd := ⟨[.agg [Si, Sx, .agg [Si, .lf (.vec 16 (.int .i32)) none, .lf (.vec 16 (.int .i32)) none]]], [Si], .d, ⟨[(282, F282.c)], gl, false⟩, [], f243⟩
noncomputable def F := u5 Qn
theorem rn x : H.u P_ x = F x := by kernel_rfl
noncomputable def c : Con := ⟨H.p, H.r, F⟩
theorem ok : ConOk P_ gl 243 c := co H func243 (.cons F282.ok .nil) rn
end F243
namespace F178
noncomputable def H : Hd := ⟨[.agg [Si, Sx, .agg [Si, .lf (.vec 16 (.int .i32)) none, .lf (.vec 16 (.int .i32)) none]], Sx], [Sx, .agg [Si, Sx, .agg [Si, .lf (.vec 16 (.int .i32)) none, .lf (.vec 16 (.int .i32)) none]]], .d, ⟨[(241, F241.c), (242, F242.c), (243, F243.c)], gl, false⟩, [], f178⟩
noncomputable def F := u6 Hj
theorem rn x : H.u P_ x = F x := by kernel_rfl
noncomputable def c : Con := ⟨H.p, H.r, F⟩
theorem ok : ConOk P_ gl 178 c := co H func178 (.cons F241.ok (.cons F242.ok (.cons F243.ok .nil))) rn
end F178
namespace F244
noncomputable def H : Hd := ⟨[Si, Sw], [Si], .d, ⟨[], gl, false⟩, [], f244⟩
noncomputable def F := u2 Mp
theorem rn x : H.u P_ x = F x := by kernel_rfl
noncomputable def c : Con := ⟨H.p, H.r, F⟩
theorem ok : ConOk P_ gl 244 c := co H func244 .nil rn
end F244
namespace F245
abbrev R_ := LX
noncomputable def H : Hd := ⟨[Sw], [Ow 21], (.seq .d (.seq .d (.seq .d (.seq .d (.cut [0, 3, 4] [] .d (.cut [4] [] (.seq .d (.blk (.loop [0, 4, 5] [] .d))) .d)))))), ⟨[(242, F242.c)], gl, false⟩, [], f245⟩
def t6 (a : LX) (f : Int) (b : LX) : S := ⟨[(0, vw a), (4, .own 0), (5, vi f)], [Aw 21 b], []⟩
def z6 : Nat → S → Option R_ := H.i P_ [r,r,r,r,r,l,r,d]
def x8 (b : LX) : Option R_ := H.e P_ [r,r,r,r,r,r] ⟨[(4, .own 0)], [Aw 21 b], []⟩
def x6 (a : LX) (f : Int) (b : LX) : Option R_ := H.e P_ [r,r,r,r,r,l,r,d] (t6 a f b)
def x5 (a g : LX) : Option R_ := H.e P_ [r,r,r,r,r] ⟨[(0, vw a), (3, vi (Ac a)), (4, .own 0)], [Aw 21 g], []⟩
theorem e8 : x8 = Abp := by kernel_rfl
theorem i6 (a : LX) : ∀ (q : Nat) (f : Int) (b : LX), z6 q (t6 a f b) = Ej a q f b :=
 ind (fun _ _ => by kernel_rfl) fun q ih f b => Eq.trans (b := Kf x8 (fun f b => (z6 q) (t6 a f b)) a f b) (by kernel_rfl) (by simp only [e8, ih] <;> rfl)
theorem e6 : x6 = Abk := by funext a f b; exact Eq.trans (by kernel_rfl) ((i6 a Bv f b).trans (by rw [Am]; rfl))
theorem e5 : x5 = Ki := Eq.trans (b := Rh x6) (by kernel_rfl) (by simp only [e6] <;> rfl)
noncomputable def F := Oa
theorem rn x : H.u P_ x = F x := Eq.trans (b := Rq x5 x) (by kernel_rfl) (by simp only [e5] <;> rfl)
noncomputable def c : Con := ⟨H.p, H.r, F⟩
theorem ok : ConOk P_ gl 245 c := co H func245 (.cons F242.ok .nil) rn
end F245
namespace F180
abbrev R_ := (LX × Int)
noncomputable def H : Hd := ⟨[Si, Sw], [Ow 21, Si], (.seq .d (.seq .d (.seq .d (.cut [6] [] (.seq .d (.blk (.loop [0, 1, 6, 7] [⟨6, [], .own 21 (.int .i32)⟩] .d))) .d)))), ⟨[(244, F244.c), (245, F245.c)], gl, false⟩, [], f180⟩
def t4 (a : Int) (b : LX) (g : Int) (f : LX) : S := ⟨[(0, vi a), (1, vw b), (6, .own 0), (7, vi g)], [Aw 21 f], []⟩
def z4 : Nat → S → Option R_ := H.i P_ [r,r,r,l,r,d]
def x6 (f : LX) : Option R_ := H.e P_ [r,r,r,r] ⟨[(6, .own 0)], [Aw 21 f], []⟩
def x4 (a : Int) (b : LX) (g : Int) (f : LX) : Option R_ := H.e P_ [r,r,r,l,r,d] (t4 a b g f)
theorem e6 : x6 = Agn := by kernel_rfl
theorem i4 (a : Int) (b : LX) : ∀ (q : Nat) (g : Int) (f : LX), z4 q (t4 a b g f) = Js a b q g f :=
 ind (fun _ _ => by kernel_rfl) fun q ih g f => Eq.trans (b := Ya x6 (fun g f => (z4 q) (t4 a b g f)) a b g f) (by kernel_rfl) (by simp only [e6, ih] <;> rfl)
theorem e4 : x4 = Agb := by funext a b g f; exact Eq.trans (by kernel_rfl) ((i4 a b Bv g f).trans (by rw [Am]; rfl))
noncomputable def F := u2 Vz
theorem rn x : H.u P_ x = F x := Eq.trans (b := u2 (Wz x4) x) (by kernel_rfl) (by simp only [e4] <;> rfl)
noncomputable def c : Con := ⟨H.p, H.r, F⟩
theorem ok : ConOk P_ gl 180 c := co H func180 (.cons F244.ok (.cons F245.ok .nil)) rn
end F180
namespace F113
def Pw (j29 : Int → Int32 → LX → Int → Int32 → Int → LX → LX → Int → Int32 → Int → LX → LX → Option (LX)) (j32 : Int → LX → Option (LX)) (b : LU) (a f : Int) (g : LX) (h k : Int) (m : LX) (n : Int) (o : Int32) (p : Int) (u v : LX) : Option (LX) :=
if (Ci k (Ac b)) then
(Al b k).bind fun ah =>
both (
(Kj ah).bind fun ag =>
(fun ap : Option (LX) =>
bo (
ap)) (
(Hj n o p u v ag).bind fun (ae, y, aa, ab, ac, ad) =>
j29 k ae m n o p u v y aa ab ac ad)) [
(Kj ah).bind fun ag =>
(Hj n o p u v ag).bind fun (ae, y, aa, ab, ac, ad) =>
j29 k ae m n o p u v y aa ab ac ad]
else
j32 h m
theorem Ahx : @Pw = @Jy := by
  unfold Pw Jy
  try simp only [Af8, Xd, Xe]
  all_goals
    repeat (refine funext fun _ => ?_)
    repeat' first
      | with_reducible rfl
      | with_reducible refine Ev ?_ ?_
      | with_reducible refine Eu ?_ ?_ ?_
      | with_reducible refine En ?_ ?_ ?_ ?_
      | ((with_reducible refine Hm ?_ ?_); focus (intro h; first | (subst h; rfl) | (simp only [h]; rfl) | (simp [Db, Ac, h]; done)))
      | with_reducible refine Hu fun x => ?_
      | with_reducible refine Mi (fun _ => ?_) (fun _ => ?_)
      | (refine Cd (fun h => by simp only [h, Hx, Br, Bm, ite_self]) (fun x h => ?_); (try simp only [h, Br]))
      | (refine Da (fun h => ?_) (fun h => ?_) <;> simp only [h, if_true, if_false, Bool.false_eq_true])
abbrev R_ := LX
abbrev K_ := S → Option R_
noncomputable def H : Hd := ⟨[.agg [Si, Si], .lf (.vec 16 (.int .i32)) none, Sv], [Ow 21], (.seq .d (.seq .d (.cut [3, 7] [] (.seq .d (.blk (.loop [2, 3, 4, 7, 8] [] (.seq .d (.cut [2, 3, 4, 7, 8] [] (.blk (.seq .d (.seq .d (.blk (.loop [2, 3, 4, 7, 8, 9, 11] [] (.seq .d (.cut [2, 3, 4, 7, 8, 9, 11] [] (.blk (.cut [2, 3, 4, 7, 8, 9, 11, 12, 13] [] .d .d)) .d))))))) .d))))) .d))), ⟨[(177, F177.c), (178, F178.c), (179, F179.c), (180, F180.c)], gl, false⟩, [], f113⟩
def t26 (b : LU) (a f : Int) (g : LX) (h k : Int) (m : LX) (n : Int) (o : Int32) (p : Int) (u v : LX) : S := ⟨[(2, vv b), (3, .ptr 0 []), (4, .ptr 1 []), (7, .own 2), (8, vi h), (9, .ptr 3 []), (11, vi k)], [.box 64 (.agg [vi a, vi f]), .box 95 (.val (.vec 16 (.int .i32)) g), Aw 21 m, .box 219 (.agg [vi n, vx o, .agg [vi p, .val (.vec 16 (.int .i32)) u, .val (.vec 16 (.int .i32)) v]])], []⟩
def z26 (kn18 : K_) : Nat → S → Option R_ := H.i P_ [r,r,l,r,d,(lp kn18),r,l,d,r,r,d]
def t18 (b : LU) (a f : Int) (g : LX) (h : Int) (w : LX) : S := ⟨[(2, vv b), (3, .ptr 0 []), (4, .ptr 1 []), (7, .own 2), (8, vi h)], [.box 64 (.agg [vi a, vi f]), .box 95 (.val (.vec 16 (.int .i32)) g), Aw 21 w], []⟩
def z18 : Nat → S → Option R_ := H.i P_ [r,r,l,r,d]
def x34 (a f : Int) (w : LX) : Option R_ := H.e P_ [r,r,r] ⟨[(3, .ptr 0 []), (7, .own 1)], [.box 64 (.agg [vi a, vi f]), Aw 21 w], []⟩
def x32 (kn18 : K_) (b : LU) (a f : Int) (g : LX) (h : Int) (m : LX) : Option R_ := H.e P_ [r,r,l,r,d,(lp kn18),r,r] ⟨[(2, vv b), (3, .ptr 0 []), (4, .ptr 1 []), (7, .own 2), (8, vi h)], [.box 64 (.agg [vi a, vi f]), .box 95 (.val (.vec 16 (.int .i32)) g), Aw 21 m], []⟩
def x30 (kn18 kn26 : K_) (b : LU) (h a f : Int) (g : LX) (k : Int) (af : LX) (y : Int) (aa : Int32) (ab : Int) (ac ad : LX) : Option R_ := H.e P_ [r,r,l,r,d,(lp kn18),r,l,d,r,r,d,(lp kn26),r,r] ⟨[(2, vv b), (3, .ptr 0 []), (4, .ptr 1 []), (7, .own 2), (8, vi h), (9, .ptr 3 []), (11, vi k)], [.box 64 (.agg [vi a, vi f]), .box 95 (.val (.vec 16 (.int .i32)) g), Aw 21 af, .box 219 (.agg [vi y, vx aa, .agg [vi ab, .val (.vec 16 (.int .i32)) ac, .val (.vec 16 (.int .i32)) ad]])], []⟩
def x29 (kn18 kn26 : K_) (b : LU) (h a f : Int) (g : LX) (k : Int) (ae : Int32) (m : LX) (n : Int) (o : Int32) (p : Int) (u v : LX) (y : Int) (aa : Int32) (ab : Int) (ac ad : LX) : Option R_ := H.e P_ [r,r,l,r,d,(lp kn18),r,l,d,r,r,d,(lp kn26),r,l,d,r] ⟨[(2, vv b), (3, .ptr 0 []), (4, .ptr 1 []), (7, .own 2), (8, vi h), (9, .ptr 3 []), (11, vi k), (12, vx ae), (13, .ptr 4 [])], [.box 64 (.agg [vi a, vi f]), .box 95 (.val (.vec 16 (.int .i32)) g), Aw 21 m, .box 219 (.agg [vi n, vx o, .agg [vi p, .val (.vec 16 (.int .i32)) u, .val (.vec 16 (.int .i32)) v]]), .box 219 (.agg [vi y, vx aa, .agg [vi ab, .val (.vec 16 (.int .i32)) ac, .val (.vec 16 (.int .i32)) ad]])], []⟩
def x26 (kn18 : K_) (b : LU) (a f : Int) (g : LX) (h k : Int) (m : LX) (n : Int) (o : Int32) (p : Int) (u v : LX) : Option R_ := H.e P_ [r,r,l,r,d,(lp kn18),r,l,d,r,r,d] (t26 b a f g h k m n o p u v)
def x18 (b : LU) (a f : Int) (g : LX) (h : Int) (w : LX) : Option R_ := H.e P_ [r,r,l,r,d] (t18 b a f g h w)
theorem e34 : x34 = Jw := by kernel_rfl
theorem e32 (kn18 : K_) (b : LU) (a f : Int) (g : LX) : x32 kn18 b a f g = Rt (fun h w => kn18 (t18 b a f g h w)) b a f g := by kernel_rfl
theorem e30 (kn18 kn26 : K_) (b : LU) (a f : Int) (g : LX) (h : Int) : x30 kn18 kn26 b h a f g = Re (fun k m n o p u v => kn26 (t26 b a f g h k m n o p u v)) b h a f g := by kernel_rfl
theorem e29 (kn18 kn26 : K_) (b : LU) (a f : Int) (g : LX) (h : Int) : x29 kn18 kn26 b h a f g = Ry (fun k m n o p u v => kn26 (t26 b a f g h k m n o p u v)) b h a f g := Eq.trans (b := Rv (x30 kn18 kn26 b h a f g) b h a f g) (by kernel_rfl) (by simp only [e30] <;> rfl)
theorem i26 (kn18 : K_) (b : LU) (a f : Int) (g : LX) (h : Int) : ∀ (q : Nat) (k : Int) (m : LX) (n : Int) (o : Int32) (p : Int) (u v : LX), z26 kn18 q (t26 b a f g h k m n o p u v) = Hb (fun h w => kn18 (t18 b a f g h w)) b a f g h q k m n o p u v :=
 ind (fun _ _ _ _ _ _ _ => by kernel_rfl) fun q ih k m n o p u v => Eq.trans (b := Pw (x29 kn18 (z26 kn18 q) b h a f g) (x32 kn18 b a f g) b a f g h k m n o p u v) (by kernel_rfl) (by rw [Ahx]; simp only [e29, e32, ih] <;> rfl)
theorem e26 (kn18 : K_) (b : LU) (a f : Int) (g : LX) : x26 kn18 b a f g = Ro (fun h w => kn18 (t18 b a f g h w)) b a f g := by funext h k m n o p u v; exact Eq.trans (by kernel_rfl) ((i26 kn18 b a f g h Bv k m n o p u v).trans (by rw [Am]; rfl))
theorem i18 (b : LU) (a f : Int) (g : LX) : ∀ (q : Nat) (h : Int) (w : LX), z18 q (t18 b a f g h w) = Cz b a f g q h w :=
 ind (fun _ _ => by kernel_rfl) fun q ih h w => Eq.trans (b := Jv (x26 (z18 q) b a f g) x34 b a f g h w) (by kernel_rfl) (by simp only [e26, e34, ih] <;> rfl)
theorem e18 : x18 = Rc := by funext b a f g h w; exact Eq.trans (by kernel_rfl) ((i18 b a f g Bv h w).trans (by rw [Am]; rfl))
noncomputable def F := u4 Ih
theorem rn x : H.u P_ x = F x := Eq.trans (b := u4 (Sp x18) x) (by kernel_rfl) (by simp only [e18] <;> rfl)
noncomputable def c : Con := ⟨H.p, H.r, F⟩
theorem ok : ConOk P_ gl 113 c := co H func113 (.cons F177.ok (.cons F178.ok (.cons F179.ok (.cons F180.ok .nil)))) rn
end F113
namespace F176
abbrev R_ := Int
noncomputable def H : Hd := ⟨[Si, Sw], [Si], (.seq .d (.seq .d (.seq .d (.seq .d (.cut [] [] (.seq .d (.blk (.loop [1, 5, 6] [] .d))) .d))))), ⟨[(234, F234.c)], gl, false⟩, [], f176⟩
def t4 (a : LX) (b f : Int) : S := ⟨[(1, vw a), (5, vi b), (6, vi f)], [], []⟩
def z4 : Nat → S → Option R_ := H.i P_ [r,r,r,r,l,r,d]
def x6 : Option R_ := H.e P_ [r,r,r,r,r] ⟨[], [], []⟩
def x4 (a : LX) (b f : Int) : Option R_ := H.e P_ [r,r,r,r,l,r,d] (t4 a b f)
theorem e6 : x6 = Ad8 := by kernel_rfl
theorem i4 (a : LX) (b : Int) : ∀ (q : Nat) (f : Int), z4 q (t4 a b f) = Bd a b q f :=
 ind (fun _ => by kernel_rfl) fun q ih f => Eq.trans (b := Cv x6 (fun f => (z4 q) (t4 a b f)) a b f) (by kernel_rfl) (by simp only [e6, ih] <;> rfl)
theorem e4 : x4 = Ad2 := by funext a b f; exact Eq.trans (by kernel_rfl) ((i4 a b Bv f).trans (by rw [Am]; rfl))
noncomputable def F := u2 Bf
theorem rn x : H.u P_ x = F x := Eq.trans (b := u2 (Gg x4) x) (by kernel_rfl) (by simp only [e4] <;> rfl)
noncomputable def c : Con := ⟨H.p, H.r, F⟩
theorem ok : ConOk P_ gl 176 c := co H func176 (.cons F234.ok .nil) rn
end F176
namespace F112
noncomputable def H : Hd := ⟨[.agg [Si, Si], Sw], [Sw, Si], .d, ⟨[(176, F176.c)], gl, false⟩, [], f112⟩
noncomputable def F := u3 Kv
theorem rn x : H.u P_ x = F x := by kernel_rfl
noncomputable def c : Con := ⟨H.p, H.r, F⟩
theorem ok : ConOk P_ gl 112 c := co H func112 (.cons F176.ok .nil) rn
end F112
namespace F62
def Rr (f a b : Int) (g : LX) (h : LU) : Option (LX × Int) :=
if (Bn f 0) then
some (([] : LX), f)
else
(fun u : Option (LX × Int) =>
(fun v : Option (LX × Int) =>
(fun w : Option (LX × Int) =>
both (
v) [
w,
w]) (
both (
u) [
v])) (
bo (
u))) (
(Ih a b g h).bind fun m =>
(Kv a b m).bind fun (n, o) =>
some (n, o))
theorem Ain : @Rr = @Dk := by
  unfold Rr Dk
  try simp only [Af8, Xd, Xe]
  all_goals
    repeat (refine funext fun _ => ?_)
    repeat' first
      | with_reducible rfl
      | with_reducible refine Ev ?_ ?_
      | with_reducible refine Eu ?_ ?_ ?_
      | with_reducible refine En ?_ ?_ ?_ ?_
      | ((with_reducible refine Hm ?_ ?_); focus (intro h; first | (subst h; rfl) | (simp only [h]; rfl) | (simp [Db, Ac, h]; done)))
      | with_reducible refine Hu fun x => ?_
      | with_reducible refine Mi (fun _ => ?_) (fun _ => ?_)
      | (refine Cd (fun h => by simp only [h, Hx, Br, Bm, ite_self]) (fun x h => ?_); (try simp only [h, Br]))
      | (refine Da (fun h => ?_) (fun h => ?_) <;> simp only [h, if_true, if_false, Bool.false_eq_true])
abbrev R_ := (LX × Int)
noncomputable def H : Hd := ⟨[.agg [Si, Si], .lf (.vec 16 (.int .i32)) none, Si, Sb], [Sw, Si], (.seq .d (.seq .d (.seq .d (.cut [4, 5, 10, 11] [] .d (.seq .d (.seq (.mode false) .d)))))), ⟨[(109, F109.c), (110, F110.c), (111, F111.c), (112, F112.c), (113, F113.c)], gl, false⟩, [], f62⟩
def x2 (f a b : Int) (g : LX) (h : LU) : Option R_ := H.e P_ [r,r,r,r] ⟨[(4, .ptr 0 []), (5, .ptr 1 []), (10, .own 2), (11, vi f)], [.box 64 (.agg [vi a, vi b]), .box 95 (.val (.vec 16 (.int .i32)) g), Av 194 h], []⟩
theorem e2 : x2 = Fa := Eq.trans (b := Rr) (by kernel_rfl) (by rw [Ain]; rfl)
noncomputable def F := u5 Ig
theorem rn x : H.u P_ x = F x := Eq.trans (b := u5 (Lh x2) x) (by kernel_rfl) (by simp only [e2] <;> rfl)
noncomputable def c : Con := ⟨H.p, H.r, F⟩
theorem ok : ConOk P_ gl 62 c := co H func62 (.cons F109.ok (.cons F110.ok (.cons F111.ok (.cons F112.ok (.cons F113.ok .nil))))) rn
end F62
namespace F198
abbrev R_ := LB
noncomputable def H : Hd := ⟨[Si, Sx], [Ob 5], (.seq .d (.seq .d (.seq .d (.cut [0, 5] [] .d .d)))), ⟨[(234, F234.c)], gl, false⟩, [], f198⟩
def x2 (a b : Int) : Option R_ := H.e P_ [r,r,r,r] ⟨[(0, vi a), (5, vi b)], [], []⟩
theorem e2 : x2 = Ic := by kernel_rfl
noncomputable def F := u2 Yt
theorem rn x : H.u P_ x = F x := Eq.trans (b := u2 (Zh x2) x) (by kernel_rfl) (by simp only [e2] <;> rfl)
noncomputable def c : Con := ⟨H.p, H.r, F⟩
theorem ok : ConOk P_ gl 198 c := co H func198 (.cons F234.ok .nil) rn
end F198
namespace F137
abbrev R_ := (LB × Int)
noncomputable def H : Hd := ⟨[Si, Sw], [Ob 5, Si], (.seq .d (.seq .d (.seq .d (.cut [6] [] (.seq .d (.blk (.loop [0, 1, 6, 7] [⟨6, [], .own 5 (.int .u8)⟩] .d))) .d)))), ⟨[(176, F176.c), (198, F198.c)], gl, false⟩, [], f137⟩
def t4 (f : Int) (a : LX) (g : Int) (b : LB) : S := ⟨[(0, vi f), (1, vw a), (6, .own 0), (7, vi g)], [Ab 5 b], []⟩
def z4 : Nat → S → Option R_ := H.i P_ [r,r,r,l,r,d]
def x6 (b : LB) : Option R_ := H.e P_ [r,r,r,r] ⟨[(6, .own 0)], [Ab 5 b], []⟩
def x4 (f : Int) (a : LX) (g : Int) (b : LB) : Option R_ := H.e P_ [r,r,r,l,r,d] (t4 f a g b)
theorem e6 : x6 = Ady := by kernel_rfl
theorem i4 (f : Int) (a : LX) : ∀ (q : Nat) (g : Int) (b : LB), z4 q (t4 f a g b) = Fz f a q g b :=
 ind (fun _ _ => by kernel_rfl) fun q ih g b => Eq.trans (b := Mz x6 (fun g b => (z4 q) (t4 f a g b)) f a g b) (by kernel_rfl) (by simp only [e6, ih] <;> rfl)
theorem e4 : x4 = Adz := by funext f a g b; exact Eq.trans (by kernel_rfl) ((i4 f a Bv g b).trans (by rw [Am]; rfl))
noncomputable def F := u2 Tf
theorem rn x : H.u P_ x = F x := Eq.trans (b := u2 (Vd x4) x) (by kernel_rfl) (by simp only [e4] <;> rfl)
noncomputable def c : Con := ⟨H.p, H.r, F⟩
theorem ok : ConOk P_ gl 137 c := co H func137 (.cons F176.ok (.cons F198.ok .nil)) rn
end F137
namespace F87
abbrev R_ := (LB × Int)
noncomputable def H : Hd := ⟨[.agg [Ss, Sb, .agg [Si, Si, Si, Si, Si], Sl, Si, Sb, Sz, Si]], [Ob 5, Si], (.seq .d (.seq .d (.seq .d (.seq .d (.cut [1, 7, 8] [] .d .d))))), ⟨[(61, F61.c), (62, F62.c), (83, F83.c), (135, F135.c), (137, F137.c)], gl, false⟩, [], f87⟩
def x2 (o : LX) (f : Int) (p g : LB) (h k a m n : Int) (u : LI) (b : Int) (v : LB) (w : Bool) (y : Int) : Option R_ := H.e P_ [r,r,r,r,r] ⟨[(1, .ptr 0 []), (7, vw o), (8, vi f)], [.box 28 (.agg [vs p, vb g, .agg [vi h, vi k, vi a, vi m, vi n], vl u, vi b, vb v, vt w, vi y])], []⟩
theorem e2 : x2 = Li := by kernel_rfl
noncomputable def F := u12 Lg
theorem rn x : H.u P_ x = F x := Eq.trans (b := u12 (Ll x2) x) (by kernel_rfl) (by simp only [e2] <;> rfl)
noncomputable def c : Con := ⟨H.p, H.r, F⟩
theorem ok : ConOk P_ gl 87 c := co H func87 (.cons F61.ok (.cons F62.ok (.cons F83.ok (.cons F135.ok (.cons F137.ok .nil))))) rn
end F87
namespace F45
def Vp (g a : LB) (m o p u v : Int) (b : LI) (f : Int) (n : LB) (h : Bool) (k : Int) : Option (LB × LB × Int × Int × Int × Int × Int × LI × Int × LB × Bool × Int × Int) :=
if (geq (Ac b) 0) then
(Kw a m o p u v g).bind fun (ag, ak, w) =>
if (Bn w 0) then
some (g, a, m, o, p, u, v, b, f, n, h, k, w)
else
(Bb a ag (Ac a)).bind fun al =>
some (g, al, m, o, p, u, v, ak, f, n, h, k, 0)
else
if (geq f (Ac b)) then
if (Gf (Ac a) 4000) then
some (g, a, m, o, p, u, v, b, f, n, h, k, 38)
else
some (g, a, m, o, p, u, v, b, f, n, h, k, (-1 : Int))
else
(Lg g a m o p u v b f n h k).bind fun (am, y) =>
if (Bn y 0) then
some (g, a, m, o, p, u, v, b, f, n, h, k, y)
else
(Db ([] : LB) n).bind fun an =>
(Db an am).bind fun ah =>
(fun aj : Option (LB × LB × Int × Int × Int × Int × Int × LI × Int × LB × Bool × Int × Int) =>
(fun ap : Option (LB × LB × Int × Int × Int × Int × Int × LI × Int × LB × Bool × Int × Int) =>
(fun ao : Option (LB × LB × Int × Int × Int × Int × Int × LI × Int × LB × Bool × Int × Int) =>
(fun aq : Option (LB × LB × Int × Int × Int × Int × Int × LI × Int × LB × Bool × Int × Int) =>
(fun ar : Option (LB × LB × Int × Int × Int × Int × Int × LI × Int × LB × Bool × Int × Int) =>
(fun au : Option (LB × LB × Int × Int × Int × Int × Int × LI × Int × LB × Bool × Int × Int) =>
both (
both (
aq) [
aq,
au]) [
ap,
ap,
both (
au) [
ar,
ar]]) (
bo (
ao))) (
both (
ao) [
aj])) (
both (
aj) [
ao])) (
(Al b f).bind fun ad =>
(Bb a ad (Ac a)).bind fun ae =>
some (g, ae, m, o, p, u, v, b, (Af f 1), ah, h, k, 0))) (
(fun av : Option (LB × LB × Int × Int × Int × Int × Int × LI × Int × LB × Bool × Int × Int) =>
both (
both (
aj) [
av]) [
(Al b f).bind fun ad =>
(fun ax : Option (LB × LB × Int × Int × Int × Int × Int × LI × Int × LB × Bool × Int × Int) =>
(fun ay : Option (LB × LB × Int × Int × Int × Int × Int × LI × Int × LB × Bool × Int × Int) =>
bo2 (
ay)) (
bo (
ax))) (
(Bb a ad (Ac a)).bind fun ae =>
some (g, ae, m, o, p, u, v, b, (Af f 1), ah, h, k, 0)),
both (
av) [
aj]]) (
(Al b f).bind fun ad =>
(Bb a ad (Ac a)).bind fun ae =>
some (g, ae, m, o, p, u, v, b, (Af f 1), ah, h, k, 0)))) (
(Al b f).bind fun ad =>
(fun az : Option (LB × LB × Int × Int × Int × Int × Int × LI × Int × LB × Bool × Int × Int) =>
bo (
az)) (
(Bb a ad (Ac a)).bind fun ae =>
some (g, ae, m, o, p, u, v, b, (Af f 1), ah, h, k, 0)))
theorem Ak0 : @Vp = @Em := by
  unfold Vp Em
  try simp only [Af8, Xd, Xe]
  all_goals
    repeat (refine funext fun _ => ?_)
    repeat' first
      | with_reducible rfl
      | with_reducible refine Ev ?_ ?_
      | with_reducible refine Eu ?_ ?_ ?_
      | with_reducible refine En ?_ ?_ ?_ ?_
      | ((with_reducible refine Hm ?_ ?_); focus (intro h; first | (subst h; rfl) | (simp only [h]; rfl) | (simp [Db, Ac, h]; done)))
      | with_reducible refine Hu fun x => ?_
      | with_reducible refine Mi (fun _ => ?_) (fun _ => ?_)
      | (refine Cd (fun h => by simp only [h, Hx, Br, Bm, ite_self]) (fun x h => ?_); (try simp only [h, Br]))
      | (refine Da (fun h => ?_) (fun h => ?_) <;> simp only [h, if_true, if_false, Bool.false_eq_true])
def Uo (j3 : LB → LB → Int → Int → Int → Int → Int → LI → Int → LB → Bool → Int → Option (LB × LB × Int × Int × Int × Int × Int × LI × Int × LB × Bool × Int × Int)) (j4 : LB → LB → Int → Int → Int → Int → Int → LI → Int → LB → Bool → Int → Option (LB × LB × Int × Int × Int × Int × Int × LI × Int × LB × Bool × Int × Int)) (g a : LB) (m o p u v : Int) (b : LI) (f : Int) (n : LB) (h : Bool) (k : Int) : Option (LB × LB × Int × Int × Int × Int × Int × LI × Int × LB × Bool × Int × Int) :=
if (geq m 0) then
(Jo a).bind fun (ag, aa, w, ab, ac, y, ai) =>
if (Bn ai 0) then
some (g, a, m, o, p, u, v, b, f, n, h, k, ai)
else
both (
(Bb a ag (Ac a)).bind fun af =>
bo (
j3 g af aa w ab ac y b f n h k)) [
(Bb a ag (Ac a)).bind fun af =>
j3 g af aa w ab ac y b f n h k]
else
j4 g a m o p u v b f n h k
theorem Alg : @Uo = @Cq := by
  unfold Uo Cq
  repeat (refine funext fun _ => ?_)
  repeat' first
    | with_reducible rfl
    | with_reducible refine Ev ?_ ?_
    | with_reducible refine Eu ?_ ?_ ?_
    | with_reducible refine En ?_ ?_ ?_ ?_
    | ((with_reducible refine Hm ?_ ?_); focus (intro h; first | (subst h; rfl) | (simp only [h]; rfl) | (simp [Db, Ac, h]; done)))
    | with_reducible refine Hu fun x => ?_
    | with_reducible refine Mi (fun _ => ?_) (fun _ => ?_)
    | (refine Cd (fun h => by simp only [h, Hx, Br, Bm, ite_self]) (fun x h => ?_); (try simp only [h, Br]))
    | (refine Da (fun h => ?_) (fun h => ?_) <;> simp only [h, if_true, if_false, Bool.false_eq_true])
abbrev R_ := (LB × LB × Int × Int × Int × Int × Int × LI × Int × LB × Bool × Int × Int)
noncomputable def H : Hd := ⟨[.agg [Ss, Sb, .agg [Si, Si, Si, Si, Si], Sl, Si, Sb, Sz, Si]], [.agg [Ss, Sb, .agg [Si, Si, Si, Si, Si], Sl, Si, Sb, Sz, Si], Si], (.seq .d (.cut [1, 2] [] (.seq .d (.cond (.seq .d (.seq .d (.cut [1, 2, 5] [] (.mode false) .d))) .d)) (.seq .d (.seq .d (.seq .d (.seq .d (.seq .d (.seq (.mode false) .d)))))))), ⟨[(81, F81.c), (85, F85.c), (86, F86.c), (87, F87.c)], gl, false⟩, [], f45⟩
def x4 (g a : LB) (m o p u v : Int) (b : LI) (f : Int) (n : LB) (h : Bool) (k : Int) : Option R_ := H.e P_ [r,r] ⟨[(1, .ptr 0 []), (2, .ptr 1 [])], [.box 28 (.agg [vs g, vb a, .agg [vi m, vi o, vi p, vi u, vi v], vl b, vi f, vb n, vt h, vi k]), .box 28 (.agg [vs ([] : LB), .nils, .agg [vi 0, vi 0, vi 0, vi 0, vi 0], .nils, vi 0, .nils, vt false, vi 0])], []⟩
def x3 (g af : LB) (aa w ab ac y : Int) (b : LI) (f : Int) (n : LB) (h : Bool) (k : Int) : Option R_ := H.e P_ [r,l,r,l,r,r,r] ⟨[(1, .ptr 0 []), (2, .ptr 1 []), (5, .ptr 2 [])], [.box 28 (.agg [vs g, vb af, .agg [vi aa, vi w, vi ab, vi ac, vi y], vl b, vi f, vb n, vt h, vi k]), .box 28 (.agg [vs ([] : LB), .nils, .agg [vi 0, vi 0, vi 0, vi 0, vi 0], .nils, vi 0, .nils, vt false, vi 0]), .box 24 (.agg [vi aa, vi w, vi ab, vi ac, vi y])], []⟩
theorem e4 : x4 = Gy := Eq.trans (b := Vp) (by kernel_rfl) (by rw [Ak0]; rfl)
theorem e3 : x3 = Ot := by kernel_rfl
noncomputable def F := u12 cadenzaref37_take
theorem rn x : H.u P_ x = F x := Eq.trans (b := u12 (Uo x3 x4) x) (by kernel_rfl) (by unfold F; rw [Alg]; simp only [e3, e4] <;> rfl)
noncomputable def c : Con := ⟨H.p, H.r, F⟩
theorem ok : ConOk P_ gl 45 c := co H func45 (.cons F81.ok (.cons F85.ok (.cons F86.ok (.cons F87.ok .nil)))) rn
end F45
namespace F39
abbrev R_ := Bool
noncomputable def H : Hd := ⟨[.agg [Ss, Sb, .agg [Si, Si, Si, Si, Si], Sl, Si, Sb, Sz, Si]], [Sz], (.seq .d (.cut [1] [] (.seq .d (.cond .d (.cut [1] [] .d .d))) .d)), ⟨[(45, F45.c), (80, F80.c), (81, F81.c), (82, F82.c), (83, F83.c), (84, F84.c)], gl, false⟩, [], f39⟩
def x4 (o p : LB) (b f g h k : Int) (m : LI) (a : Int) (n : LB) (u : Bool) (v : Int) : Option R_ := H.e P_ [r,r] ⟨[(1, .ptr 0 [])], [.box 28 (.agg [vs o, vb p, .agg [vi b, vi f, vi g, vi h, vi k], vl m, vi a, vb n, vt u, vi v])], []⟩
def x3 (o p : LB) (b f g h k : Int) (m : LI) (a : Int) (n : LB) (u : Bool) (v : Int) : Option R_ := H.e P_ [r,l,r,r,r] ⟨[(1, .ptr 0 [])], [.box 28 (.agg [vs o, vb p, .agg [vi b, vi f, vi g, vi h, vi k], vl m, vi a, vb n, vt u, vi v])], []⟩
theorem e4 : x4 = Bu := by kernel_rfl
theorem e3 : x3 = Ut := Eq.trans (b := Vi x4) (by kernel_rfl) (by simp only [e4] <;> rfl)
noncomputable def F := u12 Mj
theorem rn x : H.u P_ x = F x := Eq.trans (b := u12 (Vg x4 x3) x) (by kernel_rfl) (by simp only [e4, e3] <;> rfl)
noncomputable def c : Con := ⟨H.p, H.r, F⟩
theorem ok : ConOk P_ gl 39 c := co H func39 (.cons F45.ok (.cons F80.ok (.cons F81.ok (.cons F82.ok (.cons F83.ok (.cons F84.ok .nil)))))) rn
end F39
namespace F40
noncomputable def H : Hd := ⟨[Si], [Sz], .d, ⟨[], gl, false⟩, [], f40⟩
noncomputable def F := Oh
theorem rn x : H.u P_ x = F x := by kernel_rfl
noncomputable def c : Con := ⟨H.p, H.r, F⟩
theorem ok : ConOk P_ gl 40 c := co H func40 .nil rn
end F40
namespace F11
noncomputable def H : Hd := ⟨[.agg [Ss, Sb, .agg [Si, Si, Si, Si, Si], Sl, Si, Sb, Sz, Si]], [Si], .d, ⟨[(39, F39.c), (40, F40.c)], gl, false⟩, [], f11⟩
noncomputable def F := u12 Ix
theorem rn x : H.u P_ x = F x := by kernel_rfl
noncomputable def c : Con := ⟨H.p, H.r, F⟩
theorem ok : ConOk P_ gl 11 c := co H func11 (.cons F39.ok (.cons F40.ok .nil)) rn
end F11
namespace F44
noncomputable def H : Hd := ⟨[.agg [Ss, Sb, .agg [Si, Si, Si, Si, Si], Sl, Si, Sb, Sz, Si]], [Si], .d, ⟨[], gl, false⟩, [], f44⟩
noncomputable def F := u12 Jp
theorem rn x : H.u P_ x = F x := by kernel_rfl
noncomputable def c : Con := ⟨H.p, H.r, F⟩
theorem ok : ConOk P_ gl 44 c := co H func44 .nil rn
end F44
namespace F49
def Us (a m : LB) (n o p u v : Int) (w : LI) (y : Int) (b : LB) (aa : Bool) (ab : Int) : Option (LB × LB × Int × Int × Int × Int × Int × LI × Int × LB × Bool × Int) :=
(fun g : Option (LB × LB × Int × Int × Int × Int × Int × LI × Int × LB × Bool × Int) =>
(fun h : Option (LB × LB × Int × Int × Int × Int × Int × LI × Int × LB × Bool × Int) =>
(fun k : Option (LB × LB × Int × Int × Int × Int × Int × LI × Int × LB × Bool × Int) =>
both (
h) [
k,
k]) (
both (
g) [
h])) (
bo (
g))) (
(Db ([] : LB) b).bind fun f =>
some (a, ([] : LB), 0, 0, 0, 0, 0, ([] : LI), 0, f, false, 0))
theorem Ala : @Us = @Hp := by
  unfold Us Hp
  try simp only [Af8, Xd, Xe]
  all_goals
    repeat (refine funext fun _ => ?_)
    repeat' first
      | with_reducible rfl
      | with_reducible refine Ev ?_ ?_
      | with_reducible refine Eu ?_ ?_ ?_
      | with_reducible refine En ?_ ?_ ?_ ?_
      | ((with_reducible refine Hm ?_ ?_); focus (intro h; first | (subst h; rfl) | (simp only [h]; rfl) | (simp [Db, Ac, h]; done)))
      | with_reducible refine Hu fun x => ?_
      | with_reducible refine Mi (fun _ => ?_) (fun _ => ?_)
      | (refine Cd (fun h => by simp only [h, Hx, Br, Bm, ite_self]) (fun x h => ?_); (try simp only [h, Br]))
      | (refine Da (fun h => ?_) (fun h => ?_) <;> simp only [h, if_true, if_false, Bool.false_eq_true])
noncomputable def H : Hd := ⟨[.agg [Ss, Sb, .agg [Si, Si, Si, Si, Si], Sl, Si, Sb, Sz, Si]], [.agg [Ss, Ob 5, .agg [Si, Si, Si, Si, Si], Ol 3, Si, Ob 5, Sz, Si]], (.seq .d (.seq (.mode false) .d)), ⟨[], gl, false⟩, [], f49⟩
noncomputable def F := u12 Hp
theorem rn x : H.u P_ x = F x := Eq.trans (b := u12 Us x) (by kernel_rfl) (by rw [Ala]; rfl)
noncomputable def c : Con := ⟨H.p, H.r, F⟩
theorem ok : ConOk P_ gl 49 c := co H func49 .nil rn
end F49
namespace F46
noncomputable def H : Hd := ⟨[.agg [Ss, Sb, .agg [Si, Si, Si, Si, Si], Sl, Si, Sb, Sz, Si], Si], [.agg [Ss, Ob 5, .agg [Si, Si, Si, Si, Si], Ol 3, Si, Ob 5, Sz, Si], Si], .d, ⟨[(49, F49.c)], gl, false⟩, [], f46⟩
noncomputable def F := u13 Lb
theorem rn x : H.u P_ x = F x := by kernel_rfl
noncomputable def c : Con := ⟨H.p, H.r, F⟩
theorem ok : ConOk P_ gl 46 c := co H func46 (.cons F49.ok .nil) rn
end F46
namespace F16
abbrev R_ := (LB × LB × Int × Int × Int × Int × Int × LI × Int × LB × Bool × Int × Int)
noncomputable def H : Hd := ⟨[.agg [Ss, Sb, .agg [Si, Si, Si, Si, Si], Sl, Si, Sb, Sz, Si], Sb], [.agg [Ss, Ob 5, .agg [Si, Si, Si, Si, Si], Ol 3, Si, Ob 5, Sz, Si], Si], (.seq .d (.seq .d (.seq .d (.seq .d (.seq .d (.blk (.loop [2, 4] [⟨2, [1], .ro (.int .u8)⟩, ⟨2, [3], .ro (.int .i64)⟩, ⟨2, [5], .ro (.int .u8)⟩] .d))))))), ⟨[(11, F11.c), (14, F14.c), (44, F44.c), (45, F45.c), (46, F46.c)], gl, false⟩, [], f16⟩
def t3 (a b : LB) (f g h k m : Int) (n : LI) (o : Int) (p : LB) (u : Bool) (v : Int) : S := ⟨[(2, .ptr 0 []), (4, .ptr 1 [])], [.box 28 (.agg [vs a, vb b, .agg [vi f, vi g, vi h, vi k, vi m], vl n, vi o, vb p, vt u, vi v]), .box 28 (.agg [vs ([] : LB), .nils, .agg [vi 0, vi 0, vi 0, vi 0, vi 0], .nils, vi 0, .nils, vt false, vi 0])], []⟩
def z3 : Nat → S → Option R_ := H.i P_ [r,r,r,r,r,d]
def x3 (a b : LB) (f g h k m : Int) (n : LI) (o : Int) (p : LB) (u : Bool) (v : Int) : Option R_ := H.e P_ [r,r,r,r,r,d] (t3 a b f g h k m n o p u v)
theorem i3 : ∀ (q : Nat) (a b : LB) (f g h k m : Int) (n : LI) (o : Int) (p : LB) (u : Bool) (v : Int), z3 q (t3 a b f g h k m n o p u v) = Jn q a b f g h k m n o p u v :=
 ind (fun _ _ _ _ _ _ _ _ _ _ _ _ => by kernel_rfl) fun q ih a b f g h k m n o p u v => Eq.trans (b := Xy (fun a b f g h k m n o p u v => (z3 q) (t3 a b f g h k m n o p u v)) a b f g h k m n o p u v) (by kernel_rfl) (by simp only [ih] <;> rfl)
theorem e3 : x3 = Agh := by funext a b f g h k m n o p u v; exact Eq.trans (by kernel_rfl) ((i3 Bv a b f g h k m n o p u v).trans (by rw [Am]; rfl))
noncomputable def F := u13 Wi
theorem rn x : H.u P_ x = F x := Eq.trans (b := u13 (Yb x3) x) (by kernel_rfl) (by simp only [e3] <;> rfl)
noncomputable def c : Con := ⟨H.p, H.r, F⟩
theorem ok : ConOk P_ gl 16 c := co H func16 (.cons F11.ok (.cons F14.ok (.cons F44.ok (.cons F45.ok (.cons F46.ok .nil))))) rn
end F16
namespace F103
abbrev R_ := (Int × Int)
noncomputable def H : Hd := ⟨[Sb], [Si, Si], (.seq .d (.seq .d (.cut [0, 4] [] .d .d))), ⟨[(148, F148.c), (163, F163.c), (164, F164.c), (165, F165.c)], gl, false⟩, [], f103⟩
def x2 (a : LB) : Option R_ := H.e P_ [r,r,r] ⟨[(0, vb a), (4, vi (Ao (Ac a) (32 : Int)))], [], []⟩
theorem e2 : x2 = Apz := by kernel_rfl
noncomputable def F := Ati
theorem rn x : H.u P_ x = F x := Eq.trans (b := Ao5 x2 x) (by kernel_rfl) (by simp only [e2] <;> rfl)
noncomputable def c : Con := ⟨H.p, H.r, F⟩
theorem ok : ConOk P_ gl 103 c := co H func103 (.cons F148.ok (.cons F163.ok (.cons F164.ok (.cons F165.ok .nil)))) rn
end F103
namespace F56
abbrev R_ := (Int × Int)
abbrev K_ := S → Option R_
noncomputable def H : Hd := ⟨[Sb], [Si, Si], (.seq .d (.seq .d (.seq .d (.seq .d (.cut [5] [] (.blk (.loop [1, 4, 5] [] (.seq .d (.cut [1, 4, 5] [] (.blk (.cut [1, 4, 5, 6] [] (.keep [1, 4, 5, 6, 16, 17] true) .d)) .d)))) .d))))), ⟨[(103, F103.c)], gl, false⟩, [(102, .d)], f56⟩
def t8 (a : Int) (b : LB) : S := ⟨[(1, .ptr 0 []), (4, .fn 102 [.ptr 0 []]), (5, vi a)], [.box 22 (vb b)], []⟩
def z8 : Nat → S → Option R_ := H.i P_ [r,r,r,r,l,d]
def x14 (a : Int) : Option R_ := H.e P_ [r,r,r,r,r] ⟨[(5, vi a)], [], []⟩
def x12 (kn8 : K_) (a : Int) (g : LB) : Option R_ := H.e P_ [r,r,r,r,l,d,(lp kn8),r,r] ⟨[(1, .ptr 0 []), (4, .fn 102 [.ptr 0 []]), (5, vi a)], [.box 22 (vb g)], []⟩
def x11 (kn8 : K_) (a f : Int) (b : LB) : Option R_ := H.e P_ [r,r,r,r,l,d,(lp kn8),r,l,d,r] ⟨[(1, .ptr 0 []), (4, .fn 102 [.ptr 0 []]), (5, vi a), (6, vi f)], [.box 22 (vb b)], []⟩
def x8 (a : Int) (b : LB) : Option R_ := H.e P_ [r,r,r,r,l,d] (t8 a b)
theorem e14 : x14 = Alz := by kernel_rfl
theorem e12 (kn8 : K_) : x12 kn8 = Aez (fun a b => kn8 (t8 a b)) := by kernel_rfl
theorem e11 (kn8 : K_) : x11 kn8 = Ae0 (fun a b => kn8 (t8 a b)) := Eq.trans (b := Aeh (x12 kn8)) (by kernel_rfl) (by simp only [e12] <;> rfl)
theorem i8 : ∀ (q : Nat) (a : Int) (b : LB), z8 q (t8 a b) = Uf q a b :=
 ind (fun _ _ => by kernel_rfl) fun q ih a b => Eq.trans (b := Ag9 (x11 (z8 q)) x14 a b) (by kernel_rfl) (by simp only [e11, e14, ih] <;> rfl)
theorem e8 : x8 = Aoe := by funext a b; exact Eq.trans (by kernel_rfl) ((i8 Bv a b).trans (by rw [Am]; rfl))
noncomputable def F := Ahq
theorem rn x : H.u P_ x = F x := Eq.trans (b := Agy x8 x) (by kernel_rfl) (by simp only [e8] <;> rfl)
noncomputable def c : Con := ⟨H.p, H.r, F⟩
theorem ok : ConOk P_ gl 56 c := cr H func56 (.cons F103.ok .nil) (AnsOk.cons ent102 AnsOk.nil) rn
end F56
namespace F47
noncomputable def H : Hd := ⟨[.agg [Ss, Sb, .agg [Si, Si, Si, Si, Si], Sl, Si, Sb, Sz, Si]], [Si], .d, ⟨[(56, F56.c), (88, Zz), (89, F89.c)], gl, false⟩, [], f47⟩
noncomputable def F := u12 Ab0
theorem rn x : H.u P_ x = F x := by kernel_rfl
noncomputable def c : Con := ⟨H.p, H.r, F⟩
theorem ok : ConOk P_ gl 47 c := co H func47 (.cons F56.ok (.cons Ajm (.cons F89.ok .nil))) rn
end F47
namespace F17
noncomputable def H : Hd := ⟨[.agg [Ss, Sb, .agg [Si, Si, Si, Si, Si], Sl, Si, Sb, Sz, Si]], [.agg [Ss, Ob 5, .agg [Si, Si, Si, Si, Si], Ol 3, Si, Sb, Sz, Si], Si], .d, ⟨[(42, F42.c), (43, F43.c), (47, F47.c)], gl, false⟩, [], f17⟩
noncomputable def F := u12 Adf
theorem rn x : H.u P_ x = F x := by kernel_rfl
noncomputable def c : Con := ⟨H.p, H.r, F⟩
theorem ok : ConOk P_ gl 17 c := co H func17 (.cons F42.ok (.cons F43.ok (.cons F47.ok .nil))) rn
end F17
namespace F114
def Va (j5 : LB → Int → Int → LB → LB → Option (Int × Int)) (a : LB) : Option (Int × Int) :=
(Bb a (Ao (Ac a) 32) (Ac a)).bind fun b =>
(Kh b).bind fun (f, g, n) =>
if (!n) then
some (0, 12)
else
(De f g true).bind fun h =>
both (
if (!(b == h)) then
(De f g false).bind fun m =>
if (b != m) then
some (0, 12)
else
j5 a f g b h
else
j5 a f g b h) [
if (!(b == h)) then
(De f g false).bind fun m =>
(fun v : Option (Int × Int) =>
bo (
v)) (
if (b != m) then
some (0, 12)
else
j5 a f g b h)
else
j5 a f g b h]
theorem Alb : @Va = @Pc := by
  unfold Va Pc
  try simp only [Af8, Xd, Xe]
  all_goals
    repeat (refine funext fun _ => ?_)
    repeat' first
      | with_reducible rfl
      | with_reducible refine Ev ?_ ?_
      | with_reducible refine Eu ?_ ?_ ?_
      | with_reducible refine En ?_ ?_ ?_ ?_
      | ((with_reducible refine Hm ?_ ?_); focus (intro h; first | (subst h; rfl) | (simp only [h]; rfl) | (simp [Db, Ac, h]; done)))
      | with_reducible refine Hu fun x => ?_
      | with_reducible refine Mi (fun _ => ?_) (fun _ => ?_)
      | (refine Cd (fun h => by simp only [h, Hx, Br, Bm, ite_self]) (fun x h => ?_); (try simp only [h, Br]))
      | (refine Da (fun h => ?_) (fun h => ?_) <;> simp only [h, if_true, if_false, Bool.false_eq_true])
abbrev R_ := (Int × Int)
noncomputable def H : Hd := ⟨[Sb], [Si, Si], (.seq .d (.cut [0] [] .d (.seq .d (.seq .d (.seq .d (.seq .d (.cut [0, 5, 6, 8] [] (.seq (.mode false) .d) (.seq .d (.cut [0, 5, 6, 8, 9] [] .d .d))))))))), ⟨[(181, F181.c), (182, F182.c), (183, F183.c)], gl, false⟩, [], f114⟩
def x6 (a : LB) (f g : Int) (b h : LB) (k : Int) : Option R_ := H.e P_ [r,r,r,r,r,r,r,r,r] ⟨[(0, vb a), (5, vi f), (6, vi g), (8, vt (b == h)), (9, vi k)], [], []⟩
def x5 (a : LB) (f g : Int) (b h : LB) : Option R_ := H.e P_ [r,r,r,r,r,r,r] ⟨[(0, vb a), (5, vi f), (6, vi g), (8, vt (b == h))], [], []⟩
def x4 (a : LB) : Option R_ := H.e P_ [r,r] ⟨[(0, vb a)], [], []⟩
theorem e6 : x6 = Oj := by kernel_rfl
theorem e5 : x5 = Og := Eq.trans (b := Pb x6) (by kernel_rfl) (by simp only [e6] <;> rfl)
theorem e4 : x4 = Xp := Eq.trans (b := Va x5) (by kernel_rfl) (by rw [Alb]; simp only [e5] <;> rfl)
noncomputable def F := Wn
theorem rn x : H.u P_ x = F x := Eq.trans (b := Wr x4 x) (by kernel_rfl) (by simp only [e4] <;> rfl)
noncomputable def c : Con := ⟨H.p, H.r, F⟩
theorem ok : ConOk P_ gl 114 c := co H func114 (.cons F181.ok (.cons F182.ok (.cons F183.ok .nil))) rn
end F114
namespace F63
abbrev R_ := (Int × Int)
noncomputable def H : Hd := ⟨[Sb], [Si, Si], (.seq .d (.seq .d (.seq .d (.cut [4] [] (.blk (.loop [0, 4] [] .d)) .d)))), ⟨[(114, F114.c)], gl, false⟩, [], f63⟩
def t4 (b : LB) (a : Int) : S := ⟨[(0, vb b), (4, vi a)], [], []⟩
def z4 : Nat → S → Option R_ := H.i P_ [r,r,r,l,d]
def x6 (a : Int) : Option R_ := H.e P_ [r,r,r,r] ⟨[(4, vi a)], [], []⟩
def x4 (b : LB) (a : Int) : Option R_ := H.e P_ [r,r,r,l,d] (t4 b a)
theorem e6 : x6 = Acu := by kernel_rfl
theorem i4 : ∀ (q : Nat) (b : LB) (a : Int), z4 q (t4 b a) = Hw q b a :=
 ind (fun _ _ => by kernel_rfl) fun q ih b a => Eq.trans (b := To x6 (fun b a => (z4 q) (t4 b a)) b a) (by kernel_rfl) (by simp only [e6, ih] <;> rfl)
theorem e4 : x4 = Ac5 := by funext b a; exact Eq.trans (by kernel_rfl) ((i4 Bv b a).trans (by rw [Am]; rfl))
noncomputable def F := Qg
theorem rn x : H.u P_ x = F x := Eq.trans (b := Ua x4 x) (by kernel_rfl) (by simp only [e4] <;> rfl)
noncomputable def c : Con := ⟨H.p, H.r, F⟩
theorem ok : ConOk P_ gl 63 c := co H func63 (.cons F114.ok .nil) rn
end F63
namespace F48
noncomputable def H : Hd := ⟨[.agg [Ss, Sb, .agg [Si, Si, Si, Si, Si], Sl, Si, Sb, Sz, Si]], [Si], .d, ⟨[(63, F63.c), (90, F90.c), (91, F91.c)], gl, false⟩, [], f48⟩
noncomputable def F := u12 Qo
theorem rn x : H.u P_ x = F x := by kernel_rfl
noncomputable def c : Con := ⟨H.p, H.r, F⟩
theorem ok : ConOk P_ gl 48 c := co H func48 (.cons F63.ok (.cons F90.ok (.cons F91.ok .nil))) rn
end F48
namespace F18
noncomputable def H : Hd := ⟨[.agg [Ss, Sb, .agg [Si, Si, Si, Si, Si], Sl, Si, Sb, Sz, Si]], [.agg [Ss, Ob 5, .agg [Si, Si, Si, Si, Si], Ol 3, Si, Ob 5, Sz, Si], Si], .d, ⟨[(11, F11.c), (14, F14.c), (44, F44.c), (46, F46.c), (48, F48.c), (49, F49.c)], gl, false⟩, [], f18⟩
noncomputable def F := u12 Qh
theorem rn x : H.u P_ x = F x := by kernel_rfl
noncomputable def c : Con := ⟨H.p, H.r, F⟩
theorem ok : ConOk P_ gl 18 c := co H func18 (.cons F11.ok (.cons F14.ok (.cons F44.ok (.cons F46.ok (.cons F48.ok (.cons F49.ok .nil)))))) rn
end F18
namespace F19
noncomputable def H : Hd := ⟨[.agg [Ss, Sb, .agg [Si, Si, Si, Si, Si], Sl, Si, Sb, Sz, Si], Si], [.agg [Ss, Ob 5, .agg [Si, Si, Si, Si, Si], Ol 3, Si, Sb, Sz, Si], Ob 5, Si], .d, ⟨[(10, F10.c), (35, F35.c), (50, F50.c)], gl, false⟩, [], f19⟩
noncomputable def F := u13 Aff
theorem rn x : H.u P_ x = F x := by kernel_rfl
noncomputable def c : Con := ⟨H.p, H.r, F⟩
theorem ok : ConOk P_ gl 19 c := co H func19 (.cons F10.ok (.cons F35.ok (.cons F50.ok .nil))) rn
end F19
namespace F20
noncomputable def H : Hd := ⟨[.agg [Ss, Sb, .agg [Si, Si, Si, Si, Si], Sl, Si, Sb, Sz, Si], Si], [.agg [Ss, Ob 5, .agg [Si, Si, Si, Si, Si], Ol 3, Si, Sb, Sz, Si], Sb, Si], .d, ⟨[(11, F11.c), (14, F14.c)], gl, false⟩, [], f20⟩
noncomputable def F := u13 So
theorem rn x : H.u P_ x = F x := by kernel_rfl
noncomputable def c : Con := ⟨H.p, H.r, F⟩
theorem ok : ConOk P_ gl 20 c := co H func20 (.cons F11.ok (.cons F14.ok .nil)) rn
end F20
namespace F41
abbrev R_ := Bool
noncomputable def H : Hd := ⟨[Sl, Sl], [Sz], (.seq .d (.seq .d (.cut [] [] (.seq .d (.blk (.loop [0, 1, 5] [] .d))) .d))), ⟨[], gl, false⟩, [], f41⟩
def t4 (a b : LI) (f : Int) : S := ⟨[(0, vl a), (1, vl b), (5, vi f)], [], []⟩
def z4 : Nat → S → Option R_ := H.i P_ [r,r,l,r,d]
def x6 : Option R_ := H.e P_ [r,r,r] ⟨[], [], []⟩
def x4 (a b : LI) (f : Int) : Option R_ := H.e P_ [r,r,l,r,d] (t4 a b f)
theorem e6 : x6 = Zw := by kernel_rfl
theorem i4 (a b : LI) : ∀ (q : Nat) (f : Int), z4 q (t4 a b f) = Ds a b q f :=
 ind (fun _ => by kernel_rfl) fun q ih f => Eq.trans (b := Jl x6 (fun f => (z4 q) (t4 a b f)) a b f) (by kernel_rfl) (by simp only [e6, ih] <;> rfl)
theorem e4 : x4 = Aab := by funext a b f; exact Eq.trans (by kernel_rfl) ((i4 a b Bv f).trans (by rw [Am]; rfl))
noncomputable def F := u2 Ms
theorem rn x : H.u P_ x = F x := Eq.trans (b := u2 (Pq x4) x) (by kernel_rfl) (by simp only [e4] <;> rfl)
noncomputable def c : Con := ⟨H.p, H.r, F⟩
theorem ok : ConOk P_ gl 41 c := co H func41 .nil rn
end F41
namespace F12
noncomputable def H : Hd := ⟨[.agg [Ss, Sb, .agg [Si, Si, Si, Si, Si], Sl, Si, Sb, Sz, Si], .agg [Ss, Sb, .agg [Si, Si, Si, Si, Si], Sl, Si, Sb, Sz, Si]], [Sz], .d, ⟨[(41, F41.c)], gl, false⟩, [], f12⟩
noncomputable def F (x : LB × LB × Int × Int × Int × Int × Int × LI × Int × LB × Bool × Int × LB × LB × Int × Int × Int × Int × Int × LI × Int × LB × Bool × Int) := Cs x.1 x.2.1 x.2.2.1 x.2.2.2.1 x.2.2.2.2.1 x.2.2.2.2.2.1 x.2.2.2.2.2.2.1 x.2.2.2.2.2.2.2.1 x.2.2.2.2.2.2.2.2.1 x.2.2.2.2.2.2.2.2.2.1 x.2.2.2.2.2.2.2.2.2.2.1 x.2.2.2.2.2.2.2.2.2.2.2.1 x.2.2.2.2.2.2.2.2.2.2.2.2.1 x.2.2.2.2.2.2.2.2.2.2.2.2.2.1 x.2.2.2.2.2.2.2.2.2.2.2.2.2.2.1 x.2.2.2.2.2.2.2.2.2.2.2.2.2.2.2.1 x.2.2.2.2.2.2.2.2.2.2.2.2.2.2.2.2.1 x.2.2.2.2.2.2.2.2.2.2.2.2.2.2.2.2.2.1 x.2.2.2.2.2.2.2.2.2.2.2.2.2.2.2.2.2.2.1 x.2.2.2.2.2.2.2.2.2.2.2.2.2.2.2.2.2.2.2.1 x.2.2.2.2.2.2.2.2.2.2.2.2.2.2.2.2.2.2.2.2.1 x.2.2.2.2.2.2.2.2.2.2.2.2.2.2.2.2.2.2.2.2.2.1 x.2.2.2.2.2.2.2.2.2.2.2.2.2.2.2.2.2.2.2.2.2.2.1 x.2.2.2.2.2.2.2.2.2.2.2.2.2.2.2.2.2.2.2.2.2.2.2
theorem rn (x : LB × LB × Int × Int × Int × Int × Int × LI × Int × LB × Bool × Int × LB × LB × Int × Int × Int × Int × Int × LI × Int × LB × Bool × Int) : H.u P_ x = F x := by kernel_rfl
noncomputable def c : Con := ⟨H.p, H.r, F⟩
theorem ok : ConOk P_ gl 12 c := co H func12 (.cons F41.ok .nil) rn
end F12
namespace F4
abbrev R_ := Bool
noncomputable def H : Hd := ⟨[.agg [Ss, Sb, .agg [Si, Si, Si, Si, Si], Sl, Si, Sb, Sz, Si], Sb, Si], [Sz], (.seq .d (.cut [1, 2, 3] [] .d .d)), ⟨[(7, F7.c), (12, F12.c), (13, F13.c), (14, F14.c), (15, F15.c), (16, F16.c), (17, F17.c), (18, F18.c), (19, F19.c), (20, F20.c)], gl, false⟩, [], f4⟩
def x2 (w : LB) (al : Int) (a b : LB) (f g h k m : Int) (n : LI) (o : Int) (p : LB) (u : Bool) (v : Int) : Option R_ := H.e P_ [r,r] ⟨[(1, vb w), (2, vi al), (3, .ptr 0 [])], [.box 28 (.agg [vs a, vb b, .agg [vi f, vi g, vi h, vi k, vi m], vl n, vi o, vb p, vt u, vi v])], []⟩
theorem e2 : x2 = Ko := by kernel_rfl
noncomputable def F (x : LB × LB × Int × Int × Int × Int × Int × LI × Int × LB × Bool × Int × LB × Int) := Nj x.1 x.2.1 x.2.2.1 x.2.2.2.1 x.2.2.2.2.1 x.2.2.2.2.2.1 x.2.2.2.2.2.2.1 x.2.2.2.2.2.2.2.1 x.2.2.2.2.2.2.2.2.1 x.2.2.2.2.2.2.2.2.2.1 x.2.2.2.2.2.2.2.2.2.2.1 x.2.2.2.2.2.2.2.2.2.2.2.1 x.2.2.2.2.2.2.2.2.2.2.2.2.1 x.2.2.2.2.2.2.2.2.2.2.2.2.2
theorem rn (x : LB × LB × Int × Int × Int × Int × Int × LI × Int × LB × Bool × Int × LB × Int) : H.u P_ x = F x := Eq.trans (b := Km x2 x.1 x.2.1 x.2.2.1 x.2.2.2.1 x.2.2.2.2.1 x.2.2.2.2.2.1 x.2.2.2.2.2.2.1 x.2.2.2.2.2.2.2.1 x.2.2.2.2.2.2.2.2.1 x.2.2.2.2.2.2.2.2.2.1 x.2.2.2.2.2.2.2.2.2.2.1 x.2.2.2.2.2.2.2.2.2.2.2.1 x.2.2.2.2.2.2.2.2.2.2.2.2.1 x.2.2.2.2.2.2.2.2.2.2.2.2.2) (by kernel_rfl) (by simp only [e2] <;> rfl)
noncomputable def c : Con := ⟨H.p, H.r, F⟩
theorem ok : ConOk P_ gl 4 c := co H func4 (.cons F7.ok (.cons F12.ok (.cons F13.ok (.cons F14.ok (.cons F15.ok (.cons F16.ok (.cons F17.ok (.cons F18.ok (.cons F19.ok (.cons F20.ok .nil)))))))))) rn
end F4
end
end Go.Proofs.YtnoflhhhiiaclaaGreatDoor
