/- A part of the proof of a statement of this seat (see the text that ends in Proof): PcOk. No conditions of its own. -/
import Derived.Test.YtnoflhhhiiaclaaGreatDoorPcBC
import Derived.Test.YtnoflhhhiiaclaaGreatDoorPcPA
import Derived.Test.YtnoflhhhiiaclaaGreatDoorPcHA
import Derived.Test.YtnoflhhhiiaclaaGreatDoorProg
import Derived.KernelRfl
set_option linter.unusedVariables false
set_option linter.unusedSimpArgs false
set_option maxRecDepth 10000
namespace Go.Proofs.YtnoflhhhiiaclaaGreatDoor
open Go Go.Lv Go.Pl Go.Rx Go.Rx.PS
noncomputable section
def Tryz.g0 : List Value := [.bool true, .int .i64 0]
def Tryz.g1 : List Value := [.bool false, .int .i64 0]
def Tryz.g2 : List Value := [.int .i64 2, .int .i64 2, .int .i64 2, .int .i64 4, .int .i64 4]
def Tryz.g6 : List Value := [.int .u8 0, .int .u8 1, .int .u8 56, .int .u8 2, .int .u8 57, .int .u8 49, .int .u8 28, .int .u8 3, .int .u8 61, .int .u8 58, .int .u8 42, .int .u8 50, .int .u8 38, .int .u8 29, .int .u8 17, .int .u8 4, .int .u8 62, .int .u8 47, .int .u8 59, .int .u8 36, .int .u8 45, .int .u8 43, .int .u8 51, .int .u8 22, .int .u8 53, .int .u8 39, .int .u8 33, .int .u8 30, .int .u8 24, .int .u8 18, .int .u8 12, .int .u8 5, .int .u8 63, .int .u8 55, .int .u8 48, .int .u8 27, .int .u8 60, .int .u8 41, .int .u8 37, .int .u8 16, .int .u8 46, .int .u8 35, .int .u8 44, .int .u8 21, .int .u8 52, .int .u8 32, .int .u8 23, .int .u8 11, .int .u8 54, .int .u8 26, .int .u8 40, .int .u8 15, .int .u8 34, .int .u8 20, .int .u8 31, .int .u8 10, .int .u8 25, .int .u8 14, .int .u8 19, .int .u8 9, .int .u8 13, .int .u8 8, .int .u8 7, .int .u8 6]
def Tryz.gl : List (Nat × List Value) := []
def Tryz.gl_0_1_2_6 : List (Nat × List Value) := [(0, Tryz.g0), (1, Tryz.g1), (2, Tryz.g2), (6, Tryz.g6)]
def Tryz.Bs2 : List (Nat × List Value) := [(2, Tryz.g2)]
def Tryz.Ata : List (Nat × List Value) := [(6, Tryz.g6)]
theorem Tryz.mixed : Tryz.prog.follows .mixedOrders = true := by kernel_rfl
noncomputable abbrev P_ := Tryz.prog
theorem Tryz.cr (H : Hd) {f : Nat} {F : LTy (shL H.p) → Option (LTy (shL H.r))} (hf : P_.funcs[f]? = some H.f) (hT : Alr P_ H.T) (hA : ∀ p ∈ H.s, Ent P_ p.1) (hb : okH H = true) (h : ∀ x, H.u P_ x = F x) : ConOk P_ H.T.gl f ⟨H.p, H.r, F⟩ := Hd.con Tryz.mixed H hf hT hA hb h
theorem Tryz.co (H : Hd) {f : Nat} {F : LTy (shL H.p) → Option (LTy (shL H.r))} (hf : P_.funcs[f]? = some H.f) (hT : Alr P_ H.T) (hb : (H.s.isEmpty && okH H) = true) (h : ∀ x, H.u P_ x = F x) : ConOk P_ H.T.gl f ⟨H.p, H.r, F⟩ := Hd.Bt0 Tryz.mixed H hf hT hb h
theorem Tryz.ent37 : Ent Tryz.prog 37 := Ent.mk Tryz.func37 (by kernel_rfl) rfl
theorem Tryz.ent75 : Ent Tryz.prog 75 := Ent.mk Tryz.func75 (by kernel_rfl) rfl
theorem Tryz.ent76 : Ent Tryz.prog 76 := Ent.mk Tryz.func76 (by kernel_rfl) rfl
theorem Tryz.ent77 : Ent Tryz.prog 77 := Ent.mk Tryz.func77 (by kernel_rfl) rfl
theorem Tryz.ent88 : Ent Tryz.prog 88 := Ent.mk Tryz.func88 (by kernel_rfl) rfl
theorem Tryz.ent220 : Ent Tryz.prog 220 := Ent.mk Tryz.func220 (by kernel_rfl) rfl
theorem Tryz.ent221 : Ent Tryz.prog 221 := Ent.mk Tryz.func221 (by kernel_rfl) rfl
theorem Tryz.ent222 : Ent Tryz.prog 222 := Ent.mk Tryz.func222 (by kernel_rfl) rfl
theorem Tryz.ent225 : Ent Tryz.prog 225 := Ent.mk Tryz.func225 (by kernel_rfl) rfl
theorem Tryz.ent232 : Ent Tryz.prog 232 := Ent.mk Tryz.func232 (by kernel_rfl) rfl
theorem Tryz.ent261 : Ent Tryz.prog 261 := Ent.mk Tryz.func261 (by kernel_rfl) rfl
theorem Tryz.ent266 : Ent Tryz.prog 266 := Ent.mk Tryz.func266 (by kernel_rfl) rfl
theorem Tryz.ent289 : Ent Tryz.prog 289 := Ent.mk Tryz.func289 (by kernel_rfl) rfl
theorem Tryz.ent291 : Ent Tryz.prog 291 := Ent.mk Tryz.func291 (by kernel_rfl) rfl
theorem Tryz.ent293 : Ent Tryz.prog 293 := Ent.mk Tryz.func293 (by kernel_rfl) rfl
namespace F7
noncomputable def H : Hd := ⟨[.agg [Ss, Sb, .agg [Si, Si, Si, Si, Si], Sl, Si, Sb, Sz, Si]], [Sz], .d, ⟨[], Tryz.gl, false⟩, [], Tryz.f7⟩
noncomputable def F (x : LB × LB × Int × Int × Int × Int × Int × LI × Int × LB × Bool × Int) := Rq x.1 x.2.1 x.2.2.1 x.2.2.2.1 x.2.2.2.2.1 x.2.2.2.2.2.1 x.2.2.2.2.2.2.1 x.2.2.2.2.2.2.2.1 x.2.2.2.2.2.2.2.2.1 x.2.2.2.2.2.2.2.2.2.1 x.2.2.2.2.2.2.2.2.2.2.1 x.2.2.2.2.2.2.2.2.2.2.2
theorem rn (x : LB × LB × Int × Int × Int × Int × Int × LI × Int × LB × Bool × Int) : H.u P_ x = F x := by kernel_rfl
noncomputable def c : Con := ⟨H.p, H.r, F⟩
theorem ok : ConOk P_ Tryz.gl 7 c := Tryz.co H Tryz.func7 .nil (by kernel_rfl) rn
end F7
namespace F8
noncomputable def H : Hd := ⟨[Ss], [.agg [Ss, Ob 5, .agg [Si, Si, Si, Si, Si], Ol 3, Si, Ob 5, Sz, Si], Si], .d, ⟨[], Tryz.gl, false⟩, [], Tryz.f8⟩
noncomputable def F (x : LB) := Amt x
theorem rn (x : LB) : H.u P_ x = F x := by kernel_rfl
noncomputable def c : Con := ⟨H.p, H.r, F⟩
theorem ok : ConOk P_ Tryz.gl 8 c := Tryz.co H Tryz.func8 .nil (by kernel_rfl) rn
end F8
namespace F9
noncomputable def H : Hd := ⟨[Ss], [.agg [Ss, Ob 5, .agg [Si, Si, Si, Si, Si], Ol 3, Si, Ob 5, Sz, Si], Si], .d, ⟨[], Tryz.gl, false⟩, [], Tryz.f9⟩
noncomputable def F (x : LB) := Ach x
theorem rn (x : LB) : H.u P_ x = F x := by kernel_rfl
noncomputable def c : Con := ⟨H.p, H.r, F⟩
theorem ok : ConOk P_ Tryz.gl 9 c := Tryz.co H Tryz.func9 .nil (by kernel_rfl) rn
end F9
namespace F50
def Aeq (a : LB) : Option (LB) :=
Aw4 a (
some ([] : LB)) (
(Gc ([] : LB) a).bind fun b =>
some b)
theorem Apm : @Aeq = @Vm := by
  unfold Aeq Vm
  repeat (refine funext fun _ => ?_)
  repeat' first
    | with_reducible rfl
    | with_reducible refine Hw ?_ ?_
    | with_reducible refine Ic ?_ ?_ ?_
    | with_reducible refine Hy ?_ ?_ ?_ ?_
    | ((with_reducible refine Md ?_ ?_); focus (intro h; first | (subst h; rfl) | (simp only [h]; rfl) | (simp [Gc, Ac, h]; done)))
    | with_reducible refine Lk fun x => ?_
    | with_reducible refine Te (fun _ => ?_) (fun _ => ?_)
    | (refine Ea (fun h => by simp only [h, Mc, Ct, Cp, ite_self]) (fun x h => ?_); (try simp only [h, Ct]))
    | (refine Fl (fun h => ?_) (fun h => ?_) <;> simp only [h, if_true, if_false, Bool.false_eq_true])
noncomputable def H : Hd := ⟨[Sb], [Ob 5], .d, ⟨[], Tryz.gl, false⟩, [], Tryz.f50⟩
noncomputable def F (x : LB) := Vm x
theorem rn (x : LB) : H.u P_ x = F x := Eq.trans (b := Aeq x) (by kernel_rfl) (by rw [Apm]; rfl)
noncomputable def c : Con := ⟨H.p, H.r, F⟩
theorem ok : ConOk P_ Tryz.gl 50 c := Tryz.co H Tryz.func50 .nil (by kernel_rfl) rn
end F50
namespace F71
def Oj (a : LI) : Option (LI) :=
Aw4 a (
some ([] : LI)) (
(Gc ([] : LI) a).bind fun b =>
some b)
theorem Afl : @Oj = @Iy := by
  unfold Oj Iy
  repeat (refine funext fun _ => ?_)
  repeat' first
    | with_reducible rfl
    | with_reducible refine Hw ?_ ?_
    | with_reducible refine Ic ?_ ?_ ?_
    | with_reducible refine Hy ?_ ?_ ?_ ?_
    | ((with_reducible refine Md ?_ ?_); focus (intro h; first | (subst h; rfl) | (simp only [h]; rfl) | (simp [Gc, Ac, h]; done)))
    | with_reducible refine Lk fun x => ?_
    | with_reducible refine Te (fun _ => ?_) (fun _ => ?_)
    | (refine Ea (fun h => by simp only [h, Mc, Ct, Cp, ite_self]) (fun x h => ?_); (try simp only [h, Ct]))
    | (refine Fl (fun h => ?_) (fun h => ?_) <;> simp only [h, if_true, if_false, Bool.false_eq_true])
noncomputable def H : Hd := ⟨[Sl], [Ol 3], .d, ⟨[], Tryz.gl, false⟩, [], Tryz.f71⟩
noncomputable def F (x : LI) := Iy x
theorem rn (x : LI) : H.u P_ x = F x := Eq.trans (b := Oj x) (by kernel_rfl) (by rw [Afl]; rfl)
noncomputable def c : Con := ⟨H.p, H.r, F⟩
theorem ok : ConOk P_ Tryz.gl 71 c := Tryz.co H Tryz.func71 .nil (by kernel_rfl) rn
end F71
namespace F35
noncomputable def H : Hd := ⟨[.agg [Ss, Sb, .agg [Si, Si, Si, Si, Si], Sl, Si, Sb, Sz, Si]], [.agg [Ss, Ob 5, .agg [Si, Si, Si, Si, Si], Ol 3, Si, Ob 5, Sz, Si]], .d, ⟨[(50, F50.c), (71, F71.c)], Tryz.gl, false⟩, [], Tryz.f35⟩
noncomputable def F (x : LB × LB × Int × Int × Int × Int × Int × LI × Int × LB × Bool × Int) := Abp x.1 x.2.1 x.2.2.1 x.2.2.2.1 x.2.2.2.2.1 x.2.2.2.2.2.1 x.2.2.2.2.2.2.1 x.2.2.2.2.2.2.2.1 x.2.2.2.2.2.2.2.2.1 x.2.2.2.2.2.2.2.2.2.1 x.2.2.2.2.2.2.2.2.2.2.1 x.2.2.2.2.2.2.2.2.2.2.2
theorem rn (x : LB × LB × Int × Int × Int × Int × Int × LI × Int × LB × Bool × Int) : H.u P_ x = F x := by kernel_rfl
noncomputable def c : Con := ⟨H.p, H.r, F⟩
theorem ok : ConOk P_ Tryz.gl 35 c := Tryz.co H Tryz.func35 (.cons F50.ok (.cons F71.ok .nil)) (by kernel_rfl) rn
end F35
namespace F142
abbrev R_ := Bool
noncomputable def H : Hd := ⟨[.agg [Si, Si, Si, Si, Si]], [Sz], (.seq .d (.cut [1] [] .d .d)), ⟨[], Tryz.gl, false⟩, [], Tryz.f142⟩
def x2 (b f a g h : Int) : Option R_ := H.e P_ [r,r] ⟨[(1, .ptr 0 [])], [.box 24 (.agg [vi b, vi f, vi a, vi g, vi h])], []⟩
theorem e2 : x2 = Kv := by kernel_rfl
noncomputable def F (x : Int × Int × Int × Int × Int) := Nu x.1 x.2.1 x.2.2.1 x.2.2.2.1 x.2.2.2.2
theorem rn (x : Int × Int × Int × Int × Int) : H.u P_ x = F x := Eq.trans (b := Wh x2 x.1 x.2.1 x.2.2.1 x.2.2.2.1 x.2.2.2.2) (by kernel_rfl) (by simp only [e2] <;> rfl)
noncomputable def c : Con := ⟨H.p, H.r, F⟩
theorem ok : ConOk P_ Tryz.gl 142 c := Tryz.co H Tryz.func142 .nil (by kernel_rfl) rn
end F142
namespace F199
noncomputable def H : Hd := ⟨[Si], [Si, Si], .d, ⟨[], Tryz.gl, false⟩, [], Tryz.f199⟩
noncomputable def F (x : Int) := Zz x
theorem rn (x : Int) : H.u P_ x = F x := by kernel_rfl
noncomputable def c : Con := ⟨H.p, H.r, F⟩
theorem ok : ConOk P_ Tryz.gl 199 c := Tryz.co H Tryz.func199 .nil (by kernel_rfl) rn
end F199
namespace F209
noncomputable def H : Hd := ⟨[Si, Si], [Si, Si], .d, ⟨[(199, F199.c)], Tryz.gl, false⟩, [], Tryz.f209⟩
noncomputable def F (x : Int × Int) := Xr x.1 x.2
theorem rn (x : Int × Int) : H.u P_ x = F x := by kernel_rfl
noncomputable def c : Con := ⟨H.p, H.r, F⟩
theorem ok : ConOk P_ Tryz.gl 209 c := Tryz.co H Tryz.func209 (.cons F199.ok .nil) (by kernel_rfl) rn
end F209
namespace F143
noncomputable def H : Hd := ⟨[.agg [Si, Si, Si, Si, Si]], [Sz], .d, ⟨[(209, F209.c)], Tryz.gl, false⟩, [], Tryz.f143⟩
noncomputable def F (x : Int × Int × Int × Int × Int) := Aee x.1 x.2.1 x.2.2.1 x.2.2.2.1 x.2.2.2.2
theorem rn (x : Int × Int × Int × Int × Int) : H.u P_ x = F x := by kernel_rfl
noncomputable def c : Con := ⟨H.p, H.r, F⟩
theorem ok : ConOk P_ Tryz.gl 143 c := Tryz.co H Tryz.func143 (.cons F209.ok .nil) (by kernel_rfl) rn
end F143
namespace F127
noncomputable def H : Hd := ⟨[.agg [Si, Si, Si, Si, Si]], [Si], .d, ⟨[(142, F142.c), (143, F143.c)], Tryz.gl, false⟩, [], Tryz.f127⟩
noncomputable def F (x : Int × Int × Int × Int × Int) := Wn x.1 x.2.1 x.2.2.1 x.2.2.2.1 x.2.2.2.2
theorem rn (x : Int × Int × Int × Int × Int) : H.u P_ x = F x := by kernel_rfl
noncomputable def c : Con := ⟨H.p, H.r, F⟩
theorem ok : ConOk P_ Tryz.gl 127 c := Tryz.co H Tryz.func127 (.cons F142.ok (.cons F143.ok .nil)) (by kernel_rfl) rn
end F127
namespace F288
noncomputable def H : Hd := ⟨[Sq, Sq], [Sq, Sq], .d, ⟨[], Tryz.gl, false⟩, [], Tryz.f288⟩
noncomputable def F (x : UInt64 × UInt64) := Aej x.1 x.2
theorem rn (x : UInt64 × UInt64) : H.u P_ x = F x := by kernel_rfl
noncomputable def c : Con := ⟨H.p, H.r, F⟩
theorem ok : ConOk P_ Tryz.gl 288 c := Tryz.co H Tryz.func288 .nil (by kernel_rfl) rn
end F288
namespace F257
noncomputable def H : Hd := ⟨[Sq, Sq], [Sq, Sq], .d, ⟨[(288, F288.c)], Tryz.gl, false⟩, [], Tryz.f257⟩
noncomputable def F (x : UInt64 × UInt64) := Ac0 x.1 x.2
theorem rn (x : UInt64 × UInt64) : H.u P_ x = F x := by kernel_rfl
noncomputable def c : Con := ⟨H.p, H.r, F⟩
theorem ok : ConOk P_ Tryz.gl 257 c := Tryz.co H Tryz.func257 (.cons F288.ok .nil) (by kernel_rfl) rn
end F257
namespace F210
def Mn (j10 : LI → Option (LI)) (bk8 : Int → LI → Option (LI)) (b : Int) (a : LI) : Option (LI) :=
if (Dg b (Ac a)) then
both (
(vwI (Ac a) b (Ac a)).bind fun _ =>
(vwI (Ac a) 0 b).bind fun _ =>
bk8 (Af b (Agx ((Ac a) - b) (Ajb a 0 (b - (0 : Int))).length)) (Tq a b ((Ac a) - b) (Ajb a 0 (b - (0 : Int))))) [
(vwI (Ac a) 0 b).bind fun _ =>
(vwI (Ac a) b (Ac a)).bind fun _ =>
bk8 (Af b (Agx ((Ac a) - b) (Ajb a 0 (b - (0 : Int))).length)) (Tq a b ((Ac a) - b) (Ajb a 0 (b - (0 : Int))))]
else
j10 a
theorem Aev : @Mn = @Fu := by
  unfold Mn Fu
  repeat (refine funext fun _ => ?_)
  repeat' first
    | with_reducible rfl
    | with_reducible refine Hw ?_ ?_
    | with_reducible refine Ic ?_ ?_ ?_
    | with_reducible refine Hy ?_ ?_ ?_ ?_
    | ((with_reducible refine Md ?_ ?_); focus (intro h; first | (subst h; rfl) | (simp only [h]; rfl) | (simp [Gc, Ac, h]; done)))
    | with_reducible refine Lk fun x => ?_
    | with_reducible refine Te (fun _ => ?_) (fun _ => ?_)
    | (refine Ea (fun h => by simp only [h, Mc, Ct, Cp, ite_self]) (fun x h => ?_); (try simp only [h, Ct]))
    | (refine Fl (fun h => ?_) (fun h => ?_) <;> simp only [h, if_true, if_false, Bool.false_eq_true])
abbrev R_ := LI
noncomputable def H : Hd := ⟨[Sl, Si], [Ol 3], (.seq .d (.cut [0, 1] [] .d (.seq .d (.cut [0, 6] [] .d (.seq .d (.seq .d (.cut [7] [] (.blk (.loop [7, 8] [] (.seq .d (.blk (.mode false))))) .d))))))), ⟨[(257, F257.c)], Tryz.gl, true⟩, [], Tryz.f210⟩
def t8 (b : Int) (a : LI) : S := ⟨[(7, .own 0), (8, vi b)], [Ai 3 a], []⟩
def z8 : Nat → S → Option R_ := H.i P_ [r,r,r,r,r,r,l,d]
def x10 (a : LI) : Option R_ := H.e P_ [r,r,r,r,r,r,r] ⟨[(7, .own 0)], [Ai 3 a], []⟩
def x8 (b : Int) (a : LI) : Option R_ := H.e P_ [r,r,r,r,r,r,l,d] (t8 b a)
def x7 (f : LI) (g : UInt64) : Option R_ := H.e P_ [r,r,r,r] ⟨[(0, vl f), (6, vq g)], [], []⟩
def x6 (f : LI) (h : Int) : Option R_ := H.e P_ [r,r] ⟨[(0, vl f), (1, vi h)], [], []⟩
theorem e10 : x10 = Hv := by kernel_rfl
theorem i8 : ∀ (q : Nat) (b : Int) (a : LI), z8 q (t8 b a) = Dw q b a :=
 ind (fun _ _ => by kernel_rfl) fun q ih b a => Eq.trans (b := Mn x10 (fun b a => (z8 q) (t8 b a)) b a) (by kernel_rfl) (by rw [Aev]; simp only [e10, ih] <;> rfl)
theorem e8 : x8 = Of := by funext b a; exact Eq.trans (by kernel_rfl) ((i8 Ca b a).trans (by rw [Ak]; rfl))
theorem e7 : x7 = Oc := Eq.trans (b := Nw x8) (by kernel_rfl) (by simp only [e8] <;> rfl)
theorem e6 : x6 = Nx := Eq.trans (b := Nz x7) (by kernel_rfl) (by simp only [e7] <;> rfl)
noncomputable def F (x : LI × Int) := Ma x.1 x.2
theorem rn (x : LI × Int) : H.u P_ x = F x := Eq.trans (b := Nt x6 x.1 x.2) (by kernel_rfl) (by simp only [e6] <;> rfl)
noncomputable def c : Con := ⟨H.p, H.r, F⟩
theorem ok : ConOk P_ Tryz.gl 210 c := Tryz.co H Tryz.func210 (.cons F257.ok .nil) (by kernel_rfl) rn
end F210
namespace F258
abbrev R_ := LI
noncomputable def H : Hd := ⟨[.lf (.list (.list (.int .i64))) none], [Ol 3], (.seq .d (.seq .d (.cut [0, 3] [] (.seq .d (.blk (.loop [0, 3, 9, 10, 11] [] .d))) (.cut [0, 6] [⟨6, [], .own 3 (.int .i64)⟩] (.keep [0, 3, 6, 23, 24] true) (.cut [6] [] (.seq .d (.blk (.loop [6, 25, 26, 27] [] .d))) .d))))), ⟨[], Tryz.gl, true⟩, [(289, (.seq .d (.cut [0, 1] [] .d .d)))], Tryz.f258⟩
def t14 (a : List LI) (g : Int) (f : LI) : S := ⟨[(6, .own 0), (25, .val (.list (.list (.int .i64))) a), (26, vi (Ac a)), (27, vi g)], [Ai 3 f], []⟩
def z14 : Nat → S → Option R_ := H.i P_ [r,r,r,r,l,r,d]
def t9 (a : List LI) (b h : Int) : S := ⟨[(0, .val (.list (.list (.int .i64))) a), (3, vi b), (9, .val (.list (.list (.int .i64))) a), (10, vi (Ac a)), (11, vi h)], [], []⟩
def z9 : Nat → S → Option R_ := H.i P_ [r,r,l,r,d]
def x16 (f : LI) : Option R_ := H.e P_ [r,r,r,r,r] ⟨[(6, .own 0)], [Ai 3 f], []⟩
def x14 (a : List LI) (g : Int) (f : LI) : Option R_ := H.e P_ [r,r,r,r,l,r,d] (t14 a g f)
def x13 (a : List LI) (k : LI) : Option R_ := H.e P_ [r,r,r,r] ⟨[(0, .val (.list (.list (.int .i64))) a), (6, .own 0)], [Ai 3 k], []⟩
def x12 (b : Int) (a : List LI) : Option R_ := H.e P_ [r,r,r,l,(call 1 289),r,r] ⟨[(0, .nils), (1, vi b)], [], [[(0, .val (.list (.list (.int .i64))) a), (3, vi b), (23, vi b)]]⟩
def x11 (a : List LI) (b : Int) : Option R_ := H.e P_ [r,r,r] ⟨[(0, .val (.list (.list (.int .i64))) a), (3, vi b)], [], []⟩
def x9 (a : List LI) (b h : Int) : Option R_ := H.e P_ [r,r,l,r,d] (t9 a b h)
theorem e16 : x16 = Wr := by kernel_rfl
theorem i14 (a : List LI) : ∀ (q : Nat) (g : Int) (f : LI), z14 q (t14 a g f) = Dq a q g f :=
 ind (fun _ _ => by kernel_rfl) fun q ih g f => Eq.trans (b := Fa x16 (fun g f => (z14 q) (t14 a g f)) a g f) (by kernel_rfl) (by simp only [e16, ih] <;> rfl)
theorem e14 : x14 = Mg := by funext a g f; exact Eq.trans (by kernel_rfl) ((i14 a Ca g f).trans (by rw [Ak]; rfl))
theorem e13 : x13 = Hu := Eq.trans (b := Ml x14) (by kernel_rfl) (by simp only [e14] <;> rfl)
theorem e12 : x12 = Mk := Eq.trans (b := Mp x13) (by kernel_rfl) (by simp only [e13] <;> rfl)
theorem e11 : x11 = Mo := Eq.trans (b := Mj x12) (by kernel_rfl) (by simp only [e12] <;> rfl)
theorem i9 (a : List LI) : ∀ (q : Nat) (b h : Int), z9 q (t9 a b h) = Dv a q b h :=
 ind (fun _ _ => by kernel_rfl) fun q ih b h => Eq.trans (b := Fy x11 (fun b h => (z9 q) (t9 a b h)) a b h) (by kernel_rfl) (by simp only [e11, ih] <;> rfl)
theorem e9 : x9 = Om := by funext a b h; exact Eq.trans (by kernel_rfl) ((i9 a Ca b h).trans (by rw [Ak]; rfl))
noncomputable def F (x : List LI) := Lz x
theorem rn (x : List LI) : H.u P_ x = F x := Eq.trans (b := Oh x9 x) (by kernel_rfl) (by simp only [e9] <;> rfl)
noncomputable def c : Con := ⟨H.p, H.r, F⟩
theorem ok : ConOk P_ Tryz.gl 258 c := Tryz.cr H Tryz.func258 .nil (AnsOk.cons Tryz.ent289 AnsOk.nil) (by kernel_rfl) rn
end F258
namespace F211
noncomputable def H : Hd := ⟨[Sl, Sl], [Ol 3], .d, ⟨[(258, F258.c)], Tryz.gl, false⟩, [], Tryz.f211⟩
noncomputable def F (x : LI × LI) := Agu x.1 x.2
theorem rn (x : LI × LI) : H.u P_ x = F x := by kernel_rfl
noncomputable def c : Con := ⟨H.p, H.r, F⟩
theorem ok : ConOk P_ Tryz.gl 211 c := Tryz.co H Tryz.func211 (.cons F258.ok .nil) (by kernel_rfl) rn
end F211
namespace F128
noncomputable def H : Hd := ⟨[Si, Si], [Ol 3, Si], .d, ⟨[(199, F199.c), (209, F209.c), (210, F210.c), (211, F211.c)], Tryz.gl, false⟩, [], Tryz.f128⟩
noncomputable def F (x : Int × Int) := Aht x.1 x.2
theorem rn (x : Int × Int) : H.u P_ x = F x := by kernel_rfl
noncomputable def c : Con := ⟨H.p, H.r, F⟩
theorem ok : ConOk P_ Tryz.gl 128 c := Tryz.co H Tryz.func128 (.cons F199.ok (.cons F209.ok (.cons F210.ok (.cons F211.ok .nil)))) (by kernel_rfl) rn
end F128
namespace F72
noncomputable def H : Hd := ⟨[.agg [Si, Si, Si, Si, Si]], [Ol 3, Si], .d, ⟨[(127, F127.c), (128, F128.c)], Tryz.gl, false⟩, [], Tryz.f72⟩
noncomputable def F (x : Int × Int × Int × Int × Int) := Ep x.1 x.2.1 x.2.2.1 x.2.2.2.1 x.2.2.2.2
theorem rn (x : Int × Int × Int × Int × Int) : H.u P_ x = F x := by kernel_rfl
noncomputable def c : Con := ⟨H.p, H.r, F⟩
theorem ok : ConOk P_ Tryz.gl 72 c := Tryz.co H Tryz.func72 (.cons F127.ok (.cons F128.ok .nil)) (by kernel_rfl) rn
end F72
namespace F73
noncomputable def H : Hd := ⟨[.agg [Si, Si, Si, Si, Si], Ss], [Si], .d, ⟨[], Tryz.gl, false⟩, [], Tryz.f73⟩
noncomputable def F (x : Int × Int × Int × Int × Int × LB) := Vc x.1 x.2.1 x.2.2.1 x.2.2.2.1 x.2.2.2.2.1 x.2.2.2.2.2
theorem rn (x : Int × Int × Int × Int × Int × LB) : H.u P_ x = F x := by kernel_rfl
noncomputable def c : Con := ⟨H.p, H.r, F⟩
theorem ok : ConOk P_ Tryz.gl 73 c := Tryz.co H Tryz.func73 .nil (by kernel_rfl) rn
end F73
namespace F74
abbrev R_ := Int
noncomputable def H : Hd := ⟨[Sl], [Si], (.seq .d (.seq .d (.seq .d (.cut [] [] (.seq .d (.blk (.loop [3, 14, 15, 16] [] .d))) .d)))), ⟨[], Tryz.gl, false⟩, [], Tryz.f74⟩
def t4 (a : LI) (f b : Int) : S := ⟨[(3, vi f), (14, vl a), (15, vi (Ac a)), (16, vi b)], [], []⟩
def z4 : Nat → S → Option R_ := H.i P_ [r,r,r,l,r,d]
def x6 : Option R_ := H.e P_ [r,r,r,r] ⟨[], [], []⟩
def x4 (a : LI) (f b : Int) : Option R_ := H.e P_ [r,r,r,l,r,d] (t4 a f b)
theorem e6 : x6 = Al8 := by kernel_rfl
theorem i4 (a : LI) : ∀ (q : Nat) (f b : Int), z4 q (t4 a f b) = Pw a q f b :=
 ind (fun _ _ => by kernel_rfl) fun q ih f b => Eq.trans (b := Aau x6 (fun f b => (z4 q) (t4 a f b)) a f b) (by kernel_rfl) (by simp only [e6, ih] <;> rfl)
theorem e4 : x4 = Agd := by funext a f b; exact Eq.trans (by kernel_rfl) ((i4 a Ca f b).trans (by rw [Ak]; rfl))
noncomputable def F (x : LI) := Ql x
theorem rn (x : LI) : H.u P_ x = F x := Eq.trans (b := Zx x4 x) (by kernel_rfl) (by simp only [e4] <;> rfl)
noncomputable def c : Con := ⟨H.p, H.r, F⟩
theorem ok : ConOk P_ Tryz.gl 74 c := Tryz.co H Tryz.func74 .nil (by kernel_rfl) rn
end F74
namespace F36
abbrev R_ := Bool
noncomputable def H : Hd := ⟨[.agg [Ss, Sb, .agg [Si, Si, Si, Si, Si], Sl, Si, Sb, Sz, Si]], [Sz], (.seq .d (.seq .d (.seq .d (.cut [1, 3] [] .d (.seq .d (.seq .d (.seq .d (.cut [1, 5] [] (.seq .d (.blk (.loop [1, 5, 83, 84, 85] [] .d))) .d)))))))), ⟨[(72, F72.c), (73, F73.c), (74, F74.c)], Tryz.gl, false⟩, [], Tryz.f36⟩
def t6 (y : LI) (o p : LB) (h b f k m : Int) (g : LI) (a : Int) (n : LB) (u : Bool) (v w aa : Int) : S := ⟨[(1, .ptr 0 []), (5, vi w), (83, vl y), (84, vi (Ac y)), (85, vi aa)], [.box 28 (.agg [vs o, vb p, .agg [vi h, vi b, vi f, vi k, vi m], vl g, vi a, vb n, vt u, vi v])], []⟩
def z6 : Nat → S → Option R_ := H.i P_ [r,r,r,r,r,r,r,l,r,d]
def x8 (w : Int) (o p : LB) (h b f k m : Int) (g : LI) (a : Int) (n : LB) (u : Bool) (v : Int) : Option R_ := H.e P_ [r,r,r,r,r,r,r,r] ⟨[(1, .ptr 0 []), (5, vi w)], [.box 28 (.agg [vs o, vb p, .agg [vi h, vi b, vi f, vi k, vi m], vl g, vi a, vb n, vt u, vi v])], []⟩
def x6 (y : LI) (o p : LB) (h b f k m : Int) (g : LI) (a : Int) (n : LB) (u : Bool) (v w aa : Int) : Option R_ := H.e P_ [r,r,r,r,r,r,r,l,r,d] (t6 y o p h b f k m g a n u v w aa)
def x5 (o p : LB) (h b f k m : Int) (g : LI) (a : Int) (n : LB) (u : Bool) (v : Int) (ab : LI) : Option R_ := H.e P_ [r,r,r,r] ⟨[(1, .ptr 0 []), (3, .own 1)], [.box 28 (.agg [vs o, vb p, .agg [vi h, vi b, vi f, vi k, vi m], vl g, vi a, vb n, vt u, vi v]), Ai 3 ab], []⟩
theorem e8 : x8 = Aen := by kernel_rfl
theorem i6 (y : LI) (o p : LB) (h b f k m : Int) (g : LI) (a : Int) (n : LB) (u : Bool) (v : Int) : ∀ (q : Nat) (w aa : Int), z6 q (t6 y o p h b f k m g a n u v w aa) = Ms y o p h b f k m g a n u v q w aa :=
 ind (fun _ _ => by kernel_rfl) fun q ih w aa => Eq.trans (b := Xw x8 (fun w aa => (z6 q) (t6 y o p h b f k m g a n u v w aa)) y o p h b f k m g a n u v w aa) (by kernel_rfl) (by simp only [e8, ih] <;> rfl)
theorem e6 : x6 = Aeh := by funext y o p h b f k m g a n u v w aa; exact Eq.trans (by kernel_rfl) ((i6 y o p h b f k m g a n u v Ca w aa).trans (by rw [Ak]; rfl))
theorem e5 : x5 = Aeu := Eq.trans (b := Aek x6) (by kernel_rfl) (by simp only [e6] <;> rfl)
noncomputable def F (x : LB × LB × Int × Int × Int × Int × Int × LI × Int × LB × Bool × Int) := Wg x.1 x.2.1 x.2.2.1 x.2.2.2.1 x.2.2.2.2.1 x.2.2.2.2.2.1 x.2.2.2.2.2.2.1 x.2.2.2.2.2.2.2.1 x.2.2.2.2.2.2.2.2.1 x.2.2.2.2.2.2.2.2.2.1 x.2.2.2.2.2.2.2.2.2.2.1 x.2.2.2.2.2.2.2.2.2.2.2
theorem rn (x : LB × LB × Int × Int × Int × Int × Int × LI × Int × LB × Bool × Int) : H.u P_ x = F x := Eq.trans (b := Aef x5 x.1 x.2.1 x.2.2.1 x.2.2.2.1 x.2.2.2.2.1 x.2.2.2.2.2.1 x.2.2.2.2.2.2.1 x.2.2.2.2.2.2.2.1 x.2.2.2.2.2.2.2.2.1 x.2.2.2.2.2.2.2.2.2.1 x.2.2.2.2.2.2.2.2.2.2.1 x.2.2.2.2.2.2.2.2.2.2.2) (by kernel_rfl) (by simp only [e5] <;> rfl)
noncomputable def c : Con := ⟨H.p, H.r, F⟩
theorem ok : ConOk P_ Tryz.gl 36 c := Tryz.co H Tryz.func36 (.cons F72.ok (.cons F73.ok (.cons F74.ok .nil))) (by kernel_rfl) rn
end F36
namespace F148
noncomputable def H : Hd := ⟨[Sb, Sb], [Sz], .d, ⟨[], Tryz.gl, false⟩, [], Tryz.f148⟩
noncomputable def F (x : LB × LB) := Kq x.1 x.2
theorem rn (x : LB × LB) : H.u P_ x = F x := by kernel_rfl
noncomputable def c : Con := ⟨H.p, H.r, F⟩
theorem ok : ConOk P_ Tryz.gl 148 c := Tryz.co H Tryz.func148 .nil (by kernel_rfl) rn
end F148
namespace F163
noncomputable def H : Hd := ⟨[Sb, Sb], [Sz], .d, ⟨[(148, F148.c)], Tryz.gl, false⟩, [], Tryz.f163⟩
noncomputable def F (x : LB × LB) := Mr x.1 x.2
theorem rn (x : LB × LB) : H.u P_ x = F x := by kernel_rfl
noncomputable def c : Con := ⟨H.p, H.r, F⟩
theorem ok : ConOk P_ Tryz.gl 163 c := Tryz.co H Tryz.func163 (.cons F148.ok .nil) (by kernel_rfl) rn
end F163
namespace F290
abbrev R_ := (Int × Int)
noncomputable def H : Hd := ⟨[Sb], [Si, Si], (.seq .d (.seq .d (.seq .d (.cut [4] [] (.seq .d (.blk (.loop [4, 10, 11, 12] [] .d))) .d)))), ⟨[], Tryz.gl, false⟩, [], Tryz.f290⟩
def t4 (a : LB) (b f : Int) : S := ⟨[(4, vi b), (10, vb a), (11, vi (Ac a)), (12, vi f)], [], []⟩
def z4 : Nat → S → Option R_ := H.i P_ [r,r,r,l,r,d]
def x6 (b : Int) : Option R_ := H.e P_ [r,r,r,r] ⟨[(4, vi b)], [], []⟩
def x4 (a : LB) (b f : Int) : Option R_ := H.e P_ [r,r,r,l,r,d] (t4 a b f)
theorem e6 : x6 = Ai8 := by kernel_rfl
theorem i4 (a : LB) : ∀ (q : Nat) (b f : Int), z4 q (t4 a b f) = Ku a q b f :=
 ind (fun _ _ => by kernel_rfl) fun q ih b f => Eq.trans (b := Wl x6 (fun b f => (z4 q) (t4 a b f)) a b f) (by kernel_rfl) (by simp only [e6, ih] <;> rfl)
theorem e4 : x4 = Acw := by funext a b f; exact Eq.trans (by kernel_rfl) ((i4 a Ca b f).trans (by rw [Ak]; rfl))
noncomputable def F (x : LB) := Ac8 x
theorem rn (x : LB) : H.u P_ x = F x := Eq.trans (b := Acp x4 x) (by kernel_rfl) (by simp only [e4] <;> rfl)
noncomputable def c : Con := ⟨H.p, H.r, F⟩
theorem ok : ConOk P_ Tryz.gl 290 c := Tryz.co H Tryz.func290 .nil (by kernel_rfl) rn
end F290
namespace F259
def Ack (j5 : LB → UInt8 → UInt8 → Option (Int × Int)) (a : LB) : Option (Int × Int) :=
(Mr a ([(73 : UInt8), (68 : UInt8), (51 : UInt8)] : LB)).bind fun n =>
if (!n) then
some (0, 6)
else
if (Dg (Ac a) 10) then
some (0, 24)
else
(Aj a 3).bind fun f =>
(Aj a 5).bind fun b =>
(fun o : Option (Int × Int) =>
(fun p : Option (Int × Int) =>
both (
both (
bo (
j5 a f b)) [
o,
o]) [
bo2 (
bo (
j5 a f b)),
p,
p]) (
both (
o) [
bo (
j5 a f b),
both (
bo (
j5 a f b)) [
j5 a f b]])) (
both (
j5 a f b) [
bo (
j5 a f b)])
theorem Aob : @Ack = @Yc := by
  unfold Ack Yc
  try simp only [Alv, Aez, Aex]
  all_goals
    repeat (refine funext fun _ => ?_)
    repeat' first
      | with_reducible rfl
      | with_reducible refine Hw ?_ ?_
      | with_reducible refine Ic ?_ ?_ ?_
      | with_reducible refine Hy ?_ ?_ ?_ ?_
      | ((with_reducible refine Md ?_ ?_); focus (intro h; first | (subst h; rfl) | (simp only [h]; rfl) | (simp [Gc, Ac, h]; done)))
      | with_reducible refine Lk fun x => ?_
      | with_reducible refine Te (fun _ => ?_) (fun _ => ?_)
      | (refine Ea (fun h => by simp only [h, Mc, Ct, Cp, ite_self]) (fun x h => ?_); (try simp only [h, Ct]))
      | (refine Fl (fun h => ?_) (fun h => ?_) <;> simp only [h, if_true, if_false, Bool.false_eq_true])
abbrev R_ := (Int × Int)
noncomputable def H : Hd := ⟨[Sb], [Si, Si], (.seq .d (.seq .d (.seq .d (.cut [0, 4, 5] [] (.mode false) (.seq .d (.seq .d (.cut [0, 5, 6] [] (.cut [0, 5, 6, 43] [] (.keep [0, 5, 6, 7, 8, 31, 32, 33, 34, 35, 36, 37, 38, 39, 40, 41, 42, 43] true) .d) (.seq .d (.cut [0, 5, 6] [] .d .d))))))))), ⟨[(148, F148.c), (163, F163.c), (290, F290.c)], Tryz.gl, false⟩, [(291, .d)], Tryz.f259⟩
def x8 (a : LB) (b : UInt8) (h : Int) : Option R_ := H.e P_ [r,r,r,r,r,r,r,r,r] ⟨[(0, vb a), (5, .ptr 0 []), (6, vi h)], [.box 5 (vc b)], []⟩
def x7 (a : LB) (g : Int) (b : UInt8) : Option R_ := H.e P_ [r,r,r,r,r,r,r] ⟨[(0, vb a), (5, .ptr 0 []), (6, vi g)], [.box 5 (vc b)], []⟩
def x6 (a : LB) (g : Int) (b : UInt8) (m : Bool) : Option R_ := H.e P_ [r,r,r,r,r,r,l,r] ⟨[(0, vb a), (5, .ptr 0 []), (6, vi g), (43, vt m)], [.box 5 (vc b)], []⟩
def x5 (a : LB) (f b : UInt8) : Option R_ := H.e P_ [r,r,r,r] ⟨[(0, vb a), (4, .ptr 0 []), (5, .ptr 1 [])], [.box 5 (vc f), .box 5 (vc b)], []⟩
theorem e8 : x8 = Yb := by kernel_rfl
theorem e7 : x7 = Ya := Eq.trans (b := Aem x8) (by kernel_rfl) (by simp only [e8] <;> rfl)
theorem e6 : x6 = Aes := Eq.trans (b := Ae0 x7) (by kernel_rfl) (by simp only [e7] <;> rfl)
theorem e5 : x5 = Ae1 := Eq.trans (b := Aet x6) (by kernel_rfl) (by simp only [e6] <;> rfl)
noncomputable def F (x : LB) := Aff x
theorem rn (x : LB) : H.u P_ x = F x := Eq.trans (b := Ack x5 x) (by kernel_rfl) (by rw [Aob]; simp only [e5] <;> rfl)
noncomputable def c : Con := ⟨H.p, H.r, F⟩
theorem ok : ConOk P_ Tryz.gl 259 c := Tryz.cr H Tryz.func259 (.cons F148.ok (.cons F163.ok (.cons F290.ok .nil))) (AnsOk.cons Tryz.ent291 AnsOk.nil) (by kernel_rfl) rn
end F259
namespace F151
abbrev R_ := (UInt64 × Int)
noncomputable def H : Hd := ⟨[Sb], [Sq, Si], (.seq .d (.seq .d (.seq .d (.cut [4] [] (.seq .d (.blk (.loop [4, 15, 16, 17] [] .d))) .d)))), ⟨[], Tryz.gl, false⟩, [], Tryz.f151⟩
def t4 (a : LB) (b : UInt64) (f : Int) : S := ⟨[(4, vq b), (15, vb a), (16, vi (Ac a)), (17, vi f)], [], []⟩
def z4 : Nat → S → Option R_ := H.i P_ [r,r,r,l,r,d]
def x6 (b : UInt64) : Option R_ := H.e P_ [r,r,r,r] ⟨[(4, vq b)], [], []⟩
def x4 (a : LB) (b : UInt64) (f : Int) : Option R_ := H.e P_ [r,r,r,l,r,d] (t4 a b f)
theorem e6 : x6 = Ash := by kernel_rfl
theorem i4 (a : LB) : ∀ (q : Nat) (b : UInt64) (f : Int), z4 q (t4 a b f) = Ze a q b f :=
 ind (fun _ _ => by kernel_rfl) fun q ih b f => Eq.trans (b := Aho x6 (fun b f => (z4 q) (t4 a b f)) a b f) (by kernel_rfl) (by simp only [e6, ih] <;> rfl)
theorem e4 : x4 = Amr := by funext a b f; exact Eq.trans (by kernel_rfl) ((i4 a Ca b f).trans (by rw [Ak]; rfl))
noncomputable def F (x : LB) := Anf x
theorem rn (x : LB) : H.u P_ x = F x := Eq.trans (b := Amh x4 x) (by kernel_rfl) (by simp only [e4] <;> rfl)
noncomputable def c : Con := ⟨H.p, H.r, F⟩
theorem ok : ConOk P_ Tryz.gl 151 c := Tryz.co H Tryz.func151 .nil (by kernel_rfl) rn
end F151
namespace F140
noncomputable def H : Hd := ⟨[Sb, Si, Si], [Sq, Si], .d, ⟨[(151, F151.c)], Tryz.gl, false⟩, [], Tryz.f140⟩
noncomputable def F (x : LB × Int × Int) := Ajn x.1 x.2.1 x.2.2
theorem rn (x : LB × Int × Int) : H.u P_ x = F x := by kernel_rfl
noncomputable def c : Con := ⟨H.p, H.r, F⟩
theorem ok : ConOk P_ Tryz.gl 140 c := Tryz.co H Tryz.func140 (.cons F151.ok .nil) (by kernel_rfl) rn
end F140
namespace F252
noncomputable def H : Hd := ⟨[Sq, Si], [Sz], .d, ⟨[], Tryz.gl, false⟩, [], Tryz.f252⟩
noncomputable def F (x : UInt64 × Int) := Ate x.1 x.2
theorem rn (x : UInt64 × Int) : H.u P_ x = F x := by kernel_rfl
noncomputable def c : Con := ⟨H.p, H.r, F⟩
theorem ok : ConOk P_ Tryz.gl 252 c := Tryz.co H Tryz.func252 .nil (by kernel_rfl) rn
end F252
namespace F189
abbrev R_ := (LB × Int)
noncomputable def H : Hd := ⟨[Sq, Si], [Ob 5, Si], (.seq .d (.seq .d (.seq .d (.seq .d (.cut [6] [] (.seq .d (.blk (.loop [0, 6, 21, 22] [] .d))) .d))))), ⟨[(252, F252.c)], Tryz.gl, false⟩, [], Tryz.f189⟩
def t4 (f : UInt64) (g : LB) (b : Int) (a : LB) : S := ⟨[(0, vq f), (6, .own 0), (21, vi (Ac g)), (22, vi b)], [Ab 5 a], []⟩
def z4 : Nat → S → Option R_ := H.i P_ [r,r,r,r,l,r,d]
def x6 (a : LB) : Option R_ := H.e P_ [r,r,r,r,r] ⟨[(6, .own 0)], [Ab 5 a], []⟩
def x4 (f : UInt64) (g : LB) (b : Int) (a : LB) : Option R_ := H.e P_ [r,r,r,r,l,r,d] (t4 f g b a)
theorem e6 : x6 = Anb := by kernel_rfl
theorem i4 (f : UInt64) (g : LB) : ∀ (q : Nat) (b : Int) (a : LB), z4 q (t4 f g b a) = Za f g q b a :=
 ind (fun _ _ => by kernel_rfl) fun q ih b a => Eq.trans (b := Ahv x6 (fun b a => (z4 q) (t4 f g b a)) f g b a) (by kernel_rfl) (by simp only [e6, ih] <;> rfl)
theorem e4 : x4 = Ams := by funext f g b a; exact Eq.trans (by kernel_rfl) ((i4 f g Ca b a).trans (by rw [Ak]; rfl))
noncomputable def F (x : UInt64 × Int) := Am0 x.1 x.2
theorem rn (x : UInt64 × Int) : H.u P_ x = F x := Eq.trans (b := Anc x4 x.1 x.2) (by kernel_rfl) (by simp only [e4] <;> rfl)
noncomputable def c : Con := ⟨H.p, H.r, F⟩
theorem ok : ConOk P_ Tryz.gl 189 c := Tryz.co H Tryz.func189 (.cons F252.ok .nil) (by kernel_rfl) rn
end F189
namespace F165
abbrev R_ := LB
noncomputable def H : Hd := ⟨[Si, Si, Sq], [Ob 5], (.seq .d (.seq .d (.cut [7] [] (.seq .d (.blk (.loop [7, 20, 21, 22] [] .d))) .d))), ⟨[(189, F189.c)], Tryz.gl, false⟩, [], Tryz.f165⟩
def t4 (a b : Int) (f : UInt64) (h : Int) (g : LB) : S := ⟨[(7, .own 0), (20, .own 1), (21, vi (Ac ([(2000 : UInt64), (Ad (Af a (32 : Int)) : UInt64), (Ad b : UInt64), f, (0 : UInt64), (0 : UInt64)] : LQ))), (22, vi h)], [Ab 5 g, .arr 139 (.int .u64) ([(2000 : UInt64), (Ad (Af a (32 : Int)) : UInt64), (Ad b : UInt64), f, (0 : UInt64), (0 : UInt64)] : LQ)], []⟩
def z4 : Nat → S → Option R_ := H.i P_ [r,r,l,r,d]
def x6 (g : LB) : Option R_ := H.e P_ [r,r,r] ⟨[(7, .own 0)], [Ab 5 g], []⟩
def x4 (a b : Int) (f : UInt64) (h : Int) (g : LB) : Option R_ := H.e P_ [r,r,l,r,d] (t4 a b f h g)
theorem e6 : x6 = Apk := by kernel_rfl
theorem i4 (a b : Int) (f : UInt64) : ∀ (q : Nat) (h : Int) (g : LB), z4 q (t4 a b f h g) = Yr a b f q h g :=
 ind (fun _ _ => by kernel_rfl) fun q ih h g => Eq.trans (b := Ak8 x6 (fun h g => (z4 q) (t4 a b f h g)) a b f h g) (by kernel_rfl) (by simp only [e6, ih] <;> rfl)
theorem e4 : x4 = Apn := by funext a b f h g; exact Eq.trans (by kernel_rfl) ((i4 a b f Ca h g).trans (by rw [Ak]; rfl))
noncomputable def F (x : Int × Int × UInt64) := Ap4 x.1 x.2.1 x.2.2
theorem rn (x : Int × Int × UInt64) : H.u P_ x = F x := Eq.trans (b := Apd x4 x.1 x.2.1 x.2.2) (by kernel_rfl) (by simp only [e4] <;> rfl)
noncomputable def c : Con := ⟨H.p, H.r, F⟩
theorem ok : ConOk P_ Tryz.gl 165 c := Tryz.co H Tryz.func165 (.cons F189.ok .nil) (by kernel_rfl) rn
end F165
namespace F164
noncomputable def H : Hd := ⟨[Sb, Sq], [.agg [Si, Si], Sz], .d, ⟨[(140, F140.c), (148, F148.c), (165, F165.c)], Tryz.gl, false⟩, [], Tryz.f164⟩
noncomputable def F (x : LB × UInt64) := An1 x.1 x.2
theorem rn (x : LB × UInt64) : H.u P_ x = F x := by kernel_rfl
noncomputable def c : Con := ⟨H.p, H.r, F⟩
theorem ok : ConOk P_ Tryz.gl 164 c := Tryz.co H Tryz.func164 (.cons F140.ok (.cons F148.ok (.cons F165.ok .nil))) (by kernel_rfl) rn
end F164
namespace F260
noncomputable def H : Hd := ⟨[Sb], [Si, Si], .d, ⟨[(148, F148.c), (163, F163.c), (164, F164.c), (165, F165.c)], Tryz.gl, false⟩, [], Tryz.f260⟩
noncomputable def F (x : LB) := An4 x
theorem rn (x : LB) : H.u P_ x = F x := by kernel_rfl
noncomputable def c : Con := ⟨H.p, H.r, F⟩
theorem ok : ConOk P_ Tryz.gl 260 c := Tryz.co H Tryz.func260 (.cons F148.ok (.cons F163.ok (.cons F164.ok (.cons F165.ok .nil)))) (by kernel_rfl) rn
end F260
namespace F213
noncomputable def H : Hd := ⟨[Sb], [Si, Si], .d, ⟨[(259, F259.c), (260, F260.c)], Tryz.gl, false⟩, [], Tryz.f213⟩
noncomputable def F (x : LB) := Uz x
theorem rn (x : LB) : H.u P_ x = F x := by kernel_rfl
noncomputable def c : Con := ⟨H.p, H.r, F⟩
theorem ok : ConOk P_ Tryz.gl 213 c := Tryz.co H Tryz.func213 (.cons F259.ok (.cons F260.ok .nil)) (by kernel_rfl) rn
end F213
theorem Auu : ConOk Tryz.prog Tryz.gl 88 Ai6 := Au3 Tryz.ent88 F213.ok
namespace F78
noncomputable def H : Hd := ⟨[Si], [.agg [Sz, Si]], .d, ⟨[], Tryz.gl, false⟩, [], Tryz.f78⟩
noncomputable def F (x : Int) := Aq x
theorem rn (x : Int) : H.u P_ x = F x := by kernel_rfl
noncomputable def c : Con := ⟨H.p, H.r, F⟩
theorem ok : ConOk P_ Tryz.gl 78 c := Tryz.co H Tryz.func78 .nil (by kernel_rfl) rn
end F78
namespace F214
noncomputable def H : Hd := ⟨[Ss, Ss], [Sz], .d, ⟨[], Tryz.gl, false⟩, [], Tryz.f214⟩
noncomputable def F (x : LB × LB) := Et x.1 x.2
theorem rn (x : LB × LB) : H.u P_ x = F x := by kernel_rfl
noncomputable def c : Con := ⟨H.p, H.r, F⟩
theorem ok : ConOk P_ Tryz.gl 214 c := Tryz.co H Tryz.func214 .nil (by kernel_rfl) rn
end F214
namespace F139
noncomputable def H : Hd := ⟨[Ss, Ss], [Sz], .d, ⟨[(214, F214.c)], Tryz.gl, false⟩, [], Tryz.f139⟩
noncomputable def F (x : LB × LB) := Hb x.1 x.2
theorem rn (x : LB × LB) : H.u P_ x = F x := by kernel_rfl
noncomputable def c : Con := ⟨H.p, H.r, F⟩
theorem ok : ConOk P_ Tryz.gl 139 c := Tryz.co H Tryz.func139 (.cons F214.ok .nil) (by kernel_rfl) rn
end F139
namespace F129
abbrev R_ := Bool
noncomputable def H : Hd := ⟨[Sb], [Sz], (.seq .d (.cut [] [] (.seq .d (.blk (.loop [0, 5, 6] [] .d))) .d)), ⟨[(139, F139.c)], Tryz.gl, false⟩, [], Tryz.f129⟩
def t4 (a : LB) (b : Int) : S := ⟨[(0, vb a), (5, .val (.vec 2 .str) ([([73, 68, 51] : LB), ([65, 80, 69, 84, 65, 71, 69, 88] : LB)] : List LB)), (6, vi b)], [], []⟩
def z4 : Nat → S → Option R_ := H.i P_ [r,l,r,d]
def x6 : Option R_ := H.e P_ [r,r] ⟨[], [], []⟩
def x4 (a : LB) (b : Int) : Option R_ := H.e P_ [r,l,r,d] (t4 a b)
theorem e6 : x6 = Alx := by kernel_rfl
theorem i4 (a : LB) : ∀ (q : Nat) (b : Int), z4 q (t4 a b) = Hp a q b :=
 ind (fun _ => by kernel_rfl) fun q ih b => Eq.trans (b := Sa x6 (fun b => (z4 q) (t4 a b)) a b) (by kernel_rfl) (by simp only [e6, ih] <;> rfl)
theorem e4 : x4 = Aew := by funext a b; exact Eq.trans (by kernel_rfl) ((i4 a Ca b).trans (by rw [Ak]; rfl))
noncomputable def F (x : LB) := Wi x
theorem rn (x : LB) : H.u P_ x = F x := Eq.trans (b := Aeg x4 x) (by kernel_rfl) (by simp only [e4] <;> rfl)
noncomputable def c : Con := ⟨H.p, H.r, F⟩
theorem ok : ConOk P_ Tryz.gl 129 c := Tryz.co H Tryz.func129 (.cons F139.ok .nil) (by kernel_rfl) rn
end F129
namespace F215
abbrev R_ := (UInt32 × Int)
abbrev K_ := S → Option R_
noncomputable def H : Hd := ⟨[Su, Sb], [Su, Si], (.seq .d (.seq .d (.cut [0, 1, 6] [] (.keep [0, 1, 6, 12] true) (.cut [0] [] (.seq .d (.blk (.loop [0, 6, 13, 14, 15] [] .d))) .d)))), ⟨[], Tryz.gl, false⟩, [(261, (.seq .d (.seq .d (.cut [1] [] (.seq .d (.blk (.loop [1, 5] [] (.seq .d (.seq .d (.cut [1, 5] [] (.blk (.seq .d (.seq .d (.cut [1, 2, 3, 5] [] (.seq .d (.blk (.loop [1, 2, 3, 5, 10] [] .d))) .d)))) .d)))))) .d))))], Tryz.f215⟩
def t28 (a : LB) (b : LU) (h : UInt32) (m : Int) : S := ⟨[(0, vu h), (6, .ptr 0 []), (13, vb a), (14, vi (Ac a)), (15, vi m)], [.box 363 (.val (.vec 256 (.int .u32)) b)], []⟩
def z28 : Nat → S → Option R_ := H.i P_ [r,r,r,l,r,d]
def t21 (f : UInt32) (a : LB) (g : Int) (b : LU) (k : UInt32) (n : Int) : S := ⟨[(1, .ptr 0 []), (2, vi g), (3, vu k), (5, vi g), (10, vi n)], [.box 363 (.val (.vec 256 (.int .u32)) b)], [[(0, vu f), (1, vb a)]]⟩
def z21 (kn16 : K_) : Nat → S → Option R_ := H.i P_ [r,r,l,(call 0 261),r,r,l,r,d,(lp kn16),r,r,l,d,r,r,l,r,d]
def t16 (f : UInt32) (a : LB) (g : Int) (b : LU) : S := ⟨[(1, .ptr 0 []), (5, vi g)], [.box 363 (.val (.vec 256 (.int .u32)) b)], [[(0, vu f), (1, vb a)]]⟩
def z16 : Nat → S → Option R_ := H.i P_ [r,r,l,(call 0 261),r,r,l,r,d]
def x30 (h : UInt32) : Option R_ := H.e P_ [r,r,r,r] ⟨[(0, vu h)], [], []⟩
def x28 (a : LB) (b : LU) (h : UInt32) (m : Int) : Option R_ := H.e P_ [r,r,r,l,r,d] (t28 a b h m)
def x27 (f : UInt32) (a : LB) (b : LU) : Option R_ := H.e P_ [r,r,r] ⟨[(0, vu f), (1, vb a), (6, .ptr 0 [])], [.box 363 (.val (.vec 256 (.int .u32)) b)], []⟩
def x26 (f : UInt32) (a : LB) (b : LU) : Option R_ := H.e P_ [r,r,l,(call 0 261),r,r,r] ⟨[(1, .ptr 0 [])], [.box 363 (.val (.vec 256 (.int .u32)) b)], [[(0, vu f), (1, vb a)]]⟩
def x24 (kn16 : K_) (f : UInt32) (a : LB) (g : Int) (o : LU) : Option R_ := H.e P_ [r,r,l,(call 0 261),r,r,l,r,d,(lp kn16),r,r,r] ⟨[(1, .ptr 0 []), (5, vi g)], [.box 363 (.val (.vec 256 (.int .u32)) o)], [[(0, vu f), (1, vb a)]]⟩
def x23 (kn16 : K_) (f : UInt32) (a : LB) (g : Int) (k : UInt32) (b : LU) : Option R_ := H.e P_ [r,r,l,(call 0 261),r,r,l,r,d,(lp kn16),r,r,l,d,r,r,r] ⟨[(1, .ptr 0 []), (2, vi g), (3, vu k), (5, vi g)], [.box 363 (.val (.vec 256 (.int .u32)) b)], [[(0, vu f), (1, vb a)]]⟩
def x21 (kn16 : K_) (f : UInt32) (a : LB) (g : Int) (b : LU) (k : UInt32) (n : Int) : Option R_ := H.e P_ [r,r,l,(call 0 261),r,r,l,r,d,(lp kn16),r,r,l,d,r,r,l,r,d] (t21 f a g b k n)
def x16 (f : UInt32) (a : LB) (g : Int) (b : LU) : Option R_ := H.e P_ [r,r,l,(call 0 261),r,r,l,r,d] (t16 f a g b)
theorem e30 : x30 = Ag0 := by kernel_rfl
theorem i28 (a : LB) (b : LU) : ∀ (q : Nat) (h : UInt32) (m : Int), z28 q (t28 a b h m) = Pz a b q h m :=
 ind (fun _ _ => by kernel_rfl) fun q ih h m => Eq.trans (b := Aan x30 (fun h m => (z28 q) (t28 a b h m)) a b h m) (by kernel_rfl) (by simp only [e30, ih] <;> rfl)
theorem e28 : x28 = Ag6 := by funext a b h m; exact Eq.trans (by kernel_rfl) ((i28 a b Ca h m).trans (by rw [Ak]; rfl))
theorem e27 : x27 = Agl := Eq.trans (b := Ahb x28) (by kernel_rfl) (by simp only [e28] <;> rfl)
theorem e26 : x26 = Abh := Eq.trans (b := Aha x27) (by kernel_rfl) (by simp only [e27] <;> rfl)
theorem e24 (kn16 : K_) (f : UInt32) (a : LB) : x24 kn16 f a = Agj (fun g b => kn16 (t16 f a g b)) f a := by kernel_rfl
theorem e23 (kn16 : K_) (f : UInt32) (a : LB) : x23 kn16 f a = Abb (fun g b => kn16 (t16 f a g b)) f a := Eq.trans (b := Agp (x24 kn16 f a) f a) (by kernel_rfl) (by simp only [e24] <;> rfl)
theorem i21 (kn16 : K_) (f : UInt32) (a : LB) (g : Int) (b : LU) : ∀ (q : Nat) (k : UInt32) (n : Int), z21 kn16 q (t21 f a g b k n) = Qb (fun g b => kn16 (t16 f a g b)) f a g b q k n :=
 ind (fun _ _ => by kernel_rfl) fun q ih k n => Eq.trans (b := Aai (x23 kn16 f a) (fun k n => (z21 kn16 q) (t21 f a g b k n)) f a g b k n) (by kernel_rfl) (by simp only [e23, ih] <;> rfl)
theorem e21 (kn16 : K_) (f : UInt32) (a : LB) : x21 kn16 f a = Af7 (fun g b => kn16 (t16 f a g b)) f a := by funext g b k n; exact Eq.trans (by kernel_rfl) ((i21 kn16 f a g b Ca k n).trans (by rw [Ak]; rfl))
theorem i16 (f : UInt32) (a : LB) : ∀ (q : Nat) (g : Int) (b : LU), z16 q (t16 f a g b) = Le f a q g b :=
 ind (fun _ _ => by kernel_rfl) fun q ih g b => Eq.trans (b := Aaj (x21 (z16 q) f a) x26 f a g b) (by kernel_rfl) (by simp only [e21, e26, ih] <;> rfl)
theorem e16 : x16 = Agn := by funext f a g b; exact Eq.trans (by kernel_rfl) ((i16 f a Ca g b).trans (by rw [Ak]; rfl))
noncomputable def F (x : UInt32 × LB) := Ald x.1 x.2
theorem rn (x : UInt32 × LB) : H.u P_ x = F x := Eq.trans (b := Aic x16 x.1 x.2) (by kernel_rfl) (by simp only [e16] <;> rfl)
noncomputable def c : Con := ⟨H.p, H.r, F⟩
theorem ok : ConOk P_ Tryz.gl 215 c := Tryz.cr H Tryz.func215 .nil (AnsOk.cons Tryz.ent261 AnsOk.nil) (by kernel_rfl) rn
end F215
namespace F141
noncomputable def H : Hd := ⟨[Sb], [Su, Si], .d, ⟨[(215, F215.c)], Tryz.gl, false⟩, [], Tryz.f141⟩
noncomputable def F (x : LB) := Afz x
theorem rn (x : LB) : H.u P_ x = F x := by kernel_rfl
noncomputable def c : Con := ⟨H.p, H.r, F⟩
theorem ok : ConOk P_ Tryz.gl 141 c := Tryz.co H Tryz.func141 (.cons F215.ok .nil) (by kernel_rfl) rn
end F141
namespace F89
abbrev R_ := (Int × Int × Int × Int × Int × Int)
noncomputable def H : Hd := ⟨[Sb], [.agg [Si, Si, Si, Si, Si], Si], (.seq .d (.seq .d (.seq .d (.seq .d (.seq .d (.seq .d (.seq .d (.cut [2, 8] [] (.seq .d (.blk (.loop [0, 2, 8, 9, 44, 45] [] .d))) .d)))))))), ⟨[(139, F139.c), (140, F140.c), (141, F141.c), (142, F142.c), (143, F143.c)], Tryz.Bs2, false⟩, [], Tryz.f89⟩
def t4 (b : LB) (g f : Int) (a : LI) : S := ⟨[(0, vb b), (2, .ptr 0 []), (8, .ptr 1 []), (9, vi g), (44, .val (.vec 5 (.int .i64)) ([(2 : Int), (2 : Int), (2 : Int), (4 : Int), (4 : Int)] : LI)), (45, vi f)], [.box 24 (.agg [vi 0, vi 0, vi 0, vi 0, vi 0]), .box 197 (.val (.vec 5 (.int .i64)) a)], []⟩
def z4 : Nat → S → Option R_ := H.i P_ [r,r,r,r,r,r,r,l,r,d]
def x6 (a : LI) : Option R_ := H.e P_ [r,r,r,r,r,r,r,r] ⟨[(2, .ptr 0 []), (8, .ptr 1 [])], [.box 24 (.agg [vi 0, vi 0, vi 0, vi 0, vi 0]), .box 197 (.val (.vec 5 (.int .i64)) a)], []⟩
def x4 (b : LB) (g f : Int) (a : LI) : Option R_ := H.e P_ [r,r,r,r,r,r,r,l,r,d] (t4 b g f a)
theorem e6 : x6 = Abj := by kernel_rfl
theorem i4 (b : LB) : ∀ (q : Nat) (g f : Int) (a : LI), z4 q (t4 b g f a) = Li b q g f a :=
 ind (fun _ _ _ => by kernel_rfl) fun q ih g f a => Eq.trans (b := Aag x6 (fun g f a => (z4 q) (t4 b g f a)) b g f a) (by kernel_rfl) (by simp only [e6, ih] <;> rfl)
theorem e4 : x4 = Abd := by funext b g f a; exact Eq.trans (by kernel_rfl) ((i4 b Ca g f a).trans (by rw [Ak]; rfl))
noncomputable def F (x : LB) := Yy x
theorem rn (x : LB) : H.u P_ x = F x := Eq.trans (b := Ag7 x4 x) (by kernel_rfl) (by simp only [e4] <;> rfl)
noncomputable def c : Con := ⟨H.p, H.r, F⟩
theorem ok : ConOk P_ Tryz.Bs2 89 c := Tryz.co H Tryz.func89 (.cons (F139.ok.mono (.cons _ .slnil)) (.cons (F140.ok.mono (.cons _ .slnil)) (.cons (F141.ok.mono (.cons _ .slnil)) (.cons (F142.ok.mono (.cons _ .slnil)) (.cons (F143.ok.mono (.cons _ .slnil)) .nil))))) (by kernel_rfl) rn
end F89
namespace F149
abbrev R_ := (UInt64 × Int)
abbrev K_ := S → Option R_
noncomputable def H : Hd := ⟨[Sq, Sb], [Sq, Si], (.seq .d (.seq .d (.cut [4, 5] [] (.keep [0, 1, 4, 5, 9, 10, 11, 12] true) .d))), ⟨[], Tryz.gl, false⟩, [(220, (.seq .d (.cut [1] [] (.seq .d (.blk (.loop [0, 1, 9, 10, 11] [] .d))) .d))), (221, (.seq .d (.seq .d (.cut [1] [] (.seq .d (.blk (.loop [1, 5] [] (.seq .d (.seq .d (.cut [1, 5] [] (.blk (.seq .d (.seq .d (.cut [1, 2, 3, 5] [] (.seq .d (.blk (.loop [1, 2, 3, 5, 11] [] .d))) .d)))) .d)))))) .d))))], Tryz.f149⟩
def t27 (a : LB) (b : UInt64) (f : LQ) (h : UInt64) (m : Int) : S := ⟨[(0, .ptr 0 []), (1, vq h), (9, vb a), (10, vi (Ac a)), (11, vi m)], [.box 334 (.val (.vec 256 (.int .u64)) f)], [[(0, vq b), (1, vb a), (4, vq 0), (5, vi 0), (9, .ptr 0 []), (10, vq b), (11, vb a)]]⟩
def z27 : Nat → S → Option R_ := H.i P_ [r,r,l,(call 3 220),r,l,r,d]
def t21 (b : UInt64) (a : LB) (g : Int) (f : LQ) (k : UInt64) (n : Int) : S := ⟨[(1, .ptr 0 []), (2, vi g), (3, vq k), (5, vi g), (11, vi n)], [.box 334 (.val (.vec 256 (.int .u64)) f)], [[(0, vq b), (1, vb a), (4, vq 0), (5, vi 0)]]⟩
def z21 (kn16 : K_) : Nat → S → Option R_ := H.i P_ [r,r,l,(call 0 221),r,r,l,r,d,(lp kn16),r,r,l,d,r,r,l,r,d]
def t16 (b : UInt64) (a : LB) (g : Int) (f : LQ) : S := ⟨[(1, .ptr 0 []), (5, vi g)], [.box 334 (.val (.vec 256 (.int .u64)) f)], [[(0, vq b), (1, vb a), (4, vq 0), (5, vi 0)]]⟩
def z16 : Nat → S → Option R_ := H.i P_ [r,r,l,(call 0 221),r,r,l,r,d]
def x30 (h : UInt64) : Option R_ := H.e P_ [r,r,r] ⟨[(4, vq h), (5, vi 0)], [], []⟩
def x29 (h b : UInt64) (a : LB) (f : LQ) : Option R_ := H.e P_ [r,r,l,(call 3 220),r,r] ⟨[(1, vq h)], [.box 334 (.val (.vec 256 (.int .u64)) f)], [[(0, vq b), (1, vb a), (4, vq 0), (5, vi 0), (9, .ptr 0 []), (10, vq b), (11, vb a)]]⟩
def x27 (a : LB) (b : UInt64) (f : LQ) (h : UInt64) (m : Int) : Option R_ := H.e P_ [r,r,l,(call 3 220),r,l,r,d] (t27 a b f h m)
def x26 (b : UInt64) (a : LB) (f : LQ) : Option R_ := H.e P_ [r,r,l,(call 0 221),r,r,r] ⟨[(1, .ptr 0 [])], [.box 334 (.val (.vec 256 (.int .u64)) f)], [[(0, vq b), (1, vb a), (4, vq 0), (5, vi 0)]]⟩
def x24 (kn16 : K_) (b : UInt64) (a : LB) (g : Int) (o : LQ) : Option R_ := H.e P_ [r,r,l,(call 0 221),r,r,l,r,d,(lp kn16),r,r,r] ⟨[(1, .ptr 0 []), (5, vi g)], [.box 334 (.val (.vec 256 (.int .u64)) o)], [[(0, vq b), (1, vb a), (4, vq 0), (5, vi 0)]]⟩
def x23 (kn16 : K_) (b : UInt64) (a : LB) (g : Int) (k : UInt64) (f : LQ) : Option R_ := H.e P_ [r,r,l,(call 0 221),r,r,l,r,d,(lp kn16),r,r,l,d,r,r,r] ⟨[(1, .ptr 0 []), (2, vi g), (3, vq k), (5, vi g)], [.box 334 (.val (.vec 256 (.int .u64)) f)], [[(0, vq b), (1, vb a), (4, vq 0), (5, vi 0)]]⟩
def x21 (kn16 : K_) (b : UInt64) (a : LB) (g : Int) (f : LQ) (k : UInt64) (n : Int) : Option R_ := H.e P_ [r,r,l,(call 0 221),r,r,l,r,d,(lp kn16),r,r,l,d,r,r,l,r,d] (t21 b a g f k n)
def x16 (b : UInt64) (a : LB) (g : Int) (f : LQ) : Option R_ := H.e P_ [r,r,l,(call 0 221),r,r,l,r,d] (t16 b a g f)
theorem e30 : x30 = Ag2 := by kernel_rfl
theorem e29 : x29 = Ahe := Eq.trans (b := Agb x30) (by kernel_rfl) (by simp only [e30] <;> rfl)
theorem i27 (a : LB) (b : UInt64) (f : LQ) : ∀ (q : Nat) (h : UInt64) (m : Int), z27 q (t27 a b f h m) = Qi a b f q h m :=
 ind (fun _ _ => by kernel_rfl) fun q ih h m => Eq.trans (b := Aaq x29 (fun h m => (z27 q) (t27 a b f h m)) a b f h m) (by kernel_rfl) (by simp only [e29, ih] <;> rfl)
theorem e27 : x27 = Af4 := by funext a b f h m; exact Eq.trans (by kernel_rfl) ((i27 a b f Ca h m).trans (by rw [Ak]; rfl))
theorem e26 : x26 = Aae := Eq.trans (b := Af3 x27) (by kernel_rfl) (by simp only [e27] <;> rfl)
theorem e24 (kn16 : K_) (b : UInt64) (a : LB) : x24 kn16 b a = Agt (fun g f => kn16 (t16 b a g f)) b a := by kernel_rfl
theorem e23 (kn16 : K_) (b : UInt64) (a : LB) : x23 kn16 b a = Aaf (fun g f => kn16 (t16 b a g f)) b a := Eq.trans (b := Ago (x24 kn16 b a) b a) (by kernel_rfl) (by simp only [e24] <;> rfl)
theorem i21 (kn16 : K_) (b : UInt64) (a : LB) (g : Int) (f : LQ) : ∀ (q : Nat) (k : UInt64) (n : Int), z21 kn16 q (t21 b a g f k n) = Ps (fun g f => kn16 (t16 b a g f)) b a g f q k n :=
 ind (fun _ _ => by kernel_rfl) fun q ih k n => Eq.trans (b := Zu (x23 kn16 b a) (fun k n => (z21 kn16 q) (t21 b a g f k n)) b a g f k n) (by kernel_rfl) (by simp only [e23, ih] <;> rfl)
theorem e21 (kn16 : K_) (b : UInt64) (a : LB) : x21 kn16 b a = Ags (fun g f => kn16 (t16 b a g f)) b a := by funext g f k n; exact Eq.trans (by kernel_rfl) ((i21 kn16 b a g f Ca k n).trans (by rw [Ak]; rfl))
theorem i16 (b : UInt64) (a : LB) : ∀ (q : Nat) (g : Int) (f : LQ), z16 q (t16 b a g f) = La b a q g f :=
 ind (fun _ _ => by kernel_rfl) fun q ih g f => Eq.trans (b := Aax (x21 (z16 q) b a) x26 b a g f) (by kernel_rfl) (by simp only [e21, e26, ih] <;> rfl)
theorem e16 : x16 = Agk := by funext b a g f; exact Eq.trans (by kernel_rfl) ((i16 b a Ca g f).trans (by rw [Ak]; rfl))
noncomputable def F (x : UInt64 × LB) := Ak1 x.1 x.2
theorem rn (x : UInt64 × LB) : H.u P_ x = F x := Eq.trans (b := Ait x16 x.1 x.2) (by kernel_rfl) (by simp only [e16] <;> rfl)
noncomputable def c : Con := ⟨H.p, H.r, F⟩
theorem ok : ConOk P_ Tryz.gl 149 c := Tryz.cr H Tryz.func149 .nil (AnsOk.cons Tryz.ent220 (AnsOk.cons Tryz.ent221 AnsOk.nil)) (by kernel_rfl) rn
end F149
namespace F94
noncomputable def H : Hd := ⟨[Sb], [Sq, Si], .d, ⟨[(149, F149.c)], Tryz.gl, false⟩, [], Tryz.f94⟩
noncomputable def F (x : LB) := Ajw x
theorem rn (x : LB) : H.u P_ x = F x := by kernel_rfl
noncomputable def c : Con := ⟨H.p, H.r, F⟩
theorem ok : ConOk P_ Tryz.gl 94 c := Tryz.co H Tryz.func94 (.cons F149.ok .nil) (by kernel_rfl) rn
end F94
namespace F219
noncomputable def H : Hd := ⟨[Ss], [Sq, Si], .d, ⟨[(94, F94.c)], Tryz.gl, false⟩, [], Tryz.f219⟩
noncomputable def F (x : LB) := Arw x
theorem rn (x : LB) : H.u P_ x = F x := by kernel_rfl
noncomputable def c : Con := ⟨H.p, H.r, F⟩
theorem ok : ConOk P_ Tryz.gl 219 c := Tryz.co H Tryz.func219 (.cons F94.ok .nil) (by kernel_rfl) rn
end F219
namespace F147
noncomputable def H : Hd := ⟨[Ss], [Ob 5, Si], .d, ⟨[(189, F189.c), (219, F219.c)], Tryz.gl, false⟩, [], Tryz.f147⟩
noncomputable def F (x : LB) := Afs x
theorem rn (x : LB) : H.u P_ x = F x := by kernel_rfl
noncomputable def c : Con := ⟨H.p, H.r, F⟩
theorem ok : ConOk P_ Tryz.gl 147 c := Tryz.co H Tryz.func147 (.cons F189.ok (.cons F219.ok .nil)) (by kernel_rfl) rn
end F147
namespace F92
noncomputable def H : Hd := ⟨[Sb, Ss], [Sz, Si], .d, ⟨[(147, F147.c), (148, F148.c)], Tryz.gl, false⟩, [], Tryz.f92⟩
noncomputable def F (x : LB × LB) := Afi x.1 x.2
theorem rn (x : LB × LB) : H.u P_ x = F x := by kernel_rfl
noncomputable def c : Con := ⟨H.p, H.r, F⟩
theorem ok : ConOk P_ Tryz.gl 92 c := Tryz.co H Tryz.func92 (.cons F147.ok (.cons F148.ok .nil)) (by kernel_rfl) rn
end F92
namespace F93
abbrev R_ := (LI × Int)
noncomputable def H : Hd := ⟨[Sb, Si], [Ol 3, Si], (.seq .d (.seq .d (.seq .d (.seq .d (.seq .d (.seq .d (.cut [10] [] (.seq .d (.blk (.loop [0, 10, 48, 49] [] .d))) .d))))))), ⟨[(74, F74.c), (140, F140.c), (141, F141.c)], Tryz.gl, false⟩, [], Tryz.f93⟩
def t4 (b : LB) (f : LI) (g : Int) (a : LI) : S := ⟨[(0, vb b), (10, .own 0), (48, vi (Ac f)), (49, vi g)], [Ai 3 a], []⟩
def z4 : Nat → S → Option R_ := H.i P_ [r,r,r,r,r,r,l,r,d]
def x6 (a : LI) : Option R_ := H.e P_ [r,r,r,r,r,r,r] ⟨[(10, .own 0)], [Ai 3 a], []⟩
def x4 (b : LB) (f : LI) (g : Int) (a : LI) : Option R_ := H.e P_ [r,r,r,r,r,r,l,r,d] (t4 b f g a)
theorem e6 : x6 = Ac4 := by kernel_rfl
theorem i4 (b : LB) (f : LI) : ∀ (q : Nat) (g : Int) (a : LI), z4 q (t4 b f g a) = Sf b f q g a :=
 ind (fun _ _ => by kernel_rfl) fun q ih g a => Eq.trans (b := Ac9 x6 (fun g a => (z4 q) (t4 b f g a)) b f g a) (by kernel_rfl) (by simp only [e6, ih] <;> rfl)
theorem e4 : x4 = Aiq := by funext b f g a; exact Eq.trans (by kernel_rfl) ((i4 b f Ca g a).trans (by rw [Ak]; rfl))
noncomputable def F (x : LB × Int) := Akv x.1 x.2
theorem rn (x : LB × Int) : H.u P_ x = F x := Eq.trans (b := Aiw x4 x.1 x.2) (by kernel_rfl) (by simp only [e4] <;> rfl)
noncomputable def c : Con := ⟨H.p, H.r, F⟩
theorem ok : ConOk P_ Tryz.gl 93 c := Tryz.co H Tryz.func93 (.cons F74.ok (.cons F140.ok (.cons F141.ok .nil))) (by kernel_rfl) rn
end F93
namespace F95
abbrev R_ := LX
noncomputable def H : Hd := ⟨[Sq], [.lf (.vec 16 (.int .i32)) none], (.seq .d (.seq .d (.cut [2, 3] [] (.seq .d (.blk (.loop [0, 2, 3, 5] [] .d))) .d))), ⟨[], Tryz.gl, false⟩, [], Tryz.f95⟩
def t4 (f : UInt64) (b : Int) (a : LX) : S := ⟨[(0, vq f), (2, .ptr 0 []), (3, .ptr 1 []), (5, vi b)], [.box 95 (.val (.vec 16 (.int .i32)) (List.replicate 16 (0 : Int32))), .box 95 (.val (.vec 16 (.int .i32)) a)], []⟩
def z4 : Nat → S → Option R_ := H.i P_ [r,r,l,r,d]
def x6 (a : LX) : Option R_ := H.e P_ [r,r,r] ⟨[(2, .ptr 0 []), (3, .ptr 1 [])], [.box 95 (.val (.vec 16 (.int .i32)) (List.replicate 16 (0 : Int32))), .box 95 (.val (.vec 16 (.int .i32)) a)], []⟩
def x4 (f : UInt64) (b : Int) (a : LX) : Option R_ := H.e P_ [r,r,l,r,d] (t4 f b a)
theorem e6 : x6 = Aw6 := by kernel_rfl
theorem i4 (f : UInt64) : ∀ (q : Nat) (b : Int) (a : LX), z4 q (t4 f b a) = Acv f q b a :=
 ind (fun _ _ => by kernel_rfl) fun q ih b a => Eq.trans (b := Akh x6 (fun b a => (z4 q) (t4 f b a)) f b a) (by kernel_rfl) (by simp only [e6, ih] <;> rfl)
theorem e4 : x4 = Auj := by funext f b a; exact Eq.trans (by kernel_rfl) ((i4 f Ca b a).trans (by rw [Ak]; rfl))
noncomputable def F (x : UInt64) := Bak x
theorem rn (x : UInt64) : H.u P_ x = F x := Eq.trans (b := Atw x4 x) (by kernel_rfl) (by simp only [e4] <;> rfl)
noncomputable def c : Con := ⟨H.p, H.r, F⟩
theorem ok : ConOk P_ Tryz.gl 95 c := Tryz.co H Tryz.func95 .nil (by kernel_rfl) rn
end F95
namespace F54
noncomputable def H : Hd := ⟨[Ss], [.lf (.vec 16 (.int .i32)) none, Si], .d, ⟨[(94, F94.c), (95, F95.c)], Tryz.gl, false⟩, [], Tryz.f54⟩
noncomputable def F (x : LB) := Af0 x
theorem rn (x : LB) : H.u P_ x = F x := by kernel_rfl
noncomputable def c : Con := ⟨H.p, H.r, F⟩
theorem ok : ConOk P_ Tryz.gl 54 c := Tryz.co H Tryz.func54 (.cons F94.ok (.cons F95.ok .nil)) (by kernel_rfl) rn
end F54
namespace F130
noncomputable def H : Hd := ⟨[.agg [Si, Si, Si, Si, Si]], [.agg [Si, Si]], .d, ⟨[], Tryz.gl, false⟩, [], Tryz.f130⟩
noncomputable def F (x : Int × Int × Int × Int × Int) := Aiy x.1 x.2.1 x.2.2.1 x.2.2.2.1 x.2.2.2.2
theorem rn (x : Int × Int × Int × Int × Int) : H.u P_ x = F x := by kernel_rfl
noncomputable def c : Con := ⟨H.p, H.r, F⟩
theorem ok : ConOk P_ Tryz.gl 130 c := Tryz.co H Tryz.func130 .nil (by kernel_rfl) rn
end F130
namespace F150
abbrev R_ := (Int32 × Int32 × Int)
noncomputable def H : Hd := ⟨[Si], [Sx, Sx, Si], (.seq .d (.seq (.seq .d (.blk (.cut [0, 7] [] .d .d))) .d)), ⟨[], Tryz.gl, false⟩, [], Tryz.f150⟩
def x2 (a : Int) (b : Bool) : Option R_ := H.e P_ [r,l,r,d,r] ⟨[(0, vi a), (7, vt b)], [], []⟩
theorem e2 : x2 = Ana := by kernel_rfl
noncomputable def F (x : Int) := Adn x
theorem rn (x : Int) : H.u P_ x = F x := Eq.trans (b := Amg x2 x) (by kernel_rfl) (by simp only [e2] <;> rfl)
noncomputable def c : Con := ⟨H.p, H.r, F⟩
theorem ok : ConOk P_ Tryz.gl 150 c := Tryz.co H Tryz.func150 .nil (by kernel_rfl) rn
end F150
namespace F96
noncomputable def H : Hd := ⟨[.agg [Si, Si]], [Si], .d, ⟨[(150, F150.c)], Tryz.gl, false⟩, [], Tryz.f96⟩
noncomputable def F (x : Int × Int) := Ac6 x.1 x.2
theorem rn (x : Int × Int) : H.u P_ x = F x := by kernel_rfl
noncomputable def c : Con := ⟨H.p, H.r, F⟩
theorem ok : ConOk P_ Tryz.gl 96 c := Tryz.co H Tryz.func96 (.cons F150.ok .nil) (by kernel_rfl) rn
end F96
namespace F97
noncomputable def H : Hd := ⟨[Sb], [Sb, Si], .d, ⟨[(141, F141.c), (151, F151.c)], Tryz.gl, false⟩, [], Tryz.f97⟩
noncomputable def F (x : LB) := Aak x
theorem rn (x : LB) : H.u P_ x = F x := by kernel_rfl
noncomputable def c : Con := ⟨H.p, H.r, F⟩
theorem ok : ConOk P_ Tryz.gl 97 c := Tryz.co H Tryz.func97 (.cons F141.ok (.cons F151.ok .nil)) (by kernel_rfl) rn
end F97
namespace F152
def Kz (a : LB) : Option (LB) :=
Aw4 a (
some ([] : LB)) (
(Gc ([] : LB) a).bind fun b =>
some b)
theorem Adq : @Kz = @Hg := by
  unfold Kz Hg
  repeat (refine funext fun _ => ?_)
  repeat' first
    | with_reducible rfl
    | with_reducible refine Hw ?_ ?_
    | with_reducible refine Ic ?_ ?_ ?_
    | with_reducible refine Hy ?_ ?_ ?_ ?_
    | ((with_reducible refine Md ?_ ?_); focus (intro h; first | (subst h; rfl) | (simp only [h]; rfl) | (simp [Gc, Ac, h]; done)))
    | with_reducible refine Lk fun x => ?_
    | with_reducible refine Te (fun _ => ?_) (fun _ => ?_)
    | (refine Ea (fun h => by simp only [h, Mc, Ct, Cp, ite_self]) (fun x h => ?_); (try simp only [h, Ct]))
    | (refine Fl (fun h => ?_) (fun h => ?_) <;> simp only [h, if_true, if_false, Bool.false_eq_true])
noncomputable def H : Hd := ⟨[Sb], [Ob 5], .d, ⟨[], Tryz.gl, false⟩, [], Tryz.f152⟩
noncomputable def F (x : LB) := Hg x
theorem rn (x : LB) : H.u P_ x = F x := Eq.trans (b := Kz x) (by kernel_rfl) (by rw [Adq]; rfl)
noncomputable def c : Con := ⟨H.p, H.r, F⟩
theorem ok : ConOk P_ Tryz.gl 152 c := Tryz.co H Tryz.func152 .nil (by kernel_rfl) rn
end F152
namespace F98
noncomputable def H : Hd := ⟨[Sb], [.agg [Ob 5, Si], Si], .d, ⟨[(152, F152.c)], Tryz.gl, false⟩, [], Tryz.f98⟩
noncomputable def F (x : LB) := Az3 x
theorem rn (x : LB) : H.u P_ x = F x := by kernel_rfl
noncomputable def c : Con := ⟨H.p, H.r, F⟩
theorem ok : ConOk P_ Tryz.gl 98 c := Tryz.co H Tryz.func98 (.cons F152.ok .nil) (by kernel_rfl) rn
end F98
namespace F153
noncomputable def H : Hd := ⟨[], [.agg [Si, Si, Sq, Sq]], .d, ⟨[], Tryz.gl, false⟩, [], Tryz.f153⟩
noncomputable def F (x : Unit) := Aw9
theorem rn (x : Unit) : H.u P_ x = F x := by kernel_rfl
noncomputable def c : Con := ⟨H.p, H.r, F⟩
theorem ok : ConOk P_ Tryz.gl 153 c := Tryz.co H Tryz.func153 .nil (by kernel_rfl) rn
end F153
namespace F156
noncomputable def H : Hd := ⟨[.agg [Sb, Si]], [Si], .d, ⟨[], Tryz.gl, false⟩, [], Tryz.f156⟩
noncomputable def F (x : LB × Int) := Qp x.1 x.2
theorem rn (x : LB × Int) : H.u P_ x = F x := by kernel_rfl
noncomputable def c : Con := ⟨H.p, H.r, F⟩
theorem ok : ConOk P_ Tryz.gl 156 c := Tryz.co H Tryz.func156 .nil (by kernel_rfl) rn
end F156
namespace F157
abbrev R_ := UInt64
noncomputable def H : Hd := ⟨[.agg [Sb, Si], Si, Si], [Sq], (.seq .d (.seq .d (.cut [7] [] (.blk (.loop [1, 2, 3, 7, 8] [] .d)) .d))), ⟨[], Tryz.gl, false⟩, [], Tryz.f157⟩
def t4 (b f : Int) (h : LB) (k : Int) (g : UInt64) (a : Int) : S := ⟨[(1, vi b), (2, vi f), (3, .ptr 0 []), (7, vq g), (8, vi a)], [.box 146 (.agg [vb h, vi k])], []⟩
def z4 : Nat → S → Option R_ := H.i P_ [r,r,l,d]
def x6 (g : UInt64) : Option R_ := H.e P_ [r,r,r] ⟨[(7, vq g)], [], []⟩
def x4 (b f : Int) (h : LB) (k : Int) (g : UInt64) (a : Int) : Option R_ := H.e P_ [r,r,l,d] (t4 b f h k g a)
theorem e6 : x6 = Asq := by kernel_rfl
theorem i4 (b f : Int) (h : LB) (k : Int) : ∀ (q : Nat) (g : UInt64) (a : Int), z4 q (t4 b f h k g a) = Ad6 b f h k q g a :=
 ind (fun _ _ => by kernel_rfl) fun q ih g a => Eq.trans (b := Al9 x6 (fun g a => (z4 q) (t4 b f h k g a)) b f h k g a) (by kernel_rfl) (by simp only [e6, ih] <;> rfl)
theorem e4 : x4 = Asx := by funext b f h k g a; exact Eq.trans (by kernel_rfl) ((i4 b f h k Ca g a).trans (by rw [Ak]; rfl))
noncomputable def F (x : LB × Int × Int × Int) := Aqv x.1 x.2.1 x.2.2.1 x.2.2.2
theorem rn (x : LB × Int × Int × Int) : H.u P_ x = F x := Eq.trans (b := Asf x4 x.1 x.2.1 x.2.2.1 x.2.2.2) (by kernel_rfl) (by simp only [e4] <;> rfl)
noncomputable def c : Con := ⟨H.p, H.r, F⟩
theorem ok : ConOk P_ Tryz.gl 157 c := Tryz.co H Tryz.func157 .nil (by kernel_rfl) rn
end F157
namespace F154
abbrev R_ := (LB × Int × Int)
abbrev K_ := S → Option R_
noncomputable def H : Hd := ⟨[.agg [Sb, Si], Si, Si], [.agg [Ob 5, Si], Si], (.seq .d (.seq .d (.seq .d (.seq .d (.cut [6, 8] [] (.seq .d (.blk (.loop [2, 3, 6, 8, 9] [⟨8, [0], .own 5 (.int .u8)⟩] (.seq .d (.cut [2, 3, 6, 8, 9] [] (.blk (.seq .d (.keep [2, 3, 6, 8, 9, 10, 39, 40, 41, 42, 43] true))) .d))))) .d))))), ⟨[(156, F156.c), (157, F157.c)], Tryz.gl, false⟩, [(222, (.blk (.loop [0, 1, 2] [] (.seq .d (.blk (.cut [0, 1, 2] [] .d (.seq .d (.cut [0, 1, 2, 7] [] .d .d))))))))], Tryz.f154⟩
def t44 (a : Int) (g : LB) (f b : Int) (k n : UInt64) (m h : Int) (u : LB) : S := ⟨[(0, .ptr 0 []), (1, vq n), (2, vi m)], [.box 146 (.agg [.own 3, vi h]), .box 146 (.agg [vb g, vi f]), .box 146 (.agg [.nils, vi 0]), Ab 5 u], [[(2, vi a), (3, .ptr 1 []), (6, .ptr 2 []), (8, .ptr 0 []), (9, vi b), (10, vi (Gt (64 : Int) (Ao a b))), (39, .agg [vb g, vi f]), (40, vi b), (41, vi (Gt (64 : Int) (Ao a b))), (42, vq k), (43, vi (Gt (64 : Int) (Ao a b)))]]⟩
def z44 (kn27 : K_) : Nat → S → Option R_ := H.i P_ [r,r,r,r,l,r,d,(lp kn27),r,l,d,r,(call 5 222),d]
def t27 (a : Int) (g : LB) (f b o : Int) (p : LB) : S := ⟨[(2, vi a), (3, .ptr 0 []), (6, .ptr 1 []), (8, .ptr 2 []), (9, vi b)], [.box 146 (.agg [vb g, vi f]), .box 146 (.agg [.nils, vi 0]), .box 146 (.agg [.own 3, vi o]), Ab 5 p], []⟩
def z27 : Nat → S → Option R_ := H.i P_ [r,r,r,r,l,r,d]
def x52 (o : Int) (p : LB) : Option R_ := H.e P_ [r,r,r,r,r] ⟨[(6, .ptr 0 []), (8, .ptr 1 [])], [.box 146 (.agg [.nils, vi 0]), .box 146 (.agg [.own 2, vi o]), Ab 5 p], []⟩
def x50 (kn27 : K_) (a : Int) (g : LB) (f b h : Int) (u : LB) : Option R_ := H.e P_ [r,r,r,r,l,r,d,(lp kn27),r,r] ⟨[(2, vi a), (3, .ptr 0 []), (6, .ptr 1 []), (8, .ptr 2 []), (9, vi b)], [.box 146 (.agg [vb g, vi f]), .box 146 (.agg [.nils, vi 0]), .box 146 (.agg [.own 3, vi h]), Ab 5 u], []⟩
def x48 (kn27 kn44 : K_) (a b : Int) (g : LB) (f : Int) (k n : UInt64) (m h : Int) (w : LB) : Option R_ := H.e P_ [r,r,r,r,l,r,d,(lp kn27),r,l,d,r,(call 5 222),d,(lp kn44),r,d,r,r,r] ⟨[(0, .ptr 0 []), (1, vq n), (2, vi m), (7, vi (Gt m (Ao (8 : Int) (Ik h (7 : Int)))))], [.box 146 (.agg [.own 3, vi h]), .box 146 (.agg [vb g, vi f]), .box 146 (.agg [.nils, vi 0]), Ab 5 w], [[(2, vi a), (3, .ptr 1 []), (6, .ptr 2 []), (8, .ptr 0 []), (9, vi b), (10, vi (Gt (64 : Int) (Ao a b))), (39, .agg [vb g, vi f]), (40, vi b), (41, vi (Gt (64 : Int) (Ao a b))), (42, vq k), (43, vi (Gt (64 : Int) (Ao a b)))]]⟩
def x47 (kn27 kn44 : K_) (a b : Int) (g : LB) (f : Int) (k n : UInt64) (m h : Int) (v : LB) : Option R_ := H.e P_ [r,r,r,r,l,r,d,(lp kn27),r,l,d,r,(call 5 222),d,(lp kn44),r,d,r] ⟨[(0, .ptr 0 []), (1, vq n), (2, vi m)], [.box 146 (.agg [.own 3, vi h]), .box 146 (.agg [vb g, vi f]), .box 146 (.agg [.nils, vi 0]), Ab 5 v], [[(2, vi a), (3, .ptr 1 []), (6, .ptr 2 []), (8, .ptr 0 []), (9, vi b), (10, vi (Gt (64 : Int) (Ao a b))), (39, .agg [vb g, vi f]), (40, vi b), (41, vi (Gt (64 : Int) (Ao a b))), (42, vq k), (43, vi (Gt (64 : Int) (Ao a b)))]]⟩
def x44 (kn27 : K_) (a : Int) (g : LB) (f b : Int) (k n : UInt64) (m h : Int) (u : LB) : Option R_ := H.e P_ [r,r,r,r,l,r,d,(lp kn27),r,l,d,r,(call 5 222),d] (t44 a g f b k n m h u)
def x27 (a : Int) (g : LB) (f b o : Int) (p : LB) : Option R_ := H.e P_ [r,r,r,r,l,r,d] (t27 a g f b o p)
theorem e52 : x52 = Akk := by kernel_rfl
theorem e50 (kn27 : K_) (a : Int) (g : LB) (f : Int) : x50 kn27 a g f = Afh (fun b o p => kn27 (t27 a g f b o p)) a g f := by kernel_rfl
theorem e48 (kn27 kn44 : K_) (a : Int) (g : LB) (f b : Int) (k : UInt64) : x48 kn27 kn44 a b g f k = Aj3 (fun n m h u => kn44 (t44 a g f b k n m h u)) a b g f k := by kernel_rfl
theorem e47 (kn27 kn44 : K_) (a : Int) (g : LB) (f b : Int) (k : UInt64) : x47 kn27 kn44 a b g f k = Afq (fun n m h u => kn44 (t44 a g f b k n m h u)) a b g f k := Eq.trans (b := Ak4 (x48 kn27 kn44 a b g f k) a b g f k) (by kernel_rfl) (by simp only [e48] <;> rfl)
theorem i44 (kn27 : K_) (a : Int) (g : LB) (f b : Int) (k : UInt64) : ∀ (q : Nat) (n : UInt64) (m h : Int) (u : LB), z44 kn27 q (t44 a g f b k n m h u) = Nh (fun b o p => kn27 (t27 a g f b o p)) a g f b k q n m h u :=
 ind (fun _ _ _ _ => by kernel_rfl) fun q ih n m h u => Eq.trans (b := Afg (x47 kn27 (z44 kn27 q) a b g f k) (x50 kn27 a g f) a g f b k n m h u) (by kernel_rfl) (by simp only [e47, e50, ih] <;> rfl)
theorem e44 (kn27 : K_) (a : Int) (g : LB) (f : Int) : x44 kn27 a g f = Akt (fun b o p => kn27 (t27 a g f b o p)) a g f := by funext b k n m h u; exact Eq.trans (by kernel_rfl) ((i44 kn27 a g f b k Ca n m h u).trans (by rw [Ak]; rfl))
theorem i27 (a : Int) (g : LB) (f : Int) : ∀ (q : Nat) (b o : Int) (p : LB), z27 q (t27 a g f b o p) = Wq a g f q b o p :=
 ind (fun _ _ _ => by kernel_rfl) fun q ih b o p => Eq.trans (b := Alf (x44 (z27 q) a g f) x52 a g f b o p) (by kernel_rfl) (by simp only [e44, e52, ih] <;> rfl)
theorem e27 : x27 = Aj6 := by funext a g f b o p; exact Eq.trans (by kernel_rfl) ((i27 a g f Ca b o p).trans (by rw [Ak]; rfl))
noncomputable def F (x : LB × Int × Int × Int) := Am1 x.1 x.2.1 x.2.2.1 x.2.2.2
theorem rn (x : LB × Int × Int × Int) : H.u P_ x = F x := Eq.trans (b := Amk x27 x.1 x.2.1 x.2.2.1 x.2.2.2) (by kernel_rfl) (by simp only [e27] <;> rfl)
noncomputable def c : Con := ⟨H.p, H.r, F⟩
theorem ok : ConOk P_ Tryz.gl 154 c := Tryz.cr H Tryz.func154 (.cons F156.ok (.cons F157.ok .nil)) (AnsOk.cons Tryz.ent222 AnsOk.nil) (by kernel_rfl) rn
end F154
namespace F223
def Agr (j4 : Int → Int → UInt64 → UInt64 → Option Int) (a b : Int) (f g : UInt64) : Option Int :=
both (
bo (
j4 a b f g)) [
j4 a b f g]
theorem Aq7 : @Agr = @Ac1 := by
  unfold Agr Ac1
  repeat (refine funext fun _ => ?_)
  repeat' first
    | with_reducible rfl
    | with_reducible refine Hw ?_ ?_
    | with_reducible refine Ic ?_ ?_ ?_
    | with_reducible refine Hy ?_ ?_ ?_ ?_
    | ((with_reducible refine Md ?_ ?_); focus (intro h; first | (subst h; rfl) | (simp only [h]; rfl) | (simp [Gc, Ac, h]; done)))
    | with_reducible refine Lk fun x => ?_
    | with_reducible refine Te (fun _ => ?_) (fun _ => ?_)
    | (refine Ea (fun h => by simp only [h, Mc, Ct, Cp, ite_self]) (fun x h => ?_); (try simp only [h, Ct]))
    | (refine Fl (fun h => ?_) (fun h => ?_) <;> simp only [h, if_true, if_false, Bool.false_eq_true])
def Ag1 (j3 : Int → Int → UInt64 → UInt64 → Option Int) (a b : Int) (f g : UInt64) : Option Int :=
both (
bo (
j3 a b f g)) [
j3 a b f g]
theorem Aq6 : @Ag1 = @Ac7 := by
  unfold Ag1 Ac7
  repeat (refine funext fun _ => ?_)
  repeat' first
    | with_reducible rfl
    | with_reducible refine Hw ?_ ?_
    | with_reducible refine Ic ?_ ?_ ?_
    | with_reducible refine Hy ?_ ?_ ?_ ?_
    | ((with_reducible refine Md ?_ ?_); focus (intro h; first | (subst h; rfl) | (simp only [h]; rfl) | (simp [Gc, Ac, h]; done)))
    | with_reducible refine Lk fun x => ?_
    | with_reducible refine Te (fun _ => ?_) (fun _ => ?_)
    | (refine Ea (fun h => by simp only [h, Mc, Ct, Cp, ite_self]) (fun x h => ?_); (try simp only [h, Ct]))
    | (refine Fl (fun h => ?_) (fun h => ?_) <;> simp only [h, if_true, if_false, Bool.false_eq_true])
abbrev R_ := Int
noncomputable def H : Hd := ⟨[.agg [Si, Si, Sq, Sq]], [Si], (.seq .d (.seq .d (.cut [1, 3] [] (.mode false) (.cut [1, 3] [] (.mode false) .d)))), ⟨[], Tryz.gl, false⟩, [], Tryz.f223⟩
def x4 (a b : Int) (f g : UInt64) : Option R_ := H.e P_ [r,r,r,r] ⟨[(1, .ptr 0 []), (3, .ptr 1 [])], [.box 208 (.agg [vi a, vi b, vq f, vq g]), .box 208 (.agg [vi (Gt (Aoc a (0 : Int)) (24 : Int)), vi (Gt (Aoc b (0 : Int)) (24 : Int)), vq (Gt f (68719476735 : UInt64)), vq (Gt g (68719476735 : UInt64))])], []⟩
def x3 (a b : Int) (f g : UInt64) : Option R_ := H.e P_ [r,r,r] ⟨[(1, .ptr 0 []), (3, .ptr 1 [])], [.box 208 (.agg [vi a, vi b, vq f, vq g]), .box 208 (.agg [vi (Gt (Aoc a (0 : Int)) (24 : Int)), vi (Gt (Aoc b (0 : Int)) (24 : Int)), vq f, vq g])], []⟩
theorem e4 : x4 = Aiu := by kernel_rfl
theorem e3 : x3 = Aii := Eq.trans (b := Agr x4) (by kernel_rfl) (by rw [Aq7]; simp only [e4] <;> rfl)
noncomputable def F (x : Int × Int × UInt64 × UInt64) := Alc x.1 x.2.1 x.2.2.1 x.2.2.2
theorem rn (x : Int × Int × UInt64 × UInt64) : H.u P_ x = F x := Eq.trans (b := Ag1 x3 x.1 x.2.1 x.2.2.1 x.2.2.2) (by kernel_rfl) (by rw [Aq6]; simp only [e3] <;> rfl)
noncomputable def c : Con := ⟨H.p, H.r, F⟩
theorem ok : ConOk P_ Tryz.gl 223 c := Tryz.co H Tryz.func223 .nil (by kernel_rfl) rn
end F223
namespace F100
noncomputable def H : Hd := ⟨[.agg [Sb, Si], Si, Si], [Sq, Si], .d, ⟨[(156, F156.c), (157, F157.c)], Tryz.gl, false⟩, [], Tryz.f100⟩
noncomputable def F (x : LB × Int × Int × Int) := Zs x.1 x.2.1 x.2.2.1 x.2.2.2
theorem rn (x : LB × Int × Int × Int) : H.u P_ x = F x := by kernel_rfl
noncomputable def c : Con := ⟨H.p, H.r, F⟩
theorem ok : ConOk P_ Tryz.gl 100 c := Tryz.co H Tryz.func100 (.cons F156.ok (.cons F157.ok .nil)) (by kernel_rfl) rn
end F100
namespace F294
noncomputable def H : Hd := ⟨[Sq], [Si], .d, ⟨[], Tryz.Ata, false⟩, [], Tryz.f294⟩
noncomputable def F (x : UInt64) := Ez x
theorem rn (x : UInt64) : H.u P_ x = F x := by kernel_rfl
noncomputable def c : Con := ⟨H.p, H.r, F⟩
theorem ok : ConOk P_ Tryz.Ata 294 c := Tryz.co H Tryz.func294 .nil (by kernel_rfl) rn
end F294
namespace F264
def Ag3 (j6 : Int → UInt64 → Int → LB → Int → Option (Int × Int × Int)) (g : LB) (b a : Int) : Option (Int × Int × Int) :=
(Qp g b).bind fun m =>
if (Cm m 0) then
some (0, 0, m)
else
if (Dg a 0) then
some (0, 0, 2)
else
if (Sd a b) then
some (0, 0, 24)
else
(fun n : Option (Int × Int × Int) =>
(fun o : Option (Int × Int × Int) =>
bo2 (
o)) (
bo (
n))) (
(Zs g b a (Gt 48 (Ao b a))).bind fun (k, h) =>
j6 h k a g b)
theorem Aqu : @Ag3 = @Xm := by
  unfold Ag3 Xm
  simp only [Alv, Aez, Aex]
abbrev R_ := (Int × Int × Int)
noncomputable def H : Hd := ⟨[.agg [Sb, Si], Si], [Si, Si, Si], (.seq .d (.seq .d (.seq .d (.seq .d (.seq .d (.cut [3, 5, 6, 8, 9] [] (.keep [2, 3, 5, 6, 8, 9, 22, 23, 24, 25, 26, 27, 28, 29] false) (.seq .d (.seq .d (.cut [] [] (.blk (.seq (.blk (.seq (.blk (.cut [] [] (.cut [3, 4, 5] [] (.cut [3, 4, 5, 36] [] (.keep [3, 4, 5, 8, 36, 37, 38, 39, 40] true) .d) .d) .d)) .d)) .d)) .d))))))))), ⟨[(100, F100.c), (156, F156.c), (294, F294.c)], Tryz.Ata, false⟩, [(293, .d)], Tryz.f264⟩
def x10 : Option R_ := H.e P_ [r,r,r,r,r,r,r,r,r] ⟨[], [], []⟩
def x9 : Option R_ := H.e P_ [r,r,r,r,r,r,r,r,l,d,l,d,l,d,r] ⟨[], [], []⟩
def x8 (f a : Int) : Option R_ := H.e P_ [r,r,r,r,r,r,r,r,l,d,l,d,l,d,l,r] ⟨[(3, .ptr 0 []), (4, vi f), (5, vi 0)], [.box 3 (vi a)], []⟩
def x7 (f b a : Int) : Option R_ := H.e P_ [r,r,r,r,r,r,r,r,l,d,l,d,l,d,l,l,r] ⟨[(3, .ptr 0 []), (4, vi f), (5, vi 0), (36, vt (Dg f (Gt (48 : Int) (Ao b a))))], [.box 3 (vi a)], []⟩
def x6 (h : Int) (k : UInt64) (a : Int) (g : LB) (b : Int) : Option R_ := H.e P_ [r,r,r,r,r,r] ⟨[(3, .ptr 0 []), (5, vi 0), (6, vi h), (8, .fn 293 [.ptr 1 [], .ptr 0 []]), (9, vq k)], [.box 3 (vi a), .box 146 (.agg [vb g, vi b])], []⟩
theorem e10 : x10 = Amn := by kernel_rfl
theorem e9 : x9 = Aos := Eq.trans (b := Aot x10) (by kernel_rfl) (by simp only [e10] <;> rfl)
theorem e8 : x8 = Aia := Eq.trans (b := Ai2 x9) (by kernel_rfl) (by simp only [e9] <;> rfl)
theorem e7 : x7 = Aio := Eq.trans (b := Aix x8) (by kernel_rfl) (by simp only [e8] <;> rfl)
theorem e6 : x6 = Ais := Eq.trans (b := Aig x7) (by kernel_rfl) (by simp only [e7] <;> rfl)
noncomputable def F (x : LB × Int × Int) := Acl x.1 x.2.1 x.2.2
theorem rn (x : LB × Int × Int) : H.u P_ x = F x := Eq.trans (b := Ag3 x6 x.1 x.2.1 x.2.2) (by kernel_rfl) (by rw [Aqu]; simp only [e6] <;> rfl)
noncomputable def c : Con := ⟨H.p, H.r, F⟩
theorem ok : ConOk P_ Tryz.Ata 264 c := Tryz.cr H Tryz.func264 (.cons (F100.ok.mono (.cons _ .slnil)) (.cons (F156.ok.mono (.cons _ .slnil)) (.cons F294.ok .nil))) (AnsOk.cons Tryz.ent293 AnsOk.nil) (by kernel_rfl) rn
end F264
namespace F265
noncomputable def H : Hd := ⟨[Su, Si], [Sz], .d, ⟨[], Tryz.gl, false⟩, [], Tryz.f265⟩
noncomputable def F (x : UInt32 × Int) := Aku x.1 x.2
theorem rn (x : UInt32 × Int) : H.u P_ x = F x := by kernel_rfl
noncomputable def c : Con := ⟨H.p, H.r, F⟩
theorem ok : ConOk P_ Tryz.gl 265 c := Tryz.co H Tryz.func265 .nil (by kernel_rfl) rn
end F265
namespace F224
abbrev R_ := (UInt32 × Int × Int)
noncomputable def H : Hd := ⟨[.agg [Sb, Si], Si, Si], [Su, Si, Si], (.seq .d (.seq .d (.seq .d (.seq .d (.seq .d (.seq .d (.cut [2, 3, 7, 10, 11] [] .d .d))))))), ⟨[(100, F100.c), (156, F156.c), (264, F264.c), (265, F265.c)], Tryz.Ata, false⟩, [], Tryz.f224⟩
def x2 (a b f : Int) (g : LB) (h k : Int) : Option R_ := H.e P_ [r,r,r,r,r,r,r] ⟨[(2, vi a), (3, .ptr 0 []), (7, vi b), (10, vi f), (11, vi k)], [.box 146 (.agg [vb g, vi h])], []⟩
theorem e2 : x2 = Afj := by kernel_rfl
noncomputable def F (x : LB × Int × Int × Int) := Anp x.1 x.2.1 x.2.2.1 x.2.2.2
theorem rn (x : LB × Int × Int × Int) : H.u P_ x = F x := Eq.trans (b := Akb x2 x.1 x.2.1 x.2.2.1 x.2.2.2) (by kernel_rfl) (by simp only [e2] <;> rfl)
noncomputable def c : Con := ⟨H.p, H.r, F⟩
theorem ok : ConOk P_ Tryz.Ata 224 c := Tryz.co H Tryz.func224 (.cons (F100.ok.mono (.cons _ .slnil)) (.cons (F156.ok.mono (.cons _ .slnil)) (.cons F264.ok (.cons (F265.ok.mono (.cons _ .slnil)) .nil)))) (by kernel_rfl) rn
end F224
namespace F267
noncomputable def H : Hd := ⟨[.agg [Si, Si, Sq, Sq], Su], [Si, Su], .d, ⟨[], Tryz.gl, false⟩, [], Tryz.f267⟩
noncomputable def F (x : Int × Int × UInt64 × UInt64 × UInt32) := Alh x.1 x.2.1 x.2.2.1 x.2.2.2.1 x.2.2.2.2
theorem rn (x : Int × Int × UInt64 × UInt64 × UInt32) : H.u P_ x = F x := by kernel_rfl
noncomputable def c : Con := ⟨H.p, H.r, F⟩
theorem ok : ConOk P_ Tryz.gl 267 c := Tryz.co H Tryz.func267 .nil (by kernel_rfl) rn
end F267
namespace F155
abbrev R_ := (UInt32 × Int × Int × Int × UInt64 × UInt64 × Int)
noncomputable def H : Hd := ⟨[.agg [Sb, Si], Si, .agg [Si, Si, Sq, Sq]], [Su, Si, .agg [Si, Si, Sq, Sq], Si], (.seq .d (.cut [1, 3, 5, 8] [] .d (.seq .d (.seq .d (.cut [5, 6, 7, 8] [] .d (.cut [5, 6, 7, 8] [] (.keep [5, 6, 7, 8, 81] true) .d)))))), ⟨[(100, F100.c), (156, F156.c), (223, F223.c), (224, F224.c), (267, F267.c)], Tryz.Ata, false⟩, [(225, (.seq .d (.seq .d (.seq .d (.blk (.cut [0, 1, 4] [] (.blk (.seq .d (.keep [0, 1, 4, 6, 18, 19, 20, 21, 22, 23, 24, 25] true))) (.cut [] [] (.keep [0, 1, 4, 27, 28, 29, 30, 31, 32, 33, 34] true) .d))))))), (266, .d)], Tryz.f155⟩
def x10 (f : UInt32) (k w m : Int) (a n : UInt64) : Option R_ := H.e P_ [r,r,r,r,r,r] ⟨[(5, .ptr 0 []), (6, vu f), (7, vi k), (8, .ptr 1 [])], [.box 208 (.agg [vi w, vi m, vq (Af a (Ao (Ad f : UInt64) (Cr a (GI.toZ (4 : UInt64)).toNat))), vq n]), .box 208 (.agg [vi 0, vi 0, vq 0, vq 0])], []⟩
def x9 (f : UInt32) (k m : Int) (a n : UInt64) (w : Int) : Option R_ := H.e P_ [r,r,r,r,r,l,(call 1 225),r,r,r,d,r,r] ⟨[], [.box 208 (.agg [vi w, vi m, vq (Af a (Ao (Ad f : UInt64) (Cr a (GI.toZ (4 : UInt64)).toNat))), vq n]), .box 208 (.agg [vi 0, vi 0, vq 0, vq 0])], [[(5, .ptr 0 []), (6, vu f), (7, vi k), (8, .ptr 1 []), (81, vu f)]]⟩
def x8 (f : UInt32) (k b : Int) (a : UInt64) (m : Int) (n : UInt64) : Option R_ := H.e P_ [r,r,r,r,r,l,(call 1 225),r,r,r,d,r] ⟨[(0, .ptr 0 []), (1, vu f), (4, .fn 266 [])], [.box 208 (.agg [vi b, vi m, vq a, vq n]), .box 208 (.agg [vi 0, vi 0, vq 0, vq 0])], [[(5, .ptr 0 []), (6, vu f), (7, vi k), (8, .ptr 1 []), (81, vu f)]]⟩
def x7 (b h : Int) (a g : UInt64) (f : UInt32) (k : Int) : Option R_ := H.e P_ [r,r,r,r,r] ⟨[(5, .ptr 0 []), (6, vu f), (7, vi k), (8, .ptr 1 [])], [.box 208 (.agg [vi b, vi h, vq a, vq g]), .box 208 (.agg [vi 0, vi 0, vq 0, vq 0])], []⟩
def x6 (p : Int) (u : LB) (v b h : Int) (a g : UInt64) : Option R_ := H.e P_ [r,r] ⟨[(1, vi p), (3, .ptr 0 []), (5, .ptr 1 []), (8, .ptr 2 [])], [.box 146 (.agg [vb u, vi v]), .box 208 (.agg [vi b, vi h, vq a, vq g]), .box 208 (.agg [vi 0, vi 0, vq 0, vq 0])], []⟩
theorem e10 : x10 = Ai4 := by kernel_rfl
theorem e9 : x9 = Akm := Eq.trans (b := Akg x10) (by kernel_rfl) (by simp only [e10] <;> rfl)
theorem e8 : x8 = Abs := Eq.trans (b := Ak9 x9) (by kernel_rfl) (by simp only [e9] <;> rfl)
theorem e7 : x7 = Afn := Eq.trans (b := Aj4 x8) (by kernel_rfl) (by simp only [e8] <;> rfl)
theorem e6 : x6 = Akj := Eq.trans (b := Aki x7) (by kernel_rfl) (by simp only [e7] <;> rfl)
noncomputable def F (x : LB × Int × Int × Int × Int × UInt64 × UInt64) := Aco x.1 x.2.1 x.2.2.1 x.2.2.2.1 x.2.2.2.2.1 x.2.2.2.2.2.1 x.2.2.2.2.2.2
theorem rn (x : LB × Int × Int × Int × Int × UInt64 × UInt64) : H.u P_ x = F x := Eq.trans (b := Aj2 x6 x.1 x.2.1 x.2.2.1 x.2.2.2.1 x.2.2.2.2.1 x.2.2.2.2.2.1 x.2.2.2.2.2.2) (by kernel_rfl) (by simp only [e6] <;> rfl)
noncomputable def c : Con := ⟨H.p, H.r, F⟩
theorem ok : ConOk P_ Tryz.Ata 155 c := Tryz.cr H Tryz.func155 (.cons (F100.ok.mono (.cons _ .slnil)) (.cons (F156.ok.mono (.cons _ .slnil)) (.cons (F223.ok.mono (.cons _ .slnil)) (.cons F224.ok (.cons (F267.ok.mono (.cons _ .slnil)) .nil))))) (AnsOk.cons Tryz.ent225 (AnsOk.cons Tryz.ent266 AnsOk.nil)) (by kernel_rfl) rn
end F155
namespace F99
def Wz (j21 : Int → Int → Int → UInt32 → Int → (List (Int × Int × UInt64 × UInt64 × Unit)) → LU → Int → Int → UInt64 → UInt64 → Option (LU × Int × Int)) (j24 : Int → LU → Option (LU × Int × Int)) (a f : Int) (g : LB) (b k h : Int) (n : List (Int × Int × UInt64 × UInt64 × Unit)) (m : LU) : Option (LU × Int × Int) :=
if (Dg h (Bo f a)) then
(Am1 g b k (Gt (Af k 81) b)).bind fun (ah, ae, af) =>
if (Cm af 0) then
some (([] : LU), 0, af)
else
(Ut (Cm a 0)).bind fun _ =>
(Aj n (Kf h a)).bind fun _ =>
(fun ai : Option (LU × Int × Int) =>
both (
both (
(Aj n (Kf h a)).bind fun p =>
(fun ao : Option (LU × Int × Int) =>
bo (
ao)) (
(Aco ah ae 0 p.1 p.2.1 p.2.2.1 p.2.2.2.1).bind fun (w, v, aa, ab, ac, ad, y) =>
j21 k h y w v n m aa ab ac ad)) [
ai]) [
(Aj n (Kf h a)).bind fun p =>
(fun aj : Option (LU × Int × Int) =>
both (
bo (
aj)) [
aj]) (
(Aco ah ae 0 p.1 p.2.1 p.2.2.1 p.2.2.2.1).bind fun (w, v, aa, ab, ac, ad, y) =>
j21 k h y w v n m aa ab ac ad),
bo (
ai)]) (
(Aj n (Kf h a)).bind fun p =>
(Aco ah ae 0 p.1 p.2.1 p.2.2.1 p.2.2.2.1).bind fun (w, v, aa, ab, ac, ad, y) =>
j21 k h y w v n m aa ab ac ad)
else
j24 k m
theorem Aka : @Wz = @Ry := by
  unfold Wz Ry
  try simp only [Alv, Aez, Aex]
  all_goals
    repeat (refine funext fun _ => ?_)
    repeat' first
      | with_reducible rfl
      | with_reducible refine Hw ?_ ?_
      | with_reducible refine Ic ?_ ?_ ?_
      | with_reducible refine Hy ?_ ?_ ?_ ?_
      | ((with_reducible refine Md ?_ ?_); focus (intro h; first | (subst h; rfl) | (simp only [h]; rfl) | (simp [Gc, Ac, h]; done)))
      | with_reducible refine Lk fun x => ?_
      | with_reducible refine Te (fun _ => ?_) (fun _ => ?_)
      | (refine Ea (fun h => by simp only [h, Mc, Ct, Cp, ite_self]) (fun x h => ?_); (try simp only [h, Ct]))
      | (refine Fl (fun h => ?_) (fun h => ?_) <;> simp only [h, if_true, if_false, Bool.false_eq_true])
abbrev R_ := (LU × Int × Int)
abbrev K_ := S → Option R_
noncomputable def H : Hd := ⟨[Si, Si, .agg [Sb, Si]], [Ov 194, Si, Si], (.seq .d (.seq .d (.cut [0, 1, 5, 9] [] (.seq .d (.blk (.loop [0, 1, 5, 9, 19] [] .d))) (.seq .d (.seq .d (.cut [11, 12] [] (.seq .d (.blk (.loop [0, 5, 9, 11, 12, 28, 29] [⟨11, [], .own 194 (.int .u32)⟩] (.seq .d (.seq .d (.seq (.blk (.seq .d (.seq .d (.seq .d (.cut [0, 5, 9, 11, 12, 13, 15, 16, 17, 18, 28, 29] [] (.mode false) (.seq .d (.cut [0, 5, 9, 11, 12, 16, 28, 29] [] .d .d))))))) .d)))))) .d)))))), ⟨[(153, F153.c), (154, F154.c), (155, F155.c)], Tryz.Ata, false⟩, [], Tryz.f99⟩
def t16 (a f : Int) (g : LB) (b k h : Int) (n : List (Int × Int × UInt64 × UInt64 × Unit)) (m : LU) : S := ⟨[(0, vi a), (5, .ptr 0 []), (9, .ptr 1 []), (11, .own 2), (12, vi k), (28, vi (Bo f a)), (29, vi h)], [.box 146 (.agg [vb g, vi b]), .box 209 (.val (.vec 6 (.cons (.int .i64) (.cons (.int .i64) (.cons (.int .u64) (.cons (.int .u64) .nil))))) n), Av 194 m], []⟩
def z16 : Nat → S → Option R_ := H.i P_ [r,r,r,r,r,l,r,d]
def t13 (a f : Int) (g : LB) (b u : Int) (o : List (Int × Int × UInt64 × UInt64 × Unit)) : S := ⟨[(0, vi a), (1, vi f), (5, .ptr 0 []), (9, .ptr 1 []), (19, vi u)], [.box 146 (.agg [vb g, vi b]), .box 209 (.val (.vec 6 (.cons (.int .i64) (.cons (.int .i64) (.cons (.int .u64) (.cons (.int .u64) .nil))))) o)], []⟩
def z13 : Nat → S → Option R_ := H.i P_ [r,r,l,r,d]
def x24 (k : Int) (m : LU) : Option R_ := H.e P_ [r,r,r,r,r,r] ⟨[(11, .own 0), (12, vi k)], [Av 194 m], []⟩
def x22 (kn16 : K_) (a f : Int) (g : LB) (b k v : Int) (w : UInt32) (h : Int) (ag : List (Int × Int × UInt64 × UInt64 × Unit)) (m : LU) : Option R_ := H.e P_ [r,r,r,r,r,l,r,d,(lp kn16),r,r,l,d,r,r,r,r,r,r] ⟨[(0, vi a), (5, .ptr 0 []), (9, .ptr 1 []), (11, .own 2), (12, vi (Af k v)), (16, vu w), (28, vi (Bo f a)), (29, vi h)], [.box 146 (.agg [vb g, vi b]), .box 209 (.val (.vec 6 (.cons (.int .i64) (.cons (.int .i64) (.cons (.int .u64) (.cons (.int .u64) .nil))))) ag), Av 194 m], []⟩
def x21 (kn16 : K_) (a f : Int) (g : LB) (b k h y : Int) (w : UInt32) (v : Int) (n : List (Int × Int × UInt64 × UInt64 × Unit)) (m : LU) (aa ab : Int) (ac ad : UInt64) : Option R_ := H.e P_ [r,r,r,r,r,l,r,d,(lp kn16),r,r,l,d,r,r,r,r] ⟨[(0, vi a), (5, .ptr 0 []), (9, .ptr 1 []), (11, .own 2), (12, vi k), (13, vi h), (15, vi y), (16, vu w), (17, vi v), (18, .ptr 3 []), (28, vi (Bo f a)), (29, vi h)], [.box 146 (.agg [vb g, vi b]), .box 209 (.val (.vec 6 (.cons (.int .i64) (.cons (.int .i64) (.cons (.int .u64) (.cons (.int .u64) .nil))))) n), Av 194 m, .box 208 (.agg [vi aa, vi ab, vq ac, vq ad])], []⟩
def x16 (a f : Int) (g : LB) (b k h : Int) (n : List (Int × Int × UInt64 × UInt64 × Unit)) (m : LU) : Option R_ := H.e P_ [r,r,r,r,r,l,r,d] (t16 a f g b k h n m)
def x15 (a f : Int) (g : LB) (b : Int) (o : List (Int × Int × UInt64 × UInt64 × Unit)) : Option R_ := H.e P_ [r,r,r] ⟨[(0, vi a), (1, vi f), (5, .ptr 0 []), (9, .ptr 1 [])], [.box 146 (.agg [vb g, vi b]), .box 209 (.val (.vec 6 (.cons (.int .i64) (.cons (.int .i64) (.cons (.int .u64) (.cons (.int .u64) .nil))))) o)], []⟩
def x13 (a f : Int) (g : LB) (b u : Int) (o : List (Int × Int × UInt64 × UInt64 × Unit)) : Option R_ := H.e P_ [r,r,l,r,d] (t13 a f g b u o)
theorem e24 : x24 = Agg := by kernel_rfl
theorem e22 (kn16 : K_) (a f : Int) (g : LB) (b : Int) : x22 kn16 a f g b = Yl (fun k h n m => kn16 (t16 a f g b k h n m)) a f g b := by kernel_rfl
theorem e21 (kn16 : K_) (a f : Int) (g : LB) (b : Int) : x21 kn16 a f g b = Rw (fun k h n m => kn16 (t16 a f g b k h n m)) a f g b := Eq.trans (b := Rv (x22 kn16 a f g b) a f g b) (by kernel_rfl) (by simp only [e22] <;> rfl)
theorem i16 (a f : Int) (g : LB) (b : Int) : ∀ (q : Nat) (k h : Int) (n : List (Int × Int × UInt64 × UInt64 × Unit)) (m : LU), z16 q (t16 a f g b k h n m) = Ky a f g b q k h n m :=
 ind (fun _ _ _ _ => by kernel_rfl) fun q ih k h n m => Eq.trans (b := Wz (x21 (z16 q) a f g b) x24 a f g b k h n m) (by kernel_rfl) (by rw [Aka]; simp only [e21, e24, ih] <;> rfl)
theorem e16 : x16 = Ag5 := by funext a f g b k h n m; exact Eq.trans (by kernel_rfl) ((i16 a f g b Ca k h n m).trans (by rw [Ak]; rfl))
theorem e15 : x15 = Yi := Eq.trans (b := Ahj x16) (by kernel_rfl) (by simp only [e16] <;> rfl)
theorem i13 (a f : Int) (g : LB) (b : Int) : ∀ (q : Nat) (u : Int) (o : List (Int × Int × UInt64 × UInt64 × Unit)), z13 q (t13 a f g b u o) = Yf a f g b q u o :=
 ind (fun _ _ => by kernel_rfl) fun q ih u o => Eq.trans (b := Agw x15 (fun u o => (z13 q) (t13 a f g b u o)) a f g b u o) (by kernel_rfl) (by simp only [e15, ih] <;> rfl)
theorem e13 : x13 = Qw := by funext a f g b u o; exact Eq.trans (by kernel_rfl) ((i13 a f g b Ca u o).trans (by rw [Ak]; rfl))
noncomputable def F (x : Int × Int × LB × Int) := Aao x.1 x.2.1 x.2.2.1 x.2.2.2
theorem rn (x : Int × Int × LB × Int) : H.u P_ x = F x := Eq.trans (b := Zy x13 x.1 x.2.1 x.2.2.1 x.2.2.2) (by kernel_rfl) (by simp only [e13] <;> rfl)
noncomputable def c : Con := ⟨H.p, H.r, F⟩
theorem ok : ConOk P_ Tryz.Ata 99 c := Tryz.co H Tryz.func99 (.cons (F153.ok.mono (.cons _ .slnil)) (.cons (F154.ok.mono (.cons _ .slnil)) (.cons F155.ok .nil))) (by kernel_rfl) rn
end F99
namespace F226
abbrev R_ := (Int × LX × LX × Int)
noncomputable def H : Hd := ⟨[Si, .lf (.vec 16 (.int .i32)) none], [.agg [Si, .lf (.vec 16 (.int .i32)) none, .lf (.vec 16 (.int .i32)) none], Si], (.seq .d (.seq .d (.seq (.seq .d (.blk (.cut [4, 6, 9, 11] [] .d .d))) .d))), ⟨[], Tryz.gl, false⟩, [], Tryz.f226⟩
def x2 (a : Int) (b : LX) (f : Bool) : Option R_ := H.e P_ [r,r,l,r,d,r] ⟨[(4, .ptr 0 []), (6, .ptr 1 []), (9, vi a), (11, vt f)], [.box 217 (.agg [vi 0, .val (.vec 16 (.int .i32)) (List.replicate 16 (0 : Int32)), .val (.vec 16 (.int .i32)) (List.replicate 16 (0 : Int32))]), .box 217 (.agg [vi 10, .val (.vec 16 (.int .i32)) b, .val (.vec 16 (.int .i32)) (List.replicate 16 (0 : Int32))])], []⟩
theorem e2 : x2 = Ast := by kernel_rfl
noncomputable def F (x : Int × LX) := Aqm x.1 x.2
theorem rn (x : Int × LX) : H.u P_ x = F x := Eq.trans (b := Asa x2 x.1 x.2) (by kernel_rfl) (by simp only [e2] <;> rfl)
noncomputable def c : Con := ⟨H.p, H.r, F⟩
theorem ok : ConOk P_ Tryz.gl 226 c := Tryz.co H Tryz.func226 .nil (by kernel_rfl) rn
end F226
namespace F158
noncomputable def H : Hd := ⟨[Si, .lf (.vec 16 (.int .i32)) none], [.agg [Si, Sx, .agg [Si, .lf (.vec 16 (.int .i32)) none, .lf (.vec 16 (.int .i32)) none]], Si], .d, ⟨[(226, F226.c)], Tryz.gl, false⟩, [], Tryz.f158⟩
noncomputable def F (x : Int × LX) := Ay7 x.1 x.2
theorem rn (x : Int × LX) : H.u P_ x = F x := by kernel_rfl
noncomputable def c : Con := ⟨H.p, H.r, F⟩
theorem ok : ConOk P_ Tryz.gl 158 c := Tryz.co H Tryz.func158 (.cons F226.ok .nil) (by kernel_rfl) rn
end F158
namespace F160
noncomputable def H : Hd := ⟨[Su], [Sx], .d, ⟨[], Tryz.gl, false⟩, [], Tryz.f160⟩
noncomputable def F (x : UInt32) := Wf x
theorem rn (x : UInt32) : H.u P_ x = F x := by kernel_rfl
noncomputable def c : Con := ⟨H.p, H.r, F⟩
theorem ok : ConOk P_ Tryz.gl 160 c := Tryz.co H Tryz.func160 .nil (by kernel_rfl) rn
end F160
namespace F227
noncomputable def H : Hd := ⟨[.agg [Si, Sx, .agg [Si, .lf (.vec 16 (.int .i32)) none, .lf (.vec 16 (.int .i32)) none]]], [Si], .d, ⟨[(226, F226.c)], Tryz.gl, false⟩, [], Tryz.f227⟩
noncomputable def F (x : Int × Int32 × Int × LX × LX) := Adp x.1 x.2.1 x.2.2.1 x.2.2.2.1 x.2.2.2.2
theorem rn (x : Int × Int32 × Int × LX × LX) : H.u P_ x = F x := by kernel_rfl
noncomputable def c : Con := ⟨H.p, H.r, F⟩
theorem ok : ConOk P_ Tryz.gl 227 c := Tryz.co H Tryz.func227 (.cons F226.ok .nil) (by kernel_rfl) rn
end F227
namespace F268
noncomputable def H : Hd := ⟨[Si], [Si, Si], .d, ⟨[], Tryz.gl, false⟩, [], Tryz.f268⟩
noncomputable def F (x : Int) := Amv x
theorem rn (x : Int) : H.u P_ x = F x := by kernel_rfl
noncomputable def c : Con := ⟨H.p, H.r, F⟩
theorem ok : ConOk P_ Tryz.gl 268 c := Tryz.co H Tryz.func268 .nil (by kernel_rfl) rn
end F268
namespace F269
noncomputable def H : Hd := ⟨[Si, Sx], [Sx], .d, ⟨[], Tryz.gl, false⟩, [], Tryz.f269⟩
noncomputable def F (x : Int × Int32) := Ahw x.1 x.2
theorem rn (x : Int × Int32) : H.u P_ x = F x := by kernel_rfl
noncomputable def c : Con := ⟨H.p, H.r, F⟩
theorem ok : ConOk P_ Tryz.gl 269 c := Tryz.co H Tryz.func269 .nil (by kernel_rfl) rn
end F269
namespace F228
noncomputable def H : Hd := ⟨[Si, Sx], [Sx, Si], .d, ⟨[(268, F268.c), (269, F269.c)], Tryz.gl, false⟩, [], Tryz.f228⟩
noncomputable def F (x : Int × Int32) := Ad3 x.1 x.2
theorem rn (x : Int × Int32) : H.u P_ x = F x := by kernel_rfl
noncomputable def c : Con := ⟨H.p, H.r, F⟩
theorem ok : ConOk P_ Tryz.gl 228 c := Tryz.co H Tryz.func228 (.cons F268.ok (.cons F269.ok .nil)) (by kernel_rfl) rn
end F228
namespace F295
noncomputable def H : Hd := ⟨[.agg [Si, .lf (.vec 16 (.int .i32)) none, .lf (.vec 16 (.int .i32)) none]], [Si], .d, ⟨[], Tryz.gl, false⟩, [], Tryz.f295⟩
noncomputable def F (x : Int × LX × LX) := Aci x.1 x.2.1 x.2.2
theorem rn (x : Int × LX × LX) : H.u P_ x = F x := by kernel_rfl
noncomputable def c : Con := ⟨H.p, H.r, F⟩
theorem ok : ConOk P_ Tryz.gl 295 c := Tryz.co H Tryz.func295 .nil (by kernel_rfl) rn
end F295
namespace F270
abbrev R_ := (Int32 × Int)
noncomputable def H : Hd := ⟨[.agg [Si, .lf (.vec 16 (.int .i32)) none, .lf (.vec 16 (.int .i32)) none]], [Sx, Si], (.seq .d (.seq .d (.seq .d (.cut [1, 5] [] (.seq .d (.blk (.loop [1, 5, 18, 19] [] .d))) .d)))), ⟨[(295, F295.c)], Tryz.gl, false⟩, [], Tryz.f270⟩
def t4 (b : LX) (a : Int) (f : LX) (g : Int32) (h : Int) : S := ⟨[(1, .ptr 0 []), (5, vx g), (18, .val (.vec 16 (.int .i32)) b), (19, vi h)], [.box 217 (.agg [vi a, .val (.vec 16 (.int .i32)) b, .val (.vec 16 (.int .i32)) f])], []⟩
def z4 : Nat → S → Option R_ := H.i P_ [r,r,r,l,r,d]
def x6 (g : Int32) (a : Int) (b f : LX) : Option R_ := H.e P_ [r,r,r,r] ⟨[(1, .ptr 0 []), (5, vx g)], [.box 217 (.agg [vi a, .val (.vec 16 (.int .i32)) b, .val (.vec 16 (.int .i32)) f])], []⟩
def x4 (b : LX) (a : Int) (f : LX) (g : Int32) (h : Int) : Option R_ := H.e P_ [r,r,r,l,r,d] (t4 b a f g h)
theorem e6 : x6 = Aiz := by kernel_rfl
theorem i4 (b : LX) (a : Int) (f : LX) : ∀ (q : Nat) (g : Int32) (h : Int), z4 q (t4 b a f g h) = Se b a f q g h :=
 ind (fun _ _ => by kernel_rfl) fun q ih g h => Eq.trans (b := Acz x6 (fun g h => (z4 q) (t4 b a f g h)) b a f g h) (by kernel_rfl) (by simp only [e6, ih] <;> rfl)
theorem e4 : x4 = Ai3 := by funext b a f g h; exact Eq.trans (by kernel_rfl) ((i4 b a f Ca g h).trans (by rw [Ak]; rfl))
noncomputable def F (x : Int × LX × LX) := Akf x.1 x.2.1 x.2.2
theorem rn (x : Int × LX × LX) : H.u P_ x = F x := Eq.trans (b := Ai1 x4 x.1 x.2.1 x.2.2) (by kernel_rfl) (by simp only [e4] <;> rfl)
noncomputable def c : Con := ⟨H.p, H.r, F⟩
theorem ok : ConOk P_ Tryz.gl 270 c := Tryz.co H Tryz.func270 (.cons F295.ok .nil) (by kernel_rfl) rn
end F270
namespace F303
noncomputable def H : Hd := ⟨[Si], [Sx], .d, ⟨[], Tryz.gl, false⟩, [], Tryz.f303⟩
noncomputable def F (x : Int) := Aj1 x
theorem rn (x : Int) : H.u P_ x = F x := by kernel_rfl
noncomputable def c : Con := ⟨H.p, H.r, F⟩
theorem ok : ConOk P_ Tryz.gl 303 c := Tryz.co H Tryz.func303 .nil (by kernel_rfl) rn
end F303
namespace F296
abbrev R_ := (Int × LX × LX × Int)
noncomputable def H : Hd := ⟨[.agg [Si, .lf (.vec 16 (.int .i32)) none, .lf (.vec 16 (.int .i32)) none], Sx], [.agg [Si, .lf (.vec 16 (.int .i32)) none, .lf (.vec 16 (.int .i32)) none], Si], (.seq .d (.seq .d (.seq .d (.cut [2, 4] [] (.seq .d (.blk (.loop [1, 2, 4, 19, 20] [] .d))) .d)))), ⟨[(295, F295.c), (303, F303.c)], Tryz.gl, false⟩, [], Tryz.f296⟩
def t4 (h : Int32) (f : LX) (g a : Int) (b : LX) : S := ⟨[(1, vx h), (2, .ptr 0 []), (4, .ptr 1 []), (19, .val (.vec 16 (.int .i32)) f), (20, vi a)], [.box 217 (.agg [vi g, .val (.vec 16 (.int .i32)) b, .val (.vec 16 (.int .i32)) f]), .box 217 (.agg [vi 0, .val (.vec 16 (.int .i32)) (List.replicate 16 (0 : Int32)), .val (.vec 16 (.int .i32)) (List.replicate 16 (0 : Int32))])], []⟩
def z4 : Nat → S → Option R_ := H.i P_ [r,r,r,l,r,d]
def x6 (g : Int) (b f : LX) : Option R_ := H.e P_ [r,r,r,r] ⟨[(2, .ptr 0 []), (4, .ptr 1 [])], [.box 217 (.agg [vi g, .val (.vec 16 (.int .i32)) b, .val (.vec 16 (.int .i32)) f]), .box 217 (.agg [vi 0, .val (.vec 16 (.int .i32)) (List.replicate 16 (0 : Int32)), .val (.vec 16 (.int .i32)) (List.replicate 16 (0 : Int32))])], []⟩
def x4 (h : Int32) (f : LX) (g a : Int) (b : LX) : Option R_ := H.e P_ [r,r,r,l,r,d] (t4 h f g a b)
theorem e6 : x6 = Aov := by kernel_rfl
theorem i4 (h : Int32) (f : LX) (g : Int) : ∀ (q : Nat) (a : Int) (b : LX), z4 q (t4 h f g a b) = Sk h f g q a b :=
 ind (fun _ _ => by kernel_rfl) fun q ih a b => Eq.trans (b := Ada x6 (fun a b => (z4 q) (t4 h f g a b)) h f g a b) (by kernel_rfl) (by simp only [e6, ih] <;> rfl)
theorem e4 : x4 = Aom := by funext h f g a b; exact Eq.trans (by kernel_rfl) ((i4 h f g Ca a b).trans (by rw [Ak]; rfl))
noncomputable def F (x : Int × LX × LX × Int32) := Ala x.1 x.2.1 x.2.2.1 x.2.2.2
theorem rn (x : Int × LX × LX × Int32) : H.u P_ x = F x := Eq.trans (b := Aiv x4 x.1 x.2.1 x.2.2.1 x.2.2.2) (by kernel_rfl) (by simp only [e4] <;> rfl)
noncomputable def c : Con := ⟨H.p, H.r, F⟩
theorem ok : ConOk P_ Tryz.gl 296 c := Tryz.co H Tryz.func296 (.cons F295.ok (.cons F303.ok .nil)) (by kernel_rfl) rn
end F296
namespace F297
def Ah9 (j2 : Int32 → Int → LX → LX → Option (Int × LX × LX × Int)) (b : Int) (f a : LX) (g : Int32) : Option (Int × LX × LX × Int) :=
(Aci b f a).bind fun h =>
if (Cm h 0) then
some (0, (List.replicate 16 (0 : Int32)), (List.replicate 16 (0 : Int32)), h)
else
both (
(vwI 16 1 16).bind fun _ =>
(vwI 16 0 16).bind fun _ =>
j2 g b f a) [
(vwI 16 0 16).bind fun _ =>
(vwI 16 1 16).bind fun _ =>
j2 g b f a]
theorem Ara : @Ah9 = @Afk := by
  unfold Ah9 Afk
  repeat (refine funext fun _ => ?_)
  repeat' first
    | with_reducible rfl
    | with_reducible refine Hw ?_ ?_
    | with_reducible refine Ic ?_ ?_ ?_
    | with_reducible refine Hy ?_ ?_ ?_ ?_
    | ((with_reducible refine Md ?_ ?_); focus (intro h; first | (subst h; rfl) | (simp only [h]; rfl) | (simp [Gc, Ac, h]; done)))
    | with_reducible refine Lk fun x => ?_
    | with_reducible refine Te (fun _ => ?_) (fun _ => ?_)
    | (refine Ea (fun h => by simp only [h, Mc, Ct, Cp, ite_self]) (fun x h => ?_); (try simp only [h, Ct]))
    | (refine Fl (fun h => ?_) (fun h => ?_) <;> simp only [h, if_true, if_false, Bool.false_eq_true])
abbrev R_ := (Int × LX × LX × Int)
noncomputable def H : Hd := ⟨[.agg [Si, .lf (.vec 16 (.int .i32)) none, .lf (.vec 16 (.int .i32)) none], Sx], [.agg [Si, .lf (.vec 16 (.int .i32)) none, .lf (.vec 16 (.int .i32)) none], Si], (.seq .d (.seq .d (.cut [1, 2, 4] [] .d .d))), ⟨[(295, F295.c)], Tryz.gl, false⟩, [], Tryz.f297⟩
def x2 (g : Int32) (b : Int) (f a : LX) : Option R_ := H.e P_ [r,r,r] ⟨[(1, vx g), (2, .ptr 0 []), (4, .ptr 1 [])], [.box 217 (.agg [vi b, .val (.vec 16 (.int .i32)) f, .val (.vec 16 (.int .i32)) (Tq a (1 : Int) ((16 : Int) - (1 : Int)) (Ajb a (0 : Int) ((16 : Int) - (0 : Int))))]), .box 217 (.agg [vi 0, .val (.vec 16 (.int .i32)) (List.replicate 16 (0 : Int32)), .val (.vec 16 (.int .i32)) (List.replicate 16 (0 : Int32))])], []⟩
theorem e2 : x2 = Akq := by kernel_rfl
noncomputable def F (x : Int × LX × LX × Int32) := Ans x.1 x.2.1 x.2.2.1 x.2.2.2
theorem rn (x : Int × LX × LX × Int32) : H.u P_ x = F x := Eq.trans (b := Ah9 x2 x.1 x.2.1 x.2.2.1 x.2.2.2) (by kernel_rfl) (by rw [Ara]; simp only [e2] <;> rfl)
noncomputable def c : Con := ⟨H.p, H.r, F⟩
theorem ok : ConOk P_ Tryz.gl 297 c := Tryz.co H Tryz.func297 (.cons F295.ok .nil) (by kernel_rfl) rn
end F297
namespace F271
noncomputable def H : Hd := ⟨[.agg [Si, .lf (.vec 16 (.int .i32)) none, .lf (.vec 16 (.int .i32)) none], Sx, Sx], [.agg [Si, .lf (.vec 16 (.int .i32)) none, .lf (.vec 16 (.int .i32)) none]], .d, ⟨[(296, F296.c), (297, F297.c)], Tryz.gl, false⟩, [], Tryz.f271⟩
noncomputable def F (x : Int × LX × LX × Int32 × Int32) := Apa x.1 x.2.1 x.2.2.1 x.2.2.2.1 x.2.2.2.2
theorem rn (x : Int × LX × LX × Int32 × Int32) : H.u P_ x = F x := by kernel_rfl
noncomputable def c : Con := ⟨H.p, H.r, F⟩
theorem ok : ConOk P_ Tryz.gl 271 c := Tryz.co H Tryz.func271 (.cons F296.ok (.cons F297.ok .nil)) (by kernel_rfl) rn
end F271
namespace F229
noncomputable def H : Hd := ⟨[.agg [Si, .lf (.vec 16 (.int .i32)) none, .lf (.vec 16 (.int .i32)) none], Sx], [Sx, .agg [Si, .lf (.vec 16 (.int .i32)) none, .lf (.vec 16 (.int .i32)) none], Si], .d, ⟨[(270, F270.c), (271, F271.c)], Tryz.gl, false⟩, [], Tryz.f229⟩
noncomputable def F (x : Int × LX × LX × Int32) := Am4 x.1 x.2.1 x.2.2.1 x.2.2.2
theorem rn (x : Int × LX × LX × Int32) : H.u P_ x = F x := by kernel_rfl
noncomputable def c : Con := ⟨H.p, H.r, F⟩
theorem ok : ConOk P_ Tryz.gl 229 c := Tryz.co H Tryz.func229 (.cons F270.ok (.cons F271.ok .nil)) (by kernel_rfl) rn
end F229
namespace F159
def Agf (a : Int) (b : Int32) (f : Int) (g h : LX) (o : Int32) : Option (Int32 × Int × Int32 × Int × LX × LX × Int) :=
(Adp a b f g h).bind fun k =>
if (Cm k 0) then
some (0, 0, 0, 0, (List.replicate 16 (0 : Int32)), (List.replicate 16 (0 : Int32)), k)
else
(Ad3 a b).bind fun (m, y) =>
(Am4 f g h o).bind fun (n, p, u, v, w) =>
(fun aa : Option (Int32 × Int × Int32 × Int × LX × LX × Int) =>
bo (
aa)) (
some ((Af n m), a, (Af n m), p, u, v, w))
theorem Aqi : @Agf = @Jr := by
  unfold Agf Jr
  simp only [Alv, Aez, Aex]
noncomputable def H : Hd := ⟨[.agg [Si, Sx, .agg [Si, .lf (.vec 16 (.int .i32)) none, .lf (.vec 16 (.int .i32)) none]], Sx], [Sx, .agg [Si, Sx, .agg [Si, .lf (.vec 16 (.int .i32)) none, .lf (.vec 16 (.int .i32)) none]], Si], (.seq .d (.seq .d (.seq .d (.seq .d (.seq (.mode false) .d))))), ⟨[(227, F227.c), (228, F228.c), (229, F229.c)], Tryz.gl, false⟩, [], Tryz.f159⟩
noncomputable def F (x : Int × Int32 × Int × LX × LX × Int32) := Jr x.1 x.2.1 x.2.2.1 x.2.2.2.1 x.2.2.2.2.1 x.2.2.2.2.2
theorem rn (x : Int × Int32 × Int × LX × LX × Int32) : H.u P_ x = F x := Eq.trans (b := Agf x.1 x.2.1 x.2.2.1 x.2.2.2.1 x.2.2.2.2.1 x.2.2.2.2.2) (by kernel_rfl) (by rw [Aqi]; rfl)
noncomputable def c : Con := ⟨H.p, H.r, F⟩
theorem ok : ConOk P_ Tryz.gl 159 c := Tryz.co H Tryz.func159 (.cons F227.ok (.cons F228.ok (.cons F229.ok .nil))) (by kernel_rfl) rn
end F159
namespace F230
noncomputable def H : Hd := ⟨[Si, Sw], [Si], .d, ⟨[], Tryz.gl, false⟩, [], Tryz.f230⟩
noncomputable def F (x : Int × LX) := An8 x.1 x.2
theorem rn (x : Int × LX) : H.u P_ x = F x := by kernel_rfl
noncomputable def c : Con := ⟨H.p, H.r, F⟩
theorem ok : ConOk P_ Tryz.gl 230 c := Tryz.co H Tryz.func230 .nil (by kernel_rfl) rn
end F230
namespace F231
def Js (a : LX) : Option (LX) :=
Aw4 a (
some ([] : LX)) (
(Gc ([] : LX) a).bind fun b =>
some b)
theorem Abt : @Js = @Fx := by
  unfold Js Fx
  repeat (refine funext fun _ => ?_)
  repeat' first
    | with_reducible rfl
    | with_reducible refine Hw ?_ ?_
    | with_reducible refine Ic ?_ ?_ ?_
    | with_reducible refine Hy ?_ ?_ ?_ ?_
    | ((with_reducible refine Md ?_ ?_); focus (intro h; first | (subst h; rfl) | (simp only [h]; rfl) | (simp [Gc, Ac, h]; done)))
    | with_reducible refine Lk fun x => ?_
    | with_reducible refine Te (fun _ => ?_) (fun _ => ?_)
    | (refine Ea (fun h => by simp only [h, Mc, Ct, Cp, ite_self]) (fun x h => ?_); (try simp only [h, Ct]))
    | (refine Fl (fun h => ?_) (fun h => ?_) <;> simp only [h, if_true, if_false, Bool.false_eq_true])
noncomputable def H : Hd := ⟨[Sw], [Ow 21], .d, ⟨[], Tryz.gl, false⟩, [], Tryz.f231⟩
noncomputable def F (x : LX) := Fx x
theorem rn (x : LX) : H.u P_ x = F x := Eq.trans (b := Js x) (by kernel_rfl) (by rw [Abt]; rfl)
noncomputable def c : Con := ⟨H.p, H.r, F⟩
theorem ok : ConOk P_ Tryz.gl 231 c := Tryz.co H Tryz.func231 .nil (by kernel_rfl) rn
end F231
namespace F161
abbrev R_ := (LX × Int)
abbrev K_ := S → Option R_
noncomputable def H : Hd := ⟨[Si, Sw], [Ow 21, Si], (.seq .d (.seq .d (.seq .d (.cut [7] [] (.seq .d (.blk (.loop [0, 7, 8] [] (.seq .d (.cut [0, 7, 8] [] (.blk (.keep [0, 7, 8, 24, 25, 26, 27, 28, 29] true)) .d))))) .d)))), ⟨[(230, F230.c), (231, F231.c)], Tryz.gl, true⟩, [(232, (.seq .d (.cut [0, 2] [] .d (.seq .d (.blk (.loop [0, 3] [] .d))))))], Tryz.f161⟩
def t18 (b a g : Int) (h : LX) : S := ⟨[(0, .view true 0 [] (.int .i32) a ((Af a b) - a)), (3, vi g)], [Aw 21 h], [[(0, vi b), (7, .own 0), (8, vi a), (24, .own 0), (25, vi a), (26, vi a), (27, vi b), (28, vi (Af a b)), (29, .view true 0 [] (.int .i32) a ((Af a b) - a))]]⟩
def z18 (kn12 : K_) : Nat → S → Option R_ := H.i P_ [r,r,r,l,r,d,(lp kn12),r,l,d,(call 6 232),r,r,r,d]
def t12 (b a : Int) (f : LX) : S := ⟨[(0, vi b), (7, .own 0), (8, vi a)], [Aw 21 f], []⟩
def z12 : Nat → S → Option R_ := H.i P_ [r,r,r,l,r,d]
def x22 (f : LX) : Option R_ := H.e P_ [r,r,r,r] ⟨[(7, .own 0)], [Aw 21 f], []⟩
def x20 (kn12 : K_) (b a : Int) (h : LX) : Option R_ := H.e P_ [r,r,r,l,r,d,(lp kn12),r,r] ⟨[(0, vi b), (7, .own 0), (8, vi a)], [Aw 21 h], []⟩
def x18 (kn12 : K_) (b a g : Int) (h : LX) : Option R_ := H.e P_ [r,r,r,l,r,d,(lp kn12),r,l,d,(call 6 232),r,r,r,d] (t18 b a g h)
def x17 (kn12 : K_) (b a : Int) (k : LX) : Option R_ := H.e P_ [r,r,r,l,r,d,(lp kn12),r,l,d,(call 6 232),r,r] ⟨[(0, .view true 0 [] (.int .i32) a ((Af a b) - a)), (2, vi (Ao ((Af a b) - a) (1 : Int)))], [Aw 21 k], [[(0, vi b), (7, .own 0), (8, vi a), (24, .own 0), (25, vi a), (26, vi a), (27, vi b), (28, vi (Af a b)), (29, .view true 0 [] (.int .i32) a ((Af a b) - a))]]⟩
def x12 (b a : Int) (f : LX) : Option R_ := H.e P_ [r,r,r,l,r,d] (t12 b a f)
theorem e22 : x22 = Aqn := by kernel_rfl
theorem e20 (kn12 : K_) (b : Int) : x20 kn12 b = Akl (fun a f => kn12 (t12 b a f)) b := by kernel_rfl
theorem i18 (kn12 : K_) (b a : Int) : ∀ (q : Nat) (g : Int) (h : LX), z18 kn12 q (t18 b a g h) = Wd (fun a f => kn12 (t12 b a f)) b a q g h :=
 ind (fun _ _ => by kernel_rfl) fun q ih g h => Eq.trans (b := Afr (x20 kn12 b) (fun g h => (z18 kn12 q) (t18 b a g h)) b a g h) (by kernel_rfl) (by simp only [e20, ih] <;> rfl)
theorem e18 (kn12 : K_) (b : Int) : x18 kn12 b = Akx (fun a f => kn12 (t12 b a f)) b := by funext a g h; exact Eq.trans (by kernel_rfl) ((i18 kn12 b a Ca g h).trans (by rw [Ak]; rfl))
theorem e17 (kn12 : K_) (b : Int) : x17 kn12 b = Afo (fun a f => kn12 (t12 b a f)) b := Eq.trans (b := Aj8 (x18 kn12 b) b) (by kernel_rfl) (by simp only [e18] <;> rfl)
theorem i12 (b : Int) : ∀ (q : Nat) (a : Int) (f : LX), z12 q (t12 b a f) = Re b q a f :=
 ind (fun _ _ => by kernel_rfl) fun q ih a f => Eq.trans (b := Akd (x17 (z12 q) b) x22 b a f) (by kernel_rfl) (by simp only [e17, e22, ih] <;> rfl)
theorem e12 : x12 = Ake := by funext b a f; exact Eq.trans (by kernel_rfl) ((i12 b Ca a f).trans (by rw [Ak]; rfl))
noncomputable def F (x : Int × LX) := Ap6 x.1 x.2
theorem rn (x : Int × LX) : H.u P_ x = F x := Eq.trans (b := Ama x12 x.1 x.2) (by kernel_rfl) (by simp only [e12] <;> rfl)
noncomputable def c : Con := ⟨H.p, H.r, F⟩
theorem ok : ConOk P_ Tryz.gl 161 c := Tryz.cr H Tryz.func161 (.cons F230.ok (.cons F231.ok .nil)) (AnsOk.cons Tryz.ent232 AnsOk.nil) (by kernel_rfl) rn
end F161
namespace F162
abbrev R_ := Int
noncomputable def H : Hd := ⟨[Si, Sw], [Si], (.seq .d (.seq .d (.seq .d (.seq .d (.cut [] [] (.seq .d (.blk (.loop [5, 6, 22, 23, 24] [] .d))) .d))))), ⟨[(150, F150.c)], Tryz.gl, false⟩, [], Tryz.f162⟩
def t4 (b f : Int32) (a : LX) (g : Int) : S := ⟨[(5, vx b), (6, vx f), (22, vw a), (23, vi (Ac a)), (24, vi g)], [], []⟩
def z4 : Nat → S → Option R_ := H.i P_ [r,r,r,r,l,r,d]
def x6 : Option R_ := H.e P_ [r,r,r,r,r] ⟨[], [], []⟩
def x4 (b f : Int32) (a : LX) (g : Int) : Option R_ := H.e P_ [r,r,r,r,l,r,d] (t4 b f a g)
theorem e6 : x6 = Ani := by kernel_rfl
theorem i4 (b f : Int32) (a : LX) : ∀ (q : Nat) (g : Int), z4 q (t4 b f a g) = Po b f a q g :=
 ind (fun _ => by kernel_rfl) fun q ih g => Eq.trans (b := Aac x6 (fun g => (z4 q) (t4 b f a g)) b f a g) (by kernel_rfl) (by simp only [e6, ih] <;> rfl)
theorem e4 : x4 = Am8 := by funext b f a g; exact Eq.trans (by kernel_rfl) ((i4 b f a Ca g).trans (by rw [Ak]; rfl))
noncomputable def F (x : Int × LX) := Adb x.1 x.2
theorem rn (x : Int × LX) : H.u P_ x = F x := Eq.trans (b := Age x4 x.1 x.2) (by kernel_rfl) (by simp only [e4] <;> rfl)
noncomputable def c : Con := ⟨H.p, H.r, F⟩
theorem ok : ConOk P_ Tryz.gl 162 c := Tryz.co H Tryz.func162 (.cons F150.ok .nil) (by kernel_rfl) rn
end F162
namespace F101
def Vd (j16 : Int → Int32 → Int → (List (Int × Int32 × (Int × LX × LX × Unit) × Unit)) → LX → Int → Int32 → Int → LX → LX → Option (LX × Int)) (j18 : Int → Int → LX → Option (LX × Int)) (f : LU) (a b g : Int) (h : List (Int × Int32 × (Int × LX × LX × Unit) × Unit)) (k : LX) : Option (LX × Int) :=
if (Dg g (Ac f)) then
(Aj f g).bind fun ag =>
(Ut (Cm a 0)).bind fun _ =>
(Aj h (Kf g a)).bind fun _ =>
both (
(Aj h (Kf g a)).bind fun m =>
both (
(Wf ag).bind fun ae =>
(fun ao : Option (LX × Int) =>
bo (
ao)) (
(Jr m.1 m.2.1 m.2.2.1.1 m.2.2.1.2.1 m.2.2.1.2.2.1 ae).bind fun (w, y, v, aa, ab, ac, u) =>
j16 g w u h k y v aa ab ac)) [
(Wf ag).bind fun ae =>
(Jr m.1 m.2.1 m.2.2.1.1 m.2.2.1.2.1 m.2.2.1.2.2.1 ae).bind fun (w, y, v, aa, ab, ac, u) =>
j16 g w u h k y v aa ab ac]) [
(Wf ag).bind fun af =>
both (
(Aj h (Kf g a)).bind fun ad =>
(fun ap : Option (LX × Int) =>
bo (
ap)) (
(Jr ad.1 ad.2.1 ad.2.2.1.1 ad.2.2.1.2.1 ad.2.2.1.2.2.1 af).bind fun (w, y, v, aa, ab, ac, u) =>
j16 g w u h k y v aa ab ac)) [
(Aj h (Kf g a)).bind fun ad =>
(Jr ad.1 ad.2.1 ad.2.2.1.1 ad.2.2.1.2.1 ad.2.2.1.2.2.1 af).bind fun (w, y, v, aa, ab, ac, u) =>
j16 g w u h k y v aa ab ac],
both (
(Aj h (Kf g a)).bind fun m =>
(Wf ag).bind fun ae =>
(Jr m.1 m.2.1 m.2.2.1.1 m.2.2.1.2.1 m.2.2.1.2.2.1 ae).bind fun (w, y, v, aa, ab, ac, u) =>
j16 g w u h k y v aa ab ac) [
(Wf ag).bind fun af =>
(Aj h (Kf g a)).bind fun ad =>
(Jr ad.1 ad.2.1 ad.2.2.1.1 ad.2.2.1.2.1 ad.2.2.1.2.2.1 af).bind fun (w, y, v, aa, ab, ac, u) =>
j16 g w u h k y v aa ab ac]]
else
j18 a b k
theorem Ajk : @Vd = @Ka := by
  unfold Vd Ka
  try simp only [Alv, Aez, Aex]
  all_goals
    repeat (refine funext fun _ => ?_)
    repeat' first
      | with_reducible rfl
      | with_reducible refine Hw ?_ ?_
      | with_reducible refine Ic ?_ ?_ ?_
      | with_reducible refine Hy ?_ ?_ ?_ ?_
      | ((with_reducible refine Md ?_ ?_); focus (intro h; first | (subst h; rfl) | (simp only [h]; rfl) | (simp [Gc, Ac, h]; done)))
      | with_reducible refine Lk fun x => ?_
      | with_reducible refine Te (fun _ => ?_) (fun _ => ?_)
      | (refine Ea (fun h => by simp only [h, Mc, Ct, Cp, ite_self]) (fun x h => ?_); (try simp only [h, Ct]))
      | (refine Fl (fun h => ?_) (fun h => ?_) <;> simp only [h, if_true, if_false, Bool.false_eq_true])
abbrev R_ := (LX × Int)
abbrev K_ := S → Option R_
noncomputable def H : Hd := ⟨[.agg [Si, Si], .lf (.vec 16 (.int .i32)) none, Sv], [Ow 21, Si], (.seq .d (.seq .d (.cut [2, 3, 8] [] (.seq .d (.blk (.loop [2, 3, 4, 8, 20] [] .d))) (.seq .d (.cut [3, 10] [] (.seq .d (.blk (.loop [3, 8, 10, 33, 34, 35] [⟨10, [], .own 21 (.int .i32)⟩] (.seq .d (.seq .d (.seq (.blk (.seq .d (.seq .d (.cut [3, 8, 10, 13, 14, 15, 16, 33, 34, 35] [] (.mode false) .d)))) .d)))))) .d))))), ⟨[(158, F158.c), (159, F159.c), (160, F160.c), (161, F161.c), (162, F162.c)], Tryz.gl, false⟩, [], Tryz.f101⟩
def t13 (f : LU) (a b g : Int) (h : List (Int × Int32 × (Int × LX × LX × Unit) × Unit)) (k : LX) : S := ⟨[(3, .ptr 0 []), (8, .ptr 1 []), (10, .own 2), (33, vv f), (34, vi (Ac f)), (35, vi g)], [.box 64 (.agg [vi a, vi b]), .box 220 (.val (.vec 6 (.cons (.int .i64) (.cons (.int .i32) (.cons (.cons (.int .i64) (.cons (.vec 16 (.int .i32)) (.cons (.vec 16 (.int .i32)) .nil))) .nil)))) h), Aw 21 k], []⟩
def z13 : Nat → S → Option R_ := H.i P_ [r,r,r,r,l,r,d]
def t10 (f : LU) (a b : Int) (o : LX) (p : Int) (n : List (Int × Int32 × (Int × LX × LX × Unit) × Unit)) : S := ⟨[(2, vv f), (3, .ptr 0 []), (4, .ptr 1 []), (8, .ptr 2 []), (20, vi p)], [.box 64 (.agg [vi a, vi b]), .box 95 (.val (.vec 16 (.int .i32)) o), .box 220 (.val (.vec 6 (.cons (.int .i64) (.cons (.int .i32) (.cons (.cons (.int .i64) (.cons (.vec 16 (.int .i32)) (.cons (.vec 16 (.int .i32)) .nil))) .nil)))) n)], []⟩
def z10 : Nat → S → Option R_ := H.i P_ [r,r,l,r,d]
def x18 (a b : Int) (k : LX) : Option R_ := H.e P_ [r,r,r,r,r] ⟨[(3, .ptr 0 []), (10, .own 1)], [.box 64 (.agg [vi a, vi b]), Aw 21 k], []⟩
def x16 (kn13 : K_) (a : Int) (f : LU) (b g : Int) (w : Int32) (u : Int) (h : List (Int × Int32 × (Int × LX × LX × Unit) × Unit)) (k : LX) (y : Int) (v : Int32) (aa : Int) (ab ac : LX) : Option R_ := H.e P_ [r,r,r,r,l,r,d,(lp kn13),r,r,l,d,r,r,r] ⟨[(3, .ptr 0 []), (8, .ptr 1 []), (10, .own 2), (13, .ptr 1 [.idx (Kf g a) 35]), (14, vx w), (15, .ptr 3 []), (16, vi u), (33, vv f), (34, vi (Ac f)), (35, vi g)], [.box 64 (.agg [vi a, vi b]), .box 220 (.val (.vec 6 (.cons (.int .i64) (.cons (.int .i32) (.cons (.cons (.int .i64) (.cons (.vec 16 (.int .i32)) (.cons (.vec 16 (.int .i32)) .nil))) .nil)))) h), Aw 21 k, .box 219 (.agg [vi y, vx v, .agg [vi aa, .val (.vec 16 (.int .i32)) ab, .val (.vec 16 (.int .i32)) ac]])], []⟩
def x13 (f : LU) (a b g : Int) (h : List (Int × Int32 × (Int × LX × LX × Unit) × Unit)) (k : LX) : Option R_ := H.e P_ [r,r,r,r,l,r,d] (t13 f a b g h k)
def x12 (f : LU) (a b : Int) (n : List (Int × Int32 × (Int × LX × LX × Unit) × Unit)) : Option R_ := H.e P_ [r,r,r] ⟨[(2, vv f), (3, .ptr 0 []), (8, .ptr 1 [])], [.box 64 (.agg [vi a, vi b]), .box 220 (.val (.vec 6 (.cons (.int .i64) (.cons (.int .i32) (.cons (.cons (.int .i64) (.cons (.vec 16 (.int .i32)) (.cons (.vec 16 (.int .i32)) .nil))) .nil)))) n)], []⟩
def x10 (f : LU) (a b : Int) (o : LX) (p : Int) (n : List (Int × Int32 × (Int × LX × LX × Unit) × Unit)) : Option R_ := H.e P_ [r,r,l,r,d] (t10 f a b o p n)
theorem e18 : x18 = Jy := by kernel_rfl
theorem e16 (kn13 : K_) (f : LU) (a b : Int) : x16 kn13 a f b = Xg (fun g h k => kn13 (t13 f a b g h k)) a f b := by kernel_rfl
theorem i13 (f : LU) (a b : Int) : ∀ (q : Nat) (g : Int) (h : List (Int × Int32 × (Int × LX × LX × Unit) × Unit)) (k : LX), z13 q (t13 f a b g h k) = Hn f a b q g h k :=
 ind (fun _ _ _ => by kernel_rfl) fun q ih g h k => Eq.trans (b := Vd (x16 (z13 q) a f b) x18 f a b g h k) (by kernel_rfl) (by rw [Ajk]; simp only [e16, e18, ih] <;> rfl)
theorem e13 : x13 = Afd := by funext f a b g h k; exact Eq.trans (by kernel_rfl) ((i13 f a b Ca g h k).trans (by rw [Ak]; rfl))
theorem e12 : x12 = Xc := Eq.trans (b := Afb x13) (by kernel_rfl) (by simp only [e13] <;> rfl)
theorem i10 (f : LU) (a b : Int) (o : LX) : ∀ (q : Nat) (p : Int) (n : List (Int × Int32 × (Int × LX × LX × Unit) × Unit)), z10 q (t10 f a b o p n) = Wy f a b o q p n :=
 ind (fun _ _ => by kernel_rfl) fun q ih p n => Eq.trans (b := Afc x12 (fun p n => (z10 q) (t10 f a b o p n)) f a b o p n) (by kernel_rfl) (by simp only [e12, ih] <;> rfl)
theorem e10 : x10 = Oq := by funext f a b o p n; exact Eq.trans (by kernel_rfl) ((i10 f a b o Ca p n).trans (by rw [Ak]; rfl))
noncomputable def F (x : Int × Int × LX × LU) := Rz x.1 x.2.1 x.2.2.1 x.2.2.2
theorem rn (x : Int × Int × LX × LU) : H.u P_ x = F x := Eq.trans (b := Ym x10 x.1 x.2.1 x.2.2.1 x.2.2.2) (by kernel_rfl) (by simp only [e10] <;> rfl)
noncomputable def c : Con := ⟨H.p, H.r, F⟩
theorem ok : ConOk P_ Tryz.gl 101 c := Tryz.co H Tryz.func101 (.cons F158.ok (.cons F159.ok (.cons F160.ok (.cons F161.ok (.cons F162.ok .nil))))) (by kernel_rfl) rn
end F101
namespace F55
noncomputable def H : Hd := ⟨[.agg [Si, Si], .lf (.vec 16 (.int .i32)) none, Si, Sb], [Ow 21, Si], .d, ⟨[(96, F96.c), (97, F97.c), (98, F98.c), (99, F99.c), (100, F100.c), (101, F101.c)], Tryz.Ata, false⟩, [], Tryz.f55⟩
noncomputable def F (x : Int × Int × LX × Int × LB) := Abk x.1 x.2.1 x.2.2.1 x.2.2.2.1 x.2.2.2.2
theorem rn (x : Int × Int × LX × Int × LB) : H.u P_ x = F x := by kernel_rfl
noncomputable def c : Con := ⟨H.p, H.r, F⟩
theorem ok : ConOk P_ Tryz.Ata 55 c := Tryz.co H Tryz.func55 (.cons (F96.ok.mono (.cons _ .slnil)) (.cons (F97.ok.mono (.cons _ .slnil)) (.cons (F98.ok.mono (.cons _ .slnil)) (.cons F99.ok (.cons (F100.ok.mono (.cons _ .slnil)) (.cons (F101.ok.mono (.cons _ .slnil)) .nil)))))) (by kernel_rfl) rn
end F55
namespace F117
abbrev R_ := (LB × Int)
abbrev K_ := S → Option R_
noncomputable def H : Hd := ⟨[Si, Sw], [Ob 5, Si], (.seq .d (.seq .d (.seq .d (.cut [7] [] (.seq .d (.blk (.loop [0, 7, 17, 18, 19] [⟨7, [], .own 5 (.int .u8)⟩] (.seq .d (.seq .d (.cut [0, 7, 17, 18, 19] [] (.blk (.seq .d (.cut [0, 7, 9, 17, 18, 19] [] .d (.seq .d (.blk (.loop [0, 7, 9, 17, 18, 19, 28, 29] [] .d)))))) .d)))))) .d)))), ⟨[(162, F162.c)], Tryz.gl, false⟩, [], Tryz.f117⟩
def t26 (b : Int) (a : LX) (k : Int32) (f m : Int) (h : LB) : S := ⟨[(0, vi b), (7, .own 0), (9, vx k), (17, vw a), (18, vi (Ac a)), (19, vi f), (28, vi (Cw b (8 : Int))), (29, vi m)], [Ab 5 h], []⟩
def z26 (kn16 : K_) : Nat → S → Option R_ := H.i P_ [r,r,r,l,r,d,(lp kn16),r,r,l,d,r,r,r,d]
def t16 (b : Int) (a : LX) (f : Int) (g : LB) : S := ⟨[(0, vi b), (7, .own 0), (17, vw a), (18, vi (Ac a)), (19, vi f)], [Ab 5 g], []⟩
def z16 : Nat → S → Option R_ := H.i P_ [r,r,r,l,r,d]
def x30 (g : LB) : Option R_ := H.e P_ [r,r,r,r] ⟨[(7, .own 0)], [Ab 5 g], []⟩
def x28 (kn16 : K_) (b : Int) (a : LX) (f : Int) (h : LB) : Option R_ := H.e P_ [r,r,r,l,r,d,(lp kn16),r,r,r] ⟨[(0, vi b), (7, .own 0), (17, vw a), (18, vi (Ac a)), (19, vi f)], [Ab 5 h], []⟩
def x26 (kn16 : K_) (b : Int) (a : LX) (k : Int32) (f m : Int) (h : LB) : Option R_ := H.e P_ [r,r,r,l,r,d,(lp kn16),r,r,l,d,r,r,r,d] (t26 b a k f m h)
def x25 (kn16 : K_) (b : Int) (a : LX) (f : Int) (g : LB) (k : Int32) : Option R_ := H.e P_ [r,r,r,l,r,d,(lp kn16),r,r,l,d,r,r] ⟨[(0, vi b), (7, .own 0), (9, vx k), (17, vw a), (18, vi (Ac a)), (19, vi f)], [Ab 5 g], []⟩
def x16 (b : Int) (a : LX) (f : Int) (g : LB) : Option R_ := H.e P_ [r,r,r,l,r,d] (t16 b a f g)
theorem e30 : x30 = Als := by kernel_rfl
theorem e28 (kn16 : K_) (b : Int) (a : LX) : x28 kn16 b a = Ael (fun f g => kn16 (t16 b a f g)) b a := by kernel_rfl
theorem i26 (kn16 : K_) (b : Int) (a : LX) (k : Int32) (f : Int) : ∀ (q : Nat) (m : Int) (h : LB), z26 kn16 q (t26 b a k f m h) = Ho (fun f g => kn16 (t16 b a f g)) b a k f q m h :=
 ind (fun _ _ => by kernel_rfl) fun q ih m h => Eq.trans (b := Yd (x28 kn16 b a) (fun m h => (z26 kn16 q) (t26 b a k f m h)) b a k f m h) (by kernel_rfl) (by simp only [e28, ih] <;> rfl)
theorem e26 (kn16 : K_) (b : Int) (a : LX) : x26 kn16 b a = Aei (fun f g => kn16 (t16 b a f g)) b a := by funext k f m h; exact Eq.trans (by kernel_rfl) ((i26 kn16 b a k f Ca m h).trans (by rw [Ak]; rfl))
theorem e25 (kn16 : K_) (b : Int) (a : LX) : x25 kn16 b a = Jq (fun f g => kn16 (t16 b a f g)) b a := Eq.trans (b := Aey (x26 kn16 b a) b a) (by kernel_rfl) (by simp only [e26] <;> rfl)
theorem i16 (b : Int) (a : LX) : ∀ (q : Nat) (f : Int) (g : LB), z16 q (t16 b a f g) = Er b a q f g :=
 ind (fun _ _ => by kernel_rfl) fun q ih f g => Eq.trans (b := Xz (x25 (z16 q) b a) x30 b a f g) (by kernel_rfl) (by simp only [e25, e30, ih] <;> rfl)
theorem e16 : x16 = Ali := by funext b a f g; exact Eq.trans (by kernel_rfl) ((i16 b a Ca f g).trans (by rw [Ak]; rfl))
noncomputable def F (x : Int × LX) := Ad9 x.1 x.2
theorem rn (x : Int × LX) : H.u P_ x = F x := Eq.trans (b := Agy x16 x.1 x.2) (by kernel_rfl) (by simp only [e16] <;> rfl)
noncomputable def c : Con := ⟨H.p, H.r, F⟩
theorem ok : ConOk P_ Tryz.gl 117 c := Tryz.co H Tryz.func117 (.cons F162.ok .nil) (by kernel_rfl) rn
end F117
namespace F131
abbrev R_ := Int
noncomputable def H : Hd := ⟨[Sl, Si], [Si], (.seq .d (.cut [] [] (.seq .d (.blk (.loop [0, 1, 7, 8] [] .d))) .d)), ⟨[], Tryz.gl, false⟩, [], Tryz.f131⟩
def t4 (a : LI) (b f : Int) : S := ⟨[(0, vl a), (1, vi b), (7, vi (Ac a)), (8, vi f)], [], []⟩
def z4 : Nat → S → Option R_ := H.i P_ [r,l,r,d]
def x6 : Option R_ := H.e P_ [r,r] ⟨[], [], []⟩
def x4 (a : LI) (b f : Int) : Option R_ := H.e P_ [r,l,r,d] (t4 a b f)
theorem e6 : x6 = Kr := by kernel_rfl
theorem i4 (a : LI) (b : Int) : ∀ (q : Nat) (f : Int), z4 q (t4 a b f) = Bj a b q f :=
 ind (fun _ => by kernel_rfl) fun q ih f => Eq.trans (b := Dj x6 (fun f => (z4 q) (t4 a b f)) a b f) (by kernel_rfl) (by simp only [e6, ih] <;> rfl)
theorem e4 : x4 = Fz := by funext a b f; exact Eq.trans (by kernel_rfl) ((i4 a b Ca f).trans (by rw [Ak]; rfl))
noncomputable def F (x : LI × Int) := Gz x.1 x.2
theorem rn (x : LI × Int) : H.u P_ x = F x := Eq.trans (b := Fv x4 x.1 x.2) (by kernel_rfl) (by simp only [e4] <;> rfl)
noncomputable def c : Con := ⟨H.p, H.r, F⟩
theorem ok : ConOk P_ Tryz.gl 131 c := Tryz.co H Tryz.func131 .nil (by kernel_rfl) rn
end F131
namespace F79
noncomputable def H : Hd := ⟨[Sl, Si], [Sz], .d, ⟨[(131, F131.c)], Tryz.gl, false⟩, [], Tryz.f79⟩
noncomputable def F (x : LI × Int) := Fw x.1 x.2
theorem rn (x : LI × Int) : H.u P_ x = F x := by kernel_rfl
noncomputable def c : Con := ⟨H.p, H.r, F⟩
theorem ok : ConOk P_ Tryz.gl 79 c := Tryz.co H Tryz.func79 (.cons F131.ok .nil) (by kernel_rfl) rn
end F79
namespace F38
noncomputable def H : Hd := ⟨[Si], [Sz], .d, ⟨[(79, F79.c)], Tryz.gl, false⟩, [], Tryz.f38⟩
noncomputable def F (x : Int) := Oe x
theorem rn (x : Int) : H.u P_ x = F x := by kernel_rfl
noncomputable def c : Con := ⟨H.p, H.r, F⟩
theorem ok : ConOk P_ Tryz.gl 38 c := Tryz.co H Tryz.func38 (.cons F79.ok .nil) (by kernel_rfl) rn
end F38
namespace F10
def Yg (j28 : Bool → Int → Option Int) (w ah : Int) (g a : LB) (k p o u v b : Int) (m : Bool) (n : Int) (ao : LX) (f : LI) (h : LB) : Option Int :=
if (Cm ah 0) then
(Aq ah).bind fun (br, bs) =>
j28 br bs
else
(Ad9 o ao).bind fun (bt, be) =>
if (Cm be 0) then
(Aq be).bind fun (bu, bv) =>
j28 bu bv
else
(Gc h bt).bind fun dv =>
(fun fa : Option Int =>
bo (
fa)) (
(Bs a w (Ac a)).bind fun dw =>
j28 false 0)
theorem Al1 : @Yg = @Uf := by
  unfold Yg Uf
  simp only [Alv, Aez, Aex]
def Aaa (j13 : Bool → Int → Option Int) (j12 : LB → LB → Int → Int → Int → Int → Int → Int → Bool → Int → LI → LB → Option Int) (j25 : Bool → Int → Option Int) (j23 : LB → LB → Int → Int → Int → Int → Int → Int → Bool → Int → LI → LB → Option Int) (j24 : LB → LB → Int → Int → Int → Int → Int → Int → Bool → Int → LI → LB → Int → Option Int) (j28 : Bool → Int → Option Int) (j26 : Int → LB → LB → Int → Int → Int → Int → Int → Int → Bool → Int → LX → LI → LI → LB → Option Int) (j22 : Bool → Option Int) (j21 : Option Int) (aq ar : LB) (au av aw ax ay : Int) (az : LI) (ai : Int) (aj : LB) (ac : Bool) (y : Int) : Option Int :=
if (Ga (Ac aq) 64) then
some 8
else
if ((geq y 0) && (!ac)) then
(Abp aq ar au av aw ax ay az ai aj ac y).bind fun (g, a, k, p, o, u, v, f, b, h, m, n) =>
(Wg aq ar au av aw ax ay az ai aj ac y).bind fun bw =>
if bw then
if (geq k 0) then
(Qm a).bind fun (al, ba) =>
if (geq ba 24) then
j13 true 0
else
if (Cm ba 0) then
(Aq ba).bind fun (bx, bz) =>
j13 bx bz
else
(Bs a al (Ac a)).bind fun da =>
(Wi da).bind fun an =>
if an then
j13 true 0
else
(Bs a al (Ac a)).bind fun db =>
(Yy db).bind fun (ae, af, aa, ag, ab, bb) =>
if (geq bb 24) then
j13 true 0
else
if (Cm bb 0) then
(Aq bb).bind fun (dc, dd) =>
j13 dc dd
else
both (
(Bs a (Af al 22) (Ac a)).bind fun ak =>
(fun fb : Option Int =>
bo (
fb)) (
j12 g ak ae af aa ag ab b m n f h)) [
(Bs a (Af al 22) (Ac a)).bind fun ak =>
j12 g ak ae af aa ag ab b m n f h]
else
if (geq (Ac f) 0) then
if (geq k 2) then
if (Dg (Ac a) 8) then
j25 true 0
else
j23 g a k p o u v b m n f h
else
j24 g a k p o u v b m n f h 0
else
if (Dg b (Ac f)) then
(Aj f b).bind fun _ =>
(Aj f b).bind fun w =>
if (Dg (Ac a) w) then
j28 true 0
else
(Af0 g).bind fun (ap, am) =>
if (Cm am 0) then
(Aq am).bind fun (de, df) =>
j28 de df
else
(Ep k p o u v).bind fun (ad, dg) =>
if ((Cm dg 0) || (Sd b (Ac ad))) then
(Aq 8).bind fun (dh, di) =>
j28 dh di
else
j26 w g a k p o u v b m n ap ad f h
else
if (Ga (Ac a) 4000) then
(Aq 38).bind fun (dj, bf) =>
j22 ((dj == true) && ((geq bf 0) && true))
else
j21
else
j22 false
else
if ((geq (Ac ar) 0) && (geq (Ac az) 0)) then
if ((((geq au 0) && ((geq av 0) && ((geq aw 0) && ((geq ax 0) && ((geq ay 0) && true))))) && (geq ai 0)) && (gle (Ac aj) 12000)) then
if (geq y 0) then
j22 true
else
if (!ac) then
(Oe y).bind fun dk =>
j22 dk
else
j22 false
else
j22 false
else
if ((false && (geq ai 0)) && (gle (Ac aj) 12000)) then
if (geq y 0) then
j22 true
else
if (!ac) then
(Oe y).bind fun dl =>
j22 dl
else
j22 false
else
j22 false
theorem Anh : @Aaa = @Wm := by
  unfold Aaa Wm
  try simp only [Alv, Aez, Aex]
  all_goals
    repeat (refine funext fun _ => ?_)
    repeat' first
      | with_reducible rfl
      | with_reducible refine Hw ?_ ?_
      | with_reducible refine Ic ?_ ?_ ?_
      | with_reducible refine Hy ?_ ?_ ?_ ?_
      | ((with_reducible refine Md ?_ ?_); focus (intro h; first | (subst h; rfl) | (simp only [h]; rfl) | (simp [Gc, Ac, h]; done)))
      | with_reducible refine Lk fun x => ?_
      | with_reducible refine Te (fun _ => ?_) (fun _ => ?_)
      | (refine Ea (fun h => by simp only [h, Mc, Ct, Cp, ite_self]) (fun x h => ?_); (try simp only [h, Ct]))
      | (refine Fl (fun h => ?_) (fun h => ?_) <;> simp only [h, if_true, if_false, Bool.false_eq_true])
abbrev R_ := Int
noncomputable def H : Hd := ⟨[.agg [Ss, Sb, .agg [Si, Si, Si, Si, Si], Sl, Si, Sb, Sz, Si]], [Si], (.seq .d (.seq .d (.seq .d (.cut [3] [] (.seq .d (.cond (.seq .d (.keep [3, 21, 22, 23, 24, 25] false)) .d)) .d)))), ⟨[(35, F35.c), (36, F36.c), (38, F38.c), (54, F54.c), (55, F55.c), (72, F72.c), (73, F73.c), (78, F78.c), (88, Ai6), (89, F89.c), (92, F92.c), (93, F93.c), (117, F117.c), (129, F129.c), (130, F130.c)], Tryz.gl_0_1_2_6, false⟩, [(37, (.seq .d (.cut [2] [] (.blk (.seq .d (.cond (.cut [2] [] (.keep [2, 11] true) .d) (.seq .d (.cond (.cut [2] [] (.keep [2, 20] true) .d) (.seq .d (.cond (.cut [2] [] (.keep [2, 33] true) .d) .d))))))) .d))), (75, (.seq .d (.seq .d (.seq .d (.seq .d (.seq .d (.cut [0, 2, 5] [] (.mode false) .d))))))), (76, (.seq .d (.seq .d (.cut [0, 2, 3] [⟨0, [1], .ro (.int .u8)⟩] (.seq .d (.cond (.seq .d (.cut [0, 2, 3] [⟨0, [1], .ro (.int .u8)⟩, ⟨9, [1], .ro (.int .u8)⟩, ⟨10, [1], .ro (.int .u8)⟩, ⟨15, [1], .ro (.int .u8)⟩, ⟨16, [1], .ro (.int .u8)⟩, ⟨18, [], .ro (.int .u8)⟩] .d (.cut [0, 2, 3, 4, 5] [] .d .d))) .d)) .d)))), (77, (.seq .d (.seq .d (.seq .d (.seq .d (.seq .d (.seq .d (.cut [0, 2, 3, 4, 6] [⟨0, [1], .ro (.int .u8)⟩, ⟨9, [1], .ro (.int .u8)⟩, ⟨10, [1], .ro (.int .u8)⟩, ⟨13, [1], .ro (.int .u8)⟩, ⟨14, [1], .ro (.int .u8)⟩, ⟨19, [1], .ro (.int .u8)⟩, ⟨20, [1], .ro (.int .u8)⟩, ⟨22, [], .ro (.int .u8)⟩, ⟨28, [1], .ro (.int .u8)⟩, ⟨29, [1], .ro (.int .u8)⟩, ⟨40, [1], .ro (.int .u8)⟩, ⟨41, [1], .ro (.int .u8)⟩] .d (.cut [0, 2, 3, 5, 7] [] .d (.seq .d (.seq .d (.seq .d (.seq .d (.seq (.mode false) .d))))))))))))))], Tryz.f10⟩
def x22 (bi : Bool) : Option R_ := H.e P_ [r,r,r,r] ⟨[(3, vt bi)], [], []⟩
def x21 : Option R_ := H.e P_ [r,r,r,l,r,l,r,(dcall 3 37 3 8 #[true, true, true, true, true, false, false, false]),r,r] ⟨[(2, .ptr 0 [])], [.box 79 (.agg [vt false, vi 0])], [[(3, vt false), (21, .cst (.bool true)), (23, .agg [vt true, vi 0])]]⟩
def x13 (bj : Bool) (bk : Int) : Option R_ := H.e P_ [r,r,r,l,r,l,r,(dcall 3 37 3 8 #[true, true, true, true, true, false, false, false]),r,l,d,r,l,r] ⟨[(2, .ptr 0 [])], [.box 79 (.agg [vt bj, vi bk])], [[(3, vt false), (21, .cst (.bool true)), (23, .agg [vt true, vi 0])]]⟩
def x12 (g ak : LB) (ae af aa ag ab b : Int) (m : Bool) (n : Int) (f : LI) (h : LB) : Option R_ := H.e P_ [r,r,r,l,r,l,r,(dcall 3 37 3 8 #[true, true, true, true, true, false, false, false]),r,l,d,r,l,l,(call 1 75),r,r,r,r,r,r] ⟨[(0, .ptr 0 []), (2, .ptr 1 []), (5, .ptr 2 [])], [.box 28 (.agg [vs g, vb ak, .agg [vi ae, vi af, vi aa, vi ag, vi ab], .own 4, vi b, .own 5, vt m, vi n]), .box 79 (.agg [vt false, vi 0]), .box 24 (.agg [vi ae, vi af, vi aa, vi ag, vi ab]), .box 79 (.agg [vt false, vi 0]), Ai 3 f, Ab 5 h], [[(2, .ptr 3 [])], [(3, vt false), (21, .cst (.bool true)), (23, .agg [vt true, vi 0])]]⟩
def x25 (bl : Bool) (bm : Int) : Option R_ := H.e P_ [r,r,r,l,r,l,r,(dcall 3 37 3 8 #[true, true, true, true, true, false, false, false]),r,l,d,r,r,r,l,r] ⟨[(2, .ptr 0 [])], [.box 79 (.agg [vt bl, vi bm])], [[(3, vt false), (21, .cst (.bool true)), (23, .agg [vt true, vi 0])]]⟩
def x24 (g a : LB) (k p o u v b : Int) (m : Bool) (n : Int) (f : LI) (h : LB) (bg : Int) : Option R_ := H.e P_ [r,r,r,l,r,l,r,(dcall 3 37 3 8 #[true, true, true, true, true, false, false, false]),r,l,d,r,r,r,l,l,(call 1 76),r,r,r] ⟨[(0, .ptr 0 []), (2, .ptr 1 []), (3, vi bg)], [.box 28 (.agg [vs g, vb a, .agg [vi k, vi p, vi o, vi u, vi v], .own 3, vi b, .own 4, vt m, vi n]), .box 79 (.agg [vt false, vi 0]), .box 79 (.agg [vt false, vi 0]), Ai 3 f, Ab 5 h], [[(2, .ptr 2 [])], [(3, vt false), (21, .cst (.bool true)), (23, .agg [vt true, vi 0])]]⟩
def x15 (bd : Bool) (bc : Int) (g a : LB) (k p o u v b : Int) (m : Bool) (n : Int) (f : LI) (h : LB) : Option R_ := H.e P_ [r,r,r,l,r,l,r,(dcall 3 37 3 8 #[true, true, true, true, true, false, false, false]),r,l,d,r,r,r,l,l,(call 1 76),r,r,l,r,l,r,r,r] ⟨[(0, .ptr 0 []), (2, .ptr 1 []), (3, vi 8), (4, vt bd), (5, vi bc)], [.box 28 (.agg [vs g, vb a, .agg [vi k, vi p, vi o, vi u, vi v], .own 3, vi b, .own 4, vt m, vi n]), .box 79 (.agg [vt false, vi 0]), .box 79 (.agg [vt false, vi 0]), Ai 3 f, Ab 5 h], [[(2, .ptr 2 [])], [(3, vt false), (21, .cst (.bool true)), (23, .agg [vt true, vi 0])]]⟩
def x23 (g a : LB) (k p o u v b : Int) (m : Bool) (n : Int) (f : LI) (h : LB) : Option R_ := H.e P_ [r,r,r,l,r,l,r,(dcall 3 37 3 8 #[true, true, true, true, true, false, false, false]),r,l,d,r,r,r,l,l,(call 1 76),r,r,l,r,l,r,r] ⟨[(0, .ptr 0 []), (2, .ptr 1 []), (3, vi 8)], [.box 28 (.agg [vs g, vb a, .agg [vi k, vi p, vi o, vi u, vi v], .own 3, vi b, .own 4, vt m, vi n]), .box 79 (.agg [vt false, vi 0]), .box 79 (.agg [vt false, vi 0]), Ai 3 f, Ab 5 h], [[(2, .ptr 2 [])], [(3, vt false), (21, .cst (.bool true)), (23, .agg [vt true, vi 0])]]⟩
def x28 (bp : Bool) (bq : Int) : Option R_ := H.e P_ [r,r,r,l,r,l,r,(dcall 3 37 3 8 #[true, true, true, true, true, false, false, false]),r,l,d,r,r,r,r,r,l,r] ⟨[(2, .ptr 0 [])], [.box 79 (.agg [vt bp, vi bq])], [[(3, vt false), (21, .cst (.bool true)), (23, .agg [vt true, vi 0])]]⟩
def x27 (w ah : Int) (g a : LB) (k p o u v b : Int) (m : Bool) (n : Int) (ao : LX) (f : LI) (h : LB) : Option R_ := H.e P_ [r,r,r,l,r,l,r,(dcall 3 37 3 8 #[true, true, true, true, true, false, false, false]),r,l,d,r,r,r,r,r,l,l,(call 1 77),r,r,r,r,r,r,r,r] ⟨[(0, .ptr 0 []), (2, .ptr 1 []), (3, vi w), (5, vi ah), (7, .own 2)], [.box 28 (.agg [vs g, vb a, .agg [vi k, vi p, vi o, vi u, vi v], .own 4, vi b, .own 5, vt m, vi n]), .box 79 (.agg [vt false, vi 0]), Aw 21 ao, .box 79 (.agg [vt false, vi 0]), Ai 3 f, Ab 5 h], [[(2, .ptr 3 [])], [(3, vt false), (21, .cst (.bool true)), (23, .agg [vt true, vi 0])]]⟩
def x26 (w : Int) (g a : LB) (k p o u v b : Int) (m : Bool) (n : Int) (ap : LX) (ad f : LI) (h : LB) : Option R_ := H.e P_ [r,r,r,l,r,l,r,(dcall 3 37 3 8 #[true, true, true, true, true, false, false, false]),r,l,d,r,r,r,r,r,l,l,(call 1 77),r,r,r,r,r,r,r] ⟨[(0, .ptr 0 []), (2, .ptr 1 []), (3, vi w), (4, .ptr 2 []), (6, .own 3)], [.box 28 (.agg [vs g, vb a, .agg [vi k, vi p, vi o, vi u, vi v], .own 5, vi b, .own 6, vt m, vi n]), .box 79 (.agg [vt false, vi 0]), .box 95 (.val (.vec 16 (.int .i32)) ap), Ai 3 ad, .box 79 (.agg [vt false, vi 0]), Ai 3 f, Ab 5 h], [[(2, .ptr 4 [])], [(3, vt false), (21, .cst (.bool true)), (23, .agg [vt true, vi 0])]]⟩
theorem e22 : x22 = Bg := by kernel_rfl
theorem e21 : x21 = Us := Eq.trans (b := Aaz x22) (by kernel_rfl) (by simp only [e22] <;> rfl)
theorem e13 : x13 = Di := Eq.trans (b := Abm x22) (by kernel_rfl) (by simp only [e22] <;> rfl)
theorem e12 : x12 = Uq := Eq.trans (b := Aay x13) (by kernel_rfl) (by simp only [e13] <;> rfl)
theorem e25 : x25 = Gy := Eq.trans (b := Abr x22) (by kernel_rfl) (by simp only [e22] <;> rfl)
theorem e24 : x24 = Hf := Eq.trans (b := Abl x25) (by kernel_rfl) (by simp only [e25] <;> rfl)
theorem e15 : x15 = Aar := Eq.trans (b := Aa4 x25 x24) (by kernel_rfl) (by simp only [e25, e24] <;> rfl)
theorem e23 : x23 = Uk := Eq.trans (b := Aa8 x15) (by kernel_rfl) (by simp only [e15] <;> rfl)
theorem e28 : x28 = Fe := Eq.trans (b := Aat x22) (by kernel_rfl) (by simp only [e22] <;> rfl)
theorem e27 : x27 = Aa2 := Eq.trans (b := Yg x28) (by kernel_rfl) (by rw [Al1]; simp only [e28] <;> rfl)
theorem e26 : x26 = Uc := Eq.trans (b := Aam x27) (by kernel_rfl) (by simp only [e27] <;> rfl)
noncomputable def F (x : LB × LB × Int × Int × Int × Int × Int × LI × Int × LB × Bool × Int) := Ac2 x.1 x.2.1 x.2.2.1 x.2.2.2.1 x.2.2.2.2.1 x.2.2.2.2.2.1 x.2.2.2.2.2.2.1 x.2.2.2.2.2.2.2.1 x.2.2.2.2.2.2.2.2.1 x.2.2.2.2.2.2.2.2.2.1 x.2.2.2.2.2.2.2.2.2.2.1 x.2.2.2.2.2.2.2.2.2.2.2
theorem rn (x : LB × LB × Int × Int × Int × Int × Int × LI × Int × LB × Bool × Int) : H.u P_ x = F x := Eq.trans (b := Aaa x13 x12 x25 x23 x24 x28 x26 x22 x21 x.1 x.2.1 x.2.2.1 x.2.2.2.1 x.2.2.2.2.1 x.2.2.2.2.2.1 x.2.2.2.2.2.2.1 x.2.2.2.2.2.2.2.1 x.2.2.2.2.2.2.2.2.1 x.2.2.2.2.2.2.2.2.2.1 x.2.2.2.2.2.2.2.2.2.2.1 x.2.2.2.2.2.2.2.2.2.2.2) (by kernel_rfl) (by rw [Anh]; simp only [e13, e12, e25, e23, e24, e28, e26, e22, e21] <;> rfl)
noncomputable def c : Con := ⟨H.p, H.r, F⟩
theorem ok : ConOk P_ Tryz.gl_0_1_2_6 10 c := Tryz.cr H Tryz.func10 (.cons (F35.ok.mono (.cons _ (.cons _ (.cons _ (.cons _ .slnil))))) (.cons (F36.ok.mono (.cons _ (.cons _ (.cons _ (.cons _ .slnil))))) (.cons (F38.ok.mono (.cons _ (.cons _ (.cons _ (.cons _ .slnil))))) (.cons (F54.ok.mono (.cons _ (.cons _ (.cons _ (.cons _ .slnil))))) (.cons (F55.ok.mono (.cons _ (.cons _ (.cons _ (.cons_cons _ .slnil))))) (.cons (F72.ok.mono (.cons _ (.cons _ (.cons _ (.cons _ .slnil))))) (.cons (F73.ok.mono (.cons _ (.cons _ (.cons _ (.cons _ .slnil))))) (.cons (F78.ok.mono (.cons _ (.cons _ (.cons _ (.cons _ .slnil))))) (.cons (Auu.mono (.cons _ (.cons _ (.cons _ (.cons _ .slnil))))) (.cons (F89.ok.mono (.cons _ (.cons _ (.cons_cons _ (.cons _ .slnil))))) (.cons (F92.ok.mono (.cons _ (.cons _ (.cons _ (.cons _ .slnil))))) (.cons (F93.ok.mono (.cons _ (.cons _ (.cons _ (.cons _ .slnil))))) (.cons (F117.ok.mono (.cons _ (.cons _ (.cons _ (.cons _ .slnil))))) (.cons (F129.ok.mono (.cons _ (.cons _ (.cons _ (.cons _ .slnil))))) (.cons (F130.ok.mono (.cons _ (.cons _ (.cons _ (.cons _ .slnil))))) .nil))))))))))))))) (AnsOk.cons Tryz.ent37 (AnsOk.cons Tryz.ent75 (AnsOk.cons Tryz.ent76 (AnsOk.cons Tryz.ent77 AnsOk.nil)))) (by kernel_rfl) rn
end F10
namespace F132
noncomputable def H : Hd := ⟨[.agg [Si, Si, Si, Si, Si]], [Sz], .d, ⟨[], Tryz.gl, false⟩, [], Tryz.f132⟩
noncomputable def F (x : Int × Int × Int × Int × Int) := Fb x.1 x.2.1 x.2.2.1 x.2.2.2.1 x.2.2.2.2
theorem rn (x : Int × Int × Int × Int × Int) : H.u P_ x = F x := by kernel_rfl
noncomputable def c : Con := ⟨H.p, H.r, F⟩
theorem ok : ConOk P_ Tryz.gl 132 c := Tryz.co H Tryz.func132 .nil (by kernel_rfl) rn
end F132
namespace F106
noncomputable def H : Hd := ⟨[Si], [Si], .d, ⟨[], Tryz.gl, false⟩, [], Tryz.f106⟩
noncomputable def F (x : Int) := Nm x
theorem rn (x : Int) : H.u P_ x = F x := by kernel_rfl
noncomputable def c : Con := ⟨H.p, H.r, F⟩
theorem ok : ConOk P_ Tryz.gl 106 c := Tryz.co H Tryz.func106 .nil (by kernel_rfl) rn
end F106
namespace F60
abbrev R_ := LI
noncomputable def H : Hd := ⟨[Si, Si], [Ol 3], (.seq .d (.seq .d (.cut [5] [] (.seq .d (.blk (.loop [0, 5, 6] [⟨5, [], .own 3 (.int .i64)⟩] .d))) .d))), ⟨[(106, F106.c)], Tryz.gl, false⟩, [], Tryz.f60⟩
def t4 (b f : Int) (a : LI) : S := ⟨[(0, vi b), (5, .own 0), (6, vi f)], [Ai 3 a], []⟩
def z4 : Nat → S → Option R_ := H.i P_ [r,r,l,r,d]
def x6 (a : LI) : Option R_ := H.e P_ [r,r,r] ⟨[(5, .own 0)], [Ai 3 a], []⟩
def x4 (b f : Int) (a : LI) : Option R_ := H.e P_ [r,r,l,r,d] (t4 b f a)
theorem e6 : x6 = Hx := by kernel_rfl
theorem i4 (b : Int) : ∀ (q : Nat) (f : Int) (a : LI), z4 q (t4 b f a) = Dd b q f a :=
 ind (fun _ _ => by kernel_rfl) fun q ih f a => Eq.trans (b := Fq x6 (fun f a => (z4 q) (t4 b f a)) b f a) (by kernel_rfl) (by simp only [e6, ih] <;> rfl)
theorem e4 : x4 = Tk := by funext b f a; exact Eq.trans (by kernel_rfl) ((i4 b Ca f a).trans (by rw [Ak]; rfl))
noncomputable def F (x : Int × Int) := Im x.1 x.2
theorem rn (x : Int × Int) : H.u P_ x = F x := Eq.trans (b := Tw x4 x.1 x.2) (by kernel_rfl) (by simp only [e4] <;> rfl)
noncomputable def c : Con := ⟨H.p, H.r, F⟩
theorem ok : ConOk P_ Tryz.gl 60 c := Tryz.co H Tryz.func60 (.cons F106.ok .nil) (by kernel_rfl) rn
end F60
namespace F133
def Tc (h a k f b : Int) : Option Bool :=
(fun m : Option Bool =>
(fun n : Option Bool =>
bo (
n)) (
(Ut (Cm a 0)).bind fun _ =>
bo (
m))) (
if (Ga b (Cw 4000 a)) then
some true
else
(Im f b).bind fun g =>
some (Ga (Ac g) 1000))
theorem Aih : @Tc = @Ha := by
  unfold Tc Ha
  simp only [Alv, Aez, Aex]
noncomputable def H : Hd := ⟨[.agg [Si, Si, Si, Si, Si]], [Sz], (.seq .d (.seq (.mode false) .d)), ⟨[(60, F60.c)], Tryz.gl, false⟩, [], Tryz.f133⟩
noncomputable def F (x : Int × Int × Int × Int × Int) := Ha x.1 x.2.1 x.2.2.1 x.2.2.2.1 x.2.2.2.2
theorem rn (x : Int × Int × Int × Int × Int) : H.u P_ x = F x := Eq.trans (b := Tc x.1 x.2.1 x.2.2.1 x.2.2.2.1 x.2.2.2.2) (by kernel_rfl) (by rw [Aih]; rfl)
noncomputable def c : Con := ⟨H.p, H.r, F⟩
theorem ok : ConOk P_ Tryz.gl 133 c := Tryz.co H Tryz.func133 (.cons F60.ok .nil) (by kernel_rfl) rn
end F133
namespace F80
noncomputable def H : Hd := ⟨[.agg [Si, Si, Si, Si, Si]], [Si], .d, ⟨[(132, F132.c), (133, F133.c)], Tryz.gl, false⟩, [], Tryz.f80⟩
noncomputable def F (x : Int × Int × Int × Int × Int) := Ge x.1 x.2.1 x.2.2.1 x.2.2.2.1 x.2.2.2.2
theorem rn (x : Int × Int × Int × Int × Int) : H.u P_ x = F x := by kernel_rfl
noncomputable def c : Con := ⟨H.p, H.r, F⟩
theorem ok : ConOk P_ Tryz.gl 80 c := Tryz.co H Tryz.func80 (.cons F132.ok (.cons F133.ok .nil)) (by kernel_rfl) rn
end F80
namespace F81
noncomputable def H : Hd := ⟨[.agg [Si, Si, Si, Si, Si], Ss], [Si], .d, ⟨[], Tryz.gl, false⟩, [], Tryz.f81⟩
noncomputable def F (x : Int × Int × Int × Int × Int × LB) := Ih x.1 x.2.1 x.2.2.1 x.2.2.2.1 x.2.2.2.2.1 x.2.2.2.2.2
theorem rn (x : Int × Int × Int × Int × Int × LB) : H.u P_ x = F x := by kernel_rfl
noncomputable def c : Con := ⟨H.p, H.r, F⟩
theorem ok : ConOk P_ Tryz.gl 81 c := Tryz.co H Tryz.func81 .nil (by kernel_rfl) rn
end F81
namespace F82
abbrev R_ := Int
abbrev K_ := S → Option R_
noncomputable def H : Hd := ⟨[Sl], [Si], (.seq .d (.seq .d (.seq .d (.cut [3] [] (.seq .d (.blk (.loop [0, 3, 4] [] (.seq .d (.seq (.blk (.cut [0, 3, 4] [] .d .d)) .d))))) .d)))), ⟨[], Tryz.gl, false⟩, [], Tryz.f82⟩
def t6 (a : LI) (b f : Int) : S := ⟨[(0, vl a), (3, vi b), (4, vi f)], [], []⟩
def z6 : Nat → S → Option R_ := H.i P_ [r,r,r,l,r,d]
def x10 (b : Int) : Option R_ := H.e P_ [r,r,r,r] ⟨[(3, vi b)], [], []⟩
def x8 (kn6 : K_) (a : LI) (b f : Int) : Option R_ := H.e P_ [r,r,r,l,r,d,(lp kn6),r,l,d,r] ⟨[(0, vl a), (3, vi b), (4, vi f)], [], []⟩
def x6 (a : LI) (b f : Int) : Option R_ := H.e P_ [r,r,r,l,r,d] (t6 a b f)
theorem e10 : x10 = Ru := by kernel_rfl
theorem e8 (kn6 : K_) (a : LI) : x8 kn6 a = Sn (fun b f => kn6 (t6 a b f)) a := by kernel_rfl
theorem i6 (a : LI) : ∀ (q : Nat) (b f : Int), z6 q (t6 a b f) = Fj a q b f :=
 ind (fun _ _ => by kernel_rfl) fun q ih b f => Eq.trans (b := Lo (x8 (z6 q) a) x10 a b f) (by kernel_rfl) (by simp only [e8, e10, ih] <;> rfl)
theorem e6 : x6 = Sy := by funext a b f; exact Eq.trans (by kernel_rfl) ((i6 a Ca b f).trans (by rw [Ak]; rfl))
noncomputable def F (x : LI) := En x
theorem rn (x : LI) : H.u P_ x = F x := Eq.trans (b := Lw x6 x) (by kernel_rfl) (by simp only [e6] <;> rfl)
noncomputable def c : Con := ⟨H.p, H.r, F⟩
theorem ok : ConOk P_ Tryz.gl 82 c := Tryz.co H Tryz.func82 .nil (by kernel_rfl) rn
end F82
namespace F83
noncomputable def H : Hd := ⟨[.agg [Si, Si, Si, Si, Si]], [Ol 3], .d, ⟨[(60, F60.c)], Tryz.gl, false⟩, [], Tryz.f83⟩
noncomputable def F (x : Int × Int × Int × Int × Int) := Dn x.1 x.2.1 x.2.2.1 x.2.2.2.1 x.2.2.2.2
theorem rn (x : Int × Int × Int × Int × Int) : H.u P_ x = F x := by kernel_rfl
noncomputable def c : Con := ⟨H.p, H.r, F⟩
theorem ok : ConOk P_ Tryz.gl 83 c := Tryz.co H Tryz.func83 (.cons F60.ok .nil) (by kernel_rfl) rn
end F83
namespace F135
noncomputable def H : Hd := ⟨[.agg [Si, Si, Si, Si, Si]], [.agg [Si, Si]], .d, ⟨[], Tryz.gl, false⟩, [], Tryz.f135⟩
noncomputable def F (x : Int × Int × Int × Int × Int) := Lh x.1 x.2.1 x.2.2.1 x.2.2.2.1 x.2.2.2.2
theorem rn (x : Int × Int × Int × Int × Int) : H.u P_ x = F x := by kernel_rfl
noncomputable def c : Con := ⟨H.p, H.r, F⟩
theorem ok : ConOk P_ Tryz.gl 135 c := Tryz.co H Tryz.func135 .nil (by kernel_rfl) rn
end F135
namespace F134
noncomputable def H : Hd := ⟨[.agg [Si, Si]], [Si], .d, ⟨[], Tryz.gl, false⟩, [], Tryz.f134⟩
noncomputable def F (x : Int × Int) := Xb x.1 x.2
theorem rn (x : Int × Int) : H.u P_ x = F x := by kernel_rfl
noncomputable def c : Con := ⟨H.p, H.r, F⟩
theorem ok : ConOk P_ Tryz.gl 134 c := Tryz.co H Tryz.func134 .nil (by kernel_rfl) rn
end F134
namespace F84
abbrev R_ := Int
noncomputable def H : Hd := ⟨[.agg [Si, Si, Si, Si, Si], Si], [Si], (.seq .d (.seq .d (.seq .d (.cut [2, 6] [] (.seq .d (.blk (.loop [1, 2, 5, 6, 7] [] .d))) .d)))), ⟨[(83, F83.c), (134, F134.c), (135, F135.c)], Tryz.gl, false⟩, [], Tryz.f84⟩
def t4 (n a b f g h : Int) (m : LI) (k o : Int) : S := ⟨[(1, vi n), (2, .ptr 0 []), (5, .own 1), (6, vi k), (7, vi o)], [.box 24 (.agg [vi a, vi b, vi f, vi g, vi h]), Ai 3 m], []⟩
def z4 : Nat → S → Option R_ := H.i P_ [r,r,r,l,r,d]
def x6 (k a b f g h : Int) : Option R_ := H.e P_ [r,r,r,r] ⟨[(2, .ptr 0 []), (6, vi k)], [.box 24 (.agg [vi a, vi b, vi f, vi g, vi h])], []⟩
def x4 (n a b f g h : Int) (m : LI) (k o : Int) : Option R_ := H.e P_ [r,r,r,l,r,d] (t4 n a b f g h m k o)
theorem e6 : x6 = Vs := by kernel_rfl
theorem i4 (n a b f g h : Int) (m : LI) : ∀ (q : Nat) (k o : Int), z4 q (t4 n a b f g h m k o) = Gk n a b f g h m q k o :=
 ind (fun _ _ => by kernel_rfl) fun q ih k o => Eq.trans (b := Nl x6 (fun k o => (z4 q) (t4 n a b f g h m k o)) n a b f g h m k o) (by kernel_rfl) (by simp only [e6, ih] <;> rfl)
theorem e4 : x4 = Ads := by funext n a b f g h m k o; exact Eq.trans (by kernel_rfl) ((i4 n a b f g h m Ca k o).trans (by rw [Ak]; rfl))
noncomputable def F (x : Int × Int × Int × Int × Int × Int) := Nd x.1 x.2.1 x.2.2.1 x.2.2.2.1 x.2.2.2.2.1 x.2.2.2.2.2
theorem rn (x : Int × Int × Int × Int × Int × Int) : H.u P_ x = F x := Eq.trans (b := Vw x4 x.1 x.2.1 x.2.2.1 x.2.2.2.1 x.2.2.2.2.1 x.2.2.2.2.2) (by kernel_rfl) (by simp only [e4] <;> rfl)
noncomputable def c : Con := ⟨H.p, H.r, F⟩
theorem ok : ConOk P_ Tryz.gl 84 c := Tryz.co H Tryz.func84 (.cons F83.ok (.cons F134.ok (.cons F135.ok .nil))) (by kernel_rfl) rn
end F84
namespace F262
abbrev R_ := (Int × Int)
noncomputable def H : Hd := ⟨[Sb], [Si, Si], (.seq .d (.seq .d (.seq .d (.cut [4] [] (.seq .d (.blk (.loop [0, 4, 5] [] .d))) .d)))), ⟨[], Tryz.gl, false⟩, [], Tryz.f262⟩
def t4 (b : LB) (a f : Int) : S := ⟨[(0, vb b), (4, vi a), (5, vi f)], [], []⟩
def z4 : Nat → S → Option R_ := H.i P_ [r,r,r,l,r,d]
def x6 (a : Int) : Option R_ := H.e P_ [r,r,r,r] ⟨[(4, vi a)], [], []⟩
def x4 (b : LB) (a f : Int) : Option R_ := H.e P_ [r,r,r,l,r,d] (t4 b a f)
theorem e6 : x6 = Acd := by kernel_rfl
theorem i4 (b : LB) : ∀ (q : Nat) (a f : Int), z4 q (t4 b a f) = Fk b q a f :=
 ind (fun _ _ => by kernel_rfl) fun q ih a f => Eq.trans (b := Lp x6 (fun a f => (z4 q) (t4 b a f)) b a f) (by kernel_rfl) (by simp only [e6, ih] <;> rfl)
theorem e4 : x4 = Tr := by funext b a f; exact Eq.trans (by kernel_rfl) ((i4 b Ca a f).trans (by rw [Ak]; rfl))
noncomputable def F (x : LB) := Qz x
theorem rn (x : LB) : H.u P_ x = F x := Eq.trans (b := Tf x4 x) (by kernel_rfl) (by simp only [e4] <;> rfl)
noncomputable def c : Con := ⟨H.p, H.r, F⟩
theorem ok : ConOk P_ Tryz.gl 262 c := Tryz.co H Tryz.func262 .nil (by kernel_rfl) rn
end F262
namespace F216
abbrev R_ := (Int × Int)
noncomputable def H : Hd := ⟨[Sb], [Si, Si], (.seq .d (.cut [0] [] .d (.seq .d (.seq .d (.cut [0, 4] [] .d (.seq .d (.cut [0, 6] [] .d .d))))))), ⟨[(262, F262.c)], Tryz.gl, false⟩, [], Tryz.f216⟩
def x6 (a : LB) (g : Int) : Option R_ := H.e P_ [r,r,r,r,r,r,r] ⟨[(0, vb a), (6, vi g)], [], []⟩
def x5 (a : LB) (b : Int) : Option R_ := H.e P_ [r,r,r,r,r] ⟨[(0, vb a), (4, vi b)], [], []⟩
def x4 (a : LB) : Option R_ := H.e P_ [r,r] ⟨[(0, vb a)], [], []⟩
theorem e6 : x6 = Mt := by kernel_rfl
theorem e5 : x5 = Ni := Eq.trans (b := Vb x6) (by kernel_rfl) (by simp only [e6] <;> rfl)
theorem e4 : x4 = Vi := Eq.trans (b := Ux x5) (by kernel_rfl) (by simp only [e5] <;> rfl)
noncomputable def F (x : LB) := Ua x
theorem rn (x : LB) : H.u P_ x = F x := Eq.trans (b := Vh x4 x) (by kernel_rfl) (by simp only [e4] <;> rfl)
noncomputable def c : Con := ⟨H.p, H.r, F⟩
theorem ok : ConOk P_ Tryz.gl 216 c := Tryz.co H Tryz.func216 (.cons F262.ok .nil) (by kernel_rfl) rn
end F216
namespace F145
abbrev R_ := UInt64
noncomputable def H : Hd := ⟨[Sb], [Sq], (.seq .d (.seq .d (.cut [3] [] (.seq .d (.blk (.loop [0, 3, 4] [] .d))) .d))), ⟨[], Tryz.gl, false⟩, [], Tryz.f145⟩
def t4 (b : LB) (a : UInt64) (f : Int) : S := ⟨[(0, vb b), (3, vq a), (4, vi f)], [], []⟩
def z4 : Nat → S → Option R_ := H.i P_ [r,r,l,r,d]
def x6 (a : UInt64) : Option R_ := H.e P_ [r,r,r] ⟨[(3, vq a)], [], []⟩
def x4 (b : LB) (a : UInt64) (f : Int) : Option R_ := H.e P_ [r,r,l,r,d] (t4 b a f)
theorem e6 : x6 = Yo := by kernel_rfl
theorem i4 (b : LB) : ∀ (q : Nat) (a : UInt64) (f : Int), z4 q (t4 b a f) = Il b q a f :=
 ind (fun _ _ => by kernel_rfl) fun q ih a f => Eq.trans (b := Ro x6 (fun a f => (z4 q) (t4 b a f)) b a f) (by kernel_rfl) (by simp only [e6, ih] <;> rfl)
theorem e4 : x4 = Yq := by funext b a f; exact Eq.trans (by kernel_rfl) ((i4 b Ca a f).trans (by rw [Ak]; rfl))
noncomputable def F (x : LB) := Ah x
theorem rn (x : LB) : H.u P_ x = F x := Eq.trans (b := Ye x4 x) (by kernel_rfl) (by simp only [e4] <;> rfl)
noncomputable def c : Con := ⟨H.p, H.r, F⟩
theorem ok : ConOk P_ Tryz.gl 145 c := Tryz.co H Tryz.func145 .nil (by kernel_rfl) rn
end F145
namespace F181
noncomputable def H : Hd := ⟨[Sb], [Si, Si, Sz], .d, ⟨[(145, F145.c)], Tryz.gl, false⟩, [], Tryz.f181⟩
noncomputable def F (x : LB) := Tz x
theorem rn (x : LB) : H.u P_ x = F x := by kernel_rfl
noncomputable def c : Con := ⟨H.p, H.r, F⟩
theorem ok : ConOk P_ Tryz.gl 181 c := Tryz.co H Tryz.func181 (.cons F145.ok .nil) (by kernel_rfl) rn
end F181
namespace F166
abbrev R_ := LB
noncomputable def H : Hd := ⟨[Sq, Si], [Ob 5], (.seq .d (.seq .d (.cut [5] [] (.seq .d (.blk (.loop [0, 1, 5, 6] [⟨5, [], .own 5 (.int .u8)⟩] .d))) .d))), ⟨[], Tryz.gl, false⟩, [], Tryz.f166⟩
def t4 (b : Int) (f : UInt64) (g : Int) (a : LB) : S := ⟨[(0, vq f), (1, vi b), (5, .own 0), (6, vi g)], [Ab 5 a], []⟩
def z4 : Nat → S → Option R_ := H.i P_ [r,r,l,r,d]
def x6 (a : LB) : Option R_ := H.e P_ [r,r,r] ⟨[(5, .own 0)], [Ab 5 a], []⟩
def x4 (b : Int) (f : UInt64) (g : Int) (a : LB) : Option R_ := H.e P_ [r,r,l,r,d] (t4 b f g a)
theorem e6 : x6 = Qh := by kernel_rfl
theorem i4 (b : Int) : ∀ (q : Nat) (f : UInt64) (g : Int) (a : LB), z4 q (t4 b f g a) = Ei b q f g a :=
 ind (fun _ _ _ => by kernel_rfl) fun q ih f g a => Eq.trans (b := Jc x6 (fun f g a => (z4 q) (t4 b f g a)) b f g a) (by kernel_rfl) (by simp only [e6, ih] <;> rfl)
theorem e4 : x4 = Pr := by funext b f g a; exact Eq.trans (by kernel_rfl) ((i4 b Ca f g a).trans (by rw [Ak]; rfl))
noncomputable def F (x : UInt64 × Int) := Cz x.1 x.2
theorem rn (x : UInt64 × Int) : H.u P_ x = F x := Eq.trans (b := Px x4 x.1 x.2) (by kernel_rfl) (by simp only [e4] <;> rfl)
noncomputable def c : Con := ⟨H.p, H.r, F⟩
theorem ok : ConOk P_ Tryz.gl 166 c := Tryz.co H Tryz.func166 .nil (by kernel_rfl) rn
end F166
namespace F246
noncomputable def H : Hd := ⟨[Si, Si, Sq], [Ob 5], .d, ⟨[(166, F166.c)], Tryz.gl, false⟩, [], Tryz.f246⟩
noncomputable def F (x : Int × Int × UInt64) := Ks x.1 x.2.1 x.2.2
theorem rn (x : Int × Int × UInt64) : H.u P_ x = F x := by kernel_rfl
noncomputable def c : Con := ⟨H.p, H.r, F⟩
theorem ok : ConOk P_ Tryz.gl 246 c := Tryz.co H Tryz.func246 (.cons F166.ok .nil) (by kernel_rfl) rn
end F246
namespace F183
noncomputable def H : Hd := ⟨[Si, Si], [Ob 5], .d, ⟨[(246, F246.c)], Tryz.gl, false⟩, [], Tryz.f183⟩
noncomputable def F (x : Int × Int) := Zw x.1 x.2
theorem rn (x : Int × Int) : H.u P_ x = F x := by kernel_rfl
noncomputable def c : Con := ⟨H.p, H.r, F⟩
theorem ok : ConOk P_ Tryz.gl 183 c := Tryz.co H Tryz.func183 (.cons F246.ok .nil) (by kernel_rfl) rn
end F183
namespace F182
noncomputable def H : Hd := ⟨[Si, Si, Sz], [Ob 5], .d, ⟨[(246, F246.c)], Tryz.gl, false⟩, [], Tryz.f182⟩
noncomputable def F (x : Int × Int × Bool) := Aav x.1 x.2.1 x.2.2
theorem rn (x : Int × Int × Bool) : H.u P_ x = F x := by kernel_rfl
noncomputable def c : Con := ⟨H.p, H.r, F⟩
theorem ok : ConOk P_ Tryz.gl 182 c := Tryz.co H Tryz.func182 (.cons F246.ok .nil) (by kernel_rfl) rn
end F182
namespace F217
abbrev R_ := (Int × Int)
noncomputable def H : Hd := ⟨[Sb], [Si, Si], (.seq .d (.cut [0] [] .d (.seq .d (.seq .d (.cut [0, 4, 5] [] .d .d))))), ⟨[(181, F181.c), (182, F182.c), (183, F183.c)], Tryz.gl, false⟩, [], Tryz.f217⟩
def x4 (a : LB) (b f : Int) : Option R_ := H.e P_ [r,r,r,r,r] ⟨[(0, vb a), (4, vi b), (5, vi f)], [], []⟩
def x3 (a : LB) : Option R_ := H.e P_ [r,r] ⟨[(0, vb a)], [], []⟩
theorem e4 : x4 = Tu := by kernel_rfl
theorem e3 : x3 = Ta := Eq.trans (b := Sr x4) (by kernel_rfl) (by simp only [e4] <;> rfl)
noncomputable def F (x : LB) := Rh x
theorem rn (x : LB) : H.u P_ x = F x := Eq.trans (b := Tn x3 x) (by kernel_rfl) (by simp only [e3] <;> rfl)
noncomputable def c : Con := ⟨H.p, H.r, F⟩
theorem ok : ConOk P_ Tryz.gl 217 c := Tryz.co H Tryz.func217 (.cons F181.ok (.cons F182.ok (.cons F183.ok .nil))) (by kernel_rfl) rn
end F217
namespace F144
abbrev R_ := (LI × Int)
abbrev K_ := S → Option R_
noncomputable def H : Hd := ⟨[Sb], [Ol 3, Si], (.seq .d (.seq .d (.seq .d (.blk (.loop [0, 4, 5] [⟨4, [], .own 3 (.int .i64)⟩] (.blk (.seq .d (.cut [0, 4, 5, 6, 7] [] .d .d)))))))), ⟨[(216, F216.c), (217, F217.c)], Tryz.gl, false⟩, [], Tryz.f144⟩
def t6 (a : LB) (b : Int) (f : LI) : S := ⟨[(0, vb a), (4, .own 0), (5, vi b)], [Ai 3 f], []⟩
def z6 : Nat → S → Option R_ := H.i P_ [r,r,r,d]
def x9 (kn6 : K_) (a : LB) (b : Int) (f : LI) (g h : Int) : Option R_ := H.e P_ [r,r,r,d,(lp kn6),d,r,r] ⟨[(0, vb a), (4, .own 0), (5, vi b), (6, vi g), (7, vi h)], [Ai 3 f], []⟩
def x6 (a : LB) (b : Int) (f : LI) : Option R_ := H.e P_ [r,r,r,d] (t6 a b f)
theorem e9 (kn6 : K_) (a : LB) : x9 kn6 a = If (fun b f => kn6 (t6 a b f)) a := by kernel_rfl
theorem i6 (a : LB) : ∀ (q : Nat) (b : Int) (f : LI), z6 q (t6 a b f) = Ib a q b f :=
 ind (fun _ _ => by kernel_rfl) fun q ih b f => Eq.trans (b := Mf (x9 (z6 q) a) a b f) (by kernel_rfl) (by simp only [e9, ih] <;> rfl)
theorem e6 : x6 = Ab2 := by funext a b f; exact Eq.trans (by kernel_rfl) ((i6 a Ca b f).trans (by rw [Ak]; rfl))
noncomputable def F (x : LB) := Yh x
theorem rn (x : LB) : H.u P_ x = F x := Eq.trans (b := Ab8 x6 x) (by kernel_rfl) (by simp only [e6] <;> rfl)
noncomputable def c : Con := ⟨H.p, H.r, F⟩
theorem ok : ConOk P_ Tryz.gl 144 c := Tryz.co H Tryz.func144 (.cons F216.ok (.cons F217.ok .nil)) (by kernel_rfl) rn
end F144
namespace F90
abbrev R_ := (Int × Int)
noncomputable def H : Hd := ⟨[Sb], [Si, Si], (.seq .d (.seq .d (.seq .d (.cut [5, 6] [] (.seq .d (.blk (.loop [4, 5, 6, 7] [] .d))) .d)))), ⟨[(144, F144.c)], Tryz.gl, false⟩, [], Tryz.f90⟩
def t4 (a : Int) (f : LI) (b g : Int) : S := ⟨[(4, .own 0), (5, vi a), (6, vi b), (7, vi g)], [Ai 3 f], []⟩
def z4 : Nat → S → Option R_ := H.i P_ [r,r,r,l,r,d]
def x6 (a b : Int) : Option R_ := H.e P_ [r,r,r,r] ⟨[(5, vi a), (6, vi b)], [], []⟩
def x4 (a : Int) (f : LI) (b g : Int) : Option R_ := H.e P_ [r,r,r,l,r,d] (t4 a f b g)
theorem e6 : x6 = Tp := by kernel_rfl
theorem i4 (a : Int) (f : LI) : ∀ (q : Nat) (b g : Int), z4 q (t4 a f b g) = Fs a f q b g :=
 ind (fun _ _ => by kernel_rfl) fun q ih b g => Eq.trans (b := Lr x6 (fun b g => (z4 q) (t4 a f b g)) a f b g) (by kernel_rfl) (by simp only [e6, ih] <;> rfl)
theorem e4 : x4 = Lq := by funext a f b g; exact Eq.trans (by kernel_rfl) ((i4 a f Ca b g).trans (by rw [Ak]; rfl))
noncomputable def F (x : LB) := Qr x
theorem rn (x : LB) : H.u P_ x = F x := Eq.trans (b := Tt x4 x) (by kernel_rfl) (by simp only [e4] <;> rfl)
noncomputable def c : Con := ⟨H.p, H.r, F⟩
theorem ok : ConOk P_ Tryz.gl 90 c := Tryz.co H Tryz.func90 (.cons F144.ok .nil) (by kernel_rfl) rn
end F90
namespace F136
noncomputable def H : Hd := ⟨[Sb, Ss], [Sz], .d, ⟨[], Tryz.gl, false⟩, [], Tryz.f136⟩
noncomputable def F (x : LB × LB) := Kb x.1 x.2
theorem rn (x : LB × LB) : H.u P_ x = F x := by kernel_rfl
noncomputable def c : Con := ⟨H.p, H.r, F⟩
theorem ok : ConOk P_ Tryz.gl 136 c := Tryz.co H Tryz.func136 .nil (by kernel_rfl) rn
end F136
namespace F292
abbrev R_ := UInt32
noncomputable def H : Hd := ⟨[Su, Si], [Su], (.seq .d (.seq .d (.cut [0, 5] [] .d .d))), ⟨[], Tryz.gl, false⟩, [], Tryz.f292⟩
def x2 (a : UInt32) (b : Bool) : Option R_ := H.e P_ [r,r,r] ⟨[(0, vu a), (5, vt b)], [], []⟩
theorem e2 : x2 = Vr := by kernel_rfl
noncomputable def F (x : UInt32 × Int) := Ur x.1 x.2
theorem rn (x : UInt32 × Int) : H.u P_ x = F x := Eq.trans (b := Vt x2 x.1 x.2) (by kernel_rfl) (by simp only [e2] <;> rfl)
noncomputable def c : Con := ⟨H.p, H.r, F⟩
theorem ok : ConOk P_ Tryz.gl 292 c := Tryz.co H Tryz.func292 .nil (by kernel_rfl) rn
end F292
namespace F263
abbrev R_ := UInt32
noncomputable def H : Hd := ⟨[Su, Sc], [Su], (.seq .d (.cut [0] [] (.seq .d (.blk (.loop [0, 1, 5] [] .d))) .d)), ⟨[(292, F292.c)], Tryz.gl, false⟩, [], Tryz.f263⟩
def t4 (a : UInt32) (b : UInt8) (f : Int) : S := ⟨[(0, vu a), (1, vc b), (5, vi f)], [], []⟩
def z4 : Nat → S → Option R_ := H.i P_ [r,l,r,d]
def x6 (a : UInt32) : Option R_ := H.e P_ [r,r] ⟨[(0, vu a)], [], []⟩
def x4 (a : UInt32) (b : UInt8) (f : Int) : Option R_ := H.e P_ [r,l,r,d] (t4 a b f)
theorem e6 : x6 = Vk := by kernel_rfl
theorem i4 : ∀ (q : Nat) (a : UInt32) (b : UInt8) (f : Int), z4 q (t4 a b f) = Gi q a b f :=
 ind (fun _ _ _ => by kernel_rfl) fun q ih a b f => Eq.trans (b := Nc x6 (fun a b f => (z4 q) (t4 a b f)) a b f) (by kernel_rfl) (by simp only [e6, ih] <;> rfl)
theorem e4 : x4 = Adv := by funext a b f; exact Eq.trans (by kernel_rfl) ((i4 Ca a b f).trans (by rw [Ak]; rfl))
noncomputable def F (x : UInt32 × UInt8) := Aa9 x.1 x.2
theorem rn (x : UInt32 × UInt8) : H.u P_ x = F x := Eq.trans (b := Adw x4 x.1 x.2) (by kernel_rfl) (by simp only [e4] <;> rfl)
noncomputable def c : Con := ⟨H.p, H.r, F⟩
theorem ok : ConOk P_ Tryz.gl 263 c := Tryz.co H Tryz.func263 (.cons F292.ok .nil) (by kernel_rfl) rn
end F263
namespace F218
abbrev R_ := UInt32
noncomputable def H : Hd := ⟨[Su, Sb], [Su], (.seq .d (.cut [0] [] (.seq .d (.blk (.loop [0, 1, 5] [] .d))) .d)), ⟨[(263, F263.c)], Tryz.gl, false⟩, [], Tryz.f218⟩
def t4 (b : LB) (a : UInt32) (f : Int) : S := ⟨[(0, vu a), (1, vb b), (5, vi f)], [], []⟩
def z4 : Nat → S → Option R_ := H.i P_ [r,l,r,d]
def x6 (a : UInt32) : Option R_ := H.e P_ [r,r] ⟨[(0, vu a)], [], []⟩
def x4 (b : LB) (a : UInt32) (f : Int) : Option R_ := H.e P_ [r,l,r,d] (t4 b a f)
theorem e6 : x6 = Ri := by kernel_rfl
theorem i4 (b : LB) : ∀ (q : Nat) (a : UInt32) (f : Int), z4 q (t4 b a f) = Ex b q a f :=
 ind (fun _ _ => by kernel_rfl) fun q ih a f => Eq.trans (b := Kk x6 (fun a f => (z4 q) (t4 b a f)) b a f) (by kernel_rfl) (by simp only [e6, ih] <;> rfl)
theorem e4 : x4 = Rn := by funext b a f; exact Eq.trans (by kernel_rfl) ((i4 b Ca a f).trans (by rw [Ak]; rfl))
noncomputable def F (x : UInt32 × LB) := Xf x.1 x.2
theorem rn (x : UInt32 × LB) : H.u P_ x = F x := Eq.trans (b := Qo x4 x.1 x.2) (by kernel_rfl) (by simp only [e4] <;> rfl)
noncomputable def c : Con := ⟨H.p, H.r, F⟩
theorem ok : ConOk P_ Tryz.gl 218 c := Tryz.co H Tryz.func218 (.cons F263.ok .nil) (by kernel_rfl) rn
end F218
namespace F146
noncomputable def H : Hd := ⟨[Sb], [Su], .d, ⟨[(218, F218.c)], Tryz.gl, false⟩, [], Tryz.f146⟩
noncomputable def F (x : LB) := Mq x
theorem rn (x : LB) : H.u P_ x = F x := by kernel_rfl
noncomputable def c : Con := ⟨H.p, H.r, F⟩
theorem ok : ConOk P_ Tryz.gl 146 c := Tryz.co H Tryz.func146 (.cons F218.ok .nil) (by kernel_rfl) rn
end F146
namespace F91
def Sp (j6 : UInt64 → UInt64 → UInt64 → UInt64 → UInt64 → Option (Int × Int × Int × Int × Int × Int)) (a : LB) : Option (Int × Int × Int × Int × Int × Int) :=
(Bs a 4 6).bind fun u =>
(Bs a 6 8).bind fun p =>
(Bs a 8 10).bind fun o =>
(Bs a 10 14).bind fun n =>
(Bs a 14 18).bind fun m =>
both (
(Ah u).bind fun k =>
both (
(Ah p).bind fun h =>
both (
(Ah o).bind fun g =>
both (
(Ah n).bind fun f =>
both (
(Ah m).bind fun b =>
bo (
j6 k h g f b)) [
(Ah m).bind fun b =>
j6 k h g f b]) [
(Ah n).bind fun f =>
(Ah m).bind fun b =>
j6 k h g f b]) [
(Ah o).bind fun g =>
(Ah n).bind fun f =>
(Ah m).bind fun b =>
j6 k h g f b]) [
(Ah p).bind fun h =>
(Ah o).bind fun g =>
(Ah n).bind fun f =>
(Ah m).bind fun b =>
j6 k h g f b]) [
(Ah u).bind fun k =>
(Ah p).bind fun h =>
(Ah o).bind fun g =>
(Ah n).bind fun f =>
(Ah m).bind fun b =>
j6 k h g f b]
theorem Aim : @Sp = @Nn := by
  unfold Sp Nn
  repeat (refine funext fun _ => ?_)
  repeat' first
    | with_reducible rfl
    | with_reducible refine Hw ?_ ?_
    | with_reducible refine Ic ?_ ?_ ?_
    | with_reducible refine Hy ?_ ?_ ?_ ?_
    | ((with_reducible refine Md ?_ ?_); focus (intro h; first | (subst h; rfl) | (simp only [h]; rfl) | (simp [Gc, Ac, h]; done)))
    | with_reducible refine Lk fun x => ?_
    | with_reducible refine Te (fun _ => ?_) (fun _ => ?_)
    | (refine Ea (fun h => by simp only [h, Mc, Ct, Cp, ite_self]) (fun x h => ?_); (try simp only [h, Ct]))
    | (refine Fl (fun h => ?_) (fun h => ?_) <;> simp only [h, if_true, if_false, Bool.false_eq_true])
abbrev R_ := (Int × Int × Int × Int × Int × Int)
noncomputable def H : Hd := ⟨[Sb], [.agg [Si, Si, Si, Si, Si], Si], (.seq .d (.seq .d (.cut [0, 2] [] .d (.seq .d (.cut [0, 2] [] .d (.cut [2, 5] [] .d .d)))))), ⟨[(132, F132.c), (133, F133.c), (145, F145.c), (146, F146.c)], Tryz.gl, false⟩, [], Tryz.f91⟩
def x6 (k h g f b : UInt64) : Option R_ := H.e P_ [r,r,r,r,r,r] ⟨[(2, .ptr 0 []), (5, .ptr 1 [])], [.box 24 (.agg [vi 0, vi 0, vi 0, vi 0, vi 0]), .box 24 (.agg [vi (Ad k : Int), vi (Ad h : Int), vi (Ad g : Int), vi (Ad f : Int), vi (Ad b : Int)])], []⟩
def x5 (a : LB) : Option R_ := H.e P_ [r,r,r,r,r] ⟨[(0, vb a), (2, .ptr 0 [])], [.box 24 (.agg [vi 0, vi 0, vi 0, vi 0, vi 0])], []⟩
def x4 (a : LB) : Option R_ := H.e P_ [r,r,r] ⟨[(0, vb a), (2, .ptr 0 [])], [.box 24 (.agg [vi 0, vi 0, vi 0, vi 0, vi 0])], []⟩
theorem e6 : x6 = Vf := by kernel_rfl
theorem e5 : x5 = Vy := Eq.trans (b := Sp x6) (by kernel_rfl) (by rw [Aim]; simp only [e6] <;> rfl)
theorem e4 : x4 = Vn := Eq.trans (b := Uu x5) (by kernel_rfl) (by simp only [e5] <;> rfl)
noncomputable def F (x : LB) := Ul x
theorem rn (x : LB) : H.u P_ x = F x := Eq.trans (b := Vg x4 x) (by kernel_rfl) (by simp only [e4] <;> rfl)
noncomputable def c : Con := ⟨H.p, H.r, F⟩
theorem ok : ConOk P_ Tryz.gl 91 c := Tryz.co H Tryz.func91 (.cons F132.ok (.cons F133.ok (.cons F145.ok (.cons F146.ok .nil)))) (by kernel_rfl) rn
end F91
namespace F85
abbrev R_ := (Int × Int × Int × Int × Int × Int × Int)
noncomputable def H : Hd := ⟨[Sb], [Si, .agg [Si, Si, Si, Si, Si], Si], (.seq .d (.seq .d (.seq .d (.seq .d (.seq .d (.cut [3, 5, 7] [] .d (.seq .d (.seq .d (.seq (.mode false) .d))))))))), ⟨[(90, F90.c), (91, F91.c), (136, F136.c)], Tryz.gl, false⟩, [], Tryz.f85⟩
def x2 (b : Int) (a : LB) : Option R_ := H.e P_ [r,r,r,r,r,r] ⟨[(3, .ptr 0 []), (5, vi b), (7, vb a)], [.box 24 (.agg [vi 0, vi 0, vi 0, vi 0, vi 0])], []⟩
theorem e2 : x2 = Pu := by kernel_rfl
noncomputable def F (x : LB) := Iw x
theorem rn (x : LB) : H.u P_ x = F x := Eq.trans (b := Pj x2 x) (by kernel_rfl) (by simp only [e2] <;> rfl)
noncomputable def c : Con := ⟨H.p, H.r, F⟩
theorem ok : ConOk P_ Tryz.gl 85 c := Tryz.co H Tryz.func85 (.cons F90.ok (.cons F91.ok (.cons F136.ok .nil))) (by kernel_rfl) rn
end F85
namespace F298
abbrev R_ := UInt64
noncomputable def H : Hd := ⟨[Sq, Si], [Sq], (.seq .d (.seq .d (.cut [0, 5] [] .d .d))), ⟨[], Tryz.gl, false⟩, [], Tryz.f298⟩
def x2 (a : UInt64) (b : Bool) : Option R_ := H.e P_ [r,r,r] ⟨[(0, vq a), (5, vt b)], [], []⟩
theorem e2 : x2 = Nb := by kernel_rfl
noncomputable def F (x : UInt64 × Int) := Ub x.1 x.2
theorem rn (x : UInt64 × Int) : H.u P_ x = F x := Eq.trans (b := Vx x2 x.1 x.2) (by kernel_rfl) (by simp only [e2] <;> rfl)
noncomputable def c : Con := ⟨H.p, H.r, F⟩
theorem ok : ConOk P_ Tryz.gl 298 c := Tryz.co H Tryz.func298 .nil (by kernel_rfl) rn
end F298
namespace F272
abbrev R_ := UInt64
noncomputable def H : Hd := ⟨[Sq, Sc], [Sq], (.seq .d (.cut [0] [] (.seq .d (.blk (.loop [0, 1, 5] [] .d))) .d)), ⟨[(298, F298.c)], Tryz.gl, false⟩, [], Tryz.f272⟩
def t4 (b : UInt8) (a : UInt64) (f : Int) : S := ⟨[(0, vq a), (1, vc b), (5, vi f)], [], []⟩
def z4 : Nat → S → Option R_ := H.i P_ [r,l,r,d]
def x6 (a : UInt64) : Option R_ := H.e P_ [r,r] ⟨[(0, vq a)], [], []⟩
def x4 (b : UInt8) (a : UInt64) (f : Int) : Option R_ := H.e P_ [r,l,r,d] (t4 b a f)
theorem e6 : x6 = Vl := by kernel_rfl
theorem i4 (b : UInt8) : ∀ (q : Nat) (a : UInt64) (f : Int), z4 q (t4 b a f) = Gn b q a f :=
 ind (fun _ _ => by kernel_rfl) fun q ih a f => Eq.trans (b := Nf x6 (fun a f => (z4 q) (t4 b a f)) b a f) (by kernel_rfl) (by simp only [e6, ih] <;> rfl)
theorem e4 : x4 = Ad8 := by funext b a f; exact Eq.trans (by kernel_rfl) ((i4 b Ca a f).trans (by rw [Ak]; rfl))
noncomputable def F (x : UInt64 × UInt8) := Aba x.1 x.2
theorem rn (x : UInt64 × UInt8) : H.u P_ x = F x := Eq.trans (b := Ado x4 x.1 x.2) (by kernel_rfl) (by simp only [e4] <;> rfl)
noncomputable def c : Con := ⟨H.p, H.r, F⟩
theorem ok : ConOk P_ Tryz.gl 272 c := Tryz.co H Tryz.func272 (.cons F298.ok .nil) (by kernel_rfl) rn
end F272
namespace F233
abbrev R_ := UInt64
noncomputable def H : Hd := ⟨[Sq, Sb], [Sq], (.seq .d (.cut [0] [] (.seq .d (.blk (.loop [0, 1, 5] [] .d))) .d)), ⟨[(272, F272.c)], Tryz.gl, false⟩, [], Tryz.f233⟩
def t4 (b : LB) (a : UInt64) (f : Int) : S := ⟨[(0, vq a), (1, vb b), (5, vi f)], [], []⟩
def z4 : Nat → S → Option R_ := H.i P_ [r,l,r,d]
def x6 (a : UInt64) : Option R_ := H.e P_ [r,r] ⟨[(0, vq a)], [], []⟩
def x4 (b : LB) (a : UInt64) (f : Int) : Option R_ := H.e P_ [r,l,r,d] (t4 b a f)
theorem e6 : x6 = Rt := by kernel_rfl
theorem i4 (b : LB) : ∀ (q : Nat) (a : UInt64) (f : Int), z4 q (t4 b a f) = Ev b q a f :=
 ind (fun _ _ => by kernel_rfl) fun q ih a f => Eq.trans (b := Kl x6 (fun a f => (z4 q) (t4 b a f)) b a f) (by kernel_rfl) (by simp only [e6, ih] <;> rfl)
theorem e4 : x4 = Abo := by funext b a f; exact Eq.trans (by kernel_rfl) ((i4 b Ca a f).trans (by rw [Ak]; rfl))
noncomputable def F (x : UInt64 × LB) := Oo x.1 x.2
theorem rn (x : UInt64 × LB) : H.u P_ x = F x := Eq.trans (b := Aa3 x4 x.1 x.2) (by kernel_rfl) (by simp only [e4] <;> rfl)
noncomputable def c : Con := ⟨H.p, H.r, F⟩
theorem ok : ConOk P_ Tryz.gl 233 c := Tryz.co H Tryz.func233 (.cons F272.ok .nil) (by kernel_rfl) rn
end F233
namespace F167
noncomputable def H : Hd := ⟨[Ss], [Sq], .d, ⟨[(233, F233.c)], Tryz.gl, false⟩, [], Tryz.f167⟩
noncomputable def F (x : LB) := Abn x
theorem rn (x : LB) : H.u P_ x = F x := by kernel_rfl
noncomputable def c : Con := ⟨H.p, H.r, F⟩
theorem ok : ConOk P_ Tryz.gl 167 c := Tryz.co H Tryz.func167 (.cons F233.ok .nil) (by kernel_rfl) rn
end F167
namespace F104
noncomputable def H : Hd := ⟨[Ss], [Ob 5], .d, ⟨[(166, F166.c), (167, F167.c)], Tryz.gl, false⟩, [], Tryz.f104⟩
noncomputable def F (x : LB) := Mz x
theorem rn (x : LB) : H.u P_ x = F x := by kernel_rfl
noncomputable def c : Con := ⟨H.p, H.r, F⟩
theorem ok : ConOk P_ Tryz.gl 104 c := Tryz.co H Tryz.func104 (.cons F166.ok (.cons F167.ok .nil)) (by kernel_rfl) rn
end F104
namespace F105
abbrev R_ := (LI × Int)
noncomputable def H : Hd := ⟨[Sb, Si], [Ol 3, Si], (.seq .d (.seq .d (.seq .d (.cut [0, 1] [] .d (.seq .d (.cut [6] [] (.seq .d (.blk (.loop [0, 1, 6, 7] [⟨6, [], .own 3 (.int .i64)⟩] .d))) .d)))))), ⟨[(82, F82.c), (145, F145.c), (146, F146.c)], Tryz.gl, false⟩, [], Tryz.f105⟩
def t6 (b : LB) (a g : Int) (f : LI) : S := ⟨[(0, vb b), (1, vi a), (6, .own 0), (7, vi g)], [Ai 3 f], []⟩
def z6 : Nat → S → Option R_ := H.i P_ [r,r,r,r,r,l,r,d]
def x8 (f : LI) : Option R_ := H.e P_ [r,r,r,r,r,r] ⟨[(6, .own 0)], [Ai 3 f], []⟩
def x6 (b : LB) (a g : Int) (f : LI) : Option R_ := H.e P_ [r,r,r,r,r,l,r,d] (t6 b a g f)
def x5 (b : LB) (a : Int) : Option R_ := H.e P_ [r,r,r,r] ⟨[(0, vb b), (1, vi a)], [], []⟩
theorem e8 : x8 = Mu := by kernel_rfl
theorem i6 (b : LB) (a : Int) : ∀ (q : Nat) (g : Int) (f : LI), z6 q (t6 b a g f) = Gl b a q g f :=
 ind (fun _ _ => by kernel_rfl) fun q ih g f => Eq.trans (b := Na x8 (fun g f => (z6 q) (t6 b a g f)) b a g f) (by kernel_rfl) (by simp only [e8, ih] <;> rfl)
theorem e6 : x6 = Vv := by funext b a g f; exact Eq.trans (by kernel_rfl) ((i6 b a Ca g f).trans (by rw [Ak]; rfl))
theorem e5 : x5 = Vz := Eq.trans (b := Wc x6) (by kernel_rfl) (by simp only [e6] <;> rfl)
noncomputable def F (x : LB × Int) := Un x.1 x.2
theorem rn (x : LB × Int) : H.u P_ x = F x := Eq.trans (b := Wa x5 x.1 x.2) (by kernel_rfl) (by simp only [e5] <;> rfl)
noncomputable def c : Con := ⟨H.p, H.r, F⟩
theorem ok : ConOk P_ Tryz.gl 105 c := Tryz.co H Tryz.func105 (.cons F82.ok (.cons F145.ok (.cons F146.ok .nil))) (by kernel_rfl) rn
end F105
namespace F86
abbrev R_ := (Int × LI × Int)
noncomputable def H : Hd := ⟨[Sb, .agg [Si, Si, Si, Si, Si], Ss], [Si, Ol 3, Si], (.seq .d (.seq .d (.cut [0, 4, 9] [] .d (.cut [9, 10, 11] [] .d .d)))), ⟨[(83, F83.c), (104, F104.c), (105, F105.c)], Tryz.gl, false⟩, [], Tryz.f86⟩
def x4 (b g : Int) (h : LI) : Option R_ := H.e P_ [r,r,r,r] ⟨[(9, vi b), (10, .own 0), (11, vi g)], [Ai 3 h], []⟩
def x3 (a : LB) (f k m n o b : Int) : Option R_ := H.e P_ [r,r,r] ⟨[(0, vb a), (4, .ptr 0 []), (9, vi b)], [.box 24 (.agg [vi f, vi k, vi m, vi n, vi o])], []⟩
theorem e4 : x4 = Rr := by kernel_rfl
theorem e3 : x3 = He := Eq.trans (b := Rs x4) (by kernel_rfl) (by simp only [e4] <;> rfl)
noncomputable def F (x : LB × Int × Int × Int × Int × Int × LB) := Pb x.1 x.2.1 x.2.2.1 x.2.2.2.1 x.2.2.2.2.1 x.2.2.2.2.2.1 x.2.2.2.2.2.2
theorem rn (x : LB × Int × Int × Int × Int × Int × LB) : H.u P_ x = F x := Eq.trans (b := Rp x3 x.1 x.2.1 x.2.2.1 x.2.2.2.1 x.2.2.2.2.1 x.2.2.2.2.2.1 x.2.2.2.2.2.2) (by kernel_rfl) (by simp only [e3] <;> rfl)
noncomputable def c : Con := ⟨H.p, H.r, F⟩
theorem ok : ConOk P_ Tryz.gl 86 c := Tryz.co H Tryz.func86 (.cons F83.ok (.cons F104.ok (.cons F105.ok .nil))) (by kernel_rfl) rn
end F86
namespace F168
noncomputable def H : Hd := ⟨[Sq, Sb], [Sq, Si], .d, ⟨[(233, F233.c)], Tryz.gl, false⟩, [], Tryz.f168⟩
noncomputable def F (x : UInt64 × LB) := Aah x.1 x.2
theorem rn (x : UInt64 × LB) : H.u P_ x = F x := by kernel_rfl
noncomputable def c : Con := ⟨H.p, H.r, F⟩
theorem ok : ConOk P_ Tryz.gl 168 c := Tryz.co H Tryz.func168 (.cons F233.ok .nil) (by kernel_rfl) rn
end F168
namespace F107
noncomputable def H : Hd := ⟨[Sb], [Sq, Si], .d, ⟨[(168, F168.c)], Tryz.gl, false⟩, [], Tryz.f107⟩
noncomputable def F (x : LB) := Acj x
theorem rn (x : LB) : H.u P_ x = F x := by kernel_rfl
noncomputable def c : Con := ⟨H.p, H.r, F⟩
theorem ok : ConOk P_ Tryz.gl 107 c := Tryz.co H Tryz.func107 (.cons F168.ok .nil) (by kernel_rfl) rn
end F107
namespace F108
abbrev R_ := LX
abbrev K_ := S → Option R_
noncomputable def H : Hd := ⟨[Sq], [.lf (.vec 16 (.int .i32)) none], (.seq .d (.seq .d (.cut [2, 3] [] (.seq .d (.blk (.loop [0, 2, 3, 4] [] (.seq .d (.seq (.blk (.seq .d (.cut [0, 2, 3, 4, 5] [] .d .d))) .d))))) .d))), ⟨[], Tryz.gl, false⟩, [], Tryz.f108⟩
def t6 (b : UInt64) (f : Int) (a : LX) : S := ⟨[(0, vq b), (2, .ptr 0 []), (3, .ptr 1 []), (4, vi f)], [.box 95 (.val (.vec 16 (.int .i32)) (List.replicate 16 (0 : Int32))), .box 95 (.val (.vec 16 (.int .i32)) a)], []⟩
def z6 : Nat → S → Option R_ := H.i P_ [r,r,l,r,d]
def x10 (a : LX) : Option R_ := H.e P_ [r,r,r] ⟨[(2, .ptr 0 []), (3, .ptr 1 [])], [.box 95 (.val (.vec 16 (.int .i32)) (List.replicate 16 (0 : Int32))), .box 95 (.val (.vec 16 (.int .i32)) a)], []⟩
def x8 (kn6 : K_) (b : UInt64) (f : Int) (a : LX) (g : Int32) : Option R_ := H.e P_ [r,r,l,r,d,(lp kn6),r,l,d,r,r] ⟨[(0, vq b), (2, .ptr 0 []), (3, .ptr 1 []), (4, vi f), (5, vx g)], [.box 95 (.val (.vec 16 (.int .i32)) (List.replicate 16 (0 : Int32))), .box 95 (.val (.vec 16 (.int .i32)) a)], []⟩
def x6 (b : UInt64) (f : Int) (a : LX) : Option R_ := H.e P_ [r,r,l,r,d] (t6 b f a)
theorem e10 : x10 = Ae6 := by kernel_rfl
theorem e8 (kn6 : K_) : x8 kn6 = Rk (fun b f a => kn6 (t6 b f a)) := by kernel_rfl
theorem i6 : ∀ (q : Nat) (b : UInt64) (f : Int) (a : LX), z6 q (t6 b f a) = Gf q b f a :=
 ind (fun _ _ _ => by kernel_rfl) fun q ih b f a => Eq.trans (b := Qv (x8 (z6 q)) x10 b f a) (by kernel_rfl) (by simp only [e8, e10, ih] <;> rfl)
theorem e6 : x6 = Ahi := by funext b f a; exact Eq.trans (by kernel_rfl) ((i6 Ca b f a).trans (by rw [Ak]; rfl))
noncomputable def F (x : UInt64) := Aeo x
theorem rn (x : UInt64) : H.u P_ x = F x := Eq.trans (b := Agi x6 x) (by kernel_rfl) (by simp only [e6] <;> rfl)
noncomputable def c : Con := ⟨H.p, H.r, F⟩
theorem ok : ConOk P_ Tryz.gl 108 c := Tryz.co H Tryz.func108 .nil (by kernel_rfl) rn
end F108
namespace F61
noncomputable def H : Hd := ⟨[Ss], [.lf (.vec 16 (.int .i32)) none, Si], .d, ⟨[(107, F107.c), (108, F108.c)], Tryz.gl, false⟩, [], Tryz.f61⟩
noncomputable def F (x : LB) := Up x
theorem rn (x : LB) : H.u P_ x = F x := by kernel_rfl
noncomputable def c : Con := ⟨H.p, H.r, F⟩
theorem ok : ConOk P_ Tryz.gl 61 c := Tryz.co H Tryz.func61 (.cons F107.ok (.cons F108.ok .nil)) (by kernel_rfl) rn
end F61
namespace F234
noncomputable def H : Hd := ⟨[Si], [Si], .d, ⟨[], Tryz.gl, false⟩, [], Tryz.f234⟩
noncomputable def F (x : Int) := Jk x
theorem rn (x : Int) : H.u P_ x = F x := by kernel_rfl
noncomputable def c : Con := ⟨H.p, H.r, F⟩
theorem ok : ConOk P_ Tryz.gl 234 c := Tryz.co H Tryz.func234 .nil (by kernel_rfl) rn
end F234
namespace F169
noncomputable def H : Hd := ⟨[.agg [Si, Si]], [Si], .d, ⟨[(234, F234.c)], Tryz.gl, false⟩, [], Tryz.f169⟩
noncomputable def F (x : Int × Int) := Rc x.1 x.2
theorem rn (x : Int × Int) : H.u P_ x = F x := by kernel_rfl
noncomputable def c : Con := ⟨H.p, H.r, F⟩
theorem ok : ConOk P_ Tryz.gl 169 c := Tryz.co H Tryz.func169 (.cons F234.ok .nil) (by kernel_rfl) rn
end F169
namespace F109
noncomputable def H : Hd := ⟨[.agg [Si, Si], Si], [Si], .d, ⟨[(169, F169.c)], Tryz.gl, false⟩, [], Tryz.f109⟩
noncomputable def F (x : Int × Int × Int) := Io x.1 x.2.1 x.2.2
theorem rn (x : Int × Int × Int) : H.u P_ x = F x := by kernel_rfl
noncomputable def c : Con := ⟨H.p, H.r, F⟩
theorem ok : ConOk P_ Tryz.gl 109 c := Tryz.co H Tryz.func109 (.cons F169.ok .nil) (by kernel_rfl) rn
end F109
namespace F170
noncomputable def H : Hd := ⟨[Sb], [Ob 5], .d, ⟨[(146, F146.c)], Tryz.gl, false⟩, [], Tryz.f170⟩
noncomputable def F (x : LB) := Ph x
theorem rn (x : LB) : H.u P_ x = F x := by kernel_rfl
noncomputable def c : Con := ⟨H.p, H.r, F⟩
theorem ok : ConOk P_ Tryz.gl 170 c := Tryz.co H Tryz.func170 (.cons F146.ok .nil) (by kernel_rfl) rn
end F170
namespace F110
noncomputable def H : Hd := ⟨[Sb], [Si], .d, ⟨[(170, F170.c)], Tryz.gl, false⟩, [], Tryz.f110⟩
noncomputable def F (x : LB) := Ju x
theorem rn (x : LB) : H.u P_ x = F x := by kernel_rfl
noncomputable def c : Con := ⟨H.p, H.r, F⟩
theorem ok : ConOk P_ Tryz.gl 110 c := Tryz.co H Tryz.func110 (.cons F170.ok .nil) (by kernel_rfl) rn
end F110
namespace F171
noncomputable def H : Hd := ⟨[], [.agg [Si, Si, Sq, Sq]], .d, ⟨[], Tryz.gl, false⟩, [], Tryz.f171⟩
noncomputable def F (x : Unit) := Ii
theorem rn (x : Unit) : H.u P_ x = F x := by kernel_rfl
noncomputable def c : Con := ⟨H.p, H.r, F⟩
theorem ok : ConOk P_ Tryz.gl 171 c := Tryz.co H Tryz.func171 .nil (by kernel_rfl) rn
end F171
namespace F239
abbrev R_ := UInt64
noncomputable def H : Hd := ⟨[Si], [Sq], (.seq .d (.seq .d (.cut [3] [] (.seq .d (.blk (.loop [0, 3, 4] [] .d))) .d))), ⟨[], Tryz.gl, false⟩, [], Tryz.f239⟩
def t4 (b : Int) (a : UInt64) (f : Int) : S := ⟨[(0, vi b), (3, vq a), (4, vi f)], [], []⟩
def z4 : Nat → S → Option R_ := H.i P_ [r,r,l,r,d]
def x6 (a : UInt64) : Option R_ := H.e P_ [r,r,r] ⟨[(3, vq a)], [], []⟩
def x4 (b : Int) (a : UInt64) (f : Int) : Option R_ := H.e P_ [r,r,l,r,d] (t4 b a f)
theorem e6 : x6 = Abz := by kernel_rfl
theorem i4 (b : Int) : ∀ (q : Nat) (a : UInt64) (f : Int), z4 q (t4 b a f) = Ft b q a f :=
 ind (fun _ _ => by kernel_rfl) fun q ih a f => Eq.trans (b := Ls x6 (fun a f => (z4 q) (t4 b a f)) b a f) (by kernel_rfl) (by simp only [e6, ih] <;> rfl)
theorem e4 : x4 = Ab5 := by funext b a f; exact Eq.trans (by kernel_rfl) ((i4 b Ca a f).trans (by rw [Ak]; rfl))
noncomputable def F (x : Int) := Dr x
theorem rn (x : Int) : H.u P_ x = F x := Eq.trans (b := Abx x4 x) (by kernel_rfl) (by simp only [e4] <;> rfl)
noncomputable def c : Con := ⟨H.p, H.r, F⟩
theorem ok : ConOk P_ Tryz.gl 239 c := Tryz.co H Tryz.func239 .nil (by kernel_rfl) rn
end F239
namespace F273
noncomputable def H : Hd := ⟨[.agg [Si, Si, Sq, Sq], Su], [Sz], .d, ⟨[(239, F239.c)], Tryz.gl, false⟩, [], Tryz.f273⟩
noncomputable def F (x : Int × Int × UInt64 × UInt64 × UInt32) := Pq x.1 x.2.1 x.2.2.1 x.2.2.2.1 x.2.2.2.2
theorem rn (x : Int × Int × UInt64 × UInt64 × UInt32) : H.u P_ x = F x := by kernel_rfl
noncomputable def c : Con := ⟨H.p, H.r, F⟩
theorem ok : ConOk P_ Tryz.gl 273 c := Tryz.co H Tryz.func273 (.cons F239.ok .nil) (by kernel_rfl) rn
end F273
namespace F275
noncomputable def H : Hd := ⟨[.agg [Si, Si, Sq, Sq], Su], [Su], .d, ⟨[(239, F239.c)], Tryz.gl, false⟩, [], Tryz.f275⟩
noncomputable def F (x : Int × Int × UInt64 × UInt64 × UInt32) := Jg x.1 x.2.1 x.2.2.1 x.2.2.2.1 x.2.2.2.2
theorem rn (x : Int × Int × UInt64 × UInt64 × UInt32) : H.u P_ x = F x := by kernel_rfl
noncomputable def c : Con := ⟨H.p, H.r, F⟩
theorem ok : ConOk P_ Tryz.gl 275 c := Tryz.co H Tryz.func275 (.cons F239.ok .nil) (by kernel_rfl) rn
end F275
namespace F274
abbrev R_ := (Int × UInt64)
noncomputable def H : Hd := ⟨[Si, Sq, Sq], [Si, Sq], (.seq .d (.seq .d (.cut [0, 1] [] .d .d))), ⟨[(239, F239.c)], Tryz.gl, false⟩, [], Tryz.f274⟩
def x2 (b : Int) (a f : UInt64) : Option R_ := H.e P_ [r,r,r] ⟨[(0, vi b), (1, vq (Ao (Af a f) (Cw a (16 : UInt64))))], [], []⟩
theorem e2 : x2 = My := by kernel_rfl
noncomputable def F (x : Int × UInt64 × UInt64) := Gw x.1 x.2.1 x.2.2
theorem rn (x : Int × UInt64 × UInt64) : H.u P_ x = F x := Eq.trans (b := Wb x2 x.1 x.2.1 x.2.2) (by kernel_rfl) (by simp only [e2] <;> rfl)
noncomputable def c : Con := ⟨H.p, H.r, F⟩
theorem ok : ConOk P_ Tryz.gl 274 c := Tryz.co H Tryz.func274 (.cons F239.ok .nil) (by kernel_rfl) rn
end F274
namespace F235
def Py (j2 : UInt32 → Int → Int → UInt64 → UInt64 → Int → UInt64 → Option (Int × Int × UInt64 × UInt64)) (f a : Int) (g b : UInt64) (h : UInt32) : Option (Int × Int × UInt64 × UInt64) :=
(Pq f a g b h).bind fun u =>
if (!u) then
(fun w : Option (Int × Int × UInt64 × UInt64) =>
(fun v : Option (Int × Int × UInt64 × UInt64) =>
(fun y : Option (Int × Int × UInt64 × UInt64) =>
both (
y) [
y,
both (
v) [
v,
(Jg f a g b h).bind fun k =>
(fun ac : Option (Int × Int × UInt64 × UInt64) =>
bo (
ac)) (
(Gw a b (Ad k : UInt64)).bind fun (m, n) =>
j2 h f a g b m n)]]) (
both (
w) [
v])) (
bo (
w))) (
(Jg f a g b h).bind fun k =>
(Gw a b (Ad k : UInt64)).bind fun (m, n) =>
j2 h f a g b m n)
else
j2 h f a g b a b
theorem Agv : @Py = @Kn := by
  unfold Py Kn
  try simp only [Alv, Aez, Aex]
  all_goals
    repeat (refine funext fun _ => ?_)
    repeat' first
      | with_reducible rfl
      | with_reducible refine Hw ?_ ?_
      | with_reducible refine Ic ?_ ?_ ?_
      | with_reducible refine Hy ?_ ?_ ?_ ?_
      | ((with_reducible refine Md ?_ ?_); focus (intro h; first | (subst h; rfl) | (simp only [h]; rfl) | (simp [Gc, Ac, h]; done)))
      | with_reducible refine Lk fun x => ?_
      | with_reducible refine Te (fun _ => ?_) (fun _ => ?_)
      | (refine Ea (fun h => by simp only [h, Mc, Ct, Cp, ite_self]) (fun x h => ?_); (try simp only [h, Ct]))
      | (refine Fl (fun h => ?_) (fun h => ?_) <;> simp only [h, if_true, if_false, Bool.false_eq_true])
abbrev R_ := (Int × Int × UInt64 × UInt64)
noncomputable def H : Hd := ⟨[.agg [Si, Si, Sq, Sq], Su], [.agg [Si, Si, Sq, Sq]], (.seq .d (.seq .d (.cut [1, 2, 4, 5] [] (.seq .d (.cond (.mode false) .d)) .d))), ⟨[(273, F273.c), (274, F274.c), (275, F275.c)], Tryz.gl, false⟩, [], Tryz.f235⟩
def x2 (h : UInt32) (f a : Int) (g b : UInt64) (o : Int) (p : UInt64) : Option R_ := H.e P_ [r,r,r] ⟨[(1, vu h), (2, .ptr 0 []), (4, .ptr 1 []), (5, .ptr 2 [])], [.box 208 (.agg [vi f, vi a, vq g, vq b]), .box 208 (.agg [vi 0, vi 0, vq 0, vq 0]), .box 208 (.agg [vi f, vi o, vq g, vq p])], []⟩
theorem e2 : x2 = Ko := by kernel_rfl
noncomputable def F (x : Int × Int × UInt64 × UInt64 × UInt32) := Pf x.1 x.2.1 x.2.2.1 x.2.2.2.1 x.2.2.2.2
theorem rn (x : Int × Int × UInt64 × UInt64 × UInt32) : H.u P_ x = F x := Eq.trans (b := Py x2 x.1 x.2.1 x.2.2.1 x.2.2.2.1 x.2.2.2.2) (by kernel_rfl) (by rw [Agv]; simp only [e2] <;> rfl)
noncomputable def c : Con := ⟨H.p, H.r, F⟩
theorem ok : ConOk P_ Tryz.gl 235 c := Tryz.co H Tryz.func235 (.cons F273.ok (.cons F274.ok (.cons F275.ok .nil))) (by kernel_rfl) rn
end F235
namespace F172
abbrev R_ := (Int × Int × UInt64 × UInt64)
noncomputable def H : Hd := ⟨[Si, Sv], [.agg [Si, Si, Sq, Sq]], (.seq .d (.seq .d (.cut [4, 5] [] (.seq .d (.blk (.loop [0, 1, 4, 5, 6] [] .d))) .d))), ⟨[(171, F171.c), (235, F235.c)], Tryz.gl, false⟩, [], Tryz.f172⟩
def t4 (h : Int) (k : LU) (m a b : Int) (f g : UInt64) : S := ⟨[(0, vi h), (1, vv k), (4, .ptr 0 []), (5, .ptr 1 []), (6, vi m)], [.box 208 (.agg [vi 0, vi 0, vq 0, vq 0]), .box 208 (.agg [vi a, vi b, vq f, vq g])], []⟩
def z4 : Nat → S → Option R_ := H.i P_ [r,r,l,r,d]
def x6 (a b : Int) (f g : UInt64) : Option R_ := H.e P_ [r,r,r] ⟨[(4, .ptr 0 []), (5, .ptr 1 [])], [.box 208 (.agg [vi 0, vi 0, vq 0, vq 0]), .box 208 (.agg [vi a, vi b, vq f, vq g])], []⟩
def x4 (h : Int) (k : LU) (m a b : Int) (f g : UInt64) : Option R_ := H.e P_ [r,r,l,r,d] (t4 h k m a b f g)
theorem e6 : x6 = Aab := by kernel_rfl
theorem i4 (h : Int) (k : LU) : ∀ (q : Nat) (m a b : Int) (f g : UInt64), z4 q (t4 h k m a b f g) = Gv h k q m a b f g :=
 ind (fun _ _ _ _ _ => by kernel_rfl) fun q ih m a b f g => Eq.trans (b := Ra x6 (fun m a b f g => (z4 q) (t4 h k m a b f g)) h k m a b f g) (by kernel_rfl) (by simp only [e6, ih] <;> rfl)
theorem e4 : x4 = Abi := by funext h k m a b f g; exact Eq.trans (by kernel_rfl) ((i4 h k Ca m a b f g).trans (by rw [Ak]; rfl))
noncomputable def F (x : Int × LU) := Jw x.1 x.2
theorem rn (x : Int × LU) : H.u P_ x = F x := Eq.trans (b := Rj x4 x.1 x.2) (by kernel_rfl) (by simp only [e4] <;> rfl)
noncomputable def c : Con := ⟨H.p, H.r, F⟩
theorem ok : ConOk P_ Tryz.gl 172 c := Tryz.co H Tryz.func172 (.cons F171.ok (.cons F235.ok .nil)) (by kernel_rfl) rn
end F172
namespace F175
abbrev R_ := Int
noncomputable def H : Hd := ⟨[.agg [Sb, Si], Si], [Si], (.seq .d (.seq .d (.cut [5] [] (.seq .d (.blk (.loop [1, 5, 6] [] .d))) .d))), ⟨[], Tryz.gl, false⟩, [], Tryz.f175⟩
def t4 (b a f : Int) : S := ⟨[(1, vi b), (5, vi a), (6, vi f)], [], []⟩
def z4 : Nat → S → Option R_ := H.i P_ [r,r,l,r,d]
def x6 (a : Int) : Option R_ := H.e P_ [r,r,r] ⟨[(5, vi a)], [], []⟩
def x4 (b a f : Int) : Option R_ := H.e P_ [r,r,l,r,d] (t4 b a f)
theorem e6 : x6 = Yk := by kernel_rfl
theorem i4 (b : Int) : ∀ (q : Nat) (a f : Int), z4 q (t4 b a f) = Ij b q a f :=
 ind (fun _ _ => by kernel_rfl) fun q ih a f => Eq.trans (b := Rb x6 (fun a f => (z4 q) (t4 b a f)) b a f) (by kernel_rfl) (by simp only [e6, ih] <;> rfl)
theorem e4 : x4 = Yp := by funext b a f; exact Eq.trans (by kernel_rfl) ((i4 b Ca a f).trans (by rw [Ak]; rfl))
noncomputable def F (x : LB × Int × Int) := Hq x.1 x.2.1 x.2.2
theorem rn (x : LB × Int × Int) : H.u P_ x = F x := Eq.trans (b := Yn x4 x.1 x.2.1 x.2.2) (by kernel_rfl) (by simp only [e4] <;> rfl)
noncomputable def c : Con := ⟨H.p, H.r, F⟩
theorem ok : ConOk P_ Tryz.gl 175 c := Tryz.co H Tryz.func175 .nil (by kernel_rfl) rn
end F175
namespace F236
abbrev R_ := (LB × Int)
noncomputable def H : Hd := ⟨[.agg [Ob 5, Si], Si], [.agg [Ob 5, Si]], (.seq .d (.cut [1, 2, 4] [] .d (.seq .d (.cut [1, 2, 4, 5] [] (.seq .d (.blk (.loop [1, 2, 4, 5, 6] [] .d))) .d)))), ⟨[], Tryz.gl, false⟩, [], Tryz.f236⟩
def t6 (b a : Int) (f : LB) (g h : Int) : S := ⟨[(1, vi b), (2, .ptr 0 []), (4, .ptr 1 []), (5, vi g), (6, vi h)], [.box 146 (.agg [.own 2, vi a]), .box 146 (.agg [.nils, vi 0]), Ab 5 f], []⟩
def z6 : Nat → S → Option R_ := H.i P_ [r,r,r,l,r,d]
def x8 (b g a : Int) (f : LB) : Option R_ := H.e P_ [r,r,r,r] ⟨[(1, vi b), (2, .ptr 0 []), (4, .ptr 1 []), (5, vi g)], [.box 146 (.agg [.own 2, vi a]), .box 146 (.agg [.nils, vi 0]), Ab 5 f], []⟩
def x6 (b a : Int) (f : LB) (g h : Int) : Option R_ := H.e P_ [r,r,r,l,r,d] (t6 b a f g h)
def x5 (b a : Int) (f : LB) : Option R_ := H.e P_ [r,r] ⟨[(1, vi b), (2, .ptr 0 []), (4, .ptr 1 [])], [.box 146 (.agg [.own 2, vi a]), .box 146 (.agg [.nils, vi 0]), Ab 5 f], []⟩
theorem e8 : x8 = Ou := by kernel_rfl
theorem i6 (b a : Int) (f : LB) : ∀ (q : Nat) (g h : Int), z6 q (t6 b a f g h) = Hj b a f q g h :=
 ind (fun _ _ => by kernel_rfl) fun q ih g h => Eq.trans (b := Pd x8 (fun g h => (z6 q) (t6 b a f g h)) b a f g h) (by kernel_rfl) (by simp only [e8, ih] <;> rfl)
theorem e6 : x6 = Xa := by funext b a f g h; exact Eq.trans (by kernel_rfl) ((i6 b a f Ca g h).trans (by rw [Ak]; rfl))
theorem e5 : x5 = Ot := Eq.trans (b := Xe x6) (by kernel_rfl) (by simp only [e6] <;> rfl)
noncomputable def F (x : LB × Int × Int) := Pn x.1 x.2.1 x.2.2
theorem rn (x : LB × Int × Int) : H.u P_ x = F x := Eq.trans (b := Ww x5 x.1 x.2.1 x.2.2) (by kernel_rfl) (by simp only [e5] <;> rfl)
noncomputable def c : Con := ⟨H.p, H.r, F⟩
theorem ok : ConOk P_ Tryz.gl 236 c := Tryz.co H Tryz.func236 .nil (by kernel_rfl) rn
end F236
namespace F173
abbrev R_ := (LB × Int)
noncomputable def H : Hd := ⟨[.agg [Sb, Si], Si, Si], [.agg [Ob 5, Si]], (.seq .d (.seq .d (.cut [6, 7] [] (.seq .d (.blk (.loop [2, 3, 6, 7, 8] [⟨7, [0], .own 5 (.int .u8)⟩] .d))) .d))), ⟨[(175, F175.c), (236, F236.c)], Tryz.gl, false⟩, [], Tryz.f173⟩
def t4 (f : Int) (g : LB) (h k a : Int) (b : LB) : S := ⟨[(2, vi f), (3, .ptr 0 []), (6, .ptr 1 []), (7, .ptr 2 []), (8, vi k)], [.box 146 (.agg [vb g, vi h]), .box 146 (.agg [.nils, vi 0]), .box 146 (.agg [.own 3, vi a]), Ab 5 b], []⟩
def z4 : Nat → S → Option R_ := H.i P_ [r,r,l,r,d]
def x6 (a : Int) (b : LB) : Option R_ := H.e P_ [r,r,r] ⟨[(6, .ptr 0 []), (7, .ptr 1 [])], [.box 146 (.agg [.nils, vi 0]), .box 146 (.agg [.own 2, vi a]), Ab 5 b], []⟩
def x4 (f : Int) (g : LB) (h k a : Int) (b : LB) : Option R_ := H.e P_ [r,r,l,r,d] (t4 f g h k a b)
theorem e6 : x6 = Yw := by kernel_rfl
theorem i4 (f : Int) (g : LB) (h : Int) : ∀ (q : Nat) (k a : Int) (b : LB), z4 q (t4 f g h k a b) = Ee f g h q k a b :=
 ind (fun _ _ _ => by kernel_rfl) fun q ih k a b => Eq.trans (b := Jo x6 (fun k a b => (z4 q) (t4 f g h k a b)) f g h k a b) (by kernel_rfl) (by simp only [e6, ih] <;> rfl)
theorem e4 : x4 = Zm := by funext f g h k a b; exact Eq.trans (by kernel_rfl) ((i4 f g h Ca k a b).trans (by rw [Ak]; rfl))
noncomputable def F (x : LB × Int × Int × Int) := Va x.1 x.2.1 x.2.2.1 x.2.2.2
theorem rn (x : LB × Int × Int × Int) : H.u P_ x = F x := Eq.trans (b := Yt x4 x.1 x.2.1 x.2.2.1 x.2.2.2) (by kernel_rfl) (by simp only [e4] <;> rfl)
noncomputable def c : Con := ⟨H.p, H.r, F⟩
theorem ok : ConOk P_ Tryz.gl 173 c := Tryz.co H Tryz.func173 (.cons F175.ok (.cons F236.ok .nil)) (by kernel_rfl) rn
end F173
namespace F237
abbrev R_ := UInt64
noncomputable def H : Hd := ⟨[.agg [Sb, Si], Si, Si], [Sq], (.seq .d (.seq .d (.cut [7] [] (.seq .d (.blk (.loop [1, 3, 7, 8] [] .d))) .d))), ⟨[(175, F175.c)], Tryz.gl, false⟩, [], Tryz.f237⟩
def t4 (b : Int) (f : LB) (g : Int) (a : UInt64) (h : Int) : S := ⟨[(1, vi b), (3, .ptr 0 []), (7, vq a), (8, vi h)], [.box 146 (.agg [vb f, vi g])], []⟩
def z4 : Nat → S → Option R_ := H.i P_ [r,r,l,r,d]
def x6 (a : UInt64) : Option R_ := H.e P_ [r,r,r] ⟨[(7, vq a)], [], []⟩
def x4 (b : Int) (f : LB) (g : Int) (a : UInt64) (h : Int) : Option R_ := H.e P_ [r,r,l,r,d] (t4 b f g a h)
theorem e6 : x6 = Ab0 := by kernel_rfl
theorem i4 (b : Int) (f : LB) (g : Int) : ∀ (q : Nat) (a : UInt64) (h : Int), z4 q (t4 b f g a h) = Fo b f g q a h :=
 ind (fun _ _ => by kernel_rfl) fun q ih a h => Eq.trans (b := Ln x6 (fun a h => (z4 q) (t4 b f g a h)) b f g a h) (by kernel_rfl) (by simp only [e6, ih] <;> rfl)
theorem e4 : x4 = Tg := by funext b f g a h; exact Eq.trans (by kernel_rfl) ((i4 b f g Ca a h).trans (by rw [Ak]; rfl))
noncomputable def F (x : LB × Int × Int × Int) := Lj x.1 x.2.1 x.2.2.1 x.2.2.2
theorem rn (x : LB × Int × Int × Int) : H.u P_ x = F x := Eq.trans (b := So x4 x.1 x.2.1 x.2.2.1 x.2.2.2) (by kernel_rfl) (by simp only [e4] <;> rfl)
noncomputable def c : Con := ⟨H.p, H.r, F⟩
theorem ok : ConOk P_ Tryz.gl 237 c := Tryz.co H Tryz.func237 (.cons F175.ok .nil) (by kernel_rfl) rn
end F237
namespace F276
abbrev R_ := (Int × Int)
noncomputable def H : Hd := ⟨[.agg [Sb, Si], Si], [Si, Si], (.seq .d (.seq .d (.cut [1, 2, 6] [] (.blk (.loop [1, 2, 6] [] .d)) .d))), ⟨[(175, F175.c)], Tryz.gl, false⟩, [], Tryz.f276⟩
def t4 (b : Int) (g : LB) (f a : Int) : S := ⟨[(1, vi b), (2, .ptr 0 []), (6, vi a)], [.box 146 (.agg [vb g, vi f])], []⟩
def z4 : Nat → S → Option R_ := H.i P_ [r,r,l,d]
def x6 (b a : Int) (g : LB) (f : Int) : Option R_ := H.e P_ [r,r,r] ⟨[(1, vi b), (2, .ptr 0 []), (6, vi a)], [.box 146 (.agg [vb g, vi f])], []⟩
def x4 (b : Int) (g : LB) (f a : Int) : Option R_ := H.e P_ [r,r,l,d] (t4 b g f a)
theorem e6 : x6 = Oy := by kernel_rfl
theorem i4 (b : Int) (g : LB) (f : Int) : ∀ (q : Nat) (a : Int), z4 q (t4 b g f a) = Hi b g f q a :=
 ind (fun _ => by kernel_rfl) fun q ih a => Eq.trans (b := Pg x6 (fun a => (z4 q) (t4 b g f a)) b g f a) (by kernel_rfl) (by simp only [e6, ih] <;> rfl)
theorem e4 : x4 = Ae3 := by funext b g f a; exact Eq.trans (by kernel_rfl) ((i4 b g f Ca a).trans (by rw [Ak]; rfl))
noncomputable def F (x : LB × Int × Int) := Acs x.1 x.2.1 x.2.2
theorem rn (x : LB × Int × Int) : H.u P_ x = F x := Eq.trans (b := Afa x4 x.1 x.2.1 x.2.2) (by kernel_rfl) (by simp only [e4] <;> rfl)
noncomputable def c : Con := ⟨H.p, H.r, F⟩
theorem ok : ConOk P_ Tryz.gl 276 c := Tryz.co H Tryz.func276 (.cons F175.ok .nil) (by kernel_rfl) rn
end F276
namespace F277
noncomputable def H : Hd := ⟨[Su, Si], [Si], .d, ⟨[(239, F239.c)], Tryz.gl, false⟩, [], Tryz.f277⟩
noncomputable def F (x : UInt32 × Int) := Uj x.1 x.2
theorem rn (x : UInt32 × Int) : H.u P_ x = F x := by kernel_rfl
noncomputable def c : Con := ⟨H.p, H.r, F⟩
theorem ok : ConOk P_ Tryz.gl 277 c := Tryz.co H Tryz.func277 (.cons F239.ok .nil) (by kernel_rfl) rn
end F277
namespace F238
abbrev R_ := (UInt32 × Int × Int)
noncomputable def H : Hd := ⟨[.agg [Sb, Si], Si, Si], [Su, Si, Si], (.seq .d (.seq .d (.seq .d (.seq .d (.cut [2, 3, 9, 10, 11] [] .d .d))))), ⟨[(237, F237.c), (239, F239.c), (276, F276.c), (277, F277.c)], Tryz.gl, false⟩, [], Tryz.f238⟩
def x2 (g a b : Int) (h : LB) (f k : Int) : Option R_ := H.e P_ [r,r,r,r,r] ⟨[(2, vi g), (3, .ptr 0 []), (9, vi a), (10, vi b), (11, vi k)], [.box 146 (.agg [vb h, vi f])], []⟩
theorem e2 : x2 = On := by kernel_rfl
noncomputable def F (x : LB × Int × Int × Int) := We x.1 x.2.1 x.2.2.1 x.2.2.2
theorem rn (x : LB × Int × Int × Int) : H.u P_ x = F x := Eq.trans (b := Wv x2 x.1 x.2.1 x.2.2.1 x.2.2.2) (by kernel_rfl) (by simp only [e2] <;> rfl)
noncomputable def c : Con := ⟨H.p, H.r, F⟩
theorem ok : ConOk P_ Tryz.gl 238 c := Tryz.co H Tryz.func238 (.cons F237.ok (.cons F239.ok (.cons F276.ok (.cons F277.ok .nil)))) (by kernel_rfl) rn
end F238
namespace F174
noncomputable def H : Hd := ⟨[.agg [Sb, Si], Si, .agg [Si, Si, Sq, Sq]], [Su, Si, Si], .d, ⟨[(175, F175.c), (237, F237.c), (238, F238.c), (239, F239.c)], Tryz.gl, false⟩, [], Tryz.f174⟩
noncomputable def F (x : LB × Int × Int × Int × Int × UInt64 × UInt64) := Wp x.1 x.2.1 x.2.2.1 x.2.2.2.1 x.2.2.2.2.1 x.2.2.2.2.2.1 x.2.2.2.2.2.2
theorem rn (x : LB × Int × Int × Int × Int × UInt64 × UInt64) : H.u P_ x = F x := by kernel_rfl
noncomputable def c : Con := ⟨H.p, H.r, F⟩
theorem ok : ConOk P_ Tryz.gl 174 c := Tryz.co H Tryz.func174 (.cons F175.ok (.cons F237.ok (.cons F238.ok (.cons F239.ok .nil)))) (by kernel_rfl) rn
end F174
namespace F111
abbrev R_ := (LU × Int)
abbrev K_ := S → Option R_
noncomputable def H : Hd := ⟨[Si, Si, Sb], [Ov 194, Si], (.seq .d (.seq .d (.seq .d (.seq .d (.cut [8, 9, 10] [] (.seq .d (.blk (.loop [0, 1, 8, 9, 10, 11] [⟨9, [], .own 194 (.int .u32)⟩] (.seq .d (.seq (.blk (.seq .d (.cut [0, 1, 8, 9, 10, 11, 12] [] .d .d))) .d))))) (.seq .d (.cut [9] [] (.blk (.loop [8, 9, 10] [] .d)) .d))))))), ⟨[(171, F171.c), (172, F172.c), (173, F173.c), (174, F174.c), (175, F175.c)], Tryz.gl, false⟩, [], Tryz.f111⟩
def t16 (a : LB) (b : LU) (m : Int) : S := ⟨[(8, .ptr 0 []), (9, .own 1), (10, vi m)], [.box 146 (.agg [vb a, vi (Bo (8 : Int) (Ac a))]), Av 194 b], []⟩
def z16 : Nat → S → Option R_ := H.i P_ [r,r,r,r,r,r,l,d]
def t10 (g h : Int) (a : LB) (f k : Int) (b : LU) : S := ⟨[(0, vi g), (1, vi h), (8, .ptr 0 []), (9, .own 1), (10, vi f), (11, vi k)], [.box 146 (.agg [vb a, vi (Bo (8 : Int) (Ac a))]), Av 194 b], []⟩
def z10 : Nat → S → Option R_ := H.i P_ [r,r,r,r,l,r,d]
def x18 (b : LU) : Option R_ := H.e P_ [r,r,r,r,r,r,r] ⟨[(9, .own 0)], [Av 194 b], []⟩
def x16 (a : LB) (b : LU) (m : Int) : Option R_ := H.e P_ [r,r,r,r,r,r,l,d] (t16 a b m)
def x15 (f : Int) (a : LB) (b : LU) : Option R_ := H.e P_ [r,r,r,r,r] ⟨[(8, .ptr 0 []), (9, .own 1), (10, vi f)], [.box 146 (.agg [vb a, vi (Bo (8 : Int) (Ac a))]), Av 194 b], []⟩
def x13 (kn10 : K_) (g h : Int) (a : LB) (f k : Int) (b : LU) (o p : Int) (u v : UInt64) : Option R_ := H.e P_ [r,r,r,r,l,r,d,(lp kn10),r,l,d,r,r] ⟨[(0, vi g), (1, vi h), (8, .ptr 0 []), (9, .own 1), (10, vi f), (11, vi k), (12, .ptr 2 [])], [.box 146 (.agg [vb a, vi (Bo (8 : Int) (Ac a))]), Av 194 b, .box 208 (.agg [vi o, vi p, vq u, vq v])], []⟩
def x10 (g h : Int) (a : LB) (f k : Int) (b : LU) : Option R_ := H.e P_ [r,r,r,r,l,r,d] (t10 g h a f k b)
theorem e18 : x18 = Aby := by kernel_rfl
theorem i16 (a : LB) (b : LU) : ∀ (q : Nat) (m : Int), z16 q (t16 a b m) = Fh a b q m :=
 ind (fun _ => by kernel_rfl) fun q ih m => Eq.trans (b := Lu x18 (fun m => (z16 q) (t16 a b m)) a b m) (by kernel_rfl) (by simp only [e18, ih] <;> rfl)
theorem e16 : x16 = Ts := by funext a b m; exact Eq.trans (by kernel_rfl) ((i16 a b Ca m).trans (by rw [Ak]; rfl))
theorem e15 : x15 = Ll := Eq.trans (b := Tx x16) (by kernel_rfl) (by simp only [e16] <;> rfl)
theorem e13 (kn10 : K_) (g h : Int) (a : LB) : x13 kn10 g h a = Fm (fun f k b => kn10 (t10 g h a f k b)) g h a := by kernel_rfl
theorem i10 (g h : Int) (a : LB) : ∀ (q : Nat) (f k : Int) (b : LU), z10 q (t10 g h a f k b) = De g h a q f k b :=
 ind (fun _ _ _ => by kernel_rfl) fun q ih f k b => Eq.trans (b := Ty (x13 (z10 q) g h a) x15 g h a f k b) (by kernel_rfl) (by simp only [e13, e15, ih] <;> rfl)
theorem e10 : x10 = Ab4 := by funext g h a f k b; exact Eq.trans (by kernel_rfl) ((i10 g h a Ca f k b).trans (by rw [Ak]; rfl))
noncomputable def F (x : Int × Int × LB) := Uo x.1 x.2.1 x.2.2
theorem rn (x : Int × Int × LB) : H.u P_ x = F x := Eq.trans (b := Vq x10 x.1 x.2.1 x.2.2) (by kernel_rfl) (by simp only [e10] <;> rfl)
noncomputable def c : Con := ⟨H.p, H.r, F⟩
theorem ok : ConOk P_ Tryz.gl 111 c := Tryz.co H Tryz.func111 (.cons F171.ok (.cons F172.ok (.cons F173.ok (.cons F174.ok (.cons F175.ok .nil))))) (by kernel_rfl) rn
end F111
namespace F278
noncomputable def H : Hd := ⟨[Si], [Si, Si], .d, ⟨[], Tryz.gl, false⟩, [], Tryz.f278⟩
noncomputable def F (x : Int) := Af1 x
theorem rn (x : Int) : H.u P_ x = F x := by kernel_rfl
noncomputable def c : Con := ⟨H.p, H.r, F⟩
theorem ok : ConOk P_ Tryz.gl 278 c := Tryz.co H Tryz.func278 .nil (by kernel_rfl) rn
end F278
namespace F240
noncomputable def H : Hd := ⟨[Si, .lf (.vec 16 (.int .i32)) none], [.agg [Si, .lf (.vec 16 (.int .i32)) none, .lf (.vec 16 (.int .i32)) none], Si], .d, ⟨[(278, F278.c)], Tryz.gl, false⟩, [], Tryz.f240⟩
noncomputable def F (x : Int × LX) := Ajj x.1 x.2
theorem rn (x : Int × LX) : H.u P_ x = F x := by kernel_rfl
noncomputable def c : Con := ⟨H.p, H.r, F⟩
theorem ok : ConOk P_ Tryz.gl 240 c := Tryz.co H Tryz.func240 (.cons F278.ok .nil) (by kernel_rfl) rn
end F240
namespace F177
noncomputable def H : Hd := ⟨[Si, .lf (.vec 16 (.int .i32)) none], [.agg [Si, Sx, .agg [Si, .lf (.vec 16 (.int .i32)) none, .lf (.vec 16 (.int .i32)) none]], Si], .d, ⟨[(240, F240.c)], Tryz.gl, false⟩, [], Tryz.f177⟩
noncomputable def F (x : Int × LX) := Acf x.1 x.2
theorem rn (x : Int × LX) : H.u P_ x = F x := by kernel_rfl
noncomputable def c : Con := ⟨H.p, H.r, F⟩
theorem ok : ConOk P_ Tryz.gl 177 c := Tryz.co H Tryz.func177 (.cons F240.ok .nil) (by kernel_rfl) rn
end F177
namespace F179
noncomputable def H : Hd := ⟨[Su], [Sx], .d, ⟨[], Tryz.gl, false⟩, [], Tryz.f179⟩
noncomputable def F (x : UInt32) := Ji x
theorem rn (x : UInt32) : H.u P_ x = F x := by kernel_rfl
noncomputable def c : Con := ⟨H.p, H.r, F⟩
theorem ok : ConOk P_ Tryz.gl 179 c := Tryz.co H Tryz.func179 .nil (by kernel_rfl) rn
end F179
namespace F242
noncomputable def H : Hd := ⟨[Si], [Sx], .d, ⟨[], Tryz.gl, false⟩, [], Tryz.f242⟩
noncomputable def F (x : Int) := Bq x
theorem rn (x : Int) : H.u P_ x = F x := by kernel_rfl
noncomputable def c : Con := ⟨H.p, H.r, F⟩
theorem ok : ConOk P_ Tryz.gl 242 c := Tryz.co H Tryz.func242 .nil (by kernel_rfl) rn
end F242
namespace F299
abbrev R_ := Int32
noncomputable def H : Hd := ⟨[.agg [Si, .lf (.vec 16 (.int .i32)) none, .lf (.vec 16 (.int .i32)) none]], [Sx], (.seq .d (.seq .d (.cut [3] [] (.seq .d (.blk (.loop [1, 3, 4] [] .d))) .d))), ⟨[(242, F242.c)], Tryz.gl, false⟩, [], Tryz.f299⟩
def t4 (h : Int) (f g : LX) (a b : Int) : S := ⟨[(1, .ptr 0 []), (3, vi a), (4, vi b)], [.box 217 (.agg [vi h, .val (.vec 16 (.int .i32)) f, .val (.vec 16 (.int .i32)) g])], []⟩
def z4 : Nat → S → Option R_ := H.i P_ [r,r,l,r,d]
def x6 (a : Int) : Option R_ := H.e P_ [r,r,r] ⟨[(3, vi a)], [], []⟩
def x4 (h : Int) (f g : LX) (a b : Int) : Option R_ := H.e P_ [r,r,l,r,d] (t4 h f g a b)
theorem e6 : x6 = Xi := by kernel_rfl
theorem i4 (h : Int) (f g : LX) : ∀ (q : Nat) (a b : Int), z4 q (t4 h f g a b) = Hh h f g q a b :=
 ind (fun _ _ => by kernel_rfl) fun q ih a b => Eq.trans (b := Ox x6 (fun a b => (z4 q) (t4 h f g a b)) h f g a b) (by kernel_rfl) (by simp only [e6, ih] <;> rfl)
theorem e4 : x4 = Ae2 := by funext h f g a b; exact Eq.trans (by kernel_rfl) ((i4 h f g Ca a b).trans (by rw [Ak]; rfl))
noncomputable def F (x : Int × LX × LX) := Acn x.1 x.2.1 x.2.2
theorem rn (x : Int × LX × LX) : H.u P_ x = F x := Eq.trans (b := Ae9 x4 x.1 x.2.1 x.2.2) (by kernel_rfl) (by simp only [e4] <;> rfl)
noncomputable def c : Con := ⟨H.p, H.r, F⟩
theorem ok : ConOk P_ Tryz.gl 299 c := Tryz.co H Tryz.func299 (.cons F242.ok .nil) (by kernel_rfl) rn
end F299
namespace F279
abbrev R_ := Int32
noncomputable def H : Hd := ⟨[.agg [Si, .lf (.vec 16 (.int .i32)) none, .lf (.vec 16 (.int .i32)) none]], [Sx], (.seq .d (.seq .d (.cut [1, 3] [] .d .d))), ⟨[(242, F242.c), (299, F299.c)], Tryz.gl, false⟩, [], Tryz.f279⟩
def x2 (b : Int) (f g : LX) (a : Int) : Option R_ := H.e P_ [r,r,r] ⟨[(1, .ptr 0 []), (3, vi a)], [.box 217 (.agg [vi b, .val (.vec 16 (.int .i32)) f, .val (.vec 16 (.int .i32)) g])], []⟩
theorem e2 : x2 = Mv := by kernel_rfl
noncomputable def F (x : Int × LX × LX) := Uh x.1 x.2.1 x.2.2
theorem rn (x : Int × LX × LX) : H.u P_ x = F x := Eq.trans (b := Uv x2 x.1 x.2.1 x.2.2) (by kernel_rfl) (by simp only [e2] <;> rfl)
noncomputable def c : Con := ⟨H.p, H.r, F⟩
theorem ok : ConOk P_ Tryz.gl 279 c := Tryz.co H Tryz.func279 (.cons F242.ok (.cons F299.ok .nil)) (by kernel_rfl) rn
end F279
namespace F300
noncomputable def H : Hd := ⟨[Si], [Sx], .d, ⟨[], Tryz.gl, false⟩, [], Tryz.f300⟩
noncomputable def F (x : Int) := Ug x
theorem rn (x : Int) : H.u P_ x = F x := by kernel_rfl
noncomputable def c : Con := ⟨H.p, H.r, F⟩
theorem ok : ConOk P_ Tryz.gl 300 c := Tryz.co H Tryz.func300 .nil (by kernel_rfl) rn
end F300
namespace F301
noncomputable def H : Hd := ⟨[Sx], [Sx], .d, ⟨[], Tryz.gl, false⟩, [], Tryz.f301⟩
noncomputable def F (x : Int32) := Mx x
theorem rn (x : Int32) : H.u P_ x = F x := by kernel_rfl
noncomputable def c : Con := ⟨H.p, H.r, F⟩
theorem ok : ConOk P_ Tryz.gl 301 c := Tryz.co H Tryz.func301 .nil (by kernel_rfl) rn
end F301
namespace F281
abbrev R_ := (Int × LX × LX)
noncomputable def H : Hd := ⟨[.agg [Si, .lf (.vec 16 (.int .i32)) none, .lf (.vec 16 (.int .i32)) none], Sx], [.agg [Si, .lf (.vec 16 (.int .i32)) none, .lf (.vec 16 (.int .i32)) none]], (.seq .d (.cut [2, 4] [] (.seq .d (.blk (.loop [1, 2, 4, 5] [] .d))) .d)), ⟨[(300, F300.c), (301, F301.c)], Tryz.gl, false⟩, [], Tryz.f281⟩
def t4 (h : Int32) (g : Int) (a : LX) (f : Int) (b : LX) : S := ⟨[(1, vx h), (2, .ptr 0 []), (4, .ptr 1 []), (5, vi f)], [.box 217 (.agg [vi g, .val (.vec 16 (.int .i32)) b, .val (.vec 16 (.int .i32)) a]), .box 217 (.agg [vi 0, .val (.vec 16 (.int .i32)) (List.replicate 16 (0 : Int32)), .val (.vec 16 (.int .i32)) (List.replicate 16 (0 : Int32))])], []⟩
def z4 : Nat → S → Option R_ := H.i P_ [r,l,r,d]
def x6 (g : Int) (b a : LX) : Option R_ := H.e P_ [r,r] ⟨[(2, .ptr 0 []), (4, .ptr 1 [])], [.box 217 (.agg [vi g, .val (.vec 16 (.int .i32)) b, .val (.vec 16 (.int .i32)) a]), .box 217 (.agg [vi 0, .val (.vec 16 (.int .i32)) (List.replicate 16 (0 : Int32)), .val (.vec 16 (.int .i32)) (List.replicate 16 (0 : Int32))])], []⟩
def x4 (h : Int32) (g : Int) (a : LX) (f : Int) (b : LX) : Option R_ := H.e P_ [r,l,r,d] (t4 h g a f b)
theorem e6 : x6 = Zg := by kernel_rfl
theorem i4 (h : Int32) (g : Int) (a : LX) : ∀ (q : Nat) (f : Int) (b : LX), z4 q (t4 h g a f b) = Ek h g a q f b :=
 ind (fun _ _ => by kernel_rfl) fun q ih f b => Eq.trans (b := Je x6 (fun f b => (z4 q) (t4 h g a f b)) h g a f b) (by kernel_rfl) (by simp only [e6, ih] <;> rfl)
theorem e4 : x4 = Zp := by funext h g a f b; exact Eq.trans (by kernel_rfl) ((i4 h g a Ca f b).trans (by rw [Ak]; rfl))
noncomputable def F (x : Int × LX × LX × Int32) := Vj x.1 x.2.1 x.2.2.1 x.2.2.2
theorem rn (x : Int × LX × LX × Int32) : H.u P_ x = F x := Eq.trans (b := Zh x4 x.1 x.2.1 x.2.2.1 x.2.2.2) (by kernel_rfl) (by simp only [e4] <;> rfl)
noncomputable def c : Con := ⟨H.p, H.r, F⟩
theorem ok : ConOk P_ Tryz.gl 281 c := Tryz.co H Tryz.func281 (.cons F300.ok (.cons F301.ok .nil)) (by kernel_rfl) rn
end F281
namespace F280
abbrev R_ := (Int × LX × LX)
noncomputable def H : Hd := ⟨[.agg [Si, .lf (.vec 16 (.int .i32)) none, .lf (.vec 16 (.int .i32)) none], Sx], [.agg [Si, .lf (.vec 16 (.int .i32)) none, .lf (.vec 16 (.int .i32)) none]], (.seq .d (.cut [1, 2, 4] [] (.seq .d (.blk (.loop [1, 2, 4, 5] [] .d))) .d)), ⟨[], Tryz.gl, false⟩, [], Tryz.f280⟩
def t4 (b : Int32) (f : Int) (g : LX) (h : Int) (a : LX) : S := ⟨[(1, vx b), (2, .ptr 0 []), (4, .ptr 1 []), (5, vi h)], [.box 217 (.agg [vi f, .val (.vec 16 (.int .i32)) g, .val (.vec 16 (.int .i32)) a]), .box 217 (.agg [vi 0, .val (.vec 16 (.int .i32)) (List.replicate 16 (0 : Int32)), .val (.vec 16 (.int .i32)) (List.replicate 16 (0 : Int32))])], []⟩
def z4 : Nat → S → Option R_ := H.i P_ [r,l,r,d]
def x6 (b : Int32) (f : Int) (g a : LX) : Option R_ := H.e P_ [r,r] ⟨[(1, vx b), (2, .ptr 0 []), (4, .ptr 1 [])], [.box 217 (.agg [vi f, .val (.vec 16 (.int .i32)) g, .val (.vec 16 (.int .i32)) a]), .box 217 (.agg [vi 0, .val (.vec 16 (.int .i32)) (List.replicate 16 (0 : Int32)), .val (.vec 16 (.int .i32)) (List.replicate 16 (0 : Int32))])], []⟩
def x4 (b : Int32) (f : Int) (g : LX) (h : Int) (a : LX) : Option R_ := H.e P_ [r,l,r,d] (t4 b f g h a)
theorem e6 : x6 = Qu := by kernel_rfl
theorem i4 (b : Int32) (f : Int) (g : LX) : ∀ (q : Nat) (h : Int) (a : LX), z4 q (t4 b f g h a) = Eu b f g q h a :=
 ind (fun _ _ => by kernel_rfl) fun q ih h a => Eq.trans (b := Km x6 (fun h a => (z4 q) (t4 b f g h a)) b f g h a) (by kernel_rfl) (by simp only [e6, ih] <;> rfl)
theorem e4 : x4 = Abf := by funext b f g h a; exact Eq.trans (by kernel_rfl) ((i4 b f g Ca h a).trans (by rw [Ak]; rfl))
noncomputable def F (x : Int × LX × LX × Int32) := Wx x.1 x.2.1 x.2.2.1 x.2.2.2
theorem rn (x : Int × LX × LX × Int32) : H.u P_ x = F x := Eq.trans (b := Aad x4 x.1 x.2.1 x.2.2.1 x.2.2.2) (by kernel_rfl) (by simp only [e4] <;> rfl)
noncomputable def c : Con := ⟨H.p, H.r, F⟩
theorem ok : ConOk P_ Tryz.gl 280 c := Tryz.co H Tryz.func280 .nil (by kernel_rfl) rn
end F280
namespace F241
noncomputable def H : Hd := ⟨[.agg [Si, .lf (.vec 16 (.int .i32)) none, .lf (.vec 16 (.int .i32)) none], Sx], [Sx, .agg [Si, .lf (.vec 16 (.int .i32)) none, .lf (.vec 16 (.int .i32)) none]], .d, ⟨[(242, F242.c), (279, F279.c), (280, F280.c), (281, F281.c)], Tryz.gl, false⟩, [], Tryz.f241⟩
noncomputable def F (x : Int × LX × LX × Int32) := Nj x.1 x.2.1 x.2.2.1 x.2.2.2
theorem rn (x : Int × LX × LX × Int32) : H.u P_ x = F x := by kernel_rfl
noncomputable def c : Con := ⟨H.p, H.r, F⟩
theorem ok : ConOk P_ Tryz.gl 241 c := Tryz.co H Tryz.func241 (.cons F242.ok (.cons F279.ok (.cons F280.ok (.cons F281.ok .nil)))) (by kernel_rfl) rn
end F241
namespace F282
abbrev R_ := Int32
noncomputable def H : Hd := ⟨[Si, Sx], [Sx], (.seq .d (.seq .d (.cut [1, 5] [] .d .d))), ⟨[], Tryz.gl, false⟩, [], Tryz.f282⟩
def x2 (b : Int32) (a : Int) : Option R_ := H.e P_ [r,r,r] ⟨[(1, vx b), (5, vi a)], [], []⟩
theorem e2 : x2 = Kh := by kernel_rfl
noncomputable def F (x : Int × Int32) := Jv x.1 x.2
theorem rn (x : Int × Int32) : H.u P_ x = F x := Eq.trans (b := Qy x2 x.1 x.2) (by kernel_rfl) (by simp only [e2] <;> rfl)
noncomputable def c : Con := ⟨H.p, H.r, F⟩
theorem ok : ConOk P_ Tryz.gl 282 c := Tryz.co H Tryz.func282 .nil (by kernel_rfl) rn
end F282
namespace F243
noncomputable def H : Hd := ⟨[.agg [Si, Sx, .agg [Si, .lf (.vec 16 (.int .i32)) none, .lf (.vec 16 (.int .i32)) none]]], [Si], .d, ⟨[(282, F282.c)], Tryz.gl, false⟩, [], Tryz.f243⟩
noncomputable def F (x : Int × Int32 × Int × LX × LX) := Oz x.1 x.2.1 x.2.2.1 x.2.2.2.1 x.2.2.2.2
theorem rn (x : Int × Int32 × Int × LX × LX) : H.u P_ x = F x := by kernel_rfl
noncomputable def c : Con := ⟨H.p, H.r, F⟩
theorem ok : ConOk P_ Tryz.gl 243 c := Tryz.co H Tryz.func243 (.cons F282.ok .nil) (by kernel_rfl) rn
end F243
namespace F178
noncomputable def H : Hd := ⟨[.agg [Si, Sx, .agg [Si, .lf (.vec 16 (.int .i32)) none, .lf (.vec 16 (.int .i32)) none]], Sx], [Sx, .agg [Si, Sx, .agg [Si, .lf (.vec 16 (.int .i32)) none, .lf (.vec 16 (.int .i32)) none]]], .d, ⟨[(241, F241.c), (242, F242.c), (243, F243.c)], Tryz.gl, false⟩, [], Tryz.f178⟩
noncomputable def F (x : Int × Int32 × Int × LX × LX × Int32) := Gj x.1 x.2.1 x.2.2.1 x.2.2.2.1 x.2.2.2.2.1 x.2.2.2.2.2
theorem rn (x : Int × Int32 × Int × LX × LX × Int32) : H.u P_ x = F x := by kernel_rfl
noncomputable def c : Con := ⟨H.p, H.r, F⟩
theorem ok : ConOk P_ Tryz.gl 178 c := Tryz.co H Tryz.func178 (.cons F241.ok (.cons F242.ok (.cons F243.ok .nil))) (by kernel_rfl) rn
end F178
namespace F244
noncomputable def H : Hd := ⟨[Si, Sw], [Si], .d, ⟨[], Tryz.gl, false⟩, [], Tryz.f244⟩
noncomputable def F (x : Int × LX) := Kx x.1 x.2
theorem rn (x : Int × LX) : H.u P_ x = F x := by kernel_rfl
noncomputable def c : Con := ⟨H.p, H.r, F⟩
theorem ok : ConOk P_ Tryz.gl 244 c := Tryz.co H Tryz.func244 .nil (by kernel_rfl) rn
end F244
namespace F245
abbrev R_ := LX
noncomputable def H : Hd := ⟨[Sw], [Ow 21], (.seq .d (.seq .d (.seq .d (.seq .d (.cut [0, 3, 4] [] .d (.cut [4] [] (.seq .d (.blk (.loop [0, 4, 5] [] .d))) .d)))))), ⟨[(242, F242.c)], Tryz.gl, false⟩, [], Tryz.f245⟩
def t6 (a : LX) (f : Int) (b : LX) : S := ⟨[(0, vw a), (4, .own 0), (5, vi f)], [Aw 21 b], []⟩
def z6 : Nat → S → Option R_ := H.i P_ [r,r,r,r,r,l,r,d]
def x8 (b : LX) : Option R_ := H.e P_ [r,r,r,r,r,r] ⟨[(4, .own 0)], [Aw 21 b], []⟩
def x6 (a : LX) (f : Int) (b : LX) : Option R_ := H.e P_ [r,r,r,r,r,l,r,d] (t6 a f b)
def x5 (a g : LX) : Option R_ := H.e P_ [r,r,r,r,r] ⟨[(0, vw a), (3, vi (Ac a)), (4, .own 0)], [Aw 21 g], []⟩
theorem e8 : x8 = Zd := by kernel_rfl
theorem i6 (a : LX) : ∀ (q : Nat) (f : Int) (b : LX), z6 q (t6 a f b) = Ej a q f b :=
 ind (fun _ _ => by kernel_rfl) fun q ih f b => Eq.trans (b := Jl x8 (fun f b => (z6 q) (t6 a f b)) a f b) (by kernel_rfl) (by simp only [e8, ih] <;> rfl)
theorem e6 : x6 = Yz := by funext a f b; exact Eq.trans (by kernel_rfl) ((i6 a Ca f b).trans (by rw [Ak]; rfl))
theorem e5 : x5 = Jf := Eq.trans (b := Qj x6) (by kernel_rfl) (by simp only [e6] <;> rfl)
noncomputable def F (x : LX) := Mw x
theorem rn (x : LX) : H.u P_ x = F x := Eq.trans (b := Pp x5 x) (by kernel_rfl) (by simp only [e5] <;> rfl)
noncomputable def c : Con := ⟨H.p, H.r, F⟩
theorem ok : ConOk P_ Tryz.gl 245 c := Tryz.co H Tryz.func245 (.cons F242.ok .nil) (by kernel_rfl) rn
end F245
namespace F180
abbrev R_ := (LX × Int)
noncomputable def H : Hd := ⟨[Si, Sw], [Ow 21, Si], (.seq .d (.seq .d (.seq .d (.cut [6] [] (.seq .d (.blk (.loop [0, 1, 6, 7] [⟨6, [], .own 21 (.int .i32)⟩] .d))) .d)))), ⟨[(244, F244.c), (245, F245.c)], Tryz.gl, false⟩, [], Tryz.f180⟩
def t4 (a : Int) (b : LX) (g : Int) (f : LX) : S := ⟨[(0, vi a), (1, vw b), (6, .own 0), (7, vi g)], [Aw 21 f], []⟩
def z4 : Nat → S → Option R_ := H.i P_ [r,r,r,l,r,d]
def x6 (f : LX) : Option R_ := H.e P_ [r,r,r,r] ⟨[(6, .own 0)], [Aw 21 f], []⟩
def x4 (a : Int) (b : LX) (g : Int) (f : LX) : Option R_ := H.e P_ [r,r,r,l,r,d] (t4 a b g f)
theorem e6 : x6 = Ad2 := by kernel_rfl
theorem i4 (a : Int) (b : LX) : ∀ (q : Nat) (g : Int) (f : LX), z4 q (t4 a b g f) = Ja a b q g f :=
 ind (fun _ _ => by kernel_rfl) fun q ih g f => Eq.trans (b := Uy x6 (fun g f => (z4 q) (t4 a b g f)) a b g f) (by kernel_rfl) (by simp only [e6, ih] <;> rfl)
theorem e4 : x4 = Adz := by funext a b g f; exact Eq.trans (by kernel_rfl) ((i4 a b Ca g f).trans (by rw [Ak]; rfl))
noncomputable def F (x : Int × LX) := Ui x.1 x.2
theorem rn (x : Int × LX) : H.u P_ x = F x := Eq.trans (b := Vu x4 x.1 x.2) (by kernel_rfl) (by simp only [e4] <;> rfl)
noncomputable def c : Con := ⟨H.p, H.r, F⟩
theorem ok : ConOk P_ Tryz.gl 180 c := Tryz.co H Tryz.func180 (.cons F244.ok (.cons F245.ok .nil)) (by kernel_rfl) rn
end F180
namespace F113
def Ok (j29 : Int → Int32 → LX → Int → Int32 → Int → LX → LX → Int → Int32 → Int → LX → LX → Option (LX)) (j32 : Int → LX → Option (LX)) (b : LU) (a f : Int) (g : LX) (h k : Int) (m : LX) (n : Int) (o : Int32) (p : Int) (u v : LX) : Option (LX) :=
if (Dg k (Ac b)) then
(Aj b k).bind fun ah =>
both (
(Ji ah).bind fun ag =>
(fun ap : Option (LX) =>
bo (
ap)) (
(Gj n o p u v ag).bind fun (ae, y, aa, ab, ac, ad) =>
j29 k ae m n o p u v y aa ab ac ad)) [
(Ji ah).bind fun ag =>
(Gj n o p u v ag).bind fun (ae, y, aa, ab, ac, ad) =>
j29 k ae m n o p u v y aa ab ac ad]
else
j32 h m
theorem Afm : @Ok = @Jh := by
  unfold Ok Jh
  try simp only [Alv, Aez, Aex]
  all_goals
    repeat (refine funext fun _ => ?_)
    repeat' first
      | with_reducible rfl
      | with_reducible refine Hw ?_ ?_
      | with_reducible refine Ic ?_ ?_ ?_
      | with_reducible refine Hy ?_ ?_ ?_ ?_
      | ((with_reducible refine Md ?_ ?_); focus (intro h; first | (subst h; rfl) | (simp only [h]; rfl) | (simp [Gc, Ac, h]; done)))
      | with_reducible refine Lk fun x => ?_
      | with_reducible refine Te (fun _ => ?_) (fun _ => ?_)
      | (refine Ea (fun h => by simp only [h, Mc, Ct, Cp, ite_self]) (fun x h => ?_); (try simp only [h, Ct]))
      | (refine Fl (fun h => ?_) (fun h => ?_) <;> simp only [h, if_true, if_false, Bool.false_eq_true])
abbrev R_ := LX
abbrev K_ := S → Option R_
noncomputable def H : Hd := ⟨[.agg [Si, Si], .lf (.vec 16 (.int .i32)) none, Sv], [Ow 21], (.seq .d (.seq .d (.cut [3, 7] [] (.seq .d (.blk (.loop [2, 3, 4, 7, 8] [] (.seq .d (.cut [2, 3, 4, 7, 8] [] (.blk (.seq .d (.seq .d (.blk (.loop [2, 3, 4, 7, 8, 9, 11] [] (.seq .d (.cut [2, 3, 4, 7, 8, 9, 11] [] (.blk (.cut [2, 3, 4, 7, 8, 9, 11, 12, 13] [] .d .d)) .d))))))) .d))))) .d))), ⟨[(177, F177.c), (178, F178.c), (179, F179.c), (180, F180.c)], Tryz.gl, false⟩, [], Tryz.f113⟩
def t26 (b : LU) (a f : Int) (g : LX) (h k : Int) (m : LX) (n : Int) (o : Int32) (p : Int) (u v : LX) : S := ⟨[(2, vv b), (3, .ptr 0 []), (4, .ptr 1 []), (7, .own 2), (8, vi h), (9, .ptr 3 []), (11, vi k)], [.box 64 (.agg [vi a, vi f]), .box 95 (.val (.vec 16 (.int .i32)) g), Aw 21 m, .box 219 (.agg [vi n, vx o, .agg [vi p, .val (.vec 16 (.int .i32)) u, .val (.vec 16 (.int .i32)) v]])], []⟩
def z26 (kn18 : K_) : Nat → S → Option R_ := H.i P_ [r,r,l,r,d,(lp kn18),r,l,d,r,r,d]
def t18 (b : LU) (a f : Int) (g : LX) (h : Int) (w : LX) : S := ⟨[(2, vv b), (3, .ptr 0 []), (4, .ptr 1 []), (7, .own 2), (8, vi h)], [.box 64 (.agg [vi a, vi f]), .box 95 (.val (.vec 16 (.int .i32)) g), Aw 21 w], []⟩
def z18 : Nat → S → Option R_ := H.i P_ [r,r,l,r,d]
def x34 (a f : Int) (w : LX) : Option R_ := H.e P_ [r,r,r] ⟨[(3, .ptr 0 []), (7, .own 1)], [.box 64 (.agg [vi a, vi f]), Aw 21 w], []⟩
def x32 (kn18 : K_) (b : LU) (a f : Int) (g : LX) (h : Int) (m : LX) : Option R_ := H.e P_ [r,r,l,r,d,(lp kn18),r,r] ⟨[(2, vv b), (3, .ptr 0 []), (4, .ptr 1 []), (7, .own 2), (8, vi h)], [.box 64 (.agg [vi a, vi f]), .box 95 (.val (.vec 16 (.int .i32)) g), Aw 21 m], []⟩
def x30 (kn18 kn26 : K_) (b : LU) (h a f : Int) (g : LX) (k : Int) (af : LX) (y : Int) (aa : Int32) (ab : Int) (ac ad : LX) : Option R_ := H.e P_ [r,r,l,r,d,(lp kn18),r,l,d,r,r,d,(lp kn26),r,r] ⟨[(2, vv b), (3, .ptr 0 []), (4, .ptr 1 []), (7, .own 2), (8, vi h), (9, .ptr 3 []), (11, vi k)], [.box 64 (.agg [vi a, vi f]), .box 95 (.val (.vec 16 (.int .i32)) g), Aw 21 af, .box 219 (.agg [vi y, vx aa, .agg [vi ab, .val (.vec 16 (.int .i32)) ac, .val (.vec 16 (.int .i32)) ad]])], []⟩
def x29 (kn18 kn26 : K_) (b : LU) (h a f : Int) (g : LX) (k : Int) (ae : Int32) (m : LX) (n : Int) (o : Int32) (p : Int) (u v : LX) (y : Int) (aa : Int32) (ab : Int) (ac ad : LX) : Option R_ := H.e P_ [r,r,l,r,d,(lp kn18),r,l,d,r,r,d,(lp kn26),r,l,d,r] ⟨[(2, vv b), (3, .ptr 0 []), (4, .ptr 1 []), (7, .own 2), (8, vi h), (9, .ptr 3 []), (11, vi k), (12, vx ae), (13, .ptr 4 [])], [.box 64 (.agg [vi a, vi f]), .box 95 (.val (.vec 16 (.int .i32)) g), Aw 21 m, .box 219 (.agg [vi n, vx o, .agg [vi p, .val (.vec 16 (.int .i32)) u, .val (.vec 16 (.int .i32)) v]]), .box 219 (.agg [vi y, vx aa, .agg [vi ab, .val (.vec 16 (.int .i32)) ac, .val (.vec 16 (.int .i32)) ad]])], []⟩
def x26 (kn18 : K_) (b : LU) (a f : Int) (g : LX) (h k : Int) (m : LX) (n : Int) (o : Int32) (p : Int) (u v : LX) : Option R_ := H.e P_ [r,r,l,r,d,(lp kn18),r,l,d,r,r,d] (t26 b a f g h k m n o p u v)
def x18 (b : LU) (a f : Int) (g : LX) (h : Int) (w : LX) : Option R_ := H.e P_ [r,r,l,r,d] (t18 b a f g h w)
theorem e34 : x34 = Jn := by kernel_rfl
theorem e32 (kn18 : K_) (b : LU) (a f : Int) (g : LX) : x32 kn18 b a f g = Qa (fun h w => kn18 (t18 b a f g h w)) b a f g := by kernel_rfl
theorem e30 (kn18 kn26 : K_) (b : LU) (a f : Int) (g : LX) (h : Int) : x30 kn18 kn26 b h a f g = Qc (fun k m n o p u v => kn26 (t26 b a f g h k m n o p u v)) b h a f g := by kernel_rfl
theorem e29 (kn18 kn26 : K_) (b : LU) (a f : Int) (g : LX) (h : Int) : x29 kn18 kn26 b h a f g = Qg (fun k m n o p u v => kn26 (t26 b a f g h k m n o p u v)) b h a f g := Eq.trans (b := Qe (x30 kn18 kn26 b h a f g) b h a f g) (by kernel_rfl) (by simp only [e30] <;> rfl)
theorem i26 (kn18 : K_) (b : LU) (a f : Int) (g : LX) (h : Int) : ∀ (q : Nat) (k : Int) (m : LX) (n : Int) (o : Int32) (p : Int) (u v : LX), z26 kn18 q (t26 b a f g h k m n o p u v) = Gm (fun h w => kn18 (t18 b a f g h w)) b a f g h q k m n o p u v :=
 ind (fun _ _ _ _ _ _ _ => by kernel_rfl) fun q ih k m n o p u v => Eq.trans (b := Ok (x29 kn18 (z26 kn18 q) b h a f g) (x32 kn18 b a f g) b a f g h k m n o p u v) (by kernel_rfl) (by rw [Afm]; simp only [e29, e32, ih] <;> rfl)
theorem e26 (kn18 : K_) (b : LU) (a f : Int) (g : LX) : x26 kn18 b a f g = Pv (fun h w => kn18 (t18 b a f g h w)) b a f g := by funext h k m n o p u v; exact Eq.trans (by kernel_rfl) ((i26 kn18 b a f g h Ca k m n o p u v).trans (by rw [Ak]; rfl))
theorem i18 (b : LU) (a f : Int) (g : LX) : ∀ (q : Nat) (h : Int) (w : LX), z18 q (t18 b a f g h w) = Dh b a f g q h w :=
 ind (fun _ _ => by kernel_rfl) fun q ih h w => Eq.trans (b := Jd (x26 (z18 q) b a f g) x34 b a f g h w) (by kernel_rfl) (by simp only [e26, e34, ih] <;> rfl)
theorem e18 : x18 = Pm := by funext b a f g h w; exact Eq.trans (by kernel_rfl) ((i18 b a f g Ca h w).trans (by rw [Ak]; rfl))
noncomputable def F (x : Int × Int × LX × LU) := Hk x.1 x.2.1 x.2.2.1 x.2.2.2
theorem rn (x : Int × Int × LX × LU) : H.u P_ x = F x := Eq.trans (b := Rg x18 x.1 x.2.1 x.2.2.1 x.2.2.2) (by kernel_rfl) (by simp only [e18] <;> rfl)
noncomputable def c : Con := ⟨H.p, H.r, F⟩
theorem ok : ConOk P_ Tryz.gl 113 c := Tryz.co H Tryz.func113 (.cons F177.ok (.cons F178.ok (.cons F179.ok (.cons F180.ok .nil)))) (by kernel_rfl) rn
end F113
namespace F176
abbrev R_ := Int
noncomputable def H : Hd := ⟨[Si, Sw], [Si], (.seq .d (.seq .d (.seq .d (.seq .d (.cut [] [] (.seq .d (.blk (.loop [1, 5, 6] [] .d))) .d))))), ⟨[(234, F234.c)], Tryz.gl, false⟩, [], Tryz.f176⟩
def t4 (a : LX) (b f : Int) : S := ⟨[(1, vw a), (5, vi b), (6, vi f)], [], []⟩
def z4 : Nat → S → Option R_ := H.i P_ [r,r,r,r,l,r,d]
def x6 : Option R_ := H.e P_ [r,r,r,r,r] ⟨[], [], []⟩
def x4 (a : LX) (b f : Int) : Option R_ := H.e P_ [r,r,r,r,l,r,d] (t4 a b f)
theorem e6 : x6 = Abv := by kernel_rfl
theorem i4 (a : LX) (b : Int) : ∀ (q : Nat) (f : Int), z4 q (t4 a b f) = Bh a b q f :=
 ind (fun _ => by kernel_rfl) fun q ih f => Eq.trans (b := Df x6 (fun f => (z4 q) (t4 a b f)) a b f) (by kernel_rfl) (by simp only [e6, ih] <;> rfl)
theorem e4 : x4 = Ab9 := by funext a b f; exact Eq.trans (by kernel_rfl) ((i4 a b Ca f).trans (by rw [Ak]; rfl))
noncomputable def F (x : Int × LX) := Bi x.1 x.2
theorem rn (x : Int × LX) : H.u P_ x = F x := Eq.trans (b := Fi x4 x.1 x.2) (by kernel_rfl) (by simp only [e4] <;> rfl)
noncomputable def c : Con := ⟨H.p, H.r, F⟩
theorem ok : ConOk P_ Tryz.gl 176 c := Tryz.co H Tryz.func176 (.cons F234.ok .nil) (by kernel_rfl) rn
end F176
namespace F112
noncomputable def H : Hd := ⟨[.agg [Si, Si], Sw], [Sw, Si], .d, ⟨[(176, F176.c)], Tryz.gl, false⟩, [], Tryz.f112⟩
noncomputable def F (x : Int × Int × LX) := Jz x.1 x.2.1 x.2.2
theorem rn (x : Int × Int × LX) : H.u P_ x = F x := by kernel_rfl
noncomputable def c : Con := ⟨H.p, H.r, F⟩
theorem ok : ConOk P_ Tryz.gl 112 c := Tryz.co H Tryz.func112 (.cons F176.ok .nil) (by kernel_rfl) rn
end F112
namespace F62
def Qd (f a b : Int) (g : LX) (h : LU) : Option (LX × Int) :=
if (Cm f 0) then
some (([] : LX), f)
else
(fun u : Option (LX × Int) =>
(fun v : Option (LX × Int) =>
(fun w : Option (LX × Int) =>
both (
v) [
w,
w]) (
both (
u) [
v])) (
bo (
u))) (
(Hk a b g h).bind fun m =>
(Jz a b m).bind fun (n, o) =>
some (n, o))
theorem Agq : @Qd = @Ds := by
  unfold Qd Ds
  try simp only [Alv, Aez, Aex]
  all_goals
    repeat (refine funext fun _ => ?_)
    repeat' first
      | with_reducible rfl
      | with_reducible refine Hw ?_ ?_
      | with_reducible refine Ic ?_ ?_ ?_
      | with_reducible refine Hy ?_ ?_ ?_ ?_
      | ((with_reducible refine Md ?_ ?_); focus (intro h; first | (subst h; rfl) | (simp only [h]; rfl) | (simp [Gc, Ac, h]; done)))
      | with_reducible refine Lk fun x => ?_
      | with_reducible refine Te (fun _ => ?_) (fun _ => ?_)
      | (refine Ea (fun h => by simp only [h, Mc, Ct, Cp, ite_self]) (fun x h => ?_); (try simp only [h, Ct]))
      | (refine Fl (fun h => ?_) (fun h => ?_) <;> simp only [h, if_true, if_false, Bool.false_eq_true])
abbrev R_ := (LX × Int)
noncomputable def H : Hd := ⟨[.agg [Si, Si], .lf (.vec 16 (.int .i32)) none, Si, Sb], [Sw, Si], (.seq .d (.seq .d (.seq .d (.cut [4, 5, 10, 11] [] .d (.seq .d (.seq (.mode false) .d)))))), ⟨[(109, F109.c), (110, F110.c), (111, F111.c), (112, F112.c), (113, F113.c)], Tryz.gl, false⟩, [], Tryz.f62⟩
def x2 (f a b : Int) (g : LX) (h : LU) : Option R_ := H.e P_ [r,r,r,r] ⟨[(4, .ptr 0 []), (5, .ptr 1 []), (10, .own 2), (11, vi f)], [.box 64 (.agg [vi a, vi b]), .box 95 (.val (.vec 16 (.int .i32)) g), Av 194 h], []⟩
theorem e2 : x2 = Ew := Eq.trans (b := Qd) (by kernel_rfl) (by rw [Agq]; rfl)
noncomputable def F (x : Int × Int × LX × Int × LB) := Hl x.1 x.2.1 x.2.2.1 x.2.2.2.1 x.2.2.2.2
theorem rn (x : Int × Int × LX × Int × LB) : H.u P_ x = F x := Eq.trans (b := Kj x2 x.1 x.2.1 x.2.2.1 x.2.2.2.1 x.2.2.2.2) (by kernel_rfl) (by simp only [e2] <;> rfl)
noncomputable def c : Con := ⟨H.p, H.r, F⟩
theorem ok : ConOk P_ Tryz.gl 62 c := Tryz.co H Tryz.func62 (.cons F109.ok (.cons F110.ok (.cons F111.ok (.cons F112.ok (.cons F113.ok .nil))))) (by kernel_rfl) rn
end F62
namespace F198
abbrev R_ := LB
noncomputable def H : Hd := ⟨[Si, Sx], [Ob 5], (.seq .d (.seq .d (.seq .d (.cut [0, 5] [] .d .d)))), ⟨[(234, F234.c)], Tryz.gl, false⟩, [], Tryz.f198⟩
def x2 (a b : Int) : Option R_ := H.e P_ [r,r,r,r] ⟨[(0, vi a), (5, vi b)], [], []⟩
theorem e2 : x2 = Hm := by kernel_rfl
noncomputable def F (x : Int × Int32) := Wo x.1 x.2
theorem rn (x : Int × Int32) : H.u P_ x = F x := Eq.trans (b := Xd x2 x.1 x.2) (by kernel_rfl) (by simp only [e2] <;> rfl)
noncomputable def c : Con := ⟨H.p, H.r, F⟩
theorem ok : ConOk P_ Tryz.gl 198 c := Tryz.co H Tryz.func198 (.cons F234.ok .nil) (by kernel_rfl) rn
end F198
namespace F137
abbrev R_ := (LB × Int)
noncomputable def H : Hd := ⟨[Si, Sw], [Ob 5, Si], (.seq .d (.seq .d (.seq .d (.cut [6] [] (.seq .d (.blk (.loop [0, 1, 6, 7] [⟨6, [], .own 5 (.int .u8)⟩] .d))) .d)))), ⟨[(176, F176.c), (198, F198.c)], Tryz.gl, false⟩, [], Tryz.f137⟩
def t4 (f : Int) (a : LX) (g : Int) (b : LB) : S := ⟨[(0, vi f), (1, vw a), (6, .own 0), (7, vi g)], [Ab 5 b], []⟩
def z4 : Nat → S → Option R_ := H.i P_ [r,r,r,l,r,d]
def x6 (b : LB) : Option R_ := H.e P_ [r,r,r,r] ⟨[(6, .own 0)], [Ab 5 b], []⟩
def x4 (f : Int) (a : LX) (g : Int) (b : LB) : Option R_ := H.e P_ [r,r,r,l,r,d] (t4 f a g b)
theorem e6 : x6 = Ab1 := by kernel_rfl
theorem i4 (f : Int) (a : LX) : ∀ (q : Nat) (g : Int) (b : LB), z4 q (t4 f a g b) = Fp f a q g b :=
 ind (fun _ _ => by kernel_rfl) fun q ih g b => Eq.trans (b := Me x6 (fun g b => (z4 q) (t4 f a g b)) f a g b) (by kernel_rfl) (by simp only [e6, ih] <;> rfl)
theorem e4 : x4 = Aca := by funext f a g b; exact Eq.trans (by kernel_rfl) ((i4 f a Ca g b).trans (by rw [Ak]; rfl))
noncomputable def F (x : Int × LX) := Qt x.1 x.2
theorem rn (x : Int × LX) : H.u P_ x = F x := Eq.trans (b := Th x4 x.1 x.2) (by kernel_rfl) (by simp only [e4] <;> rfl)
noncomputable def c : Con := ⟨H.p, H.r, F⟩
theorem ok : ConOk P_ Tryz.gl 137 c := Tryz.co H Tryz.func137 (.cons F176.ok (.cons F198.ok .nil)) (by kernel_rfl) rn
end F137
namespace F87
abbrev R_ := (LB × Int)
noncomputable def H : Hd := ⟨[.agg [Ss, Sb, .agg [Si, Si, Si, Si, Si], Sl, Si, Sb, Sz, Si]], [Ob 5, Si], (.seq .d (.seq .d (.seq .d (.seq .d (.cut [1, 7, 8] [] .d .d))))), ⟨[(61, F61.c), (62, F62.c), (83, F83.c), (135, F135.c), (137, F137.c)], Tryz.gl, false⟩, [], Tryz.f87⟩
def x2 (o : LX) (f : Int) (p g : LB) (h k a m n : Int) (u : LI) (b : Int) (v : LB) (w : Bool) (y : Int) : Option R_ := H.e P_ [r,r,r,r,r] ⟨[(1, .ptr 0 []), (7, vw o), (8, vi f)], [.box 28 (.agg [vs p, vb g, .agg [vi h, vi k, vi a, vi m, vi n], vl u, vi b, vb v, vt w, vi y])], []⟩
theorem e2 : x2 = Rl := by kernel_rfl
noncomputable def F (x : LB × LB × Int × Int × Int × Int × Int × LI × Int × LB × Bool × Int) := Pc x.1 x.2.1 x.2.2.1 x.2.2.2.1 x.2.2.2.2.1 x.2.2.2.2.2.1 x.2.2.2.2.2.2.1 x.2.2.2.2.2.2.2.1 x.2.2.2.2.2.2.2.2.1 x.2.2.2.2.2.2.2.2.2.1 x.2.2.2.2.2.2.2.2.2.2.1 x.2.2.2.2.2.2.2.2.2.2.2
theorem rn (x : LB × LB × Int × Int × Int × Int × Int × LI × Int × LB × Bool × Int) : H.u P_ x = F x := Eq.trans (b := Rf x2 x.1 x.2.1 x.2.2.1 x.2.2.2.1 x.2.2.2.2.1 x.2.2.2.2.2.1 x.2.2.2.2.2.2.1 x.2.2.2.2.2.2.2.1 x.2.2.2.2.2.2.2.2.1 x.2.2.2.2.2.2.2.2.2.1 x.2.2.2.2.2.2.2.2.2.2.1 x.2.2.2.2.2.2.2.2.2.2.2) (by kernel_rfl) (by simp only [e2] <;> rfl)
noncomputable def c : Con := ⟨H.p, H.r, F⟩
theorem ok : ConOk P_ Tryz.gl 87 c := Tryz.co H Tryz.func87 (.cons F61.ok (.cons F62.ok (.cons F83.ok (.cons F135.ok (.cons F137.ok .nil))))) (by kernel_rfl) rn
end F87
namespace F45
def Tl (g a : LB) (m o p u v : Int) (b : LI) (f : Int) (n : LB) (h : Bool) (k : Int) : Option (LB × LB × Int × Int × Int × Int × Int × LI × Int × LB × Bool × Int × Int) :=
if (geq (Ac b) 0) then
(Pb a m o p u v g).bind fun (ag, ak, w) =>
if (Cm w 0) then
some (g, a, m, o, p, u, v, b, f, n, h, k, w)
else
(Bs a ag (Ac a)).bind fun al =>
some (g, al, m, o, p, u, v, ak, f, n, h, k, 0)
else
if (geq f (Ac b)) then
if (Ga (Ac a) 4000) then
some (g, a, m, o, p, u, v, b, f, n, h, k, 38)
else
some (g, a, m, o, p, u, v, b, f, n, h, k, (-1 : Int))
else
(Pc g a m o p u v b f n h k).bind fun (am, y) =>
if (Cm y 0) then
some (g, a, m, o, p, u, v, b, f, n, h, k, y)
else
(Gc ([] : LB) n).bind fun an =>
(Gc an am).bind fun ah =>
(fun aj : Option (LB × LB × Int × Int × Int × Int × Int × LI × Int × LB × Bool × Int × Int) =>
(fun ap : Option (LB × LB × Int × Int × Int × Int × Int × LI × Int × LB × Bool × Int × Int) =>
(fun ao : Option (LB × LB × Int × Int × Int × Int × Int × LI × Int × LB × Bool × Int × Int) =>
(fun aq : Option (LB × LB × Int × Int × Int × Int × Int × LI × Int × LB × Bool × Int × Int) =>
(fun ar : Option (LB × LB × Int × Int × Int × Int × Int × LI × Int × LB × Bool × Int × Int) =>
(fun au : Option (LB × LB × Int × Int × Int × Int × Int × LI × Int × LB × Bool × Int × Int) =>
both (
both (
aq) [
aq,
au]) [
ap,
ap,
both (
au) [
ar,
ar]]) (
bo (
ao))) (
both (
ao) [
aj])) (
both (
aj) [
ao])) (
(Aj b f).bind fun ad =>
(Bs a ad (Ac a)).bind fun ae =>
some (g, ae, m, o, p, u, v, b, (Af f 1), ah, h, k, 0))) (
(fun av : Option (LB × LB × Int × Int × Int × Int × Int × LI × Int × LB × Bool × Int × Int) =>
both (
both (
aj) [
av]) [
(Aj b f).bind fun ad =>
(fun ax : Option (LB × LB × Int × Int × Int × Int × Int × LI × Int × LB × Bool × Int × Int) =>
(fun ay : Option (LB × LB × Int × Int × Int × Int × Int × LI × Int × LB × Bool × Int × Int) =>
bo2 (
ay)) (
bo (
ax))) (
(Bs a ad (Ac a)).bind fun ae =>
some (g, ae, m, o, p, u, v, b, (Af f 1), ah, h, k, 0)),
both (
av) [
aj]]) (
(Aj b f).bind fun ad =>
(Bs a ad (Ac a)).bind fun ae =>
some (g, ae, m, o, p, u, v, b, (Af f 1), ah, h, k, 0)))) (
(Aj b f).bind fun ad =>
(fun az : Option (LB × LB × Int × Int × Int × Int × Int × LI × Int × LB × Bool × Int × Int) =>
bo (
az)) (
(Bs a ad (Ac a)).bind fun ae =>
some (g, ae, m, o, p, u, v, b, (Af f 1), ah, h, k, 0)))
theorem Aie : @Tl = @Iz := by
  unfold Tl Iz
  try simp only [Alv, Aez, Aex]
  all_goals
    repeat (refine funext fun _ => ?_)
    repeat' first
      | with_reducible rfl
      | with_reducible refine Hw ?_ ?_
      | with_reducible refine Ic ?_ ?_ ?_
      | with_reducible refine Hy ?_ ?_ ?_ ?_
      | ((with_reducible refine Md ?_ ?_); focus (intro h; first | (subst h; rfl) | (simp only [h]; rfl) | (simp [Gc, Ac, h]; done)))
      | with_reducible refine Lk fun x => ?_
      | with_reducible refine Te (fun _ => ?_) (fun _ => ?_)
      | (refine Ea (fun h => by simp only [h, Mc, Ct, Cp, ite_self]) (fun x h => ?_); (try simp only [h, Ct]))
      | (refine Fl (fun h => ?_) (fun h => ?_) <;> simp only [h, if_true, if_false, Bool.false_eq_true])
def Ti (j3 : LB → LB → Int → Int → Int → Int → Int → LI → Int → LB → Bool → Int → Option (LB × LB × Int × Int × Int × Int × Int × LI × Int × LB × Bool × Int × Int)) (j4 : LB → LB → Int → Int → Int → Int → Int → LI → Int → LB → Bool → Int → Option (LB × LB × Int × Int × Int × Int × Int × LI × Int × LB × Bool × Int × Int)) (g a : LB) (m o p u v : Int) (b : LI) (f : Int) (n : LB) (h : Bool) (k : Int) : Option (LB × LB × Int × Int × Int × Int × Int × LI × Int × LB × Bool × Int × Int) :=
if (geq m 0) then
(Iw a).bind fun (ag, aa, w, ab, ac, y, ai) =>
if (Cm ai 0) then
some (g, a, m, o, p, u, v, b, f, n, h, k, ai)
else
both (
(Bs a ag (Ac a)).bind fun af =>
bo (
j3 g af aa w ab ac y b f n h k)) [
(Bs a ag (Ac a)).bind fun af =>
j3 g af aa w ab ac y b f n h k]
else
j4 g a m o p u v b f n h k
theorem Aip : @Ti = @Gp := by
  unfold Ti Gp
  repeat (refine funext fun _ => ?_)
  repeat' first
    | with_reducible rfl
    | with_reducible refine Hw ?_ ?_
    | with_reducible refine Ic ?_ ?_ ?_
    | with_reducible refine Hy ?_ ?_ ?_ ?_
    | ((with_reducible refine Md ?_ ?_); focus (intro h; first | (subst h; rfl) | (simp only [h]; rfl) | (simp [Gc, Ac, h]; done)))
    | with_reducible refine Lk fun x => ?_
    | with_reducible refine Te (fun _ => ?_) (fun _ => ?_)
    | (refine Ea (fun h => by simp only [h, Mc, Ct, Cp, ite_self]) (fun x h => ?_); (try simp only [h, Ct]))
    | (refine Fl (fun h => ?_) (fun h => ?_) <;> simp only [h, if_true, if_false, Bool.false_eq_true])
abbrev R_ := (LB × LB × Int × Int × Int × Int × Int × LI × Int × LB × Bool × Int × Int)
noncomputable def H : Hd := ⟨[.agg [Ss, Sb, .agg [Si, Si, Si, Si, Si], Sl, Si, Sb, Sz, Si]], [.agg [Ss, Sb, .agg [Si, Si, Si, Si, Si], Sl, Si, Sb, Sz, Si], Si], (.seq .d (.cut [1, 2] [] (.seq .d (.cond (.seq .d (.seq .d (.cut [1, 2, 5] [] (.mode false) .d))) .d)) (.seq .d (.seq .d (.seq .d (.seq .d (.seq .d (.seq (.mode false) .d)))))))), ⟨[(81, F81.c), (85, F85.c), (86, F86.c), (87, F87.c)], Tryz.gl, false⟩, [], Tryz.f45⟩
def x4 (g a : LB) (m o p u v : Int) (b : LI) (f : Int) (n : LB) (h : Bool) (k : Int) : Option R_ := H.e P_ [r,r] ⟨[(1, .ptr 0 []), (2, .ptr 1 [])], [.box 28 (.agg [vs g, vb a, .agg [vi m, vi o, vi p, vi u, vi v], vl b, vi f, vb n, vt h, vi k]), .box 28 (.agg [vs ([] : LB), .nils, .agg [vi 0, vi 0, vi 0, vi 0, vi 0], .nils, vi 0, .nils, vt false, vi 0])], []⟩
def x3 (g af : LB) (aa w ab ac y : Int) (b : LI) (f : Int) (n : LB) (h : Bool) (k : Int) : Option R_ := H.e P_ [r,l,r,l,r,r,r] ⟨[(1, .ptr 0 []), (2, .ptr 1 []), (5, .ptr 2 [])], [.box 28 (.agg [vs g, vb af, .agg [vi aa, vi w, vi ab, vi ac, vi y], vl b, vi f, vb n, vt h, vi k]), .box 28 (.agg [vs ([] : LB), .nils, .agg [vi 0, vi 0, vi 0, vi 0, vi 0], .nils, vi 0, .nils, vt false, vi 0]), .box 24 (.agg [vi aa, vi w, vi ab, vi ac, vi y])], []⟩
theorem e4 : x4 = Nk := Eq.trans (b := Tl) (by kernel_rfl) (by rw [Aie]; rfl)
theorem e3 : x3 = Vo := by kernel_rfl
noncomputable def F (x : LB × LB × Int × Int × Int × Int × Int × LI × Int × LB × Bool × Int) := Cb x.1 x.2.1 x.2.2.1 x.2.2.2.1 x.2.2.2.2.1 x.2.2.2.2.2.1 x.2.2.2.2.2.2.1 x.2.2.2.2.2.2.2.1 x.2.2.2.2.2.2.2.2.1 x.2.2.2.2.2.2.2.2.2.1 x.2.2.2.2.2.2.2.2.2.2.1 x.2.2.2.2.2.2.2.2.2.2.2
theorem rn (x : LB × LB × Int × Int × Int × Int × Int × LI × Int × LB × Bool × Int) : H.u P_ x = F x := Eq.trans (b := Ti x3 x4 x.1 x.2.1 x.2.2.1 x.2.2.2.1 x.2.2.2.2.1 x.2.2.2.2.2.1 x.2.2.2.2.2.2.1 x.2.2.2.2.2.2.2.1 x.2.2.2.2.2.2.2.2.1 x.2.2.2.2.2.2.2.2.2.1 x.2.2.2.2.2.2.2.2.2.2.1 x.2.2.2.2.2.2.2.2.2.2.2) (by kernel_rfl) (by rw [Aip]; simp only [e3, e4] <;> rfl)
noncomputable def c : Con := ⟨H.p, H.r, F⟩
theorem ok : ConOk P_ Tryz.gl 45 c := Tryz.co H Tryz.func45 (.cons F81.ok (.cons F85.ok (.cons F86.ok (.cons F87.ok .nil)))) (by kernel_rfl) rn
end F45
namespace F39
abbrev R_ := Bool
noncomputable def H : Hd := ⟨[.agg [Ss, Sb, .agg [Si, Si, Si, Si, Si], Sl, Si, Sb, Sz, Si]], [Sz], (.seq .d (.cut [1] [] (.seq .d (.cond .d (.cut [1] [] .d .d))) .d)), ⟨[(45, F45.c), (80, F80.c), (81, F81.c), (82, F82.c), (83, F83.c), (84, F84.c)], Tryz.gl, false⟩, [], Tryz.f39⟩
def x4 (o p : LB) (b f g h k : Int) (m : LI) (a : Int) (n : LB) (u : Bool) (v : Int) : Option R_ := H.e P_ [r,r] ⟨[(1, .ptr 0 [])], [.box 28 (.agg [vs o, vb p, .agg [vi b, vi f, vi g, vi h, vi k], vl m, vi a, vb n, vt u, vi v])], []⟩
def x3 (o p : LB) (b f g h k : Int) (m : LI) (a : Int) (n : LB) (u : Bool) (v : Int) : Option R_ := H.e P_ [r,l,r,r,r] ⟨[(1, .ptr 0 [])], [.box 28 (.agg [vs o, vb p, .agg [vi b, vi f, vi g, vi h, vi k], vl m, vi a, vb n, vt u, vi v])], []⟩
theorem e4 : x4 = Bp := by kernel_rfl
theorem e3 : x3 = Td := Eq.trans (b := Tj x4) (by kernel_rfl) (by simp only [e4] <;> rfl)
noncomputable def F (x : LB × LB × Int × Int × Int × Int × Int × LI × Int × LB × Bool × Int) := Lc x.1 x.2.1 x.2.2.1 x.2.2.2.1 x.2.2.2.2.1 x.2.2.2.2.2.1 x.2.2.2.2.2.2.1 x.2.2.2.2.2.2.2.1 x.2.2.2.2.2.2.2.2.1 x.2.2.2.2.2.2.2.2.2.1 x.2.2.2.2.2.2.2.2.2.2.1 x.2.2.2.2.2.2.2.2.2.2.2
theorem rn (x : LB × LB × Int × Int × Int × Int × Int × LI × Int × LB × Bool × Int) : H.u P_ x = F x := Eq.trans (b := To x4 x3 x.1 x.2.1 x.2.2.1 x.2.2.2.1 x.2.2.2.2.1 x.2.2.2.2.2.1 x.2.2.2.2.2.2.1 x.2.2.2.2.2.2.2.1 x.2.2.2.2.2.2.2.2.1 x.2.2.2.2.2.2.2.2.2.1 x.2.2.2.2.2.2.2.2.2.2.1 x.2.2.2.2.2.2.2.2.2.2.2) (by kernel_rfl) (by simp only [e4, e3] <;> rfl)
noncomputable def c : Con := ⟨H.p, H.r, F⟩
theorem ok : ConOk P_ Tryz.gl 39 c := Tryz.co H Tryz.func39 (.cons F45.ok (.cons F80.ok (.cons F81.ok (.cons F82.ok (.cons F83.ok (.cons F84.ok .nil)))))) (by kernel_rfl) rn
end F39
namespace F40
noncomputable def H : Hd := ⟨[Si], [Sz], .d, ⟨[], Tryz.gl, false⟩, [], Tryz.f40⟩
noncomputable def F (x : Int) := Ng x
theorem rn (x : Int) : H.u P_ x = F x := by kernel_rfl
noncomputable def c : Con := ⟨H.p, H.r, F⟩
theorem ok : ConOk P_ Tryz.gl 40 c := Tryz.co H Tryz.func40 .nil (by kernel_rfl) rn
end F40
namespace F11
noncomputable def H : Hd := ⟨[.agg [Ss, Sb, .agg [Si, Si, Si, Si, Si], Sl, Si, Sb, Sz, Si]], [Si], .d, ⟨[(39, F39.c), (40, F40.c)], Tryz.gl, false⟩, [], Tryz.f11⟩
noncomputable def F (x : LB × LB × Int × Int × Int × Int × Int × LI × Int × LB × Bool × Int) := Qx x.1 x.2.1 x.2.2.1 x.2.2.2.1 x.2.2.2.2.1 x.2.2.2.2.2.1 x.2.2.2.2.2.2.1 x.2.2.2.2.2.2.2.1 x.2.2.2.2.2.2.2.2.1 x.2.2.2.2.2.2.2.2.2.1 x.2.2.2.2.2.2.2.2.2.2.1 x.2.2.2.2.2.2.2.2.2.2.2
theorem rn (x : LB × LB × Int × Int × Int × Int × Int × LI × Int × LB × Bool × Int) : H.u P_ x = F x := by kernel_rfl
noncomputable def c : Con := ⟨H.p, H.r, F⟩
theorem ok : ConOk P_ Tryz.gl 11 c := Tryz.co H Tryz.func11 (.cons F39.ok (.cons F40.ok .nil)) (by kernel_rfl) rn
end F11
namespace F41
abbrev R_ := Bool
noncomputable def H : Hd := ⟨[Sl, Sl], [Sz], (.seq .d (.seq .d (.cut [] [] (.seq .d (.blk (.loop [0, 1, 5] [] .d))) .d))), ⟨[], Tryz.gl, false⟩, [], Tryz.f41⟩
def t4 (a b : LI) (f : Int) : S := ⟨[(0, vl a), (1, vl b), (5, vi f)], [], []⟩
def z4 : Nat → S → Option R_ := H.i P_ [r,r,l,r,d]
def x6 : Option R_ := H.e P_ [r,r,r] ⟨[], [], []⟩
def x4 (a b : LI) (f : Int) : Option R_ := H.e P_ [r,r,l,r,d] (t4 a b f)
theorem e6 : x6 = Xn := by kernel_rfl
theorem i4 (a b : LI) : ∀ (q : Nat) (f : Int), z4 q (t4 a b f) = It a b q f :=
 ind (fun _ => by kernel_rfl) fun q ih f => Eq.trans (b := Ny x6 (fun f => (z4 q) (t4 a b f)) a b f) (by kernel_rfl) (by simp only [e6, ih] <;> rfl)
theorem e4 : x4 = Og := by funext a b f; exact Eq.trans (by kernel_rfl) ((i4 a b Ca f).trans (by rw [Ak]; rfl))
noncomputable def F (x : LI × LI) := Lm x.1 x.2
theorem rn (x : LI × LI) : H.u P_ x = F x := Eq.trans (b := Ns x4 x.1 x.2) (by kernel_rfl) (by simp only [e4] <;> rfl)
noncomputable def c : Con := ⟨H.p, H.r, F⟩
theorem ok : ConOk P_ Tryz.gl 41 c := Tryz.co H Tryz.func41 .nil (by kernel_rfl) rn
end F41
namespace F12
noncomputable def H : Hd := ⟨[.agg [Ss, Sb, .agg [Si, Si, Si, Si, Si], Sl, Si, Sb, Sz, Si], .agg [Ss, Sb, .agg [Si, Si, Si, Si, Si], Sl, Si, Sb, Sz, Si]], [Sz], .d, ⟨[(41, F41.c)], Tryz.gl, false⟩, [], Tryz.f12⟩
noncomputable def F (x : LB × LB × Int × Int × Int × Int × Int × LI × Int × LB × Bool × Int × LB × LB × Int × Int × Int × Int × Int × LI × Int × LB × Bool × Int) := Ue x.1 x.2.1 x.2.2.1 x.2.2.2.1 x.2.2.2.2.1 x.2.2.2.2.2.1 x.2.2.2.2.2.2.1 x.2.2.2.2.2.2.2.1 x.2.2.2.2.2.2.2.2.1 x.2.2.2.2.2.2.2.2.2.1 x.2.2.2.2.2.2.2.2.2.2.1 x.2.2.2.2.2.2.2.2.2.2.2.1 x.2.2.2.2.2.2.2.2.2.2.2.2.1 x.2.2.2.2.2.2.2.2.2.2.2.2.2.1 x.2.2.2.2.2.2.2.2.2.2.2.2.2.2.1 x.2.2.2.2.2.2.2.2.2.2.2.2.2.2.2.1 x.2.2.2.2.2.2.2.2.2.2.2.2.2.2.2.2.1 x.2.2.2.2.2.2.2.2.2.2.2.2.2.2.2.2.2.1 x.2.2.2.2.2.2.2.2.2.2.2.2.2.2.2.2.2.2.1 x.2.2.2.2.2.2.2.2.2.2.2.2.2.2.2.2.2.2.2.1 x.2.2.2.2.2.2.2.2.2.2.2.2.2.2.2.2.2.2.2.2.1 x.2.2.2.2.2.2.2.2.2.2.2.2.2.2.2.2.2.2.2.2.2.1 x.2.2.2.2.2.2.2.2.2.2.2.2.2.2.2.2.2.2.2.2.2.2.1 x.2.2.2.2.2.2.2.2.2.2.2.2.2.2.2.2.2.2.2.2.2.2.2
theorem rn (x : LB × LB × Int × Int × Int × Int × Int × LI × Int × LB × Bool × Int × LB × LB × Int × Int × Int × Int × Int × LI × Int × LB × Bool × Int) : H.u P_ x = F x := by kernel_rfl
noncomputable def c : Con := ⟨H.p, H.r, F⟩
theorem ok : ConOk P_ Tryz.gl 12 c := Tryz.co H Tryz.func12 (.cons F41.ok .nil) (by kernel_rfl) rn
end F12
namespace F3
noncomputable def H : Hd := ⟨[.agg [Ss, Sb, .agg [Si, Si, Si, Si, Si], Sl, Si, Sb, Sz, Si], Ss], [Sz], .d, ⟨[(7, F7.c), (8, F8.c), (9, F9.c), (10, F10.c), (11, F11.c), (12, F12.c)], Tryz.gl_0_1_2_6, false⟩, [], Tryz.f3⟩
noncomputable def F (x : LB × LB × Int × Int × Int × Int × Int × LI × Int × LB × Bool × Int × LB) := Kw x.1 x.2.1 x.2.2.1 x.2.2.2.1 x.2.2.2.2.1 x.2.2.2.2.2.1 x.2.2.2.2.2.2.1 x.2.2.2.2.2.2.2.1 x.2.2.2.2.2.2.2.2.1 x.2.2.2.2.2.2.2.2.2.1 x.2.2.2.2.2.2.2.2.2.2.1 x.2.2.2.2.2.2.2.2.2.2.2.1 x.2.2.2.2.2.2.2.2.2.2.2.2
theorem rn (x : LB × LB × Int × Int × Int × Int × Int × LI × Int × LB × Bool × Int × LB) : H.u P_ x = F x := by kernel_rfl
noncomputable def c : Con := ⟨H.p, H.r, F⟩
theorem ok : ConOk P_ Tryz.gl_0_1_2_6 3 c := Tryz.co H Tryz.func3 (.cons (F7.ok.mono (.cons _ (.cons _ (.cons _ (.cons _ .slnil))))) (.cons (F8.ok.mono (.cons _ (.cons _ (.cons _ (.cons _ .slnil))))) (.cons (F9.ok.mono (.cons _ (.cons _ (.cons _ (.cons _ .slnil))))) (.cons F10.ok (.cons (F11.ok.mono (.cons _ (.cons _ (.cons _ (.cons _ .slnil))))) (.cons (F12.ok.mono (.cons _ (.cons _ (.cons _ (.cons _ .slnil))))) .nil)))))) (by kernel_rfl) rn
end F3
end
end Go.Proofs.YtnoflhhhiiaclaaGreatDoor
