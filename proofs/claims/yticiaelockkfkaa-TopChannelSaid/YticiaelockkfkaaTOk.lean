/- A part of the proof of a statement of this seat (see the text that ends in Proof): TOk. No conditions of its own. -/
import Derived.Test.YticiaelockkfkaaRxB
import Derived.Test.YticiaelockkfkaaTPure
import Derived.Test.YticiaelockkfkaaProg
import Derived.KernelRfl
set_option linter.unusedVariables false
set_option linter.unusedSimpArgs false
set_option maxRecDepth 10000
namespace Go.Proofs.Yticiaelockkfkaa
open Go Go.Lv Go.Pl Go.Rx
def Try.gl : List (Nat × List Value) := []
theorem Try.mixed : Try.prog.follows .mixedOrders = true := by kernel_rfl
theorem Try.ent3 : Ent Try.prog 3 := Ent.mk Try.func3 (by kernel_rfl) rfl
theorem Try.ent4 : Ent Try.prog 4 := Ent.mk Try.func4 (by kernel_rfl) rfl
theorem Try.ent5 : Ent Try.prog 5 := Ent.mk Try.func5 (by kernel_rfl) rfl
theorem Try.ent6 : Ent Try.prog 6 := Ent.mk Try.func6 (by kernel_rfl) rfl
theorem Try.ent7 : Ent Try.prog 7 := Ent.mk Try.func7 (by kernel_rfl) rfl
theorem Try.ent8 : Ent Try.prog 8 := Ent.mk Try.func8 (by kernel_rfl) rfl
theorem Try.ent9 : Ent Try.prog 9 := Ent.mk Try.func9 (by kernel_rfl) rfl
theorem Try.ent10 : Ent Try.prog 10 := Ent.mk Try.func10 (by kernel_rfl) rfl
theorem Try.ent11 : Ent Try.prog 11 := Ent.mk Try.func11 (by kernel_rfl) rfl
theorem Try.ent12 : Ent Try.prog 12 := Ent.mk Try.func12 (by kernel_rfl) rfl
theorem Try.ent13 : Ent Try.prog 13 := Ent.mk Try.func13 (by kernel_rfl) rfl
theorem Try.ent14 : Ent Try.prog 14 := Ent.mk Try.func14 (by kernel_rfl) rfl
theorem Try.ent15 : Ent Try.prog 15 := Ent.mk Try.func15 (by kernel_rfl) rfl
theorem Try.ent16 : Ent Try.prog 16 := Ent.mk Try.func16 (by kernel_rfl) rfl
theorem Try.ent17 : Ent Try.prog 17 := Ent.mk Try.func17 (by kernel_rfl) rfl
theorem Try.ent18 : Ent Try.prog 18 := Ent.mk Try.func18 (by kernel_rfl) rfl
theorem Try.ent19 : Ent Try.prog 19 := Ent.mk Try.func19 (by kernel_rfl) rfl
theorem Try.ent20 : Ent Try.prog 20 := Ent.mk Try.func20 (by kernel_rfl) rfl
theorem Try.ent21 : Ent Try.prog 21 := Ent.mk Try.func21 (by kernel_rfl) rfl
theorem Try.ent22 : Ent Try.prog 22 := Ent.mk Try.func22 (by kernel_rfl) rfl
theorem Try.ent23 : Ent Try.prog 23 := Ent.mk Try.func23 (by kernel_rfl) rfl
theorem Try.ent24 : Ent Try.prog 24 := Ent.mk Try.func24 (by kernel_rfl) rfl
theorem Try.ent25 : Ent Try.prog 25 := Ent.mk Try.func25 (by kernel_rfl) rfl
theorem Try.ent26 : Ent Try.prog 26 := Ent.mk Try.func26 (by kernel_rfl) rfl
theorem Try.ent27 : Ent Try.prog 27 := Ent.mk Try.func27 (by kernel_rfl) rfl
theorem Try.ent28 : Ent Try.prog 28 := Ent.mk Try.func28 (by kernel_rfl) rfl
theorem Try.ent29 : Ent Try.prog 29 := Ent.mk Try.func29 (by kernel_rfl) rfl
theorem Try.ent30 : Ent Try.prog 30 := Ent.mk Try.func30 (by kernel_rfl) rfl
theorem Try.ent31 : Ent Try.prog 31 := Ent.mk Try.func31 (by kernel_rfl) rfl
theorem Try.ent32 : Ent Try.prog 32 := Ent.mk Try.func32 (by kernel_rfl) rfl
theorem Try.ent33 : Ent Try.prog 33 := Ent.mk Try.func33 (by kernel_rfl) rfl
theorem Try.ent34 : Ent Try.prog 34 := Ent.mk Try.func34 (by kernel_rfl) rfl
theorem Try.ent35 : Ent Try.prog 35 := Ent.mk Try.func35 (by kernel_rfl) rfl
theorem Try.ent36 : Ent Try.prog 36 := Ent.mk Try.func36 (by kernel_rfl) rfl
theorem Try.ent37 : Ent Try.prog 37 := Ent.mk Try.func37 (by kernel_rfl) rfl
theorem Try.ent38 : Ent Try.prog 38 := Ent.mk Try.func38 (by kernel_rfl) rfl
theorem Try.ent39 : Ent Try.prog 39 := Ent.mk Try.func39 (by kernel_rfl) rfl
theorem Try.ent40 : Ent Try.prog 40 := Ent.mk Try.func40 (by kernel_rfl) rfl
theorem Try.ent41 : Ent Try.prog 41 := Ent.mk Try.func41 (by kernel_rfl) rfl
theorem Try.ent42 : Ent Try.prog 42 := Ent.mk Try.func42 (by kernel_rfl) rfl
theorem Try.ent43 : Ent Try.prog 43 := Ent.mk Try.func43 (by kernel_rfl) rfl
theorem Try.ent44 : Ent Try.prog 44 := Ent.mk Try.func44 (by kernel_rfl) rfl
theorem Try.ent45 : Ent Try.prog 45 := Ent.mk Try.func45 (by kernel_rfl) rfl
theorem Try.ent46 : Ent Try.prog 46 := Ent.mk Try.func46 (by kernel_rfl) rfl
def width_Range_ps : List Sh := [.lf (.int .i64) none]
def width_Range_rs : List Sh := [.lf (.int .i32) none, .lf (.int .i32) none, .lf (.int .i64) none]
def width_Range_an : An := (.seq .d (.seq (.seq .d (.blk (.cut [0, 7] [] .d .d))) .d))
def width_Range_T : Tab := ⟨[], Try.gl, false⟩
def width_Range_ans : List (Nat × An) := []
noncomputable def width_Range_pt (l : List (PS ((Int32 × Int32 × Int)))) : Pt ((Int32 × Int32 × Int)) := Pt.at (R := (Int32 × Int32 × Int)) Try.prog width_Range_T width_Range_ans (Pt.root Try.prog Try.f19 width_Range_an width_Range_rs) l
def width_Range_t2 (bits_1 : Int) (x_t1 : Bool) : S := ⟨[(0, .val (.int .i64) bits_1), (7, .val .bool x_t1)], [], []⟩
theorem width_Range_e2 (bits_1 : Int) (x_t1 : Bool) : (width_Range_pt [.r, .l, .r, .d, .r]).e Try.prog width_Range_T width_Range_ans (width_Range_t2 bits_1 x_t1) = width_Range_p2 bits_1 x_t1 := by kernel_rfl
theorem width_Range_run (x : Int) : run Try.prog width_Range_T width_Range_ans Try.f19 width_Range_an width_Range_ps width_Range_rs x = width_Range x := by
  refine Eq.trans (b := width_Range_s0 (fun (bits_1 : Int) (x_t1 : Bool) => (width_Range_pt [.r, .l, .r, .d, .r]).e Try.prog width_Range_T width_Range_ans (width_Range_t2 bits_1 x_t1)) x) (by kernel_rfl) ?_
  have h2 : (fun (bits_1 : Int) (x_t1 : Bool) => (width_Range_pt [.r, .l, .r, .d, .r]).e Try.prog width_Range_T width_Range_ans (width_Range_t2 bits_1 x_t1)) = (width_Range_p2) := funext fun bits_1 => funext fun x_t1 => width_Range_e2 bits_1 x_t1
  rw [h2]
  rfl
def width_Range_c : Con := ⟨width_Range_ps, width_Range_rs, fun x => width_Range x⟩
theorem width_Range_ok : ConOk Try.prog Try.gl 19 width_Range_c := con_of_run (T := width_Range_T) Try.mixed Try.func19 Try.ent19 TabOk.nil AnsOk.nil (by kernel_rfl) width_Range_run
def width_Samples_ps : List Sh := [.lf (.int .i64) none, .lf (.list (.int .u8)) none]
def width_Samples_rs : List Sh := [.lf (.list (.int .i32)) (some 21), .lf (.int .i64) none]
def width_Samples_an : An := (.seq .d (.seq .d (.seq .d (.seq .d (.seq .d (.seq .d (.cut [10] [] (.seq .d (.blk (.loop [0, 1, 9, 10, 11] [⟨10, [], .own 21 (.int .i32)⟩] (.seq .d (.cut [0, 1, 9, 10, 11] [] (.blk (.seq .d (.seq .d (.cut [0, 1, 9, 10, 11, 12] [] (.seq .d (.blk (.loop [0, 1, 9, 10, 11, 12, 53, 54] [] .d))) .d)))) .d))))) .d)))))))
def width_Samples_T : Tab := ⟨[(19, width_Range_c)], Try.gl, false⟩
def width_Samples_ans : List (Nat × An) := []
noncomputable def width_Samples_pt (l : List (PS (((List Int32) × Int)))) : Pt (((List Int32) × Int)) := Pt.at (R := ((List Int32) × Int)) Try.prog width_Samples_T width_Samples_ans (Pt.root Try.prog Try.f5 width_Samples_an width_Samples_rs) l
def width_Samples_t30 (x_t8 : List Int32) : S := ⟨[(10, .own 0)], [.arr 21 (.int .i32) x_t8], []⟩
def width_Samples_t28 (bits_1 : Int) (b_2 : List UInt8) (at_t7 : Int) (l_t11 : List Int32) : S := ⟨[(0, .val (.int .i64) bits_1), (1, .val (.list (.int .u8)) b_2), (9, .val (.int .i64) (gquo bits_1 (8 : Int))), (10, .own 0), (11, .val (.int .i64) at_t7)], [.arr 21 (.int .i32) l_t11], []⟩
def width_Samples_t27 (bits_1 : Int) (b_2 : List UInt8) (at_t7 : Int) (x_t9 : Int32) (x_t8 : List Int32) : S := ⟨[(0, .val (.int .i64) bits_1), (1, .val (.list (.int .u8)) b_2), (9, .val (.int .i64) (gquo bits_1 (8 : Int))), (10, .own 0), (11, .val (.int .i64) at_t7), (12, .val (.int .i32) x_t9)], [.arr 21 (.int .i32) x_t8], []⟩
def width_Samples_t25 (bits_1 : Int) (b_2 : List UInt8) (at_t7 : Int) (x_t8 : List Int32) (x_t9 : Int32) (x_t10 : Int) : S := ⟨[(0, .val (.int .i64) bits_1), (1, .val (.list (.int .u8)) b_2), (9, .val (.int .i64) (gquo bits_1 (8 : Int))), (10, .own 0), (11, .val (.int .i64) at_t7), (12, .val (.int .i32) x_t9), (53, .val (.int .i64) (gquo bits_1 (8 : Int))), (54, .val (.int .i64) x_t10)], [.arr 21 (.int .i32) x_t8], []⟩
def width_Samples_t16 (bits_1 : Int) (b_2 : List UInt8) (at_t7 : Int) (x_t8 : List Int32) : S := ⟨[(0, .val (.int .i64) bits_1), (1, .val (.list (.int .u8)) b_2), (9, .val (.int .i64) (gquo bits_1 (8 : Int))), (10, .own 0), (11, .val (.int .i64) at_t7)], [.arr 21 (.int .i32) x_t8], []⟩
theorem width_Samples_e30 (x_t8 : List Int32) : (width_Samples_pt [.r, .r, .r, .r, .r, .r, .r]).e Try.prog width_Samples_T width_Samples_ans (width_Samples_t30 x_t8) = width_Samples_p30 x_t8 := by kernel_rfl
theorem width_Samples_e28 (kn16 : S → Option (((List Int32) × Int))) (bits_1 : Int) (b_2 : List UInt8) (at_t7 : Int) (l_t11 : List Int32) : (width_Samples_pt [.r, .r, .r, .r, .r, .r, .l, .r, .d, (.lp kn16), .r, .r]).e Try.prog width_Samples_T width_Samples_ans (width_Samples_t28 bits_1 b_2 at_t7 l_t11) = width_Samples_p28 (fun at_t7 x_t8 => kn16 (width_Samples_t16 bits_1 b_2 at_t7 x_t8)) bits_1 b_2 at_t7 l_t11 := by kernel_rfl
theorem width_Samples_e27 (kn16 : S → Option (((List Int32) × Int))) (bits_1 : Int) (b_2 : List UInt8) (at_t7 : Int) (x_t9 : Int32) (x_t8 : List Int32) : (width_Samples_pt [.r, .r, .r, .r, .r, .r, .l, .r, .d, (.lp kn16), .r, .l, .d, .r, .r, .r]).e Try.prog width_Samples_T width_Samples_ans (width_Samples_t27 bits_1 b_2 at_t7 x_t9 x_t8) = width_Samples_p27 (fun at_t7 x_t8 => kn16 (width_Samples_t16 bits_1 b_2 at_t7 x_t8)) bits_1 b_2 at_t7 x_t9 x_t8 := by
  refine Eq.trans (b := width_Samples_s27 (fun (at_t7 : Int) (l_t11 : List Int32) => (width_Samples_pt [.r, .r, .r, .r, .r, .r, .l, .r, .d, (.lp kn16), .r, .r]).e Try.prog width_Samples_T width_Samples_ans (width_Samples_t28 bits_1 b_2 at_t7 l_t11)) bits_1 b_2 at_t7 x_t9 x_t8) (by kernel_rfl) ?_
  have h28 : (fun (at_t7 : Int) (l_t11 : List Int32) => (width_Samples_pt [.r, .r, .r, .r, .r, .r, .l, .r, .d, (.lp kn16), .r, .r]).e Try.prog width_Samples_T width_Samples_ans (width_Samples_t28 bits_1 b_2 at_t7 l_t11)) = (width_Samples_p28 (fun at_t7 x_t8 => kn16 (width_Samples_t16 bits_1 b_2 at_t7 x_t8)) bits_1 b_2) := funext fun at_t7 => funext fun l_t11 => width_Samples_e28 kn16 bits_1 b_2 at_t7 l_t11
  rw [h28]
  rfl
theorem width_Samples_i25 (kn16 : S → Option (((List Int32) × Int))) (bits_1 : Int) (b_2 : List UInt8) (at_t7 : Int) (x_t8 : List Int32) : ∀ (q : Nat) (x_t9 : Int32) (x_t10 : Int), (width_Samples_pt [.r, .r, .r, .r, .r, .r, .l, .r, .d, (.lp kn16), .r, .l, .d, .r, .r, .l, .r, .d]).it Try.prog width_Samples_T width_Samples_ans q (width_Samples_t25 bits_1 b_2 at_t7 x_t8 x_t9 x_t10) = width_Samples_l25 (fun at_t7 x_t8 => kn16 (width_Samples_t16 bits_1 b_2 at_t7 x_t8)) bits_1 b_2 at_t7 x_t8 q x_t9 x_t10 := by
  intro q
  induction q with
  | zero => intros; rfl
  | succ q ih =>
    intro x_t9 x_t10
    refine Eq.trans (b := width_Samples_s25 (fun (at_t7 : Int) (x_t9 : Int32) (x_t8 : List Int32) => (width_Samples_pt [.r, .r, .r, .r, .r, .r, .l, .r, .d, (.lp kn16), .r, .l, .d, .r, .r, .r]).e Try.prog width_Samples_T width_Samples_ans (width_Samples_t27 bits_1 b_2 at_t7 x_t9 x_t8)) (fun (x_t9 : Int32) (x_t10 : Int) => (width_Samples_pt [.r, .r, .r, .r, .r, .r, .l, .r, .d, (.lp kn16), .r, .l, .d, .r, .r, .l, .r, .d]).it Try.prog width_Samples_T width_Samples_ans q (width_Samples_t25 bits_1 b_2 at_t7 x_t8 x_t9 x_t10)) bits_1 b_2 at_t7 x_t8 x_t9 x_t10) (by kernel_rfl) ?_
    have h27 : (fun (at_t7 : Int) (x_t9 : Int32) (x_t8 : List Int32) => (width_Samples_pt [.r, .r, .r, .r, .r, .r, .l, .r, .d, (.lp kn16), .r, .l, .d, .r, .r, .r]).e Try.prog width_Samples_T width_Samples_ans (width_Samples_t27 bits_1 b_2 at_t7 x_t9 x_t8)) = (width_Samples_p27 (fun at_t7 x_t8 => kn16 (width_Samples_t16 bits_1 b_2 at_t7 x_t8)) bits_1 b_2) := funext fun at_t7 => funext fun x_t9 => funext fun x_t8 => width_Samples_e27 kn16 bits_1 b_2 at_t7 x_t9 x_t8
    have hq : (fun (x_t9 : Int32) (x_t10 : Int) => (width_Samples_pt [.r, .r, .r, .r, .r, .r, .l, .r, .d, (.lp kn16), .r, .l, .d, .r, .r, .l, .r, .d]).it Try.prog width_Samples_T width_Samples_ans q (width_Samples_t25 bits_1 b_2 at_t7 x_t8 x_t9 x_t10)) = (width_Samples_l25 (fun at_t7 x_t8 => kn16 (width_Samples_t16 bits_1 b_2 at_t7 x_t8)) bits_1 b_2 at_t7 x_t8 q) := funext fun x_t9 => funext fun x_t10 => ih x_t9 x_t10
    rw [h27, hq]
    rfl
theorem width_Samples_e25 (kn16 : S → Option (((List Int32) × Int))) (bits_1 : Int) (b_2 : List UInt8) (at_t7 : Int) (x_t8 : List Int32) (x_t9 : Int32) (x_t10 : Int) : (width_Samples_pt [.r, .r, .r, .r, .r, .r, .l, .r, .d, (.lp kn16), .r, .l, .d, .r, .r, .l, .r, .d]).e Try.prog width_Samples_T width_Samples_ans (width_Samples_t25 bits_1 b_2 at_t7 x_t8 x_t9 x_t10) = width_Samples_p25 (fun at_t7 x_t8 => kn16 (width_Samples_t16 bits_1 b_2 at_t7 x_t8)) bits_1 b_2 at_t7 x_t8 x_t9 x_t10 := Eq.trans (b := (width_Samples_pt [.r, .r, .r, .r, .r, .r, .l, .r, .d, (.lp kn16), .r, .l, .d, .r, .r, .l, .r, .d]).it Try.prog width_Samples_T width_Samples_ans FUELx (width_Samples_t25 bits_1 b_2 at_t7 x_t8 x_t9 x_t10)) (by kernel_rfl) (Eq.trans (width_Samples_i25 kn16 bits_1 b_2 at_t7 x_t8 FUELx x_t9 x_t10) (congrArg (fun q => width_Samples_l25 (fun at_t7 x_t8 => kn16 (width_Samples_t16 bits_1 b_2 at_t7 x_t8)) bits_1 b_2 at_t7 x_t8 q x_t9 x_t10) FUELx_eq))
theorem width_Samples_i16 (bits_1 : Int) (b_2 : List UInt8) : ∀ (q : Nat) (at_t7 : Int) (x_t8 : List Int32), (width_Samples_pt [.r, .r, .r, .r, .r, .r, .l, .r, .d]).it Try.prog width_Samples_T width_Samples_ans q (width_Samples_t16 bits_1 b_2 at_t7 x_t8) = width_Samples_l16 bits_1 b_2 q at_t7 x_t8 := by
  intro q
  induction q with
  | zero => intros; rfl
  | succ q ih =>
    intro at_t7 x_t8
    refine Eq.trans (b := width_Samples_s16 (fun (at_t7 : Int) (l_t11 : List Int32) => (width_Samples_pt [.r, .r, .r, .r, .r, .r, .l, .r, .d, (.lp ((width_Samples_pt [.r, .r, .r, .r, .r, .r, .l, .r, .d]).it Try.prog width_Samples_T width_Samples_ans q)), .r, .r]).e Try.prog width_Samples_T width_Samples_ans (width_Samples_t28 bits_1 b_2 at_t7 l_t11)) (fun (at_t7 : Int) (x_t8 : List Int32) (x_t9 : Int32) (x_t10 : Int) => (width_Samples_pt [.r, .r, .r, .r, .r, .r, .l, .r, .d, (.lp ((width_Samples_pt [.r, .r, .r, .r, .r, .r, .l, .r, .d]).it Try.prog width_Samples_T width_Samples_ans q)), .r, .l, .d, .r, .r, .l, .r, .d]).e Try.prog width_Samples_T width_Samples_ans (width_Samples_t25 bits_1 b_2 at_t7 x_t8 x_t9 x_t10)) (fun (x_t8 : List Int32) => (width_Samples_pt [.r, .r, .r, .r, .r, .r, .r]).e Try.prog width_Samples_T width_Samples_ans (width_Samples_t30 x_t8)) bits_1 b_2 at_t7 x_t8) (by kernel_rfl) ?_
    have h28 : (fun (at_t7 : Int) (l_t11 : List Int32) => (width_Samples_pt [.r, .r, .r, .r, .r, .r, .l, .r, .d, (.lp ((width_Samples_pt [.r, .r, .r, .r, .r, .r, .l, .r, .d]).it Try.prog width_Samples_T width_Samples_ans q)), .r, .r]).e Try.prog width_Samples_T width_Samples_ans (width_Samples_t28 bits_1 b_2 at_t7 l_t11)) = (width_Samples_p28 (fun (at_t7 : Int) (x_t8 : List Int32) => (width_Samples_pt [.r, .r, .r, .r, .r, .r, .l, .r, .d]).it Try.prog width_Samples_T width_Samples_ans q (width_Samples_t16 bits_1 b_2 at_t7 x_t8)) bits_1 b_2) := funext fun at_t7 => funext fun l_t11 => width_Samples_e28 ((width_Samples_pt [.r, .r, .r, .r, .r, .r, .l, .r, .d]).it Try.prog width_Samples_T width_Samples_ans q) bits_1 b_2 at_t7 l_t11
    have h25 : (fun (at_t7 : Int) (x_t8 : List Int32) (x_t9 : Int32) (x_t10 : Int) => (width_Samples_pt [.r, .r, .r, .r, .r, .r, .l, .r, .d, (.lp ((width_Samples_pt [.r, .r, .r, .r, .r, .r, .l, .r, .d]).it Try.prog width_Samples_T width_Samples_ans q)), .r, .l, .d, .r, .r, .l, .r, .d]).e Try.prog width_Samples_T width_Samples_ans (width_Samples_t25 bits_1 b_2 at_t7 x_t8 x_t9 x_t10)) = (width_Samples_p25 (fun (at_t7 : Int) (x_t8 : List Int32) => (width_Samples_pt [.r, .r, .r, .r, .r, .r, .l, .r, .d]).it Try.prog width_Samples_T width_Samples_ans q (width_Samples_t16 bits_1 b_2 at_t7 x_t8)) bits_1 b_2) := funext fun at_t7 => funext fun x_t8 => funext fun x_t9 => funext fun x_t10 => width_Samples_e25 ((width_Samples_pt [.r, .r, .r, .r, .r, .r, .l, .r, .d]).it Try.prog width_Samples_T width_Samples_ans q) bits_1 b_2 at_t7 x_t8 x_t9 x_t10
    have h30 : (fun (x_t8 : List Int32) => (width_Samples_pt [.r, .r, .r, .r, .r, .r, .r]).e Try.prog width_Samples_T width_Samples_ans (width_Samples_t30 x_t8)) = (width_Samples_p30) := funext fun x_t8 => width_Samples_e30 x_t8
    have hq : (fun (at_t7 : Int) (x_t8 : List Int32) => (width_Samples_pt [.r, .r, .r, .r, .r, .r, .l, .r, .d]).it Try.prog width_Samples_T width_Samples_ans q (width_Samples_t16 bits_1 b_2 at_t7 x_t8)) = (width_Samples_l16 bits_1 b_2 q) := funext fun at_t7 => funext fun x_t8 => ih at_t7 x_t8
    rw [h28, h25, h30, hq]
    rfl
theorem width_Samples_e16 (bits_1 : Int) (b_2 : List UInt8) (at_t7 : Int) (x_t8 : List Int32) : (width_Samples_pt [.r, .r, .r, .r, .r, .r, .l, .r, .d]).e Try.prog width_Samples_T width_Samples_ans (width_Samples_t16 bits_1 b_2 at_t7 x_t8) = width_Samples_p16 bits_1 b_2 at_t7 x_t8 := Eq.trans (b := (width_Samples_pt [.r, .r, .r, .r, .r, .r, .l, .r, .d]).it Try.prog width_Samples_T width_Samples_ans FUELx (width_Samples_t16 bits_1 b_2 at_t7 x_t8)) (by kernel_rfl) (Eq.trans (width_Samples_i16 bits_1 b_2 FUELx at_t7 x_t8) (congrArg (fun q => width_Samples_l16 bits_1 b_2 q at_t7 x_t8) FUELx_eq))
theorem width_Samples_run (x : Int × List UInt8) : run Try.prog width_Samples_T width_Samples_ans Try.f5 width_Samples_an width_Samples_ps width_Samples_rs x = width_Samples x.1 x.2 := by
  refine Eq.trans (b := width_Samples_s0 (fun (bits_1 : Int) (b_2 : List UInt8) (at_t7 : Int) (x_t8 : List Int32) => (width_Samples_pt [.r, .r, .r, .r, .r, .r, .l, .r, .d]).e Try.prog width_Samples_T width_Samples_ans (width_Samples_t16 bits_1 b_2 at_t7 x_t8)) x.1 x.2) (by kernel_rfl) ?_
  have h16 : (fun (bits_1 : Int) (b_2 : List UInt8) (at_t7 : Int) (x_t8 : List Int32) => (width_Samples_pt [.r, .r, .r, .r, .r, .r, .l, .r, .d]).e Try.prog width_Samples_T width_Samples_ans (width_Samples_t16 bits_1 b_2 at_t7 x_t8)) = (width_Samples_p16) := funext fun bits_1 => funext fun b_2 => funext fun at_t7 => funext fun x_t8 => width_Samples_e16 bits_1 b_2 at_t7 x_t8
  rw [h16]
  rfl
def width_Samples_c : Con := ⟨width_Samples_ps, width_Samples_rs, fun x => width_Samples x.1 x.2⟩
theorem width_Samples_ok : ConOk Try.prog Try.gl 5 width_Samples_c := con_of_run (T := width_Samples_T) Try.mixed Try.func5 Try.ent5 (TabOk.cons width_Range_ok TabOk.nil) AnsOk.nil (by kernel_rfl) width_Samples_run
def taps_New_ps : List Sh := [.lf (.int .i64) none, .lf (.vec 16 (.int .i32)) none]
def taps_New_rs : List Sh := [.agg [.lf (.int .i64) none, .lf (.vec 16 (.int .i32)) none, .lf (.vec 16 (.int .i32)) none], .lf (.int .i64) none]
def taps_New_an : An := (.seq .d (.seq .d (.seq (.seq .d (.blk (.cut [4, 6, 9, 11] [] .d .d))) .d)))
def taps_New_T : Tab := ⟨[], Try.gl, false⟩
def taps_New_ans : List (Nat × An) := []
noncomputable def taps_New_pt (l : List (PS ((Int × (List Int32) × (List Int32) × Int)))) : Pt ((Int × (List Int32) × (List Int32) × Int)) := Pt.at (R := (Int × (List Int32) × (List Int32) × Int)) Try.prog taps_New_T taps_New_ans (Pt.root Try.prog Try.f9 taps_New_an taps_New_rs) l
def taps_New_t2 (bits_1 : Int) (taps_2 : List Int32) (x_t1 : Bool) : S := ⟨[(4, .ptr 0 []), (6, .ptr 1 []), (9, .val (.int .i64) bits_1), (11, .val .bool x_t1)], [.box 34 (.agg [.val (.int .i64) (0 : Int), .val (.vec 16 (.int .i32)) (List.replicate 16 (0 : Int32)), .val (.vec 16 (.int .i32)) (List.replicate 16 (0 : Int32))]), .box 34 (.agg [.val (.int .i64) (10 : Int), .val (.vec 16 (.int .i32)) taps_2, .val (.vec 16 (.int .i32)) (List.replicate 16 (0 : Int32))])], []⟩
theorem taps_New_e2 (bits_1 : Int) (taps_2 : List Int32) (x_t1 : Bool) : (taps_New_pt [.r, .r, .l, .r, .d, .r]).e Try.prog taps_New_T taps_New_ans (taps_New_t2 bits_1 taps_2 x_t1) = taps_New_p2 bits_1 taps_2 x_t1 := by kernel_rfl
theorem taps_New_run (x : Int × List Int32) : run Try.prog taps_New_T taps_New_ans Try.f9 taps_New_an taps_New_ps taps_New_rs x = taps_New x.1 x.2 := by
  refine Eq.trans (b := taps_New_s0 (fun (bits_1 : Int) (taps_2 : List Int32) (x_t1 : Bool) => (taps_New_pt [.r, .r, .l, .r, .d, .r]).e Try.prog taps_New_T taps_New_ans (taps_New_t2 bits_1 taps_2 x_t1)) x.1 x.2) (by kernel_rfl) ?_
  have h2 : (fun (bits_1 : Int) (taps_2 : List Int32) (x_t1 : Bool) => (taps_New_pt [.r, .r, .l, .r, .d, .r]).e Try.prog taps_New_T taps_New_ans (taps_New_t2 bits_1 taps_2 x_t1)) = (taps_New_p2) := funext fun bits_1 => funext fun taps_2 => funext fun x_t1 => taps_New_e2 bits_1 taps_2 x_t1
  rw [h2]
  rfl
def taps_New_c : Con := ⟨taps_New_ps, taps_New_rs, fun x => taps_New x.1 x.2⟩
theorem taps_New_ok : ConOk Try.prog Try.gl 9 taps_New_c := con_of_run (T := taps_New_T) Try.mixed Try.func9 Try.ent9 TabOk.nil AnsOk.nil (by kernel_rfl) taps_New_run
def chain_New_ps : List Sh := [.lf (.int .i64) none, .lf (.vec 16 (.int .i32)) none]
def chain_New_rs : List Sh := [.agg [.lf (.int .i64) none, .lf (.int .i32) none, .agg [.lf (.int .i64) none, .lf (.vec 16 (.int .i32)) none, .lf (.vec 16 (.int .i32)) none]], .lf (.int .i64) none]
def chain_New_an : An := .d
def chain_New_T : Tab := ⟨[(9, taps_New_c)], Try.gl, false⟩
def chain_New_ans : List (Nat × An) := []
theorem chain_New_run (x : Int × List Int32) : run Try.prog chain_New_T chain_New_ans Try.f10 chain_New_an chain_New_ps chain_New_rs x = chain_New x.1 x.2 := by kernel_rfl
def chain_New_c : Con := ⟨chain_New_ps, chain_New_rs, fun x => chain_New x.1 x.2⟩
theorem chain_New_ok : ConOk Try.prog Try.gl 10 chain_New_c := con_of_run (T := chain_New_T) Try.mixed Try.func10 Try.ent10 (TabOk.cons taps_New_ok TabOk.nil) AnsOk.nil (by kernel_rfl) chain_New_run
def chain_Check_ps : List Sh := [.agg [.lf (.int .i64) none, .lf (.int .i32) none, .agg [.lf (.int .i64) none, .lf (.vec 16 (.int .i32)) none, .lf (.vec 16 (.int .i32)) none]]]
def chain_Check_rs : List Sh := [.lf (.int .i64) none]
def chain_Check_an : An := .d
def chain_Check_T : Tab := ⟨[(9, taps_New_c)], Try.gl, false⟩
def chain_Check_ans : List (Nat × An) := []
theorem chain_Check_run (x : Int × Int32 × Int × List Int32 × List Int32) : run Try.prog chain_Check_T chain_Check_ans Try.f35 chain_Check_an chain_Check_ps chain_Check_rs x = chain_Check x.1 x.2.1 x.2.2.1 x.2.2.2.1 x.2.2.2.2 := by kernel_rfl
def chain_Check_c : Con := ⟨chain_Check_ps, chain_Check_rs, fun x => chain_Check x.1 x.2.1 x.2.2.1 x.2.2.2.1 x.2.2.2.2⟩
theorem chain_Check_ok : ConOk Try.prog Try.gl 35 chain_Check_c := con_of_run (T := chain_Check_T) Try.mixed Try.func35 Try.ent35 (TabOk.cons taps_New_ok TabOk.nil) AnsOk.nil (by kernel_rfl) chain_Check_run
def chain_check_ps : List Sh := [.agg [.lf (.int .i64) none, .lf (.int .i32) none, .agg [.lf (.int .i64) none, .lf (.vec 16 (.int .i32)) none, .lf (.vec 16 (.int .i32)) none]], .lf (.list (.int .i32)) none]
def chain_check_rs : List Sh := [.lf (.int .i64) none]
def chain_check_an : An := .d
def chain_check_T : Tab := ⟨[(35, chain_Check_c)], Try.gl, false⟩
def chain_check_ans : List (Nat × An) := []
theorem chain_check_run (x : Int × Int32 × Int × List Int32 × List Int32 × List Int32) : run Try.prog chain_check_T chain_check_ans Try.f25 chain_check_an chain_check_ps chain_check_rs x = chain_check x.1 x.2.1 x.2.2.1 x.2.2.2.1 x.2.2.2.2.1 x.2.2.2.2.2 := by kernel_rfl
def chain_check_c : Con := ⟨chain_check_ps, chain_check_rs, fun x => chain_check x.1 x.2.1 x.2.2.1 x.2.2.2.1 x.2.2.2.2.1 x.2.2.2.2.2⟩
theorem chain_check_ok : ConOk Try.prog Try.gl 25 chain_check_c := con_of_run (T := chain_check_T) Try.mixed Try.func25 Try.ent25 (TabOk.cons chain_Check_ok TabOk.nil) AnsOk.nil (by kernel_rfl) chain_check_run
def first_Shift_ps : List Sh := [.lf (.int .i64) none]
def first_Shift_rs : List Sh := [.lf (.int .i64) none, .lf (.int .i64) none]
def first_Shift_an : An := .d
def first_Shift_T : Tab := ⟨[], Try.gl, false⟩
def first_Shift_ans : List (Nat × An) := []
theorem first_Shift_run (x : Int) : run Try.prog first_Shift_T first_Shift_ans Try.f37 first_Shift_an first_Shift_ps first_Shift_rs x = first_Shift x := by kernel_rfl
def first_Shift_c : Con := ⟨first_Shift_ps, first_Shift_rs, fun x => first_Shift x⟩
theorem first_Shift_ok : ConOk Try.prog Try.gl 37 first_Shift_c := con_of_run (T := first_Shift_T) Try.mixed Try.func37 Try.ent37 TabOk.nil AnsOk.nil (by kernel_rfl) first_Shift_run
def first_guess_ps : List Sh := [.lf (.int .i64) none, .lf (.int .i32) none]
def first_guess_rs : List Sh := [.lf (.int .i32) none]
def first_guess_an : An := .d
def first_guess_T : Tab := ⟨[], Try.gl, false⟩
def first_guess_ans : List (Nat × An) := []
theorem first_guess_run (x : Int × Int32) : run Try.prog first_guess_T first_guess_ans Try.f28 first_guess_an first_guess_ps first_guess_rs x = first_guess x.1 x.2 := by kernel_rfl
def first_guess_c : Con := ⟨first_guess_ps, first_guess_rs, fun x => first_guess x.1 x.2⟩
theorem first_guess_ok : ConOk Try.prog Try.gl 28 first_guess_c := con_of_run (T := first_guess_T) Try.mixed Try.func28 Try.ent28 TabOk.nil AnsOk.nil (by kernel_rfl) first_guess_run
def first_Guess_ps : List Sh := [.lf (.int .i64) none, .lf (.int .i32) none]
def first_Guess_rs : List Sh := [.lf (.int .i32) none, .lf (.int .i64) none]
def first_Guess_an : An := .d
def first_Guess_T : Tab := ⟨[(28, first_guess_c), (37, first_Shift_c)], Try.gl, false⟩
def first_Guess_ans : List (Nat × An) := []
theorem first_Guess_run (x : Int × Int32) : run Try.prog first_Guess_T first_Guess_ans Try.f36 first_Guess_an first_Guess_ps first_Guess_rs x = first_Guess x.1 x.2 := by kernel_rfl
def first_Guess_c : Con := ⟨first_Guess_ps, first_Guess_rs, fun x => first_Guess x.1 x.2⟩
theorem first_Guess_ok : ConOk Try.prog Try.gl 36 first_Guess_c := con_of_run (T := first_Guess_T) Try.mixed Try.func36 Try.ent36 (TabOk.cons first_guess_ok (TabOk.cons first_Shift_ok TabOk.nil)) AnsOk.nil (by kernel_rfl) first_Guess_run
def taps_Check_ps : List Sh := [.agg [.lf (.int .i64) none, .lf (.vec 16 (.int .i32)) none, .lf (.vec 16 (.int .i32)) none]]
def taps_Check_rs : List Sh := [.lf (.int .i64) none]
def taps_Check_an : An := .d
def taps_Check_T : Tab := ⟨[], Try.gl, false⟩
def taps_Check_ans : List (Nat × An) := []
theorem taps_Check_run (x : Int × List Int32 × List Int32) : run Try.prog taps_Check_T taps_Check_ans Try.f38 taps_Check_an taps_Check_ps taps_Check_rs x = taps_Check x.1 x.2.1 x.2.2 := by kernel_rfl
def taps_Check_c : Con := ⟨taps_Check_ps, taps_Check_rs, fun x => taps_Check x.1 x.2.1 x.2.2⟩
theorem taps_Check_ok : ConOk Try.prog Try.gl 38 taps_Check_c := con_of_run (T := taps_Check_T) Try.mixed Try.func38 Try.ent38 TabOk.nil AnsOk.nil (by kernel_rfl) taps_Check_run
def taps_Guess_ps : List Sh := [.agg [.lf (.int .i64) none, .lf (.vec 16 (.int .i32)) none, .lf (.vec 16 (.int .i32)) none]]
def taps_Guess_rs : List Sh := [.lf (.int .i32) none, .lf (.int .i64) none]
def taps_Guess_an : An := (.seq .d (.seq .d (.seq .d (.cut [1, 5] [] (.seq .d (.blk (.loop [1, 5, 18, 19] [] .d))) .d))))
def taps_Guess_T : Tab := ⟨[(38, taps_Check_c)], Try.gl, false⟩
def taps_Guess_ans : List (Nat × An) := []
noncomputable def taps_Guess_pt (l : List (PS ((Int32 × Int)))) : Pt ((Int32 × Int)) := Pt.at (R := (Int32 × Int)) Try.prog taps_Guess_T taps_Guess_ans (Pt.root Try.prog Try.f39 taps_Guess_an taps_Guess_rs) l
def taps_Guess_t6 (sum_t1 : Int32) (f_1 : Int) (f_2 : List Int32) (f_3 : List Int32) : S := ⟨[(1, .ptr 0 []), (5, .val (.int .i32) sum_t1)], [.box 34 (.agg [.val (.int .i64) f_1, .val (.vec 16 (.int .i32)) f_2, .val (.vec 16 (.int .i32)) f_3])], []⟩
def taps_Guess_t4 (f_2 : List Int32) (f_1 : Int) (f_3 : List Int32) (sum_t1 : Int32) (x_t2 : Int) : S := ⟨[(1, .ptr 0 []), (5, .val (.int .i32) sum_t1), (18, .val (.vec 16 (.int .i32)) f_2), (19, .val (.int .i64) x_t2)], [.box 34 (.agg [.val (.int .i64) f_1, .val (.vec 16 (.int .i32)) f_2, .val (.vec 16 (.int .i32)) f_3])], []⟩
theorem taps_Guess_e6 (sum_t1 : Int32) (f_1 : Int) (f_2 : List Int32) (f_3 : List Int32) : (taps_Guess_pt [.r, .r, .r, .r]).e Try.prog taps_Guess_T taps_Guess_ans (taps_Guess_t6 sum_t1 f_1 f_2 f_3) = taps_Guess_p6 sum_t1 f_1 f_2 f_3 := by kernel_rfl
theorem taps_Guess_i4 (f_2 : List Int32) (f_1 : Int) (f_3 : List Int32) : ∀ (q : Nat) (sum_t1 : Int32) (x_t2 : Int), (taps_Guess_pt [.r, .r, .r, .l, .r, .d]).it Try.prog taps_Guess_T taps_Guess_ans q (taps_Guess_t4 f_2 f_1 f_3 sum_t1 x_t2) = taps_Guess_l4 f_2 f_1 f_3 q sum_t1 x_t2 := by
  intro q
  induction q with
  | zero => intros; rfl
  | succ q ih =>
    intro sum_t1 x_t2
    refine Eq.trans (b := taps_Guess_s4 (fun (sum_t1 : Int32) (f_1 : Int) (f_2 : List Int32) (f_3 : List Int32) => (taps_Guess_pt [.r, .r, .r, .r]).e Try.prog taps_Guess_T taps_Guess_ans (taps_Guess_t6 sum_t1 f_1 f_2 f_3)) (fun (sum_t1 : Int32) (x_t2 : Int) => (taps_Guess_pt [.r, .r, .r, .l, .r, .d]).it Try.prog taps_Guess_T taps_Guess_ans q (taps_Guess_t4 f_2 f_1 f_3 sum_t1 x_t2)) f_2 f_1 f_3 sum_t1 x_t2) (by kernel_rfl) ?_
    have h6 : (fun (sum_t1 : Int32) (f_1 : Int) (f_2 : List Int32) (f_3 : List Int32) => (taps_Guess_pt [.r, .r, .r, .r]).e Try.prog taps_Guess_T taps_Guess_ans (taps_Guess_t6 sum_t1 f_1 f_2 f_3)) = (taps_Guess_p6) := funext fun sum_t1 => funext fun f_1 => funext fun f_2 => funext fun f_3 => taps_Guess_e6 sum_t1 f_1 f_2 f_3
    have hq : (fun (sum_t1 : Int32) (x_t2 : Int) => (taps_Guess_pt [.r, .r, .r, .l, .r, .d]).it Try.prog taps_Guess_T taps_Guess_ans q (taps_Guess_t4 f_2 f_1 f_3 sum_t1 x_t2)) = (taps_Guess_l4 f_2 f_1 f_3 q) := funext fun sum_t1 => funext fun x_t2 => ih sum_t1 x_t2
    rw [h6, hq]
    rfl
theorem taps_Guess_e4 (f_2 : List Int32) (f_1 : Int) (f_3 : List Int32) (sum_t1 : Int32) (x_t2 : Int) : (taps_Guess_pt [.r, .r, .r, .l, .r, .d]).e Try.prog taps_Guess_T taps_Guess_ans (taps_Guess_t4 f_2 f_1 f_3 sum_t1 x_t2) = taps_Guess_p4 f_2 f_1 f_3 sum_t1 x_t2 := Eq.trans (b := (taps_Guess_pt [.r, .r, .r, .l, .r, .d]).it Try.prog taps_Guess_T taps_Guess_ans FUELx (taps_Guess_t4 f_2 f_1 f_3 sum_t1 x_t2)) (by kernel_rfl) (Eq.trans (taps_Guess_i4 f_2 f_1 f_3 FUELx sum_t1 x_t2) (congrArg (fun q => taps_Guess_l4 f_2 f_1 f_3 q sum_t1 x_t2) FUELx_eq))
theorem taps_Guess_run (x : Int × List Int32 × List Int32) : run Try.prog taps_Guess_T taps_Guess_ans Try.f39 taps_Guess_an taps_Guess_ps taps_Guess_rs x = taps_Guess x.1 x.2.1 x.2.2 := by
  refine Eq.trans (b := taps_Guess_s0 (fun (f_2 : List Int32) (f_1 : Int) (f_3 : List Int32) (sum_t1 : Int32) (x_t2 : Int) => (taps_Guess_pt [.r, .r, .r, .l, .r, .d]).e Try.prog taps_Guess_T taps_Guess_ans (taps_Guess_t4 f_2 f_1 f_3 sum_t1 x_t2)) x.1 x.2.1 x.2.2) (by kernel_rfl) ?_
  have h4 : (fun (f_2 : List Int32) (f_1 : Int) (f_3 : List Int32) (sum_t1 : Int32) (x_t2 : Int) => (taps_Guess_pt [.r, .r, .r, .l, .r, .d]).e Try.prog taps_Guess_T taps_Guess_ans (taps_Guess_t4 f_2 f_1 f_3 sum_t1 x_t2)) = (taps_Guess_p4) := funext fun f_2 => funext fun f_1 => funext fun f_3 => funext fun sum_t1 => funext fun x_t2 => taps_Guess_e4 f_2 f_1 f_3 sum_t1 x_t2
  rw [h4]
  rfl
def taps_Guess_c : Con := ⟨taps_Guess_ps, taps_Guess_rs, fun x => taps_Guess x.1 x.2.1 x.2.2⟩
theorem taps_Guess_ok : ConOk Try.prog Try.gl 39 taps_Guess_c := con_of_run (T := taps_Guess_T) Try.mixed Try.func39 Try.ent39 (TabOk.cons taps_Check_ok TabOk.nil) AnsOk.nil (by kernel_rfl) taps_Guess_run
def taps_step_ps : List Sh := [.lf (.int .i64) none]
def taps_step_rs : List Sh := [.lf (.int .i32) none]
def taps_step_an : An := .d
def taps_step_T : Tab := ⟨[], Try.gl, false⟩
def taps_step_ans : List (Nat × An) := []
theorem taps_step_run (x : Int) : run Try.prog taps_step_T taps_step_ans Try.f46 taps_step_an taps_step_ps taps_step_rs x = taps_step x := by kernel_rfl
def taps_step_c : Con := ⟨taps_step_ps, taps_step_rs, fun x => taps_step x⟩
theorem taps_step_ok : ConOk Try.prog Try.gl 46 taps_step_c := con_of_run (T := taps_step_T) Try.mixed Try.func46 Try.ent46 TabOk.nil AnsOk.nil (by kernel_rfl) taps_step_run
def taps_Learn_ps : List Sh := [.agg [.lf (.int .i64) none, .lf (.vec 16 (.int .i32)) none, .lf (.vec 16 (.int .i32)) none], .lf (.int .i32) none]
def taps_Learn_rs : List Sh := [.agg [.lf (.int .i64) none, .lf (.vec 16 (.int .i32)) none, .lf (.vec 16 (.int .i32)) none], .lf (.int .i64) none]
def taps_Learn_an : An := (.seq .d (.seq .d (.seq .d (.cut [2, 4] [] (.seq .d (.blk (.loop [1, 2, 4, 19, 20] [] .d))) .d))))
def taps_Learn_T : Tab := ⟨[(38, taps_Check_c), (46, taps_step_c)], Try.gl, false⟩
def taps_Learn_ans : List (Nat × An) := []
noncomputable def taps_Learn_pt (l : List (PS ((Int × (List Int32) × (List Int32) × Int)))) : Pt ((Int × (List Int32) × (List Int32) × Int)) := Pt.at (R := (Int × (List Int32) × (List Int32) × Int)) Try.prog taps_Learn_T taps_Learn_ans (Pt.root Try.prog Try.f44 taps_Learn_an taps_Learn_rs) l
def taps_Learn_t6 (f_1 : Int) (f_t2 : List Int32) (f_3 : List Int32) : S := ⟨[(2, .ptr 0 []), (4, .ptr 1 [])], [.box 34 (.agg [.val (.int .i64) f_1, .val (.vec 16 (.int .i32)) f_t2, .val (.vec 16 (.int .i32)) f_3]), .box 34 (.agg [.val (.int .i64) (0 : Int), .val (.vec 16 (.int .i32)) (List.replicate 16 (0 : Int32)), .val (.vec 16 (.int .i32)) (List.replicate 16 (0 : Int32))])], []⟩
def taps_Learn_t4 (wrong_4 : Int32) (f_3 : List Int32) (f_1 : Int) (x_t1 : Int) (f_t2 : List Int32) : S := ⟨[(1, .val (.int .i32) wrong_4), (2, .ptr 0 []), (4, .ptr 1 []), (19, .val (.vec 16 (.int .i32)) f_3), (20, .val (.int .i64) x_t1)], [.box 34 (.agg [.val (.int .i64) f_1, .val (.vec 16 (.int .i32)) f_t2, .val (.vec 16 (.int .i32)) f_3]), .box 34 (.agg [.val (.int .i64) (0 : Int), .val (.vec 16 (.int .i32)) (List.replicate 16 (0 : Int32)), .val (.vec 16 (.int .i32)) (List.replicate 16 (0 : Int32))])], []⟩
theorem taps_Learn_e6 (f_1 : Int) (f_t2 : List Int32) (f_3 : List Int32) : (taps_Learn_pt [.r, .r, .r, .r]).e Try.prog taps_Learn_T taps_Learn_ans (taps_Learn_t6 f_1 f_t2 f_3) = taps_Learn_p6 f_1 f_t2 f_3 := by kernel_rfl
theorem taps_Learn_i4 (wrong_4 : Int32) (f_3 : List Int32) (f_1 : Int) : ∀ (q : Nat) (x_t1 : Int) (f_t2 : List Int32), (taps_Learn_pt [.r, .r, .r, .l, .r, .d]).it Try.prog taps_Learn_T taps_Learn_ans q (taps_Learn_t4 wrong_4 f_3 f_1 x_t1 f_t2) = taps_Learn_l4 wrong_4 f_3 f_1 q x_t1 f_t2 := by
  intro q
  induction q with
  | zero => intros; rfl
  | succ q ih =>
    intro x_t1 f_t2
    refine Eq.trans (b := taps_Learn_s4 (fun (f_1 : Int) (f_t2 : List Int32) (f_3 : List Int32) => (taps_Learn_pt [.r, .r, .r, .r]).e Try.prog taps_Learn_T taps_Learn_ans (taps_Learn_t6 f_1 f_t2 f_3)) (fun (x_t1 : Int) (f_t2 : List Int32) => (taps_Learn_pt [.r, .r, .r, .l, .r, .d]).it Try.prog taps_Learn_T taps_Learn_ans q (taps_Learn_t4 wrong_4 f_3 f_1 x_t1 f_t2)) wrong_4 f_3 f_1 x_t1 f_t2) (by kernel_rfl) ?_
    have h6 : (fun (f_1 : Int) (f_t2 : List Int32) (f_3 : List Int32) => (taps_Learn_pt [.r, .r, .r, .r]).e Try.prog taps_Learn_T taps_Learn_ans (taps_Learn_t6 f_1 f_t2 f_3)) = (taps_Learn_p6) := funext fun f_1 => funext fun f_t2 => funext fun f_3 => taps_Learn_e6 f_1 f_t2 f_3
    have hq : (fun (x_t1 : Int) (f_t2 : List Int32) => (taps_Learn_pt [.r, .r, .r, .l, .r, .d]).it Try.prog taps_Learn_T taps_Learn_ans q (taps_Learn_t4 wrong_4 f_3 f_1 x_t1 f_t2)) = (taps_Learn_l4 wrong_4 f_3 f_1 q) := funext fun x_t1 => funext fun f_t2 => ih x_t1 f_t2
    rw [h6, hq]
    rfl
theorem taps_Learn_e4 (wrong_4 : Int32) (f_3 : List Int32) (f_1 : Int) (x_t1 : Int) (f_t2 : List Int32) : (taps_Learn_pt [.r, .r, .r, .l, .r, .d]).e Try.prog taps_Learn_T taps_Learn_ans (taps_Learn_t4 wrong_4 f_3 f_1 x_t1 f_t2) = taps_Learn_p4 wrong_4 f_3 f_1 x_t1 f_t2 := Eq.trans (b := (taps_Learn_pt [.r, .r, .r, .l, .r, .d]).it Try.prog taps_Learn_T taps_Learn_ans FUELx (taps_Learn_t4 wrong_4 f_3 f_1 x_t1 f_t2)) (by kernel_rfl) (Eq.trans (taps_Learn_i4 wrong_4 f_3 f_1 FUELx x_t1 f_t2) (congrArg (fun q => taps_Learn_l4 wrong_4 f_3 f_1 q x_t1 f_t2) FUELx_eq))
theorem taps_Learn_run (x : Int × List Int32 × List Int32 × Int32) : run Try.prog taps_Learn_T taps_Learn_ans Try.f44 taps_Learn_an taps_Learn_ps taps_Learn_rs x = taps_Learn x.1 x.2.1 x.2.2.1 x.2.2.2 := by
  refine Eq.trans (b := taps_Learn_s0 (fun (wrong_4 : Int32) (f_3 : List Int32) (f_1 : Int) (x_t1 : Int) (f_t2 : List Int32) => (taps_Learn_pt [.r, .r, .r, .l, .r, .d]).e Try.prog taps_Learn_T taps_Learn_ans (taps_Learn_t4 wrong_4 f_3 f_1 x_t1 f_t2)) x.1 x.2.1 x.2.2.1 x.2.2.2) (by kernel_rfl) ?_
  have h4 : (fun (wrong_4 : Int32) (f_3 : List Int32) (f_1 : Int) (x_t1 : Int) (f_t2 : List Int32) => (taps_Learn_pt [.r, .r, .r, .l, .r, .d]).e Try.prog taps_Learn_T taps_Learn_ans (taps_Learn_t4 wrong_4 f_3 f_1 x_t1 f_t2)) = (taps_Learn_p4) := funext fun wrong_4 => funext fun f_3 => funext fun f_1 => funext fun x_t1 => funext fun f_t2 => taps_Learn_e4 wrong_4 f_3 f_1 x_t1 f_t2
  rw [h4]
  rfl
def taps_Learn_c : Con := ⟨taps_Learn_ps, taps_Learn_rs, fun x => taps_Learn x.1 x.2.1 x.2.2.1 x.2.2.2⟩
theorem taps_Learn_ok : ConOk Try.prog Try.gl 44 taps_Learn_c := con_of_run (T := taps_Learn_T) Try.mixed Try.func44 Try.ent44 (TabOk.cons taps_Check_ok (TabOk.cons taps_step_ok TabOk.nil)) AnsOk.nil (by kernel_rfl) taps_Learn_run
noncomputable def taps_Push_s0b (j2 : Int32 → Int → (List Int32) → (List Int32) → Option (Int × (List Int32) × (List Int32) × Int)) (f_1 : Int) (f_2 : List Int32) (f_3 : List Int32) (x_4 : Int32) : Option (Int × (List Int32) × (List Int32) × Int) :=
Option.bind (taps_Check f_1 f_2 f_3) fun r_5 =>
if (gne r_5 (0 : Int)) = true then (
some ((0 : Int), (List.replicate 16 (0 : Int32)), (List.replicate 16 (0 : Int32)), r_5))
else (
both (
Option.bind (vwI (16 : Int) (1 : Int) (16 : Int)) fun _ =>
Option.bind (vwI (16 : Int) (0 : Int) (16 : Int)) fun _ =>
j2 x_4 f_1 f_2 f_3) [
Option.bind (vwI (16 : Int) (0 : Int) (16 : Int)) fun _ =>
Option.bind (vwI (16 : Int) (1 : Int) (16 : Int)) fun _ =>
j2 x_4 f_1 f_2 f_3])
theorem taps_Push_s0b_eq : @taps_Push_s0b = @taps_Push_s0 := by
  unfold taps_Push_s0b taps_Push_s0
  repeat (refine funext fun _ => ?_)
  repeat' first
    | with_reducible rfl
    | refine both1_of ?_ ?_
    | refine both2_of ?_ ?_ ?_
    | refine both3_of ?_ ?_ ?_ ?_
    | (refine nilb_of ?_ ?_; (intro h; first | (subst h; rfl) | (simp only [h]; rfl) | (simp [appI, lenI, h]; done)))
    | with_reducible refine bind_of fun x => ?_
    | with_reducible refine ite_of (fun _ => ?_) (fun _ => ?_)
    | (refine bind_cases (fun h => by simp only [h, bind_no, bind_so, bind_to_none, ite_self]) (fun x h => ?_); (try simp only [h, bind_so]))
    | (refine ite_cases (fun h => ?_) (fun h => ?_) <;> simp only [h, if_true, if_false, Bool.false_eq_true])
def taps_Push_ps : List Sh := [.agg [.lf (.int .i64) none, .lf (.vec 16 (.int .i32)) none, .lf (.vec 16 (.int .i32)) none], .lf (.int .i32) none]
def taps_Push_rs : List Sh := [.agg [.lf (.int .i64) none, .lf (.vec 16 (.int .i32)) none, .lf (.vec 16 (.int .i32)) none], .lf (.int .i64) none]
def taps_Push_an : An := (.seq .d (.seq .d (.cut [1, 2, 4] [] .d .d)))
def taps_Push_T : Tab := ⟨[(38, taps_Check_c)], Try.gl, false⟩
def taps_Push_ans : List (Nat × An) := []
noncomputable def taps_Push_pt (l : List (PS ((Int × (List Int32) × (List Int32) × Int)))) : Pt ((Int × (List Int32) × (List Int32) × Int)) := Pt.at (R := (Int × (List Int32) × (List Int32) × Int)) Try.prog taps_Push_T taps_Push_ans (Pt.root Try.prog Try.f45 taps_Push_an taps_Push_rs) l
def taps_Push_t2 (x_4 : Int32) (f_1 : Int) (f_2 : List Int32) (f_3 : List Int32) : S := ⟨[(1, .val (.int .i32) x_4), (2, .ptr 0 []), (4, .ptr 1 [])], [.box 34 (.agg [.val (.int .i64) f_1, .val (.vec 16 (.int .i32)) f_2, .val (.vec 16 (.int .i32)) (copyAt f_3 (1 : Int) ((16 : Int) - (1 : Int)) (subL f_3 (0 : Int) ((16 : Int) - (0 : Int))))]), .box 34 (.agg [.val (.int .i64) (0 : Int), .val (.vec 16 (.int .i32)) (List.replicate 16 (0 : Int32)), .val (.vec 16 (.int .i32)) (List.replicate 16 (0 : Int32))])], []⟩
theorem taps_Push_e2 (x_4 : Int32) (f_1 : Int) (f_2 : List Int32) (f_3 : List Int32) : (taps_Push_pt [.r, .r, .r]).e Try.prog taps_Push_T taps_Push_ans (taps_Push_t2 x_4 f_1 f_2 f_3) = taps_Push_p2 x_4 f_1 f_2 f_3 := by kernel_rfl
theorem taps_Push_run (x : Int × List Int32 × List Int32 × Int32) : run Try.prog taps_Push_T taps_Push_ans Try.f45 taps_Push_an taps_Push_ps taps_Push_rs x = taps_Push x.1 x.2.1 x.2.2.1 x.2.2.2 := by
  refine Eq.trans (b := taps_Push_s0b (fun (x_4 : Int32) (f_1 : Int) (f_2 : List Int32) (f_3 : List Int32) => (taps_Push_pt [.r, .r, .r]).e Try.prog taps_Push_T taps_Push_ans (taps_Push_t2 x_4 f_1 f_2 f_3)) x.1 x.2.1 x.2.2.1 x.2.2.2) (by kernel_rfl) ?_
  rw [taps_Push_s0b_eq]
  have h2 : (fun (x_4 : Int32) (f_1 : Int) (f_2 : List Int32) (f_3 : List Int32) => (taps_Push_pt [.r, .r, .r]).e Try.prog taps_Push_T taps_Push_ans (taps_Push_t2 x_4 f_1 f_2 f_3)) = (taps_Push_p2) := funext fun x_4 => funext fun f_1 => funext fun f_2 => funext fun f_3 => taps_Push_e2 x_4 f_1 f_2 f_3
  rw [h2]
  rfl
def taps_Push_c : Con := ⟨taps_Push_ps, taps_Push_rs, fun x => taps_Push x.1 x.2.1 x.2.2.1 x.2.2.2⟩
theorem taps_Push_ok : ConOk Try.prog Try.gl 45 taps_Push_c := con_of_run (T := taps_Push_T) Try.mixed Try.func45 Try.ent45 (TabOk.cons taps_Check_ok TabOk.nil) AnsOk.nil (by kernel_rfl) taps_Push_run
def lms_behind_ps : List Sh := [.agg [.lf (.int .i64) none, .lf (.vec 16 (.int .i32)) none, .lf (.vec 16 (.int .i32)) none], .lf (.int .i32) none, .lf (.int .i32) none]
def lms_behind_rs : List Sh := [.agg [.lf (.int .i64) none, .lf (.vec 16 (.int .i32)) none, .lf (.vec 16 (.int .i32)) none]]
def lms_behind_an : An := .d
def lms_behind_T : Tab := ⟨[(44, taps_Learn_c), (45, taps_Push_c)], Try.gl, false⟩
def lms_behind_ans : List (Nat × An) := []
theorem lms_behind_run (x : Int × List Int32 × List Int32 × Int32 × Int32) : run Try.prog lms_behind_T lms_behind_ans Try.f40 lms_behind_an lms_behind_ps lms_behind_rs x = lms_behind x.1 x.2.1 x.2.2.1 x.2.2.2.1 x.2.2.2.2 := by kernel_rfl
def lms_behind_c : Con := ⟨lms_behind_ps, lms_behind_rs, fun x => lms_behind x.1 x.2.1 x.2.2.1 x.2.2.2.1 x.2.2.2.2⟩
theorem lms_behind_ok : ConOk Try.prog Try.gl 40 lms_behind_c := con_of_run (T := lms_behind_T) Try.mixed Try.func40 Try.ent40 (TabOk.cons taps_Learn_ok (TabOk.cons taps_Push_ok TabOk.nil)) AnsOk.nil (by kernel_rfl) lms_behind_run
def lms_Forward_ps : List Sh := [.agg [.lf (.int .i64) none, .lf (.vec 16 (.int .i32)) none, .lf (.vec 16 (.int .i32)) none], .lf (.int .i32) none]
def lms_Forward_rs : List Sh := [.lf (.int .i32) none, .agg [.lf (.int .i64) none, .lf (.vec 16 (.int .i32)) none, .lf (.vec 16 (.int .i32)) none], .lf (.int .i64) none]
def lms_Forward_an : An := .d
def lms_Forward_T : Tab := ⟨[(39, taps_Guess_c), (40, lms_behind_c)], Try.gl, false⟩
def lms_Forward_ans : List (Nat × An) := []
theorem lms_Forward_run (x : Int × List Int32 × List Int32 × Int32) : run Try.prog lms_Forward_T lms_Forward_ans Try.f30 lms_Forward_an lms_Forward_ps lms_Forward_rs x = lms_Forward x.1 x.2.1 x.2.2.1 x.2.2.2 := by kernel_rfl
def lms_Forward_c : Con := ⟨lms_Forward_ps, lms_Forward_rs, fun x => lms_Forward x.1 x.2.1 x.2.2.1 x.2.2.2⟩
theorem lms_Forward_ok : ConOk Try.prog Try.gl 30 lms_Forward_c := con_of_run (T := lms_Forward_T) Try.mixed Try.func30 Try.ent30 (TabOk.cons taps_Guess_ok (TabOk.cons lms_behind_ok TabOk.nil)) AnsOk.nil (by kernel_rfl) lms_Forward_run
noncomputable def chain_Forward_s0b (c_1 : Int) (c_2 : Int32) (c_3 : Int) (c_4 : List Int32) (c_5 : List Int32) (x_6 : Int32) : Option (Int32 × Int × Int32 × Int × (List Int32) × (List Int32) × Int) :=
Option.bind (chain_Check c_1 c_2 c_3 c_4 c_5) fun r_7 =>
if (gne r_7 (0 : Int)) = true then (
some ((0 : Int32), (0 : Int), (0 : Int32), (0 : Int), (List.replicate 16 (0 : Int32)), (List.replicate 16 (0 : Int32)), r_7))
else (
Option.bind (first_Guess c_1 c_2) fun (r_8, r_9) =>
Option.bind (lms_Forward c_3 c_4 c_5 (gsub x_6 r_8)) fun (r_10, r_11, a_12, a_13, r_14) =>
both (
some (r_10, c_1, x_6, r_11, a_12, a_13, r_14)) [
some (r_10, c_1, x_6, r_11, a_12, a_13, r_14)])
theorem chain_Forward_s0b_eq : @chain_Forward_s0b = @chain_Forward := by
  unfold chain_Forward_s0b chain_Forward
  repeat (refine funext fun _ => ?_)
  repeat' first
    | with_reducible rfl
    | refine both1_of ?_ ?_
    | refine both2_of ?_ ?_ ?_
    | refine both3_of ?_ ?_ ?_ ?_
    | (refine nilb_of ?_ ?_; (intro h; first | (subst h; rfl) | (simp only [h]; rfl) | (simp [appI, lenI, h]; done)))
    | with_reducible refine bind_of fun x => ?_
    | with_reducible refine ite_of (fun _ => ?_) (fun _ => ?_)
    | (refine bind_cases (fun h => by simp only [h, bind_no, bind_so, bind_to_none, ite_self]) (fun x h => ?_); (try simp only [h, bind_so]))
    | (refine ite_cases (fun h => ?_) (fun h => ?_) <;> simp only [h, if_true, if_false, Bool.false_eq_true])
def chain_Forward_ps : List Sh := [.agg [.lf (.int .i64) none, .lf (.int .i32) none, .agg [.lf (.int .i64) none, .lf (.vec 16 (.int .i32)) none, .lf (.vec 16 (.int .i32)) none]], .lf (.int .i32) none]
def chain_Forward_rs : List Sh := [.lf (.int .i32) none, .agg [.lf (.int .i64) none, .lf (.int .i32) none, .agg [.lf (.int .i64) none, .lf (.vec 16 (.int .i32)) none, .lf (.vec 16 (.int .i32)) none]], .lf (.int .i64) none]
def chain_Forward_an : An := (.seq .d (.seq .d (.seq .d (.seq .d (.seq (.mode false) .d)))))
def chain_Forward_T : Tab := ⟨[(30, lms_Forward_c), (35, chain_Check_c), (36, first_Guess_c)], Try.gl, false⟩
def chain_Forward_ans : List (Nat × An) := []
theorem chain_Forward_run (x : Int × Int32 × Int × List Int32 × List Int32 × Int32) : run Try.prog chain_Forward_T chain_Forward_ans Try.f26 chain_Forward_an chain_Forward_ps chain_Forward_rs x = chain_Forward x.1 x.2.1 x.2.2.1 x.2.2.2.1 x.2.2.2.2.1 x.2.2.2.2.2 := Eq.trans (b := chain_Forward_s0b x.1 x.2.1 x.2.2.1 x.2.2.2.1 x.2.2.2.2.1 x.2.2.2.2.2) (by kernel_rfl) (by rw [chain_Forward_s0b_eq])
def chain_Forward_c : Con := ⟨chain_Forward_ps, chain_Forward_rs, fun x => chain_Forward x.1 x.2.1 x.2.2.1 x.2.2.2.1 x.2.2.2.2.1 x.2.2.2.2.2⟩
theorem chain_Forward_ok : ConOk Try.prog Try.gl 26 chain_Forward_c := con_of_run (T := chain_Forward_T) Try.mixed Try.func26 Try.ent26 (TabOk.cons lms_Forward_ok (TabOk.cons chain_Check_ok (TabOk.cons first_Guess_ok TabOk.nil))) AnsOk.nil (by kernel_rfl) chain_Forward_run
def chain_All_ps : List Sh := [.agg [.lf (.int .i64) none, .lf (.int .i32) none, .agg [.lf (.int .i64) none, .lf (.vec 16 (.int .i32)) none, .lf (.vec 16 (.int .i32)) none]], .lf (.list (.int .i32)) none]
def chain_All_rs : List Sh := [.lf (.list (.int .i32)) (some 21), .agg [.lf (.int .i64) none, .lf (.int .i32) none, .agg [.lf (.int .i64) none, .lf (.vec 16 (.int .i32)) none, .lf (.vec 16 (.int .i32)) none]], .lf (.int .i64) none]
def chain_All_an : An := (.seq .d (.seq .d (.seq .d (.cut [2, 5, 8] [] (.seq .d (.blk (.loop [2, 5, 8, 19, 20, 21] [⟨8, [], .own 21 (.int .i32)⟩] .d))) .d))))
def chain_All_T : Tab := ⟨[(25, chain_check_c), (26, chain_Forward_c)], Try.gl, false⟩
def chain_All_ans : List (Nat × An) := []
noncomputable def chain_All_pt (l : List (PS (((List Int32) × Int × Int32 × Int × (List Int32) × (List Int32) × Int)))) : Pt (((List Int32) × Int × Int32 × Int × (List Int32) × (List Int32) × Int)) := Pt.at (R := ((List Int32) × Int × Int32 × Int × (List Int32) × (List Int32) × Int)) Try.prog chain_All_T chain_All_ans (Pt.root Try.prog Try.f12 chain_All_an chain_All_rs) l
def chain_All_t6 (c_t2 : Int) (c_t3 : Int32) (c_t4 : Int) (c_t5 : List Int32) (c_t6 : List Int32) (x_t7 : List Int32) : S := ⟨[(2, .ptr 0 []), (5, .ptr 1 []), (8, .own 2)], [.box 38 (.agg [.val (.int .i64) c_t2, .val (.int .i32) c_t3, .agg [.val (.int .i64) c_t4, .val (.vec 16 (.int .i32)) c_t5, .val (.vec 16 (.int .i32)) c_t6]]), .box 38 (.agg [.val (.int .i64) (0 : Int), .val (.int .i32) (0 : Int32), .agg [.val (.int .i64) (0 : Int), .val (.vec 16 (.int .i32)) (List.replicate 16 (0 : Int32)), .val (.vec 16 (.int .i32)) (List.replicate 16 (0 : Int32))]]), .arr 21 (.int .i32) x_t7], []⟩
def chain_All_t4 (l_6 : List Int32) (x_t1 : Int) (c_t2 : Int) (c_t3 : Int32) (c_t4 : Int) (c_t5 : List Int32) (c_t6 : List Int32) (x_t7 : List Int32) : S := ⟨[(2, .ptr 0 []), (5, .ptr 1 []), (8, .own 2), (19, .val (.list (.int .i32)) l_6), (20, .val (.int .i64) (lenI l_6)), (21, .val (.int .i64) x_t1)], [.box 38 (.agg [.val (.int .i64) c_t2, .val (.int .i32) c_t3, .agg [.val (.int .i64) c_t4, .val (.vec 16 (.int .i32)) c_t5, .val (.vec 16 (.int .i32)) c_t6]]), .box 38 (.agg [.val (.int .i64) (0 : Int), .val (.int .i32) (0 : Int32), .agg [.val (.int .i64) (0 : Int), .val (.vec 16 (.int .i32)) (List.replicate 16 (0 : Int32)), .val (.vec 16 (.int .i32)) (List.replicate 16 (0 : Int32))]]), .arr 21 (.int .i32) x_t7], []⟩
theorem chain_All_e6 (c_t2 : Int) (c_t3 : Int32) (c_t4 : Int) (c_t5 : List Int32) (c_t6 : List Int32) (x_t7 : List Int32) : (chain_All_pt [.r, .r, .r, .r]).e Try.prog chain_All_T chain_All_ans (chain_All_t6 c_t2 c_t3 c_t4 c_t5 c_t6 x_t7) = chain_All_p6 c_t2 c_t3 c_t4 c_t5 c_t6 x_t7 := by kernel_rfl
theorem chain_All_i4 (l_6 : List Int32) : ∀ (q : Nat) (x_t1 : Int) (c_t2 : Int) (c_t3 : Int32) (c_t4 : Int) (c_t5 : List Int32) (c_t6 : List Int32) (x_t7 : List Int32), (chain_All_pt [.r, .r, .r, .l, .r, .d]).it Try.prog chain_All_T chain_All_ans q (chain_All_t4 l_6 x_t1 c_t2 c_t3 c_t4 c_t5 c_t6 x_t7) = chain_All_l4 l_6 q x_t1 c_t2 c_t3 c_t4 c_t5 c_t6 x_t7 := by
  intro q
  induction q with
  | zero => intros; rfl
  | succ q ih =>
    intro x_t1 c_t2 c_t3 c_t4 c_t5 c_t6 x_t7
    refine Eq.trans (b := chain_All_s4 (fun (c_t2 : Int) (c_t3 : Int32) (c_t4 : Int) (c_t5 : List Int32) (c_t6 : List Int32) (x_t7 : List Int32) => (chain_All_pt [.r, .r, .r, .r]).e Try.prog chain_All_T chain_All_ans (chain_All_t6 c_t2 c_t3 c_t4 c_t5 c_t6 x_t7)) (fun (x_t1 : Int) (c_t2 : Int) (c_t3 : Int32) (c_t4 : Int) (c_t5 : List Int32) (c_t6 : List Int32) (x_t7 : List Int32) => (chain_All_pt [.r, .r, .r, .l, .r, .d]).it Try.prog chain_All_T chain_All_ans q (chain_All_t4 l_6 x_t1 c_t2 c_t3 c_t4 c_t5 c_t6 x_t7)) l_6 x_t1 c_t2 c_t3 c_t4 c_t5 c_t6 x_t7) (by kernel_rfl) ?_
    have h6 : (fun (c_t2 : Int) (c_t3 : Int32) (c_t4 : Int) (c_t5 : List Int32) (c_t6 : List Int32) (x_t7 : List Int32) => (chain_All_pt [.r, .r, .r, .r]).e Try.prog chain_All_T chain_All_ans (chain_All_t6 c_t2 c_t3 c_t4 c_t5 c_t6 x_t7)) = (chain_All_p6) := funext fun c_t2 => funext fun c_t3 => funext fun c_t4 => funext fun c_t5 => funext fun c_t6 => funext fun x_t7 => chain_All_e6 c_t2 c_t3 c_t4 c_t5 c_t6 x_t7
    have hq : (fun (x_t1 : Int) (c_t2 : Int) (c_t3 : Int32) (c_t4 : Int) (c_t5 : List Int32) (c_t6 : List Int32) (x_t7 : List Int32) => (chain_All_pt [.r, .r, .r, .l, .r, .d]).it Try.prog chain_All_T chain_All_ans q (chain_All_t4 l_6 x_t1 c_t2 c_t3 c_t4 c_t5 c_t6 x_t7)) = (chain_All_l4 l_6 q) := funext fun x_t1 => funext fun c_t2 => funext fun c_t3 => funext fun c_t4 => funext fun c_t5 => funext fun c_t6 => funext fun x_t7 => ih x_t1 c_t2 c_t3 c_t4 c_t5 c_t6 x_t7
    rw [h6, hq]
    rfl
theorem chain_All_e4 (l_6 : List Int32) (x_t1 : Int) (c_t2 : Int) (c_t3 : Int32) (c_t4 : Int) (c_t5 : List Int32) (c_t6 : List Int32) (x_t7 : List Int32) : (chain_All_pt [.r, .r, .r, .l, .r, .d]).e Try.prog chain_All_T chain_All_ans (chain_All_t4 l_6 x_t1 c_t2 c_t3 c_t4 c_t5 c_t6 x_t7) = chain_All_p4 l_6 x_t1 c_t2 c_t3 c_t4 c_t5 c_t6 x_t7 := Eq.trans (b := (chain_All_pt [.r, .r, .r, .l, .r, .d]).it Try.prog chain_All_T chain_All_ans FUELx (chain_All_t4 l_6 x_t1 c_t2 c_t3 c_t4 c_t5 c_t6 x_t7)) (by kernel_rfl) (Eq.trans (chain_All_i4 l_6 FUELx x_t1 c_t2 c_t3 c_t4 c_t5 c_t6 x_t7) (congrArg (fun q => chain_All_l4 l_6 q x_t1 c_t2 c_t3 c_t4 c_t5 c_t6 x_t7) FUELx_eq))
theorem chain_All_run (x : Int × Int32 × Int × List Int32 × List Int32 × List Int32) : run Try.prog chain_All_T chain_All_ans Try.f12 chain_All_an chain_All_ps chain_All_rs x = chain_All x.1 x.2.1 x.2.2.1 x.2.2.2.1 x.2.2.2.2.1 x.2.2.2.2.2 := by
  refine Eq.trans (b := chain_All_s0 (fun (l_6 : List Int32) (x_t1 : Int) (c_t2 : Int) (c_t3 : Int32) (c_t4 : Int) (c_t5 : List Int32) (c_t6 : List Int32) (x_t7 : List Int32) => (chain_All_pt [.r, .r, .r, .l, .r, .d]).e Try.prog chain_All_T chain_All_ans (chain_All_t4 l_6 x_t1 c_t2 c_t3 c_t4 c_t5 c_t6 x_t7)) x.1 x.2.1 x.2.2.1 x.2.2.2.1 x.2.2.2.2.1 x.2.2.2.2.2) (by kernel_rfl) ?_
  have h4 : (fun (l_6 : List Int32) (x_t1 : Int) (c_t2 : Int) (c_t3 : Int32) (c_t4 : Int) (c_t5 : List Int32) (c_t6 : List Int32) (x_t7 : List Int32) => (chain_All_pt [.r, .r, .r, .l, .r, .d]).e Try.prog chain_All_T chain_All_ans (chain_All_t4 l_6 x_t1 c_t2 c_t3 c_t4 c_t5 c_t6 x_t7)) = (chain_All_p4) := funext fun l_6 => funext fun x_t1 => funext fun c_t2 => funext fun c_t3 => funext fun c_t4 => funext fun c_t5 => funext fun c_t6 => funext fun x_t7 => chain_All_e4 l_6 x_t1 c_t2 c_t3 c_t4 c_t5 c_t6 x_t7
  rw [h4]
  rfl
def chain_All_c : Con := ⟨chain_All_ps, chain_All_rs, fun x => chain_All x.1 x.2.1 x.2.2.1 x.2.2.2.1 x.2.2.2.2.1 x.2.2.2.2.2⟩
theorem chain_All_ok : ConOk Try.prog Try.gl 12 chain_All_c := con_of_run (T := chain_All_T) Try.mixed Try.func12 Try.ent12 (TabOk.cons chain_check_ok (TabOk.cons chain_Forward_ok TabOk.nil)) AnsOk.nil (by kernel_rfl) chain_All_run
def cadenzaref13_Same_ps : List Sh := [.lf (.list (.int .i32)) none, .lf (.list (.int .i32)) none]
def cadenzaref13_Same_rs : List Sh := [.lf .bool none]
def cadenzaref13_Same_an : An := (.seq .d (.seq .d (.cut [] [] (.seq .d (.blk (.loop [0, 1, 5] [] .d))) .d)))
def cadenzaref13_Same_T : Tab := ⟨[], Try.gl, false⟩
def cadenzaref13_Same_ans : List (Nat × An) := []
noncomputable def cadenzaref13_Same_pt (l : List (PS ((Bool)))) : Pt ((Bool)) := Pt.at (R := (Bool)) Try.prog cadenzaref13_Same_T cadenzaref13_Same_ans (Pt.root Try.prog Try.f16 cadenzaref13_Same_an cadenzaref13_Same_rs) l
def cadenzaref13_Same_t6 : S := ⟨[], [], []⟩
def cadenzaref13_Same_t4 (a_1 : List Int32) (b_2 : List Int32) (i_t1 : Int) : S := ⟨[(0, .val (.list (.int .i32)) a_1), (1, .val (.list (.int .i32)) b_2), (5, .val (.int .i64) i_t1)], [], []⟩
theorem cadenzaref13_Same_e6 : (cadenzaref13_Same_pt [.r, .r, .r]).e Try.prog cadenzaref13_Same_T cadenzaref13_Same_ans (cadenzaref13_Same_t6) = cadenzaref13_Same_p6 := by kernel_rfl
theorem cadenzaref13_Same_i4 (a_1 : List Int32) (b_2 : List Int32) : ∀ (q : Nat) (i_t1 : Int), (cadenzaref13_Same_pt [.r, .r, .l, .r, .d]).it Try.prog cadenzaref13_Same_T cadenzaref13_Same_ans q (cadenzaref13_Same_t4 a_1 b_2 i_t1) = cadenzaref13_Same_l4 a_1 b_2 q i_t1 := by
  intro q
  induction q with
  | zero => intros; rfl
  | succ q ih =>
    intro i_t1
    refine Eq.trans (b := cadenzaref13_Same_s4 ((cadenzaref13_Same_pt [.r, .r, .r]).e Try.prog cadenzaref13_Same_T cadenzaref13_Same_ans (cadenzaref13_Same_t6)) (fun (i_t1 : Int) => (cadenzaref13_Same_pt [.r, .r, .l, .r, .d]).it Try.prog cadenzaref13_Same_T cadenzaref13_Same_ans q (cadenzaref13_Same_t4 a_1 b_2 i_t1)) a_1 b_2 i_t1) (by kernel_rfl) ?_
    have h6 : ((cadenzaref13_Same_pt [.r, .r, .r]).e Try.prog cadenzaref13_Same_T cadenzaref13_Same_ans (cadenzaref13_Same_t6)) = (cadenzaref13_Same_p6) := cadenzaref13_Same_e6
    have hq : (fun (i_t1 : Int) => (cadenzaref13_Same_pt [.r, .r, .l, .r, .d]).it Try.prog cadenzaref13_Same_T cadenzaref13_Same_ans q (cadenzaref13_Same_t4 a_1 b_2 i_t1)) = (cadenzaref13_Same_l4 a_1 b_2 q) := funext fun i_t1 => ih i_t1
    rw [h6, hq]
    rfl
theorem cadenzaref13_Same_e4 (a_1 : List Int32) (b_2 : List Int32) (i_t1 : Int) : (cadenzaref13_Same_pt [.r, .r, .l, .r, .d]).e Try.prog cadenzaref13_Same_T cadenzaref13_Same_ans (cadenzaref13_Same_t4 a_1 b_2 i_t1) = cadenzaref13_Same_p4 a_1 b_2 i_t1 := Eq.trans (b := (cadenzaref13_Same_pt [.r, .r, .l, .r, .d]).it Try.prog cadenzaref13_Same_T cadenzaref13_Same_ans FUELx (cadenzaref13_Same_t4 a_1 b_2 i_t1)) (by kernel_rfl) (Eq.trans (cadenzaref13_Same_i4 a_1 b_2 FUELx i_t1) (congrArg (fun q => cadenzaref13_Same_l4 a_1 b_2 q i_t1) FUELx_eq))
theorem cadenzaref13_Same_run (x : List Int32 × List Int32) : run Try.prog cadenzaref13_Same_T cadenzaref13_Same_ans Try.f16 cadenzaref13_Same_an cadenzaref13_Same_ps cadenzaref13_Same_rs x = cadenzaref13_Same x.1 x.2 := by
  refine Eq.trans (b := cadenzaref13_Same_s0 (fun (a_1 : List Int32) (b_2 : List Int32) (i_t1 : Int) => (cadenzaref13_Same_pt [.r, .r, .l, .r, .d]).e Try.prog cadenzaref13_Same_T cadenzaref13_Same_ans (cadenzaref13_Same_t4 a_1 b_2 i_t1)) x.1 x.2) (by kernel_rfl) ?_
  have h4 : (fun (a_1 : List Int32) (b_2 : List Int32) (i_t1 : Int) => (cadenzaref13_Same_pt [.r, .r, .l, .r, .d]).e Try.prog cadenzaref13_Same_T cadenzaref13_Same_ans (cadenzaref13_Same_t4 a_1 b_2 i_t1)) = (cadenzaref13_Same_p4) := funext fun a_1 => funext fun b_2 => funext fun i_t1 => cadenzaref13_Same_e4 a_1 b_2 i_t1
  rw [h4]
  rfl
def cadenzaref13_Same_c : Con := ⟨cadenzaref13_Same_ps, cadenzaref13_Same_rs, fun x => cadenzaref13_Same x.1 x.2⟩
theorem cadenzaref13_Same_ok : ConOk Try.prog Try.gl 16 cadenzaref13_Same_c := con_of_run (T := cadenzaref13_Same_T) Try.mixed Try.func16 Try.ent16 TabOk.nil AnsOk.nil (by kernel_rfl) cadenzaref13_Same_run
def cadenzatop_alive19_ps : List Sh := []
def cadenzatop_alive19_rs : List Sh := [.lf .bool none]
def cadenzatop_alive19_an : An := .d
def cadenzatop_alive19_T : Tab := ⟨[(5, width_Samples_c), (10, chain_New_c), (12, chain_All_c), (16, cadenzaref13_Same_c)], Try.gl, false⟩
def cadenzatop_alive19_ans : List (Nat × An) := []
theorem cadenzatop_alive19_run (x : Unit) : run Try.prog cadenzatop_alive19_T cadenzatop_alive19_ans Try.f4 cadenzatop_alive19_an cadenzatop_alive19_ps cadenzatop_alive19_rs x = cadenzatop_alive19 := by kernel_rfl
def cadenzatop_alive19_c : Con := ⟨cadenzatop_alive19_ps, cadenzatop_alive19_rs, fun x => cadenzatop_alive19⟩
theorem cadenzatop_alive19_ok : ConOk Try.prog Try.gl 4 cadenzatop_alive19_c := con_of_run (T := cadenzatop_alive19_T) Try.mixed Try.func4 Try.ent4 (TabOk.cons width_Samples_ok (TabOk.cons chain_New_ok (TabOk.cons chain_All_ok (TabOk.cons cadenzaref13_Same_ok TabOk.nil)))) AnsOk.nil (by kernel_rfl) cadenzatop_alive19_run
def cadenzaref17_Check_ps : List Sh := [.lf (.int .i64) none, .lf (.list (.int .i32)) none]
def cadenzaref17_Check_rs : List Sh := [.lf (.int .i64) none]
def cadenzaref17_Check_an : An := .d
def cadenzaref17_Check_T : Tab := ⟨[], Try.gl, false⟩
def cadenzaref17_Check_ans : List (Nat × An) := []
theorem cadenzaref17_Check_run (x : Int × List Int32) : run Try.prog cadenzaref17_Check_T cadenzaref17_Check_ans Try.f6 cadenzaref17_Check_an cadenzaref17_Check_ps cadenzaref17_Check_rs x = cadenzaref17_Check x.1 x.2 := by kernel_rfl
def cadenzaref17_Check_c : Con := ⟨cadenzaref17_Check_ps, cadenzaref17_Check_rs, fun x => cadenzaref17_Check x.1 x.2⟩
theorem cadenzaref17_Check_ok : ConOk Try.prog Try.gl 6 cadenzaref17_Check_c := con_of_run (T := cadenzaref17_Check_T) Try.mixed Try.func6 Try.ent6 TabOk.nil AnsOk.nil (by kernel_rfl) cadenzaref17_Check_run
def mix_check_ps : List Sh := [.lf (.int .i64) none, .lf (.list (.int .i32)) none]
def mix_check_rs : List Sh := [.lf (.int .i64) none]
def mix_check_an : An := .d
def mix_check_T : Tab := ⟨[], Try.gl, false⟩
def mix_check_ans : List (Nat × An) := []
theorem mix_check_run (x : Int × List Int32) : run Try.prog mix_check_T mix_check_ans Try.f20 mix_check_an mix_check_ps mix_check_rs x = mix_check x.1 x.2 := by kernel_rfl
def mix_check_c : Con := ⟨mix_check_ps, mix_check_rs, fun x => mix_check x.1 x.2⟩
theorem mix_check_ok : ConOk Try.prog Try.gl 20 mix_check_c := con_of_run (T := mix_check_T) Try.mixed Try.func20 Try.ent20 TabOk.nil AnsOk.nil (by kernel_rfl) mix_check_run
noncomputable def slices_Clone_int32_int32_s0b (s_1 : List Int32) : Option ((List Int32)) :=
nilb s_1 (
some ([] : List Int32)) (
Option.bind (appI ([] : List Int32) s_1) fun l_2 =>
some l_2)
theorem slices_Clone_int32_int32_s0b_eq : @slices_Clone_int32_int32_s0b = @slices_Clone_int32_int32 := by
  unfold slices_Clone_int32_int32_s0b slices_Clone_int32_int32
  repeat (refine funext fun _ => ?_)
  repeat' first
    | with_reducible rfl
    | refine both1_of ?_ ?_
    | refine both2_of ?_ ?_ ?_
    | refine both3_of ?_ ?_ ?_ ?_
    | (refine nilb_of ?_ ?_; (intro h; first | (subst h; rfl) | (simp only [h]; rfl) | (simp [appI, lenI, h]; done)))
    | with_reducible refine bind_of fun x => ?_
    | with_reducible refine ite_of (fun _ => ?_) (fun _ => ?_)
    | (refine bind_cases (fun h => by simp only [h, bind_no, bind_so, bind_to_none, ite_self]) (fun x h => ?_); (try simp only [h, bind_so]))
    | (refine ite_cases (fun h => ?_) (fun h => ?_) <;> simp only [h, if_true, if_false, Bool.false_eq_true])
def slices_Clone_int32_int32_ps : List Sh := [.lf (.list (.int .i32)) none]
def slices_Clone_int32_int32_rs : List Sh := [.lf (.list (.int .i32)) (some 21)]
def slices_Clone_int32_int32_an : An := .d
def slices_Clone_int32_int32_T : Tab := ⟨[], Try.gl, false⟩
def slices_Clone_int32_int32_ans : List (Nat × An) := []
theorem slices_Clone_int32_int32_run (x : List Int32) : run Try.prog slices_Clone_int32_int32_T slices_Clone_int32_int32_ans Try.f21 slices_Clone_int32_int32_an slices_Clone_int32_int32_ps slices_Clone_int32_int32_rs x = slices_Clone_int32_int32 x := Eq.trans (b := slices_Clone_int32_int32_s0b x) (by kernel_rfl) (by rw [slices_Clone_int32_int32_s0b_eq])
def slices_Clone_int32_int32_c : Con := ⟨slices_Clone_int32_int32_ps, slices_Clone_int32_int32_rs, fun x => slices_Clone_int32_int32 x⟩
theorem slices_Clone_int32_int32_ok : ConOk Try.prog Try.gl 21 slices_Clone_int32_int32_c := con_of_run (T := slices_Clone_int32_int32_T) Try.mixed Try.func21 Try.ent21 TabOk.nil AnsOk.nil (by kernel_rfl) slices_Clone_int32_int32_run
def mix_mix_ps : List Sh := [.lf (.list (.int .i32)) (some 21)]
def mix_mix_rs : List Sh := []
def mix_mix_an : An := (.seq .d (.cut [0, 2] [] (.seq .d (.blk (.loop [0, 2, 7, 8] [] .d))) .d))
def mix_mix_T : Tab := ⟨[], Try.gl, false⟩
def mix_mix_ans : List (Nat × An) := []
noncomputable def mix_mix_pt (l : List (PS ((Unit)))) : Pt ((Unit)) := Pt.at (R := (Unit)) Try.prog mix_mix_T mix_mix_ans (Pt.root Try.prog Try.f22 mix_mix_an mix_mix_rs) l
def mix_mix_t6 (l_1 : List Int32) (l_t2 : List Int32) : S := ⟨[(0, .own 0), (2, .val (.int .i64) (gsub (lenI l_1) (1 : Int)))], [.arr 21 (.int .i32) l_t2], []⟩
def mix_mix_t4 (l_1 : List Int32) (x_t1 : Int) (l_t2 : List Int32) : S := ⟨[(0, .own 0), (2, .val (.int .i64) (gsub (lenI l_1) (1 : Int))), (7, .val (.int .i64) (gsub (lenI l_1) (1 : Int))), (8, .val (.int .i64) x_t1)], [.arr 21 (.int .i32) l_t2], []⟩
theorem mix_mix_e6 (l_1 : List Int32) (l_t2 : List Int32) : (mix_mix_pt [.r, .r]).e Try.prog mix_mix_T mix_mix_ans (mix_mix_t6 l_1 l_t2) = mix_mix_p6 l_1 l_t2 := by kernel_rfl
theorem mix_mix_i4 (l_1 : List Int32) : ∀ (q : Nat) (x_t1 : Int) (l_t2 : List Int32), (mix_mix_pt [.r, .l, .r, .d]).it Try.prog mix_mix_T mix_mix_ans q (mix_mix_t4 l_1 x_t1 l_t2) = mix_mix_l4 l_1 q x_t1 l_t2 := by
  intro q
  induction q with
  | zero => intros; rfl
  | succ q ih =>
    intro x_t1 l_t2
    refine Eq.trans (b := mix_mix_s4 (fun (l_1 : List Int32) (l_t2 : List Int32) => (mix_mix_pt [.r, .r]).e Try.prog mix_mix_T mix_mix_ans (mix_mix_t6 l_1 l_t2)) (fun (x_t1 : Int) (l_t2 : List Int32) => (mix_mix_pt [.r, .l, .r, .d]).it Try.prog mix_mix_T mix_mix_ans q (mix_mix_t4 l_1 x_t1 l_t2)) l_1 x_t1 l_t2) (by kernel_rfl) ?_
    have h6 : (fun (l_1 : List Int32) (l_t2 : List Int32) => (mix_mix_pt [.r, .r]).e Try.prog mix_mix_T mix_mix_ans (mix_mix_t6 l_1 l_t2)) = (mix_mix_p6) := funext fun l_1 => funext fun l_t2 => mix_mix_e6 l_1 l_t2
    have hq : (fun (x_t1 : Int) (l_t2 : List Int32) => (mix_mix_pt [.r, .l, .r, .d]).it Try.prog mix_mix_T mix_mix_ans q (mix_mix_t4 l_1 x_t1 l_t2)) = (mix_mix_l4 l_1 q) := funext fun x_t1 => funext fun l_t2 => ih x_t1 l_t2
    rw [h6, hq]
    rfl
theorem mix_mix_e4 (l_1 : List Int32) (x_t1 : Int) (l_t2 : List Int32) : (mix_mix_pt [.r, .l, .r, .d]).e Try.prog mix_mix_T mix_mix_ans (mix_mix_t4 l_1 x_t1 l_t2) = mix_mix_p4 l_1 x_t1 l_t2 := Eq.trans (b := (mix_mix_pt [.r, .l, .r, .d]).it Try.prog mix_mix_T mix_mix_ans FUELx (mix_mix_t4 l_1 x_t1 l_t2)) (by kernel_rfl) (Eq.trans (mix_mix_i4 l_1 FUELx x_t1 l_t2) (congrArg (fun q => mix_mix_l4 l_1 q x_t1 l_t2) FUELx_eq))
theorem mix_mix_run (x : List Int32) : run Try.prog mix_mix_T mix_mix_ans Try.f22 mix_mix_an mix_mix_ps mix_mix_rs x = mix_mix x := by
  refine Eq.trans (b := mix_mix_s0 (fun (l_1 : List Int32) (x_t1 : Int) (l_t2 : List Int32) => (mix_mix_pt [.r, .l, .r, .d]).e Try.prog mix_mix_T mix_mix_ans (mix_mix_t4 l_1 x_t1 l_t2)) x) (by kernel_rfl) ?_
  have h4 : (fun (l_1 : List Int32) (x_t1 : Int) (l_t2 : List Int32) => (mix_mix_pt [.r, .l, .r, .d]).e Try.prog mix_mix_T mix_mix_ans (mix_mix_t4 l_1 x_t1 l_t2)) = (mix_mix_p4) := funext fun l_1 => funext fun x_t1 => funext fun l_t2 => mix_mix_e4 l_1 x_t1 l_t2
  rw [h4]
  rfl
def mix_mix_c : Con := ⟨mix_mix_ps, mix_mix_rs, fun x => mix_mix x⟩
theorem mix_mix_ok : ConOk Try.prog Try.gl 22 mix_mix_c := con_of_run (T := mix_mix_T) Try.mixed Try.func22 Try.ent22 TabOk.nil AnsOk.nil (by kernel_rfl) mix_mix_run
def mix_All_ps : List Sh := [.lf (.int .i64) none, .lf (.list (.int .i32)) none]
def mix_All_rs : List Sh := [.lf (.list (.int .i32)) (some 21), .lf (.int .i64) none]
def mix_All_an : An := (.seq .d (.seq .d (.seq .d (.cut [7] [] (.seq .d (.blk (.loop [0, 7, 8] [] (.seq .d (.cut [0, 7, 8] [] (.blk (.keep [0, 7, 8, 24, 25, 26, 27, 28, 29] true)) .d))))) .d))))
def mix_All_T : Tab := ⟨[(20, mix_check_c), (21, slices_Clone_int32_int32_c)], Try.gl, true⟩
def mix_All_ans : List (Nat × An) := [(22, (.seq .d (.cut [0, 2] [] (.seq .d (.blk (.loop [0, 2, 7, 8] [] .d))) .d)))]
noncomputable def mix_All_pt (l : List (PS (((List Int32) × Int)))) : Pt (((List Int32) × Int)) := Pt.at (R := ((List Int32) × Int)) Try.prog mix_All_T mix_All_ans (Pt.root Try.prog Try.f7 mix_All_an mix_All_rs) l
def mix_All_t22 (l_t5 : List Int32) : S := ⟨[(7, .own 0)], [.arr 21 (.int .i32) l_t5], []⟩
def mix_All_t20 (channels_1 : Int) (at_t4 : Int) (l_t8 : List Int32) : S := ⟨[(0, .val (.int .i64) channels_1), (7, .own 0), (8, .val (.int .i64) at_t4)], [.arr 21 (.int .i32) l_t8], []⟩
def mix_All_t19 (channels_1 : Int) (at_t4 : Int) (l_t7 : List Int32) : S := ⟨[(0, .view true 0 [] (.int .i32) at_t4 ((gadd at_t4 channels_1) - at_t4)), (2, .val (.int .i64) (gsub ((gadd at_t4 channels_1) - at_t4) (1 : Int)))], [.arr 21 (.int .i32) l_t7], [[(0, .val (.int .i64) channels_1), (7, .own 0), (8, .val (.int .i64) at_t4), (24, .own 0), (25, .val (.int .i64) at_t4), (26, .val (.int .i64) at_t4), (27, .val (.int .i64) channels_1), (28, .val (.int .i64) (gadd at_t4 channels_1)), (29, .view true 0 [] (.int .i32) at_t4 ((gadd at_t4 channels_1) - at_t4))]]⟩
def mix_All_t17 (channels_1 : Int) (at_t4 : Int) (x_t6 : Int) (l_t7 : List Int32) : S := ⟨[(0, .view true 0 [] (.int .i32) at_t4 ((gadd at_t4 channels_1) - at_t4)), (2, .val (.int .i64) (gsub ((gadd at_t4 channels_1) - at_t4) (1 : Int))), (7, .val (.int .i64) (gsub ((gadd at_t4 channels_1) - at_t4) (1 : Int))), (8, .val (.int .i64) x_t6)], [.arr 21 (.int .i32) l_t7], [[(0, .val (.int .i64) channels_1), (7, .own 0), (8, .val (.int .i64) at_t4), (24, .own 0), (25, .val (.int .i64) at_t4), (26, .val (.int .i64) at_t4), (27, .val (.int .i64) channels_1), (28, .val (.int .i64) (gadd at_t4 channels_1)), (29, .view true 0 [] (.int .i32) at_t4 ((gadd at_t4 channels_1) - at_t4))]]⟩
def mix_All_t12 (channels_1 : Int) (at_t4 : Int) (l_t5 : List Int32) : S := ⟨[(0, .val (.int .i64) channels_1), (7, .own 0), (8, .val (.int .i64) at_t4)], [.arr 21 (.int .i32) l_t5], []⟩
theorem mix_All_e22 (l_t5 : List Int32) : (mix_All_pt [.r, .r, .r, .r]).e Try.prog mix_All_T mix_All_ans (mix_All_t22 l_t5) = mix_All_p22 l_t5 := by kernel_rfl
theorem mix_All_e20 (kn12 : S → Option (((List Int32) × Int))) (channels_1 : Int) (at_t4 : Int) (l_t8 : List Int32) : (mix_All_pt [.r, .r, .r, .l, .r, .d, (.lp kn12), .r, .r]).e Try.prog mix_All_T mix_All_ans (mix_All_t20 channels_1 at_t4 l_t8) = mix_All_p20 (fun at_t4 l_t5 => kn12 (mix_All_t12 channels_1 at_t4 l_t5)) channels_1 at_t4 l_t8 := by kernel_rfl
theorem mix_All_e19 (kn12 : S → Option (((List Int32) × Int))) (channels_1 : Int) (at_t4 : Int) (l_t7 : List Int32) : (mix_All_pt [.r, .r, .r, .l, .r, .d, (.lp kn12), .r, .l, .d, (.call 6 22), .r, .r]).e Try.prog mix_All_T mix_All_ans (mix_All_t19 channels_1 at_t4 l_t7) = mix_All_p19 (fun at_t4 l_t5 => kn12 (mix_All_t12 channels_1 at_t4 l_t5)) channels_1 at_t4 l_t7 := by
  refine Eq.trans (b := mix_All_s19 (fun (at_t4 : Int) (l_t8 : List Int32) => (mix_All_pt [.r, .r, .r, .l, .r, .d, (.lp kn12), .r, .r]).e Try.prog mix_All_T mix_All_ans (mix_All_t20 channels_1 at_t4 l_t8)) channels_1 at_t4 l_t7) (by kernel_rfl) ?_
  have h20 : (fun (at_t4 : Int) (l_t8 : List Int32) => (mix_All_pt [.r, .r, .r, .l, .r, .d, (.lp kn12), .r, .r]).e Try.prog mix_All_T mix_All_ans (mix_All_t20 channels_1 at_t4 l_t8)) = (mix_All_p20 (fun at_t4 l_t5 => kn12 (mix_All_t12 channels_1 at_t4 l_t5)) channels_1) := funext fun at_t4 => funext fun l_t8 => mix_All_e20 kn12 channels_1 at_t4 l_t8
  rw [h20]
  rfl
theorem mix_All_i17 (kn12 : S → Option (((List Int32) × Int))) (channels_1 : Int) (at_t4 : Int) : ∀ (q : Nat) (x_t6 : Int) (l_t7 : List Int32), (mix_All_pt [.r, .r, .r, .l, .r, .d, (.lp kn12), .r, .l, .d, (.call 6 22), .r, .l, .r, .d]).it Try.prog mix_All_T mix_All_ans q (mix_All_t17 channels_1 at_t4 x_t6 l_t7) = mix_All_l17 (fun at_t4 l_t5 => kn12 (mix_All_t12 channels_1 at_t4 l_t5)) channels_1 at_t4 q x_t6 l_t7 := by
  intro q
  induction q with
  | zero => intros; rfl
  | succ q ih =>
    intro x_t6 l_t7
    refine Eq.trans (b := mix_All_s17 (fun (at_t4 : Int) (l_t7 : List Int32) => (mix_All_pt [.r, .r, .r, .l, .r, .d, (.lp kn12), .r, .l, .d, (.call 6 22), .r, .r]).e Try.prog mix_All_T mix_All_ans (mix_All_t19 channels_1 at_t4 l_t7)) (fun (x_t6 : Int) (l_t7 : List Int32) => (mix_All_pt [.r, .r, .r, .l, .r, .d, (.lp kn12), .r, .l, .d, (.call 6 22), .r, .l, .r, .d]).it Try.prog mix_All_T mix_All_ans q (mix_All_t17 channels_1 at_t4 x_t6 l_t7)) channels_1 at_t4 x_t6 l_t7) (by kernel_rfl) ?_
    have h19 : (fun (at_t4 : Int) (l_t7 : List Int32) => (mix_All_pt [.r, .r, .r, .l, .r, .d, (.lp kn12), .r, .l, .d, (.call 6 22), .r, .r]).e Try.prog mix_All_T mix_All_ans (mix_All_t19 channels_1 at_t4 l_t7)) = (mix_All_p19 (fun at_t4 l_t5 => kn12 (mix_All_t12 channels_1 at_t4 l_t5)) channels_1) := funext fun at_t4 => funext fun l_t7 => mix_All_e19 kn12 channels_1 at_t4 l_t7
    have hq : (fun (x_t6 : Int) (l_t7 : List Int32) => (mix_All_pt [.r, .r, .r, .l, .r, .d, (.lp kn12), .r, .l, .d, (.call 6 22), .r, .l, .r, .d]).it Try.prog mix_All_T mix_All_ans q (mix_All_t17 channels_1 at_t4 x_t6 l_t7)) = (mix_All_l17 (fun at_t4 l_t5 => kn12 (mix_All_t12 channels_1 at_t4 l_t5)) channels_1 at_t4 q) := funext fun x_t6 => funext fun l_t7 => ih x_t6 l_t7
    rw [h19, hq]
    rfl
theorem mix_All_e17 (kn12 : S → Option (((List Int32) × Int))) (channels_1 : Int) (at_t4 : Int) (x_t6 : Int) (l_t7 : List Int32) : (mix_All_pt [.r, .r, .r, .l, .r, .d, (.lp kn12), .r, .l, .d, (.call 6 22), .r, .l, .r, .d]).e Try.prog mix_All_T mix_All_ans (mix_All_t17 channels_1 at_t4 x_t6 l_t7) = mix_All_p17 (fun at_t4 l_t5 => kn12 (mix_All_t12 channels_1 at_t4 l_t5)) channels_1 at_t4 x_t6 l_t7 := Eq.trans (b := (mix_All_pt [.r, .r, .r, .l, .r, .d, (.lp kn12), .r, .l, .d, (.call 6 22), .r, .l, .r, .d]).it Try.prog mix_All_T mix_All_ans FUELx (mix_All_t17 channels_1 at_t4 x_t6 l_t7)) (by kernel_rfl) (Eq.trans (mix_All_i17 kn12 channels_1 at_t4 FUELx x_t6 l_t7) (congrArg (fun q => mix_All_l17 (fun at_t4 l_t5 => kn12 (mix_All_t12 channels_1 at_t4 l_t5)) channels_1 at_t4 q x_t6 l_t7) FUELx_eq))
theorem mix_All_i12 (channels_1 : Int) : ∀ (q : Nat) (at_t4 : Int) (l_t5 : List Int32), (mix_All_pt [.r, .r, .r, .l, .r, .d]).it Try.prog mix_All_T mix_All_ans q (mix_All_t12 channels_1 at_t4 l_t5) = mix_All_l12 channels_1 q at_t4 l_t5 := by
  intro q
  induction q with
  | zero => intros; rfl
  | succ q ih =>
    intro at_t4 l_t5
    refine Eq.trans (b := mix_All_s12 (fun (at_t4 : Int) (x_t6 : Int) (l_t7 : List Int32) => (mix_All_pt [.r, .r, .r, .l, .r, .d, (.lp ((mix_All_pt [.r, .r, .r, .l, .r, .d]).it Try.prog mix_All_T mix_All_ans q)), .r, .l, .d, (.call 6 22), .r, .l, .r, .d]).e Try.prog mix_All_T mix_All_ans (mix_All_t17 channels_1 at_t4 x_t6 l_t7)) (fun (l_t5 : List Int32) => (mix_All_pt [.r, .r, .r, .r]).e Try.prog mix_All_T mix_All_ans (mix_All_t22 l_t5)) channels_1 at_t4 l_t5) (by kernel_rfl) ?_
    have h17 : (fun (at_t4 : Int) (x_t6 : Int) (l_t7 : List Int32) => (mix_All_pt [.r, .r, .r, .l, .r, .d, (.lp ((mix_All_pt [.r, .r, .r, .l, .r, .d]).it Try.prog mix_All_T mix_All_ans q)), .r, .l, .d, (.call 6 22), .r, .l, .r, .d]).e Try.prog mix_All_T mix_All_ans (mix_All_t17 channels_1 at_t4 x_t6 l_t7)) = (mix_All_p17 (fun (at_t4 : Int) (l_t5 : List Int32) => (mix_All_pt [.r, .r, .r, .l, .r, .d]).it Try.prog mix_All_T mix_All_ans q (mix_All_t12 channels_1 at_t4 l_t5)) channels_1) := funext fun at_t4 => funext fun x_t6 => funext fun l_t7 => mix_All_e17 ((mix_All_pt [.r, .r, .r, .l, .r, .d]).it Try.prog mix_All_T mix_All_ans q) channels_1 at_t4 x_t6 l_t7
    have h22 : (fun (l_t5 : List Int32) => (mix_All_pt [.r, .r, .r, .r]).e Try.prog mix_All_T mix_All_ans (mix_All_t22 l_t5)) = (mix_All_p22) := funext fun l_t5 => mix_All_e22 l_t5
    have hq : (fun (at_t4 : Int) (l_t5 : List Int32) => (mix_All_pt [.r, .r, .r, .l, .r, .d]).it Try.prog mix_All_T mix_All_ans q (mix_All_t12 channels_1 at_t4 l_t5)) = (mix_All_l12 channels_1 q) := funext fun at_t4 => funext fun l_t5 => ih at_t4 l_t5
    rw [h17, h22, hq]
    rfl
theorem mix_All_e12 (channels_1 : Int) (at_t4 : Int) (l_t5 : List Int32) : (mix_All_pt [.r, .r, .r, .l, .r, .d]).e Try.prog mix_All_T mix_All_ans (mix_All_t12 channels_1 at_t4 l_t5) = mix_All_p12 channels_1 at_t4 l_t5 := Eq.trans (b := (mix_All_pt [.r, .r, .r, .l, .r, .d]).it Try.prog mix_All_T mix_All_ans FUELx (mix_All_t12 channels_1 at_t4 l_t5)) (by kernel_rfl) (Eq.trans (mix_All_i12 channels_1 FUELx at_t4 l_t5) (congrArg (fun q => mix_All_l12 channels_1 q at_t4 l_t5) FUELx_eq))
theorem mix_All_run (x : Int × List Int32) : run Try.prog mix_All_T mix_All_ans Try.f7 mix_All_an mix_All_ps mix_All_rs x = mix_All x.1 x.2 := by
  refine Eq.trans (b := mix_All_s0 (fun (channels_1 : Int) (at_t4 : Int) (l_t5 : List Int32) => (mix_All_pt [.r, .r, .r, .l, .r, .d]).e Try.prog mix_All_T mix_All_ans (mix_All_t12 channels_1 at_t4 l_t5)) x.1 x.2) (by kernel_rfl) ?_
  have h12 : (fun (channels_1 : Int) (at_t4 : Int) (l_t5 : List Int32) => (mix_All_pt [.r, .r, .r, .l, .r, .d]).e Try.prog mix_All_T mix_All_ans (mix_All_t12 channels_1 at_t4 l_t5)) = (mix_All_p12) := funext fun channels_1 => funext fun at_t4 => funext fun l_t5 => mix_All_e12 channels_1 at_t4 l_t5
  rw [h12]
  rfl
def mix_All_c : Con := ⟨mix_All_ps, mix_All_rs, fun x => mix_All x.1 x.2⟩
theorem mix_All_ok : ConOk Try.prog Try.gl 7 mix_All_c := con_of_run (T := mix_All_T) Try.mixed Try.func7 Try.ent7 (TabOk.cons mix_check_ok (TabOk.cons slices_Clone_int32_int32_ok TabOk.nil)) (AnsOk.cons Try.ent22 AnsOk.nil) (by kernel_rfl) mix_All_run
def crc64_Next_ps : List Sh := [.lf (.int .u64) none, .lf (.list (.int .u8)) none]
def crc64_Next_rs : List Sh := [.lf (.int .u64) none, .lf (.int .i64) none]
def crc64_Next_an : An := (.seq .d (.seq .d (.cut [4, 5] [] (.keep [0, 1, 4, 5, 9, 10, 11, 12] true) .d)))
def crc64_Next_T : Tab := ⟨[], Try.gl, false⟩
def crc64_Next_ans : List (Nat × An) := [(42, (.seq .d (.cut [1] [] (.seq .d (.blk (.loop [0, 1, 9, 10, 11] [] .d))) .d))), (43, (.seq .d (.seq .d (.cut [1] [] (.seq .d (.blk (.loop [1, 5] [] (.seq .d (.seq .d (.cut [1, 5] [] (.blk (.seq .d (.seq .d (.cut [1, 2, 3, 5] [] (.seq .d (.blk (.loop [1, 2, 3, 5, 11] [] .d))) .d)))) .d)))))) .d))))]
noncomputable def crc64_Next_pt (l : List (PS ((UInt64 × Int)))) : Pt ((UInt64 × Int)) := Pt.at (R := (UInt64 × Int)) Try.prog crc64_Next_T crc64_Next_ans (Pt.root Try.prog Try.f34 crc64_Next_an crc64_Next_rs) l
def crc64_Next_t30 (state_t7 : UInt64) : S := ⟨[(4, .val (.int .u64) state_t7), (5, .val (.int .i64) (0 : Int))], [], []⟩
def crc64_Next_t29 (state_t7 : UInt64) (state_1 : UInt64) (b_2 : List UInt8) (x_t4 : List UInt64) : S := ⟨[(1, .val (.int .u64) state_t7)], [.box 82 (.val (.vec 256 (.int .u64)) x_t4)], [[(0, .val (.int .u64) state_1), (1, .val (.list (.int .u8)) b_2), (4, .val (.int .u64) (0 : UInt64)), (5, .val (.int .i64) (0 : Int)), (9, .ptr 0 []), (10, .val (.int .u64) state_1), (11, .val (.list (.int .u8)) b_2)]]⟩
def crc64_Next_t27 (b_2 : List UInt8) (state_1 : UInt64) (x_t4 : List UInt64) (state_t7 : UInt64) (x_t8 : Int) : S := ⟨[(0, .ptr 0 []), (1, .val (.int .u64) state_t7), (9, .val (.list (.int .u8)) b_2), (10, .val (.int .i64) (lenI b_2)), (11, .val (.int .i64) x_t8)], [.box 82 (.val (.vec 256 (.int .u64)) x_t4)], [[(0, .val (.int .u64) state_1), (1, .val (.list (.int .u8)) b_2), (4, .val (.int .u64) (0 : UInt64)), (5, .val (.int .i64) (0 : Int)), (9, .ptr 0 []), (10, .val (.int .u64) state_1), (11, .val (.list (.int .u8)) b_2)]]⟩
def crc64_Next_t26 (state_1 : UInt64) (b_2 : List UInt8) (x_t4 : List UInt64) : S := ⟨[(1, .ptr 0 [])], [.box 82 (.val (.vec 256 (.int .u64)) x_t4)], [[(0, .val (.int .u64) state_1), (1, .val (.list (.int .u8)) b_2), (4, .val (.int .u64) (0 : UInt64)), (5, .val (.int .i64) (0 : Int))]]⟩
def crc64_Next_t24 (state_1 : UInt64) (b_2 : List UInt8) (x_t3 : Int) (l_3 : List UInt64) : S := ⟨[(1, .ptr 0 []), (5, .val (.int .i64) x_t3)], [.box 82 (.val (.vec 256 (.int .u64)) l_3)], [[(0, .val (.int .u64) state_1), (1, .val (.list (.int .u8)) b_2), (4, .val (.int .u64) (0 : UInt64)), (5, .val (.int .i64) (0 : Int))]]⟩
def crc64_Next_t23 (state_1 : UInt64) (b_2 : List UInt8) (x_t3 : Int) (c_t5 : UInt64) (x_t4 : List UInt64) : S := ⟨[(1, .ptr 0 []), (2, .val (.int .i64) x_t3), (3, .val (.int .u64) c_t5), (5, .val (.int .i64) x_t3)], [.box 82 (.val (.vec 256 (.int .u64)) x_t4)], [[(0, .val (.int .u64) state_1), (1, .val (.list (.int .u8)) b_2), (4, .val (.int .u64) (0 : UInt64)), (5, .val (.int .i64) (0 : Int))]]⟩
def crc64_Next_t21 (state_1 : UInt64) (b_2 : List UInt8) (x_t3 : Int) (x_t4 : List UInt64) (c_t5 : UInt64) (x_t6 : Int) : S := ⟨[(1, .ptr 0 []), (2, .val (.int .i64) x_t3), (3, .val (.int .u64) c_t5), (5, .val (.int .i64) x_t3), (11, .val (.int .i64) x_t6)], [.box 82 (.val (.vec 256 (.int .u64)) x_t4)], [[(0, .val (.int .u64) state_1), (1, .val (.list (.int .u8)) b_2), (4, .val (.int .u64) (0 : UInt64)), (5, .val (.int .i64) (0 : Int))]]⟩
def crc64_Next_t16 (state_1 : UInt64) (b_2 : List UInt8) (x_t3 : Int) (x_t4 : List UInt64) : S := ⟨[(1, .ptr 0 []), (5, .val (.int .i64) x_t3)], [.box 82 (.val (.vec 256 (.int .u64)) x_t4)], [[(0, .val (.int .u64) state_1), (1, .val (.list (.int .u8)) b_2), (4, .val (.int .u64) (0 : UInt64)), (5, .val (.int .i64) (0 : Int))]]⟩
theorem crc64_Next_e30 (state_t7 : UInt64) : (crc64_Next_pt [.r, .r, .r]).e Try.prog crc64_Next_T crc64_Next_ans (crc64_Next_t30 state_t7) = crc64_Next_p30 state_t7 := by kernel_rfl
theorem crc64_Next_e29 (state_t7 : UInt64) (state_1 : UInt64) (b_2 : List UInt8) (x_t4 : List UInt64) : (crc64_Next_pt [.r, .r, .l, (.call 3 42), .r, .r]).e Try.prog crc64_Next_T crc64_Next_ans (crc64_Next_t29 state_t7 state_1 b_2 x_t4) = crc64_Next_p29 state_t7 state_1 b_2 x_t4 := by
  refine Eq.trans (b := crc64_Next_s29 (fun (state_t7 : UInt64) => (crc64_Next_pt [.r, .r, .r]).e Try.prog crc64_Next_T crc64_Next_ans (crc64_Next_t30 state_t7)) state_t7 state_1 b_2 x_t4) (by kernel_rfl) ?_
  have h30 : (fun (state_t7 : UInt64) => (crc64_Next_pt [.r, .r, .r]).e Try.prog crc64_Next_T crc64_Next_ans (crc64_Next_t30 state_t7)) = (crc64_Next_p30) := funext fun state_t7 => crc64_Next_e30 state_t7
  rw [h30]
  rfl
theorem crc64_Next_i27 (b_2 : List UInt8) (state_1 : UInt64) (x_t4 : List UInt64) : ∀ (q : Nat) (state_t7 : UInt64) (x_t8 : Int), (crc64_Next_pt [.r, .r, .l, (.call 3 42), .r, .l, .r, .d]).it Try.prog crc64_Next_T crc64_Next_ans q (crc64_Next_t27 b_2 state_1 x_t4 state_t7 x_t8) = crc64_Next_l27 b_2 state_1 x_t4 q state_t7 x_t8 := by
  intro q
  induction q with
  | zero => intros; rfl
  | succ q ih =>
    intro state_t7 x_t8
    refine Eq.trans (b := crc64_Next_s27 (fun (state_t7 : UInt64) (state_1 : UInt64) (b_2 : List UInt8) (x_t4 : List UInt64) => (crc64_Next_pt [.r, .r, .l, (.call 3 42), .r, .r]).e Try.prog crc64_Next_T crc64_Next_ans (crc64_Next_t29 state_t7 state_1 b_2 x_t4)) (fun (state_t7 : UInt64) (x_t8 : Int) => (crc64_Next_pt [.r, .r, .l, (.call 3 42), .r, .l, .r, .d]).it Try.prog crc64_Next_T crc64_Next_ans q (crc64_Next_t27 b_2 state_1 x_t4 state_t7 x_t8)) b_2 state_1 x_t4 state_t7 x_t8) (by kernel_rfl) ?_
    have h29 : (fun (state_t7 : UInt64) (state_1 : UInt64) (b_2 : List UInt8) (x_t4 : List UInt64) => (crc64_Next_pt [.r, .r, .l, (.call 3 42), .r, .r]).e Try.prog crc64_Next_T crc64_Next_ans (crc64_Next_t29 state_t7 state_1 b_2 x_t4)) = (crc64_Next_p29) := funext fun state_t7 => funext fun state_1 => funext fun b_2 => funext fun x_t4 => crc64_Next_e29 state_t7 state_1 b_2 x_t4
    have hq : (fun (state_t7 : UInt64) (x_t8 : Int) => (crc64_Next_pt [.r, .r, .l, (.call 3 42), .r, .l, .r, .d]).it Try.prog crc64_Next_T crc64_Next_ans q (crc64_Next_t27 b_2 state_1 x_t4 state_t7 x_t8)) = (crc64_Next_l27 b_2 state_1 x_t4 q) := funext fun state_t7 => funext fun x_t8 => ih state_t7 x_t8
    rw [h29, hq]
    rfl
theorem crc64_Next_e27 (b_2 : List UInt8) (state_1 : UInt64) (x_t4 : List UInt64) (state_t7 : UInt64) (x_t8 : Int) : (crc64_Next_pt [.r, .r, .l, (.call 3 42), .r, .l, .r, .d]).e Try.prog crc64_Next_T crc64_Next_ans (crc64_Next_t27 b_2 state_1 x_t4 state_t7 x_t8) = crc64_Next_p27 b_2 state_1 x_t4 state_t7 x_t8 := Eq.trans (b := (crc64_Next_pt [.r, .r, .l, (.call 3 42), .r, .l, .r, .d]).it Try.prog crc64_Next_T crc64_Next_ans FUELx (crc64_Next_t27 b_2 state_1 x_t4 state_t7 x_t8)) (by kernel_rfl) (Eq.trans (crc64_Next_i27 b_2 state_1 x_t4 FUELx state_t7 x_t8) (congrArg (fun q => crc64_Next_l27 b_2 state_1 x_t4 q state_t7 x_t8) FUELx_eq))
theorem crc64_Next_e26 (state_1 : UInt64) (b_2 : List UInt8) (x_t4 : List UInt64) : (crc64_Next_pt [.r, .r, .l, (.call 0 43), .r, .r, .r]).e Try.prog crc64_Next_T crc64_Next_ans (crc64_Next_t26 state_1 b_2 x_t4) = crc64_Next_p26 state_1 b_2 x_t4 := by
  refine Eq.trans (b := crc64_Next_s26 (fun (b_2 : List UInt8) (state_1 : UInt64) (x_t4 : List UInt64) (state_t7 : UInt64) (x_t8 : Int) => (crc64_Next_pt [.r, .r, .l, (.call 3 42), .r, .l, .r, .d]).e Try.prog crc64_Next_T crc64_Next_ans (crc64_Next_t27 b_2 state_1 x_t4 state_t7 x_t8)) state_1 b_2 x_t4) (by kernel_rfl) ?_
  have h27 : (fun (b_2 : List UInt8) (state_1 : UInt64) (x_t4 : List UInt64) (state_t7 : UInt64) (x_t8 : Int) => (crc64_Next_pt [.r, .r, .l, (.call 3 42), .r, .l, .r, .d]).e Try.prog crc64_Next_T crc64_Next_ans (crc64_Next_t27 b_2 state_1 x_t4 state_t7 x_t8)) = (crc64_Next_p27) := funext fun b_2 => funext fun state_1 => funext fun x_t4 => funext fun state_t7 => funext fun x_t8 => crc64_Next_e27 b_2 state_1 x_t4 state_t7 x_t8
  rw [h27]
  rfl
theorem crc64_Next_e24 (kn16 : S → Option ((UInt64 × Int))) (state_1 : UInt64) (b_2 : List UInt8) (x_t3 : Int) (l_3 : List UInt64) : (crc64_Next_pt [.r, .r, .l, (.call 0 43), .r, .r, .l, .r, .d, (.lp kn16), .r, .r, .r]).e Try.prog crc64_Next_T crc64_Next_ans (crc64_Next_t24 state_1 b_2 x_t3 l_3) = crc64_Next_p24 (fun x_t3 x_t4 => kn16 (crc64_Next_t16 state_1 b_2 x_t3 x_t4)) state_1 b_2 x_t3 l_3 := by kernel_rfl
theorem crc64_Next_e23 (kn16 : S → Option ((UInt64 × Int))) (state_1 : UInt64) (b_2 : List UInt8) (x_t3 : Int) (c_t5 : UInt64) (x_t4 : List UInt64) : (crc64_Next_pt [.r, .r, .l, (.call 0 43), .r, .r, .l, .r, .d, (.lp kn16), .r, .r, .l, .d, .r, .r, .r]).e Try.prog crc64_Next_T crc64_Next_ans (crc64_Next_t23 state_1 b_2 x_t3 c_t5 x_t4) = crc64_Next_p23 (fun x_t3 x_t4 => kn16 (crc64_Next_t16 state_1 b_2 x_t3 x_t4)) state_1 b_2 x_t3 c_t5 x_t4 := by
  refine Eq.trans (b := crc64_Next_s23 (fun (x_t3 : Int) (l_3 : List UInt64) => (crc64_Next_pt [.r, .r, .l, (.call 0 43), .r, .r, .l, .r, .d, (.lp kn16), .r, .r, .r]).e Try.prog crc64_Next_T crc64_Next_ans (crc64_Next_t24 state_1 b_2 x_t3 l_3)) state_1 b_2 x_t3 c_t5 x_t4) (by kernel_rfl) ?_
  have h24 : (fun (x_t3 : Int) (l_3 : List UInt64) => (crc64_Next_pt [.r, .r, .l, (.call 0 43), .r, .r, .l, .r, .d, (.lp kn16), .r, .r, .r]).e Try.prog crc64_Next_T crc64_Next_ans (crc64_Next_t24 state_1 b_2 x_t3 l_3)) = (crc64_Next_p24 (fun x_t3 x_t4 => kn16 (crc64_Next_t16 state_1 b_2 x_t3 x_t4)) state_1 b_2) := funext fun x_t3 => funext fun l_3 => crc64_Next_e24 kn16 state_1 b_2 x_t3 l_3
  rw [h24]
  rfl
theorem crc64_Next_i21 (kn16 : S → Option ((UInt64 × Int))) (state_1 : UInt64) (b_2 : List UInt8) (x_t3 : Int) (x_t4 : List UInt64) : ∀ (q : Nat) (c_t5 : UInt64) (x_t6 : Int), (crc64_Next_pt [.r, .r, .l, (.call 0 43), .r, .r, .l, .r, .d, (.lp kn16), .r, .r, .l, .d, .r, .r, .l, .r, .d]).it Try.prog crc64_Next_T crc64_Next_ans q (crc64_Next_t21 state_1 b_2 x_t3 x_t4 c_t5 x_t6) = crc64_Next_l21 (fun x_t3 x_t4 => kn16 (crc64_Next_t16 state_1 b_2 x_t3 x_t4)) state_1 b_2 x_t3 x_t4 q c_t5 x_t6 := by
  intro q
  induction q with
  | zero => intros; rfl
  | succ q ih =>
    intro c_t5 x_t6
    refine Eq.trans (b := crc64_Next_s21 (fun (x_t3 : Int) (c_t5 : UInt64) (x_t4 : List UInt64) => (crc64_Next_pt [.r, .r, .l, (.call 0 43), .r, .r, .l, .r, .d, (.lp kn16), .r, .r, .l, .d, .r, .r, .r]).e Try.prog crc64_Next_T crc64_Next_ans (crc64_Next_t23 state_1 b_2 x_t3 c_t5 x_t4)) (fun (c_t5 : UInt64) (x_t6 : Int) => (crc64_Next_pt [.r, .r, .l, (.call 0 43), .r, .r, .l, .r, .d, (.lp kn16), .r, .r, .l, .d, .r, .r, .l, .r, .d]).it Try.prog crc64_Next_T crc64_Next_ans q (crc64_Next_t21 state_1 b_2 x_t3 x_t4 c_t5 x_t6)) state_1 b_2 x_t3 x_t4 c_t5 x_t6) (by kernel_rfl) ?_
    have h23 : (fun (x_t3 : Int) (c_t5 : UInt64) (x_t4 : List UInt64) => (crc64_Next_pt [.r, .r, .l, (.call 0 43), .r, .r, .l, .r, .d, (.lp kn16), .r, .r, .l, .d, .r, .r, .r]).e Try.prog crc64_Next_T crc64_Next_ans (crc64_Next_t23 state_1 b_2 x_t3 c_t5 x_t4)) = (crc64_Next_p23 (fun x_t3 x_t4 => kn16 (crc64_Next_t16 state_1 b_2 x_t3 x_t4)) state_1 b_2) := funext fun x_t3 => funext fun c_t5 => funext fun x_t4 => crc64_Next_e23 kn16 state_1 b_2 x_t3 c_t5 x_t4
    have hq : (fun (c_t5 : UInt64) (x_t6 : Int) => (crc64_Next_pt [.r, .r, .l, (.call 0 43), .r, .r, .l, .r, .d, (.lp kn16), .r, .r, .l, .d, .r, .r, .l, .r, .d]).it Try.prog crc64_Next_T crc64_Next_ans q (crc64_Next_t21 state_1 b_2 x_t3 x_t4 c_t5 x_t6)) = (crc64_Next_l21 (fun x_t3 x_t4 => kn16 (crc64_Next_t16 state_1 b_2 x_t3 x_t4)) state_1 b_2 x_t3 x_t4 q) := funext fun c_t5 => funext fun x_t6 => ih c_t5 x_t6
    rw [h23, hq]
    rfl
theorem crc64_Next_e21 (kn16 : S → Option ((UInt64 × Int))) (state_1 : UInt64) (b_2 : List UInt8) (x_t3 : Int) (x_t4 : List UInt64) (c_t5 : UInt64) (x_t6 : Int) : (crc64_Next_pt [.r, .r, .l, (.call 0 43), .r, .r, .l, .r, .d, (.lp kn16), .r, .r, .l, .d, .r, .r, .l, .r, .d]).e Try.prog crc64_Next_T crc64_Next_ans (crc64_Next_t21 state_1 b_2 x_t3 x_t4 c_t5 x_t6) = crc64_Next_p21 (fun x_t3 x_t4 => kn16 (crc64_Next_t16 state_1 b_2 x_t3 x_t4)) state_1 b_2 x_t3 x_t4 c_t5 x_t6 := Eq.trans (b := (crc64_Next_pt [.r, .r, .l, (.call 0 43), .r, .r, .l, .r, .d, (.lp kn16), .r, .r, .l, .d, .r, .r, .l, .r, .d]).it Try.prog crc64_Next_T crc64_Next_ans FUELx (crc64_Next_t21 state_1 b_2 x_t3 x_t4 c_t5 x_t6)) (by kernel_rfl) (Eq.trans (crc64_Next_i21 kn16 state_1 b_2 x_t3 x_t4 FUELx c_t5 x_t6) (congrArg (fun q => crc64_Next_l21 (fun x_t3 x_t4 => kn16 (crc64_Next_t16 state_1 b_2 x_t3 x_t4)) state_1 b_2 x_t3 x_t4 q c_t5 x_t6) FUELx_eq))
theorem crc64_Next_i16 (state_1 : UInt64) (b_2 : List UInt8) : ∀ (q : Nat) (x_t3 : Int) (x_t4 : List UInt64), (crc64_Next_pt [.r, .r, .l, (.call 0 43), .r, .r, .l, .r, .d]).it Try.prog crc64_Next_T crc64_Next_ans q (crc64_Next_t16 state_1 b_2 x_t3 x_t4) = crc64_Next_l16 state_1 b_2 q x_t3 x_t4 := by
  intro q
  induction q with
  | zero => intros; rfl
  | succ q ih =>
    intro x_t3 x_t4
    refine Eq.trans (b := crc64_Next_s16 (fun (x_t3 : Int) (x_t4 : List UInt64) (c_t5 : UInt64) (x_t6 : Int) => (crc64_Next_pt [.r, .r, .l, (.call 0 43), .r, .r, .l, .r, .d, (.lp ((crc64_Next_pt [.r, .r, .l, (.call 0 43), .r, .r, .l, .r, .d]).it Try.prog crc64_Next_T crc64_Next_ans q)), .r, .r, .l, .d, .r, .r, .l, .r, .d]).e Try.prog crc64_Next_T crc64_Next_ans (crc64_Next_t21 state_1 b_2 x_t3 x_t4 c_t5 x_t6)) (fun (state_1 : UInt64) (b_2 : List UInt8) (x_t4 : List UInt64) => (crc64_Next_pt [.r, .r, .l, (.call 0 43), .r, .r, .r]).e Try.prog crc64_Next_T crc64_Next_ans (crc64_Next_t26 state_1 b_2 x_t4)) state_1 b_2 x_t3 x_t4) (by kernel_rfl) ?_
    have h21 : (fun (x_t3 : Int) (x_t4 : List UInt64) (c_t5 : UInt64) (x_t6 : Int) => (crc64_Next_pt [.r, .r, .l, (.call 0 43), .r, .r, .l, .r, .d, (.lp ((crc64_Next_pt [.r, .r, .l, (.call 0 43), .r, .r, .l, .r, .d]).it Try.prog crc64_Next_T crc64_Next_ans q)), .r, .r, .l, .d, .r, .r, .l, .r, .d]).e Try.prog crc64_Next_T crc64_Next_ans (crc64_Next_t21 state_1 b_2 x_t3 x_t4 c_t5 x_t6)) = (crc64_Next_p21 (fun (x_t3 : Int) (x_t4 : List UInt64) => (crc64_Next_pt [.r, .r, .l, (.call 0 43), .r, .r, .l, .r, .d]).it Try.prog crc64_Next_T crc64_Next_ans q (crc64_Next_t16 state_1 b_2 x_t3 x_t4)) state_1 b_2) := funext fun x_t3 => funext fun x_t4 => funext fun c_t5 => funext fun x_t6 => crc64_Next_e21 ((crc64_Next_pt [.r, .r, .l, (.call 0 43), .r, .r, .l, .r, .d]).it Try.prog crc64_Next_T crc64_Next_ans q) state_1 b_2 x_t3 x_t4 c_t5 x_t6
    have h26 : (fun (state_1 : UInt64) (b_2 : List UInt8) (x_t4 : List UInt64) => (crc64_Next_pt [.r, .r, .l, (.call 0 43), .r, .r, .r]).e Try.prog crc64_Next_T crc64_Next_ans (crc64_Next_t26 state_1 b_2 x_t4)) = (crc64_Next_p26) := funext fun state_1 => funext fun b_2 => funext fun x_t4 => crc64_Next_e26 state_1 b_2 x_t4
    have hq : (fun (x_t3 : Int) (x_t4 : List UInt64) => (crc64_Next_pt [.r, .r, .l, (.call 0 43), .r, .r, .l, .r, .d]).it Try.prog crc64_Next_T crc64_Next_ans q (crc64_Next_t16 state_1 b_2 x_t3 x_t4)) = (crc64_Next_l16 state_1 b_2 q) := funext fun x_t3 => funext fun x_t4 => ih x_t3 x_t4
    rw [h21, h26, hq]
    rfl
theorem crc64_Next_e16 (state_1 : UInt64) (b_2 : List UInt8) (x_t3 : Int) (x_t4 : List UInt64) : (crc64_Next_pt [.r, .r, .l, (.call 0 43), .r, .r, .l, .r, .d]).e Try.prog crc64_Next_T crc64_Next_ans (crc64_Next_t16 state_1 b_2 x_t3 x_t4) = crc64_Next_p16 state_1 b_2 x_t3 x_t4 := Eq.trans (b := (crc64_Next_pt [.r, .r, .l, (.call 0 43), .r, .r, .l, .r, .d]).it Try.prog crc64_Next_T crc64_Next_ans FUELx (crc64_Next_t16 state_1 b_2 x_t3 x_t4)) (by kernel_rfl) (Eq.trans (crc64_Next_i16 state_1 b_2 FUELx x_t3 x_t4) (congrArg (fun q => crc64_Next_l16 state_1 b_2 q x_t3 x_t4) FUELx_eq))
theorem crc64_Next_run (x : UInt64 × List UInt8) : run Try.prog crc64_Next_T crc64_Next_ans Try.f34 crc64_Next_an crc64_Next_ps crc64_Next_rs x = crc64_Next x.1 x.2 := by
  refine Eq.trans (b := crc64_Next_s0 (fun (state_1 : UInt64) (b_2 : List UInt8) (x_t3 : Int) (x_t4 : List UInt64) => (crc64_Next_pt [.r, .r, .l, (.call 0 43), .r, .r, .l, .r, .d]).e Try.prog crc64_Next_T crc64_Next_ans (crc64_Next_t16 state_1 b_2 x_t3 x_t4)) x.1 x.2) (by kernel_rfl) ?_
  have h16 : (fun (state_1 : UInt64) (b_2 : List UInt8) (x_t3 : Int) (x_t4 : List UInt64) => (crc64_Next_pt [.r, .r, .l, (.call 0 43), .r, .r, .l, .r, .d]).e Try.prog crc64_Next_T crc64_Next_ans (crc64_Next_t16 state_1 b_2 x_t3 x_t4)) = (crc64_Next_p16) := funext fun state_1 => funext fun b_2 => funext fun x_t3 => funext fun x_t4 => crc64_Next_e16 state_1 b_2 x_t3 x_t4
  rw [h16]
  rfl
def crc64_Next_c : Con := ⟨crc64_Next_ps, crc64_Next_rs, fun x => crc64_Next x.1 x.2⟩
theorem crc64_Next_ok : ConOk Try.prog Try.gl 34 crc64_Next_c := con_of_run (T := crc64_Next_T) Try.mixed Try.func34 Try.ent34 TabOk.nil (AnsOk.cons Try.ent42 (AnsOk.cons Try.ent43 AnsOk.nil)) (by kernel_rfl) crc64_Next_run
def crc64_Sum_ps : List Sh := [.lf (.list (.int .u8)) none]
def crc64_Sum_rs : List Sh := [.lf (.int .u64) none, .lf (.int .i64) none]
def crc64_Sum_an : An := .d
def crc64_Sum_T : Tab := ⟨[(34, crc64_Next_c)], Try.gl, false⟩
def crc64_Sum_ans : List (Nat × An) := []
theorem crc64_Sum_run (x : List UInt8) : run Try.prog crc64_Sum_T crc64_Sum_ans Try.f23 crc64_Sum_an crc64_Sum_ps crc64_Sum_rs x = crc64_Sum x := by kernel_rfl
def crc64_Sum_c : Con := ⟨crc64_Sum_ps, crc64_Sum_rs, fun x => crc64_Sum x⟩
theorem crc64_Sum_ok : ConOk Try.prog Try.gl 23 crc64_Sum_c := con_of_run (T := crc64_Sum_T) Try.mixed Try.func23 Try.ent23 (TabOk.cons crc64_Next_ok TabOk.nil) AnsOk.nil (by kernel_rfl) crc64_Sum_run
def seed_Of_ps : List Sh := [.lf (.int .u64) none]
def seed_Of_rs : List Sh := [.lf (.vec 16 (.int .i32)) none]
def seed_Of_an : An := (.seq .d (.seq .d (.cut [2, 3] [] (.seq .d (.blk (.loop [0, 2, 3, 5] [] .d))) .d)))
def seed_Of_T : Tab := ⟨[], Try.gl, false⟩
def seed_Of_ans : List (Nat × An) := []
noncomputable def seed_Of_pt (l : List (PS (((List Int32))))) : Pt (((List Int32))) := Pt.at (R := ((List Int32))) Try.prog seed_Of_T seed_Of_ans (Pt.root Try.prog Try.f24 seed_Of_an seed_Of_rs) l
def seed_Of_t6 (x_t2 : List Int32) : S := ⟨[(2, .ptr 0 []), (3, .ptr 1 [])], [.box 30 (.val (.vec 16 (.int .i32)) (List.replicate 16 (0 : Int32))), .box 30 (.val (.vec 16 (.int .i32)) x_t2)], []⟩
def seed_Of_t4 (digest_1 : UInt64) (x_t1 : Int) (x_t2 : List Int32) : S := ⟨[(0, .val (.int .u64) digest_1), (2, .ptr 0 []), (3, .ptr 1 []), (5, .val (.int .i64) x_t1)], [.box 30 (.val (.vec 16 (.int .i32)) (List.replicate 16 (0 : Int32))), .box 30 (.val (.vec 16 (.int .i32)) x_t2)], []⟩
theorem seed_Of_e6 (x_t2 : List Int32) : (seed_Of_pt [.r, .r, .r]).e Try.prog seed_Of_T seed_Of_ans (seed_Of_t6 x_t2) = seed_Of_p6 x_t2 := by kernel_rfl
theorem seed_Of_i4 (digest_1 : UInt64) : ∀ (q : Nat) (x_t1 : Int) (x_t2 : List Int32), (seed_Of_pt [.r, .r, .l, .r, .d]).it Try.prog seed_Of_T seed_Of_ans q (seed_Of_t4 digest_1 x_t1 x_t2) = seed_Of_l4 digest_1 q x_t1 x_t2 := by
  intro q
  induction q with
  | zero => intros; rfl
  | succ q ih =>
    intro x_t1 x_t2
    refine Eq.trans (b := seed_Of_s4 (fun (x_t2 : List Int32) => (seed_Of_pt [.r, .r, .r]).e Try.prog seed_Of_T seed_Of_ans (seed_Of_t6 x_t2)) (fun (x_t1 : Int) (x_t2 : List Int32) => (seed_Of_pt [.r, .r, .l, .r, .d]).it Try.prog seed_Of_T seed_Of_ans q (seed_Of_t4 digest_1 x_t1 x_t2)) digest_1 x_t1 x_t2) (by kernel_rfl) ?_
    have h6 : (fun (x_t2 : List Int32) => (seed_Of_pt [.r, .r, .r]).e Try.prog seed_Of_T seed_Of_ans (seed_Of_t6 x_t2)) = (seed_Of_p6) := funext fun x_t2 => seed_Of_e6 x_t2
    have hq : (fun (x_t1 : Int) (x_t2 : List Int32) => (seed_Of_pt [.r, .r, .l, .r, .d]).it Try.prog seed_Of_T seed_Of_ans q (seed_Of_t4 digest_1 x_t1 x_t2)) = (seed_Of_l4 digest_1 q) := funext fun x_t1 => funext fun x_t2 => ih x_t1 x_t2
    rw [h6, hq]
    rfl
theorem seed_Of_e4 (digest_1 : UInt64) (x_t1 : Int) (x_t2 : List Int32) : (seed_Of_pt [.r, .r, .l, .r, .d]).e Try.prog seed_Of_T seed_Of_ans (seed_Of_t4 digest_1 x_t1 x_t2) = seed_Of_p4 digest_1 x_t1 x_t2 := Eq.trans (b := (seed_Of_pt [.r, .r, .l, .r, .d]).it Try.prog seed_Of_T seed_Of_ans FUELx (seed_Of_t4 digest_1 x_t1 x_t2)) (by kernel_rfl) (Eq.trans (seed_Of_i4 digest_1 FUELx x_t1 x_t2) (congrArg (fun q => seed_Of_l4 digest_1 q x_t1 x_t2) FUELx_eq))
theorem seed_Of_run (x : UInt64) : run Try.prog seed_Of_T seed_Of_ans Try.f24 seed_Of_an seed_Of_ps seed_Of_rs x = seed_Of x := by
  refine Eq.trans (b := seed_Of_s0 (fun (digest_1 : UInt64) (x_t1 : Int) (x_t2 : List Int32) => (seed_Of_pt [.r, .r, .l, .r, .d]).e Try.prog seed_Of_T seed_Of_ans (seed_Of_t4 digest_1 x_t1 x_t2)) x) (by kernel_rfl) ?_
  have h4 : (fun (digest_1 : UInt64) (x_t1 : Int) (x_t2 : List Int32) => (seed_Of_pt [.r, .r, .l, .r, .d]).e Try.prog seed_Of_T seed_Of_ans (seed_Of_t4 digest_1 x_t1 x_t2)) = (seed_Of_p4) := funext fun digest_1 => funext fun x_t1 => funext fun x_t2 => seed_Of_e4 digest_1 x_t1 x_t2
  rw [h4]
  rfl
def seed_Of_c : Con := ⟨seed_Of_ps, seed_Of_rs, fun x => seed_Of x⟩
theorem seed_Of_ok : ConOk Try.prog Try.gl 24 seed_Of_c := con_of_run (T := seed_Of_T) Try.mixed Try.func24 Try.ent24 TabOk.nil AnsOk.nil (by kernel_rfl) seed_Of_run
def seed_Taps_ps : List Sh := [.lf .str none]
def seed_Taps_rs : List Sh := [.lf (.vec 16 (.int .i32)) none, .lf (.int .i64) none]
def seed_Taps_an : An := .d
def seed_Taps_T : Tab := ⟨[(23, crc64_Sum_c), (24, seed_Of_c)], Try.gl, false⟩
def seed_Taps_ans : List (Nat × An) := []
theorem seed_Taps_run (x : List UInt8) : run Try.prog seed_Taps_T seed_Taps_ans Try.f8 seed_Taps_an seed_Taps_ps seed_Taps_rs x = seed_Taps x := by kernel_rfl
def seed_Taps_c : Con := ⟨seed_Taps_ps, seed_Taps_rs, fun x => seed_Taps x⟩
theorem seed_Taps_ok : ConOk Try.prog Try.gl 8 seed_Taps_c := con_of_run (T := seed_Taps_T) Try.mixed Try.func8 Try.ent8 (TabOk.cons crc64_Sum_ok (TabOk.cons seed_Of_ok TabOk.nil)) AnsOk.nil (by kernel_rfl) seed_Taps_run
def cadenzatop_every19_ps : List Sh := [.lf (.list (.int .i32)) none, .lf (.int .i64) none, .lf (.int .i64) none]
def cadenzatop_every19_rs : List Sh := [.lf (.list (.int .i32)) (some 21)]
def cadenzatop_every19_an : An := (.seq .d (.seq .d (.cut [7] [] (.seq .d (.blk (.loop [0, 2, 7, 8] [⟨7, [], .own 21 (.int .i32)⟩] .d))) .d)))
def cadenzatop_every19_T : Tab := ⟨[], Try.gl, false⟩
def cadenzatop_every19_ans : List (Nat × An) := []
noncomputable def cadenzatop_every19_pt (l : List (PS (((List Int32))))) : Pt (((List Int32))) := Pt.at (R := ((List Int32))) Try.prog cadenzatop_every19_T cadenzatop_every19_ans (Pt.root Try.prog Try.f11 cadenzatop_every19_an cadenzatop_every19_rs) l
def cadenzatop_every19_t6 (x_t2 : List Int32) : S := ⟨[(7, .own 0)], [.arr 21 (.int .i32) x_t2], []⟩
def cadenzatop_every19_t4 (l_1 : List Int32) (by_3 : Int) (from_t1 : Int) (x_t2 : List Int32) : S := ⟨[(0, .val (.list (.int .i32)) l_1), (2, .val (.int .i64) by_3), (7, .own 0), (8, .val (.int .i64) from_t1)], [.arr 21 (.int .i32) x_t2], []⟩
theorem cadenzatop_every19_e6 (x_t2 : List Int32) : (cadenzatop_every19_pt [.r, .r, .r]).e Try.prog cadenzatop_every19_T cadenzatop_every19_ans (cadenzatop_every19_t6 x_t2) = cadenzatop_every19_p6 x_t2 := by kernel_rfl
theorem cadenzatop_every19_i4 (l_1 : List Int32) (by_3 : Int) : ∀ (q : Nat) (from_t1 : Int) (x_t2 : List Int32), (cadenzatop_every19_pt [.r, .r, .l, .r, .d]).it Try.prog cadenzatop_every19_T cadenzatop_every19_ans q (cadenzatop_every19_t4 l_1 by_3 from_t1 x_t2) = cadenzatop_every19_l4 l_1 by_3 q from_t1 x_t2 := by
  intro q
  induction q with
  | zero => intros; rfl
  | succ q ih =>
    intro from_t1 x_t2
    refine Eq.trans (b := cadenzatop_every19_s4 (fun (x_t2 : List Int32) => (cadenzatop_every19_pt [.r, .r, .r]).e Try.prog cadenzatop_every19_T cadenzatop_every19_ans (cadenzatop_every19_t6 x_t2)) (fun (from_t1 : Int) (x_t2 : List Int32) => (cadenzatop_every19_pt [.r, .r, .l, .r, .d]).it Try.prog cadenzatop_every19_T cadenzatop_every19_ans q (cadenzatop_every19_t4 l_1 by_3 from_t1 x_t2)) l_1 by_3 from_t1 x_t2) (by kernel_rfl) ?_
    have h6 : (fun (x_t2 : List Int32) => (cadenzatop_every19_pt [.r, .r, .r]).e Try.prog cadenzatop_every19_T cadenzatop_every19_ans (cadenzatop_every19_t6 x_t2)) = (cadenzatop_every19_p6) := funext fun x_t2 => cadenzatop_every19_e6 x_t2
    have hq : (fun (from_t1 : Int) (x_t2 : List Int32) => (cadenzatop_every19_pt [.r, .r, .l, .r, .d]).it Try.prog cadenzatop_every19_T cadenzatop_every19_ans q (cadenzatop_every19_t4 l_1 by_3 from_t1 x_t2)) = (cadenzatop_every19_l4 l_1 by_3 q) := funext fun from_t1 => funext fun x_t2 => ih from_t1 x_t2
    rw [h6, hq]
    rfl
theorem cadenzatop_every19_e4 (l_1 : List Int32) (by_3 : Int) (from_t1 : Int) (x_t2 : List Int32) : (cadenzatop_every19_pt [.r, .r, .l, .r, .d]).e Try.prog cadenzatop_every19_T cadenzatop_every19_ans (cadenzatop_every19_t4 l_1 by_3 from_t1 x_t2) = cadenzatop_every19_p4 l_1 by_3 from_t1 x_t2 := Eq.trans (b := (cadenzatop_every19_pt [.r, .r, .l, .r, .d]).it Try.prog cadenzatop_every19_T cadenzatop_every19_ans FUELx (cadenzatop_every19_t4 l_1 by_3 from_t1 x_t2)) (by kernel_rfl) (Eq.trans (cadenzatop_every19_i4 l_1 by_3 FUELx from_t1 x_t2) (congrArg (fun q => cadenzatop_every19_l4 l_1 by_3 q from_t1 x_t2) FUELx_eq))
theorem cadenzatop_every19_run (x : List Int32 × Int × Int) : run Try.prog cadenzatop_every19_T cadenzatop_every19_ans Try.f11 cadenzatop_every19_an cadenzatop_every19_ps cadenzatop_every19_rs x = cadenzatop_every19 x.1 x.2.1 x.2.2 := by
  refine Eq.trans (b := cadenzatop_every19_s0 (fun (l_1 : List Int32) (by_3 : Int) (from_t1 : Int) (x_t2 : List Int32) => (cadenzatop_every19_pt [.r, .r, .l, .r, .d]).e Try.prog cadenzatop_every19_T cadenzatop_every19_ans (cadenzatop_every19_t4 l_1 by_3 from_t1 x_t2)) x.1 x.2.1 x.2.2) (by kernel_rfl) ?_
  have h4 : (fun (l_1 : List Int32) (by_3 : Int) (from_t1 : Int) (x_t2 : List Int32) => (cadenzatop_every19_pt [.r, .r, .l, .r, .d]).e Try.prog cadenzatop_every19_T cadenzatop_every19_ans (cadenzatop_every19_t4 l_1 by_3 from_t1 x_t2)) = (cadenzatop_every19_p4) := funext fun l_1 => funext fun by_3 => funext fun from_t1 => funext fun x_t2 => cadenzatop_every19_e4 l_1 by_3 from_t1 x_t2
  rw [h4]
  rfl
def cadenzatop_every19_c : Con := ⟨cadenzatop_every19_ps, cadenzatop_every19_rs, fun x => cadenzatop_every19 x.1 x.2.1 x.2.2⟩
theorem cadenzatop_every19_ok : ConOk Try.prog Try.gl 11 cadenzatop_every19_c := con_of_run (T := cadenzatop_every19_T) Try.mixed Try.func11 Try.ent11 TabOk.nil AnsOk.nil (by kernel_rfl) cadenzatop_every19_run
def first_check_ps : List Sh := [.lf (.int .i64) none, .lf (.list (.int .i32)) none]
def first_check_rs : List Sh := [.lf (.int .i64) none, .lf (.int .i64) none]
def first_check_an : An := .d
def first_check_T : Tab := ⟨[(37, first_Shift_c)], Try.gl, false⟩
def first_check_ans : List (Nat × An) := []
theorem first_check_run (x : Int × List Int32) : run Try.prog first_check_T first_check_ans Try.f27 first_check_an first_check_ps first_check_rs x = first_check x.1 x.2 := by kernel_rfl
def first_check_c : Con := ⟨first_check_ps, first_check_rs, fun x => first_check x.1 x.2⟩
theorem first_check_ok : ConOk Try.prog Try.gl 27 first_check_c := con_of_run (T := first_check_T) Try.mixed Try.func27 Try.ent27 (TabOk.cons first_Shift_ok TabOk.nil) AnsOk.nil (by kernel_rfl) first_check_run
def first_Forward_ps : List Sh := [.lf (.int .i64) none, .lf (.list (.int .i32)) none]
def first_Forward_rs : List Sh := [.lf (.list (.int .i32)) (some 21), .lf (.int .i64) none]
def first_Forward_an : An := (.seq .d (.seq .d (.seq .d (.seq .d (.seq .d (.cut [8] [] (.seq .d (.blk (.loop [6, 8, 9, 21, 22, 23] [⟨8, [], .own 21 (.int .i32)⟩] .d))) .d))))))
def first_Forward_T : Tab := ⟨[(27, first_check_c), (28, first_guess_c)], Try.gl, false⟩
def first_Forward_ans : List (Nat × An) := []
noncomputable def first_Forward_pt (l : List (PS (((List Int32) × Int)))) : Pt (((List Int32) × Int)) := Pt.at (R := ((List Int32) × Int)) Try.prog first_Forward_T first_Forward_ans (Pt.root Try.prog Try.f13 first_Forward_an first_Forward_rs) l
def first_Forward_t6 (x_t3 : List Int32) : S := ⟨[(8, .own 0)], [.arr 21 (.int .i32) x_t3], []⟩
def first_Forward_t4 (r_3 : Int) (l_2 : List Int32) (last_t1 : Int32) (x_t2 : Int) (x_t3 : List Int32) : S := ⟨[(6, .val (.int .i64) r_3), (8, .own 0), (9, .val (.int .i32) last_t1), (21, .val (.list (.int .i32)) l_2), (22, .val (.int .i64) (lenI l_2)), (23, .val (.int .i64) x_t2)], [.arr 21 (.int .i32) x_t3], []⟩
theorem first_Forward_e6 (x_t3 : List Int32) : (first_Forward_pt [.r, .r, .r, .r, .r, .r]).e Try.prog first_Forward_T first_Forward_ans (first_Forward_t6 x_t3) = first_Forward_p6 x_t3 := by kernel_rfl
theorem first_Forward_i4 (r_3 : Int) (l_2 : List Int32) : ∀ (q : Nat) (last_t1 : Int32) (x_t2 : Int) (x_t3 : List Int32), (first_Forward_pt [.r, .r, .r, .r, .r, .l, .r, .d]).it Try.prog first_Forward_T first_Forward_ans q (first_Forward_t4 r_3 l_2 last_t1 x_t2 x_t3) = first_Forward_l4 r_3 l_2 q last_t1 x_t2 x_t3 := by
  intro q
  induction q with
  | zero => intros; rfl
  | succ q ih =>
    intro last_t1 x_t2 x_t3
    refine Eq.trans (b := first_Forward_s4 (fun (x_t3 : List Int32) => (first_Forward_pt [.r, .r, .r, .r, .r, .r]).e Try.prog first_Forward_T first_Forward_ans (first_Forward_t6 x_t3)) (fun (last_t1 : Int32) (x_t2 : Int) (x_t3 : List Int32) => (first_Forward_pt [.r, .r, .r, .r, .r, .l, .r, .d]).it Try.prog first_Forward_T first_Forward_ans q (first_Forward_t4 r_3 l_2 last_t1 x_t2 x_t3)) r_3 l_2 last_t1 x_t2 x_t3) (by kernel_rfl) ?_
    have h6 : (fun (x_t3 : List Int32) => (first_Forward_pt [.r, .r, .r, .r, .r, .r]).e Try.prog first_Forward_T first_Forward_ans (first_Forward_t6 x_t3)) = (first_Forward_p6) := funext fun x_t3 => first_Forward_e6 x_t3
    have hq : (fun (last_t1 : Int32) (x_t2 : Int) (x_t3 : List Int32) => (first_Forward_pt [.r, .r, .r, .r, .r, .l, .r, .d]).it Try.prog first_Forward_T first_Forward_ans q (first_Forward_t4 r_3 l_2 last_t1 x_t2 x_t3)) = (first_Forward_l4 r_3 l_2 q) := funext fun last_t1 => funext fun x_t2 => funext fun x_t3 => ih last_t1 x_t2 x_t3
    rw [h6, hq]
    rfl
theorem first_Forward_e4 (r_3 : Int) (l_2 : List Int32) (last_t1 : Int32) (x_t2 : Int) (x_t3 : List Int32) : (first_Forward_pt [.r, .r, .r, .r, .r, .l, .r, .d]).e Try.prog first_Forward_T first_Forward_ans (first_Forward_t4 r_3 l_2 last_t1 x_t2 x_t3) = first_Forward_p4 r_3 l_2 last_t1 x_t2 x_t3 := Eq.trans (b := (first_Forward_pt [.r, .r, .r, .r, .r, .l, .r, .d]).it Try.prog first_Forward_T first_Forward_ans FUELx (first_Forward_t4 r_3 l_2 last_t1 x_t2 x_t3)) (by kernel_rfl) (Eq.trans (first_Forward_i4 r_3 l_2 FUELx last_t1 x_t2 x_t3) (congrArg (fun q => first_Forward_l4 r_3 l_2 q last_t1 x_t2 x_t3) FUELx_eq))
theorem first_Forward_run (x : Int × List Int32) : run Try.prog first_Forward_T first_Forward_ans Try.f13 first_Forward_an first_Forward_ps first_Forward_rs x = first_Forward x.1 x.2 := by
  refine Eq.trans (b := first_Forward_s0 (fun (r_3 : Int) (l_2 : List Int32) (last_t1 : Int32) (x_t2 : Int) (x_t3 : List Int32) => (first_Forward_pt [.r, .r, .r, .r, .r, .l, .r, .d]).e Try.prog first_Forward_T first_Forward_ans (first_Forward_t4 r_3 l_2 last_t1 x_t2 x_t3)) x.1 x.2) (by kernel_rfl) ?_
  have h4 : (fun (r_3 : Int) (l_2 : List Int32) (last_t1 : Int32) (x_t2 : Int) (x_t3 : List Int32) => (first_Forward_pt [.r, .r, .r, .r, .r, .l, .r, .d]).e Try.prog first_Forward_T first_Forward_ans (first_Forward_t4 r_3 l_2 last_t1 x_t2 x_t3)) = (first_Forward_p4) := funext fun r_3 => funext fun l_2 => funext fun last_t1 => funext fun x_t2 => funext fun x_t3 => first_Forward_e4 r_3 l_2 last_t1 x_t2 x_t3
  rw [h4]
  rfl
def first_Forward_c : Con := ⟨first_Forward_ps, first_Forward_rs, fun x => first_Forward x.1 x.2⟩
theorem first_Forward_ok : ConOk Try.prog Try.gl 13 first_Forward_c := con_of_run (T := first_Forward_T) Try.mixed Try.func13 Try.ent13 (TabOk.cons first_check_ok (TabOk.cons first_guess_ok TabOk.nil)) AnsOk.nil (by kernel_rfl) first_Forward_run
noncomputable def lms_All_s16b (j17 : Int → Int → (List Int32) → (List Int32) → (List Int32) → Option ((List Int32) × Int × (List Int32) × (List Int32) × Int)) (l_4 : List Int32) (f_1 : Int) (f_2 : List Int32) (f_3 : List Int32) (r_7 : Int32) (x_t1 : Int) (f_t2 : Int) (f_t3 : List Int32) (f_t4 : List Int32) (x_t5 : List Int32) (r_8 : Int) (a_9 : List Int32) (a_10 : List Int32) : Option ((List Int32) × Int × (List Int32) × (List Int32) × Int) :=
both (
both (
both (
both (
Option.bind (appI x_t5 ([r_7] : List Int32)) fun l_12 =>
j17 x_t1 r_8 a_9 a_10 l_12) [
Option.bind (appI x_t5 ([r_7] : List Int32)) fun l_12 =>
j17 x_t1 r_8 a_9 a_10 l_12]) [
Option.bind (appI x_t5 ([r_7] : List Int32)) fun l_12 =>
j17 x_t1 r_8 a_9 a_10 l_12]) [
Option.bind (appI x_t5 ([r_7] : List Int32)) fun l_12 =>
j17 x_t1 r_8 a_9 a_10 l_12]) [
both (
both (
both (
Option.bind (appI x_t5 ([r_7] : List Int32)) fun l_12 =>
j17 x_t1 r_8 a_9 a_10 l_12) [
Option.bind (appI x_t5 ([r_7] : List Int32)) fun l_12 =>
j17 x_t1 r_8 a_9 a_10 l_12]) [
Option.bind (appI x_t5 ([r_7] : List Int32)) fun l_12 =>
j17 x_t1 r_8 a_9 a_10 l_12]) [
both (
both (
Option.bind (appI x_t5 ([r_7] : List Int32)) fun l_12 =>
j17 x_t1 r_8 a_9 a_10 l_12) [
Option.bind (appI x_t5 ([r_7] : List Int32)) fun l_12 =>
j17 x_t1 r_8 a_9 a_10 l_12]) [
Option.bind (appI x_t5 ([r_7] : List Int32)) fun l_12 =>
j17 x_t1 r_8 a_9 a_10 l_12],
Option.bind (appI x_t5 ([r_7] : List Int32)) fun l_12 =>
j17 x_t1 r_8 a_9 a_10 l_12],
Option.bind (appI x_t5 ([r_7] : List Int32)) fun l_12 =>
j17 x_t1 r_8 a_9 a_10 l_12]
theorem lms_All_s16b_eq : @lms_All_s16b = @lms_All_s16 := by
  unfold lms_All_s16b lms_All_s16
  repeat (refine funext fun _ => ?_)
  repeat' first
    | with_reducible rfl
    | refine both1_of ?_ ?_
    | refine both2_of ?_ ?_ ?_
    | refine both3_of ?_ ?_ ?_ ?_
    | (refine nilb_of ?_ ?_; (intro h; first | (subst h; rfl) | (simp only [h]; rfl) | (simp [appI, lenI, h]; done)))
    | with_reducible refine bind_of fun x => ?_
    | with_reducible refine ite_of (fun _ => ?_) (fun _ => ?_)
    | (refine bind_cases (fun h => by simp only [h, bind_no, bind_so, bind_to_none, ite_self]) (fun x h => ?_); (try simp only [h, bind_so]))
    | (refine ite_cases (fun h => ?_) (fun h => ?_) <;> simp only [h, if_true, if_false, Bool.false_eq_true])
def lms_All_ps : List Sh := [.agg [.lf (.int .i64) none, .lf (.vec 16 (.int .i32)) none, .lf (.vec 16 (.int .i32)) none], .lf (.list (.int .i32)) none]
def lms_All_rs : List Sh := [.lf (.list (.int .i32)) (some 21), .agg [.lf (.int .i64) none, .lf (.vec 16 (.int .i32)) none, .lf (.vec 16 (.int .i32)) none], .lf (.int .i64) none]
def lms_All_an : An := (.seq .d (.cut [4, 5, 6] [⟨4, [], .own 21 (.int .i32)⟩] (.keep [1, 2, 4, 5, 6, 7, 8, 9, 10, 11, 12] true) .d))
def lms_All_T : Tab := ⟨[(30, lms_Forward_c), (38, taps_Check_c)], Try.gl, false⟩
def lms_All_ans : List (Nat × An) := [(29, (.seq .d (.seq .d (.seq .d (.seq .d (.cut [3, 7, 10] [] (.seq .d (.blk (.loop [2, 3, 7, 10, 26, 27, 28] [⟨10, [], .own 21 (.int .i32)⟩] (.seq .d (.seq .d (.cut [2, 3, 7, 10, 26, 27, 28] [] (.blk (.seq .d (.cut [2, 3, 7, 10, 13, 14, 26, 27, 28] [] .d .d))) .d)))))) .d))))))]
noncomputable def lms_All_pt (l : List (PS (((List Int32) × Int × (List Int32) × (List Int32) × Int)))) : Pt (((List Int32) × Int × (List Int32) × (List Int32) × Int)) := Pt.at (R := ((List Int32) × Int × (List Int32) × (List Int32) × Int)) Try.prog lms_All_T lms_All_ans (Pt.root Try.prog Try.f14 lms_All_an lms_All_rs) l
def lms_All_t20 (r_t6 : Int) (x_t7 : List Int32) (f_t8 : Int) (f_t9 : List Int32) (f_t10 : List Int32) : S := ⟨[(4, .own 0), (5, .ptr 1 []), (6, .val (.int .i64) r_t6)], [.arr 21 (.int .i32) x_t7, .box 34 (.agg [.val (.int .i64) f_t8, .val (.vec 16 (.int .i32)) f_t9, .val (.vec 16 (.int .i32)) f_t10])], []⟩
def lms_All_t19 (l_4 : List Int32) (f_1 : Int) (f_2 : List Int32) (f_3 : List Int32) (f_t2 : Int) (f_t3 : List Int32) (f_t4 : List Int32) (x_t5 : List Int32) : S := ⟨[(3, .ptr 0 []), (7, .ptr 1 []), (10, .own 2)], [.box 34 (.agg [.val (.int .i64) f_t2, .val (.vec 16 (.int .i32)) f_t3, .val (.vec 16 (.int .i32)) f_t4]), .box 34 (.agg [.val (.int .i64) (0 : Int), .val (.vec 16 (.int .i32)) (List.replicate 16 (0 : Int32)), .val (.vec 16 (.int .i32)) (List.replicate 16 (0 : Int32))]), .arr 21 (.int .i32) x_t5, .box 34 (.agg [.val (.int .i64) f_1, .val (.vec 16 (.int .i32)) f_2, .val (.vec 16 (.int .i32)) f_3]), .box 34 (.agg [.val (.int .i64) (0 : Int), .val (.vec 16 (.int .i32)) (List.replicate 16 (0 : Int32)), .val (.vec 16 (.int .i32)) (List.replicate 16 (0 : Int32))])], [[(1, .val (.list (.int .i32)) l_4), (2, .ptr 3 []), (4, .nils), (5, .ptr 4 []), (6, .val (.int .i64) (0 : Int)), (7, .agg [.val (.int .i64) f_1, .val (.vec 16 (.int .i32)) f_2, .val (.vec 16 (.int .i32)) f_3]), (8, .val (.list (.int .i32)) l_4)]]⟩
def lms_All_t17 (l_4 : List Int32) (f_1 : Int) (f_2 : List Int32) (f_3 : List Int32) (x_t1 : Int) (r_8 : Int) (a_9 : List Int32) (a_10 : List Int32) (l_12 : List Int32) : S := ⟨[(2, .fn 30 []), (3, .ptr 0 []), (7, .ptr 1 []), (10, .own 2), (26, .val (.list (.int .i32)) l_4), (27, .val (.int .i64) (lenI l_4)), (28, .val (.int .i64) x_t1)], [.box 34 (.agg [.val (.int .i64) r_8, .val (.vec 16 (.int .i32)) a_9, .val (.vec 16 (.int .i32)) a_10]), .box 34 (.agg [.val (.int .i64) (0 : Int), .val (.vec 16 (.int .i32)) (List.replicate 16 (0 : Int32)), .val (.vec 16 (.int .i32)) (List.replicate 16 (0 : Int32))]), .arr 21 (.int .i32) l_12, .box 34 (.agg [.val (.int .i64) f_1, .val (.vec 16 (.int .i32)) f_2, .val (.vec 16 (.int .i32)) f_3]), .box 34 (.agg [.val (.int .i64) (0 : Int), .val (.vec 16 (.int .i32)) (List.replicate 16 (0 : Int32)), .val (.vec 16 (.int .i32)) (List.replicate 16 (0 : Int32))])], [[(1, .val (.list (.int .i32)) l_4), (2, .ptr 3 []), (4, .nils), (5, .ptr 4 []), (6, .val (.int .i64) (0 : Int)), (7, .agg [.val (.int .i64) f_1, .val (.vec 16 (.int .i32)) f_2, .val (.vec 16 (.int .i32)) f_3]), (8, .val (.list (.int .i32)) l_4)]]⟩
def lms_All_t16 (l_4 : List Int32) (f_1 : Int) (f_2 : List Int32) (f_3 : List Int32) (r_7 : Int32) (x_t1 : Int) (f_t2 : Int) (f_t3 : List Int32) (f_t4 : List Int32) (x_t5 : List Int32) (r_8 : Int) (a_9 : List Int32) (a_10 : List Int32) : S := ⟨[(2, .fn 30 []), (3, .ptr 0 []), (7, .ptr 1 []), (10, .own 2), (13, .val (.int .i32) r_7), (14, .ptr 3 []), (26, .val (.list (.int .i32)) l_4), (27, .val (.int .i64) (lenI l_4)), (28, .val (.int .i64) x_t1)], [.box 34 (.agg [.val (.int .i64) f_t2, .val (.vec 16 (.int .i32)) f_t3, .val (.vec 16 (.int .i32)) f_t4]), .box 34 (.agg [.val (.int .i64) (0 : Int), .val (.vec 16 (.int .i32)) (List.replicate 16 (0 : Int32)), .val (.vec 16 (.int .i32)) (List.replicate 16 (0 : Int32))]), .arr 21 (.int .i32) x_t5, .box 34 (.agg [.val (.int .i64) r_8, .val (.vec 16 (.int .i32)) a_9, .val (.vec 16 (.int .i32)) a_10]), .box 34 (.agg [.val (.int .i64) f_1, .val (.vec 16 (.int .i32)) f_2, .val (.vec 16 (.int .i32)) f_3]), .box 34 (.agg [.val (.int .i64) (0 : Int), .val (.vec 16 (.int .i32)) (List.replicate 16 (0 : Int32)), .val (.vec 16 (.int .i32)) (List.replicate 16 (0 : Int32))])], [[(1, .val (.list (.int .i32)) l_4), (2, .ptr 4 []), (4, .nils), (5, .ptr 5 []), (6, .val (.int .i64) (0 : Int)), (7, .agg [.val (.int .i64) f_1, .val (.vec 16 (.int .i32)) f_2, .val (.vec 16 (.int .i32)) f_3]), (8, .val (.list (.int .i32)) l_4)]]⟩
def lms_All_t11 (l_4 : List Int32) (f_1 : Int) (f_2 : List Int32) (f_3 : List Int32) (x_t1 : Int) (f_t2 : Int) (f_t3 : List Int32) (f_t4 : List Int32) (x_t5 : List Int32) : S := ⟨[(2, .fn 30 []), (3, .ptr 0 []), (7, .ptr 1 []), (10, .own 2), (26, .val (.list (.int .i32)) l_4), (27, .val (.int .i64) (lenI l_4)), (28, .val (.int .i64) x_t1)], [.box 34 (.agg [.val (.int .i64) f_t2, .val (.vec 16 (.int .i32)) f_t3, .val (.vec 16 (.int .i32)) f_t4]), .box 34 (.agg [.val (.int .i64) (0 : Int), .val (.vec 16 (.int .i32)) (List.replicate 16 (0 : Int32)), .val (.vec 16 (.int .i32)) (List.replicate 16 (0 : Int32))]), .arr 21 (.int .i32) x_t5, .box 34 (.agg [.val (.int .i64) f_1, .val (.vec 16 (.int .i32)) f_2, .val (.vec 16 (.int .i32)) f_3]), .box 34 (.agg [.val (.int .i64) (0 : Int), .val (.vec 16 (.int .i32)) (List.replicate 16 (0 : Int32)), .val (.vec 16 (.int .i32)) (List.replicate 16 (0 : Int32))])], [[(1, .val (.list (.int .i32)) l_4), (2, .ptr 3 []), (4, .nils), (5, .ptr 4 []), (6, .val (.int .i64) (0 : Int)), (7, .agg [.val (.int .i64) f_1, .val (.vec 16 (.int .i32)) f_2, .val (.vec 16 (.int .i32)) f_3]), (8, .val (.list (.int .i32)) l_4)]]⟩
theorem lms_All_e20 (r_t6 : Int) (x_t7 : List Int32) (f_t8 : Int) (f_t9 : List Int32) (f_t10 : List Int32) : (lms_All_pt [.r, .r]).e Try.prog lms_All_T lms_All_ans (lms_All_t20 r_t6 x_t7 f_t8 f_t9 f_t10) = lms_All_p20 r_t6 x_t7 f_t8 f_t9 f_t10 := by kernel_rfl
theorem lms_All_e19 (l_4 : List Int32) (f_1 : Int) (f_2 : List Int32) (f_3 : List Int32) (f_t2 : Int) (f_t3 : List Int32) (f_t4 : List Int32) (x_t5 : List Int32) : (lms_All_pt [.r, .l, (.call 2 29), .r, .r, .r, .r, .r]).e Try.prog lms_All_T lms_All_ans (lms_All_t19 l_4 f_1 f_2 f_3 f_t2 f_t3 f_t4 x_t5) = lms_All_p19 l_4 f_1 f_2 f_3 f_t2 f_t3 f_t4 x_t5 := by
  refine Eq.trans (b := lms_All_s19 (fun (r_t6 : Int) (x_t7 : List Int32) (f_t8 : Int) (f_t9 : List Int32) (f_t10 : List Int32) => (lms_All_pt [.r, .r]).e Try.prog lms_All_T lms_All_ans (lms_All_t20 r_t6 x_t7 f_t8 f_t9 f_t10)) l_4 f_1 f_2 f_3 f_t2 f_t3 f_t4 x_t5) (by kernel_rfl) ?_
  have h20 : (fun (r_t6 : Int) (x_t7 : List Int32) (f_t8 : Int) (f_t9 : List Int32) (f_t10 : List Int32) => (lms_All_pt [.r, .r]).e Try.prog lms_All_T lms_All_ans (lms_All_t20 r_t6 x_t7 f_t8 f_t9 f_t10)) = (lms_All_p20) := funext fun r_t6 => funext fun x_t7 => funext fun f_t8 => funext fun f_t9 => funext fun f_t10 => lms_All_e20 r_t6 x_t7 f_t8 f_t9 f_t10
  rw [h20]
  rfl
theorem lms_All_e17 (kn11 : S → Option (((List Int32) × Int × (List Int32) × (List Int32) × Int))) (l_4 : List Int32) (f_1 : Int) (f_2 : List Int32) (f_3 : List Int32) (x_t1 : Int) (r_8 : Int) (a_9 : List Int32) (a_10 : List Int32) (l_12 : List Int32) : (lms_All_pt [.r, .l, (.call 2 29), .r, .r, .r, .r, .l, .r, .d, (.lp kn11), .r, .r, .r]).e Try.prog lms_All_T lms_All_ans (lms_All_t17 l_4 f_1 f_2 f_3 x_t1 r_8 a_9 a_10 l_12) = lms_All_p17 (fun x_t1 f_t2 f_t3 f_t4 x_t5 => kn11 (lms_All_t11 l_4 f_1 f_2 f_3 x_t1 f_t2 f_t3 f_t4 x_t5)) l_4 f_1 f_2 f_3 x_t1 r_8 a_9 a_10 l_12 := by kernel_rfl
theorem lms_All_e16 (kn11 : S → Option (((List Int32) × Int × (List Int32) × (List Int32) × Int))) (l_4 : List Int32) (f_1 : Int) (f_2 : List Int32) (f_3 : List Int32) (r_7 : Int32) (x_t1 : Int) (f_t2 : Int) (f_t3 : List Int32) (f_t4 : List Int32) (x_t5 : List Int32) (r_8 : Int) (a_9 : List Int32) (a_10 : List Int32) : (lms_All_pt [.r, .l, (.call 2 29), .r, .r, .r, .r, .l, .r, .d, (.lp kn11), .r, .r, .l, .d, .r, .r]).e Try.prog lms_All_T lms_All_ans (lms_All_t16 l_4 f_1 f_2 f_3 r_7 x_t1 f_t2 f_t3 f_t4 x_t5 r_8 a_9 a_10) = lms_All_p16 (fun x_t1 f_t2 f_t3 f_t4 x_t5 => kn11 (lms_All_t11 l_4 f_1 f_2 f_3 x_t1 f_t2 f_t3 f_t4 x_t5)) l_4 f_1 f_2 f_3 r_7 x_t1 f_t2 f_t3 f_t4 x_t5 r_8 a_9 a_10 := by
  refine Eq.trans (b := lms_All_s16b (fun (x_t1 : Int) (r_8 : Int) (a_9 : List Int32) (a_10 : List Int32) (l_12 : List Int32) => (lms_All_pt [.r, .l, (.call 2 29), .r, .r, .r, .r, .l, .r, .d, (.lp kn11), .r, .r, .r]).e Try.prog lms_All_T lms_All_ans (lms_All_t17 l_4 f_1 f_2 f_3 x_t1 r_8 a_9 a_10 l_12)) l_4 f_1 f_2 f_3 r_7 x_t1 f_t2 f_t3 f_t4 x_t5 r_8 a_9 a_10) (by kernel_rfl) ?_
  rw [lms_All_s16b_eq]
  have h17 : (fun (x_t1 : Int) (r_8 : Int) (a_9 : List Int32) (a_10 : List Int32) (l_12 : List Int32) => (lms_All_pt [.r, .l, (.call 2 29), .r, .r, .r, .r, .l, .r, .d, (.lp kn11), .r, .r, .r]).e Try.prog lms_All_T lms_All_ans (lms_All_t17 l_4 f_1 f_2 f_3 x_t1 r_8 a_9 a_10 l_12)) = (lms_All_p17 (fun x_t1 f_t2 f_t3 f_t4 x_t5 => kn11 (lms_All_t11 l_4 f_1 f_2 f_3 x_t1 f_t2 f_t3 f_t4 x_t5)) l_4 f_1 f_2 f_3) := funext fun x_t1 => funext fun r_8 => funext fun a_9 => funext fun a_10 => funext fun l_12 => lms_All_e17 kn11 l_4 f_1 f_2 f_3 x_t1 r_8 a_9 a_10 l_12
  rw [h17]
  rfl
theorem lms_All_i11 (l_4 : List Int32) (f_1 : Int) (f_2 : List Int32) (f_3 : List Int32) : ∀ (q : Nat) (x_t1 : Int) (f_t2 : Int) (f_t3 : List Int32) (f_t4 : List Int32) (x_t5 : List Int32), (lms_All_pt [.r, .l, (.call 2 29), .r, .r, .r, .r, .l, .r, .d]).it Try.prog lms_All_T lms_All_ans q (lms_All_t11 l_4 f_1 f_2 f_3 x_t1 f_t2 f_t3 f_t4 x_t5) = lms_All_l11 l_4 f_1 f_2 f_3 q x_t1 f_t2 f_t3 f_t4 x_t5 := by
  intro q
  induction q with
  | zero => intros; rfl
  | succ q ih =>
    intro x_t1 f_t2 f_t3 f_t4 x_t5
    refine Eq.trans (b := lms_All_s11 (fun (r_7 : Int32) (x_t1 : Int) (f_t2 : Int) (f_t3 : List Int32) (f_t4 : List Int32) (x_t5 : List Int32) (r_8 : Int) (a_9 : List Int32) (a_10 : List Int32) => (lms_All_pt [.r, .l, (.call 2 29), .r, .r, .r, .r, .l, .r, .d, (.lp ((lms_All_pt [.r, .l, (.call 2 29), .r, .r, .r, .r, .l, .r, .d]).it Try.prog lms_All_T lms_All_ans q)), .r, .r, .l, .d, .r, .r]).e Try.prog lms_All_T lms_All_ans (lms_All_t16 l_4 f_1 f_2 f_3 r_7 x_t1 f_t2 f_t3 f_t4 x_t5 r_8 a_9 a_10)) (fun (l_4 : List Int32) (f_1 : Int) (f_2 : List Int32) (f_3 : List Int32) (f_t2 : Int) (f_t3 : List Int32) (f_t4 : List Int32) (x_t5 : List Int32) => (lms_All_pt [.r, .l, (.call 2 29), .r, .r, .r, .r, .r]).e Try.prog lms_All_T lms_All_ans (lms_All_t19 l_4 f_1 f_2 f_3 f_t2 f_t3 f_t4 x_t5)) l_4 f_1 f_2 f_3 x_t1 f_t2 f_t3 f_t4 x_t5) (by kernel_rfl) ?_
    have h16 : (fun (r_7 : Int32) (x_t1 : Int) (f_t2 : Int) (f_t3 : List Int32) (f_t4 : List Int32) (x_t5 : List Int32) (r_8 : Int) (a_9 : List Int32) (a_10 : List Int32) => (lms_All_pt [.r, .l, (.call 2 29), .r, .r, .r, .r, .l, .r, .d, (.lp ((lms_All_pt [.r, .l, (.call 2 29), .r, .r, .r, .r, .l, .r, .d]).it Try.prog lms_All_T lms_All_ans q)), .r, .r, .l, .d, .r, .r]).e Try.prog lms_All_T lms_All_ans (lms_All_t16 l_4 f_1 f_2 f_3 r_7 x_t1 f_t2 f_t3 f_t4 x_t5 r_8 a_9 a_10)) = (lms_All_p16 (fun (x_t1 : Int) (f_t2 : Int) (f_t3 : List Int32) (f_t4 : List Int32) (x_t5 : List Int32) => (lms_All_pt [.r, .l, (.call 2 29), .r, .r, .r, .r, .l, .r, .d]).it Try.prog lms_All_T lms_All_ans q (lms_All_t11 l_4 f_1 f_2 f_3 x_t1 f_t2 f_t3 f_t4 x_t5)) l_4 f_1 f_2 f_3) := funext fun r_7 => funext fun x_t1 => funext fun f_t2 => funext fun f_t3 => funext fun f_t4 => funext fun x_t5 => funext fun r_8 => funext fun a_9 => funext fun a_10 => lms_All_e16 ((lms_All_pt [.r, .l, (.call 2 29), .r, .r, .r, .r, .l, .r, .d]).it Try.prog lms_All_T lms_All_ans q) l_4 f_1 f_2 f_3 r_7 x_t1 f_t2 f_t3 f_t4 x_t5 r_8 a_9 a_10
    have h19 : (fun (l_4 : List Int32) (f_1 : Int) (f_2 : List Int32) (f_3 : List Int32) (f_t2 : Int) (f_t3 : List Int32) (f_t4 : List Int32) (x_t5 : List Int32) => (lms_All_pt [.r, .l, (.call 2 29), .r, .r, .r, .r, .r]).e Try.prog lms_All_T lms_All_ans (lms_All_t19 l_4 f_1 f_2 f_3 f_t2 f_t3 f_t4 x_t5)) = (lms_All_p19) := funext fun l_4 => funext fun f_1 => funext fun f_2 => funext fun f_3 => funext fun f_t2 => funext fun f_t3 => funext fun f_t4 => funext fun x_t5 => lms_All_e19 l_4 f_1 f_2 f_3 f_t2 f_t3 f_t4 x_t5
    have hq : (fun (x_t1 : Int) (f_t2 : Int) (f_t3 : List Int32) (f_t4 : List Int32) (x_t5 : List Int32) => (lms_All_pt [.r, .l, (.call 2 29), .r, .r, .r, .r, .l, .r, .d]).it Try.prog lms_All_T lms_All_ans q (lms_All_t11 l_4 f_1 f_2 f_3 x_t1 f_t2 f_t3 f_t4 x_t5)) = (lms_All_l11 l_4 f_1 f_2 f_3 q) := funext fun x_t1 => funext fun f_t2 => funext fun f_t3 => funext fun f_t4 => funext fun x_t5 => ih x_t1 f_t2 f_t3 f_t4 x_t5
    rw [h16, h19, hq]
    rfl
theorem lms_All_e11 (l_4 : List Int32) (f_1 : Int) (f_2 : List Int32) (f_3 : List Int32) (x_t1 : Int) (f_t2 : Int) (f_t3 : List Int32) (f_t4 : List Int32) (x_t5 : List Int32) : (lms_All_pt [.r, .l, (.call 2 29), .r, .r, .r, .r, .l, .r, .d]).e Try.prog lms_All_T lms_All_ans (lms_All_t11 l_4 f_1 f_2 f_3 x_t1 f_t2 f_t3 f_t4 x_t5) = lms_All_p11 l_4 f_1 f_2 f_3 x_t1 f_t2 f_t3 f_t4 x_t5 := Eq.trans (b := (lms_All_pt [.r, .l, (.call 2 29), .r, .r, .r, .r, .l, .r, .d]).it Try.prog lms_All_T lms_All_ans FUELx (lms_All_t11 l_4 f_1 f_2 f_3 x_t1 f_t2 f_t3 f_t4 x_t5)) (by kernel_rfl) (Eq.trans (lms_All_i11 l_4 f_1 f_2 f_3 FUELx x_t1 f_t2 f_t3 f_t4 x_t5) (congrArg (fun q => lms_All_l11 l_4 f_1 f_2 f_3 q x_t1 f_t2 f_t3 f_t4 x_t5) FUELx_eq))
theorem lms_All_run (x : Int × List Int32 × List Int32 × List Int32) : run Try.prog lms_All_T lms_All_ans Try.f14 lms_All_an lms_All_ps lms_All_rs x = lms_All x.1 x.2.1 x.2.2.1 x.2.2.2 := by
  refine Eq.trans (b := lms_All_s0 (fun (r_t6 : Int) (x_t7 : List Int32) (f_t8 : Int) (f_t9 : List Int32) (f_t10 : List Int32) => (lms_All_pt [.r, .r]).e Try.prog lms_All_T lms_All_ans (lms_All_t20 r_t6 x_t7 f_t8 f_t9 f_t10)) (fun (l_4 : List Int32) (f_1 : Int) (f_2 : List Int32) (f_3 : List Int32) (x_t1 : Int) (f_t2 : Int) (f_t3 : List Int32) (f_t4 : List Int32) (x_t5 : List Int32) => (lms_All_pt [.r, .l, (.call 2 29), .r, .r, .r, .r, .l, .r, .d]).e Try.prog lms_All_T lms_All_ans (lms_All_t11 l_4 f_1 f_2 f_3 x_t1 f_t2 f_t3 f_t4 x_t5)) x.1 x.2.1 x.2.2.1 x.2.2.2) (by kernel_rfl) ?_
  have h20 : (fun (r_t6 : Int) (x_t7 : List Int32) (f_t8 : Int) (f_t9 : List Int32) (f_t10 : List Int32) => (lms_All_pt [.r, .r]).e Try.prog lms_All_T lms_All_ans (lms_All_t20 r_t6 x_t7 f_t8 f_t9 f_t10)) = (lms_All_p20) := funext fun r_t6 => funext fun x_t7 => funext fun f_t8 => funext fun f_t9 => funext fun f_t10 => lms_All_e20 r_t6 x_t7 f_t8 f_t9 f_t10
  have h11 : (fun (l_4 : List Int32) (f_1 : Int) (f_2 : List Int32) (f_3 : List Int32) (x_t1 : Int) (f_t2 : Int) (f_t3 : List Int32) (f_t4 : List Int32) (x_t5 : List Int32) => (lms_All_pt [.r, .l, (.call 2 29), .r, .r, .r, .r, .l, .r, .d]).e Try.prog lms_All_T lms_All_ans (lms_All_t11 l_4 f_1 f_2 f_3 x_t1 f_t2 f_t3 f_t4 x_t5)) = (lms_All_p11) := funext fun l_4 => funext fun f_1 => funext fun f_2 => funext fun f_3 => funext fun x_t1 => funext fun f_t2 => funext fun f_t3 => funext fun f_t4 => funext fun x_t5 => lms_All_e11 l_4 f_1 f_2 f_3 x_t1 f_t2 f_t3 f_t4 x_t5
  rw [h20, h11]
  rfl
def lms_All_c : Con := ⟨lms_All_ps, lms_All_rs, fun x => lms_All x.1 x.2.1 x.2.2.1 x.2.2.2⟩
theorem lms_All_ok : ConOk Try.prog Try.gl 14 lms_All_c := con_of_run (T := lms_All_T) Try.mixed Try.func14 Try.ent14 (TabOk.cons lms_Forward_ok (TabOk.cons taps_Check_ok TabOk.nil)) (AnsOk.cons Try.ent29 AnsOk.nil) (by kernel_rfl) lms_All_run
def lms_Back_ps : List Sh := [.agg [.lf (.int .i64) none, .lf (.vec 16 (.int .i32)) none, .lf (.vec 16 (.int .i32)) none], .lf (.int .i32) none]
def lms_Back_rs : List Sh := [.lf (.int .i32) none, .agg [.lf (.int .i64) none, .lf (.vec 16 (.int .i32)) none, .lf (.vec 16 (.int .i32)) none], .lf (.int .i64) none]
def lms_Back_an : An := .d
def lms_Back_T : Tab := ⟨[(39, taps_Guess_c), (40, lms_behind_c)], Try.gl, false⟩
def lms_Back_ans : List (Nat × An) := []
theorem lms_Back_run (x : Int × List Int32 × List Int32 × Int32) : run Try.prog lms_Back_T lms_Back_ans Try.f41 lms_Back_an lms_Back_ps lms_Back_rs x = lms_Back x.1 x.2.1 x.2.2.1 x.2.2.2 := by kernel_rfl
def lms_Back_c : Con := ⟨lms_Back_ps, lms_Back_rs, fun x => lms_Back x.1 x.2.1 x.2.2.1 x.2.2.2⟩
theorem lms_Back_ok : ConOk Try.prog Try.gl 41 lms_Back_c := con_of_run (T := lms_Back_T) Try.mixed Try.func41 Try.ent41 (TabOk.cons taps_Guess_ok (TabOk.cons lms_behind_ok TabOk.nil)) AnsOk.nil (by kernel_rfl) lms_Back_run
noncomputable def chain_Back_s0b (c_1 : Int) (c_2 : Int32) (c_3 : Int) (c_4 : List Int32) (c_5 : List Int32) (y_6 : Int32) : Option (Int32 × Int × Int32 × Int × (List Int32) × (List Int32) × Int) :=
Option.bind (chain_Check c_1 c_2 c_3 c_4 c_5) fun r_7 =>
if (gne r_7 (0 : Int)) = true then (
some ((0 : Int32), (0 : Int), (0 : Int32), (0 : Int), (List.replicate 16 (0 : Int32)), (List.replicate 16 (0 : Int32)), r_7))
else (
Option.bind (first_Guess c_1 c_2) fun (r_8, r_9) =>
Option.bind (lms_Back c_3 c_4 c_5 y_6) fun (r_10, r_11, a_12, a_13, r_14) =>
both (
some ((gadd r_10 r_8), c_1, (gadd r_10 r_8), r_11, a_12, a_13, r_14)) [
some ((gadd r_10 r_8), c_1, (gadd r_10 r_8), r_11, a_12, a_13, r_14)])
theorem chain_Back_s0b_eq : @chain_Back_s0b = @chain_Back := by
  unfold chain_Back_s0b chain_Back
  repeat (refine funext fun _ => ?_)
  repeat' first
    | with_reducible rfl
    | refine both1_of ?_ ?_
    | refine both2_of ?_ ?_ ?_
    | refine both3_of ?_ ?_ ?_ ?_
    | (refine nilb_of ?_ ?_; (intro h; first | (subst h; rfl) | (simp only [h]; rfl) | (simp [appI, lenI, h]; done)))
    | with_reducible refine bind_of fun x => ?_
    | with_reducible refine ite_of (fun _ => ?_) (fun _ => ?_)
    | (refine bind_cases (fun h => by simp only [h, bind_no, bind_so, bind_to_none, ite_self]) (fun x h => ?_); (try simp only [h, bind_so]))
    | (refine ite_cases (fun h => ?_) (fun h => ?_) <;> simp only [h, if_true, if_false, Bool.false_eq_true])
def chain_Back_ps : List Sh := [.agg [.lf (.int .i64) none, .lf (.int .i32) none, .agg [.lf (.int .i64) none, .lf (.vec 16 (.int .i32)) none, .lf (.vec 16 (.int .i32)) none]], .lf (.int .i32) none]
def chain_Back_rs : List Sh := [.lf (.int .i32) none, .agg [.lf (.int .i64) none, .lf (.int .i32) none, .agg [.lf (.int .i64) none, .lf (.vec 16 (.int .i32)) none, .lf (.vec 16 (.int .i32)) none]], .lf (.int .i64) none]
def chain_Back_an : An := (.seq .d (.seq .d (.seq .d (.seq .d (.seq (.mode false) .d)))))
def chain_Back_T : Tab := ⟨[(35, chain_Check_c), (36, first_Guess_c), (41, lms_Back_c)], Try.gl, false⟩
def chain_Back_ans : List (Nat × An) := []
theorem chain_Back_run (x : Int × Int32 × Int × List Int32 × List Int32 × Int32) : run Try.prog chain_Back_T chain_Back_ans Try.f31 chain_Back_an chain_Back_ps chain_Back_rs x = chain_Back x.1 x.2.1 x.2.2.1 x.2.2.2.1 x.2.2.2.2.1 x.2.2.2.2.2 := Eq.trans (b := chain_Back_s0b x.1 x.2.1 x.2.2.1 x.2.2.2.1 x.2.2.2.2.1 x.2.2.2.2.2) (by kernel_rfl) (by rw [chain_Back_s0b_eq])
def chain_Back_c : Con := ⟨chain_Back_ps, chain_Back_rs, fun x => chain_Back x.1 x.2.1 x.2.2.1 x.2.2.2.1 x.2.2.2.2.1 x.2.2.2.2.2⟩
theorem chain_Back_ok : ConOk Try.prog Try.gl 31 chain_Back_c := con_of_run (T := chain_Back_T) Try.mixed Try.func31 Try.ent31 (TabOk.cons chain_Check_ok (TabOk.cons first_Guess_ok (TabOk.cons lms_Back_ok TabOk.nil))) AnsOk.nil (by kernel_rfl) chain_Back_run
def chain_Undo_ps : List Sh := [.agg [.lf (.int .i64) none, .lf (.int .i32) none, .agg [.lf (.int .i64) none, .lf (.vec 16 (.int .i32)) none, .lf (.vec 16 (.int .i32)) none]], .lf (.list (.int .i32)) none]
def chain_Undo_rs : List Sh := [.lf (.list (.int .i32)) (some 21), .agg [.lf (.int .i64) none, .lf (.int .i32) none, .agg [.lf (.int .i64) none, .lf (.vec 16 (.int .i32)) none, .lf (.vec 16 (.int .i32)) none]], .lf (.int .i64) none]
def chain_Undo_an : An := (.seq .d (.seq .d (.seq .d (.cut [2, 5, 8] [] (.seq .d (.blk (.loop [2, 5, 8, 19, 20, 21] [⟨8, [], .own 21 (.int .i32)⟩] .d))) .d))))
def chain_Undo_T : Tab := ⟨[(25, chain_check_c), (31, chain_Back_c)], Try.gl, false⟩
def chain_Undo_ans : List (Nat × An) := []
noncomputable def chain_Undo_pt (l : List (PS (((List Int32) × Int × Int32 × Int × (List Int32) × (List Int32) × Int)))) : Pt (((List Int32) × Int × Int32 × Int × (List Int32) × (List Int32) × Int)) := Pt.at (R := ((List Int32) × Int × Int32 × Int × (List Int32) × (List Int32) × Int)) Try.prog chain_Undo_T chain_Undo_ans (Pt.root Try.prog Try.f15 chain_Undo_an chain_Undo_rs) l
def chain_Undo_t6 (c_t2 : Int) (c_t3 : Int32) (c_t4 : Int) (c_t5 : List Int32) (c_t6 : List Int32) (x_t7 : List Int32) : S := ⟨[(2, .ptr 0 []), (5, .ptr 1 []), (8, .own 2)], [.box 38 (.agg [.val (.int .i64) c_t2, .val (.int .i32) c_t3, .agg [.val (.int .i64) c_t4, .val (.vec 16 (.int .i32)) c_t5, .val (.vec 16 (.int .i32)) c_t6]]), .box 38 (.agg [.val (.int .i64) (0 : Int), .val (.int .i32) (0 : Int32), .agg [.val (.int .i64) (0 : Int), .val (.vec 16 (.int .i32)) (List.replicate 16 (0 : Int32)), .val (.vec 16 (.int .i32)) (List.replicate 16 (0 : Int32))]]), .arr 21 (.int .i32) x_t7], []⟩
def chain_Undo_t4 (l_6 : List Int32) (x_t1 : Int) (c_t2 : Int) (c_t3 : Int32) (c_t4 : Int) (c_t5 : List Int32) (c_t6 : List Int32) (x_t7 : List Int32) : S := ⟨[(2, .ptr 0 []), (5, .ptr 1 []), (8, .own 2), (19, .val (.list (.int .i32)) l_6), (20, .val (.int .i64) (lenI l_6)), (21, .val (.int .i64) x_t1)], [.box 38 (.agg [.val (.int .i64) c_t2, .val (.int .i32) c_t3, .agg [.val (.int .i64) c_t4, .val (.vec 16 (.int .i32)) c_t5, .val (.vec 16 (.int .i32)) c_t6]]), .box 38 (.agg [.val (.int .i64) (0 : Int), .val (.int .i32) (0 : Int32), .agg [.val (.int .i64) (0 : Int), .val (.vec 16 (.int .i32)) (List.replicate 16 (0 : Int32)), .val (.vec 16 (.int .i32)) (List.replicate 16 (0 : Int32))]]), .arr 21 (.int .i32) x_t7], []⟩
theorem chain_Undo_e6 (c_t2 : Int) (c_t3 : Int32) (c_t4 : Int) (c_t5 : List Int32) (c_t6 : List Int32) (x_t7 : List Int32) : (chain_Undo_pt [.r, .r, .r, .r]).e Try.prog chain_Undo_T chain_Undo_ans (chain_Undo_t6 c_t2 c_t3 c_t4 c_t5 c_t6 x_t7) = chain_Undo_p6 c_t2 c_t3 c_t4 c_t5 c_t6 x_t7 := by kernel_rfl
theorem chain_Undo_i4 (l_6 : List Int32) : ∀ (q : Nat) (x_t1 : Int) (c_t2 : Int) (c_t3 : Int32) (c_t4 : Int) (c_t5 : List Int32) (c_t6 : List Int32) (x_t7 : List Int32), (chain_Undo_pt [.r, .r, .r, .l, .r, .d]).it Try.prog chain_Undo_T chain_Undo_ans q (chain_Undo_t4 l_6 x_t1 c_t2 c_t3 c_t4 c_t5 c_t6 x_t7) = chain_Undo_l4 l_6 q x_t1 c_t2 c_t3 c_t4 c_t5 c_t6 x_t7 := by
  intro q
  induction q with
  | zero => intros; rfl
  | succ q ih =>
    intro x_t1 c_t2 c_t3 c_t4 c_t5 c_t6 x_t7
    refine Eq.trans (b := chain_Undo_s4 (fun (c_t2 : Int) (c_t3 : Int32) (c_t4 : Int) (c_t5 : List Int32) (c_t6 : List Int32) (x_t7 : List Int32) => (chain_Undo_pt [.r, .r, .r, .r]).e Try.prog chain_Undo_T chain_Undo_ans (chain_Undo_t6 c_t2 c_t3 c_t4 c_t5 c_t6 x_t7)) (fun (x_t1 : Int) (c_t2 : Int) (c_t3 : Int32) (c_t4 : Int) (c_t5 : List Int32) (c_t6 : List Int32) (x_t7 : List Int32) => (chain_Undo_pt [.r, .r, .r, .l, .r, .d]).it Try.prog chain_Undo_T chain_Undo_ans q (chain_Undo_t4 l_6 x_t1 c_t2 c_t3 c_t4 c_t5 c_t6 x_t7)) l_6 x_t1 c_t2 c_t3 c_t4 c_t5 c_t6 x_t7) (by kernel_rfl) ?_
    have h6 : (fun (c_t2 : Int) (c_t3 : Int32) (c_t4 : Int) (c_t5 : List Int32) (c_t6 : List Int32) (x_t7 : List Int32) => (chain_Undo_pt [.r, .r, .r, .r]).e Try.prog chain_Undo_T chain_Undo_ans (chain_Undo_t6 c_t2 c_t3 c_t4 c_t5 c_t6 x_t7)) = (chain_Undo_p6) := funext fun c_t2 => funext fun c_t3 => funext fun c_t4 => funext fun c_t5 => funext fun c_t6 => funext fun x_t7 => chain_Undo_e6 c_t2 c_t3 c_t4 c_t5 c_t6 x_t7
    have hq : (fun (x_t1 : Int) (c_t2 : Int) (c_t3 : Int32) (c_t4 : Int) (c_t5 : List Int32) (c_t6 : List Int32) (x_t7 : List Int32) => (chain_Undo_pt [.r, .r, .r, .l, .r, .d]).it Try.prog chain_Undo_T chain_Undo_ans q (chain_Undo_t4 l_6 x_t1 c_t2 c_t3 c_t4 c_t5 c_t6 x_t7)) = (chain_Undo_l4 l_6 q) := funext fun x_t1 => funext fun c_t2 => funext fun c_t3 => funext fun c_t4 => funext fun c_t5 => funext fun c_t6 => funext fun x_t7 => ih x_t1 c_t2 c_t3 c_t4 c_t5 c_t6 x_t7
    rw [h6, hq]
    rfl
theorem chain_Undo_e4 (l_6 : List Int32) (x_t1 : Int) (c_t2 : Int) (c_t3 : Int32) (c_t4 : Int) (c_t5 : List Int32) (c_t6 : List Int32) (x_t7 : List Int32) : (chain_Undo_pt [.r, .r, .r, .l, .r, .d]).e Try.prog chain_Undo_T chain_Undo_ans (chain_Undo_t4 l_6 x_t1 c_t2 c_t3 c_t4 c_t5 c_t6 x_t7) = chain_Undo_p4 l_6 x_t1 c_t2 c_t3 c_t4 c_t5 c_t6 x_t7 := Eq.trans (b := (chain_Undo_pt [.r, .r, .r, .l, .r, .d]).it Try.prog chain_Undo_T chain_Undo_ans FUELx (chain_Undo_t4 l_6 x_t1 c_t2 c_t3 c_t4 c_t5 c_t6 x_t7)) (by kernel_rfl) (Eq.trans (chain_Undo_i4 l_6 FUELx x_t1 c_t2 c_t3 c_t4 c_t5 c_t6 x_t7) (congrArg (fun q => chain_Undo_l4 l_6 q x_t1 c_t2 c_t3 c_t4 c_t5 c_t6 x_t7) FUELx_eq))
theorem chain_Undo_run (x : Int × Int32 × Int × List Int32 × List Int32 × List Int32) : run Try.prog chain_Undo_T chain_Undo_ans Try.f15 chain_Undo_an chain_Undo_ps chain_Undo_rs x = chain_Undo x.1 x.2.1 x.2.2.1 x.2.2.2.1 x.2.2.2.2.1 x.2.2.2.2.2 := by
  refine Eq.trans (b := chain_Undo_s0 (fun (l_6 : List Int32) (x_t1 : Int) (c_t2 : Int) (c_t3 : Int32) (c_t4 : Int) (c_t5 : List Int32) (c_t6 : List Int32) (x_t7 : List Int32) => (chain_Undo_pt [.r, .r, .r, .l, .r, .d]).e Try.prog chain_Undo_T chain_Undo_ans (chain_Undo_t4 l_6 x_t1 c_t2 c_t3 c_t4 c_t5 c_t6 x_t7)) x.1 x.2.1 x.2.2.1 x.2.2.2.1 x.2.2.2.2.1 x.2.2.2.2.2) (by kernel_rfl) ?_
  have h4 : (fun (l_6 : List Int32) (x_t1 : Int) (c_t2 : Int) (c_t3 : Int32) (c_t4 : Int) (c_t5 : List Int32) (c_t6 : List Int32) (x_t7 : List Int32) => (chain_Undo_pt [.r, .r, .r, .l, .r, .d]).e Try.prog chain_Undo_T chain_Undo_ans (chain_Undo_t4 l_6 x_t1 c_t2 c_t3 c_t4 c_t5 c_t6 x_t7)) = (chain_Undo_p4) := funext fun l_6 => funext fun x_t1 => funext fun c_t2 => funext fun c_t3 => funext fun c_t4 => funext fun c_t5 => funext fun c_t6 => funext fun x_t7 => chain_Undo_e4 l_6 x_t1 c_t2 c_t3 c_t4 c_t5 c_t6 x_t7
  rw [h4]
  rfl
def chain_Undo_c : Con := ⟨chain_Undo_ps, chain_Undo_rs, fun x => chain_Undo x.1 x.2.1 x.2.2.1 x.2.2.2.1 x.2.2.2.2.1 x.2.2.2.2.2⟩
theorem chain_Undo_ok : ConOk Try.prog Try.gl 15 chain_Undo_c := con_of_run (T := chain_Undo_T) Try.mixed Try.func15 Try.ent15 (TabOk.cons chain_check_ok (TabOk.cons chain_Back_ok TabOk.nil)) AnsOk.nil (by kernel_rfl) chain_Undo_run
def mix_unmix_ps : List Sh := [.lf (.list (.int .i32)) (some 21)]
def mix_unmix_rs : List Sh := []
def mix_unmix_an : An := (.seq .d (.cut [0, 2] [] .d (.seq .d (.blk (.loop [0, 3] [] .d)))))
def mix_unmix_T : Tab := ⟨[], Try.gl, false⟩
def mix_unmix_ans : List (Nat × An) := []
noncomputable def mix_unmix_pt (l : List (PS ((Unit)))) : Pt ((Unit)) := Pt.at (R := (Unit)) Try.prog mix_unmix_T mix_unmix_ans (Pt.root Try.prog Try.f32 mix_unmix_an mix_unmix_rs) l
def mix_unmix_t5 (i_t2 : Int) (l_t3 : List Int32) : S := ⟨[(0, .own 0), (3, .val (.int .i64) i_t2)], [.arr 21 (.int .i32) l_t3], []⟩
def mix_unmix_t4 (l_1 : List Int32) (l_t1 : List Int32) : S := ⟨[(0, .own 0), (2, .val (.int .i64) (gsub (lenI l_1) (1 : Int)))], [.arr 21 (.int .i32) l_t1], []⟩
theorem mix_unmix_i5 : ∀ (q : Nat) (i_t2 : Int) (l_t3 : List Int32), (mix_unmix_pt [.r, .r, .r, .d]).it Try.prog mix_unmix_T mix_unmix_ans q (mix_unmix_t5 i_t2 l_t3) = mix_unmix_l5 q i_t2 l_t3 := by
  intro q
  induction q with
  | zero => intros; rfl
  | succ q ih =>
    intro i_t2 l_t3
    refine Eq.trans (b := mix_unmix_s5 (fun (i_t2 : Int) (l_t3 : List Int32) => (mix_unmix_pt [.r, .r, .r, .d]).it Try.prog mix_unmix_T mix_unmix_ans q (mix_unmix_t5 i_t2 l_t3)) i_t2 l_t3) (by kernel_rfl) ?_
    have hq : (fun (i_t2 : Int) (l_t3 : List Int32) => (mix_unmix_pt [.r, .r, .r, .d]).it Try.prog mix_unmix_T mix_unmix_ans q (mix_unmix_t5 i_t2 l_t3)) = (mix_unmix_l5 q) := funext fun i_t2 => funext fun l_t3 => ih i_t2 l_t3
    rw [hq]
    rfl
theorem mix_unmix_e5 (i_t2 : Int) (l_t3 : List Int32) : (mix_unmix_pt [.r, .r, .r, .d]).e Try.prog mix_unmix_T mix_unmix_ans (mix_unmix_t5 i_t2 l_t3) = mix_unmix_p5 i_t2 l_t3 := Eq.trans (b := (mix_unmix_pt [.r, .r, .r, .d]).it Try.prog mix_unmix_T mix_unmix_ans FUELx (mix_unmix_t5 i_t2 l_t3)) (by kernel_rfl) (Eq.trans (mix_unmix_i5 FUELx i_t2 l_t3) (congrArg (fun q => mix_unmix_l5 q i_t2 l_t3) FUELx_eq))
theorem mix_unmix_e4 (l_1 : List Int32) (l_t1 : List Int32) : (mix_unmix_pt [.r, .r]).e Try.prog mix_unmix_T mix_unmix_ans (mix_unmix_t4 l_1 l_t1) = mix_unmix_p4 l_1 l_t1 := by
  refine Eq.trans (b := mix_unmix_s4 (fun (i_t2 : Int) (l_t3 : List Int32) => (mix_unmix_pt [.r, .r, .r, .d]).e Try.prog mix_unmix_T mix_unmix_ans (mix_unmix_t5 i_t2 l_t3)) l_1 l_t1) (by kernel_rfl) ?_
  have h5 : (fun (i_t2 : Int) (l_t3 : List Int32) => (mix_unmix_pt [.r, .r, .r, .d]).e Try.prog mix_unmix_T mix_unmix_ans (mix_unmix_t5 i_t2 l_t3)) = (mix_unmix_p5) := funext fun i_t2 => funext fun l_t3 => mix_unmix_e5 i_t2 l_t3
  rw [h5]
  rfl
theorem mix_unmix_run (x : List Int32) : run Try.prog mix_unmix_T mix_unmix_ans Try.f32 mix_unmix_an mix_unmix_ps mix_unmix_rs x = mix_unmix x := by
  refine Eq.trans (b := mix_unmix_s0 (fun (l_1 : List Int32) (l_t1 : List Int32) => (mix_unmix_pt [.r, .r]).e Try.prog mix_unmix_T mix_unmix_ans (mix_unmix_t4 l_1 l_t1)) x) (by kernel_rfl) ?_
  have h4 : (fun (l_1 : List Int32) (l_t1 : List Int32) => (mix_unmix_pt [.r, .r]).e Try.prog mix_unmix_T mix_unmix_ans (mix_unmix_t4 l_1 l_t1)) = (mix_unmix_p4) := funext fun l_1 => funext fun l_t1 => mix_unmix_e4 l_1 l_t1
  rw [h4]
  rfl
def mix_unmix_c : Con := ⟨mix_unmix_ps, mix_unmix_rs, fun x => mix_unmix x⟩
theorem mix_unmix_ok : ConOk Try.prog Try.gl 32 mix_unmix_c := con_of_run (T := mix_unmix_T) Try.mixed Try.func32 Try.ent32 TabOk.nil AnsOk.nil (by kernel_rfl) mix_unmix_run
def mix_Undo_ps : List Sh := [.lf (.int .i64) none, .lf (.list (.int .i32)) none]
def mix_Undo_rs : List Sh := [.lf (.list (.int .i32)) (some 21), .lf (.int .i64) none]
def mix_Undo_an : An := (.seq .d (.seq .d (.seq .d (.cut [7] [] (.seq .d (.blk (.loop [0, 7, 8] [] (.seq .d (.cut [0, 7, 8] [] (.blk (.keep [0, 7, 8, 24, 25, 26, 27, 28, 29] true)) .d))))) .d))))
def mix_Undo_T : Tab := ⟨[(20, mix_check_c), (21, slices_Clone_int32_int32_c)], Try.gl, true⟩
def mix_Undo_ans : List (Nat × An) := [(32, (.seq .d (.cut [0, 2] [] .d (.seq .d (.blk (.loop [0, 3] [] .d))))))]
noncomputable def mix_Undo_pt (l : List (PS (((List Int32) × Int)))) : Pt (((List Int32) × Int)) := Pt.at (R := ((List Int32) × Int)) Try.prog mix_Undo_T mix_Undo_ans (Pt.root Try.prog Try.f17 mix_Undo_an mix_Undo_rs) l
def mix_Undo_t22 (l_t5 : List Int32) : S := ⟨[(7, .own 0)], [.arr 21 (.int .i32) l_t5], []⟩
def mix_Undo_t20 (channels_1 : Int) (at_t4 : Int) (l_t8 : List Int32) : S := ⟨[(0, .val (.int .i64) channels_1), (7, .own 0), (8, .val (.int .i64) at_t4)], [.arr 21 (.int .i32) l_t8], []⟩
def mix_Undo_t18 (channels_1 : Int) (at_t4 : Int) (i_t7 : Int) (l_t8 : List Int32) : S := ⟨[(0, .view true 0 [] (.int .i32) at_t4 ((gadd at_t4 channels_1) - at_t4)), (3, .val (.int .i64) i_t7)], [.arr 21 (.int .i32) l_t8], [[(0, .val (.int .i64) channels_1), (7, .own 0), (8, .val (.int .i64) at_t4), (24, .own 0), (25, .val (.int .i64) at_t4), (26, .val (.int .i64) at_t4), (27, .val (.int .i64) channels_1), (28, .val (.int .i64) (gadd at_t4 channels_1)), (29, .view true 0 [] (.int .i32) at_t4 ((gadd at_t4 channels_1) - at_t4))]]⟩
def mix_Undo_t17 (channels_1 : Int) (at_t4 : Int) (l_t6 : List Int32) : S := ⟨[(0, .view true 0 [] (.int .i32) at_t4 ((gadd at_t4 channels_1) - at_t4)), (2, .val (.int .i64) (gsub ((gadd at_t4 channels_1) - at_t4) (1 : Int)))], [.arr 21 (.int .i32) l_t6], [[(0, .val (.int .i64) channels_1), (7, .own 0), (8, .val (.int .i64) at_t4), (24, .own 0), (25, .val (.int .i64) at_t4), (26, .val (.int .i64) at_t4), (27, .val (.int .i64) channels_1), (28, .val (.int .i64) (gadd at_t4 channels_1)), (29, .view true 0 [] (.int .i32) at_t4 ((gadd at_t4 channels_1) - at_t4))]]⟩
def mix_Undo_t12 (channels_1 : Int) (at_t4 : Int) (l_t5 : List Int32) : S := ⟨[(0, .val (.int .i64) channels_1), (7, .own 0), (8, .val (.int .i64) at_t4)], [.arr 21 (.int .i32) l_t5], []⟩
theorem mix_Undo_e22 (l_t5 : List Int32) : (mix_Undo_pt [.r, .r, .r, .r]).e Try.prog mix_Undo_T mix_Undo_ans (mix_Undo_t22 l_t5) = mix_Undo_p22 l_t5 := by kernel_rfl
theorem mix_Undo_e20 (kn12 : S → Option (((List Int32) × Int))) (channels_1 : Int) (at_t4 : Int) (l_t8 : List Int32) : (mix_Undo_pt [.r, .r, .r, .l, .r, .d, (.lp kn12), .r, .r]).e Try.prog mix_Undo_T mix_Undo_ans (mix_Undo_t20 channels_1 at_t4 l_t8) = mix_Undo_p20 (fun at_t4 l_t5 => kn12 (mix_Undo_t12 channels_1 at_t4 l_t5)) channels_1 at_t4 l_t8 := by kernel_rfl
theorem mix_Undo_i18 (kn12 : S → Option (((List Int32) × Int))) (channels_1 : Int) (at_t4 : Int) : ∀ (q : Nat) (i_t7 : Int) (l_t8 : List Int32), (mix_Undo_pt [.r, .r, .r, .l, .r, .d, (.lp kn12), .r, .l, .d, (.call 6 32), .r, .r, .r, .d]).it Try.prog mix_Undo_T mix_Undo_ans q (mix_Undo_t18 channels_1 at_t4 i_t7 l_t8) = mix_Undo_l18 (fun at_t4 l_t5 => kn12 (mix_Undo_t12 channels_1 at_t4 l_t5)) channels_1 at_t4 q i_t7 l_t8 := by
  intro q
  induction q with
  | zero => intros; rfl
  | succ q ih =>
    intro i_t7 l_t8
    refine Eq.trans (b := mix_Undo_s18 (fun (at_t4 : Int) (l_t8 : List Int32) => (mix_Undo_pt [.r, .r, .r, .l, .r, .d, (.lp kn12), .r, .r]).e Try.prog mix_Undo_T mix_Undo_ans (mix_Undo_t20 channels_1 at_t4 l_t8)) (fun (i_t7 : Int) (l_t8 : List Int32) => (mix_Undo_pt [.r, .r, .r, .l, .r, .d, (.lp kn12), .r, .l, .d, (.call 6 32), .r, .r, .r, .d]).it Try.prog mix_Undo_T mix_Undo_ans q (mix_Undo_t18 channels_1 at_t4 i_t7 l_t8)) channels_1 at_t4 i_t7 l_t8) (by kernel_rfl) ?_
    have h20 : (fun (at_t4 : Int) (l_t8 : List Int32) => (mix_Undo_pt [.r, .r, .r, .l, .r, .d, (.lp kn12), .r, .r]).e Try.prog mix_Undo_T mix_Undo_ans (mix_Undo_t20 channels_1 at_t4 l_t8)) = (mix_Undo_p20 (fun at_t4 l_t5 => kn12 (mix_Undo_t12 channels_1 at_t4 l_t5)) channels_1) := funext fun at_t4 => funext fun l_t8 => mix_Undo_e20 kn12 channels_1 at_t4 l_t8
    have hq : (fun (i_t7 : Int) (l_t8 : List Int32) => (mix_Undo_pt [.r, .r, .r, .l, .r, .d, (.lp kn12), .r, .l, .d, (.call 6 32), .r, .r, .r, .d]).it Try.prog mix_Undo_T mix_Undo_ans q (mix_Undo_t18 channels_1 at_t4 i_t7 l_t8)) = (mix_Undo_l18 (fun at_t4 l_t5 => kn12 (mix_Undo_t12 channels_1 at_t4 l_t5)) channels_1 at_t4 q) := funext fun i_t7 => funext fun l_t8 => ih i_t7 l_t8
    rw [h20, hq]
    rfl
theorem mix_Undo_e18 (kn12 : S → Option (((List Int32) × Int))) (channels_1 : Int) (at_t4 : Int) (i_t7 : Int) (l_t8 : List Int32) : (mix_Undo_pt [.r, .r, .r, .l, .r, .d, (.lp kn12), .r, .l, .d, (.call 6 32), .r, .r, .r, .d]).e Try.prog mix_Undo_T mix_Undo_ans (mix_Undo_t18 channels_1 at_t4 i_t7 l_t8) = mix_Undo_p18 (fun at_t4 l_t5 => kn12 (mix_Undo_t12 channels_1 at_t4 l_t5)) channels_1 at_t4 i_t7 l_t8 := Eq.trans (b := (mix_Undo_pt [.r, .r, .r, .l, .r, .d, (.lp kn12), .r, .l, .d, (.call 6 32), .r, .r, .r, .d]).it Try.prog mix_Undo_T mix_Undo_ans FUELx (mix_Undo_t18 channels_1 at_t4 i_t7 l_t8)) (by kernel_rfl) (Eq.trans (mix_Undo_i18 kn12 channels_1 at_t4 FUELx i_t7 l_t8) (congrArg (fun q => mix_Undo_l18 (fun at_t4 l_t5 => kn12 (mix_Undo_t12 channels_1 at_t4 l_t5)) channels_1 at_t4 q i_t7 l_t8) FUELx_eq))
theorem mix_Undo_e17 (kn12 : S → Option (((List Int32) × Int))) (channels_1 : Int) (at_t4 : Int) (l_t6 : List Int32) : (mix_Undo_pt [.r, .r, .r, .l, .r, .d, (.lp kn12), .r, .l, .d, (.call 6 32), .r, .r]).e Try.prog mix_Undo_T mix_Undo_ans (mix_Undo_t17 channels_1 at_t4 l_t6) = mix_Undo_p17 (fun at_t4 l_t5 => kn12 (mix_Undo_t12 channels_1 at_t4 l_t5)) channels_1 at_t4 l_t6 := by
  refine Eq.trans (b := mix_Undo_s17 (fun (at_t4 : Int) (i_t7 : Int) (l_t8 : List Int32) => (mix_Undo_pt [.r, .r, .r, .l, .r, .d, (.lp kn12), .r, .l, .d, (.call 6 32), .r, .r, .r, .d]).e Try.prog mix_Undo_T mix_Undo_ans (mix_Undo_t18 channels_1 at_t4 i_t7 l_t8)) channels_1 at_t4 l_t6) (by kernel_rfl) ?_
  have h18 : (fun (at_t4 : Int) (i_t7 : Int) (l_t8 : List Int32) => (mix_Undo_pt [.r, .r, .r, .l, .r, .d, (.lp kn12), .r, .l, .d, (.call 6 32), .r, .r, .r, .d]).e Try.prog mix_Undo_T mix_Undo_ans (mix_Undo_t18 channels_1 at_t4 i_t7 l_t8)) = (mix_Undo_p18 (fun at_t4 l_t5 => kn12 (mix_Undo_t12 channels_1 at_t4 l_t5)) channels_1) := funext fun at_t4 => funext fun i_t7 => funext fun l_t8 => mix_Undo_e18 kn12 channels_1 at_t4 i_t7 l_t8
  rw [h18]
  rfl
theorem mix_Undo_i12 (channels_1 : Int) : ∀ (q : Nat) (at_t4 : Int) (l_t5 : List Int32), (mix_Undo_pt [.r, .r, .r, .l, .r, .d]).it Try.prog mix_Undo_T mix_Undo_ans q (mix_Undo_t12 channels_1 at_t4 l_t5) = mix_Undo_l12 channels_1 q at_t4 l_t5 := by
  intro q
  induction q with
  | zero => intros; rfl
  | succ q ih =>
    intro at_t4 l_t5
    refine Eq.trans (b := mix_Undo_s12 (fun (at_t4 : Int) (l_t6 : List Int32) => (mix_Undo_pt [.r, .r, .r, .l, .r, .d, (.lp ((mix_Undo_pt [.r, .r, .r, .l, .r, .d]).it Try.prog mix_Undo_T mix_Undo_ans q)), .r, .l, .d, (.call 6 32), .r, .r]).e Try.prog mix_Undo_T mix_Undo_ans (mix_Undo_t17 channels_1 at_t4 l_t6)) (fun (l_t5 : List Int32) => (mix_Undo_pt [.r, .r, .r, .r]).e Try.prog mix_Undo_T mix_Undo_ans (mix_Undo_t22 l_t5)) channels_1 at_t4 l_t5) (by kernel_rfl) ?_
    have h17 : (fun (at_t4 : Int) (l_t6 : List Int32) => (mix_Undo_pt [.r, .r, .r, .l, .r, .d, (.lp ((mix_Undo_pt [.r, .r, .r, .l, .r, .d]).it Try.prog mix_Undo_T mix_Undo_ans q)), .r, .l, .d, (.call 6 32), .r, .r]).e Try.prog mix_Undo_T mix_Undo_ans (mix_Undo_t17 channels_1 at_t4 l_t6)) = (mix_Undo_p17 (fun (at_t4 : Int) (l_t5 : List Int32) => (mix_Undo_pt [.r, .r, .r, .l, .r, .d]).it Try.prog mix_Undo_T mix_Undo_ans q (mix_Undo_t12 channels_1 at_t4 l_t5)) channels_1) := funext fun at_t4 => funext fun l_t6 => mix_Undo_e17 ((mix_Undo_pt [.r, .r, .r, .l, .r, .d]).it Try.prog mix_Undo_T mix_Undo_ans q) channels_1 at_t4 l_t6
    have h22 : (fun (l_t5 : List Int32) => (mix_Undo_pt [.r, .r, .r, .r]).e Try.prog mix_Undo_T mix_Undo_ans (mix_Undo_t22 l_t5)) = (mix_Undo_p22) := funext fun l_t5 => mix_Undo_e22 l_t5
    have hq : (fun (at_t4 : Int) (l_t5 : List Int32) => (mix_Undo_pt [.r, .r, .r, .l, .r, .d]).it Try.prog mix_Undo_T mix_Undo_ans q (mix_Undo_t12 channels_1 at_t4 l_t5)) = (mix_Undo_l12 channels_1 q) := funext fun at_t4 => funext fun l_t5 => ih at_t4 l_t5
    rw [h17, h22, hq]
    rfl
theorem mix_Undo_e12 (channels_1 : Int) (at_t4 : Int) (l_t5 : List Int32) : (mix_Undo_pt [.r, .r, .r, .l, .r, .d]).e Try.prog mix_Undo_T mix_Undo_ans (mix_Undo_t12 channels_1 at_t4 l_t5) = mix_Undo_p12 channels_1 at_t4 l_t5 := Eq.trans (b := (mix_Undo_pt [.r, .r, .r, .l, .r, .d]).it Try.prog mix_Undo_T mix_Undo_ans FUELx (mix_Undo_t12 channels_1 at_t4 l_t5)) (by kernel_rfl) (Eq.trans (mix_Undo_i12 channels_1 FUELx at_t4 l_t5) (congrArg (fun q => mix_Undo_l12 channels_1 q at_t4 l_t5) FUELx_eq))
theorem mix_Undo_run (x : Int × List Int32) : run Try.prog mix_Undo_T mix_Undo_ans Try.f17 mix_Undo_an mix_Undo_ps mix_Undo_rs x = mix_Undo x.1 x.2 := by
  refine Eq.trans (b := mix_Undo_s0 (fun (channels_1 : Int) (at_t4 : Int) (l_t5 : List Int32) => (mix_Undo_pt [.r, .r, .r, .l, .r, .d]).e Try.prog mix_Undo_T mix_Undo_ans (mix_Undo_t12 channels_1 at_t4 l_t5)) x.1 x.2) (by kernel_rfl) ?_
  have h12 : (fun (channels_1 : Int) (at_t4 : Int) (l_t5 : List Int32) => (mix_Undo_pt [.r, .r, .r, .l, .r, .d]).e Try.prog mix_Undo_T mix_Undo_ans (mix_Undo_t12 channels_1 at_t4 l_t5)) = (mix_Undo_p12) := funext fun channels_1 => funext fun at_t4 => funext fun l_t5 => mix_Undo_e12 channels_1 at_t4 l_t5
  rw [h12]
  rfl
def mix_Undo_c : Con := ⟨mix_Undo_ps, mix_Undo_rs, fun x => mix_Undo x.1 x.2⟩
theorem mix_Undo_ok : ConOk Try.prog Try.gl 17 mix_Undo_c := con_of_run (T := mix_Undo_T) Try.mixed Try.func17 Try.ent17 (TabOk.cons mix_check_ok (TabOk.cons slices_Clone_int32_int32_ok TabOk.nil)) (AnsOk.cons Try.ent32 AnsOk.nil) (by kernel_rfl) mix_Undo_run
def width_Check_ps : List Sh := [.lf (.int .i64) none, .lf (.list (.int .i32)) none]
def width_Check_rs : List Sh := [.lf (.int .i64) none]
def width_Check_an : An := (.seq .d (.seq .d (.seq .d (.seq .d (.cut [] [] (.seq .d (.blk (.loop [5, 6, 22, 23, 24] [] .d))) .d)))))
def width_Check_T : Tab := ⟨[(19, width_Range_c)], Try.gl, false⟩
def width_Check_ans : List (Nat × An) := []
noncomputable def width_Check_pt (l : List (PS ((Int)))) : Pt ((Int)) := Pt.at (R := (Int)) Try.prog width_Check_T width_Check_ans (Pt.root Try.prog Try.f33 width_Check_an width_Check_rs) l
def width_Check_t6 : S := ⟨[], [], []⟩
def width_Check_t4 (r_3 : Int32) (r_4 : Int32) (l_2 : List Int32) (x_t1 : Int) : S := ⟨[(5, .val (.int .i32) r_3), (6, .val (.int .i32) r_4), (22, .val (.list (.int .i32)) l_2), (23, .val (.int .i64) (lenI l_2)), (24, .val (.int .i64) x_t1)], [], []⟩
theorem width_Check_e6 : (width_Check_pt [.r, .r, .r, .r, .r]).e Try.prog width_Check_T width_Check_ans (width_Check_t6) = width_Check_p6 := by kernel_rfl
theorem width_Check_i4 (r_3 : Int32) (r_4 : Int32) (l_2 : List Int32) : ∀ (q : Nat) (x_t1 : Int), (width_Check_pt [.r, .r, .r, .r, .l, .r, .d]).it Try.prog width_Check_T width_Check_ans q (width_Check_t4 r_3 r_4 l_2 x_t1) = width_Check_l4 r_3 r_4 l_2 q x_t1 := by
  intro q
  induction q with
  | zero => intros; rfl
  | succ q ih =>
    intro x_t1
    refine Eq.trans (b := width_Check_s4 ((width_Check_pt [.r, .r, .r, .r, .r]).e Try.prog width_Check_T width_Check_ans (width_Check_t6)) (fun (x_t1 : Int) => (width_Check_pt [.r, .r, .r, .r, .l, .r, .d]).it Try.prog width_Check_T width_Check_ans q (width_Check_t4 r_3 r_4 l_2 x_t1)) r_3 r_4 l_2 x_t1) (by kernel_rfl) ?_
    have h6 : ((width_Check_pt [.r, .r, .r, .r, .r]).e Try.prog width_Check_T width_Check_ans (width_Check_t6)) = (width_Check_p6) := width_Check_e6
    have hq : (fun (x_t1 : Int) => (width_Check_pt [.r, .r, .r, .r, .l, .r, .d]).it Try.prog width_Check_T width_Check_ans q (width_Check_t4 r_3 r_4 l_2 x_t1)) = (width_Check_l4 r_3 r_4 l_2 q) := funext fun x_t1 => ih x_t1
    rw [h6, hq]
    rfl
theorem width_Check_e4 (r_3 : Int32) (r_4 : Int32) (l_2 : List Int32) (x_t1 : Int) : (width_Check_pt [.r, .r, .r, .r, .l, .r, .d]).e Try.prog width_Check_T width_Check_ans (width_Check_t4 r_3 r_4 l_2 x_t1) = width_Check_p4 r_3 r_4 l_2 x_t1 := Eq.trans (b := (width_Check_pt [.r, .r, .r, .r, .l, .r, .d]).it Try.prog width_Check_T width_Check_ans FUELx (width_Check_t4 r_3 r_4 l_2 x_t1)) (by kernel_rfl) (Eq.trans (width_Check_i4 r_3 r_4 l_2 FUELx x_t1) (congrArg (fun q => width_Check_l4 r_3 r_4 l_2 q x_t1) FUELx_eq))
theorem width_Check_run (x : Int × List Int32) : run Try.prog width_Check_T width_Check_ans Try.f33 width_Check_an width_Check_ps width_Check_rs x = width_Check x.1 x.2 := by
  refine Eq.trans (b := width_Check_s0 (fun (r_3 : Int32) (r_4 : Int32) (l_2 : List Int32) (x_t1 : Int) => (width_Check_pt [.r, .r, .r, .r, .l, .r, .d]).e Try.prog width_Check_T width_Check_ans (width_Check_t4 r_3 r_4 l_2 x_t1)) x.1 x.2) (by kernel_rfl) ?_
  have h4 : (fun (r_3 : Int32) (r_4 : Int32) (l_2 : List Int32) (x_t1 : Int) => (width_Check_pt [.r, .r, .r, .r, .l, .r, .d]).e Try.prog width_Check_T width_Check_ans (width_Check_t4 r_3 r_4 l_2 x_t1)) = (width_Check_p4) := funext fun r_3 => funext fun r_4 => funext fun l_2 => funext fun x_t1 => width_Check_e4 r_3 r_4 l_2 x_t1
  rw [h4]
  rfl
def width_Check_c : Con := ⟨width_Check_ps, width_Check_rs, fun x => width_Check x.1 x.2⟩
theorem width_Check_ok : ConOk Try.prog Try.gl 33 width_Check_c := con_of_run (T := width_Check_T) Try.mixed Try.func33 Try.ent33 (TabOk.cons width_Range_ok TabOk.nil) AnsOk.nil (by kernel_rfl) width_Check_run
def width_Bytes_ps : List Sh := [.lf (.int .i64) none, .lf (.list (.int .i32)) none]
def width_Bytes_rs : List Sh := [.lf (.list (.int .u8)) (some 5), .lf (.int .i64) none]
def width_Bytes_an : An := (.seq .d (.seq .d (.seq .d (.cut [7] [] (.seq .d (.blk (.loop [0, 7, 17, 18, 19] [⟨7, [], .own 5 (.int .u8)⟩] (.seq .d (.seq .d (.cut [0, 7, 17, 18, 19] [] (.blk (.seq .d (.cut [0, 7, 9, 17, 18, 19] [] .d (.seq .d (.blk (.loop [0, 7, 9, 17, 18, 19, 28, 29] [] .d)))))) .d)))))) .d))))
def width_Bytes_T : Tab := ⟨[(33, width_Check_c)], Try.gl, false⟩
def width_Bytes_ans : List (Nat × An) := []
noncomputable def width_Bytes_pt (l : List (PS (((List UInt8) × Int)))) : Pt (((List UInt8) × Int)) := Pt.at (R := ((List UInt8) × Int)) Try.prog width_Bytes_T width_Bytes_ans (Pt.root Try.prog Try.f18 width_Bytes_an width_Bytes_rs) l
def width_Bytes_t30 (x_t8 : List UInt8) : S := ⟨[(7, .own 0)], [.arr 5 (.int .u8) x_t8], []⟩
def width_Bytes_t28 (bits_1 : Int) (l_2 : List Int32) (x_t7 : Int) (x_t11 : List UInt8) : S := ⟨[(0, .val (.int .i64) bits_1), (7, .own 0), (17, .val (.list (.int .i32)) l_2), (18, .val (.int .i64) (lenI l_2)), (19, .val (.int .i64) x_t7)], [.arr 5 (.int .u8) x_t11], []⟩
def width_Bytes_t26 (bits_1 : Int) (l_2 : List Int32) (c_t9 : Int32) (x_t7 : Int) (x_t10 : Int) (x_t11 : List UInt8) : S := ⟨[(0, .val (.int .i64) bits_1), (7, .own 0), (9, .val (.int .i32) c_t9), (17, .val (.list (.int .i32)) l_2), (18, .val (.int .i64) (lenI l_2)), (19, .val (.int .i64) x_t7), (28, .val (.int .i64) (gquo bits_1 (8 : Int))), (29, .val (.int .i64) x_t10)], [.arr 5 (.int .u8) x_t11], []⟩
def width_Bytes_t25 (bits_1 : Int) (l_2 : List Int32) (x_t7 : Int) (x_t8 : List UInt8) (c_t9 : Int32) : S := ⟨[(0, .val (.int .i64) bits_1), (7, .own 0), (9, .val (.int .i32) c_t9), (17, .val (.list (.int .i32)) l_2), (18, .val (.int .i64) (lenI l_2)), (19, .val (.int .i64) x_t7)], [.arr 5 (.int .u8) x_t8], []⟩
def width_Bytes_t16 (bits_1 : Int) (l_2 : List Int32) (x_t7 : Int) (x_t8 : List UInt8) : S := ⟨[(0, .val (.int .i64) bits_1), (7, .own 0), (17, .val (.list (.int .i32)) l_2), (18, .val (.int .i64) (lenI l_2)), (19, .val (.int .i64) x_t7)], [.arr 5 (.int .u8) x_t8], []⟩
theorem width_Bytes_e30 (x_t8 : List UInt8) : (width_Bytes_pt [.r, .r, .r, .r]).e Try.prog width_Bytes_T width_Bytes_ans (width_Bytes_t30 x_t8) = width_Bytes_p30 x_t8 := by kernel_rfl
theorem width_Bytes_e28 (kn16 : S → Option (((List UInt8) × Int))) (bits_1 : Int) (l_2 : List Int32) (x_t7 : Int) (x_t11 : List UInt8) : (width_Bytes_pt [.r, .r, .r, .l, .r, .d, (.lp kn16), .r, .r, .r]).e Try.prog width_Bytes_T width_Bytes_ans (width_Bytes_t28 bits_1 l_2 x_t7 x_t11) = width_Bytes_p28 (fun x_t7 x_t8 => kn16 (width_Bytes_t16 bits_1 l_2 x_t7 x_t8)) bits_1 l_2 x_t7 x_t11 := by kernel_rfl
theorem width_Bytes_i26 (kn16 : S → Option (((List UInt8) × Int))) (bits_1 : Int) (l_2 : List Int32) (c_t9 : Int32) (x_t7 : Int) : ∀ (q : Nat) (x_t10 : Int) (x_t11 : List UInt8), (width_Bytes_pt [.r, .r, .r, .l, .r, .d, (.lp kn16), .r, .r, .l, .d, .r, .r, .r, .d]).it Try.prog width_Bytes_T width_Bytes_ans q (width_Bytes_t26 bits_1 l_2 c_t9 x_t7 x_t10 x_t11) = width_Bytes_l26 (fun x_t7 x_t8 => kn16 (width_Bytes_t16 bits_1 l_2 x_t7 x_t8)) bits_1 l_2 c_t9 x_t7 q x_t10 x_t11 := by
  intro q
  induction q with
  | zero => intros; rfl
  | succ q ih =>
    intro x_t10 x_t11
    refine Eq.trans (b := width_Bytes_s26 (fun (x_t7 : Int) (x_t11 : List UInt8) => (width_Bytes_pt [.r, .r, .r, .l, .r, .d, (.lp kn16), .r, .r, .r]).e Try.prog width_Bytes_T width_Bytes_ans (width_Bytes_t28 bits_1 l_2 x_t7 x_t11)) (fun (x_t10 : Int) (x_t11 : List UInt8) => (width_Bytes_pt [.r, .r, .r, .l, .r, .d, (.lp kn16), .r, .r, .l, .d, .r, .r, .r, .d]).it Try.prog width_Bytes_T width_Bytes_ans q (width_Bytes_t26 bits_1 l_2 c_t9 x_t7 x_t10 x_t11)) bits_1 l_2 c_t9 x_t7 x_t10 x_t11) (by kernel_rfl) ?_
    have h28 : (fun (x_t7 : Int) (x_t11 : List UInt8) => (width_Bytes_pt [.r, .r, .r, .l, .r, .d, (.lp kn16), .r, .r, .r]).e Try.prog width_Bytes_T width_Bytes_ans (width_Bytes_t28 bits_1 l_2 x_t7 x_t11)) = (width_Bytes_p28 (fun x_t7 x_t8 => kn16 (width_Bytes_t16 bits_1 l_2 x_t7 x_t8)) bits_1 l_2) := funext fun x_t7 => funext fun x_t11 => width_Bytes_e28 kn16 bits_1 l_2 x_t7 x_t11
    have hq : (fun (x_t10 : Int) (x_t11 : List UInt8) => (width_Bytes_pt [.r, .r, .r, .l, .r, .d, (.lp kn16), .r, .r, .l, .d, .r, .r, .r, .d]).it Try.prog width_Bytes_T width_Bytes_ans q (width_Bytes_t26 bits_1 l_2 c_t9 x_t7 x_t10 x_t11)) = (width_Bytes_l26 (fun x_t7 x_t8 => kn16 (width_Bytes_t16 bits_1 l_2 x_t7 x_t8)) bits_1 l_2 c_t9 x_t7 q) := funext fun x_t10 => funext fun x_t11 => ih x_t10 x_t11
    rw [h28, hq]
    rfl
theorem width_Bytes_e26 (kn16 : S → Option (((List UInt8) × Int))) (bits_1 : Int) (l_2 : List Int32) (c_t9 : Int32) (x_t7 : Int) (x_t10 : Int) (x_t11 : List UInt8) : (width_Bytes_pt [.r, .r, .r, .l, .r, .d, (.lp kn16), .r, .r, .l, .d, .r, .r, .r, .d]).e Try.prog width_Bytes_T width_Bytes_ans (width_Bytes_t26 bits_1 l_2 c_t9 x_t7 x_t10 x_t11) = width_Bytes_p26 (fun x_t7 x_t8 => kn16 (width_Bytes_t16 bits_1 l_2 x_t7 x_t8)) bits_1 l_2 c_t9 x_t7 x_t10 x_t11 := Eq.trans (b := (width_Bytes_pt [.r, .r, .r, .l, .r, .d, (.lp kn16), .r, .r, .l, .d, .r, .r, .r, .d]).it Try.prog width_Bytes_T width_Bytes_ans FUELx (width_Bytes_t26 bits_1 l_2 c_t9 x_t7 x_t10 x_t11)) (by kernel_rfl) (Eq.trans (width_Bytes_i26 kn16 bits_1 l_2 c_t9 x_t7 FUELx x_t10 x_t11) (congrArg (fun q => width_Bytes_l26 (fun x_t7 x_t8 => kn16 (width_Bytes_t16 bits_1 l_2 x_t7 x_t8)) bits_1 l_2 c_t9 x_t7 q x_t10 x_t11) FUELx_eq))
theorem width_Bytes_e25 (kn16 : S → Option (((List UInt8) × Int))) (bits_1 : Int) (l_2 : List Int32) (x_t7 : Int) (x_t8 : List UInt8) (c_t9 : Int32) : (width_Bytes_pt [.r, .r, .r, .l, .r, .d, (.lp kn16), .r, .r, .l, .d, .r, .r]).e Try.prog width_Bytes_T width_Bytes_ans (width_Bytes_t25 bits_1 l_2 x_t7 x_t8 c_t9) = width_Bytes_p25 (fun x_t7 x_t8 => kn16 (width_Bytes_t16 bits_1 l_2 x_t7 x_t8)) bits_1 l_2 x_t7 x_t8 c_t9 := by
  refine Eq.trans (b := width_Bytes_s25 (fun (c_t9 : Int32) (x_t7 : Int) (x_t10 : Int) (x_t11 : List UInt8) => (width_Bytes_pt [.r, .r, .r, .l, .r, .d, (.lp kn16), .r, .r, .l, .d, .r, .r, .r, .d]).e Try.prog width_Bytes_T width_Bytes_ans (width_Bytes_t26 bits_1 l_2 c_t9 x_t7 x_t10 x_t11)) bits_1 l_2 x_t7 x_t8 c_t9) (by kernel_rfl) ?_
  have h26 : (fun (c_t9 : Int32) (x_t7 : Int) (x_t10 : Int) (x_t11 : List UInt8) => (width_Bytes_pt [.r, .r, .r, .l, .r, .d, (.lp kn16), .r, .r, .l, .d, .r, .r, .r, .d]).e Try.prog width_Bytes_T width_Bytes_ans (width_Bytes_t26 bits_1 l_2 c_t9 x_t7 x_t10 x_t11)) = (width_Bytes_p26 (fun x_t7 x_t8 => kn16 (width_Bytes_t16 bits_1 l_2 x_t7 x_t8)) bits_1 l_2) := funext fun c_t9 => funext fun x_t7 => funext fun x_t10 => funext fun x_t11 => width_Bytes_e26 kn16 bits_1 l_2 c_t9 x_t7 x_t10 x_t11
  rw [h26]
  rfl
theorem width_Bytes_i16 (bits_1 : Int) (l_2 : List Int32) : ∀ (q : Nat) (x_t7 : Int) (x_t8 : List UInt8), (width_Bytes_pt [.r, .r, .r, .l, .r, .d]).it Try.prog width_Bytes_T width_Bytes_ans q (width_Bytes_t16 bits_1 l_2 x_t7 x_t8) = width_Bytes_l16 bits_1 l_2 q x_t7 x_t8 := by
  intro q
  induction q with
  | zero => intros; rfl
  | succ q ih =>
    intro x_t7 x_t8
    refine Eq.trans (b := width_Bytes_s16 (fun (x_t7 : Int) (x_t8 : List UInt8) (c_t9 : Int32) => (width_Bytes_pt [.r, .r, .r, .l, .r, .d, (.lp ((width_Bytes_pt [.r, .r, .r, .l, .r, .d]).it Try.prog width_Bytes_T width_Bytes_ans q)), .r, .r, .l, .d, .r, .r]).e Try.prog width_Bytes_T width_Bytes_ans (width_Bytes_t25 bits_1 l_2 x_t7 x_t8 c_t9)) (fun (x_t8 : List UInt8) => (width_Bytes_pt [.r, .r, .r, .r]).e Try.prog width_Bytes_T width_Bytes_ans (width_Bytes_t30 x_t8)) bits_1 l_2 x_t7 x_t8) (by kernel_rfl) ?_
    have h25 : (fun (x_t7 : Int) (x_t8 : List UInt8) (c_t9 : Int32) => (width_Bytes_pt [.r, .r, .r, .l, .r, .d, (.lp ((width_Bytes_pt [.r, .r, .r, .l, .r, .d]).it Try.prog width_Bytes_T width_Bytes_ans q)), .r, .r, .l, .d, .r, .r]).e Try.prog width_Bytes_T width_Bytes_ans (width_Bytes_t25 bits_1 l_2 x_t7 x_t8 c_t9)) = (width_Bytes_p25 (fun (x_t7 : Int) (x_t8 : List UInt8) => (width_Bytes_pt [.r, .r, .r, .l, .r, .d]).it Try.prog width_Bytes_T width_Bytes_ans q (width_Bytes_t16 bits_1 l_2 x_t7 x_t8)) bits_1 l_2) := funext fun x_t7 => funext fun x_t8 => funext fun c_t9 => width_Bytes_e25 ((width_Bytes_pt [.r, .r, .r, .l, .r, .d]).it Try.prog width_Bytes_T width_Bytes_ans q) bits_1 l_2 x_t7 x_t8 c_t9
    have h30 : (fun (x_t8 : List UInt8) => (width_Bytes_pt [.r, .r, .r, .r]).e Try.prog width_Bytes_T width_Bytes_ans (width_Bytes_t30 x_t8)) = (width_Bytes_p30) := funext fun x_t8 => width_Bytes_e30 x_t8
    have hq : (fun (x_t7 : Int) (x_t8 : List UInt8) => (width_Bytes_pt [.r, .r, .r, .l, .r, .d]).it Try.prog width_Bytes_T width_Bytes_ans q (width_Bytes_t16 bits_1 l_2 x_t7 x_t8)) = (width_Bytes_l16 bits_1 l_2 q) := funext fun x_t7 => funext fun x_t8 => ih x_t7 x_t8
    rw [h25, h30, hq]
    rfl
theorem width_Bytes_e16 (bits_1 : Int) (l_2 : List Int32) (x_t7 : Int) (x_t8 : List UInt8) : (width_Bytes_pt [.r, .r, .r, .l, .r, .d]).e Try.prog width_Bytes_T width_Bytes_ans (width_Bytes_t16 bits_1 l_2 x_t7 x_t8) = width_Bytes_p16 bits_1 l_2 x_t7 x_t8 := Eq.trans (b := (width_Bytes_pt [.r, .r, .r, .l, .r, .d]).it Try.prog width_Bytes_T width_Bytes_ans FUELx (width_Bytes_t16 bits_1 l_2 x_t7 x_t8)) (by kernel_rfl) (Eq.trans (width_Bytes_i16 bits_1 l_2 FUELx x_t7 x_t8) (congrArg (fun q => width_Bytes_l16 bits_1 l_2 q x_t7 x_t8) FUELx_eq))
theorem width_Bytes_run (x : Int × List Int32) : run Try.prog width_Bytes_T width_Bytes_ans Try.f18 width_Bytes_an width_Bytes_ps width_Bytes_rs x = width_Bytes x.1 x.2 := by
  refine Eq.trans (b := width_Bytes_s0 (fun (bits_1 : Int) (l_2 : List Int32) (x_t7 : Int) (x_t8 : List UInt8) => (width_Bytes_pt [.r, .r, .r, .l, .r, .d]).e Try.prog width_Bytes_T width_Bytes_ans (width_Bytes_t16 bits_1 l_2 x_t7 x_t8)) x.1 x.2) (by kernel_rfl) ?_
  have h16 : (fun (bits_1 : Int) (l_2 : List Int32) (x_t7 : Int) (x_t8 : List UInt8) => (width_Bytes_pt [.r, .r, .r, .l, .r, .d]).e Try.prog width_Bytes_T width_Bytes_ans (width_Bytes_t16 bits_1 l_2 x_t7 x_t8)) = (width_Bytes_p16) := funext fun bits_1 => funext fun l_2 => funext fun x_t7 => funext fun x_t8 => width_Bytes_e16 bits_1 l_2 x_t7 x_t8
  rw [h16]
  rfl
def width_Bytes_c : Con := ⟨width_Bytes_ps, width_Bytes_rs, fun x => width_Bytes x.1 x.2⟩
theorem width_Bytes_ok : ConOk Try.prog Try.gl 18 width_Bytes_c := con_of_run (T := width_Bytes_T) Try.mixed Try.func18 Try.ent18 (TabOk.cons width_Check_ok TabOk.nil) AnsOk.nil (by kernel_rfl) width_Bytes_run
def cadenzatop_TopChannel_ps : List Sh := [.lf (.int .i64) none, .lf (.int .i64) none, .lf .str none, .lf (.list (.int .u8)) none]
def cadenzatop_TopChannel_rs : List Sh := [.lf .bool none]
def cadenzatop_TopChannel_an : An := (.seq .d (.seq .d (.seq .d (.seq .d (.cut [0, 1, 2, 3, 9, 10] [] .d (.seq .d (.seq .d (.seq .d (.seq .d (.seq .d (.seq .d (.cut [0, 1, 3, 9, 20] [] (.seq .d (.blk (.loop [0, 1, 3, 9, 12, 16, 18, 20, 21] [] (.seq .d (.cut [0, 1, 3, 9, 12, 16, 18, 20, 21] [] (.blk (.seq .d (.seq .d (.seq .d (.seq .d (.seq .d (.cut [0, 1, 3, 9, 12, 16, 18, 20, 21, 31] [] .d (.seq .d (.blk (.loop [0, 1, 3, 9, 12, 16, 18, 20, 21, 31, 34] [] .d)))))))))) .d))))) .d))))))))))))
def cadenzatop_TopChannel_T : Tab := ⟨[(4, cadenzatop_alive19_c), (5, width_Samples_c), (6, cadenzaref17_Check_c), (7, mix_All_c), (8, seed_Taps_c), (9, taps_New_c), (10, chain_New_c), (11, cadenzatop_every19_c), (12, chain_All_c), (13, first_Forward_c), (14, lms_All_c), (15, chain_Undo_c), (16, cadenzaref13_Same_c), (17, mix_Undo_c), (18, width_Bytes_c)], Try.gl, false⟩
def cadenzatop_TopChannel_ans : List (Nat × An) := []
noncomputable def cadenzatop_TopChannel_pt (l : List (PS ((Bool)))) : Pt ((Bool)) := Pt.at (R := (Bool)) Try.prog cadenzatop_TopChannel_T cadenzatop_TopChannel_ans (Pt.root Try.prog Try.f3 cadenzatop_TopChannel_an cadenzatop_TopChannel_rs) l
def cadenzatop_TopChannel_t24 (bits_1 : Int) (channels_2 : Int) (b_4 : List UInt8) (ok_5 : Bool) (l_t4 : List Int32) : S := ⟨[(0, .val (.int .i64) bits_1), (1, .val (.int .i64) channels_2), (3, .val (.list (.int .u8)) b_4), (9, .val .bool ok_5), (20, .own 0)], [.arr 21 (.int .i32) l_t4], []⟩
def cadenzatop_TopChannel_t22 (bits_1 : Int) (channels_2 : Int) (b_4 : List UInt8) (ok_5 : Bool) (l_9 : List Int32) (r_13 : Int) (a_14 : List Int32) (a_15 : List Int32) (r_17 : Int) (r_18 : Int32) (r_19 : Int) (a_20 : List Int32) (a_21 : List Int32) (c_t3 : Int) (l_t6 : List Int32) : S := ⟨[(0, .val (.int .i64) bits_1), (1, .val (.int .i64) channels_2), (3, .val (.list (.int .u8)) b_4), (9, .val .bool ok_5), (12, .own 0), (16, .ptr 1 []), (18, .ptr 2 []), (20, .own 3), (21, .val (.int .i64) c_t3)], [.arr 21 (.int .i32) l_9, .box 34 (.agg [.val (.int .i64) r_13, .val (.vec 16 (.int .i32)) a_14, .val (.vec 16 (.int .i32)) a_15]), .box 38 (.agg [.val (.int .i64) r_17, .val (.int .i32) r_18, .agg [.val (.int .i64) r_19, .val (.vec 16 (.int .i32)) a_20, .val (.vec 16 (.int .i32)) a_21]]), .arr 21 (.int .i32) l_t6], []⟩
def cadenzatop_TopChannel_t20 (bits_1 : Int) (channels_2 : Int) (b_4 : List UInt8) (ok_5 : Bool) (l_9 : List Int32) (r_13 : Int) (a_14 : List Int32) (a_15 : List Int32) (r_17 : Int) (r_18 : Int32) (r_19 : Int) (a_20 : List Int32) (a_21 : List Int32) (c_t3 : Int) (l_39 : List Int32) (x_t5 : Int) (l_t6 : List Int32) : S := ⟨[(0, .val (.int .i64) bits_1), (1, .val (.int .i64) channels_2), (3, .val (.list (.int .u8)) b_4), (9, .val .bool ok_5), (12, .own 0), (16, .ptr 1 []), (18, .ptr 2 []), (20, .own 3), (21, .val (.int .i64) c_t3), (31, .own 4), (34, .val (.int .i64) x_t5)], [.arr 21 (.int .i32) l_9, .box 34 (.agg [.val (.int .i64) r_13, .val (.vec 16 (.int .i32)) a_14, .val (.vec 16 (.int .i32)) a_15]), .box 38 (.agg [.val (.int .i64) r_17, .val (.int .i32) r_18, .agg [.val (.int .i64) r_19, .val (.vec 16 (.int .i32)) a_20, .val (.vec 16 (.int .i32)) a_21]]), .arr 21 (.int .i32) l_t6, .arr 21 (.int .i32) l_39], []⟩
def cadenzatop_TopChannel_t19 (bits_1 : Int) (channels_2 : Int) (b_4 : List UInt8) (ok_5 : Bool) (l_9 : List Int32) (r_13 : Int) (a_14 : List Int32) (a_15 : List Int32) (r_17 : Int) (r_18 : Int32) (r_19 : Int) (a_20 : List Int32) (a_21 : List Int32) (c_t3 : Int) (l_t4 : List Int32) (l_39 : List Int32) : S := ⟨[(0, .val (.int .i64) bits_1), (1, .val (.int .i64) channels_2), (3, .val (.list (.int .u8)) b_4), (9, .val .bool ok_5), (12, .own 0), (16, .ptr 1 []), (18, .ptr 2 []), (20, .own 3), (21, .val (.int .i64) c_t3), (31, .own 4)], [.arr 21 (.int .i32) l_9, .box 34 (.agg [.val (.int .i64) r_13, .val (.vec 16 (.int .i32)) a_14, .val (.vec 16 (.int .i32)) a_15]), .box 38 (.agg [.val (.int .i64) r_17, .val (.int .i32) r_18, .agg [.val (.int .i64) r_19, .val (.vec 16 (.int .i32)) a_20, .val (.vec 16 (.int .i32)) a_21]]), .arr 21 (.int .i32) l_t4, .arr 21 (.int .i32) l_39], []⟩
def cadenzatop_TopChannel_t14 (bits_1 : Int) (channels_2 : Int) (b_4 : List UInt8) (ok_5 : Bool) (l_9 : List Int32) (r_13 : Int) (a_14 : List Int32) (a_15 : List Int32) (r_17 : Int) (r_18 : Int32) (r_19 : Int) (a_20 : List Int32) (a_21 : List Int32) (c_t3 : Int) (l_t4 : List Int32) : S := ⟨[(0, .val (.int .i64) bits_1), (1, .val (.int .i64) channels_2), (3, .val (.list (.int .u8)) b_4), (9, .val .bool ok_5), (12, .own 0), (16, .ptr 1 []), (18, .ptr 2 []), (20, .own 3), (21, .val (.int .i64) c_t3)], [.arr 21 (.int .i32) l_9, .box 34 (.agg [.val (.int .i64) r_13, .val (.vec 16 (.int .i32)) a_14, .val (.vec 16 (.int .i32)) a_15]), .box 38 (.agg [.val (.int .i64) r_17, .val (.int .i32) r_18, .agg [.val (.int .i64) r_19, .val (.vec 16 (.int .i32)) a_20, .val (.vec 16 (.int .i32)) a_21]]), .arr 21 (.int .i32) l_t4], []⟩
def cadenzatop_TopChannel_t13 (bits_1 : Int) (channels_2 : Int) (password_3 : List UInt8) (b_4 : List UInt8) (ok_5 : Bool) (l_6 : List Int32) : S := ⟨[(0, .val (.int .i64) bits_1), (1, .val (.int .i64) channels_2), (2, .val .str password_3), (3, .val (.list (.int .u8)) b_4), (9, .val .bool ok_5), (10, .own 0)], [.arr 21 (.int .i32) l_6], []⟩
theorem cadenzatop_TopChannel_e24 (bits_1 : Int) (channels_2 : Int) (b_4 : List UInt8) (ok_5 : Bool) (l_t4 : List Int32) : (cadenzatop_TopChannel_pt [.r, .r, .r, .r, .r, .r, .r, .r, .r, .r, .r, .r]).e Try.prog cadenzatop_TopChannel_T cadenzatop_TopChannel_ans (cadenzatop_TopChannel_t24 bits_1 channels_2 b_4 ok_5 l_t4) = cadenzatop_TopChannel_p24 bits_1 channels_2 b_4 ok_5 l_t4 := by kernel_rfl
theorem cadenzatop_TopChannel_e22 (kn14 : S → Option ((Bool))) (bits_1 : Int) (channels_2 : Int) (b_4 : List UInt8) (ok_5 : Bool) (l_9 : List Int32) (r_13 : Int) (a_14 : List Int32) (a_15 : List Int32) (r_17 : Int) (r_18 : Int32) (r_19 : Int) (a_20 : List Int32) (a_21 : List Int32) (c_t3 : Int) (l_t6 : List Int32) : (cadenzatop_TopChannel_pt [.r, .r, .r, .r, .r, .r, .r, .r, .r, .r, .r, .l, .r, .d, (.lp kn14), .r, .r]).e Try.prog cadenzatop_TopChannel_T cadenzatop_TopChannel_ans (cadenzatop_TopChannel_t22 bits_1 channels_2 b_4 ok_5 l_9 r_13 a_14 a_15 r_17 r_18 r_19 a_20 a_21 c_t3 l_t6) = cadenzatop_TopChannel_p22 (fun c_t3 l_t4 => kn14 (cadenzatop_TopChannel_t14 bits_1 channels_2 b_4 ok_5 l_9 r_13 a_14 a_15 r_17 r_18 r_19 a_20 a_21 c_t3 l_t4)) bits_1 channels_2 b_4 ok_5 l_9 r_13 a_14 a_15 r_17 r_18 r_19 a_20 a_21 c_t3 l_t6 := by kernel_rfl
theorem cadenzatop_TopChannel_i20 (kn14 : S → Option ((Bool))) (bits_1 : Int) (channels_2 : Int) (b_4 : List UInt8) (ok_5 : Bool) (l_9 : List Int32) (r_13 : Int) (a_14 : List Int32) (a_15 : List Int32) (r_17 : Int) (r_18 : Int32) (r_19 : Int) (a_20 : List Int32) (a_21 : List Int32) (c_t3 : Int) (l_39 : List Int32) : ∀ (q : Nat) (x_t5 : Int) (l_t6 : List Int32), (cadenzatop_TopChannel_pt [.r, .r, .r, .r, .r, .r, .r, .r, .r, .r, .r, .l, .r, .d, (.lp kn14), .r, .l, .d, .r, .r, .r, .r, .r, .r, .r, .d]).it Try.prog cadenzatop_TopChannel_T cadenzatop_TopChannel_ans q (cadenzatop_TopChannel_t20 bits_1 channels_2 b_4 ok_5 l_9 r_13 a_14 a_15 r_17 r_18 r_19 a_20 a_21 c_t3 l_39 x_t5 l_t6) = cadenzatop_TopChannel_l20 (fun c_t3 l_t4 => kn14 (cadenzatop_TopChannel_t14 bits_1 channels_2 b_4 ok_5 l_9 r_13 a_14 a_15 r_17 r_18 r_19 a_20 a_21 c_t3 l_t4)) bits_1 channels_2 b_4 ok_5 l_9 r_13 a_14 a_15 r_17 r_18 r_19 a_20 a_21 c_t3 l_39 q x_t5 l_t6 := by
  intro q
  induction q with
  | zero => intros; rfl
  | succ q ih =>
    intro x_t5 l_t6
    refine Eq.trans (b := cadenzatop_TopChannel_s20 (fun (c_t3 : Int) (l_t6 : List Int32) => (cadenzatop_TopChannel_pt [.r, .r, .r, .r, .r, .r, .r, .r, .r, .r, .r, .l, .r, .d, (.lp kn14), .r, .r]).e Try.prog cadenzatop_TopChannel_T cadenzatop_TopChannel_ans (cadenzatop_TopChannel_t22 bits_1 channels_2 b_4 ok_5 l_9 r_13 a_14 a_15 r_17 r_18 r_19 a_20 a_21 c_t3 l_t6)) (fun (x_t5 : Int) (l_t6 : List Int32) => (cadenzatop_TopChannel_pt [.r, .r, .r, .r, .r, .r, .r, .r, .r, .r, .r, .l, .r, .d, (.lp kn14), .r, .l, .d, .r, .r, .r, .r, .r, .r, .r, .d]).it Try.prog cadenzatop_TopChannel_T cadenzatop_TopChannel_ans q (cadenzatop_TopChannel_t20 bits_1 channels_2 b_4 ok_5 l_9 r_13 a_14 a_15 r_17 r_18 r_19 a_20 a_21 c_t3 l_39 x_t5 l_t6)) bits_1 channels_2 b_4 ok_5 l_9 r_13 a_14 a_15 r_17 r_18 r_19 a_20 a_21 c_t3 l_39 x_t5 l_t6) (by kernel_rfl) ?_
    have h22 : (fun (c_t3 : Int) (l_t6 : List Int32) => (cadenzatop_TopChannel_pt [.r, .r, .r, .r, .r, .r, .r, .r, .r, .r, .r, .l, .r, .d, (.lp kn14), .r, .r]).e Try.prog cadenzatop_TopChannel_T cadenzatop_TopChannel_ans (cadenzatop_TopChannel_t22 bits_1 channels_2 b_4 ok_5 l_9 r_13 a_14 a_15 r_17 r_18 r_19 a_20 a_21 c_t3 l_t6)) = (cadenzatop_TopChannel_p22 (fun c_t3 l_t4 => kn14 (cadenzatop_TopChannel_t14 bits_1 channels_2 b_4 ok_5 l_9 r_13 a_14 a_15 r_17 r_18 r_19 a_20 a_21 c_t3 l_t4)) bits_1 channels_2 b_4 ok_5 l_9 r_13 a_14 a_15 r_17 r_18 r_19 a_20 a_21) := funext fun c_t3 => funext fun l_t6 => cadenzatop_TopChannel_e22 kn14 bits_1 channels_2 b_4 ok_5 l_9 r_13 a_14 a_15 r_17 r_18 r_19 a_20 a_21 c_t3 l_t6
    have hq : (fun (x_t5 : Int) (l_t6 : List Int32) => (cadenzatop_TopChannel_pt [.r, .r, .r, .r, .r, .r, .r, .r, .r, .r, .r, .l, .r, .d, (.lp kn14), .r, .l, .d, .r, .r, .r, .r, .r, .r, .r, .d]).it Try.prog cadenzatop_TopChannel_T cadenzatop_TopChannel_ans q (cadenzatop_TopChannel_t20 bits_1 channels_2 b_4 ok_5 l_9 r_13 a_14 a_15 r_17 r_18 r_19 a_20 a_21 c_t3 l_39 x_t5 l_t6)) = (cadenzatop_TopChannel_l20 (fun c_t3 l_t4 => kn14 (cadenzatop_TopChannel_t14 bits_1 channels_2 b_4 ok_5 l_9 r_13 a_14 a_15 r_17 r_18 r_19 a_20 a_21 c_t3 l_t4)) bits_1 channels_2 b_4 ok_5 l_9 r_13 a_14 a_15 r_17 r_18 r_19 a_20 a_21 c_t3 l_39 q) := funext fun x_t5 => funext fun l_t6 => ih x_t5 l_t6
    rw [h22, hq]
    rfl
theorem cadenzatop_TopChannel_e20 (kn14 : S → Option ((Bool))) (bits_1 : Int) (channels_2 : Int) (b_4 : List UInt8) (ok_5 : Bool) (l_9 : List Int32) (r_13 : Int) (a_14 : List Int32) (a_15 : List Int32) (r_17 : Int) (r_18 : Int32) (r_19 : Int) (a_20 : List Int32) (a_21 : List Int32) (c_t3 : Int) (l_39 : List Int32) (x_t5 : Int) (l_t6 : List Int32) : (cadenzatop_TopChannel_pt [.r, .r, .r, .r, .r, .r, .r, .r, .r, .r, .r, .l, .r, .d, (.lp kn14), .r, .l, .d, .r, .r, .r, .r, .r, .r, .r, .d]).e Try.prog cadenzatop_TopChannel_T cadenzatop_TopChannel_ans (cadenzatop_TopChannel_t20 bits_1 channels_2 b_4 ok_5 l_9 r_13 a_14 a_15 r_17 r_18 r_19 a_20 a_21 c_t3 l_39 x_t5 l_t6) = cadenzatop_TopChannel_p20 (fun c_t3 l_t4 => kn14 (cadenzatop_TopChannel_t14 bits_1 channels_2 b_4 ok_5 l_9 r_13 a_14 a_15 r_17 r_18 r_19 a_20 a_21 c_t3 l_t4)) bits_1 channels_2 b_4 ok_5 l_9 r_13 a_14 a_15 r_17 r_18 r_19 a_20 a_21 c_t3 l_39 x_t5 l_t6 := Eq.trans (b := (cadenzatop_TopChannel_pt [.r, .r, .r, .r, .r, .r, .r, .r, .r, .r, .r, .l, .r, .d, (.lp kn14), .r, .l, .d, .r, .r, .r, .r, .r, .r, .r, .d]).it Try.prog cadenzatop_TopChannel_T cadenzatop_TopChannel_ans FUELx (cadenzatop_TopChannel_t20 bits_1 channels_2 b_4 ok_5 l_9 r_13 a_14 a_15 r_17 r_18 r_19 a_20 a_21 c_t3 l_39 x_t5 l_t6)) (by kernel_rfl) (Eq.trans (cadenzatop_TopChannel_i20 kn14 bits_1 channels_2 b_4 ok_5 l_9 r_13 a_14 a_15 r_17 r_18 r_19 a_20 a_21 c_t3 l_39 FUELx x_t5 l_t6) (congrArg (fun q => cadenzatop_TopChannel_l20 (fun c_t3 l_t4 => kn14 (cadenzatop_TopChannel_t14 bits_1 channels_2 b_4 ok_5 l_9 r_13 a_14 a_15 r_17 r_18 r_19 a_20 a_21 c_t3 l_t4)) bits_1 channels_2 b_4 ok_5 l_9 r_13 a_14 a_15 r_17 r_18 r_19 a_20 a_21 c_t3 l_39 q x_t5 l_t6) FUELx_eq))
theorem cadenzatop_TopChannel_e19 (kn14 : S → Option ((Bool))) (bits_1 : Int) (channels_2 : Int) (b_4 : List UInt8) (ok_5 : Bool) (l_9 : List Int32) (r_13 : Int) (a_14 : List Int32) (a_15 : List Int32) (r_17 : Int) (r_18 : Int32) (r_19 : Int) (a_20 : List Int32) (a_21 : List Int32) (c_t3 : Int) (l_t4 : List Int32) (l_39 : List Int32) : (cadenzatop_TopChannel_pt [.r, .r, .r, .r, .r, .r, .r, .r, .r, .r, .r, .l, .r, .d, (.lp kn14), .r, .l, .d, .r, .r, .r, .r, .r, .r]).e Try.prog cadenzatop_TopChannel_T cadenzatop_TopChannel_ans (cadenzatop_TopChannel_t19 bits_1 channels_2 b_4 ok_5 l_9 r_13 a_14 a_15 r_17 r_18 r_19 a_20 a_21 c_t3 l_t4 l_39) = cadenzatop_TopChannel_p19 (fun c_t3 l_t4 => kn14 (cadenzatop_TopChannel_t14 bits_1 channels_2 b_4 ok_5 l_9 r_13 a_14 a_15 r_17 r_18 r_19 a_20 a_21 c_t3 l_t4)) bits_1 channels_2 b_4 ok_5 l_9 r_13 a_14 a_15 r_17 r_18 r_19 a_20 a_21 c_t3 l_t4 l_39 := by
  refine Eq.trans (b := cadenzatop_TopChannel_s19 (fun (c_t3 : Int) (l_39 : List Int32) (x_t5 : Int) (l_t6 : List Int32) => (cadenzatop_TopChannel_pt [.r, .r, .r, .r, .r, .r, .r, .r, .r, .r, .r, .l, .r, .d, (.lp kn14), .r, .l, .d, .r, .r, .r, .r, .r, .r, .r, .d]).e Try.prog cadenzatop_TopChannel_T cadenzatop_TopChannel_ans (cadenzatop_TopChannel_t20 bits_1 channels_2 b_4 ok_5 l_9 r_13 a_14 a_15 r_17 r_18 r_19 a_20 a_21 c_t3 l_39 x_t5 l_t6)) bits_1 channels_2 b_4 ok_5 l_9 r_13 a_14 a_15 r_17 r_18 r_19 a_20 a_21 c_t3 l_t4 l_39) (by kernel_rfl) ?_
  have h20 : (fun (c_t3 : Int) (l_39 : List Int32) (x_t5 : Int) (l_t6 : List Int32) => (cadenzatop_TopChannel_pt [.r, .r, .r, .r, .r, .r, .r, .r, .r, .r, .r, .l, .r, .d, (.lp kn14), .r, .l, .d, .r, .r, .r, .r, .r, .r, .r, .d]).e Try.prog cadenzatop_TopChannel_T cadenzatop_TopChannel_ans (cadenzatop_TopChannel_t20 bits_1 channels_2 b_4 ok_5 l_9 r_13 a_14 a_15 r_17 r_18 r_19 a_20 a_21 c_t3 l_39 x_t5 l_t6)) = (cadenzatop_TopChannel_p20 (fun c_t3 l_t4 => kn14 (cadenzatop_TopChannel_t14 bits_1 channels_2 b_4 ok_5 l_9 r_13 a_14 a_15 r_17 r_18 r_19 a_20 a_21 c_t3 l_t4)) bits_1 channels_2 b_4 ok_5 l_9 r_13 a_14 a_15 r_17 r_18 r_19 a_20 a_21) := funext fun c_t3 => funext fun l_39 => funext fun x_t5 => funext fun l_t6 => cadenzatop_TopChannel_e20 kn14 bits_1 channels_2 b_4 ok_5 l_9 r_13 a_14 a_15 r_17 r_18 r_19 a_20 a_21 c_t3 l_39 x_t5 l_t6
  rw [h20]
  rfl
theorem cadenzatop_TopChannel_i14 (bits_1 : Int) (channels_2 : Int) (b_4 : List UInt8) (ok_5 : Bool) (l_9 : List Int32) (r_13 : Int) (a_14 : List Int32) (a_15 : List Int32) (r_17 : Int) (r_18 : Int32) (r_19 : Int) (a_20 : List Int32) (a_21 : List Int32) : ∀ (q : Nat) (c_t3 : Int) (l_t4 : List Int32), (cadenzatop_TopChannel_pt [.r, .r, .r, .r, .r, .r, .r, .r, .r, .r, .r, .l, .r, .d]).it Try.prog cadenzatop_TopChannel_T cadenzatop_TopChannel_ans q (cadenzatop_TopChannel_t14 bits_1 channels_2 b_4 ok_5 l_9 r_13 a_14 a_15 r_17 r_18 r_19 a_20 a_21 c_t3 l_t4) = cadenzatop_TopChannel_l14 bits_1 channels_2 b_4 ok_5 l_9 r_13 a_14 a_15 r_17 r_18 r_19 a_20 a_21 q c_t3 l_t4 := by
  intro q
  induction q with
  | zero => intros; rfl
  | succ q ih =>
    intro c_t3 l_t4
    refine Eq.trans (b := cadenzatop_TopChannel_s14 (fun (c_t3 : Int) (l_t4 : List Int32) (l_39 : List Int32) => (cadenzatop_TopChannel_pt [.r, .r, .r, .r, .r, .r, .r, .r, .r, .r, .r, .l, .r, .d, (.lp ((cadenzatop_TopChannel_pt [.r, .r, .r, .r, .r, .r, .r, .r, .r, .r, .r, .l, .r, .d]).it Try.prog cadenzatop_TopChannel_T cadenzatop_TopChannel_ans q)), .r, .l, .d, .r, .r, .r, .r, .r, .r]).e Try.prog cadenzatop_TopChannel_T cadenzatop_TopChannel_ans (cadenzatop_TopChannel_t19 bits_1 channels_2 b_4 ok_5 l_9 r_13 a_14 a_15 r_17 r_18 r_19 a_20 a_21 c_t3 l_t4 l_39)) (fun (bits_1 : Int) (channels_2 : Int) (b_4 : List UInt8) (ok_5 : Bool) (l_t4 : List Int32) => (cadenzatop_TopChannel_pt [.r, .r, .r, .r, .r, .r, .r, .r, .r, .r, .r, .r]).e Try.prog cadenzatop_TopChannel_T cadenzatop_TopChannel_ans (cadenzatop_TopChannel_t24 bits_1 channels_2 b_4 ok_5 l_t4)) bits_1 channels_2 b_4 ok_5 l_9 r_13 a_14 a_15 r_17 r_18 r_19 a_20 a_21 c_t3 l_t4) (by kernel_rfl) ?_
    have h19 : (fun (c_t3 : Int) (l_t4 : List Int32) (l_39 : List Int32) => (cadenzatop_TopChannel_pt [.r, .r, .r, .r, .r, .r, .r, .r, .r, .r, .r, .l, .r, .d, (.lp ((cadenzatop_TopChannel_pt [.r, .r, .r, .r, .r, .r, .r, .r, .r, .r, .r, .l, .r, .d]).it Try.prog cadenzatop_TopChannel_T cadenzatop_TopChannel_ans q)), .r, .l, .d, .r, .r, .r, .r, .r, .r]).e Try.prog cadenzatop_TopChannel_T cadenzatop_TopChannel_ans (cadenzatop_TopChannel_t19 bits_1 channels_2 b_4 ok_5 l_9 r_13 a_14 a_15 r_17 r_18 r_19 a_20 a_21 c_t3 l_t4 l_39)) = (cadenzatop_TopChannel_p19 (fun (c_t3 : Int) (l_t4 : List Int32) => (cadenzatop_TopChannel_pt [.r, .r, .r, .r, .r, .r, .r, .r, .r, .r, .r, .l, .r, .d]).it Try.prog cadenzatop_TopChannel_T cadenzatop_TopChannel_ans q (cadenzatop_TopChannel_t14 bits_1 channels_2 b_4 ok_5 l_9 r_13 a_14 a_15 r_17 r_18 r_19 a_20 a_21 c_t3 l_t4)) bits_1 channels_2 b_4 ok_5 l_9 r_13 a_14 a_15 r_17 r_18 r_19 a_20 a_21) := funext fun c_t3 => funext fun l_t4 => funext fun l_39 => cadenzatop_TopChannel_e19 ((cadenzatop_TopChannel_pt [.r, .r, .r, .r, .r, .r, .r, .r, .r, .r, .r, .l, .r, .d]).it Try.prog cadenzatop_TopChannel_T cadenzatop_TopChannel_ans q) bits_1 channels_2 b_4 ok_5 l_9 r_13 a_14 a_15 r_17 r_18 r_19 a_20 a_21 c_t3 l_t4 l_39
    have h24 : (fun (bits_1 : Int) (channels_2 : Int) (b_4 : List UInt8) (ok_5 : Bool) (l_t4 : List Int32) => (cadenzatop_TopChannel_pt [.r, .r, .r, .r, .r, .r, .r, .r, .r, .r, .r, .r]).e Try.prog cadenzatop_TopChannel_T cadenzatop_TopChannel_ans (cadenzatop_TopChannel_t24 bits_1 channels_2 b_4 ok_5 l_t4)) = (cadenzatop_TopChannel_p24) := funext fun bits_1 => funext fun channels_2 => funext fun b_4 => funext fun ok_5 => funext fun l_t4 => cadenzatop_TopChannel_e24 bits_1 channels_2 b_4 ok_5 l_t4
    have hq : (fun (c_t3 : Int) (l_t4 : List Int32) => (cadenzatop_TopChannel_pt [.r, .r, .r, .r, .r, .r, .r, .r, .r, .r, .r, .l, .r, .d]).it Try.prog cadenzatop_TopChannel_T cadenzatop_TopChannel_ans q (cadenzatop_TopChannel_t14 bits_1 channels_2 b_4 ok_5 l_9 r_13 a_14 a_15 r_17 r_18 r_19 a_20 a_21 c_t3 l_t4)) = (cadenzatop_TopChannel_l14 bits_1 channels_2 b_4 ok_5 l_9 r_13 a_14 a_15 r_17 r_18 r_19 a_20 a_21 q) := funext fun c_t3 => funext fun l_t4 => ih c_t3 l_t4
    rw [h19, h24, hq]
    rfl
theorem cadenzatop_TopChannel_e14 (bits_1 : Int) (channels_2 : Int) (b_4 : List UInt8) (ok_5 : Bool) (l_9 : List Int32) (r_13 : Int) (a_14 : List Int32) (a_15 : List Int32) (r_17 : Int) (r_18 : Int32) (r_19 : Int) (a_20 : List Int32) (a_21 : List Int32) (c_t3 : Int) (l_t4 : List Int32) : (cadenzatop_TopChannel_pt [.r, .r, .r, .r, .r, .r, .r, .r, .r, .r, .r, .l, .r, .d]).e Try.prog cadenzatop_TopChannel_T cadenzatop_TopChannel_ans (cadenzatop_TopChannel_t14 bits_1 channels_2 b_4 ok_5 l_9 r_13 a_14 a_15 r_17 r_18 r_19 a_20 a_21 c_t3 l_t4) = cadenzatop_TopChannel_p14 bits_1 channels_2 b_4 ok_5 l_9 r_13 a_14 a_15 r_17 r_18 r_19 a_20 a_21 c_t3 l_t4 := Eq.trans (b := (cadenzatop_TopChannel_pt [.r, .r, .r, .r, .r, .r, .r, .r, .r, .r, .r, .l, .r, .d]).it Try.prog cadenzatop_TopChannel_T cadenzatop_TopChannel_ans FUELx (cadenzatop_TopChannel_t14 bits_1 channels_2 b_4 ok_5 l_9 r_13 a_14 a_15 r_17 r_18 r_19 a_20 a_21 c_t3 l_t4)) (by kernel_rfl) (Eq.trans (cadenzatop_TopChannel_i14 bits_1 channels_2 b_4 ok_5 l_9 r_13 a_14 a_15 r_17 r_18 r_19 a_20 a_21 FUELx c_t3 l_t4) (congrArg (fun q => cadenzatop_TopChannel_l14 bits_1 channels_2 b_4 ok_5 l_9 r_13 a_14 a_15 r_17 r_18 r_19 a_20 a_21 q c_t3 l_t4) FUELx_eq))
theorem cadenzatop_TopChannel_e13 (bits_1 : Int) (channels_2 : Int) (password_3 : List UInt8) (b_4 : List UInt8) (ok_5 : Bool) (l_6 : List Int32) : (cadenzatop_TopChannel_pt [.r, .r, .r, .r, .r]).e Try.prog cadenzatop_TopChannel_T cadenzatop_TopChannel_ans (cadenzatop_TopChannel_t13 bits_1 channels_2 password_3 b_4 ok_5 l_6) = cadenzatop_TopChannel_p13 bits_1 channels_2 password_3 b_4 ok_5 l_6 := by
  refine Eq.trans (b := cadenzatop_TopChannel_s13 (fun (bits_1 : Int) (channels_2 : Int) (b_4 : List UInt8) (ok_5 : Bool) (l_9 : List Int32) (r_13 : Int) (a_14 : List Int32) (a_15 : List Int32) (r_17 : Int) (r_18 : Int32) (r_19 : Int) (a_20 : List Int32) (a_21 : List Int32) (c_t3 : Int) (l_t4 : List Int32) => (cadenzatop_TopChannel_pt [.r, .r, .r, .r, .r, .r, .r, .r, .r, .r, .r, .l, .r, .d]).e Try.prog cadenzatop_TopChannel_T cadenzatop_TopChannel_ans (cadenzatop_TopChannel_t14 bits_1 channels_2 b_4 ok_5 l_9 r_13 a_14 a_15 r_17 r_18 r_19 a_20 a_21 c_t3 l_t4)) bits_1 channels_2 password_3 b_4 ok_5 l_6) (by kernel_rfl) ?_
  have h14 : (fun (bits_1 : Int) (channels_2 : Int) (b_4 : List UInt8) (ok_5 : Bool) (l_9 : List Int32) (r_13 : Int) (a_14 : List Int32) (a_15 : List Int32) (r_17 : Int) (r_18 : Int32) (r_19 : Int) (a_20 : List Int32) (a_21 : List Int32) (c_t3 : Int) (l_t4 : List Int32) => (cadenzatop_TopChannel_pt [.r, .r, .r, .r, .r, .r, .r, .r, .r, .r, .r, .l, .r, .d]).e Try.prog cadenzatop_TopChannel_T cadenzatop_TopChannel_ans (cadenzatop_TopChannel_t14 bits_1 channels_2 b_4 ok_5 l_9 r_13 a_14 a_15 r_17 r_18 r_19 a_20 a_21 c_t3 l_t4)) = (cadenzatop_TopChannel_p14) := funext fun bits_1 => funext fun channels_2 => funext fun b_4 => funext fun ok_5 => funext fun l_9 => funext fun r_13 => funext fun a_14 => funext fun a_15 => funext fun r_17 => funext fun r_18 => funext fun r_19 => funext fun a_20 => funext fun a_21 => funext fun c_t3 => funext fun l_t4 => cadenzatop_TopChannel_e14 bits_1 channels_2 b_4 ok_5 l_9 r_13 a_14 a_15 r_17 r_18 r_19 a_20 a_21 c_t3 l_t4
  rw [h14]
  rfl
theorem cadenzatop_TopChannel_run (x : Int × Int × List UInt8 × List UInt8) : run Try.prog cadenzatop_TopChannel_T cadenzatop_TopChannel_ans Try.f3 cadenzatop_TopChannel_an cadenzatop_TopChannel_ps cadenzatop_TopChannel_rs x = cadenzatop_TopChannel x.1 x.2.1 x.2.2.1 x.2.2.2 := by
  refine Eq.trans (b := cadenzatop_TopChannel_s0 (fun (bits_1 : Int) (channels_2 : Int) (password_3 : List UInt8) (b_4 : List UInt8) (ok_5 : Bool) (l_6 : List Int32) => (cadenzatop_TopChannel_pt [.r, .r, .r, .r, .r]).e Try.prog cadenzatop_TopChannel_T cadenzatop_TopChannel_ans (cadenzatop_TopChannel_t13 bits_1 channels_2 password_3 b_4 ok_5 l_6)) x.1 x.2.1 x.2.2.1 x.2.2.2) (by kernel_rfl) ?_
  have h13 : (fun (bits_1 : Int) (channels_2 : Int) (password_3 : List UInt8) (b_4 : List UInt8) (ok_5 : Bool) (l_6 : List Int32) => (cadenzatop_TopChannel_pt [.r, .r, .r, .r, .r]).e Try.prog cadenzatop_TopChannel_T cadenzatop_TopChannel_ans (cadenzatop_TopChannel_t13 bits_1 channels_2 password_3 b_4 ok_5 l_6)) = (cadenzatop_TopChannel_p13) := funext fun bits_1 => funext fun channels_2 => funext fun password_3 => funext fun b_4 => funext fun ok_5 => funext fun l_6 => cadenzatop_TopChannel_e13 bits_1 channels_2 password_3 b_4 ok_5 l_6
  rw [h13]
  rfl
def cadenzatop_TopChannel_c : Con := ⟨cadenzatop_TopChannel_ps, cadenzatop_TopChannel_rs, fun x => cadenzatop_TopChannel x.1 x.2.1 x.2.2.1 x.2.2.2⟩
theorem cadenzatop_TopChannel_ok : ConOk Try.prog Try.gl 3 cadenzatop_TopChannel_c := con_of_run (T := cadenzatop_TopChannel_T) Try.mixed Try.func3 Try.ent3 (TabOk.cons cadenzatop_alive19_ok (TabOk.cons width_Samples_ok (TabOk.cons cadenzaref17_Check_ok (TabOk.cons mix_All_ok (TabOk.cons seed_Taps_ok (TabOk.cons taps_New_ok (TabOk.cons chain_New_ok (TabOk.cons cadenzatop_every19_ok (TabOk.cons chain_All_ok (TabOk.cons first_Forward_ok (TabOk.cons lms_All_ok (TabOk.cons chain_Undo_ok (TabOk.cons cadenzaref13_Same_ok (TabOk.cons mix_Undo_ok (TabOk.cons width_Bytes_ok TabOk.nil))))))))))))))) AnsOk.nil (by kernel_rfl) cadenzatop_TopChannel_run
end Go.Proofs.Yticiaelockkfkaa
