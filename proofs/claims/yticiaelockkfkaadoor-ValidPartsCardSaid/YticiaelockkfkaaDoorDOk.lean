/- A part of the proof of a statement of this seat (see the text that ends in Proof): DOk. No conditions of its own. -/
import Derived.Test.YticiaelockkfkaaDoorRxB
import Derived.Test.YticiaelockkfkaaDoorDPure
import Derived.Test.YticiaelockkfkaaDoorDHand
import Derived.Test.YticiaelockkfkaaDoorProg
import Derived.KernelRfl
set_option linter.unusedVariables false
set_option linter.unusedSimpArgs false
set_option maxRecDepth 10000
namespace Go.Proofs.YticiaelockkfkaaDoor
open Go Go.Lv Go.Pl Go.Rx
def Tryd.g0 : List Value := [.int .i64 2, .int .i64 2, .int .i64 2, .int .i64 4, .int .i64 4]
def Tryd.gl : List (Nat × List Value) := []
def Tryd.gl_0 : List (Nat × List Value) := [(0, Tryd.g0)]
theorem Tryd.mixed : Tryd.prog.follows .mixedOrders = true := by kernel_rfl
theorem Tryd.ent3 : Ent Tryd.prog 3 := Ent.mk Tryd.func3 (by kernel_rfl) rfl
theorem Tryd.ent4 : Ent Tryd.prog 4 := Ent.mk Tryd.func4 (by kernel_rfl) rfl
theorem Tryd.ent5 : Ent Tryd.prog 5 := Ent.mk Tryd.func5 (by kernel_rfl) rfl
theorem Tryd.ent6 : Ent Tryd.prog 6 := Ent.mk Tryd.func6 (by kernel_rfl) rfl
theorem Tryd.ent7 : Ent Tryd.prog 7 := Ent.mk Tryd.func7 (by kernel_rfl) rfl
theorem Tryd.ent8 : Ent Tryd.prog 8 := Ent.mk Tryd.func8 (by kernel_rfl) rfl
theorem Tryd.ent9 : Ent Tryd.prog 9 := Ent.mk Tryd.func9 (by kernel_rfl) rfl
theorem Tryd.ent10 : Ent Tryd.prog 10 := Ent.mk Tryd.func10 (by kernel_rfl) rfl
theorem Tryd.ent11 : Ent Tryd.prog 11 := Ent.mk Tryd.func11 (by kernel_rfl) rfl
theorem Tryd.ent12 : Ent Tryd.prog 12 := Ent.mk Tryd.func12 (by kernel_rfl) rfl
theorem Tryd.ent13 : Ent Tryd.prog 13 := Ent.mk Tryd.func13 (by kernel_rfl) rfl
theorem Tryd.ent14 : Ent Tryd.prog 14 := Ent.mk Tryd.func14 (by kernel_rfl) rfl
theorem Tryd.ent15 : Ent Tryd.prog 15 := Ent.mk Tryd.func15 (by kernel_rfl) rfl
theorem Tryd.ent16 : Ent Tryd.prog 16 := Ent.mk Tryd.func16 (by kernel_rfl) rfl
theorem Tryd.ent17 : Ent Tryd.prog 17 := Ent.mk Tryd.func17 (by kernel_rfl) rfl
theorem Tryd.ent18 : Ent Tryd.prog 18 := Ent.mk Tryd.func18 (by kernel_rfl) rfl
theorem Tryd.ent20 : Ent Tryd.prog 20 := Ent.mk Tryd.func20 (by kernel_rfl) rfl
theorem Tryd.ent21 : Ent Tryd.prog 21 := Ent.mk Tryd.func21 (by kernel_rfl) rfl
theorem Tryd.ent22 : Ent Tryd.prog 22 := Ent.mk Tryd.func22 (by kernel_rfl) rfl
theorem Tryd.ent23 : Ent Tryd.prog 23 := Ent.mk Tryd.func23 (by kernel_rfl) rfl
theorem Tryd.ent24 : Ent Tryd.prog 24 := Ent.mk Tryd.func24 (by kernel_rfl) rfl
theorem Tryd.ent25 : Ent Tryd.prog 25 := Ent.mk Tryd.func25 (by kernel_rfl) rfl
theorem Tryd.ent26 : Ent Tryd.prog 26 := Ent.mk Tryd.func26 (by kernel_rfl) rfl
theorem Tryd.ent27 : Ent Tryd.prog 27 := Ent.mk Tryd.func27 (by kernel_rfl) rfl
theorem Tryd.ent28 : Ent Tryd.prog 28 := Ent.mk Tryd.func28 (by kernel_rfl) rfl
theorem Tryd.ent29 : Ent Tryd.prog 29 := Ent.mk Tryd.func29 (by kernel_rfl) rfl
theorem Tryd.ent30 : Ent Tryd.prog 30 := Ent.mk Tryd.func30 (by kernel_rfl) rfl
theorem Tryd.ent31 : Ent Tryd.prog 31 := Ent.mk Tryd.func31 (by kernel_rfl) rfl
theorem Tryd.ent32 : Ent Tryd.prog 32 := Ent.mk Tryd.func32 (by kernel_rfl) rfl
theorem Tryd.ent33 : Ent Tryd.prog 33 := Ent.mk Tryd.func33 (by kernel_rfl) rfl
theorem Tryd.ent34 : Ent Tryd.prog 34 := Ent.mk Tryd.func34 (by kernel_rfl) rfl
theorem Tryd.ent36 : Ent Tryd.prog 36 := Ent.mk Tryd.func36 (by kernel_rfl) rfl
theorem Tryd.ent37 : Ent Tryd.prog 37 := Ent.mk Tryd.func37 (by kernel_rfl) rfl
theorem Tryd.ent38 : Ent Tryd.prog 38 := Ent.mk Tryd.func38 (by kernel_rfl) rfl
theorem Tryd.ent39 : Ent Tryd.prog 39 := Ent.mk Tryd.func39 (by kernel_rfl) rfl
theorem Tryd.ent40 : Ent Tryd.prog 40 := Ent.mk Tryd.func40 (by kernel_rfl) rfl
theorem Tryd.ent41 : Ent Tryd.prog 41 := Ent.mk Tryd.func41 (by kernel_rfl) rfl
theorem Tryd.ent42 : Ent Tryd.prog 42 := Ent.mk Tryd.func42 (by kernel_rfl) rfl
theorem Tryd.ent43 : Ent Tryd.prog 43 := Ent.mk Tryd.func43 (by kernel_rfl) rfl
theorem Tryd.ent44 : Ent Tryd.prog 44 := Ent.mk Tryd.func44 (by kernel_rfl) rfl
theorem Tryd.ent45 : Ent Tryd.prog 45 := Ent.mk Tryd.func45 (by kernel_rfl) rfl
theorem Tryd.ent46 : Ent Tryd.prog 46 := Ent.mk Tryd.func46 (by kernel_rfl) rfl
theorem Tryd.ent47 : Ent Tryd.prog 47 := Ent.mk Tryd.func47 (by kernel_rfl) rfl
theorem Tryd.ent48 : Ent Tryd.prog 48 := Ent.mk Tryd.func48 (by kernel_rfl) rfl
theorem Tryd.ent49 : Ent Tryd.prog 49 := Ent.mk Tryd.func49 (by kernel_rfl) rfl
theorem Tryd.ent50 : Ent Tryd.prog 50 := Ent.mk Tryd.func50 (by kernel_rfl) rfl
theorem Tryd.ent51 : Ent Tryd.prog 51 := Ent.mk Tryd.func51 (by kernel_rfl) rfl
theorem Tryd.ent52 : Ent Tryd.prog 52 := Ent.mk Tryd.func52 (by kernel_rfl) rfl
theorem Tryd.ent53 : Ent Tryd.prog 53 := Ent.mk Tryd.func53 (by kernel_rfl) rfl
theorem Tryd.ent54 : Ent Tryd.prog 54 := Ent.mk Tryd.func54 (by kernel_rfl) rfl
theorem Tryd.ent55 : Ent Tryd.prog 55 := Ent.mk Tryd.func55 (by kernel_rfl) rfl
theorem Tryd.ent56 : Ent Tryd.prog 56 := Ent.mk Tryd.func56 (by kernel_rfl) rfl
theorem Tryd.ent57 : Ent Tryd.prog 57 := Ent.mk Tryd.func57 (by kernel_rfl) rfl
theorem Tryd.ent58 : Ent Tryd.prog 58 := Ent.mk Tryd.func58 (by kernel_rfl) rfl
theorem Tryd.ent59 : Ent Tryd.prog 59 := Ent.mk Tryd.func59 (by kernel_rfl) rfl
theorem Tryd.ent60 : Ent Tryd.prog 60 := Ent.mk Tryd.func60 (by kernel_rfl) rfl
theorem Tryd.ent61 : Ent Tryd.prog 61 := Ent.mk Tryd.func61 (by kernel_rfl) rfl
theorem Tryd.ent62 : Ent Tryd.prog 62 := Ent.mk Tryd.func62 (by kernel_rfl) rfl
theorem Tryd.ent63 : Ent Tryd.prog 63 := Ent.mk Tryd.func63 (by kernel_rfl) rfl
theorem Tryd.ent64 : Ent Tryd.prog 64 := Ent.mk Tryd.func64 (by kernel_rfl) rfl
theorem Tryd.ent65 : Ent Tryd.prog 65 := Ent.mk Tryd.func65 (by kernel_rfl) rfl
theorem Tryd.ent66 : Ent Tryd.prog 66 := Ent.mk Tryd.func66 (by kernel_rfl) rfl
theorem Tryd.ent67 : Ent Tryd.prog 67 := Ent.mk Tryd.func67 (by kernel_rfl) rfl
theorem Tryd.ent68 : Ent Tryd.prog 68 := Ent.mk Tryd.func68 (by kernel_rfl) rfl
theorem Tryd.ent69 : Ent Tryd.prog 69 := Ent.mk Tryd.func69 (by kernel_rfl) rfl
theorem Tryd.ent70 : Ent Tryd.prog 70 := Ent.mk Tryd.func70 (by kernel_rfl) rfl
def cadenzaref35_Long_ps : List Sh := [.lf (.list (.int .u8)) none]
def cadenzaref35_Long_rs : List Sh := [.lf .bool none]
def cadenzaref35_Long_an : An := .d
def cadenzaref35_Long_T : Tab := ⟨[], Tryd.gl, false⟩
def cadenzaref35_Long_ans : List (Nat × An) := []
theorem cadenzaref35_Long_run (x : List UInt8) : run Tryd.prog cadenzaref35_Long_T cadenzaref35_Long_ans Tryd.f4 cadenzaref35_Long_an cadenzaref35_Long_ps cadenzaref35_Long_rs x = cadenzaref35_Long x := by kernel_rfl
def cadenzaref35_Long_c : Con := ⟨cadenzaref35_Long_ps, cadenzaref35_Long_rs, fun x => cadenzaref35_Long x⟩
theorem cadenzaref35_Long_ok : ConOk Tryd.prog Tryd.gl 4 cadenzaref35_Long_c := con_of_run (T := cadenzaref35_Long_T) Tryd.mixed Tryd.func4 Tryd.ent4 TabOk.nil AnsOk.nil (by kernel_rfl) cadenzaref35_Long_run
def bytes_Equal_ps : List Sh := [.lf (.list (.int .u8)) none, .lf (.list (.int .u8)) none]
def bytes_Equal_rs : List Sh := [.lf .bool none]
def bytes_Equal_an : An := .d
def bytes_Equal_T : Tab := ⟨[], Tryd.gl, false⟩
def bytes_Equal_ans : List (Nat × An) := []
theorem bytes_Equal_run (x : List UInt8 × List UInt8) : run Tryd.prog bytes_Equal_T bytes_Equal_ans Tryd.f60 bytes_Equal_an bytes_Equal_ps bytes_Equal_rs x = bytes_Equal x.1 x.2 := by kernel_rfl
def bytes_Equal_c : Con := ⟨bytes_Equal_ps, bytes_Equal_rs, fun x => bytes_Equal x.1 x.2⟩
theorem bytes_Equal_ok : ConOk Tryd.prog Tryd.gl 60 bytes_Equal_c := con_of_run (T := bytes_Equal_T) Tryd.mixed Tryd.func60 Tryd.ent60 TabOk.nil AnsOk.nil (by kernel_rfl) bytes_Equal_run
def bytes_HasPrefix_ps : List Sh := [.lf (.list (.int .u8)) none, .lf (.list (.int .u8)) none]
def bytes_HasPrefix_rs : List Sh := [.lf .bool none]
def bytes_HasPrefix_an : An := .d
def bytes_HasPrefix_T : Tab := ⟨[(60, bytes_Equal_c)], Tryd.gl, false⟩
def bytes_HasPrefix_ans : List (Nat × An) := []
theorem bytes_HasPrefix_run (x : List UInt8 × List UInt8) : run Tryd.prog bytes_HasPrefix_T bytes_HasPrefix_ans Tryd.f57 bytes_HasPrefix_an bytes_HasPrefix_ps bytes_HasPrefix_rs x = bytes_HasPrefix x.1 x.2 := by kernel_rfl
def bytes_HasPrefix_c : Con := ⟨bytes_HasPrefix_ps, bytes_HasPrefix_rs, fun x => bytes_HasPrefix x.1 x.2⟩
theorem bytes_HasPrefix_ok : ConOk Tryd.prog Tryd.gl 57 bytes_HasPrefix_c := con_of_run (T := bytes_HasPrefix_T) Tryd.mixed Tryd.func57 Tryd.ent57 (TabOk.cons bytes_Equal_ok TabOk.nil) AnsOk.nil (by kernel_rfl) bytes_HasPrefix_run
def idthree_Value_ps : List Sh := [.lf (.list (.int .u8)) none]
def idthree_Value_rs : List Sh := [.lf (.int .i64) none, .lf (.int .i64) none]
def idthree_Value_an : An := (.seq .d (.seq .d (.seq .d (.cut [4] [] (.seq .d (.blk (.loop [4, 10, 11, 12] [] .d))) .d))))
def idthree_Value_T : Tab := ⟨[], Tryd.gl, false⟩
def idthree_Value_ans : List (Nat × An) := []
noncomputable def idthree_Value_pt (l : List (PS ((Int × Int)))) : Pt ((Int × Int)) := Pt.at (R := (Int × Int)) Tryd.prog idthree_Value_T idthree_Value_ans (Pt.root Tryd.prog Tryd.f58 idthree_Value_an idthree_Value_rs) l
def idthree_Value_t6 (n_t1 : Int) : S := ⟨[(4, .val (.int .i64) n_t1)], [], []⟩
def idthree_Value_t4 (b_1 : List UInt8) (n_t1 : Int) (x_t2 : Int) : S := ⟨[(4, .val (.int .i64) n_t1), (10, .val (.list (.int .u8)) b_1), (11, .val (.int .i64) (lenI b_1)), (12, .val (.int .i64) x_t2)], [], []⟩
theorem idthree_Value_e6 (n_t1 : Int) : (idthree_Value_pt [.r, .r, .r, .r]).e Tryd.prog idthree_Value_T idthree_Value_ans (idthree_Value_t6 n_t1) = idthree_Value_p6 n_t1 := by kernel_rfl
theorem idthree_Value_i4 (b_1 : List UInt8) : ∀ (q : Nat) (n_t1 : Int) (x_t2 : Int), (idthree_Value_pt [.r, .r, .r, .l, .r, .d]).it Tryd.prog idthree_Value_T idthree_Value_ans q (idthree_Value_t4 b_1 n_t1 x_t2) = idthree_Value_l4 b_1 q n_t1 x_t2 := by
  intro q
  induction q with
  | zero => intros; rfl
  | succ q ih =>
    intro n_t1 x_t2
    refine Eq.trans (b := idthree_Value_s4 (fun (n_t1 : Int) => (idthree_Value_pt [.r, .r, .r, .r]).e Tryd.prog idthree_Value_T idthree_Value_ans (idthree_Value_t6 n_t1)) (fun (n_t1 : Int) (x_t2 : Int) => (idthree_Value_pt [.r, .r, .r, .l, .r, .d]).it Tryd.prog idthree_Value_T idthree_Value_ans q (idthree_Value_t4 b_1 n_t1 x_t2)) b_1 n_t1 x_t2) (by kernel_rfl) ?_
    have h6 : (fun (n_t1 : Int) => (idthree_Value_pt [.r, .r, .r, .r]).e Tryd.prog idthree_Value_T idthree_Value_ans (idthree_Value_t6 n_t1)) = (idthree_Value_p6) := funext fun n_t1 => idthree_Value_e6 n_t1
    have hq : (fun (n_t1 : Int) (x_t2 : Int) => (idthree_Value_pt [.r, .r, .r, .l, .r, .d]).it Tryd.prog idthree_Value_T idthree_Value_ans q (idthree_Value_t4 b_1 n_t1 x_t2)) = (idthree_Value_l4 b_1 q) := funext fun n_t1 => funext fun x_t2 => ih n_t1 x_t2
    rw [h6, hq]
    rfl
theorem idthree_Value_e4 (b_1 : List UInt8) (n_t1 : Int) (x_t2 : Int) : (idthree_Value_pt [.r, .r, .r, .l, .r, .d]).e Tryd.prog idthree_Value_T idthree_Value_ans (idthree_Value_t4 b_1 n_t1 x_t2) = idthree_Value_p4 b_1 n_t1 x_t2 := Eq.trans (b := (idthree_Value_pt [.r, .r, .r, .l, .r, .d]).it Tryd.prog idthree_Value_T idthree_Value_ans FUELx (idthree_Value_t4 b_1 n_t1 x_t2)) (by kernel_rfl) (Eq.trans (idthree_Value_i4 b_1 FUELx n_t1 x_t2) (congrArg (fun q => idthree_Value_l4 b_1 q n_t1 x_t2) FUELx_eq))
theorem idthree_Value_run (x : List UInt8) : run Tryd.prog idthree_Value_T idthree_Value_ans Tryd.f58 idthree_Value_an idthree_Value_ps idthree_Value_rs x = idthree_Value x := by
  refine Eq.trans (b := idthree_Value_s0 (fun (b_1 : List UInt8) (n_t1 : Int) (x_t2 : Int) => (idthree_Value_pt [.r, .r, .r, .l, .r, .d]).e Tryd.prog idthree_Value_T idthree_Value_ans (idthree_Value_t4 b_1 n_t1 x_t2)) x) (by kernel_rfl) ?_
  have h4 : (fun (b_1 : List UInt8) (n_t1 : Int) (x_t2 : Int) => (idthree_Value_pt [.r, .r, .r, .l, .r, .d]).e Tryd.prog idthree_Value_T idthree_Value_ans (idthree_Value_t4 b_1 n_t1 x_t2)) = (idthree_Value_p4) := funext fun b_1 => funext fun n_t1 => funext fun x_t2 => idthree_Value_e4 b_1 n_t1 x_t2
  rw [h4]
  rfl
def idthree_Value_c : Con := ⟨idthree_Value_ps, idthree_Value_rs, fun x => idthree_Value x⟩
theorem idthree_Value_ok : ConOk Tryd.prog Tryd.gl 58 idthree_Value_c := con_of_run (T := idthree_Value_T) Tryd.mixed Tryd.func58 Tryd.ent58 TabOk.nil AnsOk.nil (by kernel_rfl) idthree_Value_run
noncomputable def idthree_Size_s0b (j5 : (List UInt8) → UInt8 → UInt8 → Option (Int × Int)) (b_1 : List UInt8) : Option (Int × Int) :=
Option.bind (bytes_HasPrefix b_1 ([(73 : UInt8), (68 : UInt8), (51 : UInt8)] : List UInt8)) fun ok_2 =>
if (!ok_2) = true then (
some ((0 : Int), (6 : Int)))
else (
if (glt (lenI b_1) (10 : Int)) = true then (
some ((0 : Int), (24 : Int)))
else (
Option.bind (getI b_1 (3 : Int)) fun c_3 =>
Option.bind (getI b_1 (5 : Int)) fun c_4 =>
both (
both (
both (
j5 b_1 c_3 c_4) [
j5 b_1 c_3 c_4]) [
both (
j5 b_1 c_3 c_4) [
both (
j5 b_1 c_3 c_4) [
j5 b_1 c_3 c_4]],
both (
j5 b_1 c_3 c_4) [
both (
j5 b_1 c_3 c_4) [
j5 b_1 c_3 c_4]]]) [
both (
both (
j5 b_1 c_3 c_4) [
j5 b_1 c_3 c_4]) [
both (
j5 b_1 c_3 c_4) [
j5 b_1 c_3 c_4],
both (
j5 b_1 c_3 c_4) [
j5 b_1 c_3 c_4]],
both (
both (
j5 b_1 c_3 c_4) [
both (
j5 b_1 c_3 c_4) [
j5 b_1 c_3 c_4]]) [
both (
j5 b_1 c_3 c_4) [
j5 b_1 c_3 c_4],
both (
both (
j5 b_1 c_3 c_4) [
j5 b_1 c_3 c_4]) [
j5 b_1 c_3 c_4]],
both (
both (
j5 b_1 c_3 c_4) [
both (
j5 b_1 c_3 c_4) [
j5 b_1 c_3 c_4]]) [
both (
j5 b_1 c_3 c_4) [
j5 b_1 c_3 c_4],
both (
both (
j5 b_1 c_3 c_4) [
j5 b_1 c_3 c_4]) [
j5 b_1 c_3 c_4]]]))
theorem idthree_Size_s0b_eq : @idthree_Size_s0b = @idthree_Size_s0 := by
  unfold idthree_Size_s0b idthree_Size_s0
  repeat (refine funext fun _ => ?_)
  repeat' first
    | with_reducible rfl
    | refine both1_of ?_ ?_
    | refine both2_of ?_ ?_ ?_
    | refine both3_of ?_ ?_ ?_ ?_
    | (refine nilb_of ?_ ?_; (intro h; first | (subst h; rfl) | (simp only [h]; rfl) | (simp [appI, lenI, h]; done)))
    | with_reducible refine bind_of fun x => ?_
    | with_reducible refine ite_of (fun _ => ?_) (fun _ => ?_)
    | (refine bind_cases (fun h => by simp only [h, bind_no, bind_so, bind_to_none, ite_self]) (fun x h => ?_); (try simp only [h, bind_so]))
    | (refine ite_cases (fun h => ?_) (fun h => ?_) <;> simp only [h, if_true, if_false, Bool.false_eq_true])
def idthree_Size_ps : List Sh := [.lf (.list (.int .u8)) none]
def idthree_Size_rs : List Sh := [.lf (.int .i64) none, .lf (.int .i64) none]
def idthree_Size_an : An := (.seq .d (.seq .d (.seq .d (.cut [0, 4, 5] [] (.mode false) (.seq .d (.seq .d (.cut [0, 5, 6] [] (.cut [0, 5, 6, 43] [] (.keep [0, 5, 6, 7, 8, 31, 32, 33, 34, 35, 36, 37, 38, 39, 40, 41, 42, 43] true) .d) (.seq .d (.cut [0, 5, 6] [] .d .d)))))))))
def idthree_Size_T : Tab := ⟨[(57, bytes_HasPrefix_c), (58, idthree_Value_c), (60, bytes_Equal_c)], Tryd.gl, false⟩
def idthree_Size_ans : List (Nat × An) := [(59, .d)]
noncomputable def idthree_Size_pt (l : List (PS ((Int × Int)))) : Pt ((Int × Int)) := Pt.at (R := (Int × Int)) Tryd.prog idthree_Size_T idthree_Size_ans (Pt.root Tryd.prog Tryd.f47 idthree_Size_an idthree_Size_rs) l
def idthree_Size_t8 (b_1 : List UInt8) (c_4 : UInt8) (n_t2 : Int) : S := ⟨[(0, .val (.list (.int .u8)) b_1), (5, .ptr 0 []), (6, .val (.int .i64) n_t2)], [.box 5 (.val (.int .u8) c_4)], []⟩
def idthree_Size_t7 (b_1 : List UInt8) (r_6 : Int) (c_4 : UInt8) : S := ⟨[(0, .val (.list (.int .u8)) b_1), (5, .ptr 0 []), (6, .val (.int .i64) r_6)], [.box 5 (.val (.int .u8) c_4)], []⟩
def idthree_Size_t6 (b_1 : List UInt8) (r_6 : Int) (c_4 : UInt8) (x_t1 : Bool) : S := ⟨[(0, .val (.list (.int .u8)) b_1), (5, .ptr 0 []), (6, .val (.int .i64) r_6), (43, .val .bool x_t1)], [.box 5 (.val (.int .u8) c_4)], []⟩
def idthree_Size_t5 (b_1 : List UInt8) (c_3 : UInt8) (c_4 : UInt8) : S := ⟨[(0, .val (.list (.int .u8)) b_1), (4, .ptr 0 []), (5, .ptr 1 [])], [.box 5 (.val (.int .u8) c_3), .box 5 (.val (.int .u8) c_4)], []⟩
theorem idthree_Size_e8 (b_1 : List UInt8) (c_4 : UInt8) (n_t2 : Int) : (idthree_Size_pt [.r, .r, .r, .r, .r, .r, .r, .r, .r]).e Tryd.prog idthree_Size_T idthree_Size_ans (idthree_Size_t8 b_1 c_4 n_t2) = idthree_Size_p8 b_1 c_4 n_t2 := by kernel_rfl
theorem idthree_Size_e7 (b_1 : List UInt8) (r_6 : Int) (c_4 : UInt8) : (idthree_Size_pt [.r, .r, .r, .r, .r, .r, .r]).e Tryd.prog idthree_Size_T idthree_Size_ans (idthree_Size_t7 b_1 r_6 c_4) = idthree_Size_p7 b_1 r_6 c_4 := by
  refine Eq.trans (b := idthree_Size_s7 (fun (b_1 : List UInt8) (c_4 : UInt8) (n_t2 : Int) => (idthree_Size_pt [.r, .r, .r, .r, .r, .r, .r, .r, .r]).e Tryd.prog idthree_Size_T idthree_Size_ans (idthree_Size_t8 b_1 c_4 n_t2)) b_1 r_6 c_4) (by kernel_rfl) ?_
  have h8 : (fun (b_1 : List UInt8) (c_4 : UInt8) (n_t2 : Int) => (idthree_Size_pt [.r, .r, .r, .r, .r, .r, .r, .r, .r]).e Tryd.prog idthree_Size_T idthree_Size_ans (idthree_Size_t8 b_1 c_4 n_t2)) = (idthree_Size_p8) := funext fun b_1 => funext fun c_4 => funext fun n_t2 => idthree_Size_e8 b_1 c_4 n_t2
  rw [h8]
  rfl
theorem idthree_Size_e6 (b_1 : List UInt8) (r_6 : Int) (c_4 : UInt8) (x_t1 : Bool) : (idthree_Size_pt [.r, .r, .r, .r, .r, .r, .l, .r]).e Tryd.prog idthree_Size_T idthree_Size_ans (idthree_Size_t6 b_1 r_6 c_4 x_t1) = idthree_Size_p6 b_1 r_6 c_4 x_t1 := by
  refine Eq.trans (b := idthree_Size_s6 (fun (b_1 : List UInt8) (r_6 : Int) (c_4 : UInt8) => (idthree_Size_pt [.r, .r, .r, .r, .r, .r, .r]).e Tryd.prog idthree_Size_T idthree_Size_ans (idthree_Size_t7 b_1 r_6 c_4)) b_1 r_6 c_4 x_t1) (by kernel_rfl) ?_
  have h7 : (fun (b_1 : List UInt8) (r_6 : Int) (c_4 : UInt8) => (idthree_Size_pt [.r, .r, .r, .r, .r, .r, .r]).e Tryd.prog idthree_Size_T idthree_Size_ans (idthree_Size_t7 b_1 r_6 c_4)) = (idthree_Size_p7) := funext fun b_1 => funext fun r_6 => funext fun c_4 => idthree_Size_e7 b_1 r_6 c_4
  rw [h7]
  rfl
theorem idthree_Size_e5 (b_1 : List UInt8) (c_3 : UInt8) (c_4 : UInt8) : (idthree_Size_pt [.r, .r, .r, .r]).e Tryd.prog idthree_Size_T idthree_Size_ans (idthree_Size_t5 b_1 c_3 c_4) = idthree_Size_p5 b_1 c_3 c_4 := by
  refine Eq.trans (b := idthree_Size_s5 (fun (b_1 : List UInt8) (r_6 : Int) (c_4 : UInt8) (x_t1 : Bool) => (idthree_Size_pt [.r, .r, .r, .r, .r, .r, .l, .r]).e Tryd.prog idthree_Size_T idthree_Size_ans (idthree_Size_t6 b_1 r_6 c_4 x_t1)) b_1 c_3 c_4) (by kernel_rfl) ?_
  have h6 : (fun (b_1 : List UInt8) (r_6 : Int) (c_4 : UInt8) (x_t1 : Bool) => (idthree_Size_pt [.r, .r, .r, .r, .r, .r, .l, .r]).e Tryd.prog idthree_Size_T idthree_Size_ans (idthree_Size_t6 b_1 r_6 c_4 x_t1)) = (idthree_Size_p6) := funext fun b_1 => funext fun r_6 => funext fun c_4 => funext fun x_t1 => idthree_Size_e6 b_1 r_6 c_4 x_t1
  rw [h6]
  rfl
theorem idthree_Size_run (x : List UInt8) : run Tryd.prog idthree_Size_T idthree_Size_ans Tryd.f47 idthree_Size_an idthree_Size_ps idthree_Size_rs x = idthree_Size x := by
  refine Eq.trans (b := idthree_Size_s0b (fun (b_1 : List UInt8) (c_3 : UInt8) (c_4 : UInt8) => (idthree_Size_pt [.r, .r, .r, .r]).e Tryd.prog idthree_Size_T idthree_Size_ans (idthree_Size_t5 b_1 c_3 c_4)) x) (by kernel_rfl) ?_
  rw [idthree_Size_s0b_eq]
  have h5 : (fun (b_1 : List UInt8) (c_3 : UInt8) (c_4 : UInt8) => (idthree_Size_pt [.r, .r, .r, .r]).e Tryd.prog idthree_Size_T idthree_Size_ans (idthree_Size_t5 b_1 c_3 c_4)) = (idthree_Size_p5) := funext fun b_1 => funext fun c_3 => funext fun c_4 => idthree_Size_e5 b_1 c_3 c_4
  rw [h5]
  rfl
def idthree_Size_c : Con := ⟨idthree_Size_ps, idthree_Size_rs, fun x => idthree_Size x⟩
theorem idthree_Size_ok : ConOk Tryd.prog Tryd.gl 47 idthree_Size_c := con_of_run (T := idthree_Size_T) Tryd.mixed Tryd.func47 Tryd.ent47 (TabOk.cons bytes_HasPrefix_ok (TabOk.cons idthree_Value_ok (TabOk.cons bytes_Equal_ok TabOk.nil))) (AnsOk.cons Tryd.ent59 AnsOk.nil) (by kernel_rfl) idthree_Size_run
def le_Value_ps : List Sh := [.lf (.list (.int .u8)) none]
def le_Value_rs : List Sh := [.lf (.int .u64) none, .lf (.int .i64) none]
def le_Value_an : An := (.seq .d (.seq .d (.seq .d (.cut [4] [] (.seq .d (.blk (.loop [4, 15, 16, 17] [] .d))) .d))))
def le_Value_T : Tab := ⟨[], Tryd.gl, false⟩
def le_Value_ans : List (Nat × An) := []
noncomputable def le_Value_pt (l : List (PS ((UInt64 × Int)))) : Pt ((UInt64 × Int)) := Pt.at (R := (UInt64 × Int)) Tryd.prog le_Value_T le_Value_ans (Pt.root Tryd.prog Tryd.f38 le_Value_an le_Value_rs) l
def le_Value_t6 (n_t1 : UInt64) : S := ⟨[(4, .val (.int .u64) n_t1)], [], []⟩
def le_Value_t4 (b_1 : List UInt8) (n_t1 : UInt64) (x_t2 : Int) : S := ⟨[(4, .val (.int .u64) n_t1), (15, .val (.list (.int .u8)) b_1), (16, .val (.int .i64) (lenI b_1)), (17, .val (.int .i64) x_t2)], [], []⟩
theorem le_Value_e6 (n_t1 : UInt64) : (le_Value_pt [.r, .r, .r, .r]).e Tryd.prog le_Value_T le_Value_ans (le_Value_t6 n_t1) = le_Value_p6 n_t1 := by kernel_rfl
theorem le_Value_i4 (b_1 : List UInt8) : ∀ (q : Nat) (n_t1 : UInt64) (x_t2 : Int), (le_Value_pt [.r, .r, .r, .l, .r, .d]).it Tryd.prog le_Value_T le_Value_ans q (le_Value_t4 b_1 n_t1 x_t2) = le_Value_l4 b_1 q n_t1 x_t2 := by
  intro q
  induction q with
  | zero => intros; rfl
  | succ q ih =>
    intro n_t1 x_t2
    refine Eq.trans (b := le_Value_s4 (fun (n_t1 : UInt64) => (le_Value_pt [.r, .r, .r, .r]).e Tryd.prog le_Value_T le_Value_ans (le_Value_t6 n_t1)) (fun (n_t1 : UInt64) (x_t2 : Int) => (le_Value_pt [.r, .r, .r, .l, .r, .d]).it Tryd.prog le_Value_T le_Value_ans q (le_Value_t4 b_1 n_t1 x_t2)) b_1 n_t1 x_t2) (by kernel_rfl) ?_
    have h6 : (fun (n_t1 : UInt64) => (le_Value_pt [.r, .r, .r, .r]).e Tryd.prog le_Value_T le_Value_ans (le_Value_t6 n_t1)) = (le_Value_p6) := funext fun n_t1 => le_Value_e6 n_t1
    have hq : (fun (n_t1 : UInt64) (x_t2 : Int) => (le_Value_pt [.r, .r, .r, .l, .r, .d]).it Tryd.prog le_Value_T le_Value_ans q (le_Value_t4 b_1 n_t1 x_t2)) = (le_Value_l4 b_1 q) := funext fun n_t1 => funext fun x_t2 => ih n_t1 x_t2
    rw [h6, hq]
    rfl
theorem le_Value_e4 (b_1 : List UInt8) (n_t1 : UInt64) (x_t2 : Int) : (le_Value_pt [.r, .r, .r, .l, .r, .d]).e Tryd.prog le_Value_T le_Value_ans (le_Value_t4 b_1 n_t1 x_t2) = le_Value_p4 b_1 n_t1 x_t2 := Eq.trans (b := (le_Value_pt [.r, .r, .r, .l, .r, .d]).it Tryd.prog le_Value_T le_Value_ans FUELx (le_Value_t4 b_1 n_t1 x_t2)) (by kernel_rfl) (Eq.trans (le_Value_i4 b_1 FUELx n_t1 x_t2) (congrArg (fun q => le_Value_l4 b_1 q n_t1 x_t2) FUELx_eq))
theorem le_Value_run (x : List UInt8) : run Tryd.prog le_Value_T le_Value_ans Tryd.f38 le_Value_an le_Value_ps le_Value_rs x = le_Value x := by
  refine Eq.trans (b := le_Value_s0 (fun (b_1 : List UInt8) (n_t1 : UInt64) (x_t2 : Int) => (le_Value_pt [.r, .r, .r, .l, .r, .d]).e Tryd.prog le_Value_T le_Value_ans (le_Value_t4 b_1 n_t1 x_t2)) x) (by kernel_rfl) ?_
  have h4 : (fun (b_1 : List UInt8) (n_t1 : UInt64) (x_t2 : Int) => (le_Value_pt [.r, .r, .r, .l, .r, .d]).e Tryd.prog le_Value_T le_Value_ans (le_Value_t4 b_1 n_t1 x_t2)) = (le_Value_p4) := funext fun b_1 => funext fun n_t1 => funext fun x_t2 => le_Value_e4 b_1 n_t1 x_t2
  rw [h4]
  rfl
def le_Value_c : Con := ⟨le_Value_ps, le_Value_rs, fun x => le_Value x⟩
theorem le_Value_ok : ConOk Tryd.prog Tryd.gl 38 le_Value_c := con_of_run (T := le_Value_T) Tryd.mixed Tryd.func38 Tryd.ent38 TabOk.nil AnsOk.nil (by kernel_rfl) le_Value_run
def le_At_ps : List Sh := [.lf (.list (.int .u8)) none, .lf (.int .i64) none, .lf (.int .i64) none]
def le_At_rs : List Sh := [.lf (.int .u64) none, .lf (.int .i64) none]
def le_At_an : An := .d
def le_At_T : Tab := ⟨[(38, le_Value_c)], Tryd.gl, false⟩
def le_At_ans : List (Nat × An) := []
theorem le_At_run (x : List UInt8 × Int × Int) : run Tryd.prog le_At_T le_At_ans Tryd.f21 le_At_an le_At_ps le_At_rs x = le_At x.1 x.2.1 x.2.2 := by kernel_rfl
def le_At_c : Con := ⟨le_At_ps, le_At_rs, fun x => le_At x.1 x.2.1 x.2.2⟩
theorem le_At_ok : ConOk Tryd.prog Tryd.gl 21 le_At_c := con_of_run (T := le_At_T) Tryd.mixed Tryd.func21 Tryd.ent21 (TabOk.cons le_Value_ok TabOk.nil) AnsOk.nil (by kernel_rfl) le_At_run
def le_fits_ps : List Sh := [.lf (.int .u64) none, .lf (.int .i64) none]
def le_fits_rs : List Sh := [.lf .bool none]
def le_fits_an : An := .d
def le_fits_T : Tab := ⟨[], Tryd.gl, false⟩
def le_fits_ans : List (Nat × An) := []
theorem le_fits_run (x : UInt64 × Int) : run Tryd.prog le_fits_T le_fits_ans Tryd.f70 le_fits_an le_fits_ps le_fits_rs x = le_fits x.1 x.2 := by kernel_rfl
def le_fits_c : Con := ⟨le_fits_ps, le_fits_rs, fun x => le_fits x.1 x.2⟩
theorem le_fits_ok : ConOk Tryd.prog Tryd.gl 70 le_fits_c := con_of_run (T := le_fits_T) Tryd.mixed Tryd.func70 Tryd.ent70 TabOk.nil AnsOk.nil (by kernel_rfl) le_fits_run
def le_Bytes_ps : List Sh := [.lf (.int .u64) none, .lf (.int .i64) none]
def le_Bytes_rs : List Sh := [.lf (.list (.int .u8)) (some 5), .lf (.int .i64) none]
def le_Bytes_an : An := (.seq .d (.seq .d (.seq .d (.seq .d (.cut [6] [] (.seq .d (.blk (.loop [0, 6, 21, 22] [] .d))) .d)))))
def le_Bytes_T : Tab := ⟨[(70, le_fits_c)], Tryd.gl, false⟩
def le_Bytes_ans : List (Nat × An) := []
noncomputable def le_Bytes_pt (l : List (PS (((List UInt8) × Int)))) : Pt (((List UInt8) × Int)) := Pt.at (R := ((List UInt8) × Int)) Tryd.prog le_Bytes_T le_Bytes_ans (Pt.root Tryd.prog Tryd.f68 le_Bytes_an le_Bytes_rs) l
def le_Bytes_t6 (l_t2 : List UInt8) : S := ⟨[(6, .own 0)], [.arr 5 (.int .u8) l_t2], []⟩
def le_Bytes_t4 (n_1 : UInt64) (l_4 : List UInt8) (x_t1 : Int) (l_t2 : List UInt8) : S := ⟨[(0, .val (.int .u64) n_1), (6, .own 0), (21, .val (.int .i64) (lenI l_4)), (22, .val (.int .i64) x_t1)], [.arr 5 (.int .u8) l_t2], []⟩
theorem le_Bytes_e6 (l_t2 : List UInt8) : (le_Bytes_pt [.r, .r, .r, .r, .r]).e Tryd.prog le_Bytes_T le_Bytes_ans (le_Bytes_t6 l_t2) = le_Bytes_p6 l_t2 := by kernel_rfl
theorem le_Bytes_i4 (n_1 : UInt64) (l_4 : List UInt8) : ∀ (q : Nat) (x_t1 : Int) (l_t2 : List UInt8), (le_Bytes_pt [.r, .r, .r, .r, .l, .r, .d]).it Tryd.prog le_Bytes_T le_Bytes_ans q (le_Bytes_t4 n_1 l_4 x_t1 l_t2) = le_Bytes_l4 n_1 l_4 q x_t1 l_t2 := by
  intro q
  induction q with
  | zero => intros; rfl
  | succ q ih =>
    intro x_t1 l_t2
    refine Eq.trans (b := le_Bytes_s4 (fun (l_t2 : List UInt8) => (le_Bytes_pt [.r, .r, .r, .r, .r]).e Tryd.prog le_Bytes_T le_Bytes_ans (le_Bytes_t6 l_t2)) (fun (x_t1 : Int) (l_t2 : List UInt8) => (le_Bytes_pt [.r, .r, .r, .r, .l, .r, .d]).it Tryd.prog le_Bytes_T le_Bytes_ans q (le_Bytes_t4 n_1 l_4 x_t1 l_t2)) n_1 l_4 x_t1 l_t2) (by kernel_rfl) ?_
    have h6 : (fun (l_t2 : List UInt8) => (le_Bytes_pt [.r, .r, .r, .r, .r]).e Tryd.prog le_Bytes_T le_Bytes_ans (le_Bytes_t6 l_t2)) = (le_Bytes_p6) := funext fun l_t2 => le_Bytes_e6 l_t2
    have hq : (fun (x_t1 : Int) (l_t2 : List UInt8) => (le_Bytes_pt [.r, .r, .r, .r, .l, .r, .d]).it Tryd.prog le_Bytes_T le_Bytes_ans q (le_Bytes_t4 n_1 l_4 x_t1 l_t2)) = (le_Bytes_l4 n_1 l_4 q) := funext fun x_t1 => funext fun l_t2 => ih x_t1 l_t2
    rw [h6, hq]
    rfl
theorem le_Bytes_e4 (n_1 : UInt64) (l_4 : List UInt8) (x_t1 : Int) (l_t2 : List UInt8) : (le_Bytes_pt [.r, .r, .r, .r, .l, .r, .d]).e Tryd.prog le_Bytes_T le_Bytes_ans (le_Bytes_t4 n_1 l_4 x_t1 l_t2) = le_Bytes_p4 n_1 l_4 x_t1 l_t2 := Eq.trans (b := (le_Bytes_pt [.r, .r, .r, .r, .l, .r, .d]).it Tryd.prog le_Bytes_T le_Bytes_ans FUELx (le_Bytes_t4 n_1 l_4 x_t1 l_t2)) (by kernel_rfl) (Eq.trans (le_Bytes_i4 n_1 l_4 FUELx x_t1 l_t2) (congrArg (fun q => le_Bytes_l4 n_1 l_4 q x_t1 l_t2) FUELx_eq))
theorem le_Bytes_run (x : UInt64 × Int) : run Tryd.prog le_Bytes_T le_Bytes_ans Tryd.f68 le_Bytes_an le_Bytes_ps le_Bytes_rs x = le_Bytes x.1 x.2 := by
  refine Eq.trans (b := le_Bytes_s0 (fun (n_1 : UInt64) (l_4 : List UInt8) (x_t1 : Int) (l_t2 : List UInt8) => (le_Bytes_pt [.r, .r, .r, .r, .l, .r, .d]).e Tryd.prog le_Bytes_T le_Bytes_ans (le_Bytes_t4 n_1 l_4 x_t1 l_t2)) x.1 x.2) (by kernel_rfl) ?_
  have h4 : (fun (n_1 : UInt64) (l_4 : List UInt8) (x_t1 : Int) (l_t2 : List UInt8) => (le_Bytes_pt [.r, .r, .r, .r, .l, .r, .d]).e Tryd.prog le_Bytes_T le_Bytes_ans (le_Bytes_t4 n_1 l_4 x_t1 l_t2)) = (le_Bytes_p4) := funext fun n_1 => funext fun l_4 => funext fun x_t1 => funext fun l_t2 => le_Bytes_e4 n_1 l_4 x_t1 l_t2
  rw [h4]
  rfl
def le_Bytes_c : Con := ⟨le_Bytes_ps, le_Bytes_rs, fun x => le_Bytes x.1 x.2⟩
theorem le_Bytes_ok : ConOk Tryd.prog Tryd.gl 68 le_Bytes_c := con_of_run (T := le_Bytes_T) Tryd.mixed Tryd.func68 Tryd.ent68 (TabOk.cons le_fits_ok TabOk.nil) AnsOk.nil (by kernel_rfl) le_Bytes_run
def ape_end_ps : List Sh := [.lf (.int .i64) none, .lf (.int .i64) none, .lf (.int .u64) none]
def ape_end_rs : List Sh := [.lf (.list (.int .u8)) (some 5)]
def ape_end_an : An := (.seq .d (.seq .d (.cut [7] [] (.seq .d (.blk (.loop [7, 20, 21, 22] [] .d))) .d)))
def ape_end_T : Tab := ⟨[(68, le_Bytes_c)], Tryd.gl, false⟩
def ape_end_ans : List (Nat × An) := []
noncomputable def ape_end_pt (l : List (PS (((List UInt8))))) : Pt (((List UInt8))) := Pt.at (R := ((List UInt8))) Tryd.prog ape_end_T ape_end_ans (Pt.root Tryd.prog Tryd.f62 ape_end_an ape_end_rs) l
def ape_end_t6 (x_t2 : List UInt8) : S := ⟨[(7, .own 0)], [.arr 5 (.int .u8) x_t2], []⟩
def ape_end_t4 (items_1 : Int) (count_2 : Int) (flags_3 : UInt64) (x_t1 : Int) (x_t2 : List UInt8) : S := ⟨[(7, .own 0), (20, .own 1), (21, .val (.int .i64) (lenI ([(2000 : UInt64), (gconv (gadd items_1 (32 : Int)) : UInt64), (gconv count_2 : UInt64), flags_3, (0 : UInt64), (0 : UInt64)] : List UInt64))), (22, .val (.int .i64) x_t1)], [.arr 5 (.int .u8) x_t2, .arr 61 (.int .u64) ([(2000 : UInt64), (gconv (gadd items_1 (32 : Int)) : UInt64), (gconv count_2 : UInt64), flags_3, (0 : UInt64), (0 : UInt64)] : List UInt64)], []⟩
theorem ape_end_e6 (x_t2 : List UInt8) : (ape_end_pt [.r, .r, .r]).e Tryd.prog ape_end_T ape_end_ans (ape_end_t6 x_t2) = ape_end_p6 x_t2 := by kernel_rfl
theorem ape_end_i4 (items_1 : Int) (count_2 : Int) (flags_3 : UInt64) : ∀ (q : Nat) (x_t1 : Int) (x_t2 : List UInt8), (ape_end_pt [.r, .r, .l, .r, .d]).it Tryd.prog ape_end_T ape_end_ans q (ape_end_t4 items_1 count_2 flags_3 x_t1 x_t2) = ape_end_l4 items_1 count_2 flags_3 q x_t1 x_t2 := by
  intro q
  induction q with
  | zero => intros; rfl
  | succ q ih =>
    intro x_t1 x_t2
    refine Eq.trans (b := ape_end_s4 (fun (x_t2 : List UInt8) => (ape_end_pt [.r, .r, .r]).e Tryd.prog ape_end_T ape_end_ans (ape_end_t6 x_t2)) (fun (x_t1 : Int) (x_t2 : List UInt8) => (ape_end_pt [.r, .r, .l, .r, .d]).it Tryd.prog ape_end_T ape_end_ans q (ape_end_t4 items_1 count_2 flags_3 x_t1 x_t2)) items_1 count_2 flags_3 x_t1 x_t2) (by kernel_rfl) ?_
    have h6 : (fun (x_t2 : List UInt8) => (ape_end_pt [.r, .r, .r]).e Tryd.prog ape_end_T ape_end_ans (ape_end_t6 x_t2)) = (ape_end_p6) := funext fun x_t2 => ape_end_e6 x_t2
    have hq : (fun (x_t1 : Int) (x_t2 : List UInt8) => (ape_end_pt [.r, .r, .l, .r, .d]).it Tryd.prog ape_end_T ape_end_ans q (ape_end_t4 items_1 count_2 flags_3 x_t1 x_t2)) = (ape_end_l4 items_1 count_2 flags_3 q) := funext fun x_t1 => funext fun x_t2 => ih x_t1 x_t2
    rw [h6, hq]
    rfl
theorem ape_end_e4 (items_1 : Int) (count_2 : Int) (flags_3 : UInt64) (x_t1 : Int) (x_t2 : List UInt8) : (ape_end_pt [.r, .r, .l, .r, .d]).e Tryd.prog ape_end_T ape_end_ans (ape_end_t4 items_1 count_2 flags_3 x_t1 x_t2) = ape_end_p4 items_1 count_2 flags_3 x_t1 x_t2 := Eq.trans (b := (ape_end_pt [.r, .r, .l, .r, .d]).it Tryd.prog ape_end_T ape_end_ans FUELx (ape_end_t4 items_1 count_2 flags_3 x_t1 x_t2)) (by kernel_rfl) (Eq.trans (ape_end_i4 items_1 count_2 flags_3 FUELx x_t1 x_t2) (congrArg (fun q => ape_end_l4 items_1 count_2 flags_3 q x_t1 x_t2) FUELx_eq))
theorem ape_end_run (x : Int × Int × UInt64) : run Tryd.prog ape_end_T ape_end_ans Tryd.f62 ape_end_an ape_end_ps ape_end_rs x = ape_end x.1 x.2.1 x.2.2 := by
  refine Eq.trans (b := ape_end_s0 (fun (items_1 : Int) (count_2 : Int) (flags_3 : UInt64) (x_t1 : Int) (x_t2 : List UInt8) => (ape_end_pt [.r, .r, .l, .r, .d]).e Tryd.prog ape_end_T ape_end_ans (ape_end_t4 items_1 count_2 flags_3 x_t1 x_t2)) x.1 x.2.1 x.2.2) (by kernel_rfl) ?_
  have h4 : (fun (items_1 : Int) (count_2 : Int) (flags_3 : UInt64) (x_t1 : Int) (x_t2 : List UInt8) => (ape_end_pt [.r, .r, .l, .r, .d]).e Tryd.prog ape_end_T ape_end_ans (ape_end_t4 items_1 count_2 flags_3 x_t1 x_t2)) = (ape_end_p4) := funext fun items_1 => funext fun count_2 => funext fun flags_3 => funext fun x_t1 => funext fun x_t2 => ape_end_e4 items_1 count_2 flags_3 x_t1 x_t2
  rw [h4]
  rfl
def ape_end_c : Con := ⟨ape_end_ps, ape_end_rs, fun x => ape_end x.1 x.2.1 x.2.2⟩
theorem ape_end_ok : ConOk Tryd.prog Tryd.gl 62 ape_end_c := con_of_run (T := ape_end_T) Tryd.mixed Tryd.func62 Tryd.ent62 (TabOk.cons le_Bytes_ok TabOk.nil) AnsOk.nil (by kernel_rfl) ape_end_run
def ape_tells_ps : List Sh := [.lf (.list (.int .u8)) none, .lf (.int .u64) none]
def ape_tells_rs : List Sh := [.agg [.lf (.int .i64) none, .lf (.int .i64) none], .lf .bool none]
def ape_tells_an : An := .d
def ape_tells_T : Tab := ⟨[(21, le_At_c), (60, bytes_Equal_c), (62, ape_end_c)], Tryd.gl, false⟩
def ape_tells_ans : List (Nat × An) := []
theorem ape_tells_run (x : List UInt8 × UInt64) : run Tryd.prog ape_tells_T ape_tells_ans Tryd.f61 ape_tells_an ape_tells_ps ape_tells_rs x = ape_tells x.1 x.2 := by kernel_rfl
def ape_tells_c : Con := ⟨ape_tells_ps, ape_tells_rs, fun x => ape_tells x.1 x.2⟩
theorem ape_tells_ok : ConOk Tryd.prog Tryd.gl 61 ape_tells_c := con_of_run (T := ape_tells_T) Tryd.mixed Tryd.func61 Tryd.ent61 (TabOk.cons le_At_ok (TabOk.cons bytes_Equal_ok (TabOk.cons ape_end_ok TabOk.nil))) AnsOk.nil (by kernel_rfl) ape_tells_run
def ape_Front_ps : List Sh := [.lf (.list (.int .u8)) none]
def ape_Front_rs : List Sh := [.lf (.int .i64) none, .lf (.int .i64) none]
def ape_Front_an : An := .d
def ape_Front_T : Tab := ⟨[(57, bytes_HasPrefix_c), (60, bytes_Equal_c), (61, ape_tells_c), (62, ape_end_c)], Tryd.gl, false⟩
def ape_Front_ans : List (Nat × An) := []
theorem ape_Front_run (x : List UInt8) : run Tryd.prog ape_Front_T ape_Front_ans Tryd.f48 ape_Front_an ape_Front_ps ape_Front_rs x = ape_Front x := by kernel_rfl
def ape_Front_c : Con := ⟨ape_Front_ps, ape_Front_rs, fun x => ape_Front x⟩
theorem ape_Front_ok : ConOk Tryd.prog Tryd.gl 48 ape_Front_c := con_of_run (T := ape_Front_T) Tryd.mixed Tryd.func48 Tryd.ent48 (TabOk.cons bytes_HasPrefix_ok (TabOk.cons bytes_Equal_ok (TabOk.cons ape_tells_ok (TabOk.cons ape_end_ok TabOk.nil)))) AnsOk.nil (by kernel_rfl) ape_Front_run
def strip_size_ps : List Sh := [.lf (.list (.int .u8)) none]
def strip_size_rs : List Sh := [.lf (.int .i64) none, .lf (.int .i64) none]
def strip_size_an : An := .d
def strip_size_T : Tab := ⟨[(47, idthree_Size_c), (48, ape_Front_c)], Tryd.gl, false⟩
def strip_size_ans : List (Nat × An) := []
theorem strip_size_run (x : List UInt8) : run Tryd.prog strip_size_T strip_size_ans Tryd.f36 strip_size_an strip_size_ps strip_size_rs x = strip_size x := by kernel_rfl
def strip_size_c : Con := ⟨strip_size_ps, strip_size_rs, fun x => strip_size x⟩
theorem strip_size_ok : ConOk Tryd.prog Tryd.gl 36 strip_size_c := con_of_run (T := strip_size_T) Tryd.mixed Tryd.func36 Tryd.ent36 (TabOk.cons idthree_Size_ok (TabOk.cons ape_Front_ok TabOk.nil)) AnsOk.nil (by kernel_rfl) strip_size_run
theorem strip_Front_ok : ConOk Tryd.prog Tryd.gl 11 strip_Front_c := strip_Front_of Tryd.ent11 strip_size_ok
def internal_stringslite_HasPrefix_ps : List Sh := [.lf .str none, .lf .str none]
def internal_stringslite_HasPrefix_rs : List Sh := [.lf .bool none]
def internal_stringslite_HasPrefix_an : An := .d
def internal_stringslite_HasPrefix_T : Tab := ⟨[], Tryd.gl, false⟩
def internal_stringslite_HasPrefix_ans : List (Nat × An) := []
theorem internal_stringslite_HasPrefix_run (x : List UInt8 × List UInt8) : run Tryd.prog internal_stringslite_HasPrefix_T internal_stringslite_HasPrefix_ans Tryd.f37 internal_stringslite_HasPrefix_an internal_stringslite_HasPrefix_ps internal_stringslite_HasPrefix_rs x = internal_stringslite_HasPrefix x.1 x.2 := by kernel_rfl
def internal_stringslite_HasPrefix_c : Con := ⟨internal_stringslite_HasPrefix_ps, internal_stringslite_HasPrefix_rs, fun x => internal_stringslite_HasPrefix x.1 x.2⟩
theorem internal_stringslite_HasPrefix_ok : ConOk Tryd.prog Tryd.gl 37 internal_stringslite_HasPrefix_c := con_of_run (T := internal_stringslite_HasPrefix_T) Tryd.mixed Tryd.func37 Tryd.ent37 TabOk.nil AnsOk.nil (by kernel_rfl) internal_stringslite_HasPrefix_run
def strings_HasPrefix_ps : List Sh := [.lf .str none, .lf .str none]
def strings_HasPrefix_rs : List Sh := [.lf .bool none]
def strings_HasPrefix_an : An := .d
def strings_HasPrefix_T : Tab := ⟨[(37, internal_stringslite_HasPrefix_c)], Tryd.gl, false⟩
def strings_HasPrefix_ans : List (Nat × An) := []
theorem strings_HasPrefix_run (x : List UInt8 × List UInt8) : run Tryd.prog strings_HasPrefix_T strings_HasPrefix_ans Tryd.f20 strings_HasPrefix_an strings_HasPrefix_ps strings_HasPrefix_rs x = strings_HasPrefix x.1 x.2 := by kernel_rfl
def strings_HasPrefix_c : Con := ⟨strings_HasPrefix_ps, strings_HasPrefix_rs, fun x => strings_HasPrefix x.1 x.2⟩
theorem strings_HasPrefix_ok : ConOk Tryd.prog Tryd.gl 20 strings_HasPrefix_c := con_of_run (T := strings_HasPrefix_T) Tryd.mixed Tryd.func20 Tryd.ent20 (TabOk.cons internal_stringslite_HasPrefix_ok TabOk.nil) AnsOk.nil (by kernel_rfl) strings_HasPrefix_run
def crc32_Next_ps : List Sh := [.lf (.int .u32) none, .lf (.list (.int .u8)) none]
def crc32_Next_rs : List Sh := [.lf (.int .u32) none, .lf (.int .i64) none]
def crc32_Next_an : An := (.seq .d (.seq .d (.cut [0, 1, 6] [] (.keep [0, 1, 6, 12] true) (.cut [0] [] (.seq .d (.blk (.loop [0, 6, 13, 14, 15] [] .d))) .d))))
def crc32_Next_T : Tab := ⟨[], Tryd.gl, false⟩
def crc32_Next_ans : List (Nat × An) := [(49, (.seq .d (.seq .d (.cut [1] [] (.seq .d (.blk (.loop [1, 5] [] (.seq .d (.seq .d (.cut [1, 5] [] (.blk (.seq .d (.seq .d (.cut [1, 2, 3, 5] [] (.seq .d (.blk (.loop [1, 2, 3, 5, 10] [] .d))) .d)))) .d)))))) .d))))]
noncomputable def crc32_Next_pt (l : List (PS ((UInt32 × Int)))) : Pt ((UInt32 × Int)) := Pt.at (R := (UInt32 × Int)) Tryd.prog crc32_Next_T crc32_Next_ans (Pt.root Tryd.prog Tryd.f39 crc32_Next_an crc32_Next_rs) l
def crc32_Next_t30 (state_t7 : UInt32) : S := ⟨[(0, .val (.int .u32) state_t7)], [], []⟩
def crc32_Next_t28 (b_2 : List UInt8) (x_t4 : List UInt32) (state_t7 : UInt32) (x_t8 : Int) : S := ⟨[(0, .val (.int .u32) state_t7), (6, .ptr 0 []), (13, .val (.list (.int .u8)) b_2), (14, .val (.int .i64) (lenI b_2)), (15, .val (.int .i64) x_t8)], [.box 103 (.val (.vec 256 (.int .u32)) x_t4)], []⟩
def crc32_Next_t27 (state_1 : UInt32) (b_2 : List UInt8) (x_t4 : List UInt32) : S := ⟨[(0, .val (.int .u32) state_1), (1, .val (.list (.int .u8)) b_2), (6, .ptr 0 [])], [.box 103 (.val (.vec 256 (.int .u32)) x_t4)], []⟩
def crc32_Next_t26 (state_1 : UInt32) (b_2 : List UInt8) (x_t4 : List UInt32) : S := ⟨[(1, .ptr 0 [])], [.box 103 (.val (.vec 256 (.int .u32)) x_t4)], [[(0, .val (.int .u32) state_1), (1, .val (.list (.int .u8)) b_2)]]⟩
def crc32_Next_t24 (state_1 : UInt32) (b_2 : List UInt8) (x_t3 : Int) (l_3 : List UInt32) : S := ⟨[(1, .ptr 0 []), (5, .val (.int .i64) x_t3)], [.box 103 (.val (.vec 256 (.int .u32)) l_3)], [[(0, .val (.int .u32) state_1), (1, .val (.list (.int .u8)) b_2)]]⟩
def crc32_Next_t23 (state_1 : UInt32) (b_2 : List UInt8) (x_t3 : Int) (c_t5 : UInt32) (x_t4 : List UInt32) : S := ⟨[(1, .ptr 0 []), (2, .val (.int .i64) x_t3), (3, .val (.int .u32) c_t5), (5, .val (.int .i64) x_t3)], [.box 103 (.val (.vec 256 (.int .u32)) x_t4)], [[(0, .val (.int .u32) state_1), (1, .val (.list (.int .u8)) b_2)]]⟩
def crc32_Next_t21 (state_1 : UInt32) (b_2 : List UInt8) (x_t3 : Int) (x_t4 : List UInt32) (c_t5 : UInt32) (x_t6 : Int) : S := ⟨[(1, .ptr 0 []), (2, .val (.int .i64) x_t3), (3, .val (.int .u32) c_t5), (5, .val (.int .i64) x_t3), (10, .val (.int .i64) x_t6)], [.box 103 (.val (.vec 256 (.int .u32)) x_t4)], [[(0, .val (.int .u32) state_1), (1, .val (.list (.int .u8)) b_2)]]⟩
def crc32_Next_t16 (state_1 : UInt32) (b_2 : List UInt8) (x_t3 : Int) (x_t4 : List UInt32) : S := ⟨[(1, .ptr 0 []), (5, .val (.int .i64) x_t3)], [.box 103 (.val (.vec 256 (.int .u32)) x_t4)], [[(0, .val (.int .u32) state_1), (1, .val (.list (.int .u8)) b_2)]]⟩
theorem crc32_Next_e30 (state_t7 : UInt32) : (crc32_Next_pt [.r, .r, .r, .r]).e Tryd.prog crc32_Next_T crc32_Next_ans (crc32_Next_t30 state_t7) = crc32_Next_p30 state_t7 := by kernel_rfl
theorem crc32_Next_i28 (b_2 : List UInt8) (x_t4 : List UInt32) : ∀ (q : Nat) (state_t7 : UInt32) (x_t8 : Int), (crc32_Next_pt [.r, .r, .r, .l, .r, .d]).it Tryd.prog crc32_Next_T crc32_Next_ans q (crc32_Next_t28 b_2 x_t4 state_t7 x_t8) = crc32_Next_l28 b_2 x_t4 q state_t7 x_t8 := by
  intro q
  induction q with
  | zero => intros; rfl
  | succ q ih =>
    intro state_t7 x_t8
    refine Eq.trans (b := crc32_Next_s28 (fun (state_t7 : UInt32) => (crc32_Next_pt [.r, .r, .r, .r]).e Tryd.prog crc32_Next_T crc32_Next_ans (crc32_Next_t30 state_t7)) (fun (state_t7 : UInt32) (x_t8 : Int) => (crc32_Next_pt [.r, .r, .r, .l, .r, .d]).it Tryd.prog crc32_Next_T crc32_Next_ans q (crc32_Next_t28 b_2 x_t4 state_t7 x_t8)) b_2 x_t4 state_t7 x_t8) (by kernel_rfl) ?_
    have h30 : (fun (state_t7 : UInt32) => (crc32_Next_pt [.r, .r, .r, .r]).e Tryd.prog crc32_Next_T crc32_Next_ans (crc32_Next_t30 state_t7)) = (crc32_Next_p30) := funext fun state_t7 => crc32_Next_e30 state_t7
    have hq : (fun (state_t7 : UInt32) (x_t8 : Int) => (crc32_Next_pt [.r, .r, .r, .l, .r, .d]).it Tryd.prog crc32_Next_T crc32_Next_ans q (crc32_Next_t28 b_2 x_t4 state_t7 x_t8)) = (crc32_Next_l28 b_2 x_t4 q) := funext fun state_t7 => funext fun x_t8 => ih state_t7 x_t8
    rw [h30, hq]
    rfl
theorem crc32_Next_e28 (b_2 : List UInt8) (x_t4 : List UInt32) (state_t7 : UInt32) (x_t8 : Int) : (crc32_Next_pt [.r, .r, .r, .l, .r, .d]).e Tryd.prog crc32_Next_T crc32_Next_ans (crc32_Next_t28 b_2 x_t4 state_t7 x_t8) = crc32_Next_p28 b_2 x_t4 state_t7 x_t8 := Eq.trans (b := (crc32_Next_pt [.r, .r, .r, .l, .r, .d]).it Tryd.prog crc32_Next_T crc32_Next_ans FUELx (crc32_Next_t28 b_2 x_t4 state_t7 x_t8)) (by kernel_rfl) (Eq.trans (crc32_Next_i28 b_2 x_t4 FUELx state_t7 x_t8) (congrArg (fun q => crc32_Next_l28 b_2 x_t4 q state_t7 x_t8) FUELx_eq))
theorem crc32_Next_e27 (state_1 : UInt32) (b_2 : List UInt8) (x_t4 : List UInt32) : (crc32_Next_pt [.r, .r, .r]).e Tryd.prog crc32_Next_T crc32_Next_ans (crc32_Next_t27 state_1 b_2 x_t4) = crc32_Next_p27 state_1 b_2 x_t4 := by
  refine Eq.trans (b := crc32_Next_s27 (fun (b_2 : List UInt8) (x_t4 : List UInt32) (state_t7 : UInt32) (x_t8 : Int) => (crc32_Next_pt [.r, .r, .r, .l, .r, .d]).e Tryd.prog crc32_Next_T crc32_Next_ans (crc32_Next_t28 b_2 x_t4 state_t7 x_t8)) state_1 b_2 x_t4) (by kernel_rfl) ?_
  have h28 : (fun (b_2 : List UInt8) (x_t4 : List UInt32) (state_t7 : UInt32) (x_t8 : Int) => (crc32_Next_pt [.r, .r, .r, .l, .r, .d]).e Tryd.prog crc32_Next_T crc32_Next_ans (crc32_Next_t28 b_2 x_t4 state_t7 x_t8)) = (crc32_Next_p28) := funext fun b_2 => funext fun x_t4 => funext fun state_t7 => funext fun x_t8 => crc32_Next_e28 b_2 x_t4 state_t7 x_t8
  rw [h28]
  rfl
theorem crc32_Next_e26 (state_1 : UInt32) (b_2 : List UInt8) (x_t4 : List UInt32) : (crc32_Next_pt [.r, .r, .l, (.call 0 49), .r, .r, .r]).e Tryd.prog crc32_Next_T crc32_Next_ans (crc32_Next_t26 state_1 b_2 x_t4) = crc32_Next_p26 state_1 b_2 x_t4 := by
  refine Eq.trans (b := crc32_Next_s26 (fun (state_1 : UInt32) (b_2 : List UInt8) (x_t4 : List UInt32) => (crc32_Next_pt [.r, .r, .r]).e Tryd.prog crc32_Next_T crc32_Next_ans (crc32_Next_t27 state_1 b_2 x_t4)) state_1 b_2 x_t4) (by kernel_rfl) ?_
  have h27 : (fun (state_1 : UInt32) (b_2 : List UInt8) (x_t4 : List UInt32) => (crc32_Next_pt [.r, .r, .r]).e Tryd.prog crc32_Next_T crc32_Next_ans (crc32_Next_t27 state_1 b_2 x_t4)) = (crc32_Next_p27) := funext fun state_1 => funext fun b_2 => funext fun x_t4 => crc32_Next_e27 state_1 b_2 x_t4
  rw [h27]
  rfl
theorem crc32_Next_e24 (kn16 : S → Option ((UInt32 × Int))) (state_1 : UInt32) (b_2 : List UInt8) (x_t3 : Int) (l_3 : List UInt32) : (crc32_Next_pt [.r, .r, .l, (.call 0 49), .r, .r, .l, .r, .d, (.lp kn16), .r, .r, .r]).e Tryd.prog crc32_Next_T crc32_Next_ans (crc32_Next_t24 state_1 b_2 x_t3 l_3) = crc32_Next_p24 (fun x_t3 x_t4 => kn16 (crc32_Next_t16 state_1 b_2 x_t3 x_t4)) state_1 b_2 x_t3 l_3 := by kernel_rfl
theorem crc32_Next_e23 (kn16 : S → Option ((UInt32 × Int))) (state_1 : UInt32) (b_2 : List UInt8) (x_t3 : Int) (c_t5 : UInt32) (x_t4 : List UInt32) : (crc32_Next_pt [.r, .r, .l, (.call 0 49), .r, .r, .l, .r, .d, (.lp kn16), .r, .r, .l, .d, .r, .r, .r]).e Tryd.prog crc32_Next_T crc32_Next_ans (crc32_Next_t23 state_1 b_2 x_t3 c_t5 x_t4) = crc32_Next_p23 (fun x_t3 x_t4 => kn16 (crc32_Next_t16 state_1 b_2 x_t3 x_t4)) state_1 b_2 x_t3 c_t5 x_t4 := by
  refine Eq.trans (b := crc32_Next_s23 (fun (x_t3 : Int) (l_3 : List UInt32) => (crc32_Next_pt [.r, .r, .l, (.call 0 49), .r, .r, .l, .r, .d, (.lp kn16), .r, .r, .r]).e Tryd.prog crc32_Next_T crc32_Next_ans (crc32_Next_t24 state_1 b_2 x_t3 l_3)) state_1 b_2 x_t3 c_t5 x_t4) (by kernel_rfl) ?_
  have h24 : (fun (x_t3 : Int) (l_3 : List UInt32) => (crc32_Next_pt [.r, .r, .l, (.call 0 49), .r, .r, .l, .r, .d, (.lp kn16), .r, .r, .r]).e Tryd.prog crc32_Next_T crc32_Next_ans (crc32_Next_t24 state_1 b_2 x_t3 l_3)) = (crc32_Next_p24 (fun x_t3 x_t4 => kn16 (crc32_Next_t16 state_1 b_2 x_t3 x_t4)) state_1 b_2) := funext fun x_t3 => funext fun l_3 => crc32_Next_e24 kn16 state_1 b_2 x_t3 l_3
  rw [h24]
  rfl
theorem crc32_Next_i21 (kn16 : S → Option ((UInt32 × Int))) (state_1 : UInt32) (b_2 : List UInt8) (x_t3 : Int) (x_t4 : List UInt32) : ∀ (q : Nat) (c_t5 : UInt32) (x_t6 : Int), (crc32_Next_pt [.r, .r, .l, (.call 0 49), .r, .r, .l, .r, .d, (.lp kn16), .r, .r, .l, .d, .r, .r, .l, .r, .d]).it Tryd.prog crc32_Next_T crc32_Next_ans q (crc32_Next_t21 state_1 b_2 x_t3 x_t4 c_t5 x_t6) = crc32_Next_l21 (fun x_t3 x_t4 => kn16 (crc32_Next_t16 state_1 b_2 x_t3 x_t4)) state_1 b_2 x_t3 x_t4 q c_t5 x_t6 := by
  intro q
  induction q with
  | zero => intros; rfl
  | succ q ih =>
    intro c_t5 x_t6
    refine Eq.trans (b := crc32_Next_s21 (fun (x_t3 : Int) (c_t5 : UInt32) (x_t4 : List UInt32) => (crc32_Next_pt [.r, .r, .l, (.call 0 49), .r, .r, .l, .r, .d, (.lp kn16), .r, .r, .l, .d, .r, .r, .r]).e Tryd.prog crc32_Next_T crc32_Next_ans (crc32_Next_t23 state_1 b_2 x_t3 c_t5 x_t4)) (fun (c_t5 : UInt32) (x_t6 : Int) => (crc32_Next_pt [.r, .r, .l, (.call 0 49), .r, .r, .l, .r, .d, (.lp kn16), .r, .r, .l, .d, .r, .r, .l, .r, .d]).it Tryd.prog crc32_Next_T crc32_Next_ans q (crc32_Next_t21 state_1 b_2 x_t3 x_t4 c_t5 x_t6)) state_1 b_2 x_t3 x_t4 c_t5 x_t6) (by kernel_rfl) ?_
    have h23 : (fun (x_t3 : Int) (c_t5 : UInt32) (x_t4 : List UInt32) => (crc32_Next_pt [.r, .r, .l, (.call 0 49), .r, .r, .l, .r, .d, (.lp kn16), .r, .r, .l, .d, .r, .r, .r]).e Tryd.prog crc32_Next_T crc32_Next_ans (crc32_Next_t23 state_1 b_2 x_t3 c_t5 x_t4)) = (crc32_Next_p23 (fun x_t3 x_t4 => kn16 (crc32_Next_t16 state_1 b_2 x_t3 x_t4)) state_1 b_2) := funext fun x_t3 => funext fun c_t5 => funext fun x_t4 => crc32_Next_e23 kn16 state_1 b_2 x_t3 c_t5 x_t4
    have hq : (fun (c_t5 : UInt32) (x_t6 : Int) => (crc32_Next_pt [.r, .r, .l, (.call 0 49), .r, .r, .l, .r, .d, (.lp kn16), .r, .r, .l, .d, .r, .r, .l, .r, .d]).it Tryd.prog crc32_Next_T crc32_Next_ans q (crc32_Next_t21 state_1 b_2 x_t3 x_t4 c_t5 x_t6)) = (crc32_Next_l21 (fun x_t3 x_t4 => kn16 (crc32_Next_t16 state_1 b_2 x_t3 x_t4)) state_1 b_2 x_t3 x_t4 q) := funext fun c_t5 => funext fun x_t6 => ih c_t5 x_t6
    rw [h23, hq]
    rfl
theorem crc32_Next_e21 (kn16 : S → Option ((UInt32 × Int))) (state_1 : UInt32) (b_2 : List UInt8) (x_t3 : Int) (x_t4 : List UInt32) (c_t5 : UInt32) (x_t6 : Int) : (crc32_Next_pt [.r, .r, .l, (.call 0 49), .r, .r, .l, .r, .d, (.lp kn16), .r, .r, .l, .d, .r, .r, .l, .r, .d]).e Tryd.prog crc32_Next_T crc32_Next_ans (crc32_Next_t21 state_1 b_2 x_t3 x_t4 c_t5 x_t6) = crc32_Next_p21 (fun x_t3 x_t4 => kn16 (crc32_Next_t16 state_1 b_2 x_t3 x_t4)) state_1 b_2 x_t3 x_t4 c_t5 x_t6 := Eq.trans (b := (crc32_Next_pt [.r, .r, .l, (.call 0 49), .r, .r, .l, .r, .d, (.lp kn16), .r, .r, .l, .d, .r, .r, .l, .r, .d]).it Tryd.prog crc32_Next_T crc32_Next_ans FUELx (crc32_Next_t21 state_1 b_2 x_t3 x_t4 c_t5 x_t6)) (by kernel_rfl) (Eq.trans (crc32_Next_i21 kn16 state_1 b_2 x_t3 x_t4 FUELx c_t5 x_t6) (congrArg (fun q => crc32_Next_l21 (fun x_t3 x_t4 => kn16 (crc32_Next_t16 state_1 b_2 x_t3 x_t4)) state_1 b_2 x_t3 x_t4 q c_t5 x_t6) FUELx_eq))
theorem crc32_Next_i16 (state_1 : UInt32) (b_2 : List UInt8) : ∀ (q : Nat) (x_t3 : Int) (x_t4 : List UInt32), (crc32_Next_pt [.r, .r, .l, (.call 0 49), .r, .r, .l, .r, .d]).it Tryd.prog crc32_Next_T crc32_Next_ans q (crc32_Next_t16 state_1 b_2 x_t3 x_t4) = crc32_Next_l16 state_1 b_2 q x_t3 x_t4 := by
  intro q
  induction q with
  | zero => intros; rfl
  | succ q ih =>
    intro x_t3 x_t4
    refine Eq.trans (b := crc32_Next_s16 (fun (x_t3 : Int) (x_t4 : List UInt32) (c_t5 : UInt32) (x_t6 : Int) => (crc32_Next_pt [.r, .r, .l, (.call 0 49), .r, .r, .l, .r, .d, (.lp ((crc32_Next_pt [.r, .r, .l, (.call 0 49), .r, .r, .l, .r, .d]).it Tryd.prog crc32_Next_T crc32_Next_ans q)), .r, .r, .l, .d, .r, .r, .l, .r, .d]).e Tryd.prog crc32_Next_T crc32_Next_ans (crc32_Next_t21 state_1 b_2 x_t3 x_t4 c_t5 x_t6)) (fun (state_1 : UInt32) (b_2 : List UInt8) (x_t4 : List UInt32) => (crc32_Next_pt [.r, .r, .l, (.call 0 49), .r, .r, .r]).e Tryd.prog crc32_Next_T crc32_Next_ans (crc32_Next_t26 state_1 b_2 x_t4)) state_1 b_2 x_t3 x_t4) (by kernel_rfl) ?_
    have h21 : (fun (x_t3 : Int) (x_t4 : List UInt32) (c_t5 : UInt32) (x_t6 : Int) => (crc32_Next_pt [.r, .r, .l, (.call 0 49), .r, .r, .l, .r, .d, (.lp ((crc32_Next_pt [.r, .r, .l, (.call 0 49), .r, .r, .l, .r, .d]).it Tryd.prog crc32_Next_T crc32_Next_ans q)), .r, .r, .l, .d, .r, .r, .l, .r, .d]).e Tryd.prog crc32_Next_T crc32_Next_ans (crc32_Next_t21 state_1 b_2 x_t3 x_t4 c_t5 x_t6)) = (crc32_Next_p21 (fun (x_t3 : Int) (x_t4 : List UInt32) => (crc32_Next_pt [.r, .r, .l, (.call 0 49), .r, .r, .l, .r, .d]).it Tryd.prog crc32_Next_T crc32_Next_ans q (crc32_Next_t16 state_1 b_2 x_t3 x_t4)) state_1 b_2) := funext fun x_t3 => funext fun x_t4 => funext fun c_t5 => funext fun x_t6 => crc32_Next_e21 ((crc32_Next_pt [.r, .r, .l, (.call 0 49), .r, .r, .l, .r, .d]).it Tryd.prog crc32_Next_T crc32_Next_ans q) state_1 b_2 x_t3 x_t4 c_t5 x_t6
    have h26 : (fun (state_1 : UInt32) (b_2 : List UInt8) (x_t4 : List UInt32) => (crc32_Next_pt [.r, .r, .l, (.call 0 49), .r, .r, .r]).e Tryd.prog crc32_Next_T crc32_Next_ans (crc32_Next_t26 state_1 b_2 x_t4)) = (crc32_Next_p26) := funext fun state_1 => funext fun b_2 => funext fun x_t4 => crc32_Next_e26 state_1 b_2 x_t4
    have hq : (fun (x_t3 : Int) (x_t4 : List UInt32) => (crc32_Next_pt [.r, .r, .l, (.call 0 49), .r, .r, .l, .r, .d]).it Tryd.prog crc32_Next_T crc32_Next_ans q (crc32_Next_t16 state_1 b_2 x_t3 x_t4)) = (crc32_Next_l16 state_1 b_2 q) := funext fun x_t3 => funext fun x_t4 => ih x_t3 x_t4
    rw [h21, h26, hq]
    rfl
theorem crc32_Next_e16 (state_1 : UInt32) (b_2 : List UInt8) (x_t3 : Int) (x_t4 : List UInt32) : (crc32_Next_pt [.r, .r, .l, (.call 0 49), .r, .r, .l, .r, .d]).e Tryd.prog crc32_Next_T crc32_Next_ans (crc32_Next_t16 state_1 b_2 x_t3 x_t4) = crc32_Next_p16 state_1 b_2 x_t3 x_t4 := Eq.trans (b := (crc32_Next_pt [.r, .r, .l, (.call 0 49), .r, .r, .l, .r, .d]).it Tryd.prog crc32_Next_T crc32_Next_ans FUELx (crc32_Next_t16 state_1 b_2 x_t3 x_t4)) (by kernel_rfl) (Eq.trans (crc32_Next_i16 state_1 b_2 FUELx x_t3 x_t4) (congrArg (fun q => crc32_Next_l16 state_1 b_2 q x_t3 x_t4) FUELx_eq))
theorem crc32_Next_run (x : UInt32 × List UInt8) : run Tryd.prog crc32_Next_T crc32_Next_ans Tryd.f39 crc32_Next_an crc32_Next_ps crc32_Next_rs x = crc32_Next x.1 x.2 := by
  refine Eq.trans (b := crc32_Next_s0 (fun (state_1 : UInt32) (b_2 : List UInt8) (x_t3 : Int) (x_t4 : List UInt32) => (crc32_Next_pt [.r, .r, .l, (.call 0 49), .r, .r, .l, .r, .d]).e Tryd.prog crc32_Next_T crc32_Next_ans (crc32_Next_t16 state_1 b_2 x_t3 x_t4)) x.1 x.2) (by kernel_rfl) ?_
  have h16 : (fun (state_1 : UInt32) (b_2 : List UInt8) (x_t3 : Int) (x_t4 : List UInt32) => (crc32_Next_pt [.r, .r, .l, (.call 0 49), .r, .r, .l, .r, .d]).e Tryd.prog crc32_Next_T crc32_Next_ans (crc32_Next_t16 state_1 b_2 x_t3 x_t4)) = (crc32_Next_p16) := funext fun state_1 => funext fun b_2 => funext fun x_t3 => funext fun x_t4 => crc32_Next_e16 state_1 b_2 x_t3 x_t4
  rw [h16]
  rfl
def crc32_Next_c : Con := ⟨crc32_Next_ps, crc32_Next_rs, fun x => crc32_Next x.1 x.2⟩
theorem crc32_Next_ok : ConOk Tryd.prog Tryd.gl 39 crc32_Next_c := con_of_run (T := crc32_Next_T) Tryd.mixed Tryd.func39 Tryd.ent39 TabOk.nil (AnsOk.cons Tryd.ent49 AnsOk.nil) (by kernel_rfl) crc32_Next_run
def crc32_Sum_ps : List Sh := [.lf (.list (.int .u8)) none]
def crc32_Sum_rs : List Sh := [.lf (.int .u32) none, .lf (.int .i64) none]
def crc32_Sum_an : An := .d
def crc32_Sum_T : Tab := ⟨[(39, crc32_Next_c)], Tryd.gl, false⟩
def crc32_Sum_ans : List (Nat × An) := []
theorem crc32_Sum_run (x : List UInt8) : run Tryd.prog crc32_Sum_T crc32_Sum_ans Tryd.f22 crc32_Sum_an crc32_Sum_ps crc32_Sum_rs x = crc32_Sum x := by kernel_rfl
def crc32_Sum_c : Con := ⟨crc32_Sum_ps, crc32_Sum_rs, fun x => crc32_Sum x⟩
theorem crc32_Sum_ok : ConOk Tryd.prog Tryd.gl 22 crc32_Sum_c := con_of_run (T := crc32_Sum_T) Tryd.mixed Tryd.func22 Tryd.ent22 (TabOk.cons crc32_Next_ok TabOk.nil) AnsOk.nil (by kernel_rfl) crc32_Sum_run
def header_shaped_ps : List Sh := [.agg [.lf (.int .i64) none, .lf (.int .i64) none, .lf (.int .i64) none, .lf (.int .i64) none, .lf (.int .i64) none]]
def header_shaped_rs : List Sh := [.lf .bool none]
def header_shaped_an : An := (.seq .d (.cut [1] [] .d .d))
def header_shaped_T : Tab := ⟨[], Tryd.gl, false⟩
def header_shaped_ans : List (Nat × An) := []
noncomputable def header_shaped_pt (l : List (PS ((Bool)))) : Pt ((Bool)) := Pt.at (R := (Bool)) Tryd.prog header_shaped_T header_shaped_ans (Pt.root Tryd.prog Tryd.f23 header_shaped_an header_shaped_rs) l
def header_shaped_t2 (h_1 : Int) (h_2 : Int) (h_3 : Int) (h_4 : Int) (h_5 : Int) : S := ⟨[(1, .ptr 0 [])], [.box 32 (.agg [.val (.int .i64) h_1, .val (.int .i64) h_2, .val (.int .i64) h_3, .val (.int .i64) h_4, .val (.int .i64) h_5])], []⟩
theorem header_shaped_e2 (h_1 : Int) (h_2 : Int) (h_3 : Int) (h_4 : Int) (h_5 : Int) : (header_shaped_pt [.r, .r]).e Tryd.prog header_shaped_T header_shaped_ans (header_shaped_t2 h_1 h_2 h_3 h_4 h_5) = header_shaped_p2 h_1 h_2 h_3 h_4 h_5 := by kernel_rfl
theorem header_shaped_run (x : Int × Int × Int × Int × Int) : run Tryd.prog header_shaped_T header_shaped_ans Tryd.f23 header_shaped_an header_shaped_ps header_shaped_rs x = header_shaped x.1 x.2.1 x.2.2.1 x.2.2.2.1 x.2.2.2.2 := by
  refine Eq.trans (b := header_shaped_s0 (fun (h_1 : Int) (h_2 : Int) (h_3 : Int) (h_4 : Int) (h_5 : Int) => (header_shaped_pt [.r, .r]).e Tryd.prog header_shaped_T header_shaped_ans (header_shaped_t2 h_1 h_2 h_3 h_4 h_5)) x.1 x.2.1 x.2.2.1 x.2.2.2.1 x.2.2.2.2) (by kernel_rfl) ?_
  have h2 : (fun (h_1 : Int) (h_2 : Int) (h_3 : Int) (h_4 : Int) (h_5 : Int) => (header_shaped_pt [.r, .r]).e Tryd.prog header_shaped_T header_shaped_ans (header_shaped_t2 h_1 h_2 h_3 h_4 h_5)) = (header_shaped_p2) := funext fun h_1 => funext fun h_2 => funext fun h_3 => funext fun h_4 => funext fun h_5 => header_shaped_e2 h_1 h_2 h_3 h_4 h_5
  rw [h2]
  rfl
def header_shaped_c : Con := ⟨header_shaped_ps, header_shaped_rs, fun x => header_shaped x.1 x.2.1 x.2.2.1 x.2.2.2.1 x.2.2.2.2⟩
theorem header_shaped_ok : ConOk Tryd.prog Tryd.gl 23 header_shaped_c := con_of_run (T := header_shaped_T) Tryd.mixed Tryd.func23 Tryd.ent23 TabOk.nil AnsOk.nil (by kernel_rfl) header_shaped_run
def lengths_Long_ps : List Sh := [.lf (.int .i64) none]
def lengths_Long_rs : List Sh := [.lf (.int .i64) none, .lf (.int .i64) none]
def lengths_Long_an : An := .d
def lengths_Long_T : Tab := ⟨[], Tryd.gl, false⟩
def lengths_Long_ans : List (Nat × An) := []
theorem lengths_Long_run (x : Int) : run Tryd.prog lengths_Long_T lengths_Long_ans Tryd.f41 lengths_Long_an lengths_Long_ps lengths_Long_rs x = lengths_Long x := by kernel_rfl
def lengths_Long_c : Con := ⟨lengths_Long_ps, lengths_Long_rs, fun x => lengths_Long x⟩
theorem lengths_Long_ok : ConOk Tryd.prog Tryd.gl 41 lengths_Long_c := con_of_run (T := lengths_Long_T) Tryd.mixed Tryd.func41 Tryd.ent41 TabOk.nil AnsOk.nil (by kernel_rfl) lengths_Long_run
def lengths_Count_ps : List Sh := [.lf (.int .i64) none, .lf (.int .i64) none]
def lengths_Count_rs : List Sh := [.lf (.int .i64) none, .lf (.int .i64) none]
def lengths_Count_an : An := .d
def lengths_Count_T : Tab := ⟨[(41, lengths_Long_c)], Tryd.gl, false⟩
def lengths_Count_ans : List (Nat × An) := []
theorem lengths_Count_run (x : Int × Int) : run Tryd.prog lengths_Count_T lengths_Count_ans Tryd.f40 lengths_Count_an lengths_Count_ps lengths_Count_rs x = lengths_Count x.1 x.2 := by kernel_rfl
def lengths_Count_c : Con := ⟨lengths_Count_ps, lengths_Count_rs, fun x => lengths_Count x.1 x.2⟩
theorem lengths_Count_ok : ConOk Tryd.prog Tryd.gl 40 lengths_Count_c := con_of_run (T := lengths_Count_T) Tryd.mixed Tryd.func40 Tryd.ent40 (TabOk.cons lengths_Long_ok TabOk.nil) AnsOk.nil (by kernel_rfl) lengths_Count_run
def header_fits_ps : List Sh := [.agg [.lf (.int .i64) none, .lf (.int .i64) none, .lf (.int .i64) none, .lf (.int .i64) none, .lf (.int .i64) none]]
def header_fits_rs : List Sh := [.lf .bool none]
def header_fits_an : An := .d
def header_fits_T : Tab := ⟨[(40, lengths_Count_c)], Tryd.gl, false⟩
def header_fits_ans : List (Nat × An) := []
theorem header_fits_run (x : Int × Int × Int × Int × Int) : run Tryd.prog header_fits_T header_fits_ans Tryd.f24 header_fits_an header_fits_ps header_fits_rs x = header_fits x.1 x.2.1 x.2.2.1 x.2.2.2.1 x.2.2.2.2 := by kernel_rfl
def header_fits_c : Con := ⟨header_fits_ps, header_fits_rs, fun x => header_fits x.1 x.2.1 x.2.2.1 x.2.2.2.1 x.2.2.2.2⟩
theorem header_fits_ok : ConOk Tryd.prog Tryd.gl 24 header_fits_c := con_of_run (T := header_fits_T) Tryd.mixed Tryd.func24 Tryd.ent24 (TabOk.cons lengths_Count_ok TabOk.nil) AnsOk.nil (by kernel_rfl) header_fits_run
def header_Read_ps : List Sh := [.lf (.list (.int .u8)) none]
def header_Read_rs : List Sh := [.agg [.lf (.int .i64) none, .lf (.int .i64) none, .lf (.int .i64) none, .lf (.int .i64) none, .lf (.int .i64) none], .lf (.int .i64) none]
def header_Read_an : An := (.seq .d (.seq .d (.seq .d (.seq .d (.seq .d (.seq .d (.seq .d (.cut [2, 8] [] (.seq .d (.blk (.loop [0, 2, 8, 9, 44, 45] [] .d))) .d))))))))
def header_Read_T : Tab := ⟨[(20, strings_HasPrefix_c), (21, le_At_c), (22, crc32_Sum_c), (23, header_shaped_c), (24, header_fits_c)], Tryd.gl_0, false⟩
def header_Read_ans : List (Nat × An) := []
noncomputable def header_Read_pt (l : List (PS ((Int × Int × Int × Int × Int × Int)))) : Pt ((Int × Int × Int × Int × Int × Int)) := Pt.at (R := (Int × Int × Int × Int × Int × Int)) Tryd.prog header_Read_T header_Read_ans (Pt.root Tryd.prog Tryd.f12 header_Read_an header_Read_rs) l
def header_Read_t6 (x_t3 : List Int) : S := ⟨[(2, .ptr 0 []), (8, .ptr 1 [])], [.box 32 (.agg [.val (.int .i64) (0 : Int), .val (.int .i64) (0 : Int), .val (.int .i64) (0 : Int), .val (.int .i64) (0 : Int), .val (.int .i64) (0 : Int)]), .box 67 (.val (.vec 5 (.int .i64)) x_t3)], []⟩
def header_Read_t4 (b_1 : List UInt8) (at_t1 : Int) (x_t2 : Int) (x_t3 : List Int) : S := ⟨[(0, .val (.list (.int .u8)) b_1), (2, .ptr 0 []), (8, .ptr 1 []), (9, .val (.int .i64) at_t1), (44, .val (.vec 5 (.int .i64)) ([(2 : Int), (2 : Int), (2 : Int), (4 : Int), (4 : Int)] : List Int)), (45, .val (.int .i64) x_t2)], [.box 32 (.agg [.val (.int .i64) (0 : Int), .val (.int .i64) (0 : Int), .val (.int .i64) (0 : Int), .val (.int .i64) (0 : Int), .val (.int .i64) (0 : Int)]), .box 67 (.val (.vec 5 (.int .i64)) x_t3)], []⟩
theorem header_Read_e6 (x_t3 : List Int) : (header_Read_pt [.r, .r, .r, .r, .r, .r, .r, .r]).e Tryd.prog header_Read_T header_Read_ans (header_Read_t6 x_t3) = header_Read_p6 x_t3 := by kernel_rfl
theorem header_Read_i4 (b_1 : List UInt8) : ∀ (q : Nat) (at_t1 : Int) (x_t2 : Int) (x_t3 : List Int), (header_Read_pt [.r, .r, .r, .r, .r, .r, .r, .l, .r, .d]).it Tryd.prog header_Read_T header_Read_ans q (header_Read_t4 b_1 at_t1 x_t2 x_t3) = header_Read_l4 b_1 q at_t1 x_t2 x_t3 := by
  intro q
  induction q with
  | zero => intros; rfl
  | succ q ih =>
    intro at_t1 x_t2 x_t3
    refine Eq.trans (b := header_Read_s4 (fun (x_t3 : List Int) => (header_Read_pt [.r, .r, .r, .r, .r, .r, .r, .r]).e Tryd.prog header_Read_T header_Read_ans (header_Read_t6 x_t3)) (fun (at_t1 : Int) (x_t2 : Int) (x_t3 : List Int) => (header_Read_pt [.r, .r, .r, .r, .r, .r, .r, .l, .r, .d]).it Tryd.prog header_Read_T header_Read_ans q (header_Read_t4 b_1 at_t1 x_t2 x_t3)) b_1 at_t1 x_t2 x_t3) (by kernel_rfl) ?_
    have h6 : (fun (x_t3 : List Int) => (header_Read_pt [.r, .r, .r, .r, .r, .r, .r, .r]).e Tryd.prog header_Read_T header_Read_ans (header_Read_t6 x_t3)) = (header_Read_p6) := funext fun x_t3 => header_Read_e6 x_t3
    have hq : (fun (at_t1 : Int) (x_t2 : Int) (x_t3 : List Int) => (header_Read_pt [.r, .r, .r, .r, .r, .r, .r, .l, .r, .d]).it Tryd.prog header_Read_T header_Read_ans q (header_Read_t4 b_1 at_t1 x_t2 x_t3)) = (header_Read_l4 b_1 q) := funext fun at_t1 => funext fun x_t2 => funext fun x_t3 => ih at_t1 x_t2 x_t3
    rw [h6, hq]
    rfl
theorem header_Read_e4 (b_1 : List UInt8) (at_t1 : Int) (x_t2 : Int) (x_t3 : List Int) : (header_Read_pt [.r, .r, .r, .r, .r, .r, .r, .l, .r, .d]).e Tryd.prog header_Read_T header_Read_ans (header_Read_t4 b_1 at_t1 x_t2 x_t3) = header_Read_p4 b_1 at_t1 x_t2 x_t3 := Eq.trans (b := (header_Read_pt [.r, .r, .r, .r, .r, .r, .r, .l, .r, .d]).it Tryd.prog header_Read_T header_Read_ans FUELx (header_Read_t4 b_1 at_t1 x_t2 x_t3)) (by kernel_rfl) (Eq.trans (header_Read_i4 b_1 FUELx at_t1 x_t2 x_t3) (congrArg (fun q => header_Read_l4 b_1 q at_t1 x_t2 x_t3) FUELx_eq))
theorem header_Read_run (x : List UInt8) : run Tryd.prog header_Read_T header_Read_ans Tryd.f12 header_Read_an header_Read_ps header_Read_rs x = header_Read x := by
  refine Eq.trans (b := header_Read_s0 (fun (b_1 : List UInt8) (at_t1 : Int) (x_t2 : Int) (x_t3 : List Int) => (header_Read_pt [.r, .r, .r, .r, .r, .r, .r, .l, .r, .d]).e Tryd.prog header_Read_T header_Read_ans (header_Read_t4 b_1 at_t1 x_t2 x_t3)) x) (by kernel_rfl) ?_
  have h4 : (fun (b_1 : List UInt8) (at_t1 : Int) (x_t2 : Int) (x_t3 : List Int) => (header_Read_pt [.r, .r, .r, .r, .r, .r, .r, .l, .r, .d]).e Tryd.prog header_Read_T header_Read_ans (header_Read_t4 b_1 at_t1 x_t2 x_t3)) = (header_Read_p4) := funext fun b_1 => funext fun at_t1 => funext fun x_t2 => funext fun x_t3 => header_Read_e4 b_1 at_t1 x_t2 x_t3
  rw [h4]
  rfl
def header_Read_c : Con := ⟨header_Read_ps, header_Read_rs, fun x => header_Read x⟩
theorem header_Read_ok : ConOk Tryd.prog Tryd.gl_0 12 header_Read_c := con_of_run (T := header_Read_T) Tryd.mixed Tryd.func12 Tryd.ent12 (TabOk.cons (strings_HasPrefix_ok.mono (.cons _ .slnil)) (TabOk.cons (le_At_ok.mono (.cons _ .slnil)) (TabOk.cons (crc32_Sum_ok.mono (.cons _ .slnil)) (TabOk.cons (header_shaped_ok.mono (.cons _ .slnil)) (TabOk.cons (header_fits_ok.mono (.cons _ .slnil)) TabOk.nil))))) AnsOk.nil (by kernel_rfl) header_Read_run
def header_Check_ps : List Sh := [.agg [.lf (.int .i64) none, .lf (.int .i64) none, .lf (.int .i64) none, .lf (.int .i64) none, .lf (.int .i64) none]]
def header_Check_rs : List Sh := [.lf (.int .i64) none]
def header_Check_an : An := .d
def header_Check_T : Tab := ⟨[(23, header_shaped_c), (24, header_fits_c)], Tryd.gl, false⟩
def header_Check_ans : List (Nat × An) := []
theorem header_Check_run (x : Int × Int × Int × Int × Int) : run Tryd.prog header_Check_T header_Check_ans Tryd.f25 header_Check_an header_Check_ps header_Check_rs x = header_Check x.1 x.2.1 x.2.2.1 x.2.2.2.1 x.2.2.2.2 := by kernel_rfl
def header_Check_c : Con := ⟨header_Check_ps, header_Check_rs, fun x => header_Check x.1 x.2.1 x.2.2.1 x.2.2.2.1 x.2.2.2.2⟩
theorem header_Check_ok : ConOk Tryd.prog Tryd.gl 25 header_Check_c := con_of_run (T := header_Check_T) Tryd.mixed Tryd.func25 Tryd.ent25 (TabOk.cons header_shaped_ok (TabOk.cons header_fits_ok TabOk.nil)) AnsOk.nil (by kernel_rfl) header_Check_run
def math_bits_Mul32_ps : List Sh := [.lf (.int .u32) none, .lf (.int .u32) none]
def math_bits_Mul32_rs : List Sh := [.lf (.int .u32) none, .lf (.int .u32) none]
def math_bits_Mul32_an : An := .d
def math_bits_Mul32_T : Tab := ⟨[], Tryd.gl, false⟩
def math_bits_Mul32_ans : List (Nat × An) := []
theorem math_bits_Mul32_run (x : UInt32 × UInt32) : run Tryd.prog math_bits_Mul32_T math_bits_Mul32_ans Tryd.f63 math_bits_Mul32_an math_bits_Mul32_ps math_bits_Mul32_rs x = math_bits_Mul32 x.1 x.2 := by kernel_rfl
def math_bits_Mul32_c : Con := ⟨math_bits_Mul32_ps, math_bits_Mul32_rs, fun x => math_bits_Mul32 x.1 x.2⟩
theorem math_bits_Mul32_ok : ConOk Tryd.prog Tryd.gl 63 math_bits_Mul32_c := con_of_run (T := math_bits_Mul32_T) Tryd.mixed Tryd.func63 Tryd.ent63 TabOk.nil AnsOk.nil (by kernel_rfl) math_bits_Mul32_run
def math_bits_Mul64_ps : List Sh := [.lf (.int .u64) none, .lf (.int .u64) none]
def math_bits_Mul64_rs : List Sh := [.lf (.int .u64) none, .lf (.int .u64) none]
def math_bits_Mul64_an : An := .d
def math_bits_Mul64_T : Tab := ⟨[], Tryd.gl, false⟩
def math_bits_Mul64_ans : List (Nat × An) := []
theorem math_bits_Mul64_run (x : UInt64 × UInt64) : run Tryd.prog math_bits_Mul64_T math_bits_Mul64_ans Tryd.f64 math_bits_Mul64_an math_bits_Mul64_ps math_bits_Mul64_rs x = math_bits_Mul64 x.1 x.2 := by kernel_rfl
def math_bits_Mul64_c : Con := ⟨math_bits_Mul64_ps, math_bits_Mul64_rs, fun x => math_bits_Mul64 x.1 x.2⟩
theorem math_bits_Mul64_ok : ConOk Tryd.prog Tryd.gl 64 math_bits_Mul64_c := con_of_run (T := math_bits_Mul64_T) Tryd.mixed Tryd.func64 Tryd.ent64 TabOk.nil AnsOk.nil (by kernel_rfl) math_bits_Mul64_run
def math_bits_Mul_ps : List Sh := [.lf (.int .u64) none, .lf (.int .u64) none]
def math_bits_Mul_rs : List Sh := [.lf (.int .u64) none, .lf (.int .u64) none]
def math_bits_Mul_an : An := .d
def math_bits_Mul_T : Tab := ⟨[(64, math_bits_Mul64_c)], Tryd.gl, false⟩
def math_bits_Mul_ans : List (Nat × An) := []
theorem math_bits_Mul_run (x : UInt64 × UInt64) : run Tryd.prog math_bits_Mul_T math_bits_Mul_ans Tryd.f50 math_bits_Mul_an math_bits_Mul_ps math_bits_Mul_rs x = math_bits_Mul x.1 x.2 := by kernel_rfl
def math_bits_Mul_c : Con := ⟨math_bits_Mul_ps, math_bits_Mul_rs, fun x => math_bits_Mul x.1 x.2⟩
theorem math_bits_Mul_ok : ConOk Tryd.prog Tryd.gl 50 math_bits_Mul_c := con_of_run (T := math_bits_Mul_T) Tryd.mixed Tryd.func50 Tryd.ent50 (TabOk.cons math_bits_Mul64_ok TabOk.nil) AnsOk.nil (by kernel_rfl) math_bits_Mul_run
noncomputable def slices_Repeat_int_int_s8b (j10 : (List Int) → Option ((List Int))) (bk8 : Int → (List Int) → Option ((List Int))) (n_t1 : Int) (x_t2 : List Int) : Option ((List Int)) :=
if (glt n_t1 (lenI x_t2)) = true then (
both (
Option.bind (vwI (lenI x_t2) n_t1 (lenI x_t2)) fun _ =>
Option.bind (vwI (lenI x_t2) (0 : Int) n_t1) fun _ =>
bk8 (gadd n_t1 (copyN ((lenI x_t2) - n_t1) (subL x_t2 (0 : Int) (n_t1 - (0 : Int))).length)) (copyAt x_t2 n_t1 ((lenI x_t2) - n_t1) (subL x_t2 (0 : Int) (n_t1 - (0 : Int))))) [
Option.bind (vwI (lenI x_t2) (0 : Int) n_t1) fun _ =>
Option.bind (vwI (lenI x_t2) n_t1 (lenI x_t2)) fun _ =>
bk8 (gadd n_t1 (copyN ((lenI x_t2) - n_t1) (subL x_t2 (0 : Int) (n_t1 - (0 : Int))).length)) (copyAt x_t2 n_t1 ((lenI x_t2) - n_t1) (subL x_t2 (0 : Int) (n_t1 - (0 : Int))))])
else (
j10 x_t2)
theorem slices_Repeat_int_int_s8b_eq : @slices_Repeat_int_int_s8b = @slices_Repeat_int_int_s8 := by
  unfold slices_Repeat_int_int_s8b slices_Repeat_int_int_s8
  repeat (refine funext fun _ => ?_)
  repeat' first
    | with_reducible rfl
    | refine both1_of ?_ ?_
    | refine both2_of ?_ ?_ ?_
    | refine both3_of ?_ ?_ ?_ ?_
    | (refine nilb_of ?_ ?_; (intro h; first | (subst h; rfl) | (simp only [h]; rfl) | (simp [appI, lenI, h]; done)))
    | with_reducible refine bind_of fun x => ?_
    | with_reducible refine ite_of (fun _ => ?_) (fun _ => ?_)
    | (refine bind_cases (fun h => by simp only [h, bind_no, bind_so, bind_to_none, ite_self]) (fun x h => ?_); (try simp only [h, bind_so]))
    | (refine ite_cases (fun h => ?_) (fun h => ?_) <;> simp only [h, if_true, if_false, Bool.false_eq_true])
def slices_Repeat_int_int_ps : List Sh := [.lf (.list (.int .i64)) none, .lf (.int .i64) none]
def slices_Repeat_int_int_rs : List Sh := [.lf (.list (.int .i64)) (some 3)]
def slices_Repeat_int_int_an : An := (.seq .d (.cut [0, 1] [] .d (.seq .d (.cut [0, 6] [] .d (.seq .d (.seq .d (.cut [7] [] (.blk (.loop [7, 8] [] (.seq .d (.blk (.mode false))))) .d)))))))
def slices_Repeat_int_int_T : Tab := ⟨[(50, math_bits_Mul_c)], Tryd.gl, true⟩
def slices_Repeat_int_int_ans : List (Nat × An) := []
noncomputable def slices_Repeat_int_int_pt (l : List (PS (((List Int))))) : Pt (((List Int))) := Pt.at (R := ((List Int))) Tryd.prog slices_Repeat_int_int_T slices_Repeat_int_int_ans (Pt.root Tryd.prog Tryd.f42 slices_Repeat_int_int_an slices_Repeat_int_int_rs) l
def slices_Repeat_int_int_t10 (x_t2 : List Int) : S := ⟨[(7, .own 0)], [.arr 3 (.int .i64) x_t2], []⟩
def slices_Repeat_int_int_t8 (n_t1 : Int) (x_t2 : List Int) : S := ⟨[(7, .own 0), (8, .val (.int .i64) n_t1)], [.arr 3 (.int .i64) x_t2], []⟩
def slices_Repeat_int_int_t7 (x_1 : List Int) (r_4 : UInt64) : S := ⟨[(0, .val (.list (.int .i64)) x_1), (6, .val (.int .u64) r_4)], [], []⟩
def slices_Repeat_int_int_t6 (x_1 : List Int) (count_2 : Int) : S := ⟨[(0, .val (.list (.int .i64)) x_1), (1, .val (.int .i64) count_2)], [], []⟩
theorem slices_Repeat_int_int_e10 (x_t2 : List Int) : (slices_Repeat_int_int_pt [.r, .r, .r, .r, .r, .r, .r]).e Tryd.prog slices_Repeat_int_int_T slices_Repeat_int_int_ans (slices_Repeat_int_int_t10 x_t2) = slices_Repeat_int_int_p10 x_t2 := by kernel_rfl
theorem slices_Repeat_int_int_i8 : ∀ (q : Nat) (n_t1 : Int) (x_t2 : List Int), (slices_Repeat_int_int_pt [.r, .r, .r, .r, .r, .r, .l, .d]).it Tryd.prog slices_Repeat_int_int_T slices_Repeat_int_int_ans q (slices_Repeat_int_int_t8 n_t1 x_t2) = slices_Repeat_int_int_l8 q n_t1 x_t2 := by
  intro q
  induction q with
  | zero => intros; rfl
  | succ q ih =>
    intro n_t1 x_t2
    refine Eq.trans (b := slices_Repeat_int_int_s8b (fun (x_t2 : List Int) => (slices_Repeat_int_int_pt [.r, .r, .r, .r, .r, .r, .r]).e Tryd.prog slices_Repeat_int_int_T slices_Repeat_int_int_ans (slices_Repeat_int_int_t10 x_t2)) (fun (n_t1 : Int) (x_t2 : List Int) => (slices_Repeat_int_int_pt [.r, .r, .r, .r, .r, .r, .l, .d]).it Tryd.prog slices_Repeat_int_int_T slices_Repeat_int_int_ans q (slices_Repeat_int_int_t8 n_t1 x_t2)) n_t1 x_t2) (by kernel_rfl) ?_
    rw [slices_Repeat_int_int_s8b_eq]
    have h10 : (fun (x_t2 : List Int) => (slices_Repeat_int_int_pt [.r, .r, .r, .r, .r, .r, .r]).e Tryd.prog slices_Repeat_int_int_T slices_Repeat_int_int_ans (slices_Repeat_int_int_t10 x_t2)) = (slices_Repeat_int_int_p10) := funext fun x_t2 => slices_Repeat_int_int_e10 x_t2
    have hq : (fun (n_t1 : Int) (x_t2 : List Int) => (slices_Repeat_int_int_pt [.r, .r, .r, .r, .r, .r, .l, .d]).it Tryd.prog slices_Repeat_int_int_T slices_Repeat_int_int_ans q (slices_Repeat_int_int_t8 n_t1 x_t2)) = (slices_Repeat_int_int_l8 q) := funext fun n_t1 => funext fun x_t2 => ih n_t1 x_t2
    rw [h10, hq]
    rfl
theorem slices_Repeat_int_int_e8 (n_t1 : Int) (x_t2 : List Int) : (slices_Repeat_int_int_pt [.r, .r, .r, .r, .r, .r, .l, .d]).e Tryd.prog slices_Repeat_int_int_T slices_Repeat_int_int_ans (slices_Repeat_int_int_t8 n_t1 x_t2) = slices_Repeat_int_int_p8 n_t1 x_t2 := Eq.trans (b := (slices_Repeat_int_int_pt [.r, .r, .r, .r, .r, .r, .l, .d]).it Tryd.prog slices_Repeat_int_int_T slices_Repeat_int_int_ans FUELx (slices_Repeat_int_int_t8 n_t1 x_t2)) (by kernel_rfl) (Eq.trans (slices_Repeat_int_int_i8 FUELx n_t1 x_t2) (congrArg (fun q => slices_Repeat_int_int_l8 q n_t1 x_t2) FUELx_eq))
theorem slices_Repeat_int_int_e7 (x_1 : List Int) (r_4 : UInt64) : (slices_Repeat_int_int_pt [.r, .r, .r, .r]).e Tryd.prog slices_Repeat_int_int_T slices_Repeat_int_int_ans (slices_Repeat_int_int_t7 x_1 r_4) = slices_Repeat_int_int_p7 x_1 r_4 := by
  refine Eq.trans (b := slices_Repeat_int_int_s7 (fun (n_t1 : Int) (x_t2 : List Int) => (slices_Repeat_int_int_pt [.r, .r, .r, .r, .r, .r, .l, .d]).e Tryd.prog slices_Repeat_int_int_T slices_Repeat_int_int_ans (slices_Repeat_int_int_t8 n_t1 x_t2)) x_1 r_4) (by kernel_rfl) ?_
  have h8 : (fun (n_t1 : Int) (x_t2 : List Int) => (slices_Repeat_int_int_pt [.r, .r, .r, .r, .r, .r, .l, .d]).e Tryd.prog slices_Repeat_int_int_T slices_Repeat_int_int_ans (slices_Repeat_int_int_t8 n_t1 x_t2)) = (slices_Repeat_int_int_p8) := funext fun n_t1 => funext fun x_t2 => slices_Repeat_int_int_e8 n_t1 x_t2
  rw [h8]
  rfl
theorem slices_Repeat_int_int_e6 (x_1 : List Int) (count_2 : Int) : (slices_Repeat_int_int_pt [.r, .r]).e Tryd.prog slices_Repeat_int_int_T slices_Repeat_int_int_ans (slices_Repeat_int_int_t6 x_1 count_2) = slices_Repeat_int_int_p6 x_1 count_2 := by
  refine Eq.trans (b := slices_Repeat_int_int_s6 (fun (x_1 : List Int) (r_4 : UInt64) => (slices_Repeat_int_int_pt [.r, .r, .r, .r]).e Tryd.prog slices_Repeat_int_int_T slices_Repeat_int_int_ans (slices_Repeat_int_int_t7 x_1 r_4)) x_1 count_2) (by kernel_rfl) ?_
  have h7 : (fun (x_1 : List Int) (r_4 : UInt64) => (slices_Repeat_int_int_pt [.r, .r, .r, .r]).e Tryd.prog slices_Repeat_int_int_T slices_Repeat_int_int_ans (slices_Repeat_int_int_t7 x_1 r_4)) = (slices_Repeat_int_int_p7) := funext fun x_1 => funext fun r_4 => slices_Repeat_int_int_e7 x_1 r_4
  rw [h7]
  rfl
theorem slices_Repeat_int_int_run (x : List Int × Int) : run Tryd.prog slices_Repeat_int_int_T slices_Repeat_int_int_ans Tryd.f42 slices_Repeat_int_int_an slices_Repeat_int_int_ps slices_Repeat_int_int_rs x = slices_Repeat_int_int x.1 x.2 := by
  refine Eq.trans (b := slices_Repeat_int_int_s0 (fun (x_1 : List Int) (count_2 : Int) => (slices_Repeat_int_int_pt [.r, .r]).e Tryd.prog slices_Repeat_int_int_T slices_Repeat_int_int_ans (slices_Repeat_int_int_t6 x_1 count_2)) x.1 x.2) (by kernel_rfl) ?_
  have h6 : (fun (x_1 : List Int) (count_2 : Int) => (slices_Repeat_int_int_pt [.r, .r]).e Tryd.prog slices_Repeat_int_int_T slices_Repeat_int_int_ans (slices_Repeat_int_int_t6 x_1 count_2)) = (slices_Repeat_int_int_p6) := funext fun x_1 => funext fun count_2 => slices_Repeat_int_int_e6 x_1 count_2
  rw [h6]
  rfl
def slices_Repeat_int_int_c : Con := ⟨slices_Repeat_int_int_ps, slices_Repeat_int_int_rs, fun x => slices_Repeat_int_int x.1 x.2⟩
theorem slices_Repeat_int_int_ok : ConOk Tryd.prog Tryd.gl 42 slices_Repeat_int_int_c := con_of_run (T := slices_Repeat_int_int_T) Tryd.mixed Tryd.func42 Tryd.ent42 (TabOk.cons math_bits_Mul_ok TabOk.nil) AnsOk.nil (by kernel_rfl) slices_Repeat_int_int_run
def slices_Concat_int_int_ps : List Sh := [.lf (.list (.list (.int .i64))) none]
def slices_Concat_int_int_rs : List Sh := [.lf (.list (.int .i64)) (some 3)]
def slices_Concat_int_int_an : An := (.seq .d (.seq .d (.cut [0, 3] [] (.seq .d (.blk (.loop [0, 3, 9, 10, 11] [] .d))) (.cut [0, 6] [⟨6, [], .own 3 (.int .i64)⟩] (.keep [0, 3, 6, 23, 24] true) (.cut [6] [] (.seq .d (.blk (.loop [6, 25, 26, 27] [] .d))) .d)))))
def slices_Concat_int_int_T : Tab := ⟨[], Tryd.gl, true⟩
def slices_Concat_int_int_ans : List (Nat × An) := [(65, (.seq .d (.cut [0, 1] [] .d .d)))]
noncomputable def slices_Concat_int_int_pt (l : List (PS (((List Int))))) : Pt (((List Int))) := Pt.at (R := ((List Int))) Tryd.prog slices_Concat_int_int_T slices_Concat_int_int_ans (Pt.root Tryd.prog Tryd.f51 slices_Concat_int_int_an slices_Concat_int_int_rs) l
def slices_Concat_int_int_t16 (x_t5 : List Int) : S := ⟨[(6, .own 0)], [.arr 3 (.int .i64) x_t5], []⟩
def slices_Concat_int_int_t14 (slices_1 : List (List Int)) (x_t4 : Int) (x_t5 : List Int) : S := ⟨[(6, .own 0), (25, .val (.list (.list (.int .i64))) slices_1), (26, .val (.int .i64) (lenI slices_1)), (27, .val (.int .i64) x_t4)], [.arr 3 (.int .i64) x_t5], []⟩
def slices_Concat_int_int_t13 (slices_1 : List (List Int)) (x_t3 : List Int) : S := ⟨[(0, .val (.list (.list (.int .i64))) slices_1), (6, .own 0)], [.arr 3 (.int .i64) x_t3], []⟩
def slices_Concat_int_int_t12 (size_t1 : Int) (slices_1 : List (List Int)) : S := ⟨[(0, .nils), (1, .val (.int .i64) size_t1)], [], [[(0, .val (.list (.list (.int .i64))) slices_1), (3, .val (.int .i64) size_t1), (23, .val (.int .i64) size_t1)]]⟩
def slices_Concat_int_int_t11 (slices_1 : List (List Int)) (size_t1 : Int) : S := ⟨[(0, .val (.list (.list (.int .i64))) slices_1), (3, .val (.int .i64) size_t1)], [], []⟩
def slices_Concat_int_int_t9 (slices_1 : List (List Int)) (size_t1 : Int) (x_t2 : Int) : S := ⟨[(0, .val (.list (.list (.int .i64))) slices_1), (3, .val (.int .i64) size_t1), (9, .val (.list (.list (.int .i64))) slices_1), (10, .val (.int .i64) (lenI slices_1)), (11, .val (.int .i64) x_t2)], [], []⟩
theorem slices_Concat_int_int_e16 (x_t5 : List Int) : (slices_Concat_int_int_pt [.r, .r, .r, .r, .r]).e Tryd.prog slices_Concat_int_int_T slices_Concat_int_int_ans (slices_Concat_int_int_t16 x_t5) = slices_Concat_int_int_p16 x_t5 := by kernel_rfl
theorem slices_Concat_int_int_i14 (slices_1 : List (List Int)) : ∀ (q : Nat) (x_t4 : Int) (x_t5 : List Int), (slices_Concat_int_int_pt [.r, .r, .r, .r, .l, .r, .d]).it Tryd.prog slices_Concat_int_int_T slices_Concat_int_int_ans q (slices_Concat_int_int_t14 slices_1 x_t4 x_t5) = slices_Concat_int_int_l14 slices_1 q x_t4 x_t5 := by
  intro q
  induction q with
  | zero => intros; rfl
  | succ q ih =>
    intro x_t4 x_t5
    refine Eq.trans (b := slices_Concat_int_int_s14 (fun (x_t5 : List Int) => (slices_Concat_int_int_pt [.r, .r, .r, .r, .r]).e Tryd.prog slices_Concat_int_int_T slices_Concat_int_int_ans (slices_Concat_int_int_t16 x_t5)) (fun (x_t4 : Int) (x_t5 : List Int) => (slices_Concat_int_int_pt [.r, .r, .r, .r, .l, .r, .d]).it Tryd.prog slices_Concat_int_int_T slices_Concat_int_int_ans q (slices_Concat_int_int_t14 slices_1 x_t4 x_t5)) slices_1 x_t4 x_t5) (by kernel_rfl) ?_
    have h16 : (fun (x_t5 : List Int) => (slices_Concat_int_int_pt [.r, .r, .r, .r, .r]).e Tryd.prog slices_Concat_int_int_T slices_Concat_int_int_ans (slices_Concat_int_int_t16 x_t5)) = (slices_Concat_int_int_p16) := funext fun x_t5 => slices_Concat_int_int_e16 x_t5
    have hq : (fun (x_t4 : Int) (x_t5 : List Int) => (slices_Concat_int_int_pt [.r, .r, .r, .r, .l, .r, .d]).it Tryd.prog slices_Concat_int_int_T slices_Concat_int_int_ans q (slices_Concat_int_int_t14 slices_1 x_t4 x_t5)) = (slices_Concat_int_int_l14 slices_1 q) := funext fun x_t4 => funext fun x_t5 => ih x_t4 x_t5
    rw [h16, hq]
    rfl
theorem slices_Concat_int_int_e14 (slices_1 : List (List Int)) (x_t4 : Int) (x_t5 : List Int) : (slices_Concat_int_int_pt [.r, .r, .r, .r, .l, .r, .d]).e Tryd.prog slices_Concat_int_int_T slices_Concat_int_int_ans (slices_Concat_int_int_t14 slices_1 x_t4 x_t5) = slices_Concat_int_int_p14 slices_1 x_t4 x_t5 := Eq.trans (b := (slices_Concat_int_int_pt [.r, .r, .r, .r, .l, .r, .d]).it Tryd.prog slices_Concat_int_int_T slices_Concat_int_int_ans FUELx (slices_Concat_int_int_t14 slices_1 x_t4 x_t5)) (by kernel_rfl) (Eq.trans (slices_Concat_int_int_i14 slices_1 FUELx x_t4 x_t5) (congrArg (fun q => slices_Concat_int_int_l14 slices_1 q x_t4 x_t5) FUELx_eq))
theorem slices_Concat_int_int_e13 (slices_1 : List (List Int)) (x_t3 : List Int) : (slices_Concat_int_int_pt [.r, .r, .r, .r]).e Tryd.prog slices_Concat_int_int_T slices_Concat_int_int_ans (slices_Concat_int_int_t13 slices_1 x_t3) = slices_Concat_int_int_p13 slices_1 x_t3 := by
  refine Eq.trans (b := slices_Concat_int_int_s13 (fun (slices_1 : List (List Int)) (x_t4 : Int) (x_t5 : List Int) => (slices_Concat_int_int_pt [.r, .r, .r, .r, .l, .r, .d]).e Tryd.prog slices_Concat_int_int_T slices_Concat_int_int_ans (slices_Concat_int_int_t14 slices_1 x_t4 x_t5)) slices_1 x_t3) (by kernel_rfl) ?_
  have h14 : (fun (slices_1 : List (List Int)) (x_t4 : Int) (x_t5 : List Int) => (slices_Concat_int_int_pt [.r, .r, .r, .r, .l, .r, .d]).e Tryd.prog slices_Concat_int_int_T slices_Concat_int_int_ans (slices_Concat_int_int_t14 slices_1 x_t4 x_t5)) = (slices_Concat_int_int_p14) := funext fun slices_1 => funext fun x_t4 => funext fun x_t5 => slices_Concat_int_int_e14 slices_1 x_t4 x_t5
  rw [h14]
  rfl
theorem slices_Concat_int_int_e12 (size_t1 : Int) (slices_1 : List (List Int)) : (slices_Concat_int_int_pt [.r, .r, .r, .l, (.call 1 65), .r, .r]).e Tryd.prog slices_Concat_int_int_T slices_Concat_int_int_ans (slices_Concat_int_int_t12 size_t1 slices_1) = slices_Concat_int_int_p12 size_t1 slices_1 := by
  refine Eq.trans (b := slices_Concat_int_int_s12 (fun (slices_1 : List (List Int)) (x_t3 : List Int) => (slices_Concat_int_int_pt [.r, .r, .r, .r]).e Tryd.prog slices_Concat_int_int_T slices_Concat_int_int_ans (slices_Concat_int_int_t13 slices_1 x_t3)) size_t1 slices_1) (by kernel_rfl) ?_
  have h13 : (fun (slices_1 : List (List Int)) (x_t3 : List Int) => (slices_Concat_int_int_pt [.r, .r, .r, .r]).e Tryd.prog slices_Concat_int_int_T slices_Concat_int_int_ans (slices_Concat_int_int_t13 slices_1 x_t3)) = (slices_Concat_int_int_p13) := funext fun slices_1 => funext fun x_t3 => slices_Concat_int_int_e13 slices_1 x_t3
  rw [h13]
  rfl
theorem slices_Concat_int_int_e11 (slices_1 : List (List Int)) (size_t1 : Int) : (slices_Concat_int_int_pt [.r, .r, .r]).e Tryd.prog slices_Concat_int_int_T slices_Concat_int_int_ans (slices_Concat_int_int_t11 slices_1 size_t1) = slices_Concat_int_int_p11 slices_1 size_t1 := by
  refine Eq.trans (b := slices_Concat_int_int_s11 (fun (size_t1 : Int) (slices_1 : List (List Int)) => (slices_Concat_int_int_pt [.r, .r, .r, .l, (.call 1 65), .r, .r]).e Tryd.prog slices_Concat_int_int_T slices_Concat_int_int_ans (slices_Concat_int_int_t12 size_t1 slices_1)) slices_1 size_t1) (by kernel_rfl) ?_
  have h12 : (fun (size_t1 : Int) (slices_1 : List (List Int)) => (slices_Concat_int_int_pt [.r, .r, .r, .l, (.call 1 65), .r, .r]).e Tryd.prog slices_Concat_int_int_T slices_Concat_int_int_ans (slices_Concat_int_int_t12 size_t1 slices_1)) = (slices_Concat_int_int_p12) := funext fun size_t1 => funext fun slices_1 => slices_Concat_int_int_e12 size_t1 slices_1
  rw [h12]
  rfl
theorem slices_Concat_int_int_i9 (slices_1 : List (List Int)) : ∀ (q : Nat) (size_t1 : Int) (x_t2 : Int), (slices_Concat_int_int_pt [.r, .r, .l, .r, .d]).it Tryd.prog slices_Concat_int_int_T slices_Concat_int_int_ans q (slices_Concat_int_int_t9 slices_1 size_t1 x_t2) = slices_Concat_int_int_l9 slices_1 q size_t1 x_t2 := by
  intro q
  induction q with
  | zero => intros; rfl
  | succ q ih =>
    intro size_t1 x_t2
    refine Eq.trans (b := slices_Concat_int_int_s9 (fun (slices_1 : List (List Int)) (size_t1 : Int) => (slices_Concat_int_int_pt [.r, .r, .r]).e Tryd.prog slices_Concat_int_int_T slices_Concat_int_int_ans (slices_Concat_int_int_t11 slices_1 size_t1)) (fun (size_t1 : Int) (x_t2 : Int) => (slices_Concat_int_int_pt [.r, .r, .l, .r, .d]).it Tryd.prog slices_Concat_int_int_T slices_Concat_int_int_ans q (slices_Concat_int_int_t9 slices_1 size_t1 x_t2)) slices_1 size_t1 x_t2) (by kernel_rfl) ?_
    have h11 : (fun (slices_1 : List (List Int)) (size_t1 : Int) => (slices_Concat_int_int_pt [.r, .r, .r]).e Tryd.prog slices_Concat_int_int_T slices_Concat_int_int_ans (slices_Concat_int_int_t11 slices_1 size_t1)) = (slices_Concat_int_int_p11) := funext fun slices_1 => funext fun size_t1 => slices_Concat_int_int_e11 slices_1 size_t1
    have hq : (fun (size_t1 : Int) (x_t2 : Int) => (slices_Concat_int_int_pt [.r, .r, .l, .r, .d]).it Tryd.prog slices_Concat_int_int_T slices_Concat_int_int_ans q (slices_Concat_int_int_t9 slices_1 size_t1 x_t2)) = (slices_Concat_int_int_l9 slices_1 q) := funext fun size_t1 => funext fun x_t2 => ih size_t1 x_t2
    rw [h11, hq]
    rfl
theorem slices_Concat_int_int_e9 (slices_1 : List (List Int)) (size_t1 : Int) (x_t2 : Int) : (slices_Concat_int_int_pt [.r, .r, .l, .r, .d]).e Tryd.prog slices_Concat_int_int_T slices_Concat_int_int_ans (slices_Concat_int_int_t9 slices_1 size_t1 x_t2) = slices_Concat_int_int_p9 slices_1 size_t1 x_t2 := Eq.trans (b := (slices_Concat_int_int_pt [.r, .r, .l, .r, .d]).it Tryd.prog slices_Concat_int_int_T slices_Concat_int_int_ans FUELx (slices_Concat_int_int_t9 slices_1 size_t1 x_t2)) (by kernel_rfl) (Eq.trans (slices_Concat_int_int_i9 slices_1 FUELx size_t1 x_t2) (congrArg (fun q => slices_Concat_int_int_l9 slices_1 q size_t1 x_t2) FUELx_eq))
theorem slices_Concat_int_int_run (x : List (List Int)) : run Tryd.prog slices_Concat_int_int_T slices_Concat_int_int_ans Tryd.f51 slices_Concat_int_int_an slices_Concat_int_int_ps slices_Concat_int_int_rs x = slices_Concat_int_int x := by
  refine Eq.trans (b := slices_Concat_int_int_s0 (fun (slices_1 : List (List Int)) (size_t1 : Int) (x_t2 : Int) => (slices_Concat_int_int_pt [.r, .r, .l, .r, .d]).e Tryd.prog slices_Concat_int_int_T slices_Concat_int_int_ans (slices_Concat_int_int_t9 slices_1 size_t1 x_t2)) x) (by kernel_rfl) ?_
  have h9 : (fun (slices_1 : List (List Int)) (size_t1 : Int) (x_t2 : Int) => (slices_Concat_int_int_pt [.r, .r, .l, .r, .d]).e Tryd.prog slices_Concat_int_int_T slices_Concat_int_int_ans (slices_Concat_int_int_t9 slices_1 size_t1 x_t2)) = (slices_Concat_int_int_p9) := funext fun slices_1 => funext fun size_t1 => funext fun x_t2 => slices_Concat_int_int_e9 slices_1 size_t1 x_t2
  rw [h9]
  rfl
def slices_Concat_int_int_c : Con := ⟨slices_Concat_int_int_ps, slices_Concat_int_int_rs, fun x => slices_Concat_int_int x⟩
theorem slices_Concat_int_int_ok : ConOk Tryd.prog Tryd.gl 51 slices_Concat_int_int_c := con_of_run (T := slices_Concat_int_int_T) Tryd.mixed Tryd.func51 Tryd.ent51 TabOk.nil (AnsOk.cons Tryd.ent65 AnsOk.nil) (by kernel_rfl) slices_Concat_int_int_run
def lengths_behind_ps : List Sh := [.lf (.list (.int .i64)) none, .lf (.list (.int .i64)) none]
def lengths_behind_rs : List Sh := [.lf (.list (.int .i64)) (some 3)]
def lengths_behind_an : An := .d
def lengths_behind_T : Tab := ⟨[(51, slices_Concat_int_int_c)], Tryd.gl, false⟩
def lengths_behind_ans : List (Nat × An) := []
theorem lengths_behind_run (x : List Int × List Int) : run Tryd.prog lengths_behind_T lengths_behind_ans Tryd.f43 lengths_behind_an lengths_behind_ps lengths_behind_rs x = lengths_behind x.1 x.2 := by kernel_rfl
def lengths_behind_c : Con := ⟨lengths_behind_ps, lengths_behind_rs, fun x => lengths_behind x.1 x.2⟩
theorem lengths_behind_ok : ConOk Tryd.prog Tryd.gl 43 lengths_behind_c := con_of_run (T := lengths_behind_T) Tryd.mixed Tryd.func43 Tryd.ent43 (TabOk.cons slices_Concat_int_int_ok TabOk.nil) AnsOk.nil (by kernel_rfl) lengths_behind_run
def lengths_All_ps : List Sh := [.lf (.int .i64) none, .lf (.int .i64) none]
def lengths_All_rs : List Sh := [.lf (.list (.int .i64)) (some 3), .lf (.int .i64) none]
def lengths_All_an : An := .d
def lengths_All_T : Tab := ⟨[(40, lengths_Count_c), (41, lengths_Long_c), (42, slices_Repeat_int_int_c), (43, lengths_behind_c)], Tryd.gl, false⟩
def lengths_All_ans : List (Nat × An) := []
theorem lengths_All_run (x : Int × Int) : run Tryd.prog lengths_All_T lengths_All_ans Tryd.f26 lengths_All_an lengths_All_ps lengths_All_rs x = lengths_All x.1 x.2 := by kernel_rfl
def lengths_All_c : Con := ⟨lengths_All_ps, lengths_All_rs, fun x => lengths_All x.1 x.2⟩
theorem lengths_All_ok : ConOk Tryd.prog Tryd.gl 26 lengths_All_c := con_of_run (T := lengths_All_T) Tryd.mixed Tryd.func26 Tryd.ent26 (TabOk.cons lengths_Count_ok (TabOk.cons lengths_Long_ok (TabOk.cons slices_Repeat_int_int_ok (TabOk.cons lengths_behind_ok TabOk.nil)))) AnsOk.nil (by kernel_rfl) lengths_All_run
def header_Frames_ps : List Sh := [.agg [.lf (.int .i64) none, .lf (.int .i64) none, .lf (.int .i64) none, .lf (.int .i64) none, .lf (.int .i64) none]]
def header_Frames_rs : List Sh := [.lf (.list (.int .i64)) (some 3), .lf (.int .i64) none]
def header_Frames_an : An := .d
def header_Frames_T : Tab := ⟨[(25, header_Check_c), (26, lengths_All_c)], Tryd.gl, false⟩
def header_Frames_ans : List (Nat × An) := []
theorem header_Frames_run (x : Int × Int × Int × Int × Int) : run Tryd.prog header_Frames_T header_Frames_ans Tryd.f13 header_Frames_an header_Frames_ps header_Frames_rs x = header_Frames x.1 x.2.1 x.2.2.1 x.2.2.2.1 x.2.2.2.2 := by kernel_rfl
def header_Frames_c : Con := ⟨header_Frames_ps, header_Frames_rs, fun x => header_Frames x.1 x.2.1 x.2.2.1 x.2.2.2.1 x.2.2.2.2⟩
theorem header_Frames_ok : ConOk Tryd.prog Tryd.gl 13 header_Frames_c := con_of_run (T := header_Frames_T) Tryd.mixed Tryd.func13 Tryd.ent13 (TabOk.cons header_Check_ok (TabOk.cons lengths_All_ok TabOk.nil)) AnsOk.nil (by kernel_rfl) header_Frames_run
def valid_start_ps : List Sh := [.lf (.list (.int .u8)) none]
def valid_start_rs : List Sh := [.agg [.agg [.lf (.int .i64) none, .lf (.int .i64) none, .lf (.int .i64) none, .lf (.int .i64) none, .lf (.int .i64) none], .agg [.lf (.int .i64) none, .lf (.int .i64) none, .lf (.int .i64) none, .lf (.int .i64) none, .lf (.int .i64) none], .lf (.list (.int .i64)) (some 3)], .lf (.int .i64) none]
def valid_start_an : An := .d
def valid_start_T : Tab := ⟨[(11, strip_Front_c), (12, header_Read_c), (13, header_Frames_c)], Tryd.gl_0, false⟩
def valid_start_ans : List (Nat × An) := []
theorem valid_start_run (x : List UInt8) : run Tryd.prog valid_start_T valid_start_ans Tryd.f7 valid_start_an valid_start_ps valid_start_rs x = valid_start x := by kernel_rfl
def valid_start_c : Con := ⟨valid_start_ps, valid_start_rs, fun x => valid_start x⟩
theorem valid_start_ok : ConOk Tryd.prog Tryd.gl_0 7 valid_start_c := con_of_run (T := valid_start_T) Tryd.mixed Tryd.func7 Tryd.ent7 (TabOk.cons (strip_Front_ok.mono (.cons _ .slnil)) (TabOk.cons header_Read_ok (TabOk.cons (header_Frames_ok.mono (.cons _ .slnil)) TabOk.nil))) AnsOk.nil (by kernel_rfl) valid_start_run
def seeks_Check_ps : List Sh := [.lf (.list (.int .i64)) none]
def seeks_Check_rs : List Sh := [.lf (.int .i64) none]
def seeks_Check_an : An := (.seq .d (.seq .d (.seq .d (.cut [] [] (.seq .d (.blk (.loop [3, 14, 15, 16] [] .d))) .d))))
def seeks_Check_T : Tab := ⟨[], Tryd.gl, false⟩
def seeks_Check_ans : List (Nat × An) := []
noncomputable def seeks_Check_pt (l : List (PS ((Int)))) : Pt ((Int)) := Pt.at (R := (Int)) Tryd.prog seeks_Check_T seeks_Check_ans (Pt.root Tryd.prog Tryd.f27 seeks_Check_an seeks_Check_rs) l
def seeks_Check_t6 : S := ⟨[], [], []⟩
def seeks_Check_t4 (l_1 : List Int) (left_t1 : Int) (x_t2 : Int) : S := ⟨[(3, .val (.int .i64) left_t1), (14, .val (.list (.int .i64)) l_1), (15, .val (.int .i64) (lenI l_1)), (16, .val (.int .i64) x_t2)], [], []⟩
theorem seeks_Check_e6 : (seeks_Check_pt [.r, .r, .r, .r]).e Tryd.prog seeks_Check_T seeks_Check_ans (seeks_Check_t6) = seeks_Check_p6 := by kernel_rfl
theorem seeks_Check_i4 (l_1 : List Int) : ∀ (q : Nat) (left_t1 : Int) (x_t2 : Int), (seeks_Check_pt [.r, .r, .r, .l, .r, .d]).it Tryd.prog seeks_Check_T seeks_Check_ans q (seeks_Check_t4 l_1 left_t1 x_t2) = seeks_Check_l4 l_1 q left_t1 x_t2 := by
  intro q
  induction q with
  | zero => intros; rfl
  | succ q ih =>
    intro left_t1 x_t2
    refine Eq.trans (b := seeks_Check_s4 ((seeks_Check_pt [.r, .r, .r, .r]).e Tryd.prog seeks_Check_T seeks_Check_ans (seeks_Check_t6)) (fun (left_t1 : Int) (x_t2 : Int) => (seeks_Check_pt [.r, .r, .r, .l, .r, .d]).it Tryd.prog seeks_Check_T seeks_Check_ans q (seeks_Check_t4 l_1 left_t1 x_t2)) l_1 left_t1 x_t2) (by kernel_rfl) ?_
    have h6 : ((seeks_Check_pt [.r, .r, .r, .r]).e Tryd.prog seeks_Check_T seeks_Check_ans (seeks_Check_t6)) = (seeks_Check_p6) := seeks_Check_e6
    have hq : (fun (left_t1 : Int) (x_t2 : Int) => (seeks_Check_pt [.r, .r, .r, .l, .r, .d]).it Tryd.prog seeks_Check_T seeks_Check_ans q (seeks_Check_t4 l_1 left_t1 x_t2)) = (seeks_Check_l4 l_1 q) := funext fun left_t1 => funext fun x_t2 => ih left_t1 x_t2
    rw [h6, hq]
    rfl
theorem seeks_Check_e4 (l_1 : List Int) (left_t1 : Int) (x_t2 : Int) : (seeks_Check_pt [.r, .r, .r, .l, .r, .d]).e Tryd.prog seeks_Check_T seeks_Check_ans (seeks_Check_t4 l_1 left_t1 x_t2) = seeks_Check_p4 l_1 left_t1 x_t2 := Eq.trans (b := (seeks_Check_pt [.r, .r, .r, .l, .r, .d]).it Tryd.prog seeks_Check_T seeks_Check_ans FUELx (seeks_Check_t4 l_1 left_t1 x_t2)) (by kernel_rfl) (Eq.trans (seeks_Check_i4 l_1 FUELx left_t1 x_t2) (congrArg (fun q => seeks_Check_l4 l_1 q left_t1 x_t2) FUELx_eq))
theorem seeks_Check_run (x : List Int) : run Tryd.prog seeks_Check_T seeks_Check_ans Tryd.f27 seeks_Check_an seeks_Check_ps seeks_Check_rs x = seeks_Check x := by
  refine Eq.trans (b := seeks_Check_s0 (fun (l_1 : List Int) (left_t1 : Int) (x_t2 : Int) => (seeks_Check_pt [.r, .r, .r, .l, .r, .d]).e Tryd.prog seeks_Check_T seeks_Check_ans (seeks_Check_t4 l_1 left_t1 x_t2)) x) (by kernel_rfl) ?_
  have h4 : (fun (l_1 : List Int) (left_t1 : Int) (x_t2 : Int) => (seeks_Check_pt [.r, .r, .r, .l, .r, .d]).e Tryd.prog seeks_Check_T seeks_Check_ans (seeks_Check_t4 l_1 left_t1 x_t2)) = (seeks_Check_p4) := funext fun l_1 => funext fun left_t1 => funext fun x_t2 => seeks_Check_e4 l_1 left_t1 x_t2
  rw [h4]
  rfl
def seeks_Check_c : Con := ⟨seeks_Check_ps, seeks_Check_rs, fun x => seeks_Check x⟩
theorem seeks_Check_ok : ConOk Tryd.prog Tryd.gl 27 seeks_Check_c := con_of_run (T := seeks_Check_T) Tryd.mixed Tryd.func27 Tryd.ent27 TabOk.nil AnsOk.nil (by kernel_rfl) seeks_Check_run
def seeks_Read_ps : List Sh := [.lf (.list (.int .u8)) none, .lf (.int .i64) none]
def seeks_Read_rs : List Sh := [.lf (.list (.int .i64)) (some 3), .lf (.int .i64) none]
def seeks_Read_an : An := (.seq .d (.seq .d (.seq .d (.seq .d (.seq .d (.seq .d (.cut [10] [] (.seq .d (.blk (.loop [0, 10, 48, 49] [] .d))) .d)))))))
def seeks_Read_T : Tab := ⟨[(21, le_At_c), (22, crc32_Sum_c), (27, seeks_Check_c)], Tryd.gl, false⟩
def seeks_Read_ans : List (Nat × An) := []
noncomputable def seeks_Read_pt (l : List (PS (((List Int) × Int)))) : Pt (((List Int) × Int)) := Pt.at (R := ((List Int) × Int)) Tryd.prog seeks_Read_T seeks_Read_ans (Pt.root Tryd.prog Tryd.f14 seeks_Read_an seeks_Read_rs) l
def seeks_Read_t6 (l_t2 : List Int) : S := ⟨[(10, .own 0)], [.arr 3 (.int .i64) l_t2], []⟩
def seeks_Read_t4 (b_1 : List UInt8) (l_8 : List Int) (x_t1 : Int) (l_t2 : List Int) : S := ⟨[(0, .val (.list (.int .u8)) b_1), (10, .own 0), (48, .val (.int .i64) (lenI l_8)), (49, .val (.int .i64) x_t1)], [.arr 3 (.int .i64) l_t2], []⟩
theorem seeks_Read_e6 (l_t2 : List Int) : (seeks_Read_pt [.r, .r, .r, .r, .r, .r, .r]).e Tryd.prog seeks_Read_T seeks_Read_ans (seeks_Read_t6 l_t2) = seeks_Read_p6 l_t2 := by kernel_rfl
theorem seeks_Read_i4 (b_1 : List UInt8) (l_8 : List Int) : ∀ (q : Nat) (x_t1 : Int) (l_t2 : List Int), (seeks_Read_pt [.r, .r, .r, .r, .r, .r, .l, .r, .d]).it Tryd.prog seeks_Read_T seeks_Read_ans q (seeks_Read_t4 b_1 l_8 x_t1 l_t2) = seeks_Read_l4 b_1 l_8 q x_t1 l_t2 := by
  intro q
  induction q with
  | zero => intros; rfl
  | succ q ih =>
    intro x_t1 l_t2
    refine Eq.trans (b := seeks_Read_s4 (fun (l_t2 : List Int) => (seeks_Read_pt [.r, .r, .r, .r, .r, .r, .r]).e Tryd.prog seeks_Read_T seeks_Read_ans (seeks_Read_t6 l_t2)) (fun (x_t1 : Int) (l_t2 : List Int) => (seeks_Read_pt [.r, .r, .r, .r, .r, .r, .l, .r, .d]).it Tryd.prog seeks_Read_T seeks_Read_ans q (seeks_Read_t4 b_1 l_8 x_t1 l_t2)) b_1 l_8 x_t1 l_t2) (by kernel_rfl) ?_
    have h6 : (fun (l_t2 : List Int) => (seeks_Read_pt [.r, .r, .r, .r, .r, .r, .r]).e Tryd.prog seeks_Read_T seeks_Read_ans (seeks_Read_t6 l_t2)) = (seeks_Read_p6) := funext fun l_t2 => seeks_Read_e6 l_t2
    have hq : (fun (x_t1 : Int) (l_t2 : List Int) => (seeks_Read_pt [.r, .r, .r, .r, .r, .r, .l, .r, .d]).it Tryd.prog seeks_Read_T seeks_Read_ans q (seeks_Read_t4 b_1 l_8 x_t1 l_t2)) = (seeks_Read_l4 b_1 l_8 q) := funext fun x_t1 => funext fun l_t2 => ih x_t1 l_t2
    rw [h6, hq]
    rfl
theorem seeks_Read_e4 (b_1 : List UInt8) (l_8 : List Int) (x_t1 : Int) (l_t2 : List Int) : (seeks_Read_pt [.r, .r, .r, .r, .r, .r, .l, .r, .d]).e Tryd.prog seeks_Read_T seeks_Read_ans (seeks_Read_t4 b_1 l_8 x_t1 l_t2) = seeks_Read_p4 b_1 l_8 x_t1 l_t2 := Eq.trans (b := (seeks_Read_pt [.r, .r, .r, .r, .r, .r, .l, .r, .d]).it Tryd.prog seeks_Read_T seeks_Read_ans FUELx (seeks_Read_t4 b_1 l_8 x_t1 l_t2)) (by kernel_rfl) (Eq.trans (seeks_Read_i4 b_1 l_8 FUELx x_t1 l_t2) (congrArg (fun q => seeks_Read_l4 b_1 l_8 q x_t1 l_t2) FUELx_eq))
theorem seeks_Read_run (x : List UInt8 × Int) : run Tryd.prog seeks_Read_T seeks_Read_ans Tryd.f14 seeks_Read_an seeks_Read_ps seeks_Read_rs x = seeks_Read x.1 x.2 := by
  refine Eq.trans (b := seeks_Read_s0 (fun (b_1 : List UInt8) (l_8 : List Int) (x_t1 : Int) (l_t2 : List Int) => (seeks_Read_pt [.r, .r, .r, .r, .r, .r, .l, .r, .d]).e Tryd.prog seeks_Read_T seeks_Read_ans (seeks_Read_t4 b_1 l_8 x_t1 l_t2)) x.1 x.2) (by kernel_rfl) ?_
  have h4 : (fun (b_1 : List UInt8) (l_8 : List Int) (x_t1 : Int) (l_t2 : List Int) => (seeks_Read_pt [.r, .r, .r, .r, .r, .r, .l, .r, .d]).e Tryd.prog seeks_Read_T seeks_Read_ans (seeks_Read_t4 b_1 l_8 x_t1 l_t2)) = (seeks_Read_p4) := funext fun b_1 => funext fun l_8 => funext fun x_t1 => funext fun l_t2 => seeks_Read_e4 b_1 l_8 x_t1 l_t2
  rw [h4]
  rfl
def seeks_Read_c : Con := ⟨seeks_Read_ps, seeks_Read_rs, fun x => seeks_Read x.1 x.2⟩
theorem seeks_Read_ok : ConOk Tryd.prog Tryd.gl 14 seeks_Read_c := con_of_run (T := seeks_Read_T) Tryd.mixed Tryd.func14 Tryd.ent14 (TabOk.cons le_At_ok (TabOk.cons crc32_Sum_ok (TabOk.cons seeks_Check_ok TabOk.nil))) AnsOk.nil (by kernel_rfl) seeks_Read_run
def valid_Parts_ps : List Sh := [.lf (.list (.int .u8)) none]
def valid_Parts_rs : List Sh := [.agg [.lf (.int .i64) none, .lf (.int .i64) none, .lf (.int .i64) none, .lf (.int .i64) none, .lf (.int .i64) none], .lf (.int .i64) none]
def valid_Parts_an : An := (.seq .d (.seq .d (.seq .d (.cut [0, 2, 4] [] (.cut [0, 2, 4, 7] [] (.keep [0, 2, 4, 7, 17, 18, 19, 20, 21] true) .d) .d))))
def valid_Parts_T : Tab := ⟨[(7, valid_start_c), (14, seeks_Read_c)], Tryd.gl_0, false⟩
def valid_Parts_ans : List (Nat × An) := [(8, (.seq .d (.seq .d (.cut [0, 6, 7] [] .d (.seq .d (.seq .d (.seq .d (.cut [6] [] (.seq .d (.blk (.loop [0, 6, 60, 61, 62] [] .d))) .d))))))))]
noncomputable def valid_Parts_pt (l : List (PS ((Int × Int × Int × Int × Int × Int)))) : Pt ((Int × Int × Int × Int × Int × Int)) := Pt.at (R := (Int × Int × Int × Int × Int × Int)) Tryd.prog valid_Parts_T valid_Parts_ans (Pt.root Tryd.prog Tryd.f5 valid_Parts_an valid_Parts_rs) l
def valid_Parts_t12 (b_1 : List UInt8) (r_2 : Int) (r_3 : Int) (r_4 : Int) (r_5 : Int) (r_6 : Int) (r_7 : Int) (r_8 : Int) (r_9 : Int) (r_t4 : Int) (r_t5 : Int) (l_12 : List Int) : S := ⟨[(0, .val (.list (.int .u8)) b_1), (2, .ptr 0 []), (4, .ptr 1 [])], [.box 25 (.agg [.val (.int .i64) (0 : Int), .val (.int .i64) (0 : Int), .val (.int .i64) (0 : Int), .val (.int .i64) (0 : Int), .val (.int .i64) (0 : Int)]), .box 35 (.agg [.agg [.val (.int .i64) r_2, .val (.int .i64) r_3, .val (.int .i64) r_4, .val (.int .i64) r_5, .val (.int .i64) r_6], .agg [.val (.int .i64) r_7, .val (.int .i64) r_8, .val (.int .i64) r_9, .val (.int .i64) r_t4, .val (.int .i64) r_t5], .own 2]), .arr 3 (.int .i64) l_12], []⟩
def valid_Parts_t11 (b_1 : List UInt8) (r_2 : Int) (r_3 : Int) (r_4 : Int) (r_5 : Int) (r_6 : Int) (r_7 : Int) (r_8 : Int) (r_9 : Int) (l_12 : List Int) (r_t3 : Int) (r_t4 : Int) (r_t5 : Int) : S := ⟨[(0, .val (.list (.int .u8)) b_1), (2, .ptr 0 []), (4, .ptr 1 []), (7, .val (.int .i64) r_t3)], [.box 25 (.agg [.val (.int .i64) (0 : Int), .val (.int .i64) (0 : Int), .val (.int .i64) (0 : Int), .val (.int .i64) (0 : Int), .val (.int .i64) (0 : Int)]), .box 35 (.agg [.agg [.val (.int .i64) r_2, .val (.int .i64) r_3, .val (.int .i64) r_4, .val (.int .i64) r_5, .val (.int .i64) r_6], .agg [.val (.int .i64) r_7, .val (.int .i64) r_8, .val (.int .i64) r_9, .val (.int .i64) r_t4, .val (.int .i64) r_t5], .own 2]), .arr 3 (.int .i64) l_12], []⟩
def valid_Parts_t10 (b_1 : List UInt8) (l_15 : List Int) (r_2 : Int) (r_3 : Int) (r_4 : Int) (r_5 : Int) (r_6 : Int) (r_7 : Int) (r_8 : Int) (r_9 : Int) (x_t2 : Int) (l_12 : List Int) : S := ⟨[(6, .own 0)], [.arr 3 (.int .i64) l_15, .box 25 (.agg [.val (.int .i64) (0 : Int), .val (.int .i64) (0 : Int), .val (.int .i64) (0 : Int), .val (.int .i64) (0 : Int), .val (.int .i64) (0 : Int)]), .box 35 (.agg [.agg [.val (.int .i64) r_2, .val (.int .i64) r_3, .val (.int .i64) r_4, .val (.int .i64) r_5, .val (.int .i64) r_6], .agg [.val (.int .i64) r_7, .val (.int .i64) r_8, .val (.int .i64) r_9, .val (.int .i64) (gadd (gadd r_9 (gmul (4 : Int) (lenI l_15))) (4 : Int)), .val (.int .i64) x_t2], .own 3]), .arr 3 (.int .i64) l_12], [[(0, .val (.list (.int .u8)) b_1), (2, .ptr 1 []), (4, .ptr 2 []), (18, .val (.list (.int .u8)) b_1)]]⟩
def valid_Parts_t8 (l_15 : List Int) (b_1 : List UInt8) (r_2 : Int) (r_3 : Int) (r_4 : Int) (r_5 : Int) (r_6 : Int) (r_7 : Int) (r_8 : Int) (r_9 : Int) (l_12 : List Int) (x_t1 : Int) (x_t2 : Int) : S := ⟨[(0, .ptr 0 []), (6, .own 1), (60, .own 1), (61, .val (.int .i64) (lenI l_15)), (62, .val (.int .i64) x_t1)], [.box 35 (.agg [.agg [.val (.int .i64) r_2, .val (.int .i64) r_3, .val (.int .i64) r_4, .val (.int .i64) r_5, .val (.int .i64) r_6], .agg [.val (.int .i64) r_7, .val (.int .i64) r_8, .val (.int .i64) r_9, .val (.int .i64) (gadd (gadd r_9 (gmul (4 : Int) (lenI l_15))) (4 : Int)), .val (.int .i64) x_t2], .own 3]), .arr 3 (.int .i64) l_15, .box 25 (.agg [.val (.int .i64) (0 : Int), .val (.int .i64) (0 : Int), .val (.int .i64) (0 : Int), .val (.int .i64) (0 : Int), .val (.int .i64) (0 : Int)]), .arr 3 (.int .i64) l_12], [[(0, .val (.list (.int .u8)) b_1), (2, .ptr 2 []), (4, .ptr 0 []), (18, .val (.list (.int .u8)) b_1)]]⟩
def valid_Parts_t7 (r_16 : Int) (b_1 : List UInt8) (r_2 : Int) (r_3 : Int) (r_4 : Int) (r_5 : Int) (r_6 : Int) (r_7 : Int) (r_8 : Int) (r_9 : Int) (r_10 : Int) (r_11 : Int) (l_15 : List Int) (l_12 : List Int) : S := ⟨[(0, .ptr 0 []), (6, .own 1), (7, .val (.int .i64) r_16)], [.box 35 (.agg [.agg [.val (.int .i64) r_2, .val (.int .i64) r_3, .val (.int .i64) r_4, .val (.int .i64) r_5, .val (.int .i64) r_6], .agg [.val (.int .i64) r_7, .val (.int .i64) r_8, .val (.int .i64) r_9, .val (.int .i64) r_10, .val (.int .i64) r_11], .own 3]), .arr 3 (.int .i64) l_15, .box 25 (.agg [.val (.int .i64) (0 : Int), .val (.int .i64) (0 : Int), .val (.int .i64) (0 : Int), .val (.int .i64) (0 : Int), .val (.int .i64) (0 : Int)]), .arr 3 (.int .i64) l_12], [[(0, .val (.list (.int .u8)) b_1), (2, .ptr 2 []), (4, .ptr 0 []), (18, .val (.list (.int .u8)) b_1)]]⟩
theorem valid_Parts_e12 (b_1 : List UInt8) (r_2 : Int) (r_3 : Int) (r_4 : Int) (r_5 : Int) (r_6 : Int) (r_7 : Int) (r_8 : Int) (r_9 : Int) (r_t4 : Int) (r_t5 : Int) (l_12 : List Int) : (valid_Parts_pt [.r, .r, .r, .r]).e Tryd.prog valid_Parts_T valid_Parts_ans (valid_Parts_t12 b_1 r_2 r_3 r_4 r_5 r_6 r_7 r_8 r_9 r_t4 r_t5 l_12) = valid_Parts_p12 b_1 r_2 r_3 r_4 r_5 r_6 r_7 r_8 r_9 r_t4 r_t5 l_12 := by kernel_rfl
theorem valid_Parts_e11 (b_1 : List UInt8) (r_2 : Int) (r_3 : Int) (r_4 : Int) (r_5 : Int) (r_6 : Int) (r_7 : Int) (r_8 : Int) (r_9 : Int) (l_12 : List Int) (r_t3 : Int) (r_t4 : Int) (r_t5 : Int) : (valid_Parts_pt [.r, .r, .r, .l, .r]).e Tryd.prog valid_Parts_T valid_Parts_ans (valid_Parts_t11 b_1 r_2 r_3 r_4 r_5 r_6 r_7 r_8 r_9 l_12 r_t3 r_t4 r_t5) = valid_Parts_p11 b_1 r_2 r_3 r_4 r_5 r_6 r_7 r_8 r_9 l_12 r_t3 r_t4 r_t5 := by
  refine Eq.trans (b := valid_Parts_s11 (fun (b_1 : List UInt8) (r_2 : Int) (r_3 : Int) (r_4 : Int) (r_5 : Int) (r_6 : Int) (r_7 : Int) (r_8 : Int) (r_9 : Int) (r_t4 : Int) (r_t5 : Int) (l_12 : List Int) => (valid_Parts_pt [.r, .r, .r, .r]).e Tryd.prog valid_Parts_T valid_Parts_ans (valid_Parts_t12 b_1 r_2 r_3 r_4 r_5 r_6 r_7 r_8 r_9 r_t4 r_t5 l_12)) b_1 r_2 r_3 r_4 r_5 r_6 r_7 r_8 r_9 l_12 r_t3 r_t4 r_t5) (by kernel_rfl) ?_
  have h12 : (fun (b_1 : List UInt8) (r_2 : Int) (r_3 : Int) (r_4 : Int) (r_5 : Int) (r_6 : Int) (r_7 : Int) (r_8 : Int) (r_9 : Int) (r_t4 : Int) (r_t5 : Int) (l_12 : List Int) => (valid_Parts_pt [.r, .r, .r, .r]).e Tryd.prog valid_Parts_T valid_Parts_ans (valid_Parts_t12 b_1 r_2 r_3 r_4 r_5 r_6 r_7 r_8 r_9 r_t4 r_t5 l_12)) = (valid_Parts_p12) := funext fun b_1 => funext fun r_2 => funext fun r_3 => funext fun r_4 => funext fun r_5 => funext fun r_6 => funext fun r_7 => funext fun r_8 => funext fun r_9 => funext fun r_t4 => funext fun r_t5 => funext fun l_12 => valid_Parts_e12 b_1 r_2 r_3 r_4 r_5 r_6 r_7 r_8 r_9 r_t4 r_t5 l_12
  rw [h12]
  rfl
theorem valid_Parts_e10 (b_1 : List UInt8) (l_15 : List Int) (r_2 : Int) (r_3 : Int) (r_4 : Int) (r_5 : Int) (r_6 : Int) (r_7 : Int) (r_8 : Int) (r_9 : Int) (x_t2 : Int) (l_12 : List Int) : (valid_Parts_pt [.r, .r, .r, .l, .l, (.call 1 8), .r, .r, .r, .r, .r, .r, .r]).e Tryd.prog valid_Parts_T valid_Parts_ans (valid_Parts_t10 b_1 l_15 r_2 r_3 r_4 r_5 r_6 r_7 r_8 r_9 x_t2 l_12) = valid_Parts_p10 b_1 l_15 r_2 r_3 r_4 r_5 r_6 r_7 r_8 r_9 x_t2 l_12 := by
  refine Eq.trans (b := valid_Parts_s10 (fun (b_1 : List UInt8) (r_2 : Int) (r_3 : Int) (r_4 : Int) (r_5 : Int) (r_6 : Int) (r_7 : Int) (r_8 : Int) (r_9 : Int) (l_12 : List Int) (r_t3 : Int) (r_t4 : Int) (r_t5 : Int) => (valid_Parts_pt [.r, .r, .r, .l, .r]).e Tryd.prog valid_Parts_T valid_Parts_ans (valid_Parts_t11 b_1 r_2 r_3 r_4 r_5 r_6 r_7 r_8 r_9 l_12 r_t3 r_t4 r_t5)) b_1 l_15 r_2 r_3 r_4 r_5 r_6 r_7 r_8 r_9 x_t2 l_12) (by kernel_rfl) ?_
  have h11 : (fun (b_1 : List UInt8) (r_2 : Int) (r_3 : Int) (r_4 : Int) (r_5 : Int) (r_6 : Int) (r_7 : Int) (r_8 : Int) (r_9 : Int) (l_12 : List Int) (r_t3 : Int) (r_t4 : Int) (r_t5 : Int) => (valid_Parts_pt [.r, .r, .r, .l, .r]).e Tryd.prog valid_Parts_T valid_Parts_ans (valid_Parts_t11 b_1 r_2 r_3 r_4 r_5 r_6 r_7 r_8 r_9 l_12 r_t3 r_t4 r_t5)) = (valid_Parts_p11) := funext fun b_1 => funext fun r_2 => funext fun r_3 => funext fun r_4 => funext fun r_5 => funext fun r_6 => funext fun r_7 => funext fun r_8 => funext fun r_9 => funext fun l_12 => funext fun r_t3 => funext fun r_t4 => funext fun r_t5 => valid_Parts_e11 b_1 r_2 r_3 r_4 r_5 r_6 r_7 r_8 r_9 l_12 r_t3 r_t4 r_t5
  rw [h11]
  rfl
theorem valid_Parts_i8 (l_15 : List Int) (b_1 : List UInt8) (r_2 : Int) (r_3 : Int) (r_4 : Int) (r_5 : Int) (r_6 : Int) (r_7 : Int) (r_8 : Int) (r_9 : Int) (l_12 : List Int) : ∀ (q : Nat) (x_t1 : Int) (x_t2 : Int), (valid_Parts_pt [.r, .r, .r, .l, .l, (.call 1 8), .r, .r, .r, .r, .r, .r, .l, .r, .d]).it Tryd.prog valid_Parts_T valid_Parts_ans q (valid_Parts_t8 l_15 b_1 r_2 r_3 r_4 r_5 r_6 r_7 r_8 r_9 l_12 x_t1 x_t2) = valid_Parts_l8 l_15 b_1 r_2 r_3 r_4 r_5 r_6 r_7 r_8 r_9 l_12 q x_t1 x_t2 := by
  intro q
  induction q with
  | zero => intros; rfl
  | succ q ih =>
    intro x_t1 x_t2
    refine Eq.trans (b := valid_Parts_s8 (fun (b_1 : List UInt8) (l_15 : List Int) (r_2 : Int) (r_3 : Int) (r_4 : Int) (r_5 : Int) (r_6 : Int) (r_7 : Int) (r_8 : Int) (r_9 : Int) (x_t2 : Int) (l_12 : List Int) => (valid_Parts_pt [.r, .r, .r, .l, .l, (.call 1 8), .r, .r, .r, .r, .r, .r, .r]).e Tryd.prog valid_Parts_T valid_Parts_ans (valid_Parts_t10 b_1 l_15 r_2 r_3 r_4 r_5 r_6 r_7 r_8 r_9 x_t2 l_12)) (fun (x_t1 : Int) (x_t2 : Int) => (valid_Parts_pt [.r, .r, .r, .l, .l, (.call 1 8), .r, .r, .r, .r, .r, .r, .l, .r, .d]).it Tryd.prog valid_Parts_T valid_Parts_ans q (valid_Parts_t8 l_15 b_1 r_2 r_3 r_4 r_5 r_6 r_7 r_8 r_9 l_12 x_t1 x_t2)) l_15 b_1 r_2 r_3 r_4 r_5 r_6 r_7 r_8 r_9 l_12 x_t1 x_t2) (by kernel_rfl) ?_
    have h10 : (fun (b_1 : List UInt8) (l_15 : List Int) (r_2 : Int) (r_3 : Int) (r_4 : Int) (r_5 : Int) (r_6 : Int) (r_7 : Int) (r_8 : Int) (r_9 : Int) (x_t2 : Int) (l_12 : List Int) => (valid_Parts_pt [.r, .r, .r, .l, .l, (.call 1 8), .r, .r, .r, .r, .r, .r, .r]).e Tryd.prog valid_Parts_T valid_Parts_ans (valid_Parts_t10 b_1 l_15 r_2 r_3 r_4 r_5 r_6 r_7 r_8 r_9 x_t2 l_12)) = (valid_Parts_p10) := funext fun b_1 => funext fun l_15 => funext fun r_2 => funext fun r_3 => funext fun r_4 => funext fun r_5 => funext fun r_6 => funext fun r_7 => funext fun r_8 => funext fun r_9 => funext fun x_t2 => funext fun l_12 => valid_Parts_e10 b_1 l_15 r_2 r_3 r_4 r_5 r_6 r_7 r_8 r_9 x_t2 l_12
    have hq : (fun (x_t1 : Int) (x_t2 : Int) => (valid_Parts_pt [.r, .r, .r, .l, .l, (.call 1 8), .r, .r, .r, .r, .r, .r, .l, .r, .d]).it Tryd.prog valid_Parts_T valid_Parts_ans q (valid_Parts_t8 l_15 b_1 r_2 r_3 r_4 r_5 r_6 r_7 r_8 r_9 l_12 x_t1 x_t2)) = (valid_Parts_l8 l_15 b_1 r_2 r_3 r_4 r_5 r_6 r_7 r_8 r_9 l_12 q) := funext fun x_t1 => funext fun x_t2 => ih x_t1 x_t2
    rw [h10, hq]
    rfl
theorem valid_Parts_e8 (l_15 : List Int) (b_1 : List UInt8) (r_2 : Int) (r_3 : Int) (r_4 : Int) (r_5 : Int) (r_6 : Int) (r_7 : Int) (r_8 : Int) (r_9 : Int) (l_12 : List Int) (x_t1 : Int) (x_t2 : Int) : (valid_Parts_pt [.r, .r, .r, .l, .l, (.call 1 8), .r, .r, .r, .r, .r, .r, .l, .r, .d]).e Tryd.prog valid_Parts_T valid_Parts_ans (valid_Parts_t8 l_15 b_1 r_2 r_3 r_4 r_5 r_6 r_7 r_8 r_9 l_12 x_t1 x_t2) = valid_Parts_p8 l_15 b_1 r_2 r_3 r_4 r_5 r_6 r_7 r_8 r_9 l_12 x_t1 x_t2 := Eq.trans (b := (valid_Parts_pt [.r, .r, .r, .l, .l, (.call 1 8), .r, .r, .r, .r, .r, .r, .l, .r, .d]).it Tryd.prog valid_Parts_T valid_Parts_ans FUELx (valid_Parts_t8 l_15 b_1 r_2 r_3 r_4 r_5 r_6 r_7 r_8 r_9 l_12 x_t1 x_t2)) (by kernel_rfl) (Eq.trans (valid_Parts_i8 l_15 b_1 r_2 r_3 r_4 r_5 r_6 r_7 r_8 r_9 l_12 FUELx x_t1 x_t2) (congrArg (fun q => valid_Parts_l8 l_15 b_1 r_2 r_3 r_4 r_5 r_6 r_7 r_8 r_9 l_12 q x_t1 x_t2) FUELx_eq))
theorem valid_Parts_e7 (r_16 : Int) (b_1 : List UInt8) (r_2 : Int) (r_3 : Int) (r_4 : Int) (r_5 : Int) (r_6 : Int) (r_7 : Int) (r_8 : Int) (r_9 : Int) (r_10 : Int) (r_11 : Int) (l_15 : List Int) (l_12 : List Int) : (valid_Parts_pt [.r, .r, .r, .l, .l, (.call 1 8), .r, .r, .r]).e Tryd.prog valid_Parts_T valid_Parts_ans (valid_Parts_t7 r_16 b_1 r_2 r_3 r_4 r_5 r_6 r_7 r_8 r_9 r_10 r_11 l_15 l_12) = valid_Parts_p7 r_16 b_1 r_2 r_3 r_4 r_5 r_6 r_7 r_8 r_9 r_10 r_11 l_15 l_12 := by
  refine Eq.trans (b := valid_Parts_s7 (fun (b_1 : List UInt8) (r_2 : Int) (r_3 : Int) (r_4 : Int) (r_5 : Int) (r_6 : Int) (r_7 : Int) (r_8 : Int) (r_9 : Int) (l_12 : List Int) (r_t3 : Int) (r_t4 : Int) (r_t5 : Int) => (valid_Parts_pt [.r, .r, .r, .l, .r]).e Tryd.prog valid_Parts_T valid_Parts_ans (valid_Parts_t11 b_1 r_2 r_3 r_4 r_5 r_6 r_7 r_8 r_9 l_12 r_t3 r_t4 r_t5)) (fun (l_15 : List Int) (b_1 : List UInt8) (r_2 : Int) (r_3 : Int) (r_4 : Int) (r_5 : Int) (r_6 : Int) (r_7 : Int) (r_8 : Int) (r_9 : Int) (l_12 : List Int) (x_t1 : Int) (x_t2 : Int) => (valid_Parts_pt [.r, .r, .r, .l, .l, (.call 1 8), .r, .r, .r, .r, .r, .r, .l, .r, .d]).e Tryd.prog valid_Parts_T valid_Parts_ans (valid_Parts_t8 l_15 b_1 r_2 r_3 r_4 r_5 r_6 r_7 r_8 r_9 l_12 x_t1 x_t2)) r_16 b_1 r_2 r_3 r_4 r_5 r_6 r_7 r_8 r_9 r_10 r_11 l_15 l_12) (by kernel_rfl) ?_
  have h11 : (fun (b_1 : List UInt8) (r_2 : Int) (r_3 : Int) (r_4 : Int) (r_5 : Int) (r_6 : Int) (r_7 : Int) (r_8 : Int) (r_9 : Int) (l_12 : List Int) (r_t3 : Int) (r_t4 : Int) (r_t5 : Int) => (valid_Parts_pt [.r, .r, .r, .l, .r]).e Tryd.prog valid_Parts_T valid_Parts_ans (valid_Parts_t11 b_1 r_2 r_3 r_4 r_5 r_6 r_7 r_8 r_9 l_12 r_t3 r_t4 r_t5)) = (valid_Parts_p11) := funext fun b_1 => funext fun r_2 => funext fun r_3 => funext fun r_4 => funext fun r_5 => funext fun r_6 => funext fun r_7 => funext fun r_8 => funext fun r_9 => funext fun l_12 => funext fun r_t3 => funext fun r_t4 => funext fun r_t5 => valid_Parts_e11 b_1 r_2 r_3 r_4 r_5 r_6 r_7 r_8 r_9 l_12 r_t3 r_t4 r_t5
  have h8 : (fun (l_15 : List Int) (b_1 : List UInt8) (r_2 : Int) (r_3 : Int) (r_4 : Int) (r_5 : Int) (r_6 : Int) (r_7 : Int) (r_8 : Int) (r_9 : Int) (l_12 : List Int) (x_t1 : Int) (x_t2 : Int) => (valid_Parts_pt [.r, .r, .r, .l, .l, (.call 1 8), .r, .r, .r, .r, .r, .r, .l, .r, .d]).e Tryd.prog valid_Parts_T valid_Parts_ans (valid_Parts_t8 l_15 b_1 r_2 r_3 r_4 r_5 r_6 r_7 r_8 r_9 l_12 x_t1 x_t2)) = (valid_Parts_p8) := funext fun l_15 => funext fun b_1 => funext fun r_2 => funext fun r_3 => funext fun r_4 => funext fun r_5 => funext fun r_6 => funext fun r_7 => funext fun r_8 => funext fun r_9 => funext fun l_12 => funext fun x_t1 => funext fun x_t2 => valid_Parts_e8 l_15 b_1 r_2 r_3 r_4 r_5 r_6 r_7 r_8 r_9 l_12 x_t1 x_t2
  rw [h11, h8]
  rfl
theorem valid_Parts_run (x : List UInt8) : run Tryd.prog valid_Parts_T valid_Parts_ans Tryd.f5 valid_Parts_an valid_Parts_ps valid_Parts_rs x = valid_Parts x := by
  refine Eq.trans (b := valid_Parts_s0 (fun (b_1 : List UInt8) (r_2 : Int) (r_3 : Int) (r_4 : Int) (r_5 : Int) (r_6 : Int) (r_7 : Int) (r_8 : Int) (r_9 : Int) (l_12 : List Int) (r_t3 : Int) (r_t4 : Int) (r_t5 : Int) => (valid_Parts_pt [.r, .r, .r, .l, .r]).e Tryd.prog valid_Parts_T valid_Parts_ans (valid_Parts_t11 b_1 r_2 r_3 r_4 r_5 r_6 r_7 r_8 r_9 l_12 r_t3 r_t4 r_t5)) (fun (r_16 : Int) (b_1 : List UInt8) (r_2 : Int) (r_3 : Int) (r_4 : Int) (r_5 : Int) (r_6 : Int) (r_7 : Int) (r_8 : Int) (r_9 : Int) (r_10 : Int) (r_11 : Int) (l_15 : List Int) (l_12 : List Int) => (valid_Parts_pt [.r, .r, .r, .l, .l, (.call 1 8), .r, .r, .r]).e Tryd.prog valid_Parts_T valid_Parts_ans (valid_Parts_t7 r_16 b_1 r_2 r_3 r_4 r_5 r_6 r_7 r_8 r_9 r_10 r_11 l_15 l_12)) x) (by kernel_rfl) ?_
  have h11 : (fun (b_1 : List UInt8) (r_2 : Int) (r_3 : Int) (r_4 : Int) (r_5 : Int) (r_6 : Int) (r_7 : Int) (r_8 : Int) (r_9 : Int) (l_12 : List Int) (r_t3 : Int) (r_t4 : Int) (r_t5 : Int) => (valid_Parts_pt [.r, .r, .r, .l, .r]).e Tryd.prog valid_Parts_T valid_Parts_ans (valid_Parts_t11 b_1 r_2 r_3 r_4 r_5 r_6 r_7 r_8 r_9 l_12 r_t3 r_t4 r_t5)) = (valid_Parts_p11) := funext fun b_1 => funext fun r_2 => funext fun r_3 => funext fun r_4 => funext fun r_5 => funext fun r_6 => funext fun r_7 => funext fun r_8 => funext fun r_9 => funext fun l_12 => funext fun r_t3 => funext fun r_t4 => funext fun r_t5 => valid_Parts_e11 b_1 r_2 r_3 r_4 r_5 r_6 r_7 r_8 r_9 l_12 r_t3 r_t4 r_t5
  have h7 : (fun (r_16 : Int) (b_1 : List UInt8) (r_2 : Int) (r_3 : Int) (r_4 : Int) (r_5 : Int) (r_6 : Int) (r_7 : Int) (r_8 : Int) (r_9 : Int) (r_10 : Int) (r_11 : Int) (l_15 : List Int) (l_12 : List Int) => (valid_Parts_pt [.r, .r, .r, .l, .l, (.call 1 8), .r, .r, .r]).e Tryd.prog valid_Parts_T valid_Parts_ans (valid_Parts_t7 r_16 b_1 r_2 r_3 r_4 r_5 r_6 r_7 r_8 r_9 r_10 r_11 l_15 l_12)) = (valid_Parts_p7) := funext fun r_16 => funext fun b_1 => funext fun r_2 => funext fun r_3 => funext fun r_4 => funext fun r_5 => funext fun r_6 => funext fun r_7 => funext fun r_8 => funext fun r_9 => funext fun r_10 => funext fun r_11 => funext fun l_15 => funext fun l_12 => valid_Parts_e7 r_16 b_1 r_2 r_3 r_4 r_5 r_6 r_7 r_8 r_9 r_10 r_11 l_15 l_12
  rw [h11, h7]
  rfl
def valid_Parts_c : Con := ⟨valid_Parts_ps, valid_Parts_rs, fun x => valid_Parts x⟩
theorem valid_Parts_ok : ConOk Tryd.prog Tryd.gl_0 5 valid_Parts_c := con_of_run (T := valid_Parts_T) Tryd.mixed Tryd.func5 Tryd.ent5 (TabOk.cons valid_start_ok (TabOk.cons (seeks_Read_ok.mono (.cons _ .slnil)) TabOk.nil)) (AnsOk.cons Tryd.ent8 AnsOk.nil) (by kernel_rfl) valid_Parts_run
def cadenzaref28_Value_ps : List Sh := [.lf (.list (.int .u8)) none]
def cadenzaref28_Value_rs : List Sh := [.lf (.int .i64) none, .lf (.int .i64) none]
def cadenzaref28_Value_an : An := (.seq .d (.seq .d (.seq .d (.cut [4] [] (.seq .d (.blk (.loop [0, 4, 5] [] .d))) .d))))
def cadenzaref28_Value_T : Tab := ⟨[], Tryd.gl, false⟩
def cadenzaref28_Value_ans : List (Nat × An) := []
noncomputable def cadenzaref28_Value_pt (l : List (PS ((Int × Int)))) : Pt ((Int × Int)) := Pt.at (R := (Int × Int)) Tryd.prog cadenzaref28_Value_T cadenzaref28_Value_ans (Pt.root Tryd.prog Tryd.f52 cadenzaref28_Value_an cadenzaref28_Value_rs) l
def cadenzaref28_Value_t6 (n_t1 : Int) : S := ⟨[(4, .val (.int .i64) n_t1)], [], []⟩
def cadenzaref28_Value_t4 (b_1 : List UInt8) (n_t1 : Int) (i_t2 : Int) : S := ⟨[(0, .val (.list (.int .u8)) b_1), (4, .val (.int .i64) n_t1), (5, .val (.int .i64) i_t2)], [], []⟩
theorem cadenzaref28_Value_e6 (n_t1 : Int) : (cadenzaref28_Value_pt [.r, .r, .r, .r]).e Tryd.prog cadenzaref28_Value_T cadenzaref28_Value_ans (cadenzaref28_Value_t6 n_t1) = cadenzaref28_Value_p6 n_t1 := by kernel_rfl
theorem cadenzaref28_Value_i4 (b_1 : List UInt8) : ∀ (q : Nat) (n_t1 : Int) (i_t2 : Int), (cadenzaref28_Value_pt [.r, .r, .r, .l, .r, .d]).it Tryd.prog cadenzaref28_Value_T cadenzaref28_Value_ans q (cadenzaref28_Value_t4 b_1 n_t1 i_t2) = cadenzaref28_Value_l4 b_1 q n_t1 i_t2 := by
  intro q
  induction q with
  | zero => intros; rfl
  | succ q ih =>
    intro n_t1 i_t2
    refine Eq.trans (b := cadenzaref28_Value_s4 (fun (n_t1 : Int) => (cadenzaref28_Value_pt [.r, .r, .r, .r]).e Tryd.prog cadenzaref28_Value_T cadenzaref28_Value_ans (cadenzaref28_Value_t6 n_t1)) (fun (n_t1 : Int) (i_t2 : Int) => (cadenzaref28_Value_pt [.r, .r, .r, .l, .r, .d]).it Tryd.prog cadenzaref28_Value_T cadenzaref28_Value_ans q (cadenzaref28_Value_t4 b_1 n_t1 i_t2)) b_1 n_t1 i_t2) (by kernel_rfl) ?_
    have h6 : (fun (n_t1 : Int) => (cadenzaref28_Value_pt [.r, .r, .r, .r]).e Tryd.prog cadenzaref28_Value_T cadenzaref28_Value_ans (cadenzaref28_Value_t6 n_t1)) = (cadenzaref28_Value_p6) := funext fun n_t1 => cadenzaref28_Value_e6 n_t1
    have hq : (fun (n_t1 : Int) (i_t2 : Int) => (cadenzaref28_Value_pt [.r, .r, .r, .l, .r, .d]).it Tryd.prog cadenzaref28_Value_T cadenzaref28_Value_ans q (cadenzaref28_Value_t4 b_1 n_t1 i_t2)) = (cadenzaref28_Value_l4 b_1 q) := funext fun n_t1 => funext fun i_t2 => ih n_t1 i_t2
    rw [h6, hq]
    rfl
theorem cadenzaref28_Value_e4 (b_1 : List UInt8) (n_t1 : Int) (i_t2 : Int) : (cadenzaref28_Value_pt [.r, .r, .r, .l, .r, .d]).e Tryd.prog cadenzaref28_Value_T cadenzaref28_Value_ans (cadenzaref28_Value_t4 b_1 n_t1 i_t2) = cadenzaref28_Value_p4 b_1 n_t1 i_t2 := Eq.trans (b := (cadenzaref28_Value_pt [.r, .r, .r, .l, .r, .d]).it Tryd.prog cadenzaref28_Value_T cadenzaref28_Value_ans FUELx (cadenzaref28_Value_t4 b_1 n_t1 i_t2)) (by kernel_rfl) (Eq.trans (cadenzaref28_Value_i4 b_1 FUELx n_t1 i_t2) (congrArg (fun q => cadenzaref28_Value_l4 b_1 q n_t1 i_t2) FUELx_eq))
theorem cadenzaref28_Value_run (x : List UInt8) : run Tryd.prog cadenzaref28_Value_T cadenzaref28_Value_ans Tryd.f52 cadenzaref28_Value_an cadenzaref28_Value_ps cadenzaref28_Value_rs x = cadenzaref28_Value x := by
  refine Eq.trans (b := cadenzaref28_Value_s0 (fun (b_1 : List UInt8) (n_t1 : Int) (i_t2 : Int) => (cadenzaref28_Value_pt [.r, .r, .r, .l, .r, .d]).e Tryd.prog cadenzaref28_Value_T cadenzaref28_Value_ans (cadenzaref28_Value_t4 b_1 n_t1 i_t2)) x) (by kernel_rfl) ?_
  have h4 : (fun (b_1 : List UInt8) (n_t1 : Int) (i_t2 : Int) => (cadenzaref28_Value_pt [.r, .r, .r, .l, .r, .d]).e Tryd.prog cadenzaref28_Value_T cadenzaref28_Value_ans (cadenzaref28_Value_t4 b_1 n_t1 i_t2)) = (cadenzaref28_Value_p4) := funext fun b_1 => funext fun n_t1 => funext fun i_t2 => cadenzaref28_Value_e4 b_1 n_t1 i_t2
  rw [h4]
  rfl
def cadenzaref28_Value_c : Con := ⟨cadenzaref28_Value_ps, cadenzaref28_Value_rs, fun x => cadenzaref28_Value x⟩
theorem cadenzaref28_Value_ok : ConOk Tryd.prog Tryd.gl 52 cadenzaref28_Value_c := con_of_run (T := cadenzaref28_Value_T) Tryd.mixed Tryd.func52 Tryd.ent52 TabOk.nil AnsOk.nil (by kernel_rfl) cadenzaref28_Value_run
def cadenzaref28_Size_ps : List Sh := [.lf (.list (.int .u8)) none]
def cadenzaref28_Size_rs : List Sh := [.lf (.int .i64) none, .lf (.int .i64) none]
def cadenzaref28_Size_an : An := (.seq .d (.cut [0] [] .d (.seq .d (.seq .d (.cut [0, 4] [] .d (.seq .d (.cut [0, 6] [] .d .d)))))))
def cadenzaref28_Size_T : Tab := ⟨[(52, cadenzaref28_Value_c)], Tryd.gl, false⟩
def cadenzaref28_Size_ans : List (Nat × An) := []
noncomputable def cadenzaref28_Size_pt (l : List (PS ((Int × Int)))) : Pt ((Int × Int)) := Pt.at (R := (Int × Int)) Tryd.prog cadenzaref28_Size_T cadenzaref28_Size_ans (Pt.root Tryd.prog Tryd.f44 cadenzaref28_Size_an cadenzaref28_Size_rs) l
def cadenzaref28_Size_t6 (b_1 : List UInt8) (size_t1 : Int) : S := ⟨[(0, .val (.list (.int .u8)) b_1), (6, .val (.int .i64) size_t1)], [], []⟩
def cadenzaref28_Size_t5 (b_1 : List UInt8) (r_4 : Int) : S := ⟨[(0, .val (.list (.int .u8)) b_1), (4, .val (.int .i64) r_4)], [], []⟩
def cadenzaref28_Size_t4 (b_1 : List UInt8) : S := ⟨[(0, .val (.list (.int .u8)) b_1)], [], []⟩
theorem cadenzaref28_Size_e6 (b_1 : List UInt8) (size_t1 : Int) : (cadenzaref28_Size_pt [.r, .r, .r, .r, .r, .r, .r]).e Tryd.prog cadenzaref28_Size_T cadenzaref28_Size_ans (cadenzaref28_Size_t6 b_1 size_t1) = cadenzaref28_Size_p6 b_1 size_t1 := by kernel_rfl
theorem cadenzaref28_Size_e5 (b_1 : List UInt8) (r_4 : Int) : (cadenzaref28_Size_pt [.r, .r, .r, .r, .r]).e Tryd.prog cadenzaref28_Size_T cadenzaref28_Size_ans (cadenzaref28_Size_t5 b_1 r_4) = cadenzaref28_Size_p5 b_1 r_4 := by
  refine Eq.trans (b := cadenzaref28_Size_s5 (fun (b_1 : List UInt8) (size_t1 : Int) => (cadenzaref28_Size_pt [.r, .r, .r, .r, .r, .r, .r]).e Tryd.prog cadenzaref28_Size_T cadenzaref28_Size_ans (cadenzaref28_Size_t6 b_1 size_t1)) b_1 r_4) (by kernel_rfl) ?_
  have h6 : (fun (b_1 : List UInt8) (size_t1 : Int) => (cadenzaref28_Size_pt [.r, .r, .r, .r, .r, .r, .r]).e Tryd.prog cadenzaref28_Size_T cadenzaref28_Size_ans (cadenzaref28_Size_t6 b_1 size_t1)) = (cadenzaref28_Size_p6) := funext fun b_1 => funext fun size_t1 => cadenzaref28_Size_e6 b_1 size_t1
  rw [h6]
  rfl
theorem cadenzaref28_Size_e4 (b_1 : List UInt8) : (cadenzaref28_Size_pt [.r, .r]).e Tryd.prog cadenzaref28_Size_T cadenzaref28_Size_ans (cadenzaref28_Size_t4 b_1) = cadenzaref28_Size_p4 b_1 := by
  refine Eq.trans (b := cadenzaref28_Size_s4 (fun (b_1 : List UInt8) (r_4 : Int) => (cadenzaref28_Size_pt [.r, .r, .r, .r, .r]).e Tryd.prog cadenzaref28_Size_T cadenzaref28_Size_ans (cadenzaref28_Size_t5 b_1 r_4)) b_1) (by kernel_rfl) ?_
  have h5 : (fun (b_1 : List UInt8) (r_4 : Int) => (cadenzaref28_Size_pt [.r, .r, .r, .r, .r]).e Tryd.prog cadenzaref28_Size_T cadenzaref28_Size_ans (cadenzaref28_Size_t5 b_1 r_4)) = (cadenzaref28_Size_p5) := funext fun b_1 => funext fun r_4 => cadenzaref28_Size_e5 b_1 r_4
  rw [h5]
  rfl
theorem cadenzaref28_Size_run (x : List UInt8) : run Tryd.prog cadenzaref28_Size_T cadenzaref28_Size_ans Tryd.f44 cadenzaref28_Size_an cadenzaref28_Size_ps cadenzaref28_Size_rs x = cadenzaref28_Size x := by
  refine Eq.trans (b := cadenzaref28_Size_s0 (fun (b_1 : List UInt8) => (cadenzaref28_Size_pt [.r, .r]).e Tryd.prog cadenzaref28_Size_T cadenzaref28_Size_ans (cadenzaref28_Size_t4 b_1)) x) (by kernel_rfl) ?_
  have h4 : (fun (b_1 : List UInt8) => (cadenzaref28_Size_pt [.r, .r]).e Tryd.prog cadenzaref28_Size_T cadenzaref28_Size_ans (cadenzaref28_Size_t4 b_1)) = (cadenzaref28_Size_p4) := funext fun b_1 => cadenzaref28_Size_e4 b_1
  rw [h4]
  rfl
def cadenzaref28_Size_c : Con := ⟨cadenzaref28_Size_ps, cadenzaref28_Size_rs, fun x => cadenzaref28_Size x⟩
theorem cadenzaref28_Size_ok : ConOk Tryd.prog Tryd.gl 44 cadenzaref28_Size_c := con_of_run (T := cadenzaref28_Size_T) Tryd.mixed Tryd.func44 Tryd.ent44 (TabOk.cons cadenzaref28_Value_ok TabOk.nil) AnsOk.nil (by kernel_rfl) cadenzaref28_Size_run
def cadenzaref01_Of_ps : List Sh := [.lf (.list (.int .u8)) none]
def cadenzaref01_Of_rs : List Sh := [.lf (.int .u64) none]
def cadenzaref01_Of_an : An := (.seq .d (.seq .d (.cut [3] [] (.seq .d (.blk (.loop [0, 3, 4] [] .d))) .d)))
def cadenzaref01_Of_T : Tab := ⟨[], Tryd.gl, false⟩
def cadenzaref01_Of_ans : List (Nat × An) := []
noncomputable def cadenzaref01_Of_pt (l : List (PS ((UInt64)))) : Pt ((UInt64)) := Pt.at (R := (UInt64)) Tryd.prog cadenzaref01_Of_T cadenzaref01_Of_ans (Pt.root Tryd.prog Tryd.f29 cadenzaref01_Of_an cadenzaref01_Of_rs) l
def cadenzaref01_Of_t6 (n_t1 : UInt64) : S := ⟨[(3, .val (.int .u64) n_t1)], [], []⟩
def cadenzaref01_Of_t4 (b_1 : List UInt8) (n_t1 : UInt64) (i_t2 : Int) : S := ⟨[(0, .val (.list (.int .u8)) b_1), (3, .val (.int .u64) n_t1), (4, .val (.int .i64) i_t2)], [], []⟩
theorem cadenzaref01_Of_e6 (n_t1 : UInt64) : (cadenzaref01_Of_pt [.r, .r, .r]).e Tryd.prog cadenzaref01_Of_T cadenzaref01_Of_ans (cadenzaref01_Of_t6 n_t1) = cadenzaref01_Of_p6 n_t1 := by kernel_rfl
theorem cadenzaref01_Of_i4 (b_1 : List UInt8) : ∀ (q : Nat) (n_t1 : UInt64) (i_t2 : Int), (cadenzaref01_Of_pt [.r, .r, .l, .r, .d]).it Tryd.prog cadenzaref01_Of_T cadenzaref01_Of_ans q (cadenzaref01_Of_t4 b_1 n_t1 i_t2) = cadenzaref01_Of_l4 b_1 q n_t1 i_t2 := by
  intro q
  induction q with
  | zero => intros; rfl
  | succ q ih =>
    intro n_t1 i_t2
    refine Eq.trans (b := cadenzaref01_Of_s4 (fun (n_t1 : UInt64) => (cadenzaref01_Of_pt [.r, .r, .r]).e Tryd.prog cadenzaref01_Of_T cadenzaref01_Of_ans (cadenzaref01_Of_t6 n_t1)) (fun (n_t1 : UInt64) (i_t2 : Int) => (cadenzaref01_Of_pt [.r, .r, .l, .r, .d]).it Tryd.prog cadenzaref01_Of_T cadenzaref01_Of_ans q (cadenzaref01_Of_t4 b_1 n_t1 i_t2)) b_1 n_t1 i_t2) (by kernel_rfl) ?_
    have h6 : (fun (n_t1 : UInt64) => (cadenzaref01_Of_pt [.r, .r, .r]).e Tryd.prog cadenzaref01_Of_T cadenzaref01_Of_ans (cadenzaref01_Of_t6 n_t1)) = (cadenzaref01_Of_p6) := funext fun n_t1 => cadenzaref01_Of_e6 n_t1
    have hq : (fun (n_t1 : UInt64) (i_t2 : Int) => (cadenzaref01_Of_pt [.r, .r, .l, .r, .d]).it Tryd.prog cadenzaref01_Of_T cadenzaref01_Of_ans q (cadenzaref01_Of_t4 b_1 n_t1 i_t2)) = (cadenzaref01_Of_l4 b_1 q) := funext fun n_t1 => funext fun i_t2 => ih n_t1 i_t2
    rw [h6, hq]
    rfl
theorem cadenzaref01_Of_e4 (b_1 : List UInt8) (n_t1 : UInt64) (i_t2 : Int) : (cadenzaref01_Of_pt [.r, .r, .l, .r, .d]).e Tryd.prog cadenzaref01_Of_T cadenzaref01_Of_ans (cadenzaref01_Of_t4 b_1 n_t1 i_t2) = cadenzaref01_Of_p4 b_1 n_t1 i_t2 := Eq.trans (b := (cadenzaref01_Of_pt [.r, .r, .l, .r, .d]).it Tryd.prog cadenzaref01_Of_T cadenzaref01_Of_ans FUELx (cadenzaref01_Of_t4 b_1 n_t1 i_t2)) (by kernel_rfl) (Eq.trans (cadenzaref01_Of_i4 b_1 FUELx n_t1 i_t2) (congrArg (fun q => cadenzaref01_Of_l4 b_1 q n_t1 i_t2) FUELx_eq))
theorem cadenzaref01_Of_run (x : List UInt8) : run Tryd.prog cadenzaref01_Of_T cadenzaref01_Of_ans Tryd.f29 cadenzaref01_Of_an cadenzaref01_Of_ps cadenzaref01_Of_rs x = cadenzaref01_Of x := by
  refine Eq.trans (b := cadenzaref01_Of_s0 (fun (b_1 : List UInt8) (n_t1 : UInt64) (i_t2 : Int) => (cadenzaref01_Of_pt [.r, .r, .l, .r, .d]).e Tryd.prog cadenzaref01_Of_T cadenzaref01_Of_ans (cadenzaref01_Of_t4 b_1 n_t1 i_t2)) x) (by kernel_rfl) ?_
  have h4 : (fun (b_1 : List UInt8) (n_t1 : UInt64) (i_t2 : Int) => (cadenzaref01_Of_pt [.r, .r, .l, .r, .d]).e Tryd.prog cadenzaref01_Of_T cadenzaref01_Of_ans (cadenzaref01_Of_t4 b_1 n_t1 i_t2)) = (cadenzaref01_Of_p4) := funext fun b_1 => funext fun n_t1 => funext fun i_t2 => cadenzaref01_Of_e4 b_1 n_t1 i_t2
  rw [h4]
  rfl
def cadenzaref01_Of_c : Con := ⟨cadenzaref01_Of_ps, cadenzaref01_Of_rs, fun x => cadenzaref01_Of x⟩
theorem cadenzaref01_Of_ok : ConOk Tryd.prog Tryd.gl 29 cadenzaref01_Of_c := con_of_run (T := cadenzaref01_Of_T) Tryd.mixed Tryd.func29 Tryd.ent29 TabOk.nil AnsOk.nil (by kernel_rfl) cadenzaref01_Of_run
def cadenzaref29_told_ps : List Sh := [.lf (.list (.int .u8)) none]
def cadenzaref29_told_rs : List Sh := [.lf (.int .i64) none, .lf (.int .i64) none, .lf .bool none]
def cadenzaref29_told_an : An := .d
def cadenzaref29_told_T : Tab := ⟨[(29, cadenzaref01_Of_c)], Tryd.gl, false⟩
def cadenzaref29_told_ans : List (Nat × An) := []
theorem cadenzaref29_told_run (x : List UInt8) : run Tryd.prog cadenzaref29_told_T cadenzaref29_told_ans Tryd.f53 cadenzaref29_told_an cadenzaref29_told_ps cadenzaref29_told_rs x = cadenzaref29_told x := by kernel_rfl
def cadenzaref29_told_c : Con := ⟨cadenzaref29_told_ps, cadenzaref29_told_rs, fun x => cadenzaref29_told x⟩
theorem cadenzaref29_told_ok : ConOk Tryd.prog Tryd.gl 53 cadenzaref29_told_c := con_of_run (T := cadenzaref29_told_T) Tryd.mixed Tryd.func53 Tryd.ent53 (TabOk.cons cadenzaref01_Of_ok TabOk.nil) AnsOk.nil (by kernel_rfl) cadenzaref29_told_run
def cadenzaref01_Written_ps : List Sh := [.lf (.int .u64) none, .lf (.int .i64) none]
def cadenzaref01_Written_rs : List Sh := [.lf (.list (.int .u8)) (some 5)]
def cadenzaref01_Written_an : An := (.seq .d (.seq .d (.cut [5] [] (.seq .d (.blk (.loop [0, 1, 5, 6] [⟨5, [], .own 5 (.int .u8)⟩] .d))) .d)))
def cadenzaref01_Written_T : Tab := ⟨[], Tryd.gl, false⟩
def cadenzaref01_Written_ans : List (Nat × An) := []
noncomputable def cadenzaref01_Written_pt (l : List (PS (((List UInt8))))) : Pt (((List UInt8))) := Pt.at (R := ((List UInt8))) Tryd.prog cadenzaref01_Written_T cadenzaref01_Written_ans (Pt.root Tryd.prog Tryd.f69 cadenzaref01_Written_an cadenzaref01_Written_rs) l
def cadenzaref01_Written_t6 (x_t3 : List UInt8) : S := ⟨[(5, .own 0)], [.arr 5 (.int .u8) x_t3], []⟩
def cadenzaref01_Written_t4 (w_2 : Int) (n_t1 : UInt64) (i_t2 : Int) (x_t3 : List UInt8) : S := ⟨[(0, .val (.int .u64) n_t1), (1, .val (.int .i64) w_2), (5, .own 0), (6, .val (.int .i64) i_t2)], [.arr 5 (.int .u8) x_t3], []⟩
theorem cadenzaref01_Written_e6 (x_t3 : List UInt8) : (cadenzaref01_Written_pt [.r, .r, .r]).e Tryd.prog cadenzaref01_Written_T cadenzaref01_Written_ans (cadenzaref01_Written_t6 x_t3) = cadenzaref01_Written_p6 x_t3 := by kernel_rfl
theorem cadenzaref01_Written_i4 (w_2 : Int) : ∀ (q : Nat) (n_t1 : UInt64) (i_t2 : Int) (x_t3 : List UInt8), (cadenzaref01_Written_pt [.r, .r, .l, .r, .d]).it Tryd.prog cadenzaref01_Written_T cadenzaref01_Written_ans q (cadenzaref01_Written_t4 w_2 n_t1 i_t2 x_t3) = cadenzaref01_Written_l4 w_2 q n_t1 i_t2 x_t3 := by
  intro q
  induction q with
  | zero => intros; rfl
  | succ q ih =>
    intro n_t1 i_t2 x_t3
    refine Eq.trans (b := cadenzaref01_Written_s4 (fun (x_t3 : List UInt8) => (cadenzaref01_Written_pt [.r, .r, .r]).e Tryd.prog cadenzaref01_Written_T cadenzaref01_Written_ans (cadenzaref01_Written_t6 x_t3)) (fun (n_t1 : UInt64) (i_t2 : Int) (x_t3 : List UInt8) => (cadenzaref01_Written_pt [.r, .r, .l, .r, .d]).it Tryd.prog cadenzaref01_Written_T cadenzaref01_Written_ans q (cadenzaref01_Written_t4 w_2 n_t1 i_t2 x_t3)) w_2 n_t1 i_t2 x_t3) (by kernel_rfl) ?_
    have h6 : (fun (x_t3 : List UInt8) => (cadenzaref01_Written_pt [.r, .r, .r]).e Tryd.prog cadenzaref01_Written_T cadenzaref01_Written_ans (cadenzaref01_Written_t6 x_t3)) = (cadenzaref01_Written_p6) := funext fun x_t3 => cadenzaref01_Written_e6 x_t3
    have hq : (fun (n_t1 : UInt64) (i_t2 : Int) (x_t3 : List UInt8) => (cadenzaref01_Written_pt [.r, .r, .l, .r, .d]).it Tryd.prog cadenzaref01_Written_T cadenzaref01_Written_ans q (cadenzaref01_Written_t4 w_2 n_t1 i_t2 x_t3)) = (cadenzaref01_Written_l4 w_2 q) := funext fun n_t1 => funext fun i_t2 => funext fun x_t3 => ih n_t1 i_t2 x_t3
    rw [h6, hq]
    rfl
theorem cadenzaref01_Written_e4 (w_2 : Int) (n_t1 : UInt64) (i_t2 : Int) (x_t3 : List UInt8) : (cadenzaref01_Written_pt [.r, .r, .l, .r, .d]).e Tryd.prog cadenzaref01_Written_T cadenzaref01_Written_ans (cadenzaref01_Written_t4 w_2 n_t1 i_t2 x_t3) = cadenzaref01_Written_p4 w_2 n_t1 i_t2 x_t3 := Eq.trans (b := (cadenzaref01_Written_pt [.r, .r, .l, .r, .d]).it Tryd.prog cadenzaref01_Written_T cadenzaref01_Written_ans FUELx (cadenzaref01_Written_t4 w_2 n_t1 i_t2 x_t3)) (by kernel_rfl) (Eq.trans (cadenzaref01_Written_i4 w_2 FUELx n_t1 i_t2 x_t3) (congrArg (fun q => cadenzaref01_Written_l4 w_2 q n_t1 i_t2 x_t3) FUELx_eq))
theorem cadenzaref01_Written_run (x : UInt64 × Int) : run Tryd.prog cadenzaref01_Written_T cadenzaref01_Written_ans Tryd.f69 cadenzaref01_Written_an cadenzaref01_Written_ps cadenzaref01_Written_rs x = cadenzaref01_Written x.1 x.2 := by
  refine Eq.trans (b := cadenzaref01_Written_s0 (fun (w_2 : Int) (n_t1 : UInt64) (i_t2 : Int) (x_t3 : List UInt8) => (cadenzaref01_Written_pt [.r, .r, .l, .r, .d]).e Tryd.prog cadenzaref01_Written_T cadenzaref01_Written_ans (cadenzaref01_Written_t4 w_2 n_t1 i_t2 x_t3)) x.1 x.2) (by kernel_rfl) ?_
  have h4 : (fun (w_2 : Int) (n_t1 : UInt64) (i_t2 : Int) (x_t3 : List UInt8) => (cadenzaref01_Written_pt [.r, .r, .l, .r, .d]).e Tryd.prog cadenzaref01_Written_T cadenzaref01_Written_ans (cadenzaref01_Written_t4 w_2 n_t1 i_t2 x_t3)) = (cadenzaref01_Written_p4) := funext fun w_2 => funext fun n_t1 => funext fun i_t2 => funext fun x_t3 => cadenzaref01_Written_e4 w_2 n_t1 i_t2 x_t3
  rw [h4]
  rfl
def cadenzaref01_Written_c : Con := ⟨cadenzaref01_Written_ps, cadenzaref01_Written_rs, fun x => cadenzaref01_Written x.1 x.2⟩
theorem cadenzaref01_Written_ok : ConOk Tryd.prog Tryd.gl 69 cadenzaref01_Written_c := con_of_run (T := cadenzaref01_Written_T) Tryd.mixed Tryd.func69 Tryd.ent69 TabOk.nil AnsOk.nil (by kernel_rfl) cadenzaref01_Written_run
def cadenzaref29_end_ps : List Sh := [.lf (.int .i64) none, .lf (.int .i64) none, .lf (.int .u64) none]
def cadenzaref29_end_rs : List Sh := [.lf (.list (.int .u8)) (some 5)]
def cadenzaref29_end_an : An := .d
def cadenzaref29_end_T : Tab := ⟨[(69, cadenzaref01_Written_c)], Tryd.gl, false⟩
def cadenzaref29_end_ans : List (Nat × An) := []
theorem cadenzaref29_end_run (x : Int × Int × UInt64) : run Tryd.prog cadenzaref29_end_T cadenzaref29_end_ans Tryd.f66 cadenzaref29_end_an cadenzaref29_end_ps cadenzaref29_end_rs x = cadenzaref29_end x.1 x.2.1 x.2.2 := by kernel_rfl
def cadenzaref29_end_c : Con := ⟨cadenzaref29_end_ps, cadenzaref29_end_rs, fun x => cadenzaref29_end x.1 x.2.1 x.2.2⟩
theorem cadenzaref29_end_ok : ConOk Tryd.prog Tryd.gl 66 cadenzaref29_end_c := con_of_run (T := cadenzaref29_end_T) Tryd.mixed Tryd.func66 Tryd.ent66 (TabOk.cons cadenzaref01_Written_ok TabOk.nil) AnsOk.nil (by kernel_rfl) cadenzaref29_end_run
def cadenzaref29_head_ps : List Sh := [.lf (.int .i64) none, .lf (.int .i64) none]
def cadenzaref29_head_rs : List Sh := [.lf (.list (.int .u8)) (some 5)]
def cadenzaref29_head_an : An := .d
def cadenzaref29_head_T : Tab := ⟨[(66, cadenzaref29_end_c)], Tryd.gl, false⟩
def cadenzaref29_head_ans : List (Nat × An) := []
theorem cadenzaref29_head_run (x : Int × Int) : run Tryd.prog cadenzaref29_head_T cadenzaref29_head_ans Tryd.f54 cadenzaref29_head_an cadenzaref29_head_ps cadenzaref29_head_rs x = cadenzaref29_head x.1 x.2 := by kernel_rfl
def cadenzaref29_head_c : Con := ⟨cadenzaref29_head_ps, cadenzaref29_head_rs, fun x => cadenzaref29_head x.1 x.2⟩
theorem cadenzaref29_head_ok : ConOk Tryd.prog Tryd.gl 54 cadenzaref29_head_c := con_of_run (T := cadenzaref29_head_T) Tryd.mixed Tryd.func54 Tryd.ent54 (TabOk.cons cadenzaref29_end_ok TabOk.nil) AnsOk.nil (by kernel_rfl) cadenzaref29_head_run
def cadenzaref29_foot_ps : List Sh := [.lf (.int .i64) none, .lf (.int .i64) none, .lf .bool none]
def cadenzaref29_foot_rs : List Sh := [.lf (.list (.int .u8)) (some 5)]
def cadenzaref29_foot_an : An := .d
def cadenzaref29_foot_T : Tab := ⟨[(66, cadenzaref29_end_c)], Tryd.gl, false⟩
def cadenzaref29_foot_ans : List (Nat × An) := []
theorem cadenzaref29_foot_run (x : Int × Int × Bool) : run Tryd.prog cadenzaref29_foot_T cadenzaref29_foot_ans Tryd.f55 cadenzaref29_foot_an cadenzaref29_foot_ps cadenzaref29_foot_rs x = cadenzaref29_foot x.1 x.2.1 x.2.2 := by kernel_rfl
def cadenzaref29_foot_c : Con := ⟨cadenzaref29_foot_ps, cadenzaref29_foot_rs, fun x => cadenzaref29_foot x.1 x.2.1 x.2.2⟩
theorem cadenzaref29_foot_ok : ConOk Tryd.prog Tryd.gl 55 cadenzaref29_foot_c := con_of_run (T := cadenzaref29_foot_T) Tryd.mixed Tryd.func55 Tryd.ent55 (TabOk.cons cadenzaref29_end_ok TabOk.nil) AnsOk.nil (by kernel_rfl) cadenzaref29_foot_run
def cadenzaref29_Front_ps : List Sh := [.lf (.list (.int .u8)) none]
def cadenzaref29_Front_rs : List Sh := [.lf (.int .i64) none, .lf (.int .i64) none]
def cadenzaref29_Front_an : An := (.seq .d (.cut [0] [] .d (.seq .d (.seq .d (.cut [0, 4, 5] [] .d .d)))))
def cadenzaref29_Front_T : Tab := ⟨[(53, cadenzaref29_told_c), (54, cadenzaref29_head_c), (55, cadenzaref29_foot_c)], Tryd.gl, false⟩
def cadenzaref29_Front_ans : List (Nat × An) := []
noncomputable def cadenzaref29_Front_pt (l : List (PS ((Int × Int)))) : Pt ((Int × Int)) := Pt.at (R := (Int × Int)) Tryd.prog cadenzaref29_Front_T cadenzaref29_Front_ans (Pt.root Tryd.prog Tryd.f45 cadenzaref29_Front_an cadenzaref29_Front_rs) l
def cadenzaref29_Front_t4 (b_1 : List UInt8) (r_4 : Int) (r_5 : Int) : S := ⟨[(0, .val (.list (.int .u8)) b_1), (4, .val (.int .i64) r_4), (5, .val (.int .i64) r_5)], [], []⟩
def cadenzaref29_Front_t3 (b_1 : List UInt8) : S := ⟨[(0, .val (.list (.int .u8)) b_1)], [], []⟩
theorem cadenzaref29_Front_e4 (b_1 : List UInt8) (r_4 : Int) (r_5 : Int) : (cadenzaref29_Front_pt [.r, .r, .r, .r, .r]).e Tryd.prog cadenzaref29_Front_T cadenzaref29_Front_ans (cadenzaref29_Front_t4 b_1 r_4 r_5) = cadenzaref29_Front_p4 b_1 r_4 r_5 := by kernel_rfl
theorem cadenzaref29_Front_e3 (b_1 : List UInt8) : (cadenzaref29_Front_pt [.r, .r]).e Tryd.prog cadenzaref29_Front_T cadenzaref29_Front_ans (cadenzaref29_Front_t3 b_1) = cadenzaref29_Front_p3 b_1 := by
  refine Eq.trans (b := cadenzaref29_Front_s3 (fun (b_1 : List UInt8) (r_4 : Int) (r_5 : Int) => (cadenzaref29_Front_pt [.r, .r, .r, .r, .r]).e Tryd.prog cadenzaref29_Front_T cadenzaref29_Front_ans (cadenzaref29_Front_t4 b_1 r_4 r_5)) b_1) (by kernel_rfl) ?_
  have h4 : (fun (b_1 : List UInt8) (r_4 : Int) (r_5 : Int) => (cadenzaref29_Front_pt [.r, .r, .r, .r, .r]).e Tryd.prog cadenzaref29_Front_T cadenzaref29_Front_ans (cadenzaref29_Front_t4 b_1 r_4 r_5)) = (cadenzaref29_Front_p4) := funext fun b_1 => funext fun r_4 => funext fun r_5 => cadenzaref29_Front_e4 b_1 r_4 r_5
  rw [h4]
  rfl
theorem cadenzaref29_Front_run (x : List UInt8) : run Tryd.prog cadenzaref29_Front_T cadenzaref29_Front_ans Tryd.f45 cadenzaref29_Front_an cadenzaref29_Front_ps cadenzaref29_Front_rs x = cadenzaref29_Front x := by
  refine Eq.trans (b := cadenzaref29_Front_s0 (fun (b_1 : List UInt8) => (cadenzaref29_Front_pt [.r, .r]).e Tryd.prog cadenzaref29_Front_T cadenzaref29_Front_ans (cadenzaref29_Front_t3 b_1)) x) (by kernel_rfl) ?_
  have h3 : (fun (b_1 : List UInt8) => (cadenzaref29_Front_pt [.r, .r]).e Tryd.prog cadenzaref29_Front_T cadenzaref29_Front_ans (cadenzaref29_Front_t3 b_1)) = (cadenzaref29_Front_p3) := funext fun b_1 => cadenzaref29_Front_e3 b_1
  rw [h3]
  rfl
def cadenzaref29_Front_c : Con := ⟨cadenzaref29_Front_ps, cadenzaref29_Front_rs, fun x => cadenzaref29_Front x⟩
theorem cadenzaref29_Front_ok : ConOk Tryd.prog Tryd.gl 45 cadenzaref29_Front_c := con_of_run (T := cadenzaref29_Front_T) Tryd.mixed Tryd.func45 Tryd.ent45 (TabOk.cons cadenzaref29_told_ok (TabOk.cons cadenzaref29_head_ok (TabOk.cons cadenzaref29_foot_ok TabOk.nil))) AnsOk.nil (by kernel_rfl) cadenzaref29_Front_run
def cadenzaref30_Parts_ps : List Sh := [.lf (.list (.int .u8)) none]
def cadenzaref30_Parts_rs : List Sh := [.lf (.list (.int .i64)) (some 3), .lf (.int .i64) none]
def cadenzaref30_Parts_an : An := (.seq .d (.seq .d (.seq .d (.blk (.loop [0, 4, 5] [⟨4, [], .own 3 (.int .i64)⟩] (.blk (.seq .d (.cut [0, 4, 5, 6, 7] [] .d .d))))))))
def cadenzaref30_Parts_T : Tab := ⟨[(44, cadenzaref28_Size_c), (45, cadenzaref29_Front_c)], Tryd.gl, false⟩
def cadenzaref30_Parts_ans : List (Nat × An) := []
noncomputable def cadenzaref30_Parts_pt (l : List (PS (((List Int) × Int)))) : Pt (((List Int) × Int)) := Pt.at (R := ((List Int) × Int)) Tryd.prog cadenzaref30_Parts_T cadenzaref30_Parts_ans (Pt.root Tryd.prog Tryd.f28 cadenzaref30_Parts_an cadenzaref30_Parts_rs) l
def cadenzaref30_Parts_t9 (b_1 : List UInt8) (at_t5 : Int) (x_t6 : List Int) (r_t7 : Int) (r_t8 : Int) : S := ⟨[(0, .val (.list (.int .u8)) b_1), (4, .own 0), (5, .val (.int .i64) at_t5), (6, .val (.int .i64) r_t7), (7, .val (.int .i64) r_t8)], [.arr 3 (.int .i64) x_t6], []⟩
def cadenzaref30_Parts_t6 (b_1 : List UInt8) (at_t5 : Int) (x_t6 : List Int) : S := ⟨[(0, .val (.list (.int .u8)) b_1), (4, .own 0), (5, .val (.int .i64) at_t5)], [.arr 3 (.int .i64) x_t6], []⟩
theorem cadenzaref30_Parts_e9 (kn6 : S → Option (((List Int) × Int))) (b_1 : List UInt8) (at_t5 : Int) (x_t6 : List Int) (r_t7 : Int) (r_t8 : Int) : (cadenzaref30_Parts_pt [.r, .r, .r, .d, (.lp kn6), .d, .r, .r]).e Tryd.prog cadenzaref30_Parts_T cadenzaref30_Parts_ans (cadenzaref30_Parts_t9 b_1 at_t5 x_t6 r_t7 r_t8) = cadenzaref30_Parts_p9 (fun at_t5 x_t6 => kn6 (cadenzaref30_Parts_t6 b_1 at_t5 x_t6)) b_1 at_t5 x_t6 r_t7 r_t8 := by kernel_rfl
theorem cadenzaref30_Parts_i6 (b_1 : List UInt8) : ∀ (q : Nat) (at_t5 : Int) (x_t6 : List Int), (cadenzaref30_Parts_pt [.r, .r, .r, .d]).it Tryd.prog cadenzaref30_Parts_T cadenzaref30_Parts_ans q (cadenzaref30_Parts_t6 b_1 at_t5 x_t6) = cadenzaref30_Parts_l6 b_1 q at_t5 x_t6 := by
  intro q
  induction q with
  | zero => intros; rfl
  | succ q ih =>
    intro at_t5 x_t6
    refine Eq.trans (b := cadenzaref30_Parts_s6 (fun (at_t5 : Int) (x_t6 : List Int) (r_t7 : Int) (r_t8 : Int) => (cadenzaref30_Parts_pt [.r, .r, .r, .d, (.lp ((cadenzaref30_Parts_pt [.r, .r, .r, .d]).it Tryd.prog cadenzaref30_Parts_T cadenzaref30_Parts_ans q)), .d, .r, .r]).e Tryd.prog cadenzaref30_Parts_T cadenzaref30_Parts_ans (cadenzaref30_Parts_t9 b_1 at_t5 x_t6 r_t7 r_t8)) b_1 at_t5 x_t6) (by kernel_rfl) ?_
    have h9 : (fun (at_t5 : Int) (x_t6 : List Int) (r_t7 : Int) (r_t8 : Int) => (cadenzaref30_Parts_pt [.r, .r, .r, .d, (.lp ((cadenzaref30_Parts_pt [.r, .r, .r, .d]).it Tryd.prog cadenzaref30_Parts_T cadenzaref30_Parts_ans q)), .d, .r, .r]).e Tryd.prog cadenzaref30_Parts_T cadenzaref30_Parts_ans (cadenzaref30_Parts_t9 b_1 at_t5 x_t6 r_t7 r_t8)) = (cadenzaref30_Parts_p9 (fun (at_t5 : Int) (x_t6 : List Int) => (cadenzaref30_Parts_pt [.r, .r, .r, .d]).it Tryd.prog cadenzaref30_Parts_T cadenzaref30_Parts_ans q (cadenzaref30_Parts_t6 b_1 at_t5 x_t6)) b_1) := funext fun at_t5 => funext fun x_t6 => funext fun r_t7 => funext fun r_t8 => cadenzaref30_Parts_e9 ((cadenzaref30_Parts_pt [.r, .r, .r, .d]).it Tryd.prog cadenzaref30_Parts_T cadenzaref30_Parts_ans q) b_1 at_t5 x_t6 r_t7 r_t8
    have hq : (fun (at_t5 : Int) (x_t6 : List Int) => (cadenzaref30_Parts_pt [.r, .r, .r, .d]).it Tryd.prog cadenzaref30_Parts_T cadenzaref30_Parts_ans q (cadenzaref30_Parts_t6 b_1 at_t5 x_t6)) = (cadenzaref30_Parts_l6 b_1 q) := funext fun at_t5 => funext fun x_t6 => ih at_t5 x_t6
    rw [h9, hq]
    rfl
theorem cadenzaref30_Parts_e6 (b_1 : List UInt8) (at_t5 : Int) (x_t6 : List Int) : (cadenzaref30_Parts_pt [.r, .r, .r, .d]).e Tryd.prog cadenzaref30_Parts_T cadenzaref30_Parts_ans (cadenzaref30_Parts_t6 b_1 at_t5 x_t6) = cadenzaref30_Parts_p6 b_1 at_t5 x_t6 := Eq.trans (b := (cadenzaref30_Parts_pt [.r, .r, .r, .d]).it Tryd.prog cadenzaref30_Parts_T cadenzaref30_Parts_ans FUELx (cadenzaref30_Parts_t6 b_1 at_t5 x_t6)) (by kernel_rfl) (Eq.trans (cadenzaref30_Parts_i6 b_1 FUELx at_t5 x_t6) (congrArg (fun q => cadenzaref30_Parts_l6 b_1 q at_t5 x_t6) FUELx_eq))
theorem cadenzaref30_Parts_run (x : List UInt8) : run Tryd.prog cadenzaref30_Parts_T cadenzaref30_Parts_ans Tryd.f28 cadenzaref30_Parts_an cadenzaref30_Parts_ps cadenzaref30_Parts_rs x = cadenzaref30_Parts x := by
  refine Eq.trans (b := cadenzaref30_Parts_s0 (fun (b_1 : List UInt8) (at_t5 : Int) (x_t6 : List Int) => (cadenzaref30_Parts_pt [.r, .r, .r, .d]).e Tryd.prog cadenzaref30_Parts_T cadenzaref30_Parts_ans (cadenzaref30_Parts_t6 b_1 at_t5 x_t6)) x) (by kernel_rfl) ?_
  have h6 : (fun (b_1 : List UInt8) (at_t5 : Int) (x_t6 : List Int) => (cadenzaref30_Parts_pt [.r, .r, .r, .d]).e Tryd.prog cadenzaref30_Parts_T cadenzaref30_Parts_ans (cadenzaref30_Parts_t6 b_1 at_t5 x_t6)) = (cadenzaref30_Parts_p6) := funext fun b_1 => funext fun at_t5 => funext fun x_t6 => cadenzaref30_Parts_e6 b_1 at_t5 x_t6
  rw [h6]
  rfl
def cadenzaref30_Parts_c : Con := ⟨cadenzaref30_Parts_ps, cadenzaref30_Parts_rs, fun x => cadenzaref30_Parts x⟩
theorem cadenzaref30_Parts_ok : ConOk Tryd.prog Tryd.gl 28 cadenzaref30_Parts_c := con_of_run (T := cadenzaref30_Parts_T) Tryd.mixed Tryd.func28 Tryd.ent28 (TabOk.cons cadenzaref28_Size_ok (TabOk.cons cadenzaref29_Front_ok TabOk.nil)) AnsOk.nil (by kernel_rfl) cadenzaref30_Parts_run
def cadenzaref30_Front_ps : List Sh := [.lf (.list (.int .u8)) none]
def cadenzaref30_Front_rs : List Sh := [.lf (.int .i64) none, .lf (.int .i64) none]
def cadenzaref30_Front_an : An := (.seq .d (.seq .d (.seq .d (.cut [5, 6] [] (.seq .d (.blk (.loop [4, 5, 6, 7] [] .d))) .d))))
def cadenzaref30_Front_T : Tab := ⟨[(28, cadenzaref30_Parts_c)], Tryd.gl, false⟩
def cadenzaref30_Front_ans : List (Nat × An) := []
noncomputable def cadenzaref30_Front_pt (l : List (PS ((Int × Int)))) : Pt ((Int × Int)) := Pt.at (R := (Int × Int)) Tryd.prog cadenzaref30_Front_T cadenzaref30_Front_ans (Pt.root Tryd.prog Tryd.f15 cadenzaref30_Front_an cadenzaref30_Front_rs) l
def cadenzaref30_Front_t6 (r_3 : Int) (n_t1 : Int) : S := ⟨[(5, .val (.int .i64) r_3), (6, .val (.int .i64) n_t1)], [], []⟩
def cadenzaref30_Front_t4 (r_3 : Int) (l_2 : List Int) (n_t1 : Int) (i_t2 : Int) : S := ⟨[(4, .own 0), (5, .val (.int .i64) r_3), (6, .val (.int .i64) n_t1), (7, .val (.int .i64) i_t2)], [.arr 3 (.int .i64) l_2], []⟩
theorem cadenzaref30_Front_e6 (r_3 : Int) (n_t1 : Int) : (cadenzaref30_Front_pt [.r, .r, .r, .r]).e Tryd.prog cadenzaref30_Front_T cadenzaref30_Front_ans (cadenzaref30_Front_t6 r_3 n_t1) = cadenzaref30_Front_p6 r_3 n_t1 := by kernel_rfl
theorem cadenzaref30_Front_i4 (r_3 : Int) (l_2 : List Int) : ∀ (q : Nat) (n_t1 : Int) (i_t2 : Int), (cadenzaref30_Front_pt [.r, .r, .r, .l, .r, .d]).it Tryd.prog cadenzaref30_Front_T cadenzaref30_Front_ans q (cadenzaref30_Front_t4 r_3 l_2 n_t1 i_t2) = cadenzaref30_Front_l4 r_3 l_2 q n_t1 i_t2 := by
  intro q
  induction q with
  | zero => intros; rfl
  | succ q ih =>
    intro n_t1 i_t2
    refine Eq.trans (b := cadenzaref30_Front_s4 (fun (r_3 : Int) (n_t1 : Int) => (cadenzaref30_Front_pt [.r, .r, .r, .r]).e Tryd.prog cadenzaref30_Front_T cadenzaref30_Front_ans (cadenzaref30_Front_t6 r_3 n_t1)) (fun (n_t1 : Int) (i_t2 : Int) => (cadenzaref30_Front_pt [.r, .r, .r, .l, .r, .d]).it Tryd.prog cadenzaref30_Front_T cadenzaref30_Front_ans q (cadenzaref30_Front_t4 r_3 l_2 n_t1 i_t2)) r_3 l_2 n_t1 i_t2) (by kernel_rfl) ?_
    have h6 : (fun (r_3 : Int) (n_t1 : Int) => (cadenzaref30_Front_pt [.r, .r, .r, .r]).e Tryd.prog cadenzaref30_Front_T cadenzaref30_Front_ans (cadenzaref30_Front_t6 r_3 n_t1)) = (cadenzaref30_Front_p6) := funext fun r_3 => funext fun n_t1 => cadenzaref30_Front_e6 r_3 n_t1
    have hq : (fun (n_t1 : Int) (i_t2 : Int) => (cadenzaref30_Front_pt [.r, .r, .r, .l, .r, .d]).it Tryd.prog cadenzaref30_Front_T cadenzaref30_Front_ans q (cadenzaref30_Front_t4 r_3 l_2 n_t1 i_t2)) = (cadenzaref30_Front_l4 r_3 l_2 q) := funext fun n_t1 => funext fun i_t2 => ih n_t1 i_t2
    rw [h6, hq]
    rfl
theorem cadenzaref30_Front_e4 (r_3 : Int) (l_2 : List Int) (n_t1 : Int) (i_t2 : Int) : (cadenzaref30_Front_pt [.r, .r, .r, .l, .r, .d]).e Tryd.prog cadenzaref30_Front_T cadenzaref30_Front_ans (cadenzaref30_Front_t4 r_3 l_2 n_t1 i_t2) = cadenzaref30_Front_p4 r_3 l_2 n_t1 i_t2 := Eq.trans (b := (cadenzaref30_Front_pt [.r, .r, .r, .l, .r, .d]).it Tryd.prog cadenzaref30_Front_T cadenzaref30_Front_ans FUELx (cadenzaref30_Front_t4 r_3 l_2 n_t1 i_t2)) (by kernel_rfl) (Eq.trans (cadenzaref30_Front_i4 r_3 l_2 FUELx n_t1 i_t2) (congrArg (fun q => cadenzaref30_Front_l4 r_3 l_2 q n_t1 i_t2) FUELx_eq))
theorem cadenzaref30_Front_run (x : List UInt8) : run Tryd.prog cadenzaref30_Front_T cadenzaref30_Front_ans Tryd.f15 cadenzaref30_Front_an cadenzaref30_Front_ps cadenzaref30_Front_rs x = cadenzaref30_Front x := by
  refine Eq.trans (b := cadenzaref30_Front_s0 (fun (r_3 : Int) (l_2 : List Int) (n_t1 : Int) (i_t2 : Int) => (cadenzaref30_Front_pt [.r, .r, .r, .l, .r, .d]).e Tryd.prog cadenzaref30_Front_T cadenzaref30_Front_ans (cadenzaref30_Front_t4 r_3 l_2 n_t1 i_t2)) x) (by kernel_rfl) ?_
  have h4 : (fun (r_3 : Int) (l_2 : List Int) (n_t1 : Int) (i_t2 : Int) => (cadenzaref30_Front_pt [.r, .r, .r, .l, .r, .d]).e Tryd.prog cadenzaref30_Front_T cadenzaref30_Front_ans (cadenzaref30_Front_t4 r_3 l_2 n_t1 i_t2)) = (cadenzaref30_Front_p4) := funext fun r_3 => funext fun l_2 => funext fun n_t1 => funext fun i_t2 => cadenzaref30_Front_e4 r_3 l_2 n_t1 i_t2
  rw [h4]
  rfl
def cadenzaref30_Front_c : Con := ⟨cadenzaref30_Front_ps, cadenzaref30_Front_rs, fun x => cadenzaref30_Front x⟩
theorem cadenzaref30_Front_ok : ConOk Tryd.prog Tryd.gl 15 cadenzaref30_Front_c := con_of_run (T := cadenzaref30_Front_T) Tryd.mixed Tryd.func15 Tryd.ent15 (TabOk.cons cadenzaref30_Parts_ok TabOk.nil) AnsOk.nil (by kernel_rfl) cadenzaref30_Front_run
def cadenzaref03_Step_ps : List Sh := [.lf (.int .u32) none, .lf (.int .i64) none]
def cadenzaref03_Step_rs : List Sh := [.lf (.int .u32) none]
def cadenzaref03_Step_an : An := (.seq .d (.seq .d (.cut [0, 5] [] .d .d)))
def cadenzaref03_Step_T : Tab := ⟨[], Tryd.gl, false⟩
def cadenzaref03_Step_ans : List (Nat × An) := []
noncomputable def cadenzaref03_Step_pt (l : List (PS ((UInt32)))) : Pt ((UInt32)) := Pt.at (R := (UInt32)) Tryd.prog cadenzaref03_Step_T cadenzaref03_Step_ans (Pt.root Tryd.prog Tryd.f67 cadenzaref03_Step_an cadenzaref03_Step_rs) l
def cadenzaref03_Step_t2 (state_1 : UInt32) (odd_t1 : Bool) : S := ⟨[(0, .val (.int .u32) state_1), (5, .val .bool odd_t1)], [], []⟩
theorem cadenzaref03_Step_e2 (state_1 : UInt32) (odd_t1 : Bool) : (cadenzaref03_Step_pt [.r, .r, .r]).e Tryd.prog cadenzaref03_Step_T cadenzaref03_Step_ans (cadenzaref03_Step_t2 state_1 odd_t1) = cadenzaref03_Step_p2 state_1 odd_t1 := by kernel_rfl
theorem cadenzaref03_Step_run (x : UInt32 × Int) : run Tryd.prog cadenzaref03_Step_T cadenzaref03_Step_ans Tryd.f67 cadenzaref03_Step_an cadenzaref03_Step_ps cadenzaref03_Step_rs x = cadenzaref03_Step x.1 x.2 := by
  refine Eq.trans (b := cadenzaref03_Step_s0 (fun (state_1 : UInt32) (odd_t1 : Bool) => (cadenzaref03_Step_pt [.r, .r, .r]).e Tryd.prog cadenzaref03_Step_T cadenzaref03_Step_ans (cadenzaref03_Step_t2 state_1 odd_t1)) x.1 x.2) (by kernel_rfl) ?_
  have h2 : (fun (state_1 : UInt32) (odd_t1 : Bool) => (cadenzaref03_Step_pt [.r, .r, .r]).e Tryd.prog cadenzaref03_Step_T cadenzaref03_Step_ans (cadenzaref03_Step_t2 state_1 odd_t1)) = (cadenzaref03_Step_p2) := funext fun state_1 => funext fun odd_t1 => cadenzaref03_Step_e2 state_1 odd_t1
  rw [h2]
  rfl
def cadenzaref03_Step_c : Con := ⟨cadenzaref03_Step_ps, cadenzaref03_Step_rs, fun x => cadenzaref03_Step x.1 x.2⟩
theorem cadenzaref03_Step_ok : ConOk Tryd.prog Tryd.gl 67 cadenzaref03_Step_c := con_of_run (T := cadenzaref03_Step_T) Tryd.mixed Tryd.func67 Tryd.ent67 TabOk.nil AnsOk.nil (by kernel_rfl) cadenzaref03_Step_run
def cadenzaref03_Byte_ps : List Sh := [.lf (.int .u32) none, .lf (.int .u8) none]
def cadenzaref03_Byte_rs : List Sh := [.lf (.int .u32) none]
def cadenzaref03_Byte_an : An := (.seq .d (.cut [0] [] (.seq .d (.blk (.loop [0, 1, 5] [] .d))) .d))
def cadenzaref03_Byte_T : Tab := ⟨[(67, cadenzaref03_Step_c)], Tryd.gl, false⟩
def cadenzaref03_Byte_ans : List (Nat × An) := []
noncomputable def cadenzaref03_Byte_pt (l : List (PS ((UInt32)))) : Pt ((UInt32)) := Pt.at (R := (UInt32)) Tryd.prog cadenzaref03_Byte_T cadenzaref03_Byte_ans (Pt.root Tryd.prog Tryd.f56 cadenzaref03_Byte_an cadenzaref03_Byte_rs) l
def cadenzaref03_Byte_t6 (state_t1 : UInt32) : S := ⟨[(0, .val (.int .u32) state_t1)], [], []⟩
def cadenzaref03_Byte_t4 (state_t1 : UInt32) (b_t2 : UInt8) (i_t3 : Int) : S := ⟨[(0, .val (.int .u32) state_t1), (1, .val (.int .u8) b_t2), (5, .val (.int .i64) i_t3)], [], []⟩
theorem cadenzaref03_Byte_e6 (state_t1 : UInt32) : (cadenzaref03_Byte_pt [.r, .r]).e Tryd.prog cadenzaref03_Byte_T cadenzaref03_Byte_ans (cadenzaref03_Byte_t6 state_t1) = cadenzaref03_Byte_p6 state_t1 := by kernel_rfl
theorem cadenzaref03_Byte_i4 : ∀ (q : Nat) (state_t1 : UInt32) (b_t2 : UInt8) (i_t3 : Int), (cadenzaref03_Byte_pt [.r, .l, .r, .d]).it Tryd.prog cadenzaref03_Byte_T cadenzaref03_Byte_ans q (cadenzaref03_Byte_t4 state_t1 b_t2 i_t3) = cadenzaref03_Byte_l4 q state_t1 b_t2 i_t3 := by
  intro q
  induction q with
  | zero => intros; rfl
  | succ q ih =>
    intro state_t1 b_t2 i_t3
    refine Eq.trans (b := cadenzaref03_Byte_s4 (fun (state_t1 : UInt32) => (cadenzaref03_Byte_pt [.r, .r]).e Tryd.prog cadenzaref03_Byte_T cadenzaref03_Byte_ans (cadenzaref03_Byte_t6 state_t1)) (fun (state_t1 : UInt32) (b_t2 : UInt8) (i_t3 : Int) => (cadenzaref03_Byte_pt [.r, .l, .r, .d]).it Tryd.prog cadenzaref03_Byte_T cadenzaref03_Byte_ans q (cadenzaref03_Byte_t4 state_t1 b_t2 i_t3)) state_t1 b_t2 i_t3) (by kernel_rfl) ?_
    have h6 : (fun (state_t1 : UInt32) => (cadenzaref03_Byte_pt [.r, .r]).e Tryd.prog cadenzaref03_Byte_T cadenzaref03_Byte_ans (cadenzaref03_Byte_t6 state_t1)) = (cadenzaref03_Byte_p6) := funext fun state_t1 => cadenzaref03_Byte_e6 state_t1
    have hq : (fun (state_t1 : UInt32) (b_t2 : UInt8) (i_t3 : Int) => (cadenzaref03_Byte_pt [.r, .l, .r, .d]).it Tryd.prog cadenzaref03_Byte_T cadenzaref03_Byte_ans q (cadenzaref03_Byte_t4 state_t1 b_t2 i_t3)) = (cadenzaref03_Byte_l4 q) := funext fun state_t1 => funext fun b_t2 => funext fun i_t3 => ih state_t1 b_t2 i_t3
    rw [h6, hq]
    rfl
theorem cadenzaref03_Byte_e4 (state_t1 : UInt32) (b_t2 : UInt8) (i_t3 : Int) : (cadenzaref03_Byte_pt [.r, .l, .r, .d]).e Tryd.prog cadenzaref03_Byte_T cadenzaref03_Byte_ans (cadenzaref03_Byte_t4 state_t1 b_t2 i_t3) = cadenzaref03_Byte_p4 state_t1 b_t2 i_t3 := Eq.trans (b := (cadenzaref03_Byte_pt [.r, .l, .r, .d]).it Tryd.prog cadenzaref03_Byte_T cadenzaref03_Byte_ans FUELx (cadenzaref03_Byte_t4 state_t1 b_t2 i_t3)) (by kernel_rfl) (Eq.trans (cadenzaref03_Byte_i4 FUELx state_t1 b_t2 i_t3) (congrArg (fun q => cadenzaref03_Byte_l4 q state_t1 b_t2 i_t3) FUELx_eq))
theorem cadenzaref03_Byte_run (x : UInt32 × UInt8) : run Tryd.prog cadenzaref03_Byte_T cadenzaref03_Byte_ans Tryd.f56 cadenzaref03_Byte_an cadenzaref03_Byte_ps cadenzaref03_Byte_rs x = cadenzaref03_Byte x.1 x.2 := by
  refine Eq.trans (b := cadenzaref03_Byte_s0 (fun (state_t1 : UInt32) (b_t2 : UInt8) (i_t3 : Int) => (cadenzaref03_Byte_pt [.r, .l, .r, .d]).e Tryd.prog cadenzaref03_Byte_T cadenzaref03_Byte_ans (cadenzaref03_Byte_t4 state_t1 b_t2 i_t3)) x.1 x.2) (by kernel_rfl) ?_
  have h4 : (fun (state_t1 : UInt32) (b_t2 : UInt8) (i_t3 : Int) => (cadenzaref03_Byte_pt [.r, .l, .r, .d]).e Tryd.prog cadenzaref03_Byte_T cadenzaref03_Byte_ans (cadenzaref03_Byte_t4 state_t1 b_t2 i_t3)) = (cadenzaref03_Byte_p4) := funext fun state_t1 => funext fun b_t2 => funext fun i_t3 => cadenzaref03_Byte_e4 state_t1 b_t2 i_t3
  rw [h4]
  rfl
def cadenzaref03_Byte_c : Con := ⟨cadenzaref03_Byte_ps, cadenzaref03_Byte_rs, fun x => cadenzaref03_Byte x.1 x.2⟩
theorem cadenzaref03_Byte_ok : ConOk Tryd.prog Tryd.gl 56 cadenzaref03_Byte_c := con_of_run (T := cadenzaref03_Byte_T) Tryd.mixed Tryd.func56 Tryd.ent56 (TabOk.cons cadenzaref03_Step_ok TabOk.nil) AnsOk.nil (by kernel_rfl) cadenzaref03_Byte_run
def cadenzaref03_Behind_ps : List Sh := [.lf (.int .u32) none, .lf (.list (.int .u8)) none]
def cadenzaref03_Behind_rs : List Sh := [.lf (.int .u32) none]
def cadenzaref03_Behind_an : An := (.seq .d (.cut [0] [] (.seq .d (.blk (.loop [0, 1, 5] [] .d))) .d))
def cadenzaref03_Behind_T : Tab := ⟨[(56, cadenzaref03_Byte_c)], Tryd.gl, false⟩
def cadenzaref03_Behind_ans : List (Nat × An) := []
noncomputable def cadenzaref03_Behind_pt (l : List (PS ((UInt32)))) : Pt ((UInt32)) := Pt.at (R := (UInt32)) Tryd.prog cadenzaref03_Behind_T cadenzaref03_Behind_ans (Pt.root Tryd.prog Tryd.f46 cadenzaref03_Behind_an cadenzaref03_Behind_rs) l
def cadenzaref03_Behind_t6 (state_t1 : UInt32) : S := ⟨[(0, .val (.int .u32) state_t1)], [], []⟩
def cadenzaref03_Behind_t4 (b_2 : List UInt8) (state_t1 : UInt32) (i_t2 : Int) : S := ⟨[(0, .val (.int .u32) state_t1), (1, .val (.list (.int .u8)) b_2), (5, .val (.int .i64) i_t2)], [], []⟩
theorem cadenzaref03_Behind_e6 (state_t1 : UInt32) : (cadenzaref03_Behind_pt [.r, .r]).e Tryd.prog cadenzaref03_Behind_T cadenzaref03_Behind_ans (cadenzaref03_Behind_t6 state_t1) = cadenzaref03_Behind_p6 state_t1 := by kernel_rfl
theorem cadenzaref03_Behind_i4 (b_2 : List UInt8) : ∀ (q : Nat) (state_t1 : UInt32) (i_t2 : Int), (cadenzaref03_Behind_pt [.r, .l, .r, .d]).it Tryd.prog cadenzaref03_Behind_T cadenzaref03_Behind_ans q (cadenzaref03_Behind_t4 b_2 state_t1 i_t2) = cadenzaref03_Behind_l4 b_2 q state_t1 i_t2 := by
  intro q
  induction q with
  | zero => intros; rfl
  | succ q ih =>
    intro state_t1 i_t2
    refine Eq.trans (b := cadenzaref03_Behind_s4 (fun (state_t1 : UInt32) => (cadenzaref03_Behind_pt [.r, .r]).e Tryd.prog cadenzaref03_Behind_T cadenzaref03_Behind_ans (cadenzaref03_Behind_t6 state_t1)) (fun (state_t1 : UInt32) (i_t2 : Int) => (cadenzaref03_Behind_pt [.r, .l, .r, .d]).it Tryd.prog cadenzaref03_Behind_T cadenzaref03_Behind_ans q (cadenzaref03_Behind_t4 b_2 state_t1 i_t2)) b_2 state_t1 i_t2) (by kernel_rfl) ?_
    have h6 : (fun (state_t1 : UInt32) => (cadenzaref03_Behind_pt [.r, .r]).e Tryd.prog cadenzaref03_Behind_T cadenzaref03_Behind_ans (cadenzaref03_Behind_t6 state_t1)) = (cadenzaref03_Behind_p6) := funext fun state_t1 => cadenzaref03_Behind_e6 state_t1
    have hq : (fun (state_t1 : UInt32) (i_t2 : Int) => (cadenzaref03_Behind_pt [.r, .l, .r, .d]).it Tryd.prog cadenzaref03_Behind_T cadenzaref03_Behind_ans q (cadenzaref03_Behind_t4 b_2 state_t1 i_t2)) = (cadenzaref03_Behind_l4 b_2 q) := funext fun state_t1 => funext fun i_t2 => ih state_t1 i_t2
    rw [h6, hq]
    rfl
theorem cadenzaref03_Behind_e4 (b_2 : List UInt8) (state_t1 : UInt32) (i_t2 : Int) : (cadenzaref03_Behind_pt [.r, .l, .r, .d]).e Tryd.prog cadenzaref03_Behind_T cadenzaref03_Behind_ans (cadenzaref03_Behind_t4 b_2 state_t1 i_t2) = cadenzaref03_Behind_p4 b_2 state_t1 i_t2 := Eq.trans (b := (cadenzaref03_Behind_pt [.r, .l, .r, .d]).it Tryd.prog cadenzaref03_Behind_T cadenzaref03_Behind_ans FUELx (cadenzaref03_Behind_t4 b_2 state_t1 i_t2)) (by kernel_rfl) (Eq.trans (cadenzaref03_Behind_i4 b_2 FUELx state_t1 i_t2) (congrArg (fun q => cadenzaref03_Behind_l4 b_2 q state_t1 i_t2) FUELx_eq))
theorem cadenzaref03_Behind_run (x : UInt32 × List UInt8) : run Tryd.prog cadenzaref03_Behind_T cadenzaref03_Behind_ans Tryd.f46 cadenzaref03_Behind_an cadenzaref03_Behind_ps cadenzaref03_Behind_rs x = cadenzaref03_Behind x.1 x.2 := by
  refine Eq.trans (b := cadenzaref03_Behind_s0 (fun (b_2 : List UInt8) (state_t1 : UInt32) (i_t2 : Int) => (cadenzaref03_Behind_pt [.r, .l, .r, .d]).e Tryd.prog cadenzaref03_Behind_T cadenzaref03_Behind_ans (cadenzaref03_Behind_t4 b_2 state_t1 i_t2)) x.1 x.2) (by kernel_rfl) ?_
  have h4 : (fun (b_2 : List UInt8) (state_t1 : UInt32) (i_t2 : Int) => (cadenzaref03_Behind_pt [.r, .l, .r, .d]).e Tryd.prog cadenzaref03_Behind_T cadenzaref03_Behind_ans (cadenzaref03_Behind_t4 b_2 state_t1 i_t2)) = (cadenzaref03_Behind_p4) := funext fun b_2 => funext fun state_t1 => funext fun i_t2 => cadenzaref03_Behind_e4 b_2 state_t1 i_t2
  rw [h4]
  rfl
def cadenzaref03_Behind_c : Con := ⟨cadenzaref03_Behind_ps, cadenzaref03_Behind_rs, fun x => cadenzaref03_Behind x.1 x.2⟩
theorem cadenzaref03_Behind_ok : ConOk Tryd.prog Tryd.gl 46 cadenzaref03_Behind_c := con_of_run (T := cadenzaref03_Behind_T) Tryd.mixed Tryd.func46 Tryd.ent46 (TabOk.cons cadenzaref03_Byte_ok TabOk.nil) AnsOk.nil (by kernel_rfl) cadenzaref03_Behind_run
def cadenzaref03_Of_ps : List Sh := [.lf (.list (.int .u8)) none]
def cadenzaref03_Of_rs : List Sh := [.lf (.int .u32) none]
def cadenzaref03_Of_an : An := .d
def cadenzaref03_Of_T : Tab := ⟨[(46, cadenzaref03_Behind_c)], Tryd.gl, false⟩
def cadenzaref03_Of_ans : List (Nat × An) := []
theorem cadenzaref03_Of_run (x : List UInt8) : run Tryd.prog cadenzaref03_Of_T cadenzaref03_Of_ans Tryd.f30 cadenzaref03_Of_an cadenzaref03_Of_ps cadenzaref03_Of_rs x = cadenzaref03_Of x := by kernel_rfl
def cadenzaref03_Of_c : Con := ⟨cadenzaref03_Of_ps, cadenzaref03_Of_rs, fun x => cadenzaref03_Of x⟩
theorem cadenzaref03_Of_ok : ConOk Tryd.prog Tryd.gl 30 cadenzaref03_Of_c := con_of_run (T := cadenzaref03_Of_T) Tryd.mixed Tryd.func30 Tryd.ent30 (TabOk.cons cadenzaref03_Behind_ok TabOk.nil) AnsOk.nil (by kernel_rfl) cadenzaref03_Of_run
def cadenzaref25_shaped_ps : List Sh := [.agg [.lf (.int .i64) none, .lf (.int .i64) none, .lf (.int .i64) none, .lf (.int .i64) none, .lf (.int .i64) none]]
def cadenzaref25_shaped_rs : List Sh := [.lf .bool none]
def cadenzaref25_shaped_an : An := .d
def cadenzaref25_shaped_T : Tab := ⟨[], Tryd.gl, false⟩
def cadenzaref25_shaped_ans : List (Nat × An) := []
theorem cadenzaref25_shaped_run (x : Int × Int × Int × Int × Int) : run Tryd.prog cadenzaref25_shaped_T cadenzaref25_shaped_ans Tryd.f31 cadenzaref25_shaped_an cadenzaref25_shaped_ps cadenzaref25_shaped_rs x = cadenzaref25_shaped x.1 x.2.1 x.2.2.1 x.2.2.2.1 x.2.2.2.2 := by kernel_rfl
def cadenzaref25_shaped_c : Con := ⟨cadenzaref25_shaped_ps, cadenzaref25_shaped_rs, fun x => cadenzaref25_shaped x.1 x.2.1 x.2.2.1 x.2.2.2.1 x.2.2.2.2⟩
theorem cadenzaref25_shaped_ok : ConOk Tryd.prog Tryd.gl 31 cadenzaref25_shaped_c := con_of_run (T := cadenzaref25_shaped_T) Tryd.mixed Tryd.func31 Tryd.ent31 TabOk.nil AnsOk.nil (by kernel_rfl) cadenzaref25_shaped_run
def cadenzaref25_Long_ps : List Sh := [.lf (.int .i64) none]
def cadenzaref25_Long_rs : List Sh := [.lf (.int .i64) none]
def cadenzaref25_Long_an : An := .d
def cadenzaref25_Long_T : Tab := ⟨[], Tryd.gl, false⟩
def cadenzaref25_Long_ans : List (Nat × An) := []
theorem cadenzaref25_Long_run (x : Int) : run Tryd.prog cadenzaref25_Long_T cadenzaref25_Long_ans Tryd.f34 cadenzaref25_Long_an cadenzaref25_Long_ps cadenzaref25_Long_rs x = cadenzaref25_Long x := by kernel_rfl
def cadenzaref25_Long_c : Con := ⟨cadenzaref25_Long_ps, cadenzaref25_Long_rs, fun x => cadenzaref25_Long x⟩
theorem cadenzaref25_Long_ok : ConOk Tryd.prog Tryd.gl 34 cadenzaref25_Long_c := con_of_run (T := cadenzaref25_Long_T) Tryd.mixed Tryd.func34 Tryd.ent34 TabOk.nil AnsOk.nil (by kernel_rfl) cadenzaref25_Long_run
def cadenzaref25_Split_ps : List Sh := [.lf (.int .i64) none, .lf (.int .i64) none]
def cadenzaref25_Split_rs : List Sh := [.lf (.list (.int .i64)) (some 3)]
def cadenzaref25_Split_an : An := (.seq .d (.seq .d (.cut [5] [] (.seq .d (.blk (.loop [0, 5, 6] [⟨5, [], .own 3 (.int .i64)⟩] .d))) .d)))
def cadenzaref25_Split_T : Tab := ⟨[(34, cadenzaref25_Long_c)], Tryd.gl, false⟩
def cadenzaref25_Split_ans : List (Nat × An) := []
noncomputable def cadenzaref25_Split_pt (l : List (PS (((List Int))))) : Pt (((List Int))) := Pt.at (R := ((List Int))) Tryd.prog cadenzaref25_Split_T cadenzaref25_Split_ans (Pt.root Tryd.prog Tryd.f18 cadenzaref25_Split_an cadenzaref25_Split_rs) l
def cadenzaref25_Split_t6 (x_t2 : List Int) : S := ⟨[(5, .own 0)], [.arr 3 (.int .i64) x_t2], []⟩
def cadenzaref25_Split_t4 (r_1 : Int) (count_t1 : Int) (x_t2 : List Int) : S := ⟨[(0, .val (.int .i64) r_1), (5, .own 0), (6, .val (.int .i64) count_t1)], [.arr 3 (.int .i64) x_t2], []⟩
theorem cadenzaref25_Split_e6 (x_t2 : List Int) : (cadenzaref25_Split_pt [.r, .r, .r]).e Tryd.prog cadenzaref25_Split_T cadenzaref25_Split_ans (cadenzaref25_Split_t6 x_t2) = cadenzaref25_Split_p6 x_t2 := by kernel_rfl
theorem cadenzaref25_Split_i4 (r_1 : Int) : ∀ (q : Nat) (count_t1 : Int) (x_t2 : List Int), (cadenzaref25_Split_pt [.r, .r, .l, .r, .d]).it Tryd.prog cadenzaref25_Split_T cadenzaref25_Split_ans q (cadenzaref25_Split_t4 r_1 count_t1 x_t2) = cadenzaref25_Split_l4 r_1 q count_t1 x_t2 := by
  intro q
  induction q with
  | zero => intros; rfl
  | succ q ih =>
    intro count_t1 x_t2
    refine Eq.trans (b := cadenzaref25_Split_s4 (fun (x_t2 : List Int) => (cadenzaref25_Split_pt [.r, .r, .r]).e Tryd.prog cadenzaref25_Split_T cadenzaref25_Split_ans (cadenzaref25_Split_t6 x_t2)) (fun (count_t1 : Int) (x_t2 : List Int) => (cadenzaref25_Split_pt [.r, .r, .l, .r, .d]).it Tryd.prog cadenzaref25_Split_T cadenzaref25_Split_ans q (cadenzaref25_Split_t4 r_1 count_t1 x_t2)) r_1 count_t1 x_t2) (by kernel_rfl) ?_
    have h6 : (fun (x_t2 : List Int) => (cadenzaref25_Split_pt [.r, .r, .r]).e Tryd.prog cadenzaref25_Split_T cadenzaref25_Split_ans (cadenzaref25_Split_t6 x_t2)) = (cadenzaref25_Split_p6) := funext fun x_t2 => cadenzaref25_Split_e6 x_t2
    have hq : (fun (count_t1 : Int) (x_t2 : List Int) => (cadenzaref25_Split_pt [.r, .r, .l, .r, .d]).it Tryd.prog cadenzaref25_Split_T cadenzaref25_Split_ans q (cadenzaref25_Split_t4 r_1 count_t1 x_t2)) = (cadenzaref25_Split_l4 r_1 q) := funext fun count_t1 => funext fun x_t2 => ih count_t1 x_t2
    rw [h6, hq]
    rfl
theorem cadenzaref25_Split_e4 (r_1 : Int) (count_t1 : Int) (x_t2 : List Int) : (cadenzaref25_Split_pt [.r, .r, .l, .r, .d]).e Tryd.prog cadenzaref25_Split_T cadenzaref25_Split_ans (cadenzaref25_Split_t4 r_1 count_t1 x_t2) = cadenzaref25_Split_p4 r_1 count_t1 x_t2 := Eq.trans (b := (cadenzaref25_Split_pt [.r, .r, .l, .r, .d]).it Tryd.prog cadenzaref25_Split_T cadenzaref25_Split_ans FUELx (cadenzaref25_Split_t4 r_1 count_t1 x_t2)) (by kernel_rfl) (Eq.trans (cadenzaref25_Split_i4 r_1 FUELx count_t1 x_t2) (congrArg (fun q => cadenzaref25_Split_l4 r_1 q count_t1 x_t2) FUELx_eq))
theorem cadenzaref25_Split_run (x : Int × Int) : run Tryd.prog cadenzaref25_Split_T cadenzaref25_Split_ans Tryd.f18 cadenzaref25_Split_an cadenzaref25_Split_ps cadenzaref25_Split_rs x = cadenzaref25_Split x.1 x.2 := by
  refine Eq.trans (b := cadenzaref25_Split_s0 (fun (r_1 : Int) (count_t1 : Int) (x_t2 : List Int) => (cadenzaref25_Split_pt [.r, .r, .l, .r, .d]).e Tryd.prog cadenzaref25_Split_T cadenzaref25_Split_ans (cadenzaref25_Split_t4 r_1 count_t1 x_t2)) x.1 x.2) (by kernel_rfl) ?_
  have h4 : (fun (r_1 : Int) (count_t1 : Int) (x_t2 : List Int) => (cadenzaref25_Split_pt [.r, .r, .l, .r, .d]).e Tryd.prog cadenzaref25_Split_T cadenzaref25_Split_ans (cadenzaref25_Split_t4 r_1 count_t1 x_t2)) = (cadenzaref25_Split_p4) := funext fun r_1 => funext fun count_t1 => funext fun x_t2 => cadenzaref25_Split_e4 r_1 count_t1 x_t2
  rw [h4]
  rfl
def cadenzaref25_Split_c : Con := ⟨cadenzaref25_Split_ps, cadenzaref25_Split_rs, fun x => cadenzaref25_Split x.1 x.2⟩
theorem cadenzaref25_Split_ok : ConOk Tryd.prog Tryd.gl 18 cadenzaref25_Split_c := con_of_run (T := cadenzaref25_Split_T) Tryd.mixed Tryd.func18 Tryd.ent18 (TabOk.cons cadenzaref25_Long_ok TabOk.nil) AnsOk.nil (by kernel_rfl) cadenzaref25_Split_run
noncomputable def cadenzaref25_many_s0b (h_1 : Int) (h_2 : Int) (h_3 : Int) (h_4 : Int) (h_5 : Int) : Option (Bool) :=
both (
Option.bind (okI (gne h_2 (0 : Int))) fun _ =>
both (
if (ggt h_5 (gquo (4000 : Int) h_2)) = true then (
some true)
else (
Option.bind (cadenzaref25_Split h_4 h_5) fun l_6 =>
some (ggt (lenI l_6) (1000 : Int)))) [
if (ggt h_5 (gquo (4000 : Int) h_2)) = true then (
some true)
else (
Option.bind (cadenzaref25_Split h_4 h_5) fun l_6 =>
some (ggt (lenI l_6) (1000 : Int)))]) [
Option.bind (okI (gne h_2 (0 : Int))) fun _ =>
both (
if (ggt h_5 (gquo (4000 : Int) h_2)) = true then (
some true)
else (
Option.bind (cadenzaref25_Split h_4 h_5) fun l_6 =>
some (ggt (lenI l_6) (1000 : Int)))) [
if (ggt h_5 (gquo (4000 : Int) h_2)) = true then (
some true)
else (
Option.bind (cadenzaref25_Split h_4 h_5) fun l_6 =>
some (ggt (lenI l_6) (1000 : Int)))]]
theorem cadenzaref25_many_s0b_eq : @cadenzaref25_many_s0b = @cadenzaref25_many := by
  unfold cadenzaref25_many_s0b cadenzaref25_many
  repeat (refine funext fun _ => ?_)
  repeat' first
    | with_reducible rfl
    | refine both1_of ?_ ?_
    | refine both2_of ?_ ?_ ?_
    | refine both3_of ?_ ?_ ?_ ?_
    | (refine nilb_of ?_ ?_; (intro h; first | (subst h; rfl) | (simp only [h]; rfl) | (simp [appI, lenI, h]; done)))
    | with_reducible refine bind_of fun x => ?_
    | with_reducible refine ite_of (fun _ => ?_) (fun _ => ?_)
    | (refine bind_cases (fun h => by simp only [h, bind_no, bind_so, bind_to_none, ite_self]) (fun x h => ?_); (try simp only [h, bind_so]))
    | (refine ite_cases (fun h => ?_) (fun h => ?_) <;> simp only [h, if_true, if_false, Bool.false_eq_true])
def cadenzaref25_many_ps : List Sh := [.agg [.lf (.int .i64) none, .lf (.int .i64) none, .lf (.int .i64) none, .lf (.int .i64) none, .lf (.int .i64) none]]
def cadenzaref25_many_rs : List Sh := [.lf .bool none]
def cadenzaref25_many_an : An := (.seq .d (.seq (.mode false) .d))
def cadenzaref25_many_T : Tab := ⟨[(18, cadenzaref25_Split_c)], Tryd.gl, false⟩
def cadenzaref25_many_ans : List (Nat × An) := []
theorem cadenzaref25_many_run (x : Int × Int × Int × Int × Int) : run Tryd.prog cadenzaref25_many_T cadenzaref25_many_ans Tryd.f32 cadenzaref25_many_an cadenzaref25_many_ps cadenzaref25_many_rs x = cadenzaref25_many x.1 x.2.1 x.2.2.1 x.2.2.2.1 x.2.2.2.2 := Eq.trans (b := cadenzaref25_many_s0b x.1 x.2.1 x.2.2.1 x.2.2.2.1 x.2.2.2.2) (by kernel_rfl) (by rw [cadenzaref25_many_s0b_eq])
def cadenzaref25_many_c : Con := ⟨cadenzaref25_many_ps, cadenzaref25_many_rs, fun x => cadenzaref25_many x.1 x.2.1 x.2.2.1 x.2.2.2.1 x.2.2.2.2⟩
theorem cadenzaref25_many_ok : ConOk Tryd.prog Tryd.gl 32 cadenzaref25_many_c := con_of_run (T := cadenzaref25_many_T) Tryd.mixed Tryd.func32 Tryd.ent32 (TabOk.cons cadenzaref25_Split_ok TabOk.nil) AnsOk.nil (by kernel_rfl) cadenzaref25_many_run
noncomputable def cadenzaref25_Read_s5b (j6 : UInt64 → UInt64 → UInt64 → UInt64 → UInt64 → Option (Int × Int × Int × Int × Int × Int)) (b_1 : List UInt8) : Option (Int × Int × Int × Int × Int × Int) :=
Option.bind (cutI b_1 (4 : Int) (6 : Int)) fun b_8 =>
Option.bind (cutI b_1 (6 : Int) (8 : Int)) fun b_9 =>
Option.bind (cutI b_1 (8 : Int) (10 : Int)) fun b_10 =>
Option.bind (cutI b_1 (10 : Int) (14 : Int)) fun b_11 =>
Option.bind (cutI b_1 (14 : Int) (18 : Int)) fun b_12 =>
both (
Option.bind (cadenzaref01_Of b_8) fun r_13 =>
both (
Option.bind (cadenzaref01_Of b_9) fun r_14 =>
both (
Option.bind (cadenzaref01_Of b_10) fun r_15 =>
both (
Option.bind (cadenzaref01_Of b_11) fun r_16 =>
both (
Option.bind (cadenzaref01_Of b_12) fun r_17 =>
both (
j6 r_13 r_14 r_15 r_16 r_17) [
j6 r_13 r_14 r_15 r_16 r_17]) [
Option.bind (cadenzaref01_Of b_12) fun r_17 =>
j6 r_13 r_14 r_15 r_16 r_17]) [
Option.bind (cadenzaref01_Of b_11) fun r_16 =>
Option.bind (cadenzaref01_Of b_12) fun r_17 =>
j6 r_13 r_14 r_15 r_16 r_17]) [
Option.bind (cadenzaref01_Of b_10) fun r_15 =>
Option.bind (cadenzaref01_Of b_11) fun r_16 =>
Option.bind (cadenzaref01_Of b_12) fun r_17 =>
j6 r_13 r_14 r_15 r_16 r_17]) [
Option.bind (cadenzaref01_Of b_9) fun r_14 =>
Option.bind (cadenzaref01_Of b_10) fun r_15 =>
Option.bind (cadenzaref01_Of b_11) fun r_16 =>
Option.bind (cadenzaref01_Of b_12) fun r_17 =>
j6 r_13 r_14 r_15 r_16 r_17]) [
Option.bind (cadenzaref01_Of b_8) fun r_13 =>
Option.bind (cadenzaref01_Of b_9) fun r_14 =>
Option.bind (cadenzaref01_Of b_10) fun r_15 =>
Option.bind (cadenzaref01_Of b_11) fun r_16 =>
Option.bind (cadenzaref01_Of b_12) fun r_17 =>
j6 r_13 r_14 r_15 r_16 r_17]
theorem cadenzaref25_Read_s5b_eq : @cadenzaref25_Read_s5b = @cadenzaref25_Read_s5 := by
  unfold cadenzaref25_Read_s5b cadenzaref25_Read_s5
  repeat (refine funext fun _ => ?_)
  repeat' first
    | with_reducible rfl
    | refine both1_of ?_ ?_
    | refine both2_of ?_ ?_ ?_
    | refine both3_of ?_ ?_ ?_ ?_
    | (refine nilb_of ?_ ?_; (intro h; first | (subst h; rfl) | (simp only [h]; rfl) | (simp [appI, lenI, h]; done)))
    | with_reducible refine bind_of fun x => ?_
    | with_reducible refine ite_of (fun _ => ?_) (fun _ => ?_)
    | (refine bind_cases (fun h => by simp only [h, bind_no, bind_so, bind_to_none, ite_self]) (fun x h => ?_); (try simp only [h, bind_so]))
    | (refine ite_cases (fun h => ?_) (fun h => ?_) <;> simp only [h, if_true, if_false, Bool.false_eq_true])
def cadenzaref25_Read_ps : List Sh := [.lf (.list (.int .u8)) none]
def cadenzaref25_Read_rs : List Sh := [.agg [.lf (.int .i64) none, .lf (.int .i64) none, .lf (.int .i64) none, .lf (.int .i64) none, .lf (.int .i64) none], .lf (.int .i64) none]
def cadenzaref25_Read_an : An := (.seq .d (.seq .d (.cut [0, 2] [] .d (.seq .d (.cut [0, 2] [] .d (.cut [2, 5] [] .d .d))))))
def cadenzaref25_Read_T : Tab := ⟨[(29, cadenzaref01_Of_c), (30, cadenzaref03_Of_c), (31, cadenzaref25_shaped_c), (32, cadenzaref25_many_c)], Tryd.gl, false⟩
def cadenzaref25_Read_ans : List (Nat × An) := []
noncomputable def cadenzaref25_Read_pt (l : List (PS ((Int × Int × Int × Int × Int × Int)))) : Pt ((Int × Int × Int × Int × Int × Int)) := Pt.at (R := (Int × Int × Int × Int × Int × Int)) Tryd.prog cadenzaref25_Read_T cadenzaref25_Read_ans (Pt.root Tryd.prog Tryd.f16 cadenzaref25_Read_an cadenzaref25_Read_rs) l
def cadenzaref25_Read_t6 (r_13 : UInt64) (r_14 : UInt64) (r_15 : UInt64) (r_16 : UInt64) (r_17 : UInt64) : S := ⟨[(2, .ptr 0 []), (5, .ptr 1 [])], [.box 32 (.agg [.val (.int .i64) (0 : Int), .val (.int .i64) (0 : Int), .val (.int .i64) (0 : Int), .val (.int .i64) (0 : Int), .val (.int .i64) (0 : Int)]), .box 32 (.agg [.val (.int .i64) (gconv r_13 : Int), .val (.int .i64) (gconv r_14 : Int), .val (.int .i64) (gconv r_15 : Int), .val (.int .i64) (gconv r_16 : Int), .val (.int .i64) (gconv r_17 : Int)])], []⟩
def cadenzaref25_Read_t5 (b_1 : List UInt8) : S := ⟨[(0, .val (.list (.int .u8)) b_1), (2, .ptr 0 [])], [.box 32 (.agg [.val (.int .i64) (0 : Int), .val (.int .i64) (0 : Int), .val (.int .i64) (0 : Int), .val (.int .i64) (0 : Int), .val (.int .i64) (0 : Int)])], []⟩
def cadenzaref25_Read_t4 (b_1 : List UInt8) : S := ⟨[(0, .val (.list (.int .u8)) b_1), (2, .ptr 0 [])], [.box 32 (.agg [.val (.int .i64) (0 : Int), .val (.int .i64) (0 : Int), .val (.int .i64) (0 : Int), .val (.int .i64) (0 : Int), .val (.int .i64) (0 : Int)])], []⟩
theorem cadenzaref25_Read_e6 (r_13 : UInt64) (r_14 : UInt64) (r_15 : UInt64) (r_16 : UInt64) (r_17 : UInt64) : (cadenzaref25_Read_pt [.r, .r, .r, .r, .r, .r]).e Tryd.prog cadenzaref25_Read_T cadenzaref25_Read_ans (cadenzaref25_Read_t6 r_13 r_14 r_15 r_16 r_17) = cadenzaref25_Read_p6 r_13 r_14 r_15 r_16 r_17 := by kernel_rfl
theorem cadenzaref25_Read_e5 (b_1 : List UInt8) : (cadenzaref25_Read_pt [.r, .r, .r, .r, .r]).e Tryd.prog cadenzaref25_Read_T cadenzaref25_Read_ans (cadenzaref25_Read_t5 b_1) = cadenzaref25_Read_p5 b_1 := by
  refine Eq.trans (b := cadenzaref25_Read_s5b (fun (r_13 : UInt64) (r_14 : UInt64) (r_15 : UInt64) (r_16 : UInt64) (r_17 : UInt64) => (cadenzaref25_Read_pt [.r, .r, .r, .r, .r, .r]).e Tryd.prog cadenzaref25_Read_T cadenzaref25_Read_ans (cadenzaref25_Read_t6 r_13 r_14 r_15 r_16 r_17)) b_1) (by kernel_rfl) ?_
  rw [cadenzaref25_Read_s5b_eq]
  have h6 : (fun (r_13 : UInt64) (r_14 : UInt64) (r_15 : UInt64) (r_16 : UInt64) (r_17 : UInt64) => (cadenzaref25_Read_pt [.r, .r, .r, .r, .r, .r]).e Tryd.prog cadenzaref25_Read_T cadenzaref25_Read_ans (cadenzaref25_Read_t6 r_13 r_14 r_15 r_16 r_17)) = (cadenzaref25_Read_p6) := funext fun r_13 => funext fun r_14 => funext fun r_15 => funext fun r_16 => funext fun r_17 => cadenzaref25_Read_e6 r_13 r_14 r_15 r_16 r_17
  rw [h6]
  rfl
theorem cadenzaref25_Read_e4 (b_1 : List UInt8) : (cadenzaref25_Read_pt [.r, .r, .r]).e Tryd.prog cadenzaref25_Read_T cadenzaref25_Read_ans (cadenzaref25_Read_t4 b_1) = cadenzaref25_Read_p4 b_1 := by
  refine Eq.trans (b := cadenzaref25_Read_s4 (fun (b_1 : List UInt8) => (cadenzaref25_Read_pt [.r, .r, .r, .r, .r]).e Tryd.prog cadenzaref25_Read_T cadenzaref25_Read_ans (cadenzaref25_Read_t5 b_1)) b_1) (by kernel_rfl) ?_
  have h5 : (fun (b_1 : List UInt8) => (cadenzaref25_Read_pt [.r, .r, .r, .r, .r]).e Tryd.prog cadenzaref25_Read_T cadenzaref25_Read_ans (cadenzaref25_Read_t5 b_1)) = (cadenzaref25_Read_p5) := funext fun b_1 => cadenzaref25_Read_e5 b_1
  rw [h5]
  rfl
theorem cadenzaref25_Read_run (x : List UInt8) : run Tryd.prog cadenzaref25_Read_T cadenzaref25_Read_ans Tryd.f16 cadenzaref25_Read_an cadenzaref25_Read_ps cadenzaref25_Read_rs x = cadenzaref25_Read x := by
  refine Eq.trans (b := cadenzaref25_Read_s0 (fun (b_1 : List UInt8) => (cadenzaref25_Read_pt [.r, .r, .r]).e Tryd.prog cadenzaref25_Read_T cadenzaref25_Read_ans (cadenzaref25_Read_t4 b_1)) x) (by kernel_rfl) ?_
  have h4 : (fun (b_1 : List UInt8) => (cadenzaref25_Read_pt [.r, .r, .r]).e Tryd.prog cadenzaref25_Read_T cadenzaref25_Read_ans (cadenzaref25_Read_t4 b_1)) = (cadenzaref25_Read_p4) := funext fun b_1 => cadenzaref25_Read_e4 b_1
  rw [h4]
  rfl
def cadenzaref25_Read_c : Con := ⟨cadenzaref25_Read_ps, cadenzaref25_Read_rs, fun x => cadenzaref25_Read x⟩
theorem cadenzaref25_Read_ok : ConOk Tryd.prog Tryd.gl 16 cadenzaref25_Read_c := con_of_run (T := cadenzaref25_Read_T) Tryd.mixed Tryd.func16 Tryd.ent16 (TabOk.cons cadenzaref01_Of_ok (TabOk.cons cadenzaref03_Of_ok (TabOk.cons cadenzaref25_shaped_ok (TabOk.cons cadenzaref25_many_ok TabOk.nil)))) AnsOk.nil (by kernel_rfl) cadenzaref25_Read_run
def cadenzaref35_first_ps : List Sh := [.lf (.list (.int .u8)) none]
def cadenzaref35_first_rs : List Sh := [.lf (.int .i64) none, .agg [.lf (.int .i64) none, .lf (.int .i64) none, .lf (.int .i64) none, .lf (.int .i64) none, .lf (.int .i64) none], .lf (.int .i64) none]
def cadenzaref35_first_an : An := (.seq .d (.seq .d (.seq .d (.seq .d (.seq .d (.seq (.mode false) .d))))))
def cadenzaref35_first_T : Tab := ⟨[(15, cadenzaref30_Front_c), (16, cadenzaref25_Read_c)], Tryd.gl, false⟩
def cadenzaref35_first_ans : List (Nat × An) := []
theorem cadenzaref35_first_run (x : List UInt8) : run Tryd.prog cadenzaref35_first_T cadenzaref35_first_ans Tryd.f9 cadenzaref35_first_an cadenzaref35_first_ps cadenzaref35_first_rs x = cadenzaref35_first x := by kernel_rfl
def cadenzaref35_first_c : Con := ⟨cadenzaref35_first_ps, cadenzaref35_first_rs, fun x => cadenzaref35_first x⟩
theorem cadenzaref35_first_ok : ConOk Tryd.prog Tryd.gl 9 cadenzaref35_first_c := con_of_run (T := cadenzaref35_first_T) Tryd.mixed Tryd.func9 Tryd.ent9 (TabOk.cons cadenzaref30_Front_ok (TabOk.cons cadenzaref25_Read_ok TabOk.nil)) AnsOk.nil (by kernel_rfl) cadenzaref35_first_run
def cadenzaref26_Check_ps : List Sh := [.lf (.list (.int .i64)) none]
def cadenzaref26_Check_rs : List Sh := [.lf (.int .i64) none]
def cadenzaref26_Check_an : An := (.seq .d (.seq .d (.seq .d (.cut [3] [] (.seq .d (.blk (.loop [0, 3, 4] [] (.seq .d (.seq (.blk (.cut [0, 3, 4] [] .d .d)) .d))))) .d))))
def cadenzaref26_Check_T : Tab := ⟨[], Tryd.gl, false⟩
def cadenzaref26_Check_ans : List (Nat × An) := []
noncomputable def cadenzaref26_Check_pt (l : List (PS ((Int)))) : Pt ((Int)) := Pt.at (R := (Int)) Tryd.prog cadenzaref26_Check_T cadenzaref26_Check_ans (Pt.root Tryd.prog Tryd.f33 cadenzaref26_Check_an cadenzaref26_Check_rs) l
def cadenzaref26_Check_t10 (sum_t1 : Int) : S := ⟨[(3, .val (.int .i64) sum_t1)], [], []⟩
def cadenzaref26_Check_t8 (l_1 : List Int) (sum_t1 : Int) (i_t2 : Int) : S := ⟨[(0, .val (.list (.int .i64)) l_1), (3, .val (.int .i64) sum_t1), (4, .val (.int .i64) i_t2)], [], []⟩
def cadenzaref26_Check_t6 (l_1 : List Int) (sum_t1 : Int) (i_t2 : Int) : S := ⟨[(0, .val (.list (.int .i64)) l_1), (3, .val (.int .i64) sum_t1), (4, .val (.int .i64) i_t2)], [], []⟩
theorem cadenzaref26_Check_e10 (sum_t1 : Int) : (cadenzaref26_Check_pt [.r, .r, .r, .r]).e Tryd.prog cadenzaref26_Check_T cadenzaref26_Check_ans (cadenzaref26_Check_t10 sum_t1) = cadenzaref26_Check_p10 sum_t1 := by kernel_rfl
theorem cadenzaref26_Check_e8 (kn6 : S → Option ((Int))) (l_1 : List Int) (sum_t1 : Int) (i_t2 : Int) : (cadenzaref26_Check_pt [.r, .r, .r, .l, .r, .d, (.lp kn6), .r, .l, .d, .r]).e Tryd.prog cadenzaref26_Check_T cadenzaref26_Check_ans (cadenzaref26_Check_t8 l_1 sum_t1 i_t2) = cadenzaref26_Check_p8 (fun sum_t1 i_t2 => kn6 (cadenzaref26_Check_t6 l_1 sum_t1 i_t2)) l_1 sum_t1 i_t2 := by kernel_rfl
theorem cadenzaref26_Check_i6 (l_1 : List Int) : ∀ (q : Nat) (sum_t1 : Int) (i_t2 : Int), (cadenzaref26_Check_pt [.r, .r, .r, .l, .r, .d]).it Tryd.prog cadenzaref26_Check_T cadenzaref26_Check_ans q (cadenzaref26_Check_t6 l_1 sum_t1 i_t2) = cadenzaref26_Check_l6 l_1 q sum_t1 i_t2 := by
  intro q
  induction q with
  | zero => intros; rfl
  | succ q ih =>
    intro sum_t1 i_t2
    refine Eq.trans (b := cadenzaref26_Check_s6 (fun (sum_t1 : Int) (i_t2 : Int) => (cadenzaref26_Check_pt [.r, .r, .r, .l, .r, .d, (.lp ((cadenzaref26_Check_pt [.r, .r, .r, .l, .r, .d]).it Tryd.prog cadenzaref26_Check_T cadenzaref26_Check_ans q)), .r, .l, .d, .r]).e Tryd.prog cadenzaref26_Check_T cadenzaref26_Check_ans (cadenzaref26_Check_t8 l_1 sum_t1 i_t2)) (fun (sum_t1 : Int) => (cadenzaref26_Check_pt [.r, .r, .r, .r]).e Tryd.prog cadenzaref26_Check_T cadenzaref26_Check_ans (cadenzaref26_Check_t10 sum_t1)) l_1 sum_t1 i_t2) (by kernel_rfl) ?_
    have h8 : (fun (sum_t1 : Int) (i_t2 : Int) => (cadenzaref26_Check_pt [.r, .r, .r, .l, .r, .d, (.lp ((cadenzaref26_Check_pt [.r, .r, .r, .l, .r, .d]).it Tryd.prog cadenzaref26_Check_T cadenzaref26_Check_ans q)), .r, .l, .d, .r]).e Tryd.prog cadenzaref26_Check_T cadenzaref26_Check_ans (cadenzaref26_Check_t8 l_1 sum_t1 i_t2)) = (cadenzaref26_Check_p8 (fun (sum_t1 : Int) (i_t2 : Int) => (cadenzaref26_Check_pt [.r, .r, .r, .l, .r, .d]).it Tryd.prog cadenzaref26_Check_T cadenzaref26_Check_ans q (cadenzaref26_Check_t6 l_1 sum_t1 i_t2)) l_1) := funext fun sum_t1 => funext fun i_t2 => cadenzaref26_Check_e8 ((cadenzaref26_Check_pt [.r, .r, .r, .l, .r, .d]).it Tryd.prog cadenzaref26_Check_T cadenzaref26_Check_ans q) l_1 sum_t1 i_t2
    have h10 : (fun (sum_t1 : Int) => (cadenzaref26_Check_pt [.r, .r, .r, .r]).e Tryd.prog cadenzaref26_Check_T cadenzaref26_Check_ans (cadenzaref26_Check_t10 sum_t1)) = (cadenzaref26_Check_p10) := funext fun sum_t1 => cadenzaref26_Check_e10 sum_t1
    have hq : (fun (sum_t1 : Int) (i_t2 : Int) => (cadenzaref26_Check_pt [.r, .r, .r, .l, .r, .d]).it Tryd.prog cadenzaref26_Check_T cadenzaref26_Check_ans q (cadenzaref26_Check_t6 l_1 sum_t1 i_t2)) = (cadenzaref26_Check_l6 l_1 q) := funext fun sum_t1 => funext fun i_t2 => ih sum_t1 i_t2
    rw [h8, h10, hq]
    rfl
theorem cadenzaref26_Check_e6 (l_1 : List Int) (sum_t1 : Int) (i_t2 : Int) : (cadenzaref26_Check_pt [.r, .r, .r, .l, .r, .d]).e Tryd.prog cadenzaref26_Check_T cadenzaref26_Check_ans (cadenzaref26_Check_t6 l_1 sum_t1 i_t2) = cadenzaref26_Check_p6 l_1 sum_t1 i_t2 := Eq.trans (b := (cadenzaref26_Check_pt [.r, .r, .r, .l, .r, .d]).it Tryd.prog cadenzaref26_Check_T cadenzaref26_Check_ans FUELx (cadenzaref26_Check_t6 l_1 sum_t1 i_t2)) (by kernel_rfl) (Eq.trans (cadenzaref26_Check_i6 l_1 FUELx sum_t1 i_t2) (congrArg (fun q => cadenzaref26_Check_l6 l_1 q sum_t1 i_t2) FUELx_eq))
theorem cadenzaref26_Check_run (x : List Int) : run Tryd.prog cadenzaref26_Check_T cadenzaref26_Check_ans Tryd.f33 cadenzaref26_Check_an cadenzaref26_Check_ps cadenzaref26_Check_rs x = cadenzaref26_Check x := by
  refine Eq.trans (b := cadenzaref26_Check_s0 (fun (l_1 : List Int) (sum_t1 : Int) (i_t2 : Int) => (cadenzaref26_Check_pt [.r, .r, .r, .l, .r, .d]).e Tryd.prog cadenzaref26_Check_T cadenzaref26_Check_ans (cadenzaref26_Check_t6 l_1 sum_t1 i_t2)) x) (by kernel_rfl) ?_
  have h6 : (fun (l_1 : List Int) (sum_t1 : Int) (i_t2 : Int) => (cadenzaref26_Check_pt [.r, .r, .r, .l, .r, .d]).e Tryd.prog cadenzaref26_Check_T cadenzaref26_Check_ans (cadenzaref26_Check_t6 l_1 sum_t1 i_t2)) = (cadenzaref26_Check_p6) := funext fun l_1 => funext fun sum_t1 => funext fun i_t2 => cadenzaref26_Check_e6 l_1 sum_t1 i_t2
  rw [h6]
  rfl
def cadenzaref26_Check_c : Con := ⟨cadenzaref26_Check_ps, cadenzaref26_Check_rs, fun x => cadenzaref26_Check x⟩
theorem cadenzaref26_Check_ok : ConOk Tryd.prog Tryd.gl 33 cadenzaref26_Check_c := con_of_run (T := cadenzaref26_Check_T) Tryd.mixed Tryd.func33 Tryd.ent33 TabOk.nil AnsOk.nil (by kernel_rfl) cadenzaref26_Check_run
def cadenzaref26_Read_ps : List Sh := [.lf (.list (.int .u8)) none, .lf (.int .i64) none]
def cadenzaref26_Read_rs : List Sh := [.lf (.list (.int .i64)) (some 3), .lf (.int .i64) none]
def cadenzaref26_Read_an : An := (.seq .d (.seq .d (.seq .d (.cut [0, 1] [] .d (.seq .d (.cut [6] [] (.seq .d (.blk (.loop [0, 1, 6, 7] [⟨6, [], .own 3 (.int .i64)⟩] .d))) .d))))))
def cadenzaref26_Read_T : Tab := ⟨[(29, cadenzaref01_Of_c), (30, cadenzaref03_Of_c), (33, cadenzaref26_Check_c)], Tryd.gl, false⟩
def cadenzaref26_Read_ans : List (Nat × An) := []
noncomputable def cadenzaref26_Read_pt (l : List (PS (((List Int) × Int)))) : Pt (((List Int) × Int)) := Pt.at (R := ((List Int) × Int)) Tryd.prog cadenzaref26_Read_T cadenzaref26_Read_ans (Pt.root Tryd.prog Tryd.f17 cadenzaref26_Read_an cadenzaref26_Read_rs) l
def cadenzaref26_Read_t8 (x_t2 : List Int) : S := ⟨[(6, .own 0)], [.arr 3 (.int .i64) x_t2], []⟩
def cadenzaref26_Read_t6 (b_1 : List UInt8) (n_2 : Int) (i_t1 : Int) (x_t2 : List Int) : S := ⟨[(0, .val (.list (.int .u8)) b_1), (1, .val (.int .i64) n_2), (6, .own 0), (7, .val (.int .i64) i_t1)], [.arr 3 (.int .i64) x_t2], []⟩
def cadenzaref26_Read_t5 (b_1 : List UInt8) (n_2 : Int) : S := ⟨[(0, .val (.list (.int .u8)) b_1), (1, .val (.int .i64) n_2)], [], []⟩
theorem cadenzaref26_Read_e8 (x_t2 : List Int) : (cadenzaref26_Read_pt [.r, .r, .r, .r, .r, .r]).e Tryd.prog cadenzaref26_Read_T cadenzaref26_Read_ans (cadenzaref26_Read_t8 x_t2) = cadenzaref26_Read_p8 x_t2 := by kernel_rfl
theorem cadenzaref26_Read_i6 (b_1 : List UInt8) (n_2 : Int) : ∀ (q : Nat) (i_t1 : Int) (x_t2 : List Int), (cadenzaref26_Read_pt [.r, .r, .r, .r, .r, .l, .r, .d]).it Tryd.prog cadenzaref26_Read_T cadenzaref26_Read_ans q (cadenzaref26_Read_t6 b_1 n_2 i_t1 x_t2) = cadenzaref26_Read_l6 b_1 n_2 q i_t1 x_t2 := by
  intro q
  induction q with
  | zero => intros; rfl
  | succ q ih =>
    intro i_t1 x_t2
    refine Eq.trans (b := cadenzaref26_Read_s6 (fun (x_t2 : List Int) => (cadenzaref26_Read_pt [.r, .r, .r, .r, .r, .r]).e Tryd.prog cadenzaref26_Read_T cadenzaref26_Read_ans (cadenzaref26_Read_t8 x_t2)) (fun (i_t1 : Int) (x_t2 : List Int) => (cadenzaref26_Read_pt [.r, .r, .r, .r, .r, .l, .r, .d]).it Tryd.prog cadenzaref26_Read_T cadenzaref26_Read_ans q (cadenzaref26_Read_t6 b_1 n_2 i_t1 x_t2)) b_1 n_2 i_t1 x_t2) (by kernel_rfl) ?_
    have h8 : (fun (x_t2 : List Int) => (cadenzaref26_Read_pt [.r, .r, .r, .r, .r, .r]).e Tryd.prog cadenzaref26_Read_T cadenzaref26_Read_ans (cadenzaref26_Read_t8 x_t2)) = (cadenzaref26_Read_p8) := funext fun x_t2 => cadenzaref26_Read_e8 x_t2
    have hq : (fun (i_t1 : Int) (x_t2 : List Int) => (cadenzaref26_Read_pt [.r, .r, .r, .r, .r, .l, .r, .d]).it Tryd.prog cadenzaref26_Read_T cadenzaref26_Read_ans q (cadenzaref26_Read_t6 b_1 n_2 i_t1 x_t2)) = (cadenzaref26_Read_l6 b_1 n_2 q) := funext fun i_t1 => funext fun x_t2 => ih i_t1 x_t2
    rw [h8, hq]
    rfl
theorem cadenzaref26_Read_e6 (b_1 : List UInt8) (n_2 : Int) (i_t1 : Int) (x_t2 : List Int) : (cadenzaref26_Read_pt [.r, .r, .r, .r, .r, .l, .r, .d]).e Tryd.prog cadenzaref26_Read_T cadenzaref26_Read_ans (cadenzaref26_Read_t6 b_1 n_2 i_t1 x_t2) = cadenzaref26_Read_p6 b_1 n_2 i_t1 x_t2 := Eq.trans (b := (cadenzaref26_Read_pt [.r, .r, .r, .r, .r, .l, .r, .d]).it Tryd.prog cadenzaref26_Read_T cadenzaref26_Read_ans FUELx (cadenzaref26_Read_t6 b_1 n_2 i_t1 x_t2)) (by kernel_rfl) (Eq.trans (cadenzaref26_Read_i6 b_1 n_2 FUELx i_t1 x_t2) (congrArg (fun q => cadenzaref26_Read_l6 b_1 n_2 q i_t1 x_t2) FUELx_eq))
theorem cadenzaref26_Read_e5 (b_1 : List UInt8) (n_2 : Int) : (cadenzaref26_Read_pt [.r, .r, .r, .r]).e Tryd.prog cadenzaref26_Read_T cadenzaref26_Read_ans (cadenzaref26_Read_t5 b_1 n_2) = cadenzaref26_Read_p5 b_1 n_2 := by
  refine Eq.trans (b := cadenzaref26_Read_s5 (fun (b_1 : List UInt8) (n_2 : Int) (i_t1 : Int) (x_t2 : List Int) => (cadenzaref26_Read_pt [.r, .r, .r, .r, .r, .l, .r, .d]).e Tryd.prog cadenzaref26_Read_T cadenzaref26_Read_ans (cadenzaref26_Read_t6 b_1 n_2 i_t1 x_t2)) b_1 n_2) (by kernel_rfl) ?_
  have h6 : (fun (b_1 : List UInt8) (n_2 : Int) (i_t1 : Int) (x_t2 : List Int) => (cadenzaref26_Read_pt [.r, .r, .r, .r, .r, .l, .r, .d]).e Tryd.prog cadenzaref26_Read_T cadenzaref26_Read_ans (cadenzaref26_Read_t6 b_1 n_2 i_t1 x_t2)) = (cadenzaref26_Read_p6) := funext fun b_1 => funext fun n_2 => funext fun i_t1 => funext fun x_t2 => cadenzaref26_Read_e6 b_1 n_2 i_t1 x_t2
  rw [h6]
  rfl
theorem cadenzaref26_Read_run (x : List UInt8 × Int) : run Tryd.prog cadenzaref26_Read_T cadenzaref26_Read_ans Tryd.f17 cadenzaref26_Read_an cadenzaref26_Read_ps cadenzaref26_Read_rs x = cadenzaref26_Read x.1 x.2 := by
  refine Eq.trans (b := cadenzaref26_Read_s0 (fun (b_1 : List UInt8) (n_2 : Int) => (cadenzaref26_Read_pt [.r, .r, .r, .r]).e Tryd.prog cadenzaref26_Read_T cadenzaref26_Read_ans (cadenzaref26_Read_t5 b_1 n_2)) x.1 x.2) (by kernel_rfl) ?_
  have h5 : (fun (b_1 : List UInt8) (n_2 : Int) => (cadenzaref26_Read_pt [.r, .r, .r, .r]).e Tryd.prog cadenzaref26_Read_T cadenzaref26_Read_ans (cadenzaref26_Read_t5 b_1 n_2)) = (cadenzaref26_Read_p5) := funext fun b_1 => funext fun n_2 => cadenzaref26_Read_e5 b_1 n_2
  rw [h5]
  rfl
def cadenzaref26_Read_c : Con := ⟨cadenzaref26_Read_ps, cadenzaref26_Read_rs, fun x => cadenzaref26_Read x.1 x.2⟩
theorem cadenzaref26_Read_ok : ConOk Tryd.prog Tryd.gl 17 cadenzaref26_Read_c := con_of_run (T := cadenzaref26_Read_T) Tryd.mixed Tryd.func17 Tryd.ent17 (TabOk.cons cadenzaref01_Of_ok (TabOk.cons cadenzaref03_Of_ok (TabOk.cons cadenzaref26_Check_ok TabOk.nil))) AnsOk.nil (by kernel_rfl) cadenzaref26_Read_run
def cadenzaref35_table_ps : List Sh := [.lf (.list (.int .u8)) none, .lf (.int .i64) none, .agg [.lf (.int .i64) none, .lf (.int .i64) none, .lf (.int .i64) none, .lf (.int .i64) none, .lf (.int .i64) none]]
def cadenzaref35_table_rs : List Sh := [.lf (.list (.int .i64)) (some 3), .lf (.int .i64) none]
def cadenzaref35_table_an : An := .d
def cadenzaref35_table_T : Tab := ⟨[(17, cadenzaref26_Read_c), (18, cadenzaref25_Split_c)], Tryd.gl, false⟩
def cadenzaref35_table_ans : List (Nat × An) := []
theorem cadenzaref35_table_run (x : List UInt8 × Int × Int × Int × Int × Int × Int) : run Tryd.prog cadenzaref35_table_T cadenzaref35_table_ans Tryd.f10 cadenzaref35_table_an cadenzaref35_table_ps cadenzaref35_table_rs x = cadenzaref35_table x.1 x.2.1 x.2.2.1 x.2.2.2.1 x.2.2.2.2.1 x.2.2.2.2.2.1 x.2.2.2.2.2.2 := by kernel_rfl
def cadenzaref35_table_c : Con := ⟨cadenzaref35_table_ps, cadenzaref35_table_rs, fun x => cadenzaref35_table x.1 x.2.1 x.2.2.1 x.2.2.2.1 x.2.2.2.2.1 x.2.2.2.2.2.1 x.2.2.2.2.2.2⟩
theorem cadenzaref35_table_ok : ConOk Tryd.prog Tryd.gl 10 cadenzaref35_table_c := con_of_run (T := cadenzaref35_table_T) Tryd.mixed Tryd.func10 Tryd.ent10 (TabOk.cons cadenzaref26_Read_ok (TabOk.cons cadenzaref25_Split_ok TabOk.nil)) AnsOk.nil (by kernel_rfl) cadenzaref35_table_run
def cadenzaref35_Parts_ps : List Sh := [.lf (.list (.int .u8)) none]
def cadenzaref35_Parts_rs : List Sh := [.agg [.lf (.int .i64) none, .lf (.int .i64) none, .lf (.int .i64) none, .lf (.int .i64) none, .lf (.int .i64) none], .lf (.int .i64) none]
def cadenzaref35_Parts_an : An := (.seq .d (.seq .d (.seq .d (.seq .d (.cut [0, 2, 5, 7] [] .d (.seq .d (.seq .d (.seq .d (.seq .d (.seq .d (.cut [0, 2, 7] [] (.seq .d (.blk (.loop [0, 2, 7, 8, 9] [] .d))) .d)))))))))))
def cadenzaref35_Parts_T : Tab := ⟨[(9, cadenzaref35_first_c), (10, cadenzaref35_table_c)], Tryd.gl, false⟩
def cadenzaref35_Parts_ans : List (Nat × An) := []
noncomputable def cadenzaref35_Parts_pt (l : List (PS ((Int × Int × Int × Int × Int × Int)))) : Pt ((Int × Int × Int × Int × Int × Int)) := Pt.at (R := (Int × Int × Int × Int × Int × Int)) Tryd.prog cadenzaref35_Parts_T cadenzaref35_Parts_ans (Pt.root Tryd.prog Tryd.f6 cadenzaref35_Parts_an cadenzaref35_Parts_rs) l
def cadenzaref35_Parts_t8 (b_1 : List UInt8) (r_2 : Int) (x_t1 : Int) (l_9 : List Int) (x_t3 : Int) : S := ⟨[(0, .val (.list (.int .u8)) b_1), (2, .ptr 0 []), (7, .ptr 1 [])], [.box 25 (.agg [.val (.int .i64) (0 : Int), .val (.int .i64) (0 : Int), .val (.int .i64) (0 : Int), .val (.int .i64) (0 : Int), .val (.int .i64) (0 : Int)]), .box 25 (.agg [.val (.int .i64) r_2, .val (.int .i64) (gadd r_2 (22 : Int)), .val (.int .i64) x_t1, .val (.int .i64) (gadd (gadd x_t1 (gmul (4 : Int) (lenI l_9))) (4 : Int)), .val (.int .i64) x_t3])], []⟩
def cadenzaref35_Parts_t6 (b_1 : List UInt8) (r_2 : Int) (x_t1 : Int) (l_9 : List Int) (i_t2 : Int) (x_t3 : Int) : S := ⟨[(0, .val (.list (.int .u8)) b_1), (2, .ptr 0 []), (7, .ptr 1 []), (8, .own 2), (9, .val (.int .i64) i_t2)], [.box 25 (.agg [.val (.int .i64) (0 : Int), .val (.int .i64) (0 : Int), .val (.int .i64) (0 : Int), .val (.int .i64) (0 : Int), .val (.int .i64) (0 : Int)]), .box 25 (.agg [.val (.int .i64) r_2, .val (.int .i64) (gadd r_2 (22 : Int)), .val (.int .i64) x_t1, .val (.int .i64) (gadd (gadd x_t1 (gmul (4 : Int) (lenI l_9))) (4 : Int)), .val (.int .i64) x_t3]), .arr 3 (.int .i64) l_9], []⟩
def cadenzaref35_Parts_t5 (b_1 : List UInt8) (r_3 : Int) (r_4 : Int) (r_5 : Int) (r_6 : Int) (r_7 : Int) (r_2 : Int) (x_t1 : Int) : S := ⟨[(0, .val (.list (.int .u8)) b_1), (2, .ptr 0 []), (5, .ptr 1 []), (7, .ptr 2 [])], [.box 25 (.agg [.val (.int .i64) (0 : Int), .val (.int .i64) (0 : Int), .val (.int .i64) (0 : Int), .val (.int .i64) (0 : Int), .val (.int .i64) (0 : Int)]), .box 32 (.agg [.val (.int .i64) r_3, .val (.int .i64) r_4, .val (.int .i64) r_5, .val (.int .i64) r_6, .val (.int .i64) r_7]), .box 25 (.agg [.val (.int .i64) r_2, .val (.int .i64) (gadd r_2 (22 : Int)), .val (.int .i64) x_t1, .val (.int .i64) (0 : Int), .val (.int .i64) (0 : Int)])], []⟩
theorem cadenzaref35_Parts_e8 (b_1 : List UInt8) (r_2 : Int) (x_t1 : Int) (l_9 : List Int) (x_t3 : Int) : (cadenzaref35_Parts_pt [.r, .r, .r, .r, .r, .r, .r, .r, .r, .r, .r]).e Tryd.prog cadenzaref35_Parts_T cadenzaref35_Parts_ans (cadenzaref35_Parts_t8 b_1 r_2 x_t1 l_9 x_t3) = cadenzaref35_Parts_p8 b_1 r_2 x_t1 l_9 x_t3 := by kernel_rfl
theorem cadenzaref35_Parts_i6 (b_1 : List UInt8) (r_2 : Int) (x_t1 : Int) (l_9 : List Int) : ∀ (q : Nat) (i_t2 : Int) (x_t3 : Int), (cadenzaref35_Parts_pt [.r, .r, .r, .r, .r, .r, .r, .r, .r, .r, .l, .r, .d]).it Tryd.prog cadenzaref35_Parts_T cadenzaref35_Parts_ans q (cadenzaref35_Parts_t6 b_1 r_2 x_t1 l_9 i_t2 x_t3) = cadenzaref35_Parts_l6 b_1 r_2 x_t1 l_9 q i_t2 x_t3 := by
  intro q
  induction q with
  | zero => intros; rfl
  | succ q ih =>
    intro i_t2 x_t3
    refine Eq.trans (b := cadenzaref35_Parts_s6 (fun (b_1 : List UInt8) (r_2 : Int) (x_t1 : Int) (l_9 : List Int) (x_t3 : Int) => (cadenzaref35_Parts_pt [.r, .r, .r, .r, .r, .r, .r, .r, .r, .r, .r]).e Tryd.prog cadenzaref35_Parts_T cadenzaref35_Parts_ans (cadenzaref35_Parts_t8 b_1 r_2 x_t1 l_9 x_t3)) (fun (i_t2 : Int) (x_t3 : Int) => (cadenzaref35_Parts_pt [.r, .r, .r, .r, .r, .r, .r, .r, .r, .r, .l, .r, .d]).it Tryd.prog cadenzaref35_Parts_T cadenzaref35_Parts_ans q (cadenzaref35_Parts_t6 b_1 r_2 x_t1 l_9 i_t2 x_t3)) b_1 r_2 x_t1 l_9 i_t2 x_t3) (by kernel_rfl) ?_
    have h8 : (fun (b_1 : List UInt8) (r_2 : Int) (x_t1 : Int) (l_9 : List Int) (x_t3 : Int) => (cadenzaref35_Parts_pt [.r, .r, .r, .r, .r, .r, .r, .r, .r, .r, .r]).e Tryd.prog cadenzaref35_Parts_T cadenzaref35_Parts_ans (cadenzaref35_Parts_t8 b_1 r_2 x_t1 l_9 x_t3)) = (cadenzaref35_Parts_p8) := funext fun b_1 => funext fun r_2 => funext fun x_t1 => funext fun l_9 => funext fun x_t3 => cadenzaref35_Parts_e8 b_1 r_2 x_t1 l_9 x_t3
    have hq : (fun (i_t2 : Int) (x_t3 : Int) => (cadenzaref35_Parts_pt [.r, .r, .r, .r, .r, .r, .r, .r, .r, .r, .l, .r, .d]).it Tryd.prog cadenzaref35_Parts_T cadenzaref35_Parts_ans q (cadenzaref35_Parts_t6 b_1 r_2 x_t1 l_9 i_t2 x_t3)) = (cadenzaref35_Parts_l6 b_1 r_2 x_t1 l_9 q) := funext fun i_t2 => funext fun x_t3 => ih i_t2 x_t3
    rw [h8, hq]
    rfl
theorem cadenzaref35_Parts_e6 (b_1 : List UInt8) (r_2 : Int) (x_t1 : Int) (l_9 : List Int) (i_t2 : Int) (x_t3 : Int) : (cadenzaref35_Parts_pt [.r, .r, .r, .r, .r, .r, .r, .r, .r, .r, .l, .r, .d]).e Tryd.prog cadenzaref35_Parts_T cadenzaref35_Parts_ans (cadenzaref35_Parts_t6 b_1 r_2 x_t1 l_9 i_t2 x_t3) = cadenzaref35_Parts_p6 b_1 r_2 x_t1 l_9 i_t2 x_t3 := Eq.trans (b := (cadenzaref35_Parts_pt [.r, .r, .r, .r, .r, .r, .r, .r, .r, .r, .l, .r, .d]).it Tryd.prog cadenzaref35_Parts_T cadenzaref35_Parts_ans FUELx (cadenzaref35_Parts_t6 b_1 r_2 x_t1 l_9 i_t2 x_t3)) (by kernel_rfl) (Eq.trans (cadenzaref35_Parts_i6 b_1 r_2 x_t1 l_9 FUELx i_t2 x_t3) (congrArg (fun q => cadenzaref35_Parts_l6 b_1 r_2 x_t1 l_9 q i_t2 x_t3) FUELx_eq))
theorem cadenzaref35_Parts_e5 (b_1 : List UInt8) (r_3 : Int) (r_4 : Int) (r_5 : Int) (r_6 : Int) (r_7 : Int) (r_2 : Int) (x_t1 : Int) : (cadenzaref35_Parts_pt [.r, .r, .r, .r, .r]).e Tryd.prog cadenzaref35_Parts_T cadenzaref35_Parts_ans (cadenzaref35_Parts_t5 b_1 r_3 r_4 r_5 r_6 r_7 r_2 x_t1) = cadenzaref35_Parts_p5 b_1 r_3 r_4 r_5 r_6 r_7 r_2 x_t1 := by
  refine Eq.trans (b := cadenzaref35_Parts_s5 (fun (b_1 : List UInt8) (r_2 : Int) (x_t1 : Int) (l_9 : List Int) (i_t2 : Int) (x_t3 : Int) => (cadenzaref35_Parts_pt [.r, .r, .r, .r, .r, .r, .r, .r, .r, .r, .l, .r, .d]).e Tryd.prog cadenzaref35_Parts_T cadenzaref35_Parts_ans (cadenzaref35_Parts_t6 b_1 r_2 x_t1 l_9 i_t2 x_t3)) b_1 r_3 r_4 r_5 r_6 r_7 r_2 x_t1) (by kernel_rfl) ?_
  have h6 : (fun (b_1 : List UInt8) (r_2 : Int) (x_t1 : Int) (l_9 : List Int) (i_t2 : Int) (x_t3 : Int) => (cadenzaref35_Parts_pt [.r, .r, .r, .r, .r, .r, .r, .r, .r, .r, .l, .r, .d]).e Tryd.prog cadenzaref35_Parts_T cadenzaref35_Parts_ans (cadenzaref35_Parts_t6 b_1 r_2 x_t1 l_9 i_t2 x_t3)) = (cadenzaref35_Parts_p6) := funext fun b_1 => funext fun r_2 => funext fun x_t1 => funext fun l_9 => funext fun i_t2 => funext fun x_t3 => cadenzaref35_Parts_e6 b_1 r_2 x_t1 l_9 i_t2 x_t3
  rw [h6]
  rfl
theorem cadenzaref35_Parts_run (x : List UInt8) : run Tryd.prog cadenzaref35_Parts_T cadenzaref35_Parts_ans Tryd.f6 cadenzaref35_Parts_an cadenzaref35_Parts_ps cadenzaref35_Parts_rs x = cadenzaref35_Parts x := by
  refine Eq.trans (b := cadenzaref35_Parts_s0 (fun (b_1 : List UInt8) (r_3 : Int) (r_4 : Int) (r_5 : Int) (r_6 : Int) (r_7 : Int) (r_2 : Int) (x_t1 : Int) => (cadenzaref35_Parts_pt [.r, .r, .r, .r, .r]).e Tryd.prog cadenzaref35_Parts_T cadenzaref35_Parts_ans (cadenzaref35_Parts_t5 b_1 r_3 r_4 r_5 r_6 r_7 r_2 x_t1)) x) (by kernel_rfl) ?_
  have h5 : (fun (b_1 : List UInt8) (r_3 : Int) (r_4 : Int) (r_5 : Int) (r_6 : Int) (r_7 : Int) (r_2 : Int) (x_t1 : Int) => (cadenzaref35_Parts_pt [.r, .r, .r, .r, .r]).e Tryd.prog cadenzaref35_Parts_T cadenzaref35_Parts_ans (cadenzaref35_Parts_t5 b_1 r_3 r_4 r_5 r_6 r_7 r_2 x_t1)) = (cadenzaref35_Parts_p5) := funext fun b_1 => funext fun r_3 => funext fun r_4 => funext fun r_5 => funext fun r_6 => funext fun r_7 => funext fun r_2 => funext fun x_t1 => cadenzaref35_Parts_e5 b_1 r_3 r_4 r_5 r_6 r_7 r_2 x_t1
  rw [h5]
  rfl
def cadenzaref35_Parts_c : Con := ⟨cadenzaref35_Parts_ps, cadenzaref35_Parts_rs, fun x => cadenzaref35_Parts x⟩
theorem cadenzaref35_Parts_ok : ConOk Tryd.prog Tryd.gl 6 cadenzaref35_Parts_c := con_of_run (T := cadenzaref35_Parts_T) Tryd.mixed Tryd.func6 Tryd.ent6 (TabOk.cons cadenzaref35_first_ok (TabOk.cons cadenzaref35_table_ok TabOk.nil)) AnsOk.nil (by kernel_rfl) cadenzaref35_Parts_run
def cadenzalaw35_ValidParts_ps : List Sh := [.lf (.list (.int .u8)) none]
def cadenzalaw35_ValidParts_rs : List Sh := [.lf .bool none]
def cadenzalaw35_ValidParts_an : An := .d
def cadenzalaw35_ValidParts_T : Tab := ⟨[(4, cadenzaref35_Long_c), (5, valid_Parts_c), (6, cadenzaref35_Parts_c)], Tryd.gl_0, false⟩
def cadenzalaw35_ValidParts_ans : List (Nat × An) := []
theorem cadenzalaw35_ValidParts_run (x : List UInt8) : run Tryd.prog cadenzalaw35_ValidParts_T cadenzalaw35_ValidParts_ans Tryd.f3 cadenzalaw35_ValidParts_an cadenzalaw35_ValidParts_ps cadenzalaw35_ValidParts_rs x = cadenzalaw35_ValidParts x := by kernel_rfl
def cadenzalaw35_ValidParts_c : Con := ⟨cadenzalaw35_ValidParts_ps, cadenzalaw35_ValidParts_rs, fun x => cadenzalaw35_ValidParts x⟩
theorem cadenzalaw35_ValidParts_ok : ConOk Tryd.prog Tryd.gl_0 3 cadenzalaw35_ValidParts_c := con_of_run (T := cadenzalaw35_ValidParts_T) Tryd.mixed Tryd.func3 Tryd.ent3 (TabOk.cons (cadenzaref35_Long_ok.mono (.cons _ .slnil)) (TabOk.cons valid_Parts_ok (TabOk.cons (cadenzaref35_Parts_ok.mono (.cons _ .slnil)) TabOk.nil))) AnsOk.nil (by kernel_rfl) cadenzalaw35_ValidParts_run
end Go.Proofs.YticiaelockkfkaaDoor
