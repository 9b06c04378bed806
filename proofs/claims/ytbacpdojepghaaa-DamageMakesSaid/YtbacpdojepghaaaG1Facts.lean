/- Proved for a statement of this seat: a part of the proof (see the text that ends in Proof). -/
import Derived.Test.YtbacpdojepghaaaLvGen
import Derived.Test.YtbacpdojepghaaaProg
import Derived.KernelRfl
set_option linter.unusedVariables false
namespace Go.Proofs.Ytbacpdojepghaaa
open Go Go.Lv
theorem Try.el5 : ElemOk Try.prog 5 1 := ElemOk.mk' (b := 1) (Value.int .u8 0) (by kernel_rfl) (by decide) (by decide) (by decide)
theorem Try.mixed : Try.prog.follows .mixedOrders = true := by kernel_rfl
theorem Try.pl22 : Plain Try.prog 22 := UndIs.plain (by kernel_rfl)
theorem Try.pl4 : Plain Try.prog 4 := UndIs.plain (by kernel_rfl)
theorem Try.pl5 : Plain Try.prog 5 := UndIs.plain (by kernel_rfl)
theorem Try.sz22 : SizeIs Try.prog 22 1 := SizeIs.mk (by kernel_rfl)
theorem Try.sz4 : SizeIs Try.prog 4 1 := SizeIs.mk (by kernel_rfl)
theorem Try.sz5 : SizeIs Try.prog 5 1 := SizeIs.mk (by kernel_rfl)
theorem Try.u22 : Try.prog.underlying 22 = some (.slice 5) := by kernel_rfl
theorem Try.u5 : Try.prog.underlying 5 = some (.int .u8) := by kernel_rfl
theorem Try.u9 : Try.prog.underlying 9 = some (.string) := by kernel_rfl
theorem Try.ze22 : ∃ i, Try.prog.info? 22 = some i ∧ i.zero = some (Value.slice none 0 0) := ZeroIs.mk (by kernel_rfl)
theorem Try.ze4 : ∃ i, Try.prog.info? 4 = some i ∧ i.zero = some (Value.bool false) := ZeroIs.mk (by kernel_rfl)
theorem Try.ent4 : Ent Try.prog 4 := Ent.mk Try.func4 (by kernel_rfl) rfl
theorem Try.ent5 : Ent Try.prog 5 := Ent.mk Try.func5 (by kernel_rfl) rfl
theorem Try.ent6 : Ent Try.prog 6 := Ent.mk Try.func6 (by kernel_rfl) rfl
theorem Try.ent7 : Ent Try.prog 7 := Ent.mk Try.func7 (by kernel_rfl) rfl
theorem Try.ent8 : Ent Try.prog 8 := Ent.mk Try.func8 (by kernel_rfl) rfl
theorem Try.ent9 : Ent Try.prog 9 := Ent.mk Try.func9 (by kernel_rfl) rfl
end Go.Proofs.Ytbacpdojepghaaa
