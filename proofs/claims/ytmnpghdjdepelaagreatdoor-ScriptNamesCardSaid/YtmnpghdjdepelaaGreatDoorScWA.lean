/- A part of a proof (see the text that ends in Proof). No conditions. -/
import Derived.Test.YtmnpghdjdepelaaGreatDoorScPA
import Derived.KernelRfl
set_option linter.unusedVariables false
set_option linter.unusedSimpArgs false
namespace Go.Lv
end Go.Lv
namespace Go.Pl
open Go Go.Lv
set_option maxRecDepth 100000 in
theorem law_ScriptNames:Jl=some true:=by kernel_rfl
end Go.Pl
