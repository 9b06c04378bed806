/- A part of a proof (see the text that ends in Proof). No conditions. -/
import Derived.Test.YtaokmgopghpikaaGreatDoorPnPA
import Derived.KernelRfl
set_option linter.unusedVariables false
set_option linter.unusedSimpArgs false
namespace Go.Lv
end Go.Lv
namespace Go.Pl
open Go Go.Lv
set_option maxRecDepth 100000 in
theorem law_PushdecNames:Fh=some true:=by
 unfold Fh
 try simp only[KKf_eq]
 kernel_rfl
end Go.Pl
