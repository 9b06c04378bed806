/- A part of a proof (see the text that ends in Proof). No conditions. -/
import Derived.Test.YtniihmolajmfcaaGreatDoorCnPA
import Derived.KernelRfl
set_option linter.unusedVariables false
set_option linter.unusedSimpArgs false
namespace Go.Lv
end Go.Lv
namespace Go.Pl
open Go Go.Lv
set_option maxRecDepth 100000 in
theorem wN(j:Bool->Option Bool):Dv j=j true:=by
 unfold Dv;simp only[vD];kernel_rfl
set_option maxRecDepth 100000 in
theorem vZ(j:Bool->Bool->Bool->LB->Int->Int->LB->Int->Option Bool):Cp j true (List.replicate 65 112)=j true true true [] 0 12 [] 0:=by
 unfold Cp;simp only[vD];kernel_rfl
set_option maxRecDepth 100000 in
theorem Aic:Jq=some true:=by
 unfold Jq;simp only[vD];kernel_rfl
set_option maxRecDepth 100000 in
theorem vU:Fm true true true [] 0 12 (List.replicate 41 10)=some true:=by
 unfold Fm;simp only[vD,Aic];kernel_rfl
theorem y?:Gb true [] 0=Je true (List.replicate 65 112):=by kernel_rfl
theorem vM:Dn true true true [] 0 12 [] 0=Fs true true true [] 0 12 (List.replicate 41 10):=by kernel_rfl
theorem law_ConsoleNames:Hb=some true:=by
 unfold Hb;rw[wN]
 show Gb true [] 0=some true;rw[y?]
 show Cp Dn true (List.replicate 65 112)=some true;rw[vZ,vM];exact vU
end Go.Pl
