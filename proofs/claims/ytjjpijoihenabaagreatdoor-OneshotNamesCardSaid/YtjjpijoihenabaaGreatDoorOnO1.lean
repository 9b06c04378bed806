/- A part of a proof (see the text that ends in Proof). No conditions. -/
import Derived.Test.YtjjpijoihenabaaGreatDoorOnO0
set_option linter.unusedVariables false
set_option linter.unusedSimpArgs false
set_option maxRecDepth 10000
namespace Go.Proofs.YtjjpijoihenabaaGreatDoor
open Go Go.Lv Go.Pl Go.Rx Go.Rx.PS
noncomputable section
open Go.Proofs.Tryz
namespace F3
abbrev R_:=Bool
def H:=hd_ [] [Sz] (.q (.q (.q (.q (.q (.q (.q (.cut [1,4,5,6,8,9,10] [] .d .d)))))))) [⟨(4,F4.k.1.2.seal),F4.k.2.seal⟩,⟨(5,F5.k.1.2.seal),F5.k.2.seal⟩,⟨(6,F6.k.1.2.seal),F6.k.2.seal⟩,⟨(7,F7.k.1.2.seal),F7.k.2.seal⟩,⟨(8,F8.k.1.2.seal),F8.k.2.seal⟩,⟨(9,F9.k.1.2.seal),F9.k.2.seal⟩,⟨(10,F10.k.1.2.seal),F10.k.2.seal⟩,⟨(11,F11.k.1.2.seal),F11.k.2.seal⟩,⟨(12,F12.k.1.2.seal),F12.k.2.seal⟩,⟨(13,F13.k.1.2.seal),F13.k.2.seal⟩,⟨(14,F14.k.1.2.seal),F14.k.2.seal⟩] f3
def x2(a:LB)(f h k m:Int)(n b:LB):Option R_:=H.e P_ [r,r,r,r,r,r,r,r] ⟨[(1,vs a),(4,vi f),(5,.own 0),(6,vi h),(8,vi k),(9,.own 1),(10,vi m)],[Ab 5 n,Ab 5 b],[]⟩
theorem e2:x2=Oh:=B3
def k:KC_:=kk_ 3 H (λ_=>Mb) func3 (λx=>Eq.trans (b:=Oo x2) B3 (by simp only[e2]<;>rfl))
end F3
end
end Go.Proofs.YtjjpijoihenabaaGreatDoor
