/- Proved for a statement of this seat: a part of the proof (see the text that ends in Proof). -/
import Derived.Test.YtbacpdojepghaaaG1Facts
import Derived.Test.YtbacpdojepghaaaG1Pure
import Derived.Test.YtbacpdojepghaaaLvNil
set_option linter.unusedVariables false
set_option maxRecDepth 10000
namespace Go.Proofs.Ytbacpdojepghaaa
open Go Go.Lv
theorem bytes_Clone_ok (w0 : World) (p : Option Addr) (l c : Nat) (b : List UInt8) (R : Reg) (h : Rd R w0 1 (.slice p l c) (encL b)) (y : List UInt8) (hp : bytes_Clone b = some y) :
  Calls Try.prog 8 [(Value.slice p l c)].toArray w0 fun e w' => ∃ (p1 : Option Addr) (l1 c1 : Nat), e = .returned (packRes [(Value.slice p1 l1 c1)]) ∧ Fr w0 w' [] [.own 1 5 (.slice p1 l1 c1) (encL y)] := by
  unfold bytes_Clone at hp
  refine calls_of_W (vs := [(Value.slice p l c)]) Try.func8 rfl Try.ntmps8 rfl rfl ?_
  have hs := St.start w0
  have hs := hs.addRd h.start
  obtain ⟨A, hA⟩ : ∃ A : Reg, A = fun b => b < w0.heap.size := ⟨_, rfl⟩
  rw [← hA] at hs
  clear hA
  obtain ⟨w, hw⟩ : ∃ w : World, w = w0 := ⟨_, rfl⟩
  have hs : St A w ([.rd R 1 (.slice p l c) (encL b), .old (fun _ => False) w0]) ([]) := hw ▸ hs
  refine cast_world hw ?_
  clear hw
  refine W.seq ?_
  refine W.region ?_
  refine WL.x rfl (X.assign (rfl : _ = (Value.slice none 0 0))) ?_
  refine WL.nil ?_
  refine W.seq ?_
  refine W.seq ?_
  refine W.region ?_
  refine WL.x rfl (X.move (rfl : _ = (Value.slice p l c))) ?_
  refine WL.x rfl (X.bin (rfl : _ = (Value.slice p l c)) (rfl : _ = (Value.slice none 0 0)) (Bin.nil_eql Try.u22 _ _ _)) ?_
  refine WL.nil ?_
  refine W.cond (rfl : _ = Value.bool p.isNone) (fun hc => ?_) (fun hc => ?_)
  · obtain rfl : p = none := by simpa using hc
    have hb := h.none_nil
    have hb : b = [] := by simpa [encL] using hb
    subst hb
    have hy : y = [] := by simpa [appI] using hp.symm
    subst hy
    refine W.seq ?_
    refine W.region ?_
    refine WL.x rfl (X.assign (rfl : _ = (Value.slice none 0 0))) ?_
    refine WL.nil ?_
    refine W.ret ?_
    have hs := hs.addNil 1 5
    refine ⟨.inl rfl, [(Value.slice none 0 0)], ⟨rfl, trivial⟩, none, 0, 0, rfl, ?_⟩
    exact fr_own hs (i := 1) rfl (j := 0) rfl
  · refine W.skip ?_
    refine W.seq ?_
    refine W.region ?_
    refine WL.bsI ([] : List UInt8) Try.u22 Try.el5 hs rfl rfl rfl rfl (fun p_1 l_1 c_1 w hs => ?_)
    refine WL.x rfl (X.move (rfl : _ = (Value.slice p l c))) ?_
    refine WL.appO (l := ([] : List UInt8)) (m := b) (L' := fun p_4 l_4 c_4 => [.own 1 5 (.slice p_4 l_4 c_4) (encL y)]) Try.u22 ⟨_, Try.u22⟩ Try.el5 hs (i := 0) rfl rfl (rfl : _ = (Value.slice p_1 l_1 c_1)) (rfl : _ = (Value.slice p l c)) (hs.rd (j := 0) rfl) hp (fun _ _ _ => rfl) (fun p_4 l_4 c_4 w hs => ?_)
    refine WL.x rfl (X.assign (rfl : _ = (Value.slice p_4 l_4 c_4))) ?_
    refine WL.nil ?_
    refine W.ret ?_
    refine ⟨.inl rfl, [(Value.slice p_4 l_4 c_4)], ⟨rfl, trivial⟩, p_4, l_4, c_4, rfl, ?_⟩
    exact fr_own hs (i := 1) rfl (j := 0) rfl
end Go.Proofs.Ytbacpdojepghaaa
