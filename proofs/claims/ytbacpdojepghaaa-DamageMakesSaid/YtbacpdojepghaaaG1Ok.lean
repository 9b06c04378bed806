/- Proved for a statement of this seat: a part of the proof (see the text that ends in Proof). -/
import Derived.Test.YtbacpdojepghaaaG1Facts
import Derived.Test.YtbacpdojepghaaaG1Pure
import Derived.Test.YtbacpdojepghaaaG1Hand
set_option linter.unusedVariables false
set_option maxRecDepth 10000
namespace Go.Proofs.Ytbacpdojepghaaa
open Go Go.Lv
theorem damage_Flip_ok (w0 : World) (p_2 : Option Addr) (l_3 c_4 : Nat) (b_1 : List UInt8) (R_5 : Reg) (h_6 : Rd R_5 w0 1 (.slice p_2 l_3 c_4) (encL b_1)) (at_8 : Int) (by_9 : UInt8) (y : (List UInt8) × Int) (hp : damage_Flip b_1 at_8 by_9 = some y) :
  Calls Try.prog 4 [(Value.slice p_2 l_3 c_4), (iv (at_8 : Int)), (iv (by_9 : UInt8))].toArray w0 fun e w' => ∃ (p1 : Option Addr) (l1 c1 : Nat), e = .returned (packRes [(Value.slice p1 l1 c1), (iv y.2)]) ∧ Fr w0 w' [] [.own 1 5 (.slice p1 l1 c1) (encL y.1)] := by
  unfold damage_Flip at hp
  refine calls_of_W (vs := [(Value.slice p_2 l_3 c_4), (iv (at_8 : Int)), (iv (by_9 : UInt8))]) Try.func4 rfl Try.ntmps4 rfl rfl ?_
  have hs := St.start w0
  have hs := hs.addRd h_6.start
  obtain ⟨A, hA⟩ : ∃ A : Reg, A = fun b => b < w0.heap.size := ⟨_, rfl⟩
  rw [← hA] at hs
  clear hA
  obtain ⟨w, hw⟩ : ∃ w : World, w = w0 := ⟨_, rfl⟩
  have hs : St A w ([.rd R_5 1 (.slice p_2 l_3 c_4) (encL b_1), .old (fun _ => False) w0]) ([]) := hw ▸ hs
  refine cast_world hw ?_
  clear hw
  refine W.seq ?_
  refine W.region ?_
  refine WL.x rfl (X.assign (rfl : _ = (Value.slice none 0 0))) ?_
  refine WL.x rfl (X.assign (rfl : _ = (iv (0 : Int)))) ?_
  refine WL.nil ?_
  refine W.seq ?_
  refine W.seq ?_
  refine W.region ?_
  refine WL.x rfl (X.move (rfl : _ = (iv (at_8 : Int)))) ?_
  refine WL.x rfl (X.bin (rfl : _ = (iv (at_8 : Int))) (rfl : _ = (iv (0 : Int))) (Bin.lss _ _)) ?_
  refine WL.x rfl (X.move (rfl : _ = (Value.bool ((glt at_8 (0 : Int)))))) ?_
  refine WL.gx rfl (rfl : _ = (Value.bool ((glt at_8 (0 : Int))))) rfl (fun hg => X.move (rfl : _ = (iv (at_8 : Int)))) ?_
  refine WL.gx rfl (rfl : _ = (Value.bool ((glt at_8 (0 : Int))))) rfl (fun hg => X.move (rfl : _ = (Value.slice p_2 l_3 c_4))) ?_
  refine WL.gx rfl (rfl : _ = (Value.bool ((glt at_8 (0 : Int))))) rfl (fun hg => X.lenR Try.u22 hs (j := 0) rfl (gv_on hg : _ = (Value.slice p_2 l_3 c_4))) ?_
  refine WL.gx rfl (rfl : _ = (Value.bool ((glt at_8 (0 : Int))))) rfl (fun hg => X.bin (gv_on hg : _ = (iv (at_8 : Int))) (gv_on hg : _ = (iv ((lenI b_1) : Int))) (Bin.geq _ _)) ?_
  refine WL.x rfl (X.pick_or (rfl : _ = (Value.bool ((glt at_8 (0 : Int))))) (rfl : _ = (Value.bool (true))) (rfl : _ = (gv ((glt at_8 (0 : Int))) false (Value.bool ((gge at_8 (lenI b_1))))))) ?_
  refine WL.x rfl (X.move (rfl : _ = (Value.bool (((glt at_8 (0 : Int)) || (gge at_8 (lenI b_1))))))) ?_
  refine WL.gx rfl (rfl : _ = (Value.bool (((glt at_8 (0 : Int)) || (gge at_8 (lenI b_1)))))) rfl (fun hg => X.move (rfl : _ = (iv (by_9 : UInt8)))) ?_
  refine WL.gx rfl (rfl : _ = (Value.bool (((glt at_8 (0 : Int)) || (gge at_8 (lenI b_1)))))) rfl (fun hg => X.bin (gv_on hg : _ = (iv (by_9 : UInt8))) (rfl : _ = (iv (0 : UInt8))) (Bin.eql _ _)) ?_
  refine WL.x rfl (X.pick_or (rfl : _ = (Value.bool (((glt at_8 (0 : Int)) || (gge at_8 (lenI b_1)))))) (rfl : _ = (Value.bool (true))) (rfl : _ = (gv (((glt at_8 (0 : Int)) || (gge at_8 (lenI b_1)))) false (Value.bool ((geq by_9 (0 : UInt8))))))) ?_
  refine WL.nil ?_
  refine W.condP hp (rfl : _ = (Value.bool ((((glt at_8 (0 : Int)) || (gge at_8 (lenI b_1))) || (geq by_9 (0 : UInt8)))))) (fun hc hp => ?_) (fun hc hp => ?_)
  · refine W.seq ?_
    refine W.region ?_
    refine WL.x rfl (X.assign (rfl : _ = (Value.slice none 0 0))) ?_
    refine WL.x rfl (X.assign (rfl : _ = (iv (2 : Int)))) ?_
    refine WL.nil ?_
    refine W.ret ?_
    have hs := hs.addNil 1 5
    cases hp
    refine ⟨.inl rfl, [(Value.slice none 0 0), (iv (2 : Int))], ⟨rfl, rfl, trivial⟩, none, 0, 0, rfl, ?_⟩
    exact fr_own hs (i := 1) rfl (j := 0) rfl
  · refine W.skip ?_
    refine W.seq ?_
    refine W.region ?_
    refine WL.x rfl (X.move (rfl : _ = (Value.slice p_2 l_3 c_4))) ?_
    obtain ⟨l_23, hq_28, hp⟩ := bind_some hp
    refine WL.e rfl (X.call Try.ent8 (rfl : _ = [(Value.slice p_2 l_3 c_4)])) (bytes_Clone_ok _ p_2 l_3 c_4 b_1 _ ((hs.rdT (j := 0) rfl)) l_23 hq_28) ?_
    rintro _ w ⟨p_24, l_25, c_26, rfl, hfr⟩
    refine ⟨_, rfl, ?_⟩
    obtain ⟨_, hs⟩ := hs.call hfr
    have hs : St _ _ ([.rd R_5 1 (.slice p_2 l_3 c_4) (encL b_1), .old (fun _ => False) w0]) ([.own 1 5 (.slice p_24 l_25 c_26) (encL l_23)]) := hs
    refine WL.x rfl (X.assign (rfl : _ = (Value.slice p_24 l_25 c_26))) ?_
    refine WL.nil ?_
    refine W.seq ?_
    refine W.region ?_
    refine WL.x rfl (X.move (rfl : _ = (Value.slice p_24 l_25 c_26))) ?_
    refine WL.x rfl (X.move (rfl : _ = (iv (at_8 : Int)))) ?_
    obtain ⟨c_29, hq_30, hp⟩ := bind_some hp
    obtain ⟨b_31, he_32, hs2⟩ := hs.idxO (L' := fun b_31 => [.at_ b_31 1 5 l_25 c_26 (encL l_23)]) (j := 0) rfl hq_30 (fun _ => rfl)
    replace hs := hs2; clear hs2
    refine WL.x rfl (X.idxA Try.u22 Try.sz5 hs (j := 0) rfl hq_30 he_32 (rfl : _ = (Value.slice p_24 l_25 c_26)) (rfl : _ = (iv (at_8 : Int)))) ?_
    refine WL.x rfl (X.loadA hs (j := 0) rfl Try.pl5 hq_30 (rfl : _ = (Value.pointer (some ⟨b_31, (Int.toNat at_8), none⟩)))) ?_
    refine WL.x rfl (X.move (rfl : _ = (iv (by_9 : UInt8)))) ?_
    refine WL.x rfl (X.bin (rfl : _ = (iv (c_29 : UInt8))) (rfl : _ = (iv (by_9 : UInt8))) (Bin.xor _ _)) ?_
    refine WL.x rfl (X.idxA Try.u22 Try.sz5 hs (j := 0) rfl hq_30 he_32 (rfl : _ = (Value.slice p_24 l_25 c_26)) (rfl : _ = (iv (at_8 : Int)))) ?_
    obtain ⟨l_34, hq_33, hp⟩ := bind_some hp
    refine WL.storeA hs (j := 0) rfl Try.sz5 (rfl : _ = (Value.pointer (some ⟨b_31, (Int.toNat at_8), none⟩))) (rfl : _ = (iv ((gxor c_29 by_9) : UInt8))) hq_33 rfl (fun w hs => ?_)
    refine WL.nil ?_
    refine W.seq ?_
    refine W.region ?_
    refine WL.x rfl (X.move (rfl : _ = (Value.slice p_24 l_25 c_26))) ?_
    refine WL.x rfl (X.assign (rfl : _ = (Value.slice p_24 l_25 c_26))) ?_
    refine WL.x rfl (X.assign (rfl : _ = (iv (0 : Int)))) ?_
    refine WL.nil ?_
    refine W.ret ?_
    have hs := hs.hideP he_32 (i := 0) rfl
    have hs : St _ _ ([.rd R_5 1 (.slice p_2 l_3 c_4) (encL b_1), .old (fun _ => False) w0]) ([.own 1 5 (.slice p_24 l_25 c_26) (encL l_34)]) := hs
    cases hp
    refine ⟨.inl rfl, [(Value.slice p_24 l_25 c_26), (iv (0 : Int))], ⟨rfl, rfl, trivial⟩, p_24, l_25, c_26, rfl, ?_⟩
    exact fr_own hs (i := 1) rfl (j := 0) rfl

theorem cadenzaref44_Flip_ok (w0 : World) (p_2 : Option Addr) (l_3 c_4 : Nat) (b_1 : List UInt8) (R_5 : Reg) (h_6 : Rd R_5 w0 1 (.slice p_2 l_3 c_4) (encL b_1)) (at_8 : Int) (by_9 : UInt8) (y : (List UInt8) × Int) (hp : cadenzaref44_Flip b_1 at_8 by_9 = some y) :
  Calls Try.prog 5 [(Value.slice p_2 l_3 c_4), (iv (at_8 : Int)), (iv (by_9 : UInt8))].toArray w0 fun e w' => ∃ (p1 : Option Addr) (l1 c1 : Nat), e = .returned (packRes [(Value.slice p1 l1 c1), (iv y.2)]) ∧ Fr w0 w' [] [.own 1 5 (.slice p1 l1 c1) (encL y.1)] := by
  unfold cadenzaref44_Flip at hp
  refine calls_of_W (vs := [(Value.slice p_2 l_3 c_4), (iv (at_8 : Int)), (iv (by_9 : UInt8))]) Try.func5 rfl Try.ntmps5 rfl rfl ?_
  have hs := St.start w0
  have hs := hs.addRd h_6.start
  obtain ⟨A, hA⟩ : ∃ A : Reg, A = fun b => b < w0.heap.size := ⟨_, rfl⟩
  rw [← hA] at hs
  clear hA
  obtain ⟨w, hw⟩ : ∃ w : World, w = w0 := ⟨_, rfl⟩
  have hs : St A w ([.rd R_5 1 (.slice p_2 l_3 c_4) (encL b_1), .old (fun _ => False) w0]) ([]) := hw ▸ hs
  refine cast_world hw ?_
  clear hw
  refine W.seq ?_
  refine W.region ?_
  refine WL.x rfl (X.assign (rfl : _ = (Value.slice none 0 0))) ?_
  refine WL.x rfl (X.assign (rfl : _ = (iv (0 : Int)))) ?_
  refine WL.nil ?_
  refine W.seq ?_
  refine W.seq ?_
  refine W.region ?_
  refine WL.x rfl (X.move (rfl : _ = (iv (at_8 : Int)))) ?_
  refine WL.x rfl (X.bin (rfl : _ = (iv (at_8 : Int))) (rfl : _ = (iv (0 : Int))) (Bin.lss _ _)) ?_
  refine WL.x rfl (X.move (rfl : _ = (Value.bool ((glt at_8 (0 : Int)))))) ?_
  refine WL.gx rfl (rfl : _ = (Value.bool ((glt at_8 (0 : Int))))) rfl (fun hg => X.move (rfl : _ = (iv (at_8 : Int)))) ?_
  refine WL.gx rfl (rfl : _ = (Value.bool ((glt at_8 (0 : Int))))) rfl (fun hg => X.move (rfl : _ = (Value.slice p_2 l_3 c_4))) ?_
  refine WL.gx rfl (rfl : _ = (Value.bool ((glt at_8 (0 : Int))))) rfl (fun hg => X.lenR Try.u22 hs (j := 0) rfl (gv_on hg : _ = (Value.slice p_2 l_3 c_4))) ?_
  refine WL.gx rfl (rfl : _ = (Value.bool ((glt at_8 (0 : Int))))) rfl (fun hg => X.bin (gv_on hg : _ = (iv (at_8 : Int))) (gv_on hg : _ = (iv ((lenI b_1) : Int))) (Bin.geq _ _)) ?_
  refine WL.x rfl (X.pick_or (rfl : _ = (Value.bool ((glt at_8 (0 : Int))))) (rfl : _ = (Value.bool (true))) (rfl : _ = (gv ((glt at_8 (0 : Int))) false (Value.bool ((gge at_8 (lenI b_1))))))) ?_
  refine WL.x rfl (X.move (rfl : _ = (Value.bool (((glt at_8 (0 : Int)) || (gge at_8 (lenI b_1))))))) ?_
  refine WL.gx rfl (rfl : _ = (Value.bool (((glt at_8 (0 : Int)) || (gge at_8 (lenI b_1)))))) rfl (fun hg => X.move (rfl : _ = (iv (by_9 : UInt8)))) ?_
  refine WL.gx rfl (rfl : _ = (Value.bool (((glt at_8 (0 : Int)) || (gge at_8 (lenI b_1)))))) rfl (fun hg => X.bin (gv_on hg : _ = (iv (by_9 : UInt8))) (rfl : _ = (iv (0 : UInt8))) (Bin.eql _ _)) ?_
  refine WL.x rfl (X.pick_or (rfl : _ = (Value.bool (((glt at_8 (0 : Int)) || (gge at_8 (lenI b_1)))))) (rfl : _ = (Value.bool (true))) (rfl : _ = (gv (((glt at_8 (0 : Int)) || (gge at_8 (lenI b_1)))) false (Value.bool ((geq by_9 (0 : UInt8))))))) ?_
  refine WL.nil ?_
  refine W.condP hp (rfl : _ = (Value.bool ((((glt at_8 (0 : Int)) || (gge at_8 (lenI b_1))) || (geq by_9 (0 : UInt8)))))) (fun hc hp => ?_) (fun hc hp => ?_)
  · refine W.seq ?_
    refine W.region ?_
    refine WL.x rfl (X.assign (rfl : _ = (Value.slice none 0 0))) ?_
    refine WL.x rfl (X.assign (rfl : _ = (iv (2 : Int)))) ?_
    refine WL.nil ?_
    refine W.ret ?_
    have hs := hs.addNil 1 5
    cases hp
    refine ⟨.inl rfl, [(Value.slice none 0 0), (iv (2 : Int))], ⟨rfl, rfl, trivial⟩, none, 0, 0, rfl, ?_⟩
    exact fr_own hs (i := 1) rfl (j := 0) rfl
  · refine W.skip ?_
    refine W.seq ?_
    refine W.region ?_
    refine WL.bsI ([] : List UInt8) Try.u22 Try.el5 hs rfl rfl rfl rfl (fun p_26 l_27 c_28 w hs => ?_)
    refine WL.x rfl (X.move (rfl : _ = (Value.slice p_2 l_3 c_4))) ?_
    obtain ⟨x_30, hq_31, hp⟩ := bind_some hp
    refine WL.appO (l := ([] : List UInt8)) (m := b_1) (L' := fun p_32 l_33 c_34 => [.own 1 5 (.slice p_32 l_33 c_34) (encL x_30)]) Try.u22 ⟨_, Try.u22⟩ Try.el5 hs (i := 0) rfl rfl (rfl : _ = (Value.slice p_26 l_27 c_28)) (rfl : _ = (Value.slice p_2 l_3 c_4)) (hs.rd (j := 0) rfl) hq_31 (fun _ _ _ => rfl) (fun p_32 l_33 c_34 w hs => ?_)
    refine WL.x rfl (X.assign (rfl : _ = (Value.slice p_32 l_33 c_34))) ?_
    refine WL.nil ?_
    refine W.seq ?_
    refine W.region ?_
    refine WL.x rfl (X.move (rfl : _ = (Value.slice p_32 l_33 c_34))) ?_
    refine WL.x rfl (X.move (rfl : _ = (iv (at_8 : Int)))) ?_
    obtain ⟨c_35, hq_36, hp⟩ := bind_some hp
    obtain ⟨b_37, he_38, hs2⟩ := hs.idxO (L' := fun b_37 => [.at_ b_37 1 5 l_33 c_34 (encL x_30)]) (j := 0) rfl hq_36 (fun _ => rfl)
    replace hs := hs2; clear hs2
    refine WL.x rfl (X.idxA Try.u22 Try.sz5 hs (j := 0) rfl hq_36 he_38 (rfl : _ = (Value.slice p_32 l_33 c_34)) (rfl : _ = (iv (at_8 : Int)))) ?_
    refine WL.x rfl (X.loadA hs (j := 0) rfl Try.pl5 hq_36 (rfl : _ = (Value.pointer (some ⟨b_37, (Int.toNat at_8), none⟩)))) ?_
    refine WL.x rfl (X.move (rfl : _ = (iv (by_9 : UInt8)))) ?_
    refine WL.x rfl (X.bin (rfl : _ = (iv (c_35 : UInt8))) (rfl : _ = (iv (by_9 : UInt8))) (Bin.xor _ _)) ?_
    refine WL.x rfl (X.idxA Try.u22 Try.sz5 hs (j := 0) rfl hq_36 he_38 (rfl : _ = (Value.slice p_32 l_33 c_34)) (rfl : _ = (iv (at_8 : Int)))) ?_
    obtain ⟨l_40, hq_39, hp⟩ := bind_some hp
    refine WL.storeA hs (j := 0) rfl Try.sz5 (rfl : _ = (Value.pointer (some ⟨b_37, (Int.toNat at_8), none⟩))) (rfl : _ = (iv ((gxor c_35 by_9) : UInt8))) hq_39 rfl (fun w hs => ?_)
    refine WL.nil ?_
    refine W.seq ?_
    refine W.region ?_
    refine WL.x rfl (X.move (rfl : _ = (Value.slice p_32 l_33 c_34))) ?_
    refine WL.x rfl (X.assign (rfl : _ = (Value.slice p_32 l_33 c_34))) ?_
    refine WL.x rfl (X.assign (rfl : _ = (iv (0 : Int)))) ?_
    refine WL.nil ?_
    refine W.ret ?_
    have hs := hs.hideP he_38 (i := 0) rfl
    have hs : St _ _ ([.rd R_5 1 (.slice p_2 l_3 c_4) (encL b_1), .old (fun _ => False) w0]) ([.own 1 5 (.slice p_32 l_33 c_34) (encL l_40)]) := hs
    cases hp
    refine ⟨.inl rfl, [(Value.slice p_32 l_33 c_34), (iv (0 : Int))], ⟨rfl, rfl, trivial⟩, p_32, l_33, c_34, rfl, ?_⟩
    exact fr_own hs (i := 1) rfl (j := 0) rfl

theorem damage_Burst_ok (w0 : World) (p_2 : Option Addr) (l_3 c_4 : Nat) (b_1 : List UInt8) (R_5 : Reg) (h_6 : Rd R_5 w0 1 (.slice p_2 l_3 c_4) (encL b_1)) (bit_8 : Int) (mask_9 : UInt32) (y : (List UInt8) × Int) (hp : damage_Burst b_1 bit_8 mask_9 = some y) :
  Calls Try.prog 6 [(Value.slice p_2 l_3 c_4), (iv (bit_8 : Int)), (iv (mask_9 : UInt32))].toArray w0 fun e w' => ∃ (p1 : Option Addr) (l1 c1 : Nat), e = .returned (packRes [(Value.slice p1 l1 c1), (iv y.2)]) ∧ Fr w0 w' [] [.own 1 5 (.slice p1 l1 c1) (encL y.1)] := by
  unfold damage_Burst at hp
  refine calls_of_W (vs := [(Value.slice p_2 l_3 c_4), (iv (bit_8 : Int)), (iv (mask_9 : UInt32))]) Try.func6 rfl Try.ntmps6 rfl rfl ?_
  have hs := St.start w0
  have hs := hs.addRd h_6.start
  obtain ⟨A, hA⟩ : ∃ A : Reg, A = fun b => b < w0.heap.size := ⟨_, rfl⟩
  rw [← hA] at hs
  clear hA
  obtain ⟨w, hw⟩ : ∃ w : World, w = w0 := ⟨_, rfl⟩
  have hs : St A w ([.rd R_5 1 (.slice p_2 l_3 c_4) (encL b_1), .old (fun _ => False) w0]) ([]) := hw ▸ hs
  refine cast_world hw ?_
  clear hw
  refine W.seq ?_
  refine W.region ?_
  refine WL.x rfl (X.assign (rfl : _ = (Value.slice none 0 0))) ?_
  refine WL.x rfl (X.assign (rfl : _ = (iv (0 : Int)))) ?_
  refine WL.nil ?_
  refine W.seq ?_
  refine W.seq ?_
  refine W.region ?_
  refine WL.x rfl (X.move (rfl : _ = (iv (bit_8 : Int)))) ?_
  refine WL.x rfl (X.bin (rfl : _ = (iv (bit_8 : Int))) (rfl : _ = (iv (0 : Int))) (Bin.lss _ _)) ?_
  refine WL.x rfl (X.move (rfl : _ = (Value.bool ((glt bit_8 (0 : Int)))))) ?_
  refine WL.gx rfl (rfl : _ = (Value.bool ((glt bit_8 (0 : Int))))) rfl (fun hg => X.move (rfl : _ = (iv (bit_8 : Int)))) ?_
  refine WL.gx rfl (rfl : _ = (Value.bool ((glt bit_8 (0 : Int))))) rfl (fun hg => X.move (rfl : _ = (Value.slice p_2 l_3 c_4))) ?_
  refine WL.gx rfl (rfl : _ = (Value.bool ((glt bit_8 (0 : Int))))) rfl (fun hg => X.lenR Try.u22 hs (j := 0) rfl (gv_on hg : _ = (Value.slice p_2 l_3 c_4))) ?_
  refine WL.gx rfl (rfl : _ = (Value.bool ((glt bit_8 (0 : Int))))) rfl (fun hg => X.bin (rfl : _ = (iv (8 : Int))) (gv_on hg : _ = (iv ((lenI b_1) : Int))) (Bin.mul _ _)) ?_
  refine WL.gx rfl (rfl : _ = (Value.bool ((glt bit_8 (0 : Int))))) rfl (fun hg => X.bin (gv_on hg : _ = (iv (bit_8 : Int))) (gv_on hg : _ = (iv ((gmul (8 : Int) (lenI b_1)) : Int))) (Bin.geq _ _)) ?_
  refine WL.x rfl (X.pick_or (rfl : _ = (Value.bool ((glt bit_8 (0 : Int))))) (rfl : _ = (Value.bool (true))) (rfl : _ = (gv ((glt bit_8 (0 : Int))) false (Value.bool ((gge bit_8 (gmul (8 : Int) (lenI b_1)))))))) ?_
  refine WL.nil ?_
  refine W.condP hp (rfl : _ = (Value.bool (((glt bit_8 (0 : Int)) || (gge bit_8 (gmul (8 : Int) (lenI b_1))))))) (fun hc hp => ?_) (fun hc hp => ?_)
  · refine W.seq ?_
    refine W.region ?_
    refine WL.x rfl (X.assign (rfl : _ = (Value.slice none 0 0))) ?_
    refine WL.x rfl (X.assign (rfl : _ = (iv (2 : Int)))) ?_
    refine WL.nil ?_
    refine W.ret ?_
    have hs := hs.addNil 1 5
    cases hp
    refine ⟨.inl rfl, [(Value.slice none 0 0), (iv (2 : Int))], ⟨rfl, rfl, trivial⟩, none, 0, 0, rfl, ?_⟩
    exact fr_own hs (i := 1) rfl (j := 0) rfl
  · refine W.skip ?_
    refine W.seq ?_
    refine W.region ?_
    refine WL.x rfl (X.move (rfl : _ = (Value.slice p_2 l_3 c_4))) ?_
    obtain ⟨l_131, hq_136, hp⟩ := bind_some hp
    refine WL.e rfl (X.call Try.ent8 (rfl : _ = [(Value.slice p_2 l_3 c_4)])) (bytes_Clone_ok _ p_2 l_3 c_4 b_1 _ ((hs.rdT (j := 0) rfl)) l_131 hq_136) ?_
    rintro _ w ⟨p_132, l_133, c_134, rfl, hfr⟩
    refine ⟨_, rfl, ?_⟩
    obtain ⟨_, hs⟩ := hs.call hfr
    have hs : St _ _ ([.rd R_5 1 (.slice p_2 l_3 c_4) (encL b_1), .old (fun _ => False) w0]) ([.own 1 5 (.slice p_132 l_133 c_134) (encL l_131)]) := hs
    refine WL.alloc (cells := [(Value.slice none 0 0)]) hs rfl Try.ze22 rfl (fun b_137 w hs => ?_)
    refine WL.store_box (vs := [(Value.slice p_132 l_133 c_134)]) (cells' := [(Value.slice p_132 l_133 c_134)]) hs (i := 0) rfl Try.sz22 (rfl : _ = (Value.pointer (some ⟨b_137, 0, none⟩))) (rfl : _ = (Value.slice p_132 l_133 c_134)) rfl rfl rfl rfl rfl rfl (fun w hs => ?_)
    refine WL.nil ?_
    refine W.seq ?_
    refine W.region ?_
    refine WL.alloc (cells := [(Value.bool (false))]) hs rfl Try.ze4 rfl (fun b_139 w hs => ?_)
    refine WL.store_box (vs := [(Value.bool (false))]) (cells' := [(Value.bool (false))]) hs (i := 0) rfl Try.sz4 (rfl : _ = (Value.pointer (some ⟨b_139, 0, none⟩))) (rfl : _ = (Value.bool (false))) rfl rfl rfl rfl rfl rfl (fun w hs => ?_)
    refine WL.nil ?_
    refine W.seq ?_
    refine W.region ?_
    refine WL.x rfl (X.makeFunc (rfl : _ = [(Value.pointer (some ⟨b_137, 0, none⟩)), (Value.pointer (some ⟨b_139, 0, none⟩))])) ?_
    refine WL.x rfl (X.assign (rfl : _ = (Value.func (.func 9) #[] [(Value.pointer (some ⟨b_137, 0, none⟩)), (Value.pointer (some ⟨b_139, 0, none⟩))].toArray))) ?_
    refine WL.nil ?_
    refine W.seq ?_
    refine W.seq ?_
    refine W.region ?_
    refine WL.x rfl (X.move (rfl : _ = (iv (0 : Int)))) ?_
    refine WL.nil ?_
    obtain ⟨o_225, hl_251, hp⟩ := bind_some hp
    obtain ⟨x_213, l_214⟩ := o_225
    have ho_224 := hp
    refine W.tailJ (fun σ w => ∃ (p_215 : Option Addr) (l_216 c_217 : Nat) (A : Reg), (σ 6 = (Value.slice none 0 0) ∧ σ 7 = (iv (0 : Int)) ∧ σ 8 = (Value.pointer (some ⟨b_137, 0, none⟩)) ∧ σ 9 = (Value.pointer (some ⟨b_139, 0, none⟩)) ∧ True) ∧ St A w ([.old (fun _ => False) w0]) ([.box b_139 [(Value.bool (x_213))] 4, .box b_137 [(Value.slice p_215 l_216 c_217)] 22, .own 1 5 (.slice p_215 l_216 c_217) (encL l_214)])) ?_ ?_
    · refine W.block (W.loop (fun k σ w => ∃ (x_173 : Int) (x_174 : Bool) (l_175 : List UInt8) (p_176 : Option Addr) (l_177 c_178 : Nat) (A : Reg), (σ 1 = (iv (bit_8 : Int)) ∧ σ 10 = (Value.func (.func 9) #[] [(Value.pointer (some ⟨b_137, 0, none⟩)), (Value.pointer (some ⟨b_139, 0, none⟩))].toArray) ∧ σ 2 = (iv (mask_9 : UInt32)) ∧ σ 24 = (iv (x_173 : Int)) ∧ σ 6 = (Value.slice none 0 0) ∧ σ 7 = (iv (0 : Int)) ∧ σ 8 = (Value.pointer (some ⟨b_137, 0, none⟩)) ∧ σ 9 = (Value.pointer (some ⟨b_139, 0, none⟩)) ∧ True) ∧ St A w ([.old (fun _ => False) w0]) ([.box b_139 [(Value.bool (x_174))] 4, .box b_137 [(Value.slice p_176 l_177 c_178)] 22, .own 1 5 (.slice p_176 l_177 c_178) (encL l_175)]) ∧ damage_Burst_l1 bit_8 mask_9 k x_173 x_174 l_175 = some (x_213, l_214)) FUEL ?_ ?_)
      · have hs := (hs.noF.addF (hs.fact 1 rfl))
        exact ⟨(0 : Int), false, l_131, p_132, l_133, c_134, _, ⟨rfl, rfl, rfl, rfl, rfl, rfl, rfl, rfl, trivial⟩, hs, hl_251⟩
      · clear hs
        intro k σ180 w hI
        obtain ⟨x_173, x_174, l_175, p_176, l_177, c_178, A, ⟨e1_181, e10_182, e2_183, e24_184, e6_185, e7_186, e8_187, e9_188, _⟩, hs, hp⟩ := hI
        cases k with
        | zero => cases hp
        | succ k =>
          rw [damage_Burst_l1] at hp
          refine W.seq ?_
          refine W.region ?_
          refine WL.x rfl (X.bin (e24_184 : _ = (iv (x_173 : Int))) (rfl : _ = (iv (32 : Int))) (Bin.lss _ _)) ?_
          refine WL.nil ?_
          refine W.seq ?_
          refine W.condP hp (rfl : _ = (Value.bool ((glt x_173 (32 : Int))))) (fun hc hp => ?_) (fun hc hp => ?_)
          · refine W.skip ?_
            refine W.seq ?_
            refine W.block ?_
            refine W.seq ?_
            refine W.region ?_
            refine WL.x rfl (X.move (e24_184 : _ = (iv (x_173 : Int)))) ?_
            refine WL.x rfl (X.assign (rfl : _ = (iv (x_173 : Int)))) ?_
            refine WL.nil ?_
            refine W.seq ?_
            refine W.region ?_
            refine WL.x rfl (X.move (e2_183 : _ = (iv (mask_9 : UInt32)))) ?_
            refine WL.x rfl (X.move (rfl : _ = (iv (x_173 : Int)))) ?_
            obtain ⟨_, hq_226, hp⟩ := bind_some hp
            have hq_226 := gge_le (okI_spec hq_226)
            refine WL.x rfl (X.bin (rfl : _ = (iv (mask_9 : UInt32))) (rfl : _ = (iv (x_173 : Int))) (Bin.shr_u32 _ _ hq_226)) ?_
            refine WL.x rfl (X.bin (rfl : _ = (iv ((gshr mask_9 x_173.toNat) : UInt32))) (rfl : _ = (iv (1 : UInt32))) (Bin.and _ _)) ?_
            refine WL.x rfl (X.bin (rfl : _ = (iv ((gand (gshr mask_9 x_173.toNat) (1 : UInt32)) : UInt32))) (rfl : _ = (iv (1 : UInt32))) (Bin.eql _ _)) ?_
            refine WL.nil ?_
            refine W.condP hp (rfl : _ = (Value.bool ((geq (gand (gshr mask_9 x_173.toNat) (1 : UInt32)) (1 : UInt32))))) (fun hc hp => ?_) (fun hc hp => ?_)
            · refine W.region ?_
              refine WL.x rfl (X.move (e10_182 : _ = (Value.func (.func 9) #[] [(Value.pointer (some ⟨b_137, 0, none⟩)), (Value.pointer (some ⟨b_139, 0, none⟩))].toArray))) ?_
              refine WL.x rfl (X.move (e1_181 : _ = (iv (bit_8 : Int)))) ?_
              refine WL.x rfl (X.move (rfl : _ = (iv (x_173 : Int)))) ?_
              refine WL.x rfl (X.bin (rfl : _ = (iv (bit_8 : Int))) (rfl : _ = (iv (x_173 : Int))) (Bin.add _ _)) ?_
              obtain ⟨⟨x_234, l_235⟩, hj_241, hp⟩ := bind_some hp
              have ho_242 := hp
              refine WL.e (R1 := fun e w => ∃ (p_236 : Option Addr) (l_237 c_238 : Nat) (A : Reg), e = .returned (packRes []) ∧ St A w ([.old (fun _ => False) w0]) ([.box b_139 [(Value.bool (x_234))] 4, .box b_137 [(Value.slice p_236 l_237 c_238)] 22, .own 1 5 (.slice p_236 l_237 c_238) (encL l_235)])) rfl (X.callv (cs := [(Value.pointer (some ⟨b_137, 0, none⟩)), (Value.pointer (some ⟨b_139, 0, none⟩))]) Try.ent9 (rfl : _ = (Value.func (.func 9) #[] [(Value.pointer (some ⟨b_137, 0, none⟩)), (Value.pointer (some ⟨b_139, 0, none⟩))].toArray)) (rfl : _ = [(iv ((gadd bit_8 x_173) : Int))])) (calls_of_W (vs := [(iv ((gadd bit_8 x_173) : Int)), (Value.pointer (some ⟨b_137, 0, none⟩)), (Value.pointer (some ⟨b_139, 0, none⟩))]) Try.func9 rfl Try.ntmps9 rfl rfl ?_) ?_
              · have hp := hj_241
                clear ho_242
                refine W.seq ?_
                refine W.region ?_
                refine WL.x rfl (X.move (rfl : _ = (iv ((gadd bit_8 x_173) : Int)))) ?_
                refine WL.x rfl (X.load_box (v := (Value.slice p_176 l_177 c_178)) hs (i := 1) rfl Try.pl22 (rfl : _ = (Value.pointer (some ⟨b_137, 0, none⟩))) rfl) ?_
                refine WL.x rfl (X.lenO Try.u22 hs (j := 2) rfl (rfl : _ = (Value.slice p_176 l_177 c_178))) ?_
                refine WL.x rfl (X.bin (rfl : _ = (iv (8 : Int))) (rfl : _ = (iv ((lenI l_175) : Int))) (Bin.mul _ _)) ?_
                refine WL.x rfl (X.bin (rfl : _ = (iv ((gadd bit_8 x_173) : Int))) (rfl : _ = (iv ((gmul (8 : Int) (lenI l_175)) : Int))) (Bin.lss _ _)) ?_
                refine WL.nil ?_
                refine W.condP hp (rfl : _ = (Value.bool ((glt (gadd bit_8 x_173) (gmul (8 : Int) (lenI l_175)))))) (fun hc hp => ?_) (fun hc hp => ?_)
                · refine W.seq ?_
                  obtain ⟨c_243, hq_244, hp⟩ := bind_some hp
                  obtain ⟨b_245, he_246, hs2⟩ := hs.idxO (L' := fun b_245 => [.box b_139 [(Value.bool (x_174))] 4, .box b_137 [(Value.slice p_176 l_177 c_178)] 22, .at_ b_245 1 5 l_177 c_178 (encL l_175)]) (j := 2) rfl hq_244 (fun _ => rfl)
                  replace hs := hs2; clear hs2
                  obtain ⟨_, hq_247, hp⟩ := bind_some hp
                  have hq_247 := gge_le (okI_spec hq_247)
                  refine W.regionD Try.mixed (fun w => ∃ A, St A w ([.old (fun _ => False) w0]) ([.box b_139 [(Value.bool (x_174))] 4, .box b_137 [(Value.slice p_176 l_177 c_178)] 22, .at_ b_245 1 5 l_177 c_178 (encL l_175)])) 9 (fun w hw hg => ?_)
                  have hs := hs.sameHeap hw hg
                  clear hw hg
                  have hS : ∃ A, St A w ([.old (fun _ => False) w0]) ([.box b_139 [(Value.bool (x_174))] 4, .box b_137 [(Value.slice p_176 l_177 c_178)] 22, .at_ b_245 1 5 l_177 c_178 (encL l_175)]) := ⟨_, hs⟩
                  refine WD.x 0 rfl (by kernel_rfl) rfl hS (fun w ⟨A, hs⟩ => X.load_box (v := (Value.slice p_176 l_177 c_178)) hs (i := 1) rfl Try.pl22 (rfl : _ = (Value.pointer (some ⟨b_137, 0, none⟩))) rfl) ?_
                  refine WD.x 1 rfl (by kernel_rfl) rfl hS (fun w ⟨A, hs⟩ => X.move (rfl : _ = (iv ((gadd bit_8 x_173) : Int)))) ?_
                  refine WD.x 2 rfl (by kernel_rfl) rfl hS (fun w ⟨A, hs⟩ => X.bin (rfl : _ = (iv ((gadd bit_8 x_173) : Int))) (rfl : _ = (iv (8 : Int))) (Bin.quo _ _ (by decide))) ?_
                  refine WD.x 3 rfl (by kernel_rfl) rfl hS (fun w ⟨A, hs⟩ => X.idxA Try.u22 Try.sz5 hs (j := 2) rfl hq_244 he_246 (rfl : _ = (Value.slice p_176 l_177 c_178)) (rfl : _ = (iv ((gquo (gadd bit_8 x_173) (8 : Int)) : Int)))) ?_
                  refine WD.x 4 rfl (by kernel_rfl) rfl hS (fun w ⟨A, hs⟩ => X.loadA hs (j := 2) rfl Try.pl5 hq_244 (rfl : _ = (Value.pointer (some ⟨b_245, (Int.toNat (gquo (gadd bit_8 x_173) (8 : Int))), none⟩)))) ?_
                  refine WD.x 5 rfl (by kernel_rfl) rfl hS (fun w ⟨A, hs⟩ => X.move (rfl : _ = (iv ((gadd bit_8 x_173) : Int)))) ?_
                  refine WD.x 6 rfl (by kernel_rfl) rfl hS (fun w ⟨A, hs⟩ => X.bin (rfl : _ = (iv ((gadd bit_8 x_173) : Int))) (rfl : _ = (iv (8 : Int))) (Bin.rem_i64 _ _ (by decide))) ?_
                  refine WD.x 7 rfl (by kernel_rfl) rfl hS (fun w ⟨A, hs⟩ => X.bin (rfl : _ = (iv (1 : UInt8))) (rfl : _ = (iv ((irem (gadd bit_8 x_173) (8 : Int)) : Int))) (Bin.shl _ _ hq_247)) ?_
                  refine WD.x 8 rfl (by kernel_rfl) rfl hS (fun w ⟨A, hs⟩ => X.bin (rfl : _ = (iv (c_243 : UInt8))) (rfl : _ = (iv ((gshl (1 : UInt8) (irem (gadd bit_8 x_173) (8 : Int)).toNat) : UInt8))) (Bin.xor _ _)) ?_
                  clear hS
                  refine WD.tail _ rfl rfl (by kernel_rfl) ?_
                  refine WL.x rfl (X.idxA Try.u22 Try.sz5 hs (j := 2) rfl hq_244 he_246 (rfl : _ = (Value.slice p_176 l_177 c_178)) (rfl : _ = (iv ((gquo (gadd bit_8 x_173) (8 : Int)) : Int)))) ?_
                  obtain ⟨l_249, hq_248, hp⟩ := bind_some hp
                  refine WL.storeA hs (j := 2) rfl Try.sz5 (rfl : _ = (Value.pointer (some ⟨b_245, (Int.toNat (gquo (gadd bit_8 x_173) (8 : Int))), none⟩))) (rfl : _ = (iv ((gxor c_243 (gshl (1 : UInt8) (irem (gadd bit_8 x_173) (8 : Int)).toNat)) : UInt8))) hq_248 rfl (fun w hs => ?_)
                  refine WL.nil ?_
                  refine W.region ?_
                  refine WL.store_box (vs := [(Value.bool (true))]) (cells' := [(Value.bool (true))]) hs (i := 0) rfl Try.sz4 (rfl : _ = (Value.pointer (some ⟨b_139, 0, none⟩))) (rfl : _ = (Value.bool (true))) rfl rfl rfl rfl rfl rfl (fun w hs => ?_)
                  refine WL.nil ?_
                  have hs := hs.hideP he_246 (i := 2) rfl
                  have hs : St _ _ ([.old (fun _ => False) w0]) ([.box b_139 [(Value.bool (true))] 4, .box b_137 [(Value.slice p_176 l_177 c_178)] 22, .own 1 5 (.slice p_176 l_177 c_178) (encL l_249)]) := hs
                  have hs := (hs.noF.addF (hs.fact 0 rfl))
                  cases hp
                  exact ⟨.inr rfl, [], trivial, p_176, l_177, c_178, _, rfl, hs⟩
                · refine W.skip ?_
                  have hs := (hs.noF.addF (hs.fact 0 rfl))
                  cases hp
                  exact ⟨.inr rfl, [], trivial, p_176, l_177, c_178, _, rfl, hs⟩
              · clear hs
                rintro _ w ⟨p_236, l_237, c_238, A, rfl, hs⟩
                refine ⟨_, rfl, ?_⟩
                refine WL.nil ?_
                refine W.region ?_
                refine WL.x rfl (X.bin (e24_184 : _ = (iv (x_173 : Int))) (rfl : _ = (iv (1 : Int))) (Bin.add _ _)) ?_
                refine WL.x rfl (X.move (rfl : _ = (iv ((gadd x_173 (1 : Int)) : Int)))) ?_
                refine WL.nil ?_
                have hs := (hs.noF.addF (hs.fact 0 rfl))
                exact ⟨_, Nat.lt_succ_self _, (gadd x_173 (1 : Int)), x_234, l_235, p_236, l_237, c_238, _, ⟨e1_181, e10_182, e2_183, rfl, e6_185, e7_186, e8_187, e9_188, trivial⟩, hs, hp⟩
            · refine W.skip ?_
              refine W.region ?_
              refine WL.x rfl (X.bin (e24_184 : _ = (iv (x_173 : Int))) (rfl : _ = (iv (1 : Int))) (Bin.add _ _)) ?_
              refine WL.x rfl (X.move (rfl : _ = (iv ((gadd x_173 (1 : Int)) : Int)))) ?_
              refine WL.nil ?_
              have hs := (hs.noF.addF (hs.fact 0 rfl))
              exact ⟨_, Nat.lt_succ_self _, (gadd x_173 (1 : Int)), x_174, l_175, p_176, l_177, c_178, _, ⟨e1_181, e10_182, e2_183, rfl, e6_185, e7_186, e8_187, e9_188, trivial⟩, hs, hp⟩
          · refine W.exit ?_
            have hs := (hs.noF.addF (hs.fact 0 rfl))
            cases hp
            exact ⟨p_176, l_177, c_178, _, ⟨e6_185, e7_186, e8_187, e9_188, trivial⟩, hs⟩
    · intro σ219 w hJ
      clear hs
      obtain ⟨p_215, l_216, c_217, A, ⟨e6_220, e7_221, e8_222, e9_223, _⟩, hs⟩ := hJ
      refine W.seq ?_
      refine W.seq ?_
      refine W.region ?_
      refine WL.x rfl (X.load_box (v := (Value.bool (x_213))) hs (i := 0) rfl Try.pl4 (e9_223 : _ = (Value.pointer (some ⟨b_139, 0, none⟩))) rfl) ?_
      refine WL.x rfl (X.not (rfl : _ = (Value.bool (x_213)))) ?_
      refine WL.nil ?_
      refine W.condP hp (rfl : _ = (Value.bool ((!x_213)))) (fun hc hp => ?_) (fun hc hp => ?_)
      · refine W.seq ?_
        refine W.region ?_
        refine WL.x rfl (X.assign (rfl : _ = (Value.slice none 0 0))) ?_
        refine WL.x rfl (X.assign (rfl : _ = (iv (2 : Int)))) ?_
        refine WL.nil ?_
        refine W.ret ?_
        have hs := hs.addNil 1 5
        cases hp
        refine ⟨.inl rfl, [(Value.slice none 0 0), (iv (2 : Int))], ⟨rfl, rfl, trivial⟩, none, 0, 0, rfl, ?_⟩
        exact fr_own hs (i := 0) rfl (j := 0) rfl
      · refine W.skip ?_
        refine W.seq ?_
        refine W.region ?_
        refine WL.x rfl (X.load_box (v := (Value.slice p_215 l_216 c_217)) hs (i := 1) rfl Try.pl22 (e8_222 : _ = (Value.pointer (some ⟨b_137, 0, none⟩))) rfl) ?_
        refine WL.x rfl (X.assign (rfl : _ = (Value.slice p_215 l_216 c_217))) ?_
        refine WL.x rfl (X.assign (rfl : _ = (iv (0 : Int)))) ?_
        refine WL.nil ?_
        refine W.ret ?_
        cases hp
        refine ⟨.inl rfl, [(Value.slice p_215 l_216 c_217), (iv (0 : Int))], ⟨rfl, rfl, trivial⟩, p_215, l_216, c_217, rfl, ?_⟩
        exact fr_own hs (i := 0) rfl (j := 2) rfl

theorem cadenzaref44_Burst_ok (w0 : World) (p_2 : Option Addr) (l_3 c_4 : Nat) (b_1 : List UInt8) (R_5 : Reg) (h_6 : Rd R_5 w0 1 (.slice p_2 l_3 c_4) (encL b_1)) (bit_8 : Int) (mask_9 : UInt32) (y : (List UInt8) × Int) (hp : cadenzaref44_Burst b_1 bit_8 mask_9 = some y) :
  Calls Try.prog 7 [(Value.slice p_2 l_3 c_4), (iv (bit_8 : Int)), (iv (mask_9 : UInt32))].toArray w0 fun e w' => ∃ (p1 : Option Addr) (l1 c1 : Nat), e = .returned (packRes [(Value.slice p1 l1 c1), (iv y.2)]) ∧ Fr w0 w' [] [.own 1 5 (.slice p1 l1 c1) (encL y.1)] := by
  unfold cadenzaref44_Burst at hp
  refine calls_of_W (vs := [(Value.slice p_2 l_3 c_4), (iv (bit_8 : Int)), (iv (mask_9 : UInt32))]) Try.func7 rfl Try.ntmps7 rfl rfl ?_
  have hs := St.start w0
  have hs := hs.addRd h_6.start
  obtain ⟨A, hA⟩ : ∃ A : Reg, A = fun b => b < w0.heap.size := ⟨_, rfl⟩
  rw [← hA] at hs
  clear hA
  obtain ⟨w, hw⟩ : ∃ w : World, w = w0 := ⟨_, rfl⟩
  have hs : St A w ([.rd R_5 1 (.slice p_2 l_3 c_4) (encL b_1), .old (fun _ => False) w0]) ([]) := hw ▸ hs
  refine cast_world hw ?_
  clear hw
  refine W.seq ?_
  refine W.region ?_
  refine WL.x rfl (X.assign (rfl : _ = (Value.slice none 0 0))) ?_
  refine WL.x rfl (X.assign (rfl : _ = (iv (0 : Int)))) ?_
  refine WL.nil ?_
  refine W.seq ?_
  refine W.seq ?_
  refine W.region ?_
  refine WL.x rfl (X.move (rfl : _ = (iv (bit_8 : Int)))) ?_
  refine WL.x rfl (X.bin (rfl : _ = (iv (bit_8 : Int))) (rfl : _ = (iv (0 : Int))) (Bin.lss _ _)) ?_
  refine WL.x rfl (X.move (rfl : _ = (Value.bool ((glt bit_8 (0 : Int)))))) ?_
  refine WL.gx rfl (rfl : _ = (Value.bool ((glt bit_8 (0 : Int))))) rfl (fun hg => X.move (rfl : _ = (iv (bit_8 : Int)))) ?_
  refine WL.gx rfl (rfl : _ = (Value.bool ((glt bit_8 (0 : Int))))) rfl (fun hg => X.move (rfl : _ = (Value.slice p_2 l_3 c_4))) ?_
  refine WL.gx rfl (rfl : _ = (Value.bool ((glt bit_8 (0 : Int))))) rfl (fun hg => X.lenR Try.u22 hs (j := 0) rfl (gv_on hg : _ = (Value.slice p_2 l_3 c_4))) ?_
  refine WL.gx rfl (rfl : _ = (Value.bool ((glt bit_8 (0 : Int))))) rfl (fun hg => X.bin (rfl : _ = (iv (8 : Int))) (gv_on hg : _ = (iv ((lenI b_1) : Int))) (Bin.mul _ _)) ?_
  refine WL.gx rfl (rfl : _ = (Value.bool ((glt bit_8 (0 : Int))))) rfl (fun hg => X.bin (gv_on hg : _ = (iv (bit_8 : Int))) (gv_on hg : _ = (iv ((gmul (8 : Int) (lenI b_1)) : Int))) (Bin.geq _ _)) ?_
  refine WL.x rfl (X.pick_or (rfl : _ = (Value.bool ((glt bit_8 (0 : Int))))) (rfl : _ = (Value.bool (true))) (rfl : _ = (gv ((glt bit_8 (0 : Int))) false (Value.bool ((gge bit_8 (gmul (8 : Int) (lenI b_1)))))))) ?_
  refine WL.nil ?_
  refine W.condP hp (rfl : _ = (Value.bool (((glt bit_8 (0 : Int)) || (gge bit_8 (gmul (8 : Int) (lenI b_1))))))) (fun hc hp => ?_) (fun hc hp => ?_)
  · refine W.seq ?_
    refine W.region ?_
    refine WL.x rfl (X.assign (rfl : _ = (Value.slice none 0 0))) ?_
    refine WL.x rfl (X.assign (rfl : _ = (iv (2 : Int)))) ?_
    refine WL.nil ?_
    refine W.ret ?_
    have hs := hs.addNil 1 5
    cases hp
    refine ⟨.inl rfl, [(Value.slice none 0 0), (iv (2 : Int))], ⟨rfl, rfl, trivial⟩, none, 0, 0, rfl, ?_⟩
    exact fr_own hs (i := 1) rfl (j := 0) rfl
  · refine W.skip ?_
    refine W.seq ?_
    refine W.region ?_
    refine WL.bsI ([] : List UInt8) Try.u22 Try.el5 hs rfl rfl rfl rfl (fun p_261 l_262 c_263 w hs => ?_)
    refine WL.x rfl (X.move (rfl : _ = (Value.slice p_2 l_3 c_4))) ?_
    obtain ⟨x_265, hq_266, hp⟩ := bind_some hp
    refine WL.appO (l := ([] : List UInt8)) (m := b_1) (L' := fun p_267 l_268 c_269 => [.own 1 5 (.slice p_267 l_268 c_269) (encL x_265)]) Try.u22 ⟨_, Try.u22⟩ Try.el5 hs (i := 0) rfl rfl (rfl : _ = (Value.slice p_261 l_262 c_263)) (rfl : _ = (Value.slice p_2 l_3 c_4)) (hs.rd (j := 0) rfl) hq_266 (fun _ _ _ => rfl) (fun p_267 l_268 c_269 w hs => ?_)
    refine WL.x rfl (X.assign (rfl : _ = (Value.slice p_267 l_268 c_269))) ?_
    refine WL.nil ?_
    refine W.seq ?_
    refine W.region ?_
    refine WL.x rfl (X.assign (rfl : _ = (Value.bool (false)))) ?_
    refine WL.nil ?_
    refine W.seq ?_
    refine W.seq ?_
    refine W.region ?_
    refine WL.x rfl (X.assign (rfl : _ = (iv (0 : Int)))) ?_
    refine WL.nil ?_
    obtain ⟨o_442, hl_511, hp⟩ := bind_some hp
    obtain ⟨out_430, changed_435⟩ := o_442
    have ho_441 := hp
    refine W.tailJ (fun σ w => ∃ (p_431 : Option Addr) (l_432 c_433 : Nat) (A : Reg), (σ 6 = (Value.slice none 0 0) ∧ σ 7 = (iv (0 : Int)) ∧ σ 8 = (Value.slice p_431 l_432 c_433) ∧ σ 9 = (Value.bool (changed_435)) ∧ True) ∧ St A w ([.old (fun _ => False) w0]) ([.own 1 5 (.slice p_431 l_432 c_433) (encL out_430)])) ?_ ?_
    · refine W.block (W.loop (fun k σ w => ∃ (k_346 : Int) (mask_347 : UInt32) (out_348 : List UInt8) (changed_353 : Bool) (p_349 : Option Addr) (l_350 c_351 : Nat) (A : Reg), (σ 0 = (Value.slice p_2 l_3 c_4) ∧ σ 1 = (iv (bit_8 : Int)) ∧ σ 10 = (iv (k_346 : Int)) ∧ σ 2 = (iv (mask_347 : UInt32)) ∧ σ 6 = (Value.slice none 0 0) ∧ σ 7 = (iv (0 : Int)) ∧ σ 8 = (Value.slice p_349 l_350 c_351) ∧ σ 9 = (Value.bool (changed_353)) ∧ True) ∧ St A w ([.rd R_5 1 (.slice p_2 l_3 c_4) (encL b_1), .old (fun _ => False) w0]) ([.own 1 5 (.slice p_349 l_350 c_351) (encL out_348)]) ∧ cadenzaref44_Burst_l1 b_1 bit_8 k k_346 mask_347 out_348 changed_353 = some (out_430, changed_435)) FUEL ?_ ?_)
      · have hs := ((hs.noF.addF (hs.fact 1 rfl)).addF (hs.fact 0 rfl))
        exact ⟨(0 : Int), mask_9, x_265, false, p_267, l_268, c_269, _, ⟨rfl, rfl, rfl, rfl, rfl, rfl, rfl, rfl, trivial⟩, hs, hl_511⟩
      · clear hs
        intro k σ354 w hI
        obtain ⟨k_346, mask_347, out_348, changed_353, p_349, l_350, c_351, A, ⟨e0_355, e1_356, e10_357, e2_358, e6_359, e7_360, e8_361, e9_362, _⟩, hs, hp⟩ := hI
        cases k with
        | zero => cases hp
        | succ k =>
          rw [cadenzaref44_Burst_l1] at hp
          refine W.seq ?_
          refine W.seq ?_
          refine W.region ?_
          refine WL.x rfl (X.move (e10_357 : _ = (iv (k_346 : Int)))) ?_
          refine WL.x rfl (X.bin (rfl : _ = (iv (k_346 : Int))) (rfl : _ = (iv (32 : Int))) (Bin.lss _ _)) ?_
          refine WL.x rfl (X.move (rfl : _ = (Value.bool ((glt k_346 (32 : Int)))))) ?_
          refine WL.gx rfl (rfl : _ = (Value.bool ((glt k_346 (32 : Int))))) rfl (fun hg => X.move (e1_356 : _ = (iv (bit_8 : Int)))) ?_
          refine WL.gx rfl (rfl : _ = (Value.bool ((glt k_346 (32 : Int))))) rfl (fun hg => X.move (e10_357 : _ = (iv (k_346 : Int)))) ?_
          refine WL.gx rfl (rfl : _ = (Value.bool ((glt k_346 (32 : Int))))) rfl (fun hg => X.bin (gv_on hg : _ = (iv (bit_8 : Int))) (gv_on hg : _ = (iv (k_346 : Int))) (Bin.add _ _)) ?_
          refine WL.gx rfl (rfl : _ = (Value.bool ((glt k_346 (32 : Int))))) rfl (fun hg => X.move (e0_355 : _ = (Value.slice p_2 l_3 c_4))) ?_
          refine WL.gx rfl (rfl : _ = (Value.bool ((glt k_346 (32 : Int))))) rfl (fun hg => X.lenR Try.u22 hs (j := 0) rfl (gv_on hg : _ = (Value.slice p_2 l_3 c_4))) ?_
          refine WL.gx rfl (rfl : _ = (Value.bool ((glt k_346 (32 : Int))))) rfl (fun hg => X.bin (rfl : _ = (iv (8 : Int))) (gv_on hg : _ = (iv ((lenI b_1) : Int))) (Bin.mul _ _)) ?_
          refine WL.gx rfl (rfl : _ = (Value.bool ((glt k_346 (32 : Int))))) rfl (fun hg => X.bin (gv_on hg : _ = (iv ((gadd bit_8 k_346) : Int))) (gv_on hg : _ = (iv ((gmul (8 : Int) (lenI b_1)) : Int))) (Bin.lss _ _)) ?_
          refine WL.x rfl (X.pick_and (rfl : _ = (Value.bool ((glt k_346 (32 : Int))))) (rfl : _ = (gv ((glt k_346 (32 : Int))) true (Value.bool ((glt (gadd bit_8 k_346) (gmul (8 : Int) (lenI b_1))))))) (rfl : _ = (Value.bool (false)))) ?_
          refine WL.nil ?_
          refine W.condP hp (rfl : _ = (Value.bool (((glt k_346 (32 : Int)) && (glt (gadd bit_8 k_346) (gmul (8 : Int) (lenI b_1))))))) (fun hc hp => ?_) (fun hc hp => ?_)
          · refine W.skip ?_
            refine W.seq ?_
            refine W.block ?_
            refine W.seq ?_
            refine W.seq ?_
            refine W.region ?_
            refine WL.x rfl (X.move (e2_358 : _ = (iv (mask_347 : UInt32)))) ?_
            refine WL.x rfl (X.bin (rfl : _ = (iv (mask_347 : UInt32))) (rfl : _ = (iv (2 : UInt32))) (Bin.rem_u32 _ _ (by decide))) ?_
            refine WL.x rfl (X.bin (rfl : _ = (iv ((grem mask_347 (2 : UInt32)) : UInt32))) (rfl : _ = (iv (1 : UInt32))) (Bin.eql _ _)) ?_
            refine WL.nil ?_
            refine W.condP hp (rfl : _ = (Value.bool ((geq (grem mask_347 (2 : UInt32)) (1 : UInt32))))) (fun hc hp => ?_) (fun hc hp => ?_)
            · refine W.seq ?_
              refine W.region ?_
              refine WL.x rfl (X.assign (rfl : _ = (iv (1 : UInt8)))) ?_
              refine WL.nil ?_
              refine W.seq ?_
              refine W.seq ?_
              refine W.region ?_
              refine WL.x rfl (X.assign (rfl : _ = (iv (0 : Int)))) ?_
              refine WL.nil ?_
              obtain ⟨o_502, hl_509, hp⟩ := bind_some hp
              obtain ⟨one_481, i_482⟩ := o_502
              have ho_501 := hp
              refine W.tailJ (fun σ w => ∃ (A : Reg), (σ 0 = (Value.slice p_2 l_3 c_4) ∧ σ 1 = (iv (bit_8 : Int)) ∧ σ 10 = (iv (k_346 : Int)) ∧ σ 11 = (iv (one_481 : UInt8)) ∧ σ 12 = (iv (i_482 : Int)) ∧ σ 2 = (iv (mask_347 : UInt32)) ∧ σ 25 = (iv (k_346 : Int)) ∧ σ 26 = (Value.bool ((glt k_346 (32 : Int)))) ∧ σ 27 = (Value.bool ((glt k_346 (32 : Int)))) ∧ σ 35 = (Value.bool (((glt k_346 (32 : Int)) && (glt (gadd bit_8 k_346) (gmul (8 : Int) (lenI b_1)))))) ∧ σ 38 = (iv (mask_347 : UInt32)) ∧ σ 39 = (iv ((grem mask_347 (2 : UInt32)) : UInt32)) ∧ σ 40 = (Value.bool ((geq (grem mask_347 (2 : UInt32)) (1 : UInt32)))) ∧ σ 6 = (Value.slice none 0 0) ∧ σ 7 = (iv (0 : Int)) ∧ σ 8 = (Value.slice p_349 l_350 c_351) ∧ σ 9 = (Value.bool (changed_353)) ∧ True) ∧ St A w ([.rd R_5 1 (.slice p_2 l_3 c_4) (encL b_1), .old (fun _ => False) w0]) ([.own 1 5 (.slice p_349 l_350 c_351) (encL out_348)])) ?_ ?_
              · refine W.block (W.loop (fun k σ w => ∃ (one_461 : UInt8) (i_462 : Int) (A : Reg), (σ 0 = (Value.slice p_2 l_3 c_4) ∧ σ 1 = (iv (bit_8 : Int)) ∧ σ 10 = (iv (k_346 : Int)) ∧ σ 11 = (iv (one_461 : UInt8)) ∧ σ 12 = (iv (i_462 : Int)) ∧ σ 2 = (iv (mask_347 : UInt32)) ∧ σ 25 = (iv (k_346 : Int)) ∧ σ 26 = (Value.bool ((glt k_346 (32 : Int)))) ∧ σ 27 = (Value.bool ((glt k_346 (32 : Int)))) ∧ σ 35 = (Value.bool (((glt k_346 (32 : Int)) && (glt (gadd bit_8 k_346) (gmul (8 : Int) (lenI b_1)))))) ∧ σ 38 = (iv (mask_347 : UInt32)) ∧ σ 39 = (iv ((grem mask_347 (2 : UInt32)) : UInt32)) ∧ σ 40 = (Value.bool ((geq (grem mask_347 (2 : UInt32)) (1 : UInt32)))) ∧ σ 6 = (Value.slice none 0 0) ∧ σ 7 = (iv (0 : Int)) ∧ σ 8 = (Value.slice p_349 l_350 c_351) ∧ σ 9 = (Value.bool (changed_353)) ∧ True) ∧ St A w ([.rd R_5 1 (.slice p_2 l_3 c_4) (encL b_1), .old (fun _ => False) w0]) ([.own 1 5 (.slice p_349 l_350 c_351) (encL out_348)]) ∧ cadenzaref44_Burst_l2 bit_8 k_346 k one_461 i_462 = some (one_481, i_482)) FUEL ?_ ?_)
                · have hs := ((hs.noF.addF (hs.fact 1 rfl)).addF (hs.fact 0 rfl))
                  exact ⟨(1 : UInt8), (0 : Int), _, ⟨e0_355, e1_356, e10_357, rfl, rfl, e2_358, rfl, rfl, rfl, rfl, rfl, rfl, rfl, e6_359, e7_360, e8_361, e9_362, trivial⟩, hs, hl_509⟩
                · clear hs
                  intro k σ463 w hI
                  obtain ⟨one_461, i_462, A, ⟨e0_464, e1_465, e10_466, e11_467, e12_468, e2_469, e25_470, e26_471, e27_472, e35_473, e38_474, e39_475, e40_476, e6_477, e7_478, e8_479, e9_480, _⟩, hs, hp⟩ := hI
                  cases k with
                  | zero => cases hp
                  | succ k =>
                    rw [cadenzaref44_Burst_l2] at hp
                    refine W.seq ?_
                    refine W.seq ?_
                    refine W.region ?_
                    refine WL.x rfl (X.move (e12_468 : _ = (iv (i_462 : Int)))) ?_
                    refine WL.x rfl (X.move (e1_465 : _ = (iv (bit_8 : Int)))) ?_
                    refine WL.x rfl (X.move (e10_466 : _ = (iv (k_346 : Int)))) ?_
                    refine WL.x rfl (X.bin (rfl : _ = (iv (bit_8 : Int))) (rfl : _ = (iv (k_346 : Int))) (Bin.add _ _)) ?_
                    refine WL.x rfl (X.bin (rfl : _ = (iv ((gadd bit_8 k_346) : Int))) (rfl : _ = (iv (8 : Int))) (Bin.rem_i64 _ _ (by decide))) ?_
                    refine WL.x rfl (X.bin (rfl : _ = (iv (i_462 : Int))) (rfl : _ = (iv ((irem (gadd bit_8 k_346) (8 : Int)) : Int))) (Bin.lss _ _)) ?_
                    refine WL.nil ?_
                    refine W.condP hp (rfl : _ = (Value.bool ((glt i_462 (irem (gadd bit_8 k_346) (8 : Int)))))) (fun hc hp => ?_) (fun hc hp => ?_)
                    · refine W.skip ?_
                      refine W.seq ?_
                      refine W.block ?_
                      refine W.region ?_
                      refine WL.x rfl (X.move (e11_467 : _ = (iv (one_461 : UInt8)))) ?_
                      refine WL.x rfl (X.bin (rfl : _ = (iv (one_461 : UInt8))) (rfl : _ = (iv (2 : UInt8))) (Bin.mul _ _)) ?_
                      refine WL.x rfl (X.assign (rfl : _ = (iv ((gmul one_461 (2 : UInt8)) : UInt8)))) ?_
                      refine WL.nil ?_
                      refine W.region ?_
                      refine WL.x rfl (X.move (e12_468 : _ = (iv (i_462 : Int)))) ?_
                      refine WL.x rfl (X.bin (rfl : _ = (iv (i_462 : Int))) (rfl : _ = (iv (1 : Int))) (Bin.add _ _)) ?_
                      refine WL.x rfl (X.assign (rfl : _ = (iv ((gadd i_462 (1 : Int)) : Int)))) ?_
                      refine WL.nil ?_
                      have hs := ((hs.noF.addF (hs.fact 1 rfl)).addF (hs.fact 0 rfl))
                      exact ⟨_, Nat.lt_succ_self _, (gmul one_461 (2 : UInt8)), (gadd i_462 (1 : Int)), _, ⟨e0_464, e1_465, e10_466, rfl, rfl, e2_469, e25_470, e26_471, e27_472, e35_473, e38_474, e39_475, e40_476, e6_477, e7_478, e8_479, e9_480, trivial⟩, hs, hp⟩
                    · refine W.exit ?_
                      have hs := ((hs.noF.addF (hs.fact 1 rfl)).addF (hs.fact 0 rfl))
                      cases hp
                      exact ⟨_, ⟨e0_464, e1_465, e10_466, e11_467, e12_468, e2_469, e25_470, e26_471, e27_472, e35_473, e38_474, e39_475, e40_476, e6_477, e7_478, e8_479, e9_480, trivial⟩, hs⟩
              · intro σ483 w hJ
                clear hs
                obtain ⟨A, ⟨e0_484, e1_485, e10_486, e11_487, e12_488, e2_489, e25_490, e26_491, e27_492, e35_493, e38_494, e39_495, e40_496, e6_497, e7_498, e8_499, e9_500, _⟩, hs⟩ := hJ
                refine W.seq ?_
                refine W.region ?_
                refine WL.x rfl (X.move (e8_499 : _ = (Value.slice p_349 l_350 c_351))) ?_
                refine WL.x rfl (X.move (e1_485 : _ = (iv (bit_8 : Int)))) ?_
                refine WL.x rfl (X.move (e10_486 : _ = (iv (k_346 : Int)))) ?_
                refine WL.x rfl (X.bin (rfl : _ = (iv (bit_8 : Int))) (rfl : _ = (iv (k_346 : Int))) (Bin.add _ _)) ?_
                refine WL.x rfl (X.bin (rfl : _ = (iv ((gadd bit_8 k_346) : Int))) (rfl : _ = (iv (8 : Int))) (Bin.quo _ _ (by decide))) ?_
                obtain ⟨c_503, hq_504, hp⟩ := bind_some hp
                obtain ⟨b_505, he_506, hs2⟩ := hs.idxO (L' := fun b_505 => [.at_ b_505 1 5 l_350 c_351 (encL out_348)]) (j := 0) rfl hq_504 (fun _ => rfl)
                replace hs := hs2; clear hs2
                refine WL.x rfl (X.idxA Try.u22 Try.sz5 hs (j := 0) rfl hq_504 he_506 (rfl : _ = (Value.slice p_349 l_350 c_351)) (rfl : _ = (iv ((gquo (gadd bit_8 k_346) (8 : Int)) : Int)))) ?_
                refine WL.x rfl (X.loadA hs (j := 0) rfl Try.pl5 hq_504 (rfl : _ = (Value.pointer (some ⟨b_505, (Int.toNat (gquo (gadd bit_8 k_346) (8 : Int))), none⟩)))) ?_
                refine WL.x rfl (X.move (e11_487 : _ = (iv (one_481 : UInt8)))) ?_
                refine WL.x rfl (X.bin (rfl : _ = (iv (c_503 : UInt8))) (rfl : _ = (iv (one_481 : UInt8))) (Bin.xor _ _)) ?_
                refine WL.x rfl (X.idxA Try.u22 Try.sz5 hs (j := 0) rfl hq_504 he_506 (rfl : _ = (Value.slice p_349 l_350 c_351)) (rfl : _ = (iv ((gquo (gadd bit_8 k_346) (8 : Int)) : Int)))) ?_
                obtain ⟨l_508, hq_507, hp⟩ := bind_some hp
                refine WL.storeA hs (j := 0) rfl Try.sz5 (rfl : _ = (Value.pointer (some ⟨b_505, (Int.toNat (gquo (gadd bit_8 k_346) (8 : Int))), none⟩))) (rfl : _ = (iv ((gxor c_503 one_481) : UInt8))) hq_507 rfl (fun w hs => ?_)
                refine WL.nil ?_
                refine W.region ?_
                refine WL.x rfl (X.assign (rfl : _ = (Value.bool (true)))) ?_
                refine WL.nil ?_
                refine W.region ?_
                refine WL.x rfl (X.move (e2_489 : _ = (iv (mask_347 : UInt32)))) ?_
                refine WL.x rfl (X.bin (rfl : _ = (iv (mask_347 : UInt32))) (rfl : _ = (iv (2 : UInt32))) (Bin.quo _ _ (by decide))) ?_
                refine WL.x rfl (X.assign (rfl : _ = (iv ((gquo mask_347 (2 : UInt32)) : UInt32)))) ?_
                refine WL.nil ?_
                refine W.region ?_
                refine WL.x rfl (X.move (e10_486 : _ = (iv (k_346 : Int)))) ?_
                refine WL.x rfl (X.bin (rfl : _ = (iv (k_346 : Int))) (rfl : _ = (iv (1 : Int))) (Bin.add _ _)) ?_
                refine WL.x rfl (X.assign (rfl : _ = (iv ((gadd k_346 (1 : Int)) : Int)))) ?_
                refine WL.nil ?_
                have hs := hs.hideP he_506 (i := 0) rfl
                have hs : St _ _ ([.rd R_5 1 (.slice p_2 l_3 c_4) (encL b_1), .old (fun _ => False) w0]) ([.own 1 5 (.slice p_349 l_350 c_351) (encL l_508)]) := hs
                have hs := ((hs.noF.addF (hs.fact 1 rfl)).addF (hs.fact 0 rfl))
                exact ⟨_, Nat.lt_succ_self _, (gadd k_346 (1 : Int)), (gquo mask_347 (2 : UInt32)), l_508, true, p_349, l_350, c_351, _, ⟨e0_484, e1_485, rfl, rfl, e6_497, e7_498, e8_499, rfl, trivial⟩, hs, hp⟩
            · refine W.skip ?_
              refine W.region ?_
              refine WL.x rfl (X.move (e2_358 : _ = (iv (mask_347 : UInt32)))) ?_
              refine WL.x rfl (X.bin (rfl : _ = (iv (mask_347 : UInt32))) (rfl : _ = (iv (2 : UInt32))) (Bin.quo _ _ (by decide))) ?_
              refine WL.x rfl (X.assign (rfl : _ = (iv ((gquo mask_347 (2 : UInt32)) : UInt32)))) ?_
              refine WL.nil ?_
              refine W.region ?_
              refine WL.x rfl (X.move (e10_357 : _ = (iv (k_346 : Int)))) ?_
              refine WL.x rfl (X.bin (rfl : _ = (iv (k_346 : Int))) (rfl : _ = (iv (1 : Int))) (Bin.add _ _)) ?_
              refine WL.x rfl (X.assign (rfl : _ = (iv ((gadd k_346 (1 : Int)) : Int)))) ?_
              refine WL.nil ?_
              have hs := ((hs.noF.addF (hs.fact 1 rfl)).addF (hs.fact 0 rfl))
              exact ⟨_, Nat.lt_succ_self _, (gadd k_346 (1 : Int)), (gquo mask_347 (2 : UInt32)), out_348, changed_353, p_349, l_350, c_351, _, ⟨e0_355, e1_356, rfl, rfl, e6_359, e7_360, e8_361, e9_362, trivial⟩, hs, hp⟩
          · refine W.exit ?_
            have hs := (hs.noF.addF (hs.fact 1 rfl))
            cases hp
            exact ⟨p_349, l_350, c_351, _, ⟨e6_359, e7_360, e8_361, e9_362, trivial⟩, hs⟩
    · intro σ436 w hJ
      clear hs
      obtain ⟨p_431, l_432, c_433, A, ⟨e6_437, e7_438, e8_439, e9_440, _⟩, hs⟩ := hJ
      refine W.seq ?_
      refine W.seq ?_
      refine W.region ?_
      refine WL.x rfl (X.move (e9_440 : _ = (Value.bool (changed_435)))) ?_
      refine WL.x rfl (X.not (rfl : _ = (Value.bool (changed_435)))) ?_
      refine WL.nil ?_
      refine W.condP hp (rfl : _ = (Value.bool ((!changed_435)))) (fun hc hp => ?_) (fun hc hp => ?_)
      · refine W.seq ?_
        refine W.region ?_
        refine WL.x rfl (X.assign (rfl : _ = (Value.slice none 0 0))) ?_
        refine WL.x rfl (X.assign (rfl : _ = (iv (2 : Int)))) ?_
        refine WL.nil ?_
        refine W.ret ?_
        have hs := hs.addNil 1 5
        cases hp
        refine ⟨.inl rfl, [(Value.slice none 0 0), (iv (2 : Int))], ⟨rfl, rfl, trivial⟩, none, 0, 0, rfl, ?_⟩
        exact fr_own hs (i := 0) rfl (j := 0) rfl
      · refine W.skip ?_
        refine W.seq ?_
        refine W.region ?_
        refine WL.x rfl (X.move (e8_439 : _ = (Value.slice p_431 l_432 c_433))) ?_
        refine WL.x rfl (X.assign (rfl : _ = (Value.slice p_431 l_432 c_433))) ?_
        refine WL.x rfl (X.assign (rfl : _ = (iv (0 : Int)))) ?_
        refine WL.nil ?_
        refine W.ret ?_
        cases hp
        refine ⟨.inl rfl, [(Value.slice p_431 l_432 c_433), (iv (0 : Int))], ⟨rfl, rfl, trivial⟩, p_431, l_432, c_433, rfl, ?_⟩
        exact fr_own hs (i := 0) rfl (j := 0) rfl

theorem cadenzalaw44_DamageMakes_ok (w0 : World) (p_2 : Option Addr) (l_3 c_4 : Nat) (b_1 : List UInt8) (R_5 : Reg) (h_6 : Rd R_5 w0 1 (.slice p_2 l_3 c_4) (encL b_1)) (at_8 : Int) (by_9 : UInt8) (bit_10 : Int) (mask_11 : UInt32) (y : Bool) (hp : cadenzalaw44_DamageMakes b_1 at_8 by_9 bit_10 mask_11 = some y) :
  Calls Try.prog 3 [(Value.slice p_2 l_3 c_4), (iv (at_8 : Int)), (iv (by_9 : UInt8)), (iv (bit_10 : Int)), (iv (mask_11 : UInt32))].toArray w0 fun e w' => e = .returned (packRes [(Value.bool y)]) ∧ Fr w0 w' [] [] := by
  unfold cadenzalaw44_DamageMakes at hp
  refine calls_of_W (vs := [(Value.slice p_2 l_3 c_4), (iv (at_8 : Int)), (iv (by_9 : UInt8)), (iv (bit_10 : Int)), (iv (mask_11 : UInt32))]) Try.func3 rfl Try.ntmps3 rfl rfl ?_
  have hs := St.start w0
  have hs := hs.addRd h_6.start
  obtain ⟨A, hA⟩ : ∃ A : Reg, A = fun b => b < w0.heap.size := ⟨_, rfl⟩
  rw [← hA] at hs
  clear hA
  obtain ⟨w, hw⟩ : ∃ w : World, w = w0 := ⟨_, rfl⟩
  have hs : St A w ([.rd R_5 1 (.slice p_2 l_3 c_4) (encL b_1), .old (fun _ => False) w0]) ([]) := hw ▸ hs
  refine cast_world hw ?_
  clear hw
  refine W.seq ?_
  refine W.region ?_
  refine WL.x rfl (X.assign (rfl : _ = (Value.bool (false)))) ?_
  refine WL.nil ?_
  refine W.seq ?_
  refine W.seq ?_
  refine W.region ?_
  refine WL.x rfl (X.move (rfl : _ = (Value.slice p_2 l_3 c_4))) ?_
  refine WL.x rfl (X.lenR Try.u22 hs (j := 0) rfl (rfl : _ = (Value.slice p_2 l_3 c_4))) ?_
  refine WL.x rfl (X.bin (rfl : _ = (iv ((lenI b_1) : Int))) (rfl : _ = (iv (1000 : Int))) (Bin.gtr _ _)) ?_
  refine WL.nil ?_
  refine W.condP hp (rfl : _ = (Value.bool ((ggt (lenI b_1) (1000 : Int))))) (fun hc hp => ?_) (fun hc hp => ?_)
  · refine W.seq ?_
    refine W.region ?_
    refine WL.x rfl (X.assign (rfl : _ = (Value.bool (true)))) ?_
    refine WL.nil ?_
    refine W.ret ?_
    cases hp
    refine ⟨.inl rfl, [(Value.bool (true))], ⟨rfl, trivial⟩, rfl, ?_⟩
    exact fr_nil hs (i := 1) rfl
  · refine W.skip ?_
    refine W.seq ?_
    refine W.region ?_
    refine WL.bsI ([] : List UInt8) Try.u22 Try.el5 hs rfl rfl rfl rfl (fun p_49 l_50 c_51 w hs => ?_)
    refine WL.x rfl (X.move (rfl : _ = (Value.slice p_2 l_3 c_4))) ?_
    obtain ⟨x_53, hq_54, hp⟩ := bind_some hp
    refine WL.appO (l := ([] : List UInt8)) (m := b_1) (L' := fun p_55 l_56 c_57 => [.own 1 5 (.slice p_55 l_56 c_57) (encL x_53)]) Try.u22 ⟨_, Try.u22⟩ Try.el5 hs (i := 0) rfl rfl (rfl : _ = (Value.slice p_49 l_50 c_51)) (rfl : _ = (Value.slice p_2 l_3 c_4)) (hs.rd (j := 0) rfl) hq_54 (fun _ _ _ => rfl) (fun p_55 l_56 c_57 w hs => ?_)
    refine WL.x rfl (X.assign (rfl : _ = (Value.slice p_55 l_56 c_57))) ?_
    refine WL.nil ?_
    refine W.seq ?_
    refine W.region ?_
    refine WL.x rfl (X.move (rfl : _ = (Value.slice p_55 l_56 c_57))) ?_
    refine WL.x rfl (X.move (rfl : _ = (iv (at_8 : Int)))) ?_
    refine WL.x rfl (X.move (rfl : _ = (iv (by_9 : UInt8)))) ?_
    obtain ⟨⟨l_58, r_63⟩, hq_64, hp⟩ := bind_some hp
    refine WL.e rfl (X.call Try.ent4 (rfl : _ = [(Value.slice p_55 l_56 c_57), (iv (at_8 : Int)), (iv (by_9 : UInt8))])) (damage_Flip_ok _ p_55 l_56 c_57 x_53 _ ((hs.own_rd (j := 0) rfl)) at_8 by_9 (l_58, r_63) hq_64) ?_
    rintro _ w ⟨p_59, l_60, c_61, rfl, hfr⟩
    refine ⟨_, rfl, ?_⟩
    obtain ⟨_, hs⟩ := hs.call hfr
    have hs : St _ _ ([.rd R_5 1 (.slice p_2 l_3 c_4) (encL b_1), .old (fun _ => False) w0]) ([.own 1 5 (.slice p_59 l_60 c_61) (encL l_58), .own 1 5 (.slice p_55 l_56 c_57) (encL x_53)]) := hs
    refine WL.x rfl (X.move (rfl : _ = (Value.tuple [(Value.slice p_59 l_60 c_61), (iv (r_63 : Int))].toArray))) ?_
    refine WL.x rfl (X.extract (v := (Value.slice p_59 l_60 c_61)) (rfl : _ = (Value.tuple [(Value.slice p_59 l_60 c_61), (iv (r_63 : Int))].toArray)) rfl) ?_
    refine WL.x rfl (X.extract (v := (iv (r_63 : Int))) (rfl : _ = (Value.tuple [(Value.slice p_59 l_60 c_61), (iv (r_63 : Int))].toArray)) rfl) ?_
    refine WL.x rfl (X.assign (rfl : _ = (Value.slice p_59 l_60 c_61))) ?_
    refine WL.x rfl (X.assign (rfl : _ = (iv (r_63 : Int)))) ?_
    refine WL.nil ?_
    refine W.seq ?_
    refine W.region ?_
    refine WL.x rfl (X.move (rfl : _ = (Value.slice p_2 l_3 c_4))) ?_
    refine WL.x rfl (X.move (rfl : _ = (iv (at_8 : Int)))) ?_
    refine WL.x rfl (X.move (rfl : _ = (iv (by_9 : UInt8)))) ?_
    obtain ⟨⟨l_65, r_70⟩, hq_71, hp⟩ := bind_some hp
    refine WL.e rfl (X.call Try.ent5 (rfl : _ = [(Value.slice p_2 l_3 c_4), (iv (at_8 : Int)), (iv (by_9 : UInt8))])) (cadenzaref44_Flip_ok _ p_2 l_3 c_4 b_1 _ ((hs.rdT (j := 0) rfl)) at_8 by_9 (l_65, r_70) hq_71) ?_
    rintro _ w ⟨p_66, l_67, c_68, rfl, hfr⟩
    refine ⟨_, rfl, ?_⟩
    obtain ⟨_, hs⟩ := hs.call hfr
    have hs : St _ _ ([.rd R_5 1 (.slice p_2 l_3 c_4) (encL b_1), .old (fun _ => False) w0]) ([.own 1 5 (.slice p_66 l_67 c_68) (encL l_65), .own 1 5 (.slice p_59 l_60 c_61) (encL l_58), .own 1 5 (.slice p_55 l_56 c_57) (encL x_53)]) := hs
    refine WL.x rfl (X.move (rfl : _ = (Value.tuple [(Value.slice p_66 l_67 c_68), (iv (r_70 : Int))].toArray))) ?_
    refine WL.x rfl (X.extract (v := (Value.slice p_66 l_67 c_68)) (rfl : _ = (Value.tuple [(Value.slice p_66 l_67 c_68), (iv (r_70 : Int))].toArray)) rfl) ?_
    refine WL.x rfl (X.extract (v := (iv (r_70 : Int))) (rfl : _ = (Value.tuple [(Value.slice p_66 l_67 c_68), (iv (r_70 : Int))].toArray)) rfl) ?_
    refine WL.x rfl (X.assign (rfl : _ = (Value.slice p_66 l_67 c_68))) ?_
    refine WL.x rfl (X.assign (rfl : _ = (iv (r_70 : Int)))) ?_
    refine WL.nil ?_
    refine W.seq ?_
    refine W.region ?_
    refine WL.x rfl (X.move (rfl : _ = (Value.slice p_55 l_56 c_57))) ?_
    refine WL.x rfl (X.move (rfl : _ = (iv (bit_10 : Int)))) ?_
    refine WL.x rfl (X.move (rfl : _ = (iv (mask_11 : UInt32)))) ?_
    obtain ⟨⟨l_72, r_77⟩, hq_78, hp⟩ := bind_some hp
    refine WL.e rfl (X.call Try.ent6 (rfl : _ = [(Value.slice p_55 l_56 c_57), (iv (bit_10 : Int)), (iv (mask_11 : UInt32))])) (damage_Burst_ok _ p_55 l_56 c_57 x_53 _ ((hs.own_rd (j := 2) rfl)) bit_10 mask_11 (l_72, r_77) hq_78) ?_
    rintro _ w ⟨p_73, l_74, c_75, rfl, hfr⟩
    refine ⟨_, rfl, ?_⟩
    obtain ⟨_, hs⟩ := hs.call hfr
    have hs : St _ _ ([.rd R_5 1 (.slice p_2 l_3 c_4) (encL b_1), .old (fun _ => False) w0]) ([.own 1 5 (.slice p_73 l_74 c_75) (encL l_72), .own 1 5 (.slice p_66 l_67 c_68) (encL l_65), .own 1 5 (.slice p_59 l_60 c_61) (encL l_58), .own 1 5 (.slice p_55 l_56 c_57) (encL x_53)]) := hs
    refine WL.x rfl (X.move (rfl : _ = (Value.tuple [(Value.slice p_73 l_74 c_75), (iv (r_77 : Int))].toArray))) ?_
    refine WL.x rfl (X.extract (v := (Value.slice p_73 l_74 c_75)) (rfl : _ = (Value.tuple [(Value.slice p_73 l_74 c_75), (iv (r_77 : Int))].toArray)) rfl) ?_
    refine WL.x rfl (X.extract (v := (iv (r_77 : Int))) (rfl : _ = (Value.tuple [(Value.slice p_73 l_74 c_75), (iv (r_77 : Int))].toArray)) rfl) ?_
    refine WL.x rfl (X.assign (rfl : _ = (Value.slice p_73 l_74 c_75))) ?_
    refine WL.x rfl (X.assign (rfl : _ = (iv (r_77 : Int)))) ?_
    refine WL.nil ?_
    refine W.seq ?_
    refine W.region ?_
    refine WL.x rfl (X.move (rfl : _ = (Value.slice p_2 l_3 c_4))) ?_
    refine WL.x rfl (X.move (rfl : _ = (iv (bit_10 : Int)))) ?_
    refine WL.x rfl (X.move (rfl : _ = (iv (mask_11 : UInt32)))) ?_
    obtain ⟨⟨l_79, r_84⟩, hq_85, hp⟩ := bind_some hp
    refine WL.e rfl (X.call Try.ent7 (rfl : _ = [(Value.slice p_2 l_3 c_4), (iv (bit_10 : Int)), (iv (mask_11 : UInt32))])) (cadenzaref44_Burst_ok _ p_2 l_3 c_4 b_1 _ ((hs.rdT (j := 0) rfl)) bit_10 mask_11 (l_79, r_84) hq_85) ?_
    rintro _ w ⟨p_80, l_81, c_82, rfl, hfr⟩
    refine ⟨_, rfl, ?_⟩
    obtain ⟨_, hs⟩ := hs.call hfr
    have hs : St _ _ ([.rd R_5 1 (.slice p_2 l_3 c_4) (encL b_1), .old (fun _ => False) w0]) ([.own 1 5 (.slice p_80 l_81 c_82) (encL l_79), .own 1 5 (.slice p_73 l_74 c_75) (encL l_72), .own 1 5 (.slice p_66 l_67 c_68) (encL l_65), .own 1 5 (.slice p_59 l_60 c_61) (encL l_58), .own 1 5 (.slice p_55 l_56 c_57) (encL x_53)]) := hs
    refine WL.x rfl (X.move (rfl : _ = (Value.tuple [(Value.slice p_80 l_81 c_82), (iv (r_84 : Int))].toArray))) ?_
    refine WL.x rfl (X.extract (v := (Value.slice p_80 l_81 c_82)) (rfl : _ = (Value.tuple [(Value.slice p_80 l_81 c_82), (iv (r_84 : Int))].toArray)) rfl) ?_
    refine WL.x rfl (X.extract (v := (iv (r_84 : Int))) (rfl : _ = (Value.tuple [(Value.slice p_80 l_81 c_82), (iv (r_84 : Int))].toArray)) rfl) ?_
    refine WL.x rfl (X.assign (rfl : _ = (Value.slice p_80 l_81 c_82))) ?_
    refine WL.x rfl (X.assign (rfl : _ = (iv (r_84 : Int)))) ?_
    refine WL.nil ?_
    refine W.seq ?_
    refine W.region ?_
    refine WL.x rfl (X.move (rfl : _ = (Value.slice p_59 l_60 c_61))) ?_
    refine WL.x rfl (X.b2s Try.u22 Try.u5 Try.u9 (hs.own_rd (j := 3) rfl) (rfl : _ = (Value.slice p_59 l_60 c_61))) ?_
    refine WL.x rfl (X.move (rfl : _ = (Value.slice p_66 l_67 c_68))) ?_
    refine WL.x rfl (X.b2s Try.u22 Try.u5 Try.u9 (hs.own_rd (j := 2) rfl) (rfl : _ = (Value.slice p_66 l_67 c_68))) ?_
    refine WL.x rfl (X.bin (rfl : _ = (sv l_58)) (rfl : _ = (sv l_65)) (Bin.str_eql _ _)) ?_
    refine WL.x rfl (X.move (rfl : _ = (Value.bool ((l_58 == l_65))))) ?_
    refine WL.gx rfl (rfl : _ = (Value.bool ((l_58 == l_65)))) rfl (fun hg => X.move (rfl : _ = (iv (r_63 : Int)))) ?_
    refine WL.gx rfl (rfl : _ = (Value.bool ((l_58 == l_65)))) rfl (fun hg => X.move (rfl : _ = (iv (r_70 : Int)))) ?_
    refine WL.gx rfl (rfl : _ = (Value.bool ((l_58 == l_65)))) rfl (fun hg => X.bin (gv_on hg : _ = (iv (r_63 : Int))) (gv_on hg : _ = (iv (r_70 : Int))) (Bin.eql _ _)) ?_
    refine WL.x rfl (X.pick_and (rfl : _ = (Value.bool ((l_58 == l_65)))) (rfl : _ = (gv ((l_58 == l_65)) true (Value.bool ((geq r_63 r_70))))) (rfl : _ = (Value.bool (false)))) ?_
    refine WL.x rfl (X.move (rfl : _ = (Value.bool (((l_58 == l_65) && (geq r_63 r_70)))))) ?_
    refine WL.gx rfl (rfl : _ = (Value.bool (((l_58 == l_65) && (geq r_63 r_70))))) rfl (fun hg => X.move (rfl : _ = (Value.slice p_73 l_74 c_75))) ?_
    refine WL.gx rfl (rfl : _ = (Value.bool (((l_58 == l_65) && (geq r_63 r_70))))) rfl (fun hg => X.b2s Try.u22 Try.u5 Try.u9 (hs.own_rd (j := 1) rfl) (gv_on hg : _ = (Value.slice p_73 l_74 c_75))) ?_
    refine WL.gx rfl (rfl : _ = (Value.bool (((l_58 == l_65) && (geq r_63 r_70))))) rfl (fun hg => X.move (rfl : _ = (Value.slice p_80 l_81 c_82))) ?_
    refine WL.gx rfl (rfl : _ = (Value.bool (((l_58 == l_65) && (geq r_63 r_70))))) rfl (fun hg => X.b2s Try.u22 Try.u5 Try.u9 (hs.own_rd (j := 0) rfl) (gv_on hg : _ = (Value.slice p_80 l_81 c_82))) ?_
    refine WL.gx rfl (rfl : _ = (Value.bool (((l_58 == l_65) && (geq r_63 r_70))))) rfl (fun hg => X.bin (gv_on hg : _ = (sv l_72)) (gv_on hg : _ = (sv l_79)) (Bin.str_eql _ _)) ?_
    refine WL.x rfl (X.pick_and (rfl : _ = (Value.bool (((l_58 == l_65) && (geq r_63 r_70))))) (rfl : _ = (gv (((l_58 == l_65) && (geq r_63 r_70))) true (Value.bool ((l_72 == l_79))))) (rfl : _ = (Value.bool (false)))) ?_
    refine WL.x rfl (X.move (rfl : _ = (Value.bool ((((l_58 == l_65) && (geq r_63 r_70)) && (l_72 == l_79)))))) ?_
    refine WL.gx rfl (rfl : _ = (Value.bool ((((l_58 == l_65) && (geq r_63 r_70)) && (l_72 == l_79))))) rfl (fun hg => X.move (rfl : _ = (iv (r_77 : Int)))) ?_
    refine WL.gx rfl (rfl : _ = (Value.bool ((((l_58 == l_65) && (geq r_63 r_70)) && (l_72 == l_79))))) rfl (fun hg => X.move (rfl : _ = (iv (r_84 : Int)))) ?_
    refine WL.gx rfl (rfl : _ = (Value.bool ((((l_58 == l_65) && (geq r_63 r_70)) && (l_72 == l_79))))) rfl (fun hg => X.bin (gv_on hg : _ = (iv (r_77 : Int))) (gv_on hg : _ = (iv (r_84 : Int))) (Bin.eql _ _)) ?_
    refine WL.x rfl (X.pick_and (rfl : _ = (Value.bool ((((l_58 == l_65) && (geq r_63 r_70)) && (l_72 == l_79))))) (rfl : _ = (gv ((((l_58 == l_65) && (geq r_63 r_70)) && (l_72 == l_79))) true (Value.bool ((geq r_77 r_84))))) (rfl : _ = (Value.bool (false)))) ?_
    refine WL.x rfl (X.move (rfl : _ = (Value.bool (((((l_58 == l_65) && (geq r_63 r_70)) && (l_72 == l_79)) && (geq r_77 r_84)))))) ?_
    refine WL.gx rfl (rfl : _ = (Value.bool (((((l_58 == l_65) && (geq r_63 r_70)) && (l_72 == l_79)) && (geq r_77 r_84))))) rfl (fun hg => X.move (rfl : _ = (Value.slice p_55 l_56 c_57))) ?_
    refine WL.gx rfl (rfl : _ = (Value.bool (((((l_58 == l_65) && (geq r_63 r_70)) && (l_72 == l_79)) && (geq r_77 r_84))))) rfl (fun hg => X.b2s Try.u22 Try.u5 Try.u9 (hs.own_rd (j := 4) rfl) (gv_on hg : _ = (Value.slice p_55 l_56 c_57))) ?_
    refine WL.gx rfl (rfl : _ = (Value.bool (((((l_58 == l_65) && (geq r_63 r_70)) && (l_72 == l_79)) && (geq r_77 r_84))))) rfl (fun hg => X.move (rfl : _ = (Value.slice p_2 l_3 c_4))) ?_
    refine WL.gx rfl (rfl : _ = (Value.bool (((((l_58 == l_65) && (geq r_63 r_70)) && (l_72 == l_79)) && (geq r_77 r_84))))) rfl (fun hg => X.b2s Try.u22 Try.u5 Try.u9 (hs.rd (j := 0) rfl) (gv_on hg : _ = (Value.slice p_2 l_3 c_4))) ?_
    refine WL.gx rfl (rfl : _ = (Value.bool (((((l_58 == l_65) && (geq r_63 r_70)) && (l_72 == l_79)) && (geq r_77 r_84))))) rfl (fun hg => X.bin (gv_on hg : _ = (sv x_53)) (gv_on hg : _ = (sv b_1)) (Bin.str_eql _ _)) ?_
    refine WL.x rfl (X.pick_and (rfl : _ = (Value.bool (((((l_58 == l_65) && (geq r_63 r_70)) && (l_72 == l_79)) && (geq r_77 r_84))))) (rfl : _ = (gv (((((l_58 == l_65) && (geq r_63 r_70)) && (l_72 == l_79)) && (geq r_77 r_84))) true (Value.bool ((x_53 == b_1))))) (rfl : _ = (Value.bool (false)))) ?_
    refine WL.x rfl (X.assign (rfl : _ = (Value.bool ((((((l_58 == l_65) && (geq r_63 r_70)) && (l_72 == l_79)) && (geq r_77 r_84)) && (x_53 == b_1)))))) ?_
    refine WL.nil ?_
    refine W.ret ?_
    cases hp
    refine ⟨.inl rfl, [(Value.bool ((((((l_58 == l_65) && (geq r_63 r_70)) && (l_72 == l_79)) && (geq r_77 r_84)) && (x_53 == b_1))))], ⟨rfl, trivial⟩, rfl, ?_⟩
    exact fr_nil hs (i := 1) rfl
end Go.Proofs.Ytbacpdojepghaaa
