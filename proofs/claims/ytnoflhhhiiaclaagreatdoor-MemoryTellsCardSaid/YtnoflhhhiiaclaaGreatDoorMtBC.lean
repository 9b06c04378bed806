/- A part of the proof of a statement of this seat (see the text that ends in Proof): RxRun, RxPt, RxTab, RxHd, RxRow, RxAgg, RxOpn. No conditions of its own. -/
import Derived.Test.YtnoflhhhiiaclaaGreatDoorMtBB
import Derived.Test.YtnoflhhhiiaclaaGreatDoorMtBA
import Derived.ProofKit
import Derived.LaidMore
import Derived.DataReads
set_option linter.unusedVariables false
set_option linter.unusedSimpArgs false
namespace Go.Rx
open Go Go.Lv
variable {P : Program} {B B' : Reg} {w w' : World} {L L' : List MD} {s : S} {σs : List Env} {σ : Env} {Z : Fix} {A A' : Reg} {n : Nat} {ops : Array Oper}
variable {R : Type} {r : R} {T : Tab} {inl : Inl R}
abbrev LS := List (ET × Option TypeId)
def Gq : LS → List PV → Nat → List Nat
 | p :: r, v :: vs, c => match p.2 with
  | none => Gq r vs c
  | some _ => (match v with | .own i => i | _ => c) :: Gq r vs (c + 1)
 | _, _, _ => []
def Aj4 : LS → List MD
 | p :: r => match p.2 with
  | none => Aj4 r
  | some E => (match p.1 with | .list a => .own a.size E (.slice none 0 0) [] | _ => .dead) :: Aj4 r
 | [] => []
theorem Bpv (h : Mobs w A (L.map MD.Is)) : ∀ (ls : LS), Mobs w A ((L ++ Aj4 ls).map MD.Is) := by
 have one : ∀ (m : MD) (ms : List MD), m.Is.holds none w → Mobs w A ((L ++ ms).map MD.Is) → Mobs w A ((L ++ m :: ms).map MD.Is) := by
  intro m ms hm h
  have : Mobs w A (m.Is :: (L ++ ms).map MD.Is) := ⟨none, hm, fun b hb => (by cases hb), h.Ae1 fun b hb => hb.elim id (fun h => by cases h)⟩
  refine this.perm ?_
  rw [List.map_append, List.map_append, List.map_cons]
  exact (List.perm_middle).symm
 intro ls
 induction ls with
 | nil => simpa [Aj4] using h
 | cons p ls ih =>
  obtain ⟨e, o⟩ := p
  cases o with
  | none => exact ih
  | some E => cases e <;> exact one _ _ (by first | exact Ay7 | exact ⟨none, 0, 0, rfl, by simp, Nat.le_refl _, fun _ => rfl, fun _ => rfl, fun b h => by cases h⟩) ih
theorem Ap5 : ∀ {ls : LS} {vs : List PV} {seen : List Nat} {c : Nat}, Alp s ls vs seen = true → s.it.length ≤ c → distinct (Gq ls vs c) = true ∧ ∀ i ∈ Gq ls vs c, (i < s.it.length ∧ i ∉ seen) ∨ c ≤ i
 | [], [], _, _, _, _ => ⟨rfl, by simp [Gq]⟩
 | [], _ :: _, _, _, h, _ => by simp [Alp] at h
 | _ :: _, [], _, _, h, _ => by simp [Alp] at h
 | (e, none) :: ls, v :: vs, seen, c, h, hc => by
  simp only [Alp, Bool.and_eq_true] at h
  exact Ap5 (ls := ls) (vs := vs) (seen := seen) (c := c) h.2 hc
 | (e, some E) :: ls, v :: vs, seen, c, h, hc => by
  simp only [Alp] at h
  split at h
  ·obtain ⟨h1, h2⟩ := Ap5 h (c := c + 1) (by omega)
   refine ⟨?_, fun i hi => ?_⟩
   ·simp only [Gq, distinct, Bool.and_eq_true, Bool.not_eq_true']
    refine ⟨?_, h1⟩
    cases hx : Zg c (Gq ls vs (c + 1)) with
    | false => rfl
    | true => rcases h2 c (Aa6.1 hx) with ⟨h3, _⟩ | h3 <;> omega
   ·simp only [Gq, List.mem_cons] at hi
    rcases hi with rfl | hi
    ·exact .inr (Nat.le_refl _)
    ·rcases h2 i hi with h3 | h3
     ·exact .inl h3
     ·exact .inr (by omega)
  ·rename_i a i
   simp only [Bool.and_eq_true, Bool.not_eq_true'] at h
   obtain ⟨⟨h0, hit⟩, h⟩ := h
   have hlt : i < s.it.length := by
    split at hit
    ·rename_i E' a' l hi
     exact (List.getElem?_eq_some_iff.1 (Ara hi (by intro e; cases e))).1
    ·cases hit
   obtain ⟨h1, h2⟩ := Ap5 h (c := c + 1) (by omega)
   refine ⟨?_, fun j hj => ?_⟩
   ·simp only [Gq, distinct, Bool.and_eq_true, Bool.not_eq_true']
    refine ⟨?_, h1⟩
    cases hx : Zg i (Gq ls vs (c + 1)) with
    | false => rfl
    | true =>
     rcases h2 i (Aa6.1 hx) with ⟨_, h3⟩ | h3
     ·exact absurd (List.mem_cons_self) h3
     ·omega
   ·simp only [Gq, List.mem_cons] at hj
    rcases hj with rfl | hj
    ·exact .inl ⟨hlt, fun hm => by have := Aa6.2 hm; rw [h0] at this; cases this⟩
    ·rcases h2 j hj with ⟨h3, h4⟩ | h3
     ·exact .inl ⟨h3, fun hm => h4 (List.mem_cons_of_mem _ hm)⟩
     ·exact .inr (by omega)
  ·cases h
theorem Bqd {e : ET} {q : PV} {x : e.T} (hr : Rel Z s σs A L σ w) (h : Aon s e q = some x) (ho : owns q = []) (hb : e.Axw = true → ∀ b, A b ∧ Z.R b → B' b) {L' : List MD} : Anz (fun b => A b ∧ Z.R b) w L B' w L' q (.val e x) := by
 obtain ⟨h1, h2⟩ := Bdi (L' := L') hr h (B' := fun b => A b ∧ Z.R b) (fun _ h => h) (fun i hi => by rw [ho] at hi; cases hi)
 refine ⟨h1, fun cs hcs => ?_⟩
 have h3 : Ar (fun b => A b ∧ Z.R b) w e x cs := h2 cs hcs
 cases hl : e.Axw with
 | true => exact Ar.step (hb hl) (fun _ _ => rfl) h3
 | false => exact Ar.noL hl h3
theorem Br3 {e : ET} {l : List e.T} {cs : List Value} (hb : e.Axw = true → ∀ b, B b → B' b) (h : Bl (Ar B w e) l cs) : Bl (Ar B' w e) l cs := by
 cases hl : e.Axw with
 | true => exact h.mono fun x c hx => Ar.step (hb hl) (fun _ _ => rfl) hx
 | false => exact h.mono fun x c hx => Ar.noL hl hx
theorem Ayd (hr : Rel Z s σs A L σ w) {LP : List MD} (hP : ∀ (i : Nat) (m : MD), L[i]? = some m → LP[i]? = some m) : ∀ (ls : LS) (vs : List PV) (y : LTy ls) (seen : List Nat) (c : Nat) (s0 : S) (Lx LF : List MD),
  Alp s ls vs seen = true → Aij s ls vs = some y → (∀ p ∈ ls, Bmu p = true → ∀ b, A b ∧ Z.R b → B' b) → (∀ i m, (Aj4 ls)[i]? = some m → LP[c + i]? = some m) → Lx.length = s0.it.length → LF = Lx ++ (Gq ls vs c).map (fun i => LP.getD i .dead) →
  ∃ its, (Ea ls y s0).2 = ⟨s0.sl, s0.it ++ its, s0.st⟩ ∧ its.length = (Gq ls vs c).length ∧ All2 (Anz (fun b => A b ∧ Z.R b) w L B' w LF) vs (Ea ls y s0).1 ∧
   ∀ (i : Nat) (a : Item) (m : MD), its[i]? = some a → ((Gq ls vs c).map (fun i => LP.getD i .dead))[i]? = some m → ItemR B' w LF a m
 | [], vs, y, seen, c, s0, Lx, LF, ho, hp, _, _, _, _ => by
  rw [Bc8 hp]
  refine ⟨[], ?_, rfl, All2.nil, fun i a m h => by simp at h⟩
  rw [Ax8]; simp
 | p :: ls, vs, y, seen, c, s0, Lx, LF, ho, hp, hb, hn, hlen, hLF => by
  have main : ∀ (v : PV) (vs' : List PV) (x : p.1.T) (rest : S → List PV × S), vs = v :: vs' → Aon s p.1 v = some x →
    (Ea (p :: ls) y s0 = ((Dq p.1 p.2 x s0).1 :: (rest (Dq p.1 p.2 x s0).2).1, (rest (Dq p.1 p.2 x s0).2).2)) →
    (∀ (seen : List Nat) (c : Nat) (s1 : S) (Lx : List MD), Alp s ls vs' seen = true → (∀ i m, (Aj4 ls)[i]? = some m → LP[c + i]? = some m) → Lx.length = s1.it.length → LF = Lx ++ (Gq ls vs' c).map (fun i => LP.getD i .dead) →
     ∃ its, (rest s1).2 = ⟨s1.sl, s1.it ++ its, s1.st⟩ ∧ its.length = (Gq ls vs' c).length ∧ All2 (Anz (fun b => A b ∧ Z.R b) w L B' w LF) vs' (rest s1).1 ∧
      ∀ (i : Nat) (a : Item) (m : MD), its[i]? = some a → ((Gq ls vs' c).map (fun i => LP.getD i .dead))[i]? = some m → ItemR B' w LF a m) →
    ∃ its, (Ea (p :: ls) y s0).2 = ⟨s0.sl, s0.it ++ its, s0.st⟩ ∧ its.length = (Gq (p :: ls) vs c).length ∧ All2 (Anz (fun b => A b ∧ Z.R b) w L B' w LF) vs (Ea (p :: ls) y s0).1 ∧
     ∀ (i : Nat) (a : Item) (m : MD), its[i]? = some a → ((Gq (p :: ls) vs c).map (fun i => LP.getD i .dead))[i]? = some m → ItemR B' w LF a m := by
   intro v vs' x rest hvs hx hu hrest
   subst hvs
   rw [hu]
   have hbp := hb p (.head _)
   obtain ⟨e, o⟩ := p
   cases o with
   | none =>
    simp only [Alp, Bool.and_eq_true] at ho
    have e1 : Dq e none x s0 = (.val e x, s0) := Bit
    simp only [e1]
    obtain ⟨its, h1, h2, h3, h4⟩ := hrest seen c s0 Lx ho.2 hn hlen hLF
    refine ⟨its, h1, h2, .cons (Bqd hr hx (isEmpty_nil ho.1) (fun hl => hbp ?_)) h3, h4⟩
    cases e <;> first | exact hl | cases hl
   | some E =>
    simp only [Alp] at ho
    split at ho
    ·
     rename_i a
     have hx' : x = [] := by
      have : elems s a .nils = some x := hx
      simpa [elems] using this.symm
     subst hx'
     have hc : LP[c]? = some (.own a.size E (.slice none 0 0) []) := hn 0 _ rfl
     have e1 : Dq (.list a) (some E) [] s0 = (.own s0.new, s0.add (.arr E a [])) := rfl
     simp only [e1]
     obtain ⟨its, h1, h2, h3, h4⟩ := hrest seen (c + 1) (s0.add (.arr E a [])) (Lx ++ [.own a.size E (.slice none 0 0) []]) ho (fun i m hi => by rw [Nat.add_assoc, Nat.add_comm 1 i]; exact hn (i + 1) m (by simpa [Aj4] using hi))
      (by simp [S.add, hlen]) (by rw [hLF]; simp [Gq, List.getD_eq_getElem?_getD, hc])
     refine ⟨.arr E a [] :: its, by rw [h1]; simp [S.add], by simp [Gq, h2], .cons ⟨rfl, fun cs hcs => ?_⟩ h3, fun i b m hi hm => ?_⟩
     ·refine ⟨a.size, E, .slice none 0 0, [], ?_, hcs⟩
      rw [hLF, S.new, ← hlen]
      simp [Gq, List.getD_eq_getElem?_getD, hc]
     ·cases i with
      | zero =>
       simp [Gq, List.getD_eq_getElem?_getD, hc] at hi hm
       subst hi hm
       exact ⟨rfl, rfl, rfl⟩
      | succ i => exact h4 i b m (by simpa using hi) (by simpa [Gq] using hm)
    ·
     rename_i a i
     simp only [Bool.and_eq_true, Bool.not_eq_true'] at ho
     obtain ⟨⟨h0, hit⟩, ho⟩ := ho
     split at hit
     ·rename_i E' a' l hi
      simp only [Bool.and_eq_true, decide_eq_true_eq] at hit
      obtain ⟨hE, rfl⟩ := hit
      have := By hE
      subst this
      obtain ⟨u, cs0, g1, g2⟩ := hr.mem.arr hi
      have hx' : x = l := by
       have : elems s a' (.own i) = some x := hx
       simp [elems, hi] at this
       exact this.symm
      subst hx'
      have hc : LP[i]? = some (.own a'.size E' u cs0) := hP i _ g1
      have e1 : Dq (.list a') (some E') x s0 = (.own s0.new, s0.add (.arr E' a' x)) := rfl
      simp only [e1]
      obtain ⟨its, h1, h2, h3, h4⟩ := hrest (i :: seen) (c + 1) (s0.add (.arr E' a' x)) (Lx ++ [.own a'.size E' u cs0]) ho (fun i m hi => by rw [Nat.add_assoc, Nat.add_comm 1 i]; exact hn (i + 1) m (by simpa [Aj4] using hi))
       (by simp [S.add, hlen]) (by rw [hLF]; simp [Gq, List.getD_eq_getElem?_getD, hc])
      refine ⟨.arr E' a' x :: its, by rw [h1]; simp [S.add], by simp [Gq, h2], .cons ⟨rfl, fun cs hcs => ?_⟩ h3, fun q b m hq hm => ?_⟩
      ·obtain ⟨z, E2, v2, c2, k1, k2⟩ := hcs
       rw [g1] at k1; cases k1
       refine ⟨a'.size, E', u, cs0, ?_, k2⟩
       rw [hLF, S.new, ← hlen]
       simp [Gq, List.getD_eq_getElem?_getD, hc]
      ·cases q with
       | zero =>
        simp [Gq, List.getD_eq_getElem?_getD, hc] at hq hm
        subst hq hm
        exact ⟨rfl, rfl, Br3 hbp g2⟩
       | succ q => exact h4 q b m (by simpa using hq) (by simpa [Gq] using hm)
     ·cases hit
    ·cases ho
  cases ls with
  | nil =>
   obtain ⟨v, rfl, hx⟩ := Bdx hp
   exact main v [] y (fun s1 => ([], s1)) rfl hx (Amx p y s0) (fun seen c s1 Lx _ _ hlen hLF => ⟨[], by simp, rfl, All2.nil, fun i a m h => by simp at h⟩)
  | cons q r =>
   obtain ⟨v, vs', x, y', rfl, rfl, hx, hy⟩ := Bbg hp
   exact main v vs' x (fun s1 => Ea (q :: r) y' s1) rfl hx (Ajh p q r x y' s0)
    (fun seen c s1 Lx ho hn hlen hLF => Ayd hr hP (q :: r) vs' y' seen c s1 Lx LF ho hy (fun p hp => hb p (.tail _ hp)) hn hlen hLF)
theorem Zy {e : ET} {x : e.T} {cs : List Value} (h : Ar B w e x cs) : Ar (fun b => b < w.heap.size ∧ B b) w e x cs :=
 match e, x, h with
 | .int _, _, h => h
 | .bool, _, h => h
 | .str, _, h => h
 | .list _, _, ⟨v, c0, h1, h2, h3⟩ => ⟨v, c0, h1, h2.start, h3.mono fun _ _ h => Zy h⟩
 | .vec _ _, _, ⟨h1, h2⟩ => ⟨h1, h2.mono fun _ _ h => Zy h⟩
 | .cons _ _, _, ⟨c1, c2, e, h1, h2⟩ => ⟨c1, c2, e, Zy h1, Zy h2⟩
 | .nil, _, h => h
def Bt : PV → Bool
 | .val _ _ => true
 | .own _ => true
 | .agg l => go l
 | _ => false
where go : List PV → Bool
 | [] => true
 | a :: r => Bt a && go r
mutual
theorem Baf : ∀ {p : PV} {cs : List Value}, Bt p = true → EncC B w L p cs → EncC (fun b => b < w.heap.size ∧ B b) w L p cs
 | .val e x, cs, _, h => Zy (show Ar B w e x cs from h)
 | .own i, cs, _, h => h
 | .agg l, cs, hv, h => Axb hv (show EncC.go B w L l cs from h)
 | .tup _, _, hv, _ => by cases hv
 | .nils, _, hv, _ => by cases hv
 | .ptr _ _, _, hv, _ => by cases hv
 | .view _ _ _ _ _ _, _, hv, _ => by cases hv
 | .rptr _, _, hv, _ => by cases hv
 | .fn _ _, _, hv, _ => by cases hv
 | .cst _, _, hv, _ => by cases hv
 | .any, _, hv, _ => by cases hv
 | .gd _ _ _, _, hv, _ => by cases hv
 | .off, _, hv, _ => by cases hv
 | .undef, _, hv, _ => by cases hv
theorem Axb : ∀ {l : List PV} {cs : List Value}, Bt.go l = true → EncC.go B w L l cs → EncC.go (fun b => b < w.heap.size ∧ B b) w L l cs
 | [], cs, _, h => h
 | a :: l, cs, hv, ⟨c1, c2, e, h1, h2⟩ => by
  simp only [Bt.go, Bool.and_eq_true] at hv
  exact ⟨c1, c2, e, Baf hv.1 h1, Axb hv.2 h2⟩
end
theorem Ayt : ∀ {l : List PV} {vs : List Value}, Bt.go l = true → EncVs B w L l vs → EncVs (fun b => b < w.heap.size ∧ B b) w L l vs
 | [], vs, _, h => h
 | a :: l, vs, hv, ⟨v, vs', e, h1, h2⟩ => by
  simp only [Bt.go, Bool.and_eq_true] at hv
  exact ⟨v, vs', e, h1.mono fun c h => Baf hv.1 h, Ayt hv.2 h2⟩
theorem Avf {e : ET} {o : Option TypeId} {x : e.T} {s0 : S} : Bt (Dq e o x s0).1 = true := by
 unfold Dq
 split <;> rfl
theorem Au5 {e : ET} {o : Option TypeId} {x : e.T} {s0 : S} (h : ∀ a ∈ s0.it, ∃ E e' l, a = .arr E e' l) : ∀ a ∈ (Dq e o x s0).2.it, ∃ E e' l, a = .arr E e' l := by
 unfold Dq
 split
 ·intro a ha
  simp only [S.add, List.mem_append, List.mem_singleton] at ha
  rcases ha with ha | ha
  ·exact h a ha
  ·exact ⟨_, _, _, ha⟩
 ·exact h
theorem Axh : ∀ (ls : LS) (x : LTy ls) (s0 : S), Bt.go (Ea ls x s0).1 = true
 | [], x, s0 => rfl
 | [p], x, s0 => by
  rw [Amx]
  have h1 : Bt (Dq p.1 p.2 x s0).1 = true := Avf
  simp only [Bt.go, h1]; rfl
 | p :: q :: r, (x, y), s0 => by
  rw [Ajh]
  have h1 : Bt (Dq p.1 p.2 x s0).1 = true := Avf
  simp only [Bt.go, h1, Axh (q :: r) y _]; rfl
theorem Axi : ∀ (ls : LS) (x : LTy ls) (s0 : S), (∀ a ∈ s0.it, ∃ E e' l, a = .arr E e' l) → ∀ a ∈ (Ea ls x s0).2.it, ∃ E e' l, a = .arr E e' l
 | [], x, s0, h => h
 | [p], x, s0, h => by rw [Amx]; exact Au5 h
 | p :: q :: r, (x, y), s0, h => by rw [Ajh]; exact Axi (q :: r) y _ (Au5 h)
mutual
theorem Bkx : ∀ {sh : Sh} {vs r : List PV} {u : PV}, Rr sh vs = some (u, r) → Bt.go vs = true → Bt u = true ∧ Bt.go r = true
 | .lf e o, v :: vs, r, u, h, hv => by
  simp only [Rr, Option.some.injEq, Prod.mk.injEq] at h
  obtain ⟨rfl, rfl⟩ := h
  simpa [Bt.go] using hv
 | .lf e o, [], r, u, h, hv => by simp [Rr] at h
 | .agg l, vs, r, u, h, hv => by
  simp only [Rr] at h
  split at h
  ·rename_i us r' h1
   cases h
   exact Art h1 hv
  ·cases h
theorem Art : ∀ {l : List Sh} {vs r us : List PV}, Rr.go l vs = some (us, r) → Bt.go vs = true → Bt.go us = true ∧ Bt.go r = true
 | [], vs, r, us, h, hv => by
  simp only [Rr.go, Option.some.injEq, Prod.mk.injEq] at h
  obtain ⟨rfl, rfl⟩ := h
  exact ⟨rfl, hv⟩
 | a :: l, vs, r, us, h, hv => by
  simp only [Rr.go] at h
  split at h
  ·rename_i u vs' h1
   split at h
   ·rename_i us' vs'' h2
    cases h
    obtain ⟨g1, g2⟩ := Bkx h1 hv
    obtain ⟨g3, g4⟩ := Art h2 g2
    exact ⟨by simp [Bt.go, g1, g3], g4⟩
   ·cases h
  ·cases h
end
theorem Bog {rs : List Sh} {p : ET × Option TypeId} (hp : p ∈ shL rs) (h : Bmu p = true) : Bsc rs = true := by
 unfold Bsc; exact List.any_eq_true.2 ⟨p, hp, h⟩
theorem Bh4 (hMix : P.follows .mixedOrders = true) {f : Nat} {fn : Func} {ans : List (Nat × An)} {an : An} {ps rs : List Sh} {F : LTy (shL ps) → Option (LTy (shL rs))} (hf : P.funcs[f]? = some fn) (hE : Ent P f) (hT : Ang P T) (hA : ∀ p ∈ ans, Ent P p.1)
  (hle : Nat.ble ps.length fn.ntmps = true) (h : ∀ x, run P T ans fn an ps rs x = F x) : ConOk P T.gl f ⟨ps, rs, F⟩ := by
 refine ⟨hE, fun R N w L0 vs pvs x y hx hlen0 hit0 hmob0 hvs hgl hy => ?_⟩
 have hy' : F x = some y := hy
 rw [← h x] at hy'
 unfold run at hy'
 have hx' : args ps x = some pvs := hx
 rw [hx'] at hy'
 split at hy'
 ·rename_i c as hc has
  cases has
  let Z : Fix := ⟨fun b => ((R b ∧ N b) ∨ ∃ p ∈ T.gl, p.1 = b) ∨ ¬ N b ∨ w.heap.size ≤ b, fun b => ¬ N b, w, fun b hb => .inr (.inr hb), fun b hb => .inr (.inl hb), T.gl, fun p hp => ⟨.inl (.inr ⟨p, hp, rfl⟩), fun h => h (hgl p hp).2.1, (hgl p hp).1, (hgl p hp).2.2⟩⟩
  have hval : Bt.go pvs = true := by
   unfold args Aoo at hx'
   split at hx'
   ·rename_i us hs
    cases hx'
    exact (Art hs (Axh _ _ _)).1
   ·cases hx'
  have hvs2 : EncVs (fun b => (b < w.heap.size ∧ N b) ∧ Z.R b) w L0 pvs vs := EncVs.step (fun b hb => ⟨⟨hb.1, hb.2.2⟩, .inl (.inl hb.2)⟩) (fun _ _ => rfl) (.refl L0) (Ayt hval hvs)
  have hst : St (fun b => b < w.heap.size ∧ N b) w [.old Z.M Z.w0] (L0.map MD.Is) := by
   refine ⟨fun b hb => hb.1, fun f hf => ?_, hmob0.Ae1 fun b hb => hb.2⟩
   cases hf with
   | head => exact ⟨.refl _, fun b hb hM => ⟨⟨hb, Classical.not_not.1 hM⟩, rfl⟩⟩
   | tail _ h => cases h
  have hr : Rel Z ⟨Aex 0 pvs, argI ps x, []⟩ [] (fun b => b < w.heap.size ∧ N b) L0 (Azr vs) w :=
   Rel.as (L := L0) hst (i := 0) rfl ⟨⟨hlen0, fun i a m h1 h2 => by
    have h3 := hit0 i a m h1 h2
    obtain ⟨E, e', l, rfl⟩ := Axi (shL ps) x ⟨[], [], []⟩ (by simp) a (List.mem_of_getElem? h1)
    cases m with
    | dead => exact h3
    | box _ _ _ => exact h3
    | own z E2 v2 c2 => exact ⟨h3.1, h3.2.1, h3.2.2.mono fun x c h => Ar.step (fun b hb => ⟨⟨hb.1, hb.2.2⟩, .inl (.inl hb.2)⟩) (fun _ _ => rfl) (Zy h)⟩⟩,
    Ao3 hvs2 (fun i v hi => by rw [Nat.zero_add]; exact Bat hi), trivial⟩ rfl
  have hlen : vs.length = pvs.length := hvs.length
  have hpl : pvs.length = ps.length := by
   unfold args Aoo at hx'
   split at hx'
   ·rename_i us hs
    cases hx'
    have key : ∀ (l : List Sh) (vs r us : List PV), Rr.go l vs = some (us, r) → us.length = l.length := by
     intro l
     induction l with
     | nil => intro vs r us h; simp only [Rr.go, Option.some.injEq, Prod.mk.injEq] at h; obtain ⟨rfl, _⟩ := h; rfl
     | cons a l ih =>
      intro vs r us h
      simp only [Rr.go] at h
      split at h
      ·split at h
       ·rename_i h2; cases h; simp [ih _ _ _ h2]
       ·cases h
      ·cases h
    exact key _ _ _ _ hs
   ·cases hx'
  refine Awc (rs := fn.results.toList) hf hc rfl (by simp) (by rw [hlen, hpl]; exact hle) (W.mono (Bs3 hMix ⟨hT, rfl⟩ (Bil hMix hT hA 8) c hy' hr) ?_)
  rintro e σ' w' ⟨s', A', L', h1, hr'⟩
  have fin : Bku P rs fn.results.toList s' = some y → ∃ us, Arp P σ' w' fn.results.toList us ∧ ∃ us', Ending.returned (packRes us) = .returned (packRes us') ∧ ResOk T.gl R N w w' rs y us' := by
   intro h1
   unfold Bku at h1
   split at h1
   ·cases h1
   ·rename_i ls0 hls0
    split at h1
    ·cases h1
    ·rename_i s1 hs1
     obtain ⟨A1, L1, hr1, _⟩ := Rc hr' hs1
     split at h1
     ·rename_i ls hls
      obtain ⟨ho, h1⟩ := Ax h1
      unfold Bux at hls
      split at hls
      ·rename_i vs1 hvs1
       obtain ⟨us, hus, huv⟩ := Att hr1 hvs1
       refine ⟨us, hus, us, rfl, ?_⟩
       have hold := hr1.fact 1 (f := .old Z.M Z.w0) rfl
       have hA : ∀ b, b < w.heap.size → N b → A1 b := fun b hb hN => (hold.2 b hb (fun h => h hN)).1
       have hkeep : KeepN N w w' := ⟨fun b hb hN => (hold.2 b hb (fun h => h hN)).2, hold.1⟩
       have hmob := Bpv (St.mobs hr1) (shL rs)
       obtain ⟨hd, hidx⟩ := Ap5 (s := s1) (c := L1.length) ho (by rw [hr1.len]; exact Nat.le_refl _)
       refine ⟨hkeep, fun b => A1 b ∧ (¬ N b ∨ w.heap.size ≤ b), (Gq (shL rs) ls L1.length).map (fun i => (L1 ++ Aj4 (shL rs)).getD i .dead), fun b hb => ⟨hb.2, St.lt hr1 b hb.1⟩, ?_, ?_⟩
       ·refine (Ba0 hmob hd).Ae1 ?_
        rintro b (hb | hb)
        ·exact hb.1
        ·exact hA b hb.1 hb.2
       ·intro s0 L0 B' hL0 hB1 hB2
        obtain ⟨its, g1, g2, g3, g4⟩ := Ayd hr1 (B' := B') (LP := L1 ++ Aj4 (shL rs)) (fun i m hi => by rw [List.getElem?_append_left (List.getElem?_eq_some_iff.1 hi).1]; exact hi) (shL rs) ls y [] L1.length s0 L0 _ ho h1
         (fun p hp hl b hb => by
          rcases hb.2 with hR | hN
          ·exact hB2 (Bog hp hl) b hR
          ·exact hB1 b ⟨hb.1, hN⟩)
         (fun i m hi => by rw [List.getElem?_append_right (by omega), Nat.add_sub_cancel_left]; exact hi) hL0 rfl
        obtain ⟨ps', g5, g6⟩ := Ath hls huv g3
        exact ⟨ps', its, g1, g5, g6, by rw [g2]; simp, g4⟩
      ·cases hls
     ·cases h1
  cases e with
  | normal => exact ⟨.inr rfl, by obtain ⟨us, k1, us', k2, k3⟩ := fin h1; exact ⟨us, k1, us', k2, k3⟩⟩
  | ret => exact ⟨.inl rfl, by obtain ⟨us, k1, us', k2, k3⟩ := fin h1; exact ⟨us, k1, us', k2, k3⟩⟩
  | exit id => cases h1
  | goto l => cases h1
  | panic c => cases h1
  | outgrown => cases h1
 ·cases hy'
end Go.Rx
set_option linter.unusedVariables false
namespace Go.Rx
open Go Go.Lv
structure Pt (R : Type) where
 q : Nat
 n : Nat
 c : Code
 an : An
 k : K R
inductive PS (R : Type) | l | r | d | lp (kn : S → Option R) | call (i f : Nat) | dcall (i f fuel : Nat) (z listed : Array Bool)
def Bh8 (f : Func) : Code := match f.body with | some c => c | none => .skip
variable {R : Type}
noncomputable def Pt.e (P : Program) (T : Tab) (ans : List (Nat × An)) (p : Pt R) (s : S) : Option R := match p.c with
 | .loop _ => ex P T (Amt P T p.q ans) p.n p.c p.an p.k s
 | _ => hold (fun s => ex P T (Amt P T p.q ans) p.n p.c p.an p.k s) s
noncomputable def Pt.it (P : Program) (T : Tab) (ans : List (Nat × An)) (p : Pt R) (q : Nat) (s : S) : Option R := match p.c with
 | .loop a => iter p.an (fun kn s' => ex P T (Amt P T p.q ans) p.n a p.an.l { p.k with n := kn } s') q s
 | _ => none
noncomputable def Pt.step (P : Program) (T : Tab) (ans : List (Nat × An)) (p : Pt R) : PS R → Pt R
 | .l => match p.c with
  | .seq a b => ⟨p.q, p.n, a, p.an.l, { p.k with n := Bpd p.an fun s' => ex P T (Amt P T p.q ans) p.n b p.an.r p.k s' }⟩
  | .cond _ a _ => ⟨p.q, p.n, a, p.an.l, p.k⟩
  | _ => p
 | .r => match p.c with
  | .seq _ b => ⟨p.q, p.n, b, p.an.r, p.k⟩
  | .cond _ _ b => ⟨p.q, p.n, b, p.an.r, p.k⟩
  | _ => p
 | .d => match p.c with
  | .block id a => ⟨p.q, p.n, a, p.an.l, { p.k with x := fun id' s' => Bz (Nat.beq id' id ) (p.k.n s' ) <| p.k.x id' s' }⟩
  | _ => p
 | .lp kn => match p.c with
  | .loop a => ⟨p.q, p.n, a, p.an.l, { p.k with n := Bax p.an kn }⟩
  | _ => p
 | .call i f => match p.c, p.q, P.funcs[f]?, Amt.getAn ans f with
  | .region _ ops false, q + 1, some fn, some an =>
   let fin := Amt.finK P fn.results.toList fun s v => Az0 P T (Bcm p.an (Amt P T (q + 1) ans)) p.n ops (ops.toList.drop (i + 1)) (s.Fx ((ops[i]?).bind (·.dst)) v) p.k.n
   ⟨q, fn.ntmps, Bh8 fn, an, { n := fin, x := fun _ _ => none, r := fin }⟩
  | _, _, _, _ => p
 | .dcall i f fuel z listed => match p.c, p.q, P.funcs[f]?, Amt.getAn ans f with
  | .region _ ops true, q + 1, some fn, some an =>
   let fin := Amt.finK P fn.results.toList fun s v => exD P T (Bcm p.an (Amt P T (q + 1) ans)) p.n (At4 p.an) ops fuel z listed (s.Fx ((ops[i]?).bind (·.dst)) v) p.k.n
   ⟨q, fn.ntmps, Bh8 fn, an, { n := fin, x := fun _ _ => none, r := fin }⟩
  | _, _, _, _ => p
noncomputable def Pt.at (P : Program) (T : Tab) (ans : List (Nat × An)) : Pt R → List (PS R) → Pt R
 | p, [] => p
 | p, x :: l => Pt.at P T ans (p.step P T ans x) l
noncomputable def Pt.root (P : Program) (fn : Func) (an : An) (rs : List Sh) : Pt (LTy (shL rs)) :=
 ⟨8, fn.ntmps, Bh8 fn, an, { n := Bku P rs fn.results.toList, x := fun _ _ => none, r := Bku P rs fn.results.toList }⟩
noncomputable def PE (P : Program) (T : Tab) (ans : List (Nat × An)) (fn : Func) (an : An) (rs : List Sh) (l : List (PS (LTy (shL rs)))) (s : S) : Option (LTy (shL rs)) := (Pt.at P T ans (Pt.root P fn an rs) l).e P T ans s
noncomputable def PI (P : Program) (T : Tab) (ans : List (Nat × An)) (fn : Func) (an : An) (rs : List Sh) (l : List (PS (LTy (shL rs)))) (q : Nat) (s : S) : Option (LTy (shL rs)) := (Pt.at P T ans (Pt.root P fn an rs) l).it P T ans q s
theorem Axm (a : Option R) : both a [a, a] = a := by simp [both]
theorem Ayg (a : Option R) : both a [a, a, a] = a := by simp [both]
end Go.Rx
namespace Go.Rx
open Go Go.Lv
theorem ConOk.mono {P : Program} {gl gl' : List (Nat × List Value)} {f : Nat} {c : Con} (h : ConOk P gl f c) (hs : gl.Sublist gl') : ConOk P gl' f c := by
 refine ⟨h.ent, fun R N w L0 vs ps x y h1 h2 h3 h4 h5 h6 h7 => (h.ok R N w L0 vs ps x y h1 h2 h3 h4 h5 (fun p hp => h6 p (hs.subset hp)) h7).mono ?_⟩
 rintro e w' ⟨us, he, hk, A1, L1, g1, g2, g3⟩
 exact ⟨us, he, hk, A1, L1, g1, g2, fun s L B' k1 k2 k3 => g3 s L B' k1 k2 fun hr b hb => k3 hr b (hb.imp id fun ⟨p, hp, he⟩ => ⟨p, hs.subset hp, he⟩)⟩
theorem Ang.nil {P : Program} {gl : List (Nat × List Value)} {vw : Bool} : Ang P ⟨[], gl, vw⟩ := fun f c h => by cases h
theorem Ang.cons {P : Program} {g : Nat} {c : Con} {r : List (Nat × Con)} {gl : List (Nat × List Value)} {vw : Bool} (h : ConOk P gl g c) (hr : Ang P ⟨r, gl, vw⟩) : Ang P ⟨(g, c) :: r, gl, vw⟩ := fun f c' h' => by
 simp only [Tab.get, Bth] at h'
 cases hb : Nat.beq g f with
 | true =>
  rw [hb] at h'
  have := By hb
  subst this
  cases h'; exact h
 | false => rw [hb] at h'; exact hr f c' h'
theorem AnsOk.nil {P : Program} : ∀ p ∈ ([] : List (Nat × An)), Ent P p.1 := by simp
theorem AnsOk.cons {P : Program} {g : Nat} {a : An} {r : List (Nat × An)} (h : Ent P g) (hr : ∀ p ∈ r, Ent P p.1) : ∀ p ∈ (g, a) :: r, Ent P p.1 := by
 intro p hp
 rcases List.mem_cons.1 hp with rfl | hp
 ·exact h
 ·exact hr p hp
end Go.Rx
namespace Go.Rx
variable {R α : Type}
theorem Hz {a b c : Option R} (h : a = c) (h1 : b = c) : both a [b] = c := by subst h; subst h1; exact At5 _
theorem Hy {a b d c : Option R} (h : a = c) (h1 : b = c) (h2 : d = c) : both a [b, d] = c := by subst h; subst h1; subst h2; exact Axm _
theorem Ic {a b d e c : Option R} (h : a = c) (h1 : b = c) (h2 : d = c) (h3 : e = c) : both a [b, d, e] = c := by subst h; subst h1; subst h2; subst h3; exact Ayg _
theorem Lz {l : List α} {a b c : Option R} (h : l = [] → a = c) (h1 : b = c) : Aw1 l a b = c := by subst h1; exact Bsk h
theorem Lu {o : Option α} {f g : α → Option R} (h : ∀ x, f x = g x) : Option.bind o f = Option.bind o g := by rw [funext h]
theorem Dn {o : Option α} {f : α → Option R} {t : Option R} (h : o = none → none = t) (h1 : ∀ x, o = some x → f x = t) : Option.bind o f = t := by
 cases o with
 | none => exact h rfl
 | some x => exact h1 x rfl
theorem Me (f : α → Option R) : Option.bind none f = none := rfl
theorem Cg (x : α) (f : α → Option R) : Option.bind (some x) f = f x := rfl
theorem Cb (o : Option α) : Option.bind o (fun _ => (none : Option R)) = none := by cases o <;> rfl
theorem Ue {c : Prop} [Decidable c] {a b a' b' : Option R} (h : c → a = a') (h1 : ¬ c → b = b') : (if c then a else b) = if c then a' else b' := by
 by_cases hc : c
 ·rw [if_pos hc, if_pos hc]; exact h hc
 ·rw [if_neg hc, if_neg hc]; exact h1 hc
theorem Fm {c : Prop} [Decidable c] {a b t : Option R} (h : c → a = t) (h1 : ¬ c → b = t) : (if c then a else b) = t := by
 by_cases hc : c
 ·rw [if_pos hc]; exact h hc
 ·rw [if_neg hc]; exact h1 hc
abbrev vi (x : Int) : PV := .val (.int .i64) x
abbrev vc (x : UInt8) : PV := .val (.int .u8) x
abbrev vu (x : UInt32) : PV := .val (.int .u32) x
abbrev vq (x : UInt64) : PV := .val (.int .u64) x
abbrev vx (x : Int32) : PV := .val (.int .i32) x
abbrev vt (x : Bool) : PV := .val .bool x
abbrev vs (x : List UInt8) : PV := .val .str x
abbrev vb (x : List UInt8) : PV := .val (.list (.int .u8)) x
abbrev vl (x : List Int) : PV := .val (.list (.int .i64)) x
abbrev vw (x : List Int32) : PV := .val (.list (.int .i32)) x
abbrev vv (x : List UInt32) : PV := .val (.list (.int .u32)) x
end Go.Rx
set_option linter.unusedVariables false
namespace Go.Rx
open Go Go.Lv
structure Hd where
 p : List Sh
 r : List Sh
 a : An
 T : Tab
 s : List (Nat × An)
 f : Func
noncomputable def Hd.e (P : Program) (H : Hd) : List (PS (LTy (shL H.r))) → S → Option (LTy (shL H.r)) := PE P H.T H.s H.f H.a H.r
noncomputable def Hd.i (P : Program) (H : Hd) : List (PS (LTy (shL H.r))) → Nat → S → Option (LTy (shL H.r)) := PI P H.T H.s H.f H.a H.r
noncomputable def Hd.u (P : Program) (H : Hd) (x : LTy (shL H.p)) : Option (LTy (shL H.r)) := run P H.T H.s H.f H.a H.p H.r x
def okH (H : Hd) : Bool := (!(H.f.name == "runtime.NumGoroutine") && H.f.body.isSome) && Nat.ble H.p.length H.f.ntmps
theorem Hd.con {P : Program} (hM : P.follows .mixedOrders = true) (H : Hd) {f : Nat} {F : LTy (shL H.p) → Option (LTy (shL H.r))} (hf : P.funcs[f]? = some H.f) (hT : Ang P H.T) (hA : ∀ p ∈ H.s, Ent P p.1)
  (hb : okH H = true) (h : ∀ x, H.u P x = F x) : ConOk P H.T.gl f ⟨H.p, H.r, F⟩ := by
 simp only [okH, Bool.and_eq_true, Bool.not_eq_true'] at hb
 obtain ⟨c, hc⟩ := Option.isSome_iff_exists.1 hb.1.2
 exact Bh4 (T := H.T) hM hf (Ent.mk hf hb.1.1 hc) hT hA hb.2 h
theorem Hd.Bwv {P : Program} (hM : P.follows .mixedOrders = true) (H : Hd) {f : Nat} {F : LTy (shL H.p) → Option (LTy (shL H.r))} (hf : P.funcs[f]? = some H.f) (hT : Ang P H.T)
  (hb : (H.s.isEmpty && okH H) = true) (h : ∀ x, H.u P x = F x) : ConOk P H.T.gl f ⟨H.p, H.r, F⟩ := by
 rw [Bool.and_eq_true, List.isEmpty_iff] at hb
 exact Hd.con hM H hf hT (fun p hp => by rw [hb.1] at hp; cases hp) hb.2 h
theorem ind {p : Nat → Prop} (h : p 0) (hs : ∀ q, p q → p (q + 1)) : ∀ q, p q := fun q => Nat.rec h hs q
variable {R α : Type}
noncomputable abbrev bo (a : Option R) : Option R := both a [a]
noncomputable abbrev bo2 (a : Option R) : Option R := both a [a, a]
theorem Anp (a : Option R) : both a [a] = a := At5 a
theorem Af4 (a : Option R) : both a [a, a] = a := Axm a
theorem Af8 (a : Option R) : both a [a, a, a] = a := Ayg a
abbrev Si : Sh := .lf (.int .i64) none
abbrev Sc : Sh := .lf (.int .u8) none
abbrev Su : Sh := .lf (.int .u32) none
abbrev Sq : Sh := .lf (.int .u64) none
abbrev Sx : Sh := .lf (.int .i32) none
abbrev Sz : Sh := .lf .bool none
abbrev Ss : Sh := .lf .str none
abbrev Sb : Sh := .lf (.list (.int .u8)) none
abbrev Sl : Sh := .lf (.list (.int .i64)) none
abbrev Sw : Sh := .lf (.list (.int .i32)) none
abbrev Sv : Sh := .lf (.list (.int .u32)) none
abbrev Ob (e : Nat) : Sh := .lf (.list (.int .u8)) (some e)
abbrev Ol (e : Nat) : Sh := .lf (.list (.int .i64)) (some e)
abbrev Ow (e : Nat) : Sh := .lf (.list (.int .i32)) (some e)
abbrev Ov (e : Nat) : Sh := .lf (.list (.int .u32)) (some e)
abbrev Ai (e : Nat) (l : List Int) : Item := .arr e (.int .i64) l
abbrev Ab (e : Nat) (l : List UInt8) : Item := .arr e (.int .u8) l
abbrev Aw (e : Nat) (l : List Int32) : Item := .arr e (.int .i32) l
abbrev Av (e : Nat) (l : List UInt32) : Item := .arr e (.int .u32) l
abbrev An.q (a : An) : An := .seq .d a
end Go.Rx
set_option linter.unusedVariables false
set_option linter.unusedSimpArgs false
namespace Go.Rx
open Go Go.Lv Go.RowKit
variable {P : Program}
theorem Aiw {B : Reg} {w : World} {k : Kd} : ∀ (l : List k.T), Bl (Ar B w (.int k)) l (Go.Lv.Adf (k := k.k) l)
 | [] => rfl
 | x :: l => ⟨[iv (T := k.T) (k := k.k) x], Go.Lv.Adf (k := k.k) l, rfl, rfl, Aiw l⟩
theorem Rd.Ae1 {A B : Reg} {w : World} {s : Nat} {v : Value} {cs : List Value} (h : Rd A w s v cs) (ha : ∀ b, A b → B b) : Rd B w s v cs := h.step ha fun _ _ => rfl
theorem enc_row {w : World} {k : Kd} {v : Value} {l : List k.T} (h : Rd (fun _ => True) w 1 v (Go.Lv.Adf (k := k.k) l)) : Gf (fun _ => True ∧ True) w [] (.val (.list (.int k)) l) v :=
 ⟨v, _, rfl, Rd.Ae1 h fun _ _ => ⟨trivial, trivial⟩, Aiw l⟩
theorem enc_iv {w : World} {k : Kd} (x : k.T) : Gf (fun _ => True ∧ True) w [] (.val (.int k) x) (iv (T := k.T) (k := k.k) x) := rfl
theorem enc_bool {w : World} (b : Bool) : Gf (fun _ => True ∧ True) w [] (.val .bool b) (.bool b) := rfl
theorem enc_str {w : World} (s : List UInt8) : Gf (fun _ => True ∧ True) w [] (.val .str s) (sv s) := rfl
theorem string_sv (a : ByteArray) : ∃ l, (.string a : Value) = sv l := ⟨a.data.toList, by cases a; rfl⟩
theorem encs_nil {B : Reg} {w : World} : EncVs B w [] [] [] := rfl
theorem encs_cons {B : Reg} {w : World} {p : PV} {ps : List PV} {v : Value} {vs : List Value} (h : Gf B w [] p v) (hs : EncVs B w [] ps vs) : EncVs B w [] (p :: ps) (v :: vs) := ⟨v, vs, rfl, h, hs⟩
theorem row_true {gl : List (Nat × List Value)} {f : Nat} {ps : List Sh} {F : LTy (shL ps) → Option Bool} (hC : ConOk P gl f ⟨ps, [.lf .bool none], F⟩) {x : LTy (shL ps)} {pvs : List PV} {vs : List Value} (ha : args ps x = some pvs) (hi : argI ps x = []) {w : World}
  (hv : EncVs (fun _ => True ∧ True) w [] pvs vs) (hg : GlOk gl (fun _ => True) w) (hF : F x = some true) : Calls P f vs.toArray w fun e w' => e = .returned (.bool true) ∧ Below w.heap.size w w' := by
 refine (hC.ok (fun _ => True) (fun _ => True) w [] vs pvs x true ha (by rw [hi]; rfl) (fun i a m h => by rw [hi] at h; simp at h) trivial hv hg hF).mono ?_
 rintro e w' ⟨us, rfl, hk, A1, L1, g1, g2, g3⟩
 obtain ⟨qs, its, k1, k2, k3, k4, k5⟩ := g3 ⟨[], [], []⟩ [] (fun _ => True) rfl (fun _ _ => trivial) (fun _ _ _ => trivial)
 refine ⟨?_, ⟨hk.gr.os, hk.gr.tape, hk.gr.output, hk.gr.le, fun b hb => hk.same b hb trivial⟩⟩
 obtain rfl := Option.some.inj (show some [PV.val .bool true] = some qs from k2)
 obtain ⟨_, _, rfl, e1, rfl⟩ := k3
 cases (show [_] = [Value.bool true] from e1)
 rfl
theorem laid_ints {H : Type} {enc : TypeId × Value → H} {w : World} {fuel : Nat} {t e n : Nat} {k : IntKind} {cs : List Value} {zs : List Int} {p : List MemPlace} (hu : P.underlying t = some (.array n e)) (he : P.underlying e = some (.int k)) (hc : P.cellsOf e = 1) (ht : P.cellsOf t = n)
  (h : DataW.trod enc P w 0 (fun _ => true) false fuel t cs = some (.agg (zs.map fun z => .lit (.int k z)), p)) : cs = zs.map fun z => Value.int k z := by
 obtain ⟨xs, m, rfl, hx, hlen, hn, hel⟩ := DataW.trod_array hu h
 simp only [Prod.mk.injEq, DataW.agg.injEq] at hx
 rw [ht] at hlen
 have hz : zs.length = n := by
  have := congrArg List.length hx.1
  simpa [hn] using this
 apply List.ext_getElem?
 intro i
 by_cases hi : i < n
 ·have h0 := hel i hi
  rw [hc, Nat.mul_one] at h0
  have hxi : xs[i]? = some xs[i] := List.getElem?_eq_getElem (by omega)
  rw [hxi] at h0
  obtain ⟨q, e1, e2, _⟩ := DataW.trod_int he h0
  have e3 : (cs.drop i).take 1 = [cs[i]'(by omega)] := by
   rw [List.drop_eq_getElem_cons (by omega)]; rfl
  rw [e3] at e1
  have e4 : (xs.map (·.1))[i]? = (zs.map fun z => (DataW.lit (.int k z) : DataW H))[i]? := by rw [← hx.1]
  rw [List.getElem?_map, List.getElem?_map, hxi, List.getElem?_eq_getElem (by omega), e2] at e4
  simp only [Option.map_some, Option.some.injEq, DataW.lit.injEq, Lit.int.injEq, true_and] at e4
  rw [List.getElem?_map, List.getElem?_eq_getElem (by omega), List.getElem?_eq_getElem (by omega)]
  simp only [List.cons.injEq, and_true] at e1
  rw [e1, e4]; rfl
 ·rw [List.getElem?_eq_none (by omega), List.getElem?_eq_none (by simp; omega)]
theorem glOk_cons {n : String} {g : Nat} {cs : Array Value} {l : List Value} {gl : List (Nat × List Value)} {w : World} (hg : P.globalNamed n = some g) (hv : w.var? P n = some cs) (hl : cs.toList = l) (h : GlOk gl (fun _ => True) w) : GlOk ((g, l) :: gl) (fun _ => True) w := by
 intro p hp
 rcases List.mem_cons.1 hp with rfl | hp
 ·simp only [World.var?, hg, Option.bind_some] at hv
  split at hv
  ·rename_i cs' T fr hh
   cases hv
   refine ⟨(Array.getElem?_eq_some_iff.1 hh).1, trivial, T, fr, ?_⟩
   rw [hh, ← hl]
  ·cases hv
 ·exact h p hp
theorem glOk_nil {w : World} {N : Reg} : GlOk [] N w := fun p hp => by simp at hp
end Go.Rx
set_option linter.unusedVariables false
namespace Go.Rx
open Go Go.Lv Go.RowKit Go.ChangeShapes Go.WideShapes
variable {P : Program}
theorem agg_nil {B : Reg} {w : World} : EncC.go B w [] [] [] := rfl
theorem agg_leaf {B : Reg} {w : World} {p : PV} {ps : List PV} {v : Value} {vs : List Value} (ha : p.isA = false) (h : Gf B w [] p v) (hs : EncC.go B w [] ps vs) : EncC.go B w [] (p :: ps) (v :: vs) := by
 refine ⟨[v], vs, rfl, ?_, hs⟩
 unfold Gf at h
 rw [ha] at h
 exact h
theorem agg_agg {B : Reg} {w : World} {l ps : List PV} {c cs : List Value} (h : EncC.go B w [] l c) (hs : EncC.go B w [] ps cs) : EncC.go B w [] (.agg l :: ps) (c ++ cs) := ⟨c, cs, rfl, h, hs⟩
theorem enc_agg {B : Reg} {w : World} {l : List PV} {c : List Value} (h : EncC.go B w [] l c) : Gf B w [] (.agg l) (.agg c.toArray) := ⟨c, rfl, h⟩
theorem laid_bool_int {H : Type} {enc : TypeId × Value → H} {w : World} {fuel : Nat} {t : TypeId} {f0 f1 : Field} {k : IntKind} {cs : List Value} {b : Bool} {z : Int} {p : List MemPlace} (hu : P.underlying t = some (.struct #[f0, f1]))
  (h0 : P.underlying f0.type = some .bool) (h1 : P.underlying f1.type = some (.int k)) (o0 : f0.offset = 0) (o1 : f1.offset = 1) (c0 : P.cellsOf f0.type = 1) (c1 : P.cellsOf f1.type = 1) (ct : P.cellsOf t = 2)
  (h : DataW.trod enc P w 0 (fun _ => true) false fuel t cs = some (.agg [.lit (.bool b), .lit (.int k z)], p)) : cs = [.bool b, .int k z] := by
 obtain ⟨xs, m, rfl, hx, hlen, hn, hel⟩ := DataW.trod_struct hu h
 rw [ct] at hlen
 match cs, hlen with
 | [a, c], _ =>
  match xs, hn with
  | [y0, y1], _ =>
   simp only [Prod.mk.injEq, DataW.agg.injEq, List.map_cons, List.map_nil, List.cons.injEq, and_true] at hx
   have e0 := hel 0 f0 rfl
   have e1 := hel 1 f1 rfl
   rw [o0, c0] at e0
   rw [o1, c1] at e1
   obtain ⟨b', q0, r0⟩ := DataW.trod_bool h0 e0
   obtain ⟨z', q1, r1, _⟩ := DataW.trod_int h1 e1
   simp at q0 q1
   rw [r0, r1] at hx
   simp at hx
   rw [q0, q1, hx.1.1, hx.1.2]
theorem fld {H : Type} {enc : TypeId × Value → H} {w : World} {base : Nat} {spare : Nat → Bool} {held : Bool} {fuel : Nat} {t : TypeId} {fs : Array Field} {cs : List Value} {x : DataW H × List MemPlace} (ht : P.underlying t = some (.struct fs)) (h : DataW.trod enc P w base spare held fuel t cs = some x)
  (i : Nat) {ft : TypeId} {off k : Nat} {part : List Value} (hf : (fs[i]?).map (fun f => (f.type, f.offset)) = some (ft, off)) (hc : P.cellsOf ft = k) (hd : (cs.drop off).take k = part) : ∃ n y, DataW.trod enc P w base spare held n ft part = some y := by
 obtain ⟨xs, n, _, _, _, hn, hel⟩ := DataW.trod_struct ht h
 cases hi : fs[i]? with
 | none => rw [hi] at hf; cases hf
 | some f =>
  rw [hi] at hf
  cases hf
  have g := hel i f hi
  rw [hc, hd, List.getElem?_eq_getElem (by rw [hn]; exact (Array.getElem?_eq_some_iff.1 hi).1)] at g
  exact ⟨n, _, g⟩
section
variable {H : Type} {enc : TypeId × Value → H} {w : World} {base : Nat} {spare : Nat → Bool} {held : Bool} {fuel : Nat} {t : TypeId} {fs : Array Field} {cs : List Value} {x : DataW H × List MemPlace} (ht : P.underlying t = some (.struct fs)) (h : DataW.trod enc P w base spare held fuel t cs = some x)
  (i : Nat) {ft : TypeId} {off : Nat} {e : Value} (hf : (fs[i]?).map (fun f => (f.type, f.offset)) = some (ft, off)) (hc : P.cellsOf ft = 1)
include ht h hf hc
theorem fld_int {k : IntKind} (hk : P.underlying ft = some (.int k)) (hd : (cs.drop off).take 1 = [e]) : ∃ a, e = .int k a ∧ (Lit.int k a).wf = true := by
 obtain ⟨n, y, g⟩ := fld ht h i hf hc hd
 obtain ⟨a, e1, _, hw⟩ := DataW.trod_int hk g
 cases e1; exact ⟨a, rfl, hw⟩
theorem fld_str (hk : P.underlying ft = some .string) (hd : (cs.drop off).take 1 = [e]) : ∃ a : ByteArray, e = .string a ∧ a.size ≤ maxLen := by
 obtain ⟨n, y, g⟩ := fld ht h i hf hc hd
 obtain ⟨a, e1, _, hw⟩ := DataW.trod_string hk g
 cases e1; exact ⟨a, rfl, hw⟩
theorem fld_bool (hk : P.underlying ft = some .bool) (hd : (cs.drop off).take 1 = [e]) : ∃ a : Bool, e = .bool a := by
 obtain ⟨n, y, g⟩ := fld ht h i hf hc hd
 obtain ⟨a, e1, _⟩ := DataW.trod_bool hk g
 cases e1; exact ⟨a, rfl⟩
end
theorem fld_row {H : Type} {enc : TypeId × Value → H} {w : World} {held : Bool} {fuel : Nat} {t : TypeId} {fs : Array Field} {cs : List Value} {x : DataW H × List MemPlace} (ht : P.underlying t = some (.struct fs)) (h : DataW.trod enc P w 0 (fun _ => true) held fuel t cs = some x)
  (i : Nat) {ft et : TypeId} {off : Nat} {e : Value} (hf : (fs[i]?).map (fun f => (f.type, f.offset)) = some (ft, off)) (hc : P.cellsOf ft = 1) {k : IntKind} (hk : P.underlying ft = some (.slice et)) (he : P.underlying et = some (.int k)) (h1 : P.cellsOf et = 1) (hd : (cs.drop off).take 1 = [e]) :
  ∃ (a : Option Addr) (len cap : Nat) (zs : List Int), e = .slice a len cap ∧ ((a = none ∧ len = 0 ∧ cap = 0 ∧ zs = []) ∨ ∃ x, a = some x ∧ len ≤ cap ∧ cap ≤ maxLen ∧ zs.length = cap ∧ (∀ i, i < zs.length → w.cell? (x.add i) = some (.int k (zs.getD i 0))) ∧ ∀ n ∈ zs, (Lit.int k n).wf = true) := by
 obtain ⟨n, y, g⟩ := fld ht h i hf hc hd
 rcases open_ints hk he h1 g with ⟨e1, _⟩ | ⟨x, l, c, zs, e1, _, hl, hm, hz, _, hcell, hwz⟩
 ·cases e1; exact ⟨none, 0, 0, [], rfl, .inl ⟨rfl, rfl, rfl, rfl⟩⟩
 ·cases e1; exact ⟨some x, l, c, zs, rfl, .inr ⟨x, rfl, hl, hm, by simpa using hz, hcell, hwz⟩⟩
end Go.Rx
set_option linter.unusedVariables false
namespace Go.Rx
open Go Go.Lv Go.RowKit Go.ChangeShapes Go.WideShapes
variable {P : Program}
theorem Ber (a : Addr) (i j : Nat) : (a.add i).add j = a.add (i + j) := by
 obtain ⟨b, off, spot⟩ := a
 by_cases hi : i = 0 <;> by_cases hj : j = 0 <;> simp [Addr.add, hi, hj, Nat.add_assoc]
theorem Awz {H : Type} {enc : TypeId × Value → H} {w : World} {held : Bool} {fuel : Nat} {t te : TypeId} {E : ET} (ht : P.underlying t = some (.slice te)) (hc : P.cellsOf te = E.size) (h0 : 0 < E.size)
  (elem : ∀ (n : Nat) (cs : List Value) (x : DataW H × List MemPlace), DataW.trod enc P w 0 (fun _ => true) held n te cs = some x → ∃ y : E.T, Ar (fun _ => True ∧ True) w E y cs)
  {cs : List Value} {x : DataW H × List MemPlace} (h : DataW.trod enc P w 0 (fun _ => true) held fuel t cs = some x) :
  ∃ (a : Option Addr) (len cap : Nat) (l : List E.T), cs = [.slice a len cap] ∧ Ar (fun _ => True ∧ True) w (.list E) l [.slice a len cap] := by
 rcases DataW.trod_slice ht h with ⟨rfl, _⟩ | ⟨a, len, cap, elems, rest, n, _, rfl, _, _, hl, hm, hlen, hel, hsp, _⟩
 ·exact ⟨none, 0, 0, [], rfl, _, [], rfl, Rd.nil, rfl⟩
 obtain ⟨hrl, hr⟩ := hsp rfl
 rw [hc] at hel hr
 have each : ∀ i, i < cap → ∃ (c : List Value) (y : E.T), w.cells? 0 (a.add (i * E.size)) E.size = some c ∧ Ar (fun _ => True ∧ True) w E y c := by
  intro i hi
  by_cases hlt : i < len
  ·have h1 := hel i hlt
   rw [List.getElem?_eq_getElem (by omega), Option.bind_eq_some_iff] at h1
   obtain ⟨c, h2, h3⟩ := h1
   obtain ⟨y, h4⟩ := elem _ _ _ h3
   exact ⟨c, y, h2, h4⟩
  ·have h1 := hr (i - len) (by omega)
   rw [List.getElem?_eq_getElem (by omega), Option.bind_eq_some_iff, show len + (i - len) = i by omega] at h1
   obtain ⟨c, h2, h3⟩ := h1
   obtain ⟨y, h4⟩ := elem _ _ _ h3
   exact ⟨c, y, h2, h4⟩
 by_cases hcap : cap = 0
 ·subst hcap
  obtain rfl : len = 0 := by omega
  exact ⟨some a, 0, 0, [], rfl, _, [], rfl, ⟨some a, 0, 0, rfl, by simp, Nat.le_refl _, (fun h => by cases h), fun h => absurd h (by omega)⟩, rfl⟩
 have cellAt : ∀ i, i < cap → ∀ j, j < E.size → ∃ v, w.cell? (a.add (i * E.size + j)) = some v := by
  intro i hi j hj
  obtain ⟨c, y, h1, _⟩ := each i hi
  obtain ⟨_, h2, h3⟩ := World.cells?_some h1
  have h4 := h3 j hj
  rw [List.getElem?_eq_getElem (by omega)] at h4
  exact ⟨_, by rw [← Ber]; exact h4⟩
 obtain ⟨b, off, spot⟩ := a
 obtain ⟨v0, hv0⟩ := cellAt 0 (by omega) 0 h0
 have hspot : spot = none := by simpa [Addr.add] using World.cell?_spot hv0
 subst hspot
 have hb : ∃ arr T fr, w.heap[b]? = some (.cells arr T fr) := by
  rw [Nat.zero_mul, Jc] at hv0
  unfold World.cell? at hv0
  split at hv0
  ·rename_i arr T fr hh
   exact ⟨arr, T, fr, by simpa using hh⟩
  ·cases hv0
 obtain ⟨arr, T, fr, hb⟩ := hb
 have hcell : ∀ i, w.cell? ((⟨b, off, none⟩ : Addr).add i) = arr[off + i]? := fun i => by rw [Jc, cell_of hb]
 have hsize : off + cap * E.size ≤ arr.size := by
  obtain ⟨v, hv⟩ := cellAt (cap - 1) (by omega) (E.size - 1) (by omega)
  rw [hcell] at hv
  have := (Array.getElem?_eq_some_iff.1 hv).1
  have e : (cap - 1) * E.size + E.size = cap * E.size := by rw [← Nat.succ_mul]; congr 1; omega
  omega
 have hle : len * E.size ≤ cap * E.size := Nat.mul_le_mul_right _ hl
 let c0 := (arr.toList.drop off).take (len * E.size)
 have hc0 : c0.length = len * E.size := by simp only [c0, List.length_take, List.length_drop, Array.length_toList]; omega
 have hget : ∀ i, i < len * E.size → arr[off + i]? = c0[i]? := fun i hi => by
  simp only [c0]
  rw [List.getElem?_take, if_pos hi, List.getElem?_drop, Array.getElem?_toList]
 have key : ∀ j i, i + j = len → ∃ l : List E.T, Bl (Ar (fun _ => True ∧ True) w E) l (c0.drop (i * E.size)) := by
  intro j
  induction j with
  | zero => intro i hi; exact ⟨[], by rw [show i = len by omega, ← hc0, List.drop_length]; rfl⟩
  | succ j ih =>
   intro i hi
   obtain ⟨l, hl'⟩ := ih (i + 1) (by omega)
   obtain ⟨c, y, h1, h2⟩ := each i (by omega)
   obtain ⟨_, h3, h4⟩ := World.cells?_some h1
   have hi1 : (i + 1) * E.size ≤ len * E.size := Nat.mul_le_mul_right _ (by omega)
   rw [Nat.succ_mul] at hi1 hl'
   refine ⟨y :: l, c, c0.drop (i * E.size + E.size), ?_, h2, hl'⟩
   have e : c0.drop (i * E.size) = (c0.drop (i * E.size)).take E.size ++ c0.drop (i * E.size + E.size) := by rw [← List.drop_drop]; exact (List.take_append_drop _ _).symm
   rw [e]
   congr 1
   apply List.ext_getElem?
   intro q
   by_cases hq : q < E.size
   ·rw [List.getElem?_take, if_pos hq, List.getElem?_drop, ← hget _ (by omega), ← h4 q hq]
    rw [← hcell, Ber]
   ·rw [List.getElem?_eq_none (by rw [List.length_take]; omega), List.getElem?_eq_none (by omega)]
 obtain ⟨l, hl'⟩ := key len 0 (by omega)
 rw [Nat.zero_mul, List.drop_zero] at hl'
 exact ⟨some ⟨b, off, none⟩, len, cap, l, rfl, _, c0, rfl, ⟨_, len, cap, rfl, hc0, hl, (fun h => by cases h), fun _ => ⟨b, off, arr, T, fr, rfl, ⟨trivial, trivial⟩, hb, hsize, hget⟩⟩, hl'⟩
theorem Boe {H : Type} {enc : TypeId × Value → H} {w : World} {held : Bool} {k : Kd} {te : TypeId} (he : P.underlying te = some (.int k.k)) (n : Nat) (cs : List Value) (x : DataW H × List MemPlace)
  (h : DataW.trod enc P w 0 (fun _ => true) held n te cs = some x) : ∃ y : k.T, Ar (fun _ => True ∧ True) w (.int k) y cs := by
 obtain ⟨z, rfl, _, hw⟩ := DataW.trod_int he h
 exact ⟨GI.ofZ z, by show [_] = [_]; rw [wf_ofZ (T := k.T) hw]⟩
theorem Bg9 {H : Type} {enc : TypeId × Value → H} {w : World} {held : Bool} {k : Kd} {t te : TypeId} (ht : P.underlying t = some (.slice te)) (he : P.underlying te = some (.int k.k)) (hc : P.cellsOf te = 1) (n : Nat) (cs : List Value) (x : DataW H × List MemPlace)
  (h : DataW.trod enc P w 0 (fun _ => true) held n t cs = some x) : ∃ y : List k.T, Ar (fun _ => True ∧ True) w (.list (.int k)) y cs := by
 obtain ⟨a, len, cap, l, rfl, hl⟩ := Awz (E := .int k) ht hc (Nat.one_pos) (Boe he) h
 exact ⟨l, hl⟩
def IsRows (k : Kd) (w : World) (a : Option Addr) (len cap : Nat) (l : List (List k.T)) : Prop := Ar (fun _ => True ∧ True) w (.list (.list (.int k))) l [.slice a len cap]
theorem enc_rows {w : World} {k : Kd} {a : Option Addr} {len cap : Nat} {l : List (List k.T)} (h : IsRows k w a len cap l) : Gf (fun _ => True ∧ True) w [] (.val (.list (.list (.int k))) l) (.slice a len cap) := h
theorem fld_rows {H : Type} {enc : TypeId × Value → H} {w : World} {held : Bool} {fuel : Nat} {t : TypeId} {fs : Array Field} {cs : List Value} {x : DataW H × List MemPlace} (ht : P.underlying t = some (.struct fs)) (h : DataW.trod enc P w 0 (fun _ => true) held fuel t cs = some x)
  (i : Nat) {ft et te : TypeId} {off : Nat} {e : Value} (hf : (fs[i]?).map (fun f => (f.type, f.offset)) = some (ft, off)) (hc : P.cellsOf ft = 1) {k : Kd} (hk : P.underlying ft = some (.slice et)) (he : P.underlying et = some (.slice te)) (h1 : P.cellsOf et = 1) (hi : P.underlying te = some (.int k.k)) (h2 : P.cellsOf te = 1) (hd : (cs.drop off).take 1 = [e]) :
  ∃ (a : Option Addr) (len cap : Nat) (zs : List (List k.T)), e = .slice a len cap ∧ IsRows k w a len cap zs := by
 obtain ⟨n, y, g⟩ := fld ht h i hf hc hd
 obtain ⟨a, len, cap, l, e1, hl⟩ := Awz (E := .list (.int k)) hk h1 (Nat.one_pos) (Bg9 he hi h2) g
 cases e1
 exact ⟨a, len, cap, l, rfl, hl⟩
end Go.Rx
