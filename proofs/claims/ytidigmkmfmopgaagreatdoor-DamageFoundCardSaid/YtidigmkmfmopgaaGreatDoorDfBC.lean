/- A part of the proof of a statement of this seat (see the text that ends in Proof): RxRf, RxIt. No conditions of its own. -/
import Derived.Test.YtidigmkmfmopgaaGreatDoorDfBB
import Derived.RangeFuncNested
import Derived.RangeFuncLeaves
import Derived.LoopNIn
import Derived.LoopIn
set_option linter.unusedVariables false
set_option linter.unusedSimpArgs false
namespace Go.Rx
open Go Go.Lv Go.RowKit
def SeqD(P:Program)(m:Nat)(gf:Nat)(lb:Array Value)(N:Nat)(E:Nat→Reg→World→Value→Prop)(V0:Reg)(w:World):Prop:=
 ∀(l:Nat) (J:Nat→Reg→World→Prop) (Jx:World→Prop) (W:World),KeepN (fun _=>True) w W→
  (∀i V X Y,J i V X→KeepN (fun _=>True) X Y→J i (fun b=>V b∨(X.heap.size≤b∧b<Y.heap.size)) Y)→
  (∀X Y,Jx X→KeepN (fun _=>True) X Y→Jx Y)→
  (∀i V W1 v,i<N→J i V W1→E i V W1 v→YieldAt (wr none) (m-1) P l #[v] W1 fun e W'=>
   (e= .returned (.bool true)∧J (i+1) V W'∧Gr W1 W'∧∀b,V b→W'.heap[b]? =W1.heap[b]?)∨(e= .returned (.bool false)∧Jx W'))→
  J 0 V0 W→
  CallsIn (wr none) m P gf (#[.func (.yield l) #[] #[]]++lb) W fun e W'=>(∃v,e= .returned v)∧((∃V,J N V W')∨Jx W')
def Cke(B:Nat)(I:Reg→World→Prop)(Ix:Code→World→Prop)(V:Reg)(W:World):Exit→Act→World→Prop
 | .normal,_,W'=>(∀b,(b=B∨b=B+1∨V b)→W'.heap[b]? =W.heap[b]?)∧Gr W W'∧I V W'
 | .ret,_,W'=>(∀b,(b=B∨b=B+1)→W'.heap[b]? =W.heap[b]?)∧Gr W W'∧Ix .ret W'
 | .exit id,_,W'=>(∀b,(b=B∨b=B+1)→W'.heap[b]? =W.heap[b]?)∧Gr W W'∧Ix (.exit id) W'
 |_,_,_=>False
theorem Bd4(W:World)(l:Nat)(o:Obj):Gr W (W.putObj l o):=by
 have h:=grownBy_putObj' W l o
 exact⟨h.size,h.os,h.tape,h.output⟩
theorem Bqb(W:World)(o:Obj):Gr W (W.alloc o):=by
 have h:=World.grownBy_alloc W o none
 exact⟨h.size,h.os,h.tape,h.output⟩
theorem Cgv{P:Program}{n:Nat}{g:Operand}{ps:Array Tmp}{assign body:Code}{Q:Exit→Act→World→Prop}{a:Act}{w:World}
  {gf:Nat} {lb:Array Value} (hg:a.eval g= .func (.func gf) #[] lb) (eg:Ent P gf) {N:Nat} {E:Nat→Reg→World→Value→Prop} {V0:Reg} (hseq:SeqD P (n-1) gf lb N E V0 w) (hps:ps.size=1)
  (I:Nat→Reg→World→Prop) (Ix:Code→World→Prop)
  (hI:∀i V X Y,I i V X→w.heap.size+1<X.heap.size→KeepN (fun _=>True) X Y→I i (fun b=>V b∨(X.heap.size≤b∧b<Y.heap.size)) Y)
  (hIx:∀c X Y,Ix c X→KeepN (fun _=>True) X Y→Ix c Y)
  (hIr:∀i V X (r r':Loop),I i V X→X.heap[w.heap.size+1]? =some (.loop r)→I i V (X.putObj (w.heap.size+1) (.loop r')))
  (hIxr:∀c X (r r':Loop),Ix c X→X.heap[w.heap.size+1]? =some (.loop r)→Ix c (X.putObj (w.heap.size+1) (.loop r')))
  (hV:∀i V W,I i V W→¬V (w.heap.size+1))
  (h0:∀W,KeepN (fun _=>True) w W→I 0 V0 W)
  (hround:∀i V W v (r:Loop),i<N→I i V W→E i V W v→W.heap[w.heap.size+1]? =some (.loop r)→W.heap[w.heap.size]? =some (.deferred (some []))→
   assign.wpIn (wr (some (w.heap.size+1))) (n-1-1) P (Exit.then (fun a' W'=>(∀b,(b=w.heap.size∨b=w.heap.size+1∨V b)→W'.heap[b]? =W.heap[b]?)∧Gr W W'∧
    ∀r',body.wpIn (wr (some (w.heap.size+1))) (n-1-1) P (Cke w.heap.size (I (i+1)) Ix V (W'.putObj (w.heap.size+1) (.loop r'))) a' (W'.putObj (w.heap.size+1) (.loop r'))) (fun _ _ _=>False))
    {tmps:=(ps.zip #[v]).foldl (fun t (p,v)=>t.setIfInBounds p v) a.tmps,defers:=[]} W)
  (hdone:∀V W,I N V W→W.heap[w.heap.size]? =some (.deferred (some []))→Q .normal {a with defers:={target:= .collected w.heap.size,args:= #[]}::a.defers} W)
  (hstop:∀c W,Ix c W→W.heap[w.heap.size]? =some (.deferred (some []))→c.wpIn (wr none) n P Q {a with defers:={target:= .collected w.heap.size,args:= #[]}::a.defers} W):
  (Code.rangeFunc g ps assign body).wpIn (wr none) n P Q a w:=by
 refine wpIn_rangeFunc ?_
 intro fn hfn
 obtain⟨rec,hrec⟩:∃rec:LoopState→Option Code→Loop,rec=fun st pe=>{state:=st,pending:=pe,fn,tmps:=a.tmps,params:=ps,assign,body,defers:=w.heap.size}:=⟨_,rfl⟩
 obtain⟨W1,hW1⟩:∃W1,(w.alloc (.deferred (some []))).alloc (.loop (rec .ready none))=W1:=⟨_,rfl⟩
 have hL1:W1.heap[w.heap.size+1]? =some (.loop (rec .ready none)):=by
  rw[←hW1];have:=World.alloc_heap_new (w.alloc (.deferred (some []))) (.loop (rec .ready none));rwa [World.size_alloc]at this
 have hK1:W1.heap[w.heap.size]? =some (.deferred (some [])):=by
  rw[←hW1];exact(Below.heap_alloc _ _ _ (by simp)).trans (World.alloc_heap_new w _)
 have hk1:KeepN (fun _=>True) w W1:=by
  rw[←hW1]
  refine⟨fun b hb _=>?_,(Bqb _ _).trans (Bqb _ _)⟩
  exact(Below.heap_alloc _ _ _ (by simp;omega)).trans (Below.heap_alloc _ _ _ hb)
 refine⟨w.heap.size+1,[{target:= .collected w.heap.size,args:= #[]}],W1,{target:= .fn (.func gf) lb,args:= #[.func (.yield (w.heap.size+1)) #[] #[]]},W1,gf,
  #[.func (.yield (w.heap.size + 1)) #[] #[]] ++ lb, W1, ?_, ?_, ?_, ?_, (fun h => by simp [wr, Fence.wide] at h), ?_⟩
 ·rw[←hW1,hrec];exact run_enterLoop_outer _ _ _ _ _
 ·simp only[resolve,hg]
  simp[go_sem]
 ·intro f' hf';trivial
 ·simp[invoke,go_sem,eg _ _]
 ·refine(hseq (w.heap.size+1)
   (fun i V W=>I i V W∧W.heap[w.heap.size+1]? =some (.loop (rec .ready none))∧W.heap[w.heap.size]? =some (.deferred (some [])))
   (fun W=>∃c,Ix c W∧W.heap[w.heap.size+1]? =some (.loop (rec .done (some c)))∧W.heap[w.heap.size]? =some (.deferred (some [])))
   W1 hk1 ?_ ?_ ?_ ⟨h0 _ hk1,hL1,hK1⟩).mono ?_
  ·rintro i V X Y ⟨h1,h2,h3⟩ hk
   exact⟨hI i V X Y h1 (Ch h2) hk,(hk.same _ (Ch h2) trivial).trans h2,(hk.same _ (Ch h3) trivial).trans h3⟩
  ·rintro X Y ⟨c,h1,h2,h3⟩ hk
   exact⟨c,hIx c X Y h1 hk,(hk.same _ (Ch h2) trivial).trans h2,(hk.same _ (Ch h3) trivial).trans h3⟩
  ·
   rintro i V W v hlen ⟨hi,hl,hk⟩ hE
   have hy:=run_yield (P:=P) (args:= #[v]) hl (by rw[hrec];exact hps.symm)
   rw[hrec]at hy
   have hVl:=hV i V W hi
   refine⟨fn,_,assign,body,hy,roundIn_of_wpIn hfn (wpIn_mono (hround i V W v _ hlen hi hE hl hk) ?_)⟩
   clear hy
   rintro e a' W2 hh
   cases e with
   |normal=>
    obtain⟨hs,hgr,hb⟩:=hh
    have hl2:=(hs _ (.inr (.inl rfl))).trans hl
    have hk2:=(hs _ (.inl rfl)).trans hk
    refine⟨_,run_beginRound hl2 (by rw[hrec]),?_⟩
    refine wpIn_mono (hb _) ?_
    have hlt:=Ch hl2
    have hl3:(W2.putObj (w.heap.size+1) (.loop {rec .ready none with state:= .busy})).heap[w.heap.size+1]? =some (.loop {rec .ready none with state:= .busy}):=World.putObj_heap_same hlt
    have hk3:(W2.putObj (w.heap.size+1) (.loop {rec .ready none with state:= .busy})).heap[w.heap.size]? =some (.deferred (some [])):=(World.putObj_heap_other (by omega)).trans hk2
    have fin:∀(jump:Option Code) (W3:World),(∀b,(b=w.heap.size∨b=w.heap.size+1)→W3.heap[b]? =(W2.putObj (w.heap.size+1) (.loop {rec .ready none with state:= .busy})).heap[b]?)→
      (Instr.endRound (w.heap.size+1) jump).run P W3= .ok (.bool jump.isNone) (W3.putObj (w.heap.size+1) (.loop (rec (if jump.isNone then .ready else .done) jump)))∧
      W3.heap[w.heap.size+1]? =some (.loop {rec .ready none with state:= .busy})∧
      (W3.putObj (w.heap.size+1) (.loop (rec (if jump.isNone then .ready else .done) jump))).heap[w.heap.size+1]? =some (.loop (rec (if jump.isNone then .ready else .done) jump))∧
      (W3.putObj (w.heap.size+1) (.loop (rec (if jump.isNone then .ready else .done) jump))).heap[w.heap.size]? =some (.deferred (some [])):=fun jump W3 hs3=>by
     have hl4:=(hs3 _ (.inr rfl)).trans hl3
     have:=run_endRound (P:=P) jump hl4
     rw[hrec]at this⊢
     exact⟨this,by rw[hrec]at hl4;exact hl4,World.putObj_heap_same (Ch hl4),(World.putObj_heap_other (by omega)).trans ((hs3 _ (.inl rfl)).trans hk3)⟩
    rintro e a3 W3 hp
    cases e with
    |normal=>
     obtain⟨hs3,hg3,hi3⟩:=hp
     obtain⟨hr,hl4,hl5,hk5⟩:=fin none W3 (fun b hb=>hs3 b (hb.elim .inl fun h=> .inr (.inl h)))
     refine⟨_,_,hr, .inl ⟨rfl,⟨hIr _ _ _ _ _ hi3 hl4,hl5,hk5⟩,hgr.trans ((Bd4 _ _ _).trans (hg3.trans (Bd4 _ _ _))),fun b hb=>?_⟩⟩
     have hne:b≠w.heap.size+1:=fun e=>hVl (e▸hb)
     exact(World.putObj_heap_other hne).trans ((hs3 b (.inr (.inr hb))).trans ((World.putObj_heap_other hne).trans (hs b (.inr (.inr hb)))))
    |ret=>
     obtain⟨hs3,hg3,hi3⟩:=hp
     obtain⟨hr,hl4,hl5,hk5⟩:=fin (some .ret) W3 hs3
     exact⟨_,_,hr, .inr ⟨rfl, .ret,hIxr _ _ _ _ hi3 hl4,hl5,hk5⟩⟩
    |exit id=>
     obtain⟨hs3,hg3,hi3⟩:=hp
     obtain⟨hr,hl4,hl5,hk5⟩:=fin (some (.exit id)) W3 hs3
     exact⟨_,_,hr, .inr ⟨rfl, .exit id,hIxr _ _ _ _ hi3 hl4,hl5,hk5⟩⟩
    |goto t=>exact hp.elim
    |panic ch=>exact hp.elim
    |outgrown=>exact hp.elim
   |_=>exact hh.elim
  ·rintro e W2 ⟨⟨v,rfl⟩,(⟨V,hi,hl,hk⟩|⟨c,hi,hl,hk⟩)⟩
   ·exact⟨none,_,by have:=run_endLoop (P:=P) hl (by rw[hrec];simp);rw[hrec]at this;exact this,hdone _ _ (hIr _ _ _ _ _ hi hl) ((World.putObj_heap_other (by omega)).trans hk)⟩
   ·exact⟨some c,_,by have:=run_endLoop (P:=P) hl (by rw[hrec];simp);rw[hrec]at this;exact this,hstop c _ (hIxr _ _ _ _ hi hl) ((World.putObj_heap_other (by omega)).trans hk)⟩
variable {P:Program} {B:Reg} {w w':World} {L L':List MD} {s s':S} {σs σs':List Env} {σ σ':Env} {Z:Fix} {A A':Reg} {n:Nat}
theorem Bz7{md:MD}{b:Nat}(h:md.Hs.holds (some b) w):∃arr T fr,w.heap[b]? =some (.cells arr T fr):=by
 cases md with
 |dead=>
  obtain⟨p,len,cap,h1,h2,h3,h4,h5,h6⟩:=h
  obtain⟨arr,fr,e1,e2,_⟩:=h6 b rfl
  exact⟨_,_,_,e2⟩
 |box b' c T=>obtain⟨h1,h2⟩:=h;cases h1;exact⟨_,_,_,h2⟩
 |own z E v cs=>
  obtain⟨p,len,cap,h1,h2,h3,h4,h5,h6⟩:=h
  obtain⟨arr,fr,e1,e2,_⟩:=h6 b rfl
  exact⟨_,_,_,e2⟩
theorem Bdl:∀{L:List MD} {A:Reg},Mobs w A (L.map MD.Hs)→∃O:Reg,(∀b,O b→¬A b∧b<w.heap.size∧∃arr T fr,w.heap[b]? =some (.cells arr T fr))∧Mobs w (fun b=>¬O b) (L.map MD.Hs)
 |[],A,_=>⟨fun _=>False,fun b h=>h.elim,trivial⟩
 |md::L,A,⟨o,h1,h2,h3⟩=>by
  obtain⟨O,g1,g2⟩:=Bdl h3
  refine⟨fun b=>O b∨o=some b,fun b hb=>?_,o,h1,fun b hb=>⟨fun h=>h (.inr hb),(h2 b hb).2⟩,g2.Yb fun b hb=>?_⟩
  ·rcases hb with hb|hb
   ·exact⟨fun h=>(g1 b hb).1 (.inl h),(g1 b hb).2⟩
   ·subst hb;exact⟨(h2 b rfl).1,(h2 b rfl).2,Bz7 h1⟩
  ·rcases hb with hb|hb
   ·exact fun h=>hb (.inl h)
   ·exact fun h=>(g1 b h).1 (.inr hb)
theorem Rel.gr0(hr:Rel Z s σs A L σ w):Gr Z.w0 w:=(hr.fact 1 (f:= .old Z.M Z.w0) rfl).1
theorem Rel.old(hr:Rel Z s σs A L σ w){b:Nat}(h1:b<Z.w0.heap.size)(h2:¬Z.M b):A b∧w.heap[b]? =Z.w0.heap[b]? :=(hr.fact 1 (f:= .old Z.M Z.w0) rfl).2 b h1 h2
theorem Rel.mk3{Z:Fix}(h1:∀b,A b→b<w.heap.size)(h2:MemR (fun b=>A b∧Z.R b) w L s σs σ)(h3:Gr Z.w0 w)(h4:∀b,b<Z.w0.heap.size→¬Z.M b→A b∧w.heap[b]? =Z.w0.heap[b]?)(h5:Mobs w A (L.map MD.Hs)):Rel Z s σs A L σ w:=
by
 refine⟨h1,fun f hf=>?_,h5⟩
 cases hf with
 |head=>exact h2
 |tail _ hf=>
  cases hf with
  |head=>exact⟨h3,h4⟩
  |tail _ hf=>cases hf
theorem Rel.grow(hr:Rel Z s σs A L σ w)(hk:KeepN (fun _=>True) w w')(h1:∀b,A b→A' b)(h2:∀b,A' b→A b∨(w.heap.size≤b∧b<w'.heap.size)):Rel Z s σs A' L σ w':=by
 have same:∀b,b<w.heap.size→w'.heap[b]? =w.heap[b]? :=fun b hb=>hk.same b hb trivial
 refine Rel.mk3 (fun b hb=>?_) (hr.mem.step (fun b hb=>⟨h1 b hb.1,hb.2⟩) (fun b hb=>same b (St.lt hr b hb.1))) (hr.gr0.trans hk.gr) (fun b hb hM=>?_) ?_
 ·rcases h2 b hb with h|h
  ·exact Nat.lt_of_lt_of_le (St.lt hr b h) hk.gr.le
  ·exact h.2
 ·obtain⟨g1,g2⟩:=hr.old hb hM
  exact⟨h1 b g1,(same b (St.lt hr b g1)).trans g2⟩
 ·exact((St.mobs hr).lt.step hk.gr.le fun b hb _=>same b hb).Yb fun b hb=>(h2 b hb).imp id And.left
theorem Rel.row(hr:Rel Z s σs A L σ w){l:Nat}{o o':Obj}(hA:¬A l)(hl:w.heap[l]? =some o)(ho:o.isCells=false):Rel Z s σs A L σ (w.putObj l o'):=by
 have hne:∀b,A b→b≠l:=fun b hb e=>hA (e▸hb)
 have hg:=Bd4 w l o'
 have same:∀b,b≠l→(w.putObj l o').heap[b]? =w.heap[b]? :=fun b hb=>World.putObj_heap_other hb
 refine Rel.mk3 (fun b hb=>Nat.lt_of_lt_of_le (St.lt hr b hb) hg.le) (hr.mem.step (fun b hb=>hb) (fun b hb=>same b (hne b hb.1))) (hr.gr0.trans hg) (fun b hb hM=>?_) ?_
 ·obtain⟨g1,g2⟩:=hr.old hb hM
  exact⟨g1,(same b (hne b g1)).trans g2⟩
 ·obtain⟨O,g1,g2⟩:=Bdl (St.mobs hr)
  refine(g2.step hg.le fun b hb hO=>same b fun e=>?_).Yb fun b hb hO=>(g1 b hO).1 hb
  subst e
  obtain⟨_,_,arr,T,fr,e⟩:=g1 b (Classical.not_not.1 hO)
  rw[hl]at e;cases e;cases ho
structure Rows (Z:Fix) (A:Reg) (w:World) (X:Reg):Prop where
 out:∀b,X b→¬A b
 new:∀b,X b→Z.w0.heap.size≤b
 row:∀b,X b→∃o,w.heap[b]? =some o∧o.isCells=false
def Fix.sub(Z:Fix)(hr:Rel Z s σs A L σ w)(X:Reg)(hX:Rows Z A w X):Fix where
 R b:=Z.R b∧¬X b
 M b:=b<w.heap.size∧¬A b∧¬X b
 w0:=w
 new b hb:=⟨Z.new b (Nat.le_trans hr.gr0.le hb),fun h=>by obtain⟨o,ho,_⟩:=hX.row b h;have:=Ch ho;omega⟩
 mod b hb:=⟨by
  rcases Nat.lt_or_ge b Z.w0.heap.size with h|h
  ·exact Z.mod b (Classical.byContradiction fun hM=>hb.2.1 (hr.old h hM).1)
  ·exact Z.new b h,hb.2.2⟩
 gl:=Z.gl
 glok p hp:=by
  obtain⟨⟨h1,h2⟩,T,fr,h3⟩:=hr.Buk hp
  exact⟨⟨h2,fun h=>hX.out _ h h1⟩,fun h=>h.2.1 h1,Ch h3,T,fr,h3⟩
theorem Bkk(hr:Rel Z s σs A L σ w){X:Reg}(hX:Rows Z A w X):Rel (Z.sub hr X hX) s σs (fun b=>A b∨X b) L σ w:=by
 refine Rel.mk3 (fun b hb=>?_) (hr.mem.step (fun b hb=>⟨.inl hb.1,hb.2,fun h=>hX.out b h hb.1⟩) (fun _ _=>rfl)) (.refl _) (fun b hb hM=>⟨?_,rfl⟩) ?_
 ·rcases hb with h|h
  ·exact St.lt hr b h
  ·obtain⟨o,ho,_⟩:=hX.row b h;exact Ch ho
 ·exact Classical.byContradiction fun h=>hM ⟨hb,fun g=>h (.inl g),fun g=>h (.inr g)⟩
 ·obtain⟨O,g1,g2⟩:=Bdl (St.mobs hr)
  refine g2.Yb fun b hb hO=>?_
  rcases hb with h|h
  ·exact(g1 b hO).1 h
  ·obtain⟨o,ho,hc⟩:=hX.row b h
   obtain⟨_,_,arr,T,fr,e⟩:=g1 b hO
   rw[ho]at e;cases e;cases hc
theorem Bb2(hr:Rel Z s σs A L σ w){X:Reg}(hX:Rows Z A w X){L2:List MD}{A2:Reg}(h:Rel (Z.sub hr X hX) s' σs' A2 L2 σ' w'):
  Rel Z s' σs' (fun b=>A2 b∧¬X b) L2 σ' w'∧(∀b,A b→A2 b∧¬X b)∧(∀b,(X b∨A b)→w'.heap[b]? =w.heap[b]?)∧Gr w w':=by
 have hold:∀b,(X b∨A b)→A2 b∧w'.heap[b]? =w.heap[b]? :=fun b hb=>by
  have hlt:b<w.heap.size:=by
   rcases hb with h|h
   ·obtain⟨o,ho,_⟩:=hX.row b h;exact Ch ho
   ·exact St.lt hr b h
  exact h.old (Z:=Z.sub hr X hX) hlt fun hM=>hb.elim hM.2.2 hM.2.1
 have hg:Gr w w':=h.gr0 (Z:=Z.sub hr X hX)
 refine⟨Rel.mk3 (fun b hb=>St.lt h b hb.1) (h.mem.step (fun b hb=>⟨⟨hb.1,hb.2.2⟩,hb.2.1⟩) (fun _ _=>rfl)) (hr.gr0.trans hg) (fun b hb hM=>?_) ((St.mobs h).Yb fun b hb=>hb.1),
  fun b hb=>⟨(hold b (.inr hb)).1,fun hx=>hX.out b hx hb⟩,fun b hb=>(hold b hb).2,hg⟩
 obtain⟨g1,g2⟩:=hr.old hb hM
 obtain⟨g3,g4⟩:=hold b (.inr g1)
 exact⟨⟨g3,fun hx=>by have:=hX.new b hx;omega⟩,g4.trans g2⟩
def Az4:PV→Bool
 | .val _ _=>true
 | .agg l=>go l
 |_=>false
where go:List PV→Bool
 |[]=>true
 |a::r=>Az4 a&&go r
mutual
theorem Blr:∀{p:PV} {cs:List Value},Az4 p=true→EncC B w L p cs→EncC B w L' p cs
 | .val e x,cs,_,h=>h
 | .agg l,cs,hv,h=>Bhg hv (show EncC.go B w L l cs from h)
 | .tup _,_,hv,_=>by cases hv
 | .nils,_,hv,_=>by cases hv
 | .own _,_,hv,_=>by cases hv
 | .ptr _ _,_,hv,_=>by cases hv
 | .view _ _ _ _ _ _,_,hv,_=>by cases hv
 | .rptr _,_,hv,_=>by cases hv
 | .fn _ _,_,hv,_=>by cases hv
 | .cst _,_,hv,_=>by cases hv
 | .any,_,hv,_=>by cases hv
 | .gd _ _ _,_,hv,_=>by cases hv
 | .off,_,hv,_=>by cases hv
 | .undef,_,hv,_=>by cases hv
theorem Bhg:∀{l:List PV} {cs:List Value},Az4.go l=true→EncC.go B w L l cs→EncC.go B w L' l cs
 |[],cs,_,h=>h
 |a::l,cs,hv,⟨c1,c2,e,h1,h2⟩=>by
  simp only[Az4.go,Bool.and_eq_true]at hv
  exact⟨c1,c2,e,Blr hv.1 h1,Bhg hv.2 h2⟩
end
theorem Bvk(hr:Rel Z s σs A L σ w){i:Nat}{T:TypeId}{v:PV}(hi:Bw s.it i= .box T v)(hv:Az4 v=true):
  ∃b cells A',L[i]? =some (.box b cells T)∧Rel Z ((s.Uq i .dead).sub i .any) σs A' (L.set i .dead) σ w∧A' b∧Z.R b∧w.heap[b]? =some (.cells cells.toArray T (0,0))∧EncC (fun b=>A' b∧Z.R b) w [] v cells:=by
 have hm:=hr.mem
 obtain⟨b,cells,h1,h2⟩:=hm.box hi
 obtain⟨o,ho,h3,h4⟩:=(St.front hr (hr.Hs h1)).mobs
 obtain⟨rfl,hb⟩:=ho
 have hR:Z.R b:=by
  rcases Nat.lt_or_ge b Z.w0.heap.size with hlt|hge
  ·exact Z.mod b (Classical.byContradiction fun hM=>(h3 b rfl).1 (hr.old hlt hM).1)
  ·exact Z.new b hge
 have hs:St (fun k=>A k∨some b=some k) w [Nl Z.R L s σs σ, .old Z.M Z.w0] ((L.map MD.Hs).eraseIdx i):=by
  refine⟨fun k hk=>hk.elim (St.lt hr k) fun e=>(h3 k e).2,fun f hf=>f.step (St.facts hr f hf) (fun _ h=> .inl h) (fun _ _=>rfl) (.refl _),h4⟩
 have hs2:=Mobs.Atb (hs.Bht 1 0) (Am1 (m':=MD.dead.Hs) (hr.Hs h1))
 have hm2:MemR (fun k=>(A k∨some b=some k)∧Z.R k) w L s σs σ:=hs2.fact 0 rfl
 have hf:Frz (fun k=>(A k∨some b=some k)∧Z.R k) w L i .any:=⟨(fun z E' v' c' h=>by rw[h1]at h;cases h),rfl,rfl⟩
 refine⟨b,cells,fun k=>A k∨some b=some k,h1,Rel.as hs2 (i:=1) rfl (hm2.subst hf) (by rw[List.map_set]), .inr rfl,hR,hb,Blr hv (EncC.step (fun b hb=>⟨.inl hb.1,hb.2⟩) (fun _ _=>rfl) (.refl L) h2)⟩
structure ItC where
 T:TypeId
 e:ET
 F:PV→Option (List e.T)
structure ItOk (P:Program) (gl:List (Nat×List Value)) (gf:Nat) (c:ItC):Prop where
 ent:Ent P gf
 ok:∀(m:Nat) (B:Reg) (w:World) (b:Nat) (v:PV) (cells:List Value) (xs:List c.e.T),(∀k,B k→k<w.heap.size)→B b→w.heap[b]? =some (.cells cells.toArray c.T (0,0))→EncC B w [] v cells→GlOk gl B w→c.F v=some xs→
  SeqD P m gf #[.pointer (some ⟨b,0,none⟩)] xs.length (fun i V W v=>∀x,xs[i]? =some x→EncV V W [] (.val c.e x) v) B w
def Bqv:Code→Bool
 | .rangeFunc _ _ _ _=>false
 | .seq a b=>Bqv a&&Bqv b
 | .cond _ a b=>Bqv a&&Bqv b
 | .block _ a=>Bqv a
 | .loop a=>Bqv a
 | .scope a=>Bqv a
 |_=>true
def rnd{R α:Type}(an:An)(body:(S→Option R)→α→S→Option R)(kn:S→Option R):List α→S→Option R
 |[],s=>kn s
 |x::xs,s=>body (An1 an (rnd an body kn xs)) x s
def Btb{R:Type}(k:S→Option R)(s:S):Option R:=match s.st with|sl::st=>k ⟨sl,s.it,st⟩|[]=>none
def getI:List (Nat×ItC)→Nat→Option ItC|[],_=>none|(g,c)::r,f=>Cg (Nat.beq g f) (some c)<|getI r f
noncomputable def Av8{R:Type}(P:Program)(T:Tab)(inl:Inl R)(n:Nat)(p:Nat)(assign body:Code)(an:An)(k:K R)(e:ET)(kn:S→Option R)(x:e.T)(s:S):Option R:=
 ex P T inl n assign an.r {n:=fun s2=>ex P T inl n body an.l ⟨Btb kn,fun id=>Btb (k.x id),Btb k.r⟩ s2,x:=fun _ _=>none,r:=fun _=>none} ⟨Cba s.sl p (.val e x),s.it,s.sl::s.st⟩
noncomputable def Cit{R:Type}(P:Program)(T:Tab)(inl:Inl R)(n:Nat)(its:List (Nat×ItC))(g:Operand)(ps:Array Tmp)(assign body:Code)(an:An)(k:K R)(s:S):Option R:=
 match Du s.sl g with
 | .fn gf caps=>match caps with
  |[.ptr i []]=>match ps.toList with
   |[p]=>match Bw s.it i with
    | .box T' v=>match getI its gf with
     |some c=>Cg (Nat.beq T' c.T&&Az4 v&&Nat.blt p n) (Option.bind (c.F v) fun xs=>An1 an (rnd an (Av8 P T inl n p assign body an k c.e) k.n xs) ((s.Uq i .dead).sub i .any)) none
     |none=>none
    |_=>none
   |_=>none
  |_=>none
 |_=>none
noncomputable def exF{R:Type}(P:Program)(T:Tab)(inl:Inl R)(n:Nat)(its:List (Nat×ItC)):Code→An→K R→S→Option R
 | .seq a b,an,k,s=>match Bqv a with
  |true=>ex P T inl n a an.l {k with n:=Bhb an fun s'=>exF P T inl n its b an.r k s'} s
  |false=>exF P T inl n its a an.l {k with n:=Bhb an fun s'=>ex P T inl n b an.r k s'} s
 | .block id a,an,k,s=>exF P T inl n its a an.l {k with x:=fun id' s'=>Cg (Nat.beq id' id) (k.n s')<|k.x id' s'} s
 | .rangeFunc g ps assign body,an,k,s=>Cit P T inl n its g ps assign body an k s
 |c,an,k,s=>ex P T inl n c an k s
def mark(D:Nat):Deferred:={target:= .collected D,args:= #[]}
def Bzs:Option Nat→List Deferred|none=>[]|some D=>[mark D]
def W2(P:Program)(n:Nat)(c:Code)(Q:Exit→Env→World→Option Nat→Prop)(σ:Env)(w:World):Prop:=
 ∀(m:Nat) (a:Act),Fits [] n a σ→c.wpIn (wr none) m P (fun e a' w'=>∃σ' D,Fits (Bzs D) n a' σ'∧Q e σ' w' D) a w
variable {R:Type} {r:R} {T:Tab} {inl:Inl R}
def QK2(Z:Fix)(σs:List Env)(k:K R)(r:R)(e:Exit)(σ':Env)(w':World)(D:Option Nat):Prop:=
 ∃s' A' L',kof k e s'=some r∧Rel Z s' σs A' L' σ' w'∧∀d,D=some d→w'.heap[d]? =some (.deferred (some []))∧¬A' d∧Z.w0.heap.size≤d
def kx(k:K R):Code→S→Option R| .ret=>k.r| .exit id=>k.x id|_=>fun _=>none
theorem Bs4{f:Nat}{c:ItC}:∀{its:List (Nat×ItC)},getI its f=some c→(f,c)∈its
 |[],h=>by simp[getI]at h
 |(g,a)::its,h=>by
  simp only[getI]at h
  cases hb:Nat.beq g f with
  |true=>have:=By hb;subst this;rw[hb]at h;cases h;exact .head _
  |false=>rw[hb]at h;exact .tail _ (Bs4 h)
theorem Bh2{an:An}{k:S→Option R}(h:An1 an k s=some r):∃lv co s',s.cn lv co=some s'∧k s'=some r:=by
 unfold An1 at h
 split at h
 ·split at h
  ·rename_i s2 hs2;exact⟨_,_,s2,hs2,h⟩
  ·cases h
 ·cases h
theorem Ccm{its:List (Nat×ItC)}{g:Operand}{ps:Array Tmp}{assign body:Code}{an:An}{k:K R}(h:Cit P T inl n its g ps assign body an k s=some r):
  ∃gf i p v c xs,Du s.sl g= .fn gf [.ptr i []]∧ps.toList=[p]∧Bw s.it i= .box c.T v∧getI its gf=some c∧Az4 v=true∧Nat.blt p n=true∧c.F v=some xs∧
   An1 an (rnd an (Av8 P T inl n p assign body an k c.e) k.n xs) ((s.Uq i .dead).sub i .any)=some r:=by
 unfold Cit at h
 split at h
 ·rename_i gf caps hg
  split at h
  ·rename_i i
   split at h
   ·rename_i p hps
    split at h
    ·rename_i T' v hi
     split at h
     ·rename_i c hc
      obtain⟨hcond,h'⟩:=Ar h
      simp only[Bool.and_eq_true]at hcond
      obtain⟨⟨hT',hpl⟩,hpn⟩:=hcond
      obtain⟨xs,hF,h2⟩:=Go.Lv.bind_some h'
      exact⟨gf,i,p,v,c,xs,hg,hps,by rw[hi,By hT'],hc,hpl,hpn,hF,h2⟩
     ·cases h
    ·cases h
   ·cases h
  ·cases h
 ·cases h
theorem Chu(hMix:P.follows .mixedOrders=true)(hT:Ayx P T Z)(hI:Aef P T.gl inl){its:List (Nat×ItC)}(hits:∀p∈its,ItOk P T.gl p.1 p.2){g:Operand}{ps:Array Tmp}{assign body:Code}{an:An}{k:K R}
  (h:Cit P T inl n its g ps assign body an k s=some r) (hr:Rel Z s σs A L σ w):W2 P n (.rangeFunc g ps assign body) (QK2 Z σs k r) σ w:=by
 intro m a ha
 obtain⟨gf,i,p,v,c,xs,hg,hps,hi,hc,hpl,hpn,hF,hrun⟩:=Ccm h
 clear h
 have hit:=hits _ (Bs4 hc)
 have hg1:=Bxe (by rw[←hg];exact Rj hr.mem.sl g (by rw[hg];rfl))
 obtain⟨us,hgv,v0,_,rfl,hp0,rfl⟩:=hg1
 obtain⟨b,cells,A1,hLb,hr1,hA1b,hRb,hcell,henc⟩:=Bvk hr hi hpl
 have hv0:v0= .pointer (some ⟨b,0,none⟩):=by
  obtain⟨md,b',e1,e2,e3⟩:=(show EncC (fun b=>A b∧Z.R b) w L (.ptr i []) [v0]from hp0)
  rw[hLb]at e1;cases e1
  cases e2
  simpa [Am]using e3
 subst hv0
 have hB1:∀k,(A1 k∧Z.R k)→k<w.heap.size:=fun k hk=>St.lt hr1 k hk.1
 have hseq:=hit.ok (m-1) (fun k=>A1 k∧Z.R k) w b v cells xs hB1 ⟨hA1b,hRb⟩ hcell henc
  (fun q hq=>by rw[←hT.2]at hq;obtain⟨g1,T1,fr,g2⟩:=hr1.Buk hq;exact⟨Ch g2,g1,T1,fr,g2⟩) hF
 have hps':ps= #[p]:=by rw[←Array.toArray_toList (xs:=ps),hps]
 subst hps'
 have hrow2:∀(A:Reg) (W:World) (o o':Obj),¬A w.heap.size→¬A (w.heap.size+1)→W.heap[w.heap.size]? =some o→o.isCells=false→W.heap[w.heap.size+1]? =some o'→o'.isCells=false→Rows Z A W (fun k=>k=w.heap.size∨k=w.heap.size+1):=fun A W o o' h1 h2 h3 h4 h5 h6=>
  ⟨fun k hk=>by rcases hk with rfl|rfl<;>assumption,fun k hk=>by have:=hr.gr0.le;rcases hk with rfl|rfl<;>omega,fun k hk=>by rcases hk with rfl|rfl<;>exact⟨_,by assumption,by assumption⟩⟩
 refine Cgv (gf:=gf) (lb:= #[.pointer (some ⟨b,0,none⟩)]) (by rw[ha.eval];exact hgv) hit.ent hseq rfl
  (fun i V W=>∃s A L,An1 an (rnd an (Av8 P T inl n p assign body an k c.e) k.n (xs.drop i)) s=some r∧Rel Z s σs A L σ W∧(∀b,V b→A b∧Z.R b)∧¬A w.heap.size∧¬A (w.heap.size+1))
  (fun c W=>∃s A L,kx k c s=some r∧Rel Z s σs A L σ W∧¬A w.heap.size∧¬A (w.heap.size+1))
  ?hI ?hIx ?hIr ?hIxr ?hV ?h0 ?hround ?hdone ?hstop
 case hI=>
  rintro i V X Y ⟨s',A',L',h1,h2,h3,h4,h5⟩ hX hk
  refine⟨s',fun b=>A' b∨(X.heap.size≤b∧b<Y.heap.size),L',h1,h2.grow hk (fun _ h=> .inl h) (fun _ h=>h),fun b hb=>?_,?_,?_⟩
  ·rcases hb with h|h
   ·exact⟨.inl (h3 b h).1,(h3 b h).2⟩
   ·exact⟨.inr h,Z.new b (Nat.le_trans h2.gr0.le h.1)⟩
  ·rintro(h|h)
   ·exact h4 h
   ·omega
  ·rintro(h|h)
   ·exact h5 h
   ·omega
 case hIx=>
  rintro c X Y ⟨s',A',L',h1,h2,h3,h4⟩ hk
  exact⟨s',A',L',h1,h2.grow hk (fun _ h=>h) (fun _ h=> .inl h),h3,h4⟩
 case hIr=>
  rintro i V X rr rr' ⟨s',A',L',h1,h2,h3,h4,h5⟩ hX
  exact⟨s',A',L',h1,h2.row h5 hX rfl,h3,h4,h5⟩
 case hIxr=>
  rintro c X rr rr' ⟨s',A',L',h1,h2,h3,h4⟩ hX
  exact⟨s',A',L',h1,h2.row h4 hX rfl,h3,h4⟩
 case hV=>
  rintro i V W ⟨s',A',L',h1,h2,h3,h4,h5⟩ hV
  exact h5 (h3 _ hV).1
 case h0=>
  intro W hk
  refine⟨_,A1,_,hrun,hr1.grow hk (fun _ h=>h) (fun _ h=> .inl h),fun b hb=>hb,fun h=>?_,fun h=>?_⟩
  ·have:=St.lt hr1 _ h;omega
  ·have:=St.lt hr1 _ h;omega
 case hdone=>
  rintro V W ⟨s',A',L',h1,h2,h3,h4,h5⟩ hD
  rw[List.drop_length]at h1
  obtain⟨lv,co,s2,hcn,h1⟩:=Bh2 h1
  have hX:Rows Z A' W (fun k=>k=w.heap.size):=⟨fun k hk=>by subst hk;exact h4,fun k hk=>by subst hk;exact hr.gr0.le,fun k hk=>by subst hk;exact⟨_,hD,rfl⟩⟩
  obtain⟨A2,L2,hr2⟩:=Bfc (Bkk h2 hX) hcn
  obtain⟨g1,g2,g3,g4⟩:=Bb2 h2 hX hr2
  exact⟨σ,some w.heap.size,⟨ha.size,by simp[Bzs,mark,ha.defers],ha.get⟩,s2,_,L2,h1,g1,fun d hd=>by cases hd;exact⟨hD,fun h=>h.2 rfl,hr.gr0.le⟩⟩
 case hstop=>
  rintro c W ⟨s',A',L',h1,h2,h3,h4⟩ hD
  have key:∀e,kof k e s'=some r→∃σ' D,Fits (Bzs D) n {a with defers:={target:= .collected w.heap.size,args:= #[]}::a.defers} σ'∧QK2 Z σs k r e σ' W D:=fun e he=>
   ⟨σ,some w.heap.size,⟨ha.size,by simp[Bzs,mark,ha.defers],ha.get⟩,s',A',L',he,h2,fun d hd=>by cases hd;exact⟨hD,h3,hr.gr0.le⟩⟩
  cases c<;>first
   |exact wpIn_ret (key .ret h1)
   |exact wpIn_exit (key (.exit _) h1)
   |cases h1
 case hround=>
  rintro i V W v rr hi ⟨s',A',L',h1,h2,h3,h4,h5⟩ hE hl hD
  have hX:=hrow2 A' W _ _ h4 h5 hD rfl hl rfl
  have hin:=Bkk h2 hX
  obtain⟨lv,co,s2,hcn,h1⟩:=Bh2 h1
  obtain⟨A2,L2,hr2⟩:=Bfc hin hcn
  obtain⟨x,hx⟩:∃x,xs[i]? =some x:=⟨_,List.getElem?_eq_getElem hi⟩
  have hdrop:xs.drop i=x::xs.drop (i+1):=by rw[List.drop_eq_getElem_cons hi];congr 1;rw[List.getElem?_eq_getElem hi]at hx;exact Option.some.inj hx
  rw[hdrop]at h1
  have h1':Av8 P T inl n p assign body an k c.e (An1 an (rnd an (Av8 P T inl n p assign body an k c.e) k.n (xs.drop (i+1)))) x s2=some r:=h1
  unfold Av8 at h1'
  have hlt:=Ch hl
  have hA2:∀b,A' b→A2 b:=fun b hb=>(hr2.old (Z:=Z.sub h2 _ hX) (St.lt h2 b hb) (fun hM=>hM.2.1 hb)).1
  have hval:Dy (fun b=>A2 b∧(Z.sub h2 _ hX).R b) W L2 (.val c.e x) v:=by
   refine(Jb (EncV.step (B:=V) (w:=W) (L:=[]) (fun b hb=>⟨hA2 b (h3 b hb).1,(h3 b hb).2,fun h=>?_⟩) (fun b hb=>rfl) (by have:=LeL.append [] L2;rwa [List.nil_append]at this) (hE x hx))).2
   rcases h with rfl|rfl
   ·exact h4 (h3 _ hb).1
   ·exact h5 (h3 _ hb).1
  have hr3:Rel (Z.sub h2 _ hX) ⟨Cba s2.sl p (.val c.e x),s2.it,s2.sl::s2.st⟩ (σ::σs) A2 L2 (Uq σ p v) W:=
   Rel.as hr2 (i:=1) rfl ⟨hr2.mem.it,hr2.mem.sl.set (Hj.put rfl hval),hr2.mem.sl,hr2.mem.stk⟩ rfl
  have hfit:Fits [] n ({tmps:=((#[p]:Array Tmp).zip #[v]).foldl (fun t (p,v)=>t.setIfInBounds p v) a.tmps,defers:=[]}:Act) (Uq σ p v):=by
   have hp:=ha.put hpn v
   exact⟨by simpa [Act.put]using hp.size,rfl,by simpa [Act.put]using hp.get⟩
  refine wpIn_mono (Bfu (Z:=Z.sub h2 _ hX) hMix ⟨hT.1,hT.2⟩ hI assign h1' hr3 (some (w.heap.size+1)) (m-1-1) [] _ hfit) ?_
  rintro e a2 W2 ⟨σ2,hf2,s3,A3,L3,hk3,hr3'⟩
  cases e with
  |normal=>
   have hk3':ex P T inl n body an.l ⟨Btb (An1 an (rnd an (Av8 P T inl n p assign body an k c.e) k.n (xs.drop (i+1)))),fun id=>Btb (k.x id),Btb k.r⟩ s3=some r:=hk3
   obtain⟨g1,g2,g3,g4⟩:=Bb2 h2 hX hr3'
   refine⟨fun b hb=>g3 b (by rcases hb with h|h|h;exact .inl (.inl h);exact .inl (.inr h);exact .inr (h3 b h).1),g4,fun r'=>?_⟩
   have hl2:W2.heap[w.heap.size+1]? =some (.loop rr):=(g3 _ (.inl (.inr rfl))).trans hl
   have hD2:W2.heap[w.heap.size]? =some (.deferred (some [])):=(g3 _ (.inl (.inl rfl))).trans hD
   have hnl:¬(A3 (w.heap.size+1)∧¬(w.heap.size+1=w.heap.size∨w.heap.size+1=w.heap.size+1)):=fun h=>h.2 (.inr rfl)
   have hnD:¬(A3 w.heap.size∧¬(w.heap.size=w.heap.size∨w.heap.size=w.heap.size+1)):=fun h=>h.2 (.inl rfl)
   have hr4:=Rel.row (o':= .loop r') g1 hnl hl2 rfl
   have hl3:(W2.putObj (w.heap.size+1) (.loop r')).heap[w.heap.size+1]? =some (.loop r'):=World.putObj_heap_same (Ch hl2)
   have hD3:(W2.putObj (w.heap.size+1) (.loop r')).heap[w.heap.size]? =some (.deferred (some [])):=(World.putObj_heap_other (by omega)).trans hD2
   have hX3:=hrow2 (fun b=>A3 b∧¬(b=w.heap.size∨b=w.heap.size+1)) _ _ _ hnD hnl hD3 rfl hl3 rfl
   refine wpIn_mono (Bfu (Z:=Z.sub hr4 _ hX3) hMix ⟨hT.1,hT.2⟩ hI body hk3' (Bkk hr4 hX3) (some (w.heap.size+1)) (m-1-1) [] a2 hf2) ?_
   rintro e a5 W5 ⟨σ5,hf5,s5,A5,L5,hk5,hr5⟩
   have pop:∀(kk:S→Option R),Btb kk s5=some r→∃s6 A6,kk s6=some r∧Rel Z s6 σs A6 L5 σ W5∧(∀b,A3 b∧¬(b=w.heap.size∨b=w.heap.size+1)→A6 b)∧¬A6 w.heap.size∧¬A6 (w.heap.size+1):=by
    intro kk hkk
    unfold Btb at hkk
    split at hkk
    ·rename_i sl st hst
     have hstk:=hr5.mem.stk
     rw[hst]at hstk
     have hr6:Rel (Z.sub hr4 _ hX3) ⟨sl,s5.it,st⟩ σs A5 L5 σ W5:=Rel.as hr5 (i:=1) rfl ⟨hr5.mem.it,hstk.1,hstk.2⟩ rfl
     obtain⟨q1,q2,q3,q4⟩:=Bb2 hr4 hX3 hr6
     exact⟨_,_,hkk,q1,q2,fun h=>h.2 (.inl rfl),fun h=>h.2 (.inr rfl)⟩
    ·cases hkk
   obtain⟨_,_,q3,q4⟩:=Bb2 hr4 hX3 hr5
   cases e with
   |normal=>
    obtain⟨s6,A6,p1,p2,p3,p4,p5⟩:=pop _ hk5
    refine⟨fun b hb=>q3 b ?_,q4,s6,A6,L5,p1,p2,fun b hb=>⟨p3 b (g2 b (h3 b hb).1),(h3 b hb).2⟩,p4,p5⟩
    rcases hb with h|h|h
    ·exact .inl (.inl h)
    ·exact .inl (.inr h)
    ·exact .inr (g2 b (h3 b h).1)
   |ret=>
    obtain⟨s6,A6,p1,p2,p3,p4,p5⟩:=pop _ hk5
    exact⟨fun b hb=>q3 b (.inl hb),q4,s6,A6,L5,p1,p2,p4,p5⟩
   |exit id=>
    obtain⟨s6,A6,p1,p2,p3,p4,p5⟩:=pop _ hk5
    exact⟨fun b hb=>q3 b (.inl hb),q4,s6,A6,L5,p1,p2,p4,p5⟩
   |goto t=>cases hk5
   |panic ch=>cases hk5
   |outgrown=>cases hk5
  |ret=>cases hk3
  |exit id=>cases hk3
  |goto t=>cases hk3
  |panic ch=>cases hk3
  |outgrown=>cases hk3
theorem QK2.exit{e:Exit}{k k':K R}{σ':Env}{w':World}{D:Option Nat}(h:QK2 Z σs k r e σ' w' D)(he:∀s,kof k e s=some r→kof k' e s=some r):QK2 Z σs k' r e σ' w' D:=by
 obtain⟨s',A',L',h1,h2⟩:=h;exact⟨s',A',L',he _ h1,h2⟩
theorem Cj7(hMix:P.follows .mixedOrders=true)(hT:Ayx P T Z)(hI:Aef P T.gl inl){its:List (Nat×ItC)}(hits:∀p∈its,ItOk P T.gl p.1 p.2):∀(c:Code) {an:An} {k:K R} {s:S} {A:Reg} {L:List MD} {σ:Env} {w:World},
  exF P T inl n its c an k s=some r→Rel Z s σs A L σ w→W2 P n c (QK2 Z σs k r) σ w:=by
 have dflt:∀(c:Code) {an:An} {k:K R} {s:S} {A:Reg} {L:List MD} {σ:Env} {w:World},ex P T inl n c an k s=some r→Rel Z s σs A L σ w→W2 P n c (QK2 Z σs k r) σ w:=by
  intro c an k s A L σ w h hr m a ha
  refine wpIn_mono (Bfu hMix hT hI c h hr none m [] a ha) ?_
  rintro e a' w' ⟨σ',hf,s',A',L',h1,h2⟩
  exact⟨σ',none,hf,s',A',L',h1,h2,fun d hd=>by cases hd⟩
 intro c
 induction c with
 |seq a b iha ihb=>
  intro an k s A L σ w h hr m act ha
  simp only[exF]at h
  split at h
  ·refine wpIn_seq (wpIn_mono (Bfu hMix hT hI a h hr none m [] act ha) ?_)
   rintro e a' w' ⟨σ',hf,s',A',L',h1,hr'⟩
   cases e with
   |normal=>
    have h2:Bhb an (fun s'=>exF P T inl n its b an.r k s') s'=some r:=h1
    unfold Bhb at h2
    split at h2
    ·split at h2
     ·rename_i s2 hs2
      obtain⟨A2,L2,hr2⟩:=Bfc hr' hs2
      exact ihb h2 hr2 m a' hf
     ·cases h2
    ·exact ihb h2 hr' m a' hf
   |_=>exact⟨σ',none,hf,s',A',L',h1,hr',fun d hd=>by cases hd⟩
  ·refine wpIn_seq (wpIn_mono (iha h hr m act ha) ?_)
   rintro e a' w' ⟨σ',D,hf,s',A',L',h1,hr',hD⟩
   cases e with
   |normal=>
    have h2:Bhb an (fun s'=>ex P T inl n b an.r k s') s'=some r:=h1
    have hX:Rows Z A' w' (fun k=>D=some k):=⟨fun k hk=>(hD k hk).2.1,fun k hk=>(hD k hk).2.2,fun k hk=>⟨_,(hD k hk).1,rfl⟩⟩
    have fin:∀{s2:S} {A2:Reg} {L2:List MD},ex P T inl n b an.r k s2=some r→Rel (Z.sub hr' _ hX) s2 σs A2 L2 σ' w'→b.wpIn (wr none) m P (fun e a' w'=>∃σ' D,Fits (Bzs D) n a' σ'∧QK2 Z σs k r e σ' w' D) a' w':=by
     intro s2 A2 L2 h3 hr2
     refine wpIn_mono (Bfu (Z:=Z.sub hr' _ hX) hMix ⟨hT.1,hT.2⟩ hI b h3 hr2 none m (Bzs D) a' hf) ?_
     rintro e a'' w'' ⟨σ'',hf',s3,A3,L3,h4,hr3⟩
     obtain⟨g1,g2,g3,g4⟩:=Bb2 hr' hX hr3
     exact⟨σ'',D,hf',s3,_,L3,h4,g1,fun d hd=>⟨(g3 d (.inl hd)).trans (hD d hd).1,fun h=>h.2 hd,(hD d hd).2.2⟩⟩
    unfold Bhb at h2
    split at h2
    ·split at h2
     ·rename_i s2 hs2
      obtain⟨A2,L2,hr2⟩:=Bfc (Bkk hr' hX) hs2
      exact fin h2 hr2
     ·cases h2
    ·exact fin h2 (Bkk hr' hX)
   |_=>exact⟨σ',D,hf,s',A',L',h1,hr',hD⟩
 |block id a iha=>
  intro an k s A L σ w h hr m act ha
  refine wpIn_block (wpIn_mono (iha (an:=an.l) (k:={k with x:=fun id' s'=>Cg (Nat.beq id' id) (k.n s')<|k.x id' s'}) h hr m act ha) ?_)
  rintro e a' w' ⟨σ',D,hf,hq⟩
  cases e with
  |exit id'=>
   simp only[Exit.inBlock]
   obtain⟨s',A',L',h1,hr'⟩:=hq
   have h2:(Cg (Nat.beq id' id) (k.n s')<|k.x id' s')=some r:=h1
   by_cases hid:id'=id
   ·rw[if_pos hid]
    subst hid
    simp at h2
    exact⟨σ',D,hf,s',A',L',h2,hr'⟩
   ·rw[if_neg hid]
    have hb:Nat.beq id' id=false:=by
     cases hb:Nat.beq id' id with
     |false=>rfl
     |true=>exact absurd (By hb) hid
    rw[hb]at h2
    exact⟨σ',D,hf,s',A',L',h2,hr'⟩
  |_=>exact⟨σ',D,hf,hq⟩
 |rangeFunc g ps assign body _ _=>intro an k s A L σ w h hr;exact Chu hMix hT hI hits h hr
 |_=>intro an k s A L σ w h hr;exact dflt _ (by simpa only[exF]using h) hr
theorem Bix{fn:Func}{vs:List Value}(hle:Nat.ble vs.length fn.ntmps=true):Fits [] fn.ntmps {tmps:=vs.toArray++Array.replicate (fn.ntmps-vs.toArray.size) undef,defers:=[]} (Azo vs):=by
 have hle':vs.length≤fn.ntmps:=by simpa using hle
 refine⟨by simp;omega,rfl,fun t=>?_⟩
 simp only[Azo,Array.getD_eq_getD_getElem?,List.getD_eq_getElem?_getD,Array.getElem?_append,List.size_toArray,List.getElem?_toArray]
 by_cases ht:t<vs.length
 ·simp[ht]
 ·rw[if_neg ht,List.getElem?_eq_none (by omega)]
  by_cases h2:t-vs.length<fn.ntmps-vs.length
  ·simp[Array.getElem?_replicate,h2]
  ·simp[Array.getElem?_replicate,h2]
noncomputable def Chs(P:Program)(T:Tab)(ans:List (Nat×An))(its:List (Nat×ItC))(f:Func)(an:An)(ps rs:List Sh)(x:LTy (shL ps)):Option (LTy (shL rs)):=
 match f.body,args ps x with
 |some c,some vs=>exF P T (Afk P T 8 ans) f.ntmps its c an {n:=Ay5 P rs f.results.toList,x:=fun _ _=>none,r:=Ay5 P rs f.results.toList} ⟨Yc 0 vs,argI ps x,[]⟩
 |_,_=>none
theorem Bp6(hMix:P.follows .mixedOrders=true){f:Nat}{fn:Func}{ans:List (Nat×An)}{its:List (Nat×ItC)}{an:An}{ps rs:List Sh}{F:LTy (shL ps)→Option (LTy (shL rs))}(hf:P.funcs[f]? =some fn)(hE:Ent P f)(hT:Aeg P T)(hA:∀p∈ans,Ent P p.1)
  (hits:∀p∈its,ItOk P T.gl p.1 p.2) (hle:Nat.ble ps.length fn.ntmps=true) (h:∀x,Chs P T ans its fn an ps rs x=F x):ConOk P T.gl f ⟨ps,rs,F⟩:=by
 cases hc:fn.body with
 |none=>
  refine Akg (RUN:=fun _=>none) (fn:=fn) hE (fun x y pvs hx hy=>?_) (fun _ _ _ _ _ _ _ _ _ _ _ h=>by cases h)
  rw[←h x]at hy
  unfold Chs at hy
  rw[hc]at hy
  exact hy
 |some c=>
  refine Akg (T:=T) (fn:=fn) (RUN:=exF P T (Afk P T 8 ans) fn.ntmps its c an {n:=Ay5 P rs fn.results.toList,x:=fun _ _=>none,r:=Ay5 P rs fn.results.toList}) hE (fun x y pvs hx hy=>?_) ?_
  ·rw[←h x]at hy
   unfold Chs at hy
   rw[hc,hx]at hy
   exact hy
  ·intro Z A L w s y vs Q hZ hr hl hy fin
   refine(callsIn_wide (n:=4)).1 (callsIn_of_wp_marks hf hc trivial (wpIn_mono (Cj7 hMix ⟨hT,hZ⟩ (Bbr hMix hT hA 8) hits c hy hr 4 _ (Bix (by rw[hl];exact hle))) ?_) rfl)
   rintro e a' w' ⟨σ',D,hf',s',A',L',h1,hr',hD⟩
   have key:Ay5 P rs fn.results.toList s'=some y→LeavesInM (wr none) 4 P fn a'.tmps Q a'.defers .returning w':=by
    intro h1
    rw[hf'.defers]
    cases D with
    |none=>
     obtain⟨us,h2,h3⟩:=fin s' A' L' σ' w' h1 hr'
     exact⟨_,Ao7 (by simp) hf' h2,h3⟩
    |some d=>
     obtain⟨g1,g2,g3⟩:=hD d rfl
     obtain⟨us,h2,h3⟩:=fin s' A' L' σ' _ h1 (hr'.row (o':= .deferred none) g2 g1 rfl)
     exact⟨by simp, .inl ⟨d,_,rfl,run_takeDeferred g1,_,Ao7 (by simp) hf' h2,h3⟩⟩
   cases e with
   |normal=>exact key h1
   |ret=>exact key h1
   |exit id=>cases h1
   |goto l=>cases h1
   |panic c=>cases h1
   |outgrown=>cases h1
end Go.Rx
set_option linter.unusedVariables false
set_option linter.unusedSimpArgs false
namespace Go.Rx
open Go Go.Lv Go.RowKit
variable {P:Program} {B:Reg} {w w':World} {L L':List MD} {s s':S} {σs σs':List Env} {σ σ':Env} {Z:Fix} {A A':Reg} {n:Nat}
variable {R:Type} {r:R} {T:Tab}
def Ba5:Exit→Option Nat| .normal=>some 0| .exit id=>some (id+2)| .ret=>some 1|_=>none
structure MemI (gl:List (Nat×List Value)) (V:Reg) (w:World) (s:S) (σ:Env):Prop where
 lt:∀b,V b→b<w.heap.size
 it:s.it=[]
 st:s.st=[]
 sl:SlotsR V w [] σ s.sl
 gl:GlOk gl V w
theorem GlOk.keep{gl:List (Nat×List Value)}{V V':Reg}(h:GlOk gl V w)(hV:∀b,V b→V' b)(hs:Same V w w')(hg:Gr w w'):GlOk gl V' w':=fun p hp=>
 let⟨h1,h2,T,fr,h3⟩:=h p hp
 ⟨Nat.lt_of_lt_of_le h1 hg.le,hV _ h2,T,fr,(hs _ h2).trans h3⟩
theorem MemI.keep{gl:List (Nat×List Value)}{V V':Reg}(h:MemI gl V w s σ)(hV:∀b,V b→V' b)(hl:∀b,V' b→b<w'.heap.size)(hs:Same V w w')(hg:Gr w w'):MemI gl V' w' s σ:=
 ⟨hl,h.it,h.st,h.sl.step hV hs (.refl []),h.gl.keep hV hs hg⟩
theorem MemI.Bro{gl:List (Nat×List Value)}{V:Reg}(h:MemI gl V w s σ){sl:Slots}(hs:∀p∈sl,p∈s.sl):MemI gl V w ⟨sl,[],[]⟩ σ:=
 ⟨h.lt,rfl,rfl,fun p hp=>h.sl p (hs p hp),h.gl⟩
def Bza(gl:List (Nat×List Value))(V:Reg)(w:World)(h:GlOk gl V w):Fix where
 R b:=V b∨w.heap.size≤b
 M _:=False
 w0:=w
 new _ hb:= .inr hb
 mod _ h:=h.elim
 gl:=gl
 glok p hp:=let⟨h1,h2,h3⟩:=h p hp;⟨.inl h2,id,h1,h3⟩
theorem MemI.rel{gl:List (Nat×List Value)}{V:Reg}(h:MemI gl V w s σ):Rel (Bza gl V w h.gl) s [] (fun b=>b<w.heap.size) [] σ w:=by
 refine Rel.mk3 (fun b hb=>hb) ⟨⟨by rw[h.it];rfl,fun i a m h1=>by rw[h.it]at h1;simp at h1⟩,h.sl.step (fun b hb=>⟨h.lt b hb, .inl hb⟩) (fun _ _=>rfl) (.refl []),?_⟩ (.refl _) (fun b hb _=>⟨hb,rfl⟩) trivial
 rw[h.st];trivial
def grown(V:Reg)(w w':World):Reg:=fun b=>V b∨(w.heap.size≤b∧b<w'.heap.size)
theorem MemI.back{gl:List (Nat×List Value)}{V:Reg}(h:MemI gl V w s σ){A':Reg}{L':List MD}(hr:Rel (Bza gl V w h.gl) s' [] A' L' σ' w')(h1:s'.it=[]):
  KeepN (fun _=>True) w w'∧MemI gl (grown V w w') w' s' σ':=by
 have hk:KeepN (fun _=>True) w w':=⟨fun b hb _=>(hr.old (Z:=Bza gl V w h.gl) hb id).2,hr.gr0 (Z:=Bza gl V w h.gl)⟩
 have hL:L'=[]:=by
  have:=hr.mem.it.1
  rw[h1]at this
  exact List.eq_nil_of_length_eq_zero this.symm
 subst hL
 refine⟨hk,fun b hb=>hb.elim (fun h'=>Nat.lt_of_lt_of_le (h.lt b h') hk.gr.le) And.right,h1,?_,hr.mem.sl.step (fun b hb=>hb.2.elim .inl fun h=> .inr ⟨h,St.lt hr b hb.1⟩) (fun _ _=>rfl) (.refl []),?_⟩
 ·have:=hr.mem.stk
  cases hst:s'.st with
  |nil=>rfl
  |cons a l=>rw[hst]at this;exact this.elim
 ·exact h.gl.keep (fun b hb=> .inl hb) (fun b hb=>hk.same b (h.lt b hb) trivial) hk.gr
theorem Ccu{m:Nat}{o:Oper}{a:Act}{next next':Act→World→Prop}{Y:Act→World→Prop}{Q:Exit→Act→World→Prop}{x:Result Next}(hn:∀a w,next a w→next' a w)
  (h:o.uponIn (wr none) m P a next (Nrm Y) x):o.uponIn (wr none) m P a next' Q x:=by
 cases x with
 |ok x w'=>
  cases x with
  |value v=>exact hn _ _ h
  |skip=>exact hn _ _ h
  |defer d=>exact hn _ _ h
  |enter f args=>
   refine⟨h.1,h.2.mono ?_⟩
   intro e w'' hh
   cases e with
   |returned v=>exact hn _ _ hh
   |panicked c=>exact absurd hh.1 (by simp)
   |outgrown=>exact(Bo8 hh).elim
  |row row args=>exact⟨h.1,h.2.mono fun v w'' hh=>hn _ _ hh⟩
  |round l f t b c=>
   refine⟨h.1,h.2.mono ?_⟩
   intro e w'' hh
   cases e with
   |returned v=>exact hn _ _ hh
   |panicked c=>exact absurd hh.1 (by simp)
   |outgrown=>exact(Bo8 hh).elim
  |_=>exact h.elim
 |halt x w'=>
  cases x with
  |panic v=>exact absurd h.1 (by simp)
  |_=>exact h.elim
theorem Ar8{m:Nat}{ops:Array Oper}{Y:Act→World→Prop}{Q:Exit→Act→World→Prop}{l2:List Oper}(h2:∀a w,Y a w→wpListIn (wr none) m P ops Q l2 a w):∀{l1:List Oper} {a:Act} {w:World},
  wpListIn (wr none) m P ops (Nrm Y) l1 a w→wpListIn (wr none) m P ops Q (l1++l2) a w
 |[],a,w,h=>h2 a w h.2
 |o::l1,a,w,h=>by
  simp only[wpListIn,List.cons_append]at h⊢
  split
  ·rename_i hw
   rw[if_pos hw]at h
   exact⟨h.1,Ccu (fun a w h=>Ar8 h2 h) h.2⟩
  ·rename_i hw
   rw[if_neg hw]at h
   exact⟨h.1,Ar8 h2 h.2⟩
theorem Ce0{m:Nat}{ops:Array Oper}{Q:Exit→Act→World→Prop}{rest:List Oper}{o:Oper}{d:Nat}(hg:o.guard=none)(hd:o.dst=some d)(hdn:Nat.blt d n=true)(hne:∀c,o.op≠ .defer c){l:Nat}{v:Value}
  (hx:(execOp (ev σ) o).run P w=(Instr.yield l #[v]).run P w) {RR:Ending→World→Prop} (hy:YieldAt (wr none) (m-1) P l #[v] w RR)
  (hR:∀e w',RR e w'→∃u,e= .returned u∧∀a',Fits [] n a' (Uq σ d u)→wpListIn (wr none) m P ops Q rest a' w') {a:Act} (ha:Fits [] n a σ):wpListIn (wr none) m P ops Q (o::rest) a w:=by
 obtain⟨fn,tmps,assign,body,hy1,hr⟩:=hy
 simp only[wpListIn]
 have hw:Region.wanted o (yielded ops a.tmps)=true:=by simp only[Region.wanted,hg]
 rw[if_pos hw]
 refine⟨fun _ _=>trivial,?_⟩
 rw[Oper.semAt_eq _ _ _ hne,ha.eval,hx,hy1]
 refine⟨(fun h=>by simp[wr,Fence.wide]at h),hr.mono ?_⟩
 intro e w' he
 obtain⟨u,rfl,h⟩:=hR e w' he
 exact h _ (by rw[hd];exact ha.put hdn u)
def cnP(lv:List Nat)(co:List At)(q:Nat)(s:S):Option (Nat×S):=match s.cn lv co with|some s'=>some (q,s')|none=>none
def kC(lv:List Nat)(co:List At):K (Nat×S):=⟨cnP lv co 0,fun id=>cnP lv co (id+2),cnP lv co 1⟩
theorem Bcn{lv:List Nat}{co:List At}{q q':Nat}(h:cnP lv co q s=some (q',s')):q'=q∧s.cn lv co=some s':=by
 unfold cnP at h
 split at h
 ·rename_i s2 hs;cases h;exact⟨rfl,hs⟩
 ·cases h
theorem Ayn{inl:Inl (Nat×S)}(hMix:P.follows .mixedOrders=true)(hT:Aeg P T)(hI:Aef P T.gl inl){J:Reg→World→Prop}(hJ:∀V X Y,J V X→KeepN (fun _=>True) X Y→J (grown V X Y) Y)
  {c:Code} {an:An} {lv:List Nat} {co:List At} {q:Nat} (h:ex P T inl n c an (kC lv co) s=some (q,s')) (h1:s'.it=[]) {V:Reg} (hm:MemI T.gl V w s σ) (hj:J V w) {m:Nat} {a:Act} (ha:Fits [] n a σ):
  c.wpIn (wr none) m P (fun e a' w'=>Ba5 e=some q∧∃σ' V',Fits [] n a' σ'∧J V' w'∧MemI T.gl V' w' s' σ') a w:=by
 refine wpIn_mono (Bfu (Z:=Bza T.gl V w hm.gl) hMix ⟨hT,rfl⟩ hI c h hm.rel none m [] a ha) ?_
 rintro e a' w' ⟨σ',hf,s2,A',L',h2,hr⟩
 have key:Ba5 e=some q∧s2.cn lv co=some s':=by
  cases e with
  |normal=>obtain⟨rfl,h3⟩:=Bcn h2;exact⟨rfl,h3⟩
  |ret=>obtain⟨rfl,h3⟩:=Bcn h2;exact⟨rfl,h3⟩
  |exit id=>obtain⟨rfl,h3⟩:=Bcn h2;exact⟨rfl,h3⟩
  |goto l=>cases h2
  |panic c=>cases h2
  |outgrown=>cases h2
 obtain⟨h3,h4⟩:=key
 obtain⟨A2,L2,hr2⟩:=Bfc hr h4
 obtain⟨g1,g2⟩:=hm.back hr2 h1
 exact⟨h3,σ',_,hf,hJ _ _ _ hj g1,g2⟩
theorem Az3{inl:Inl (Nat×S)}(hMix:P.follows .mixedOrders=true)(hT:Aeg P T)(hI:Aef P T.gl inl){J:Reg→World→Prop}(hJ:∀V X Y,J V X→KeepN (fun _=>True) X Y→J (grown V X Y) Y)
  {c d:Code} (an:An) (lv:List Nat) (co:List At) (h:ex P T inl n c an (kC lv co) s=some (0,s')) (h1:s'.it=[]) {V:Reg} (hm:MemI T.gl V w s σ) (hj:J V w) {m:Nat} {a:Act} (ha:Fits [] n a σ) {Q:Exit→Act→World→Prop}
  (hk:∀σ' V' w' a',Fits [] n a' σ'→J V' w'→MemI T.gl V' w' s' σ'→d.wpIn (wr none) m P Q a' w'):(Code.seq c d).wpIn (wr none) m P Q a w:=by
 refine wpIn_seq (wpIn_mono (Ayn hMix hT hI hJ h h1 hm hj ha) ?_)
 rintro e a' w' ⟨he,σ',V',h2,h3,h4⟩
 cases e with
 |normal=>exact hk σ' V' w' a' h2 h3 h4
 |ret=>simp[Ba5]at he
 |exit id=>simp[Ba5]at he
 |goto l=>cases he
 |panic c=>cases he
 |outgrown=>cases he
theorem Bpw{inl:Inl (Nat×S)}(hT:Aeg P T)(hI:Aef P T.gl inl){J:Reg→World→Prop}(hJ:∀V X Y,J V X→KeepN (fun _=>True) X Y→J (grown V X Y) Y){ops:Array Oper}{l l2:List Oper}(lv:List Nat)(hd:Azi l=true)
  (h:Azj P T inl n ops l s (cnP lv [] 0)=some (0,s')) (h1:s'.it=[]) {V:Reg} (hm:MemI T.gl V w s σ) (hj:J V w) {m:Nat} {a:Act} (ha:Fits [] n a σ) {Q:Exit→Act→World→Prop}
  (hk:∀σ' V' w' a',Fits [] n a' σ'→J V' w'→MemI T.gl V' w' s' σ'→wpListIn (wr none) m P ops Q l2 a' w'):wpListIn (wr none) m P ops Q (l++l2) a w:=by
 have h2:=Bjp (Z:=Bza T.gl V w hm.gl) (ops:=ops) ⟨hT,rfl⟩ hI hm.rel h
 have h3:WL P n ops l (fun σ' w'=>∃V',J V' w'∧MemI T.gl V' w' s' σ') σ w:=by
  refine Akd h2 ?_
  rintro σ' w' ⟨s2,A',L',g1,hr⟩
  obtain⟨_,g2⟩:=Bcn g1
  obtain⟨A2,L2,hr2⟩:=Bfc hr g2
  obtain⟨g3,g4⟩:=hm.back hr2 h1
  exact⟨_,hJ _ _ _ hj g3,g4⟩
 exact Ar8 (Y:=fun a' w'=>∃σ',Fits [] n a' σ'∧∃V',J V' w'∧MemI T.gl V' w' s' σ') (fun a' w' ⟨σ',g1,V',g2,g3⟩=>hk σ' V' w' a' g1 g2 g3) (Be8 (Bhp hd) (h3 [] a ha))
theorem MemI.set{gl:List (Nat×List Value)}{V:Reg}(h:MemI gl V w s σ){d:Nat}{p:PV}{v:Value}(hv:p.isV=true)(hp:Dy V w [] p v):MemI gl V w ⟨Cba s.sl d p,[],[]⟩ (Uq σ d v):=
 ⟨h.lt,rfl,rfl,h.sl.set (.put hv hp),h.gl⟩
theorem MemI.round{gl:List (Nat×List Value)}{V:Reg}(h:MemI gl V w s σ)(hg:Gr w w')(hs:∀b,V b→w'.heap[b]? =w.heap[b]?):MemI gl V w' s σ:=
 h.keep (fun _ h=>h) (fun b hb=>Nat.lt_of_lt_of_le (h.lt b hb) hg.le) hs hg
theorem MemI.val{gl:List (Nat×List Value)}{V:Reg}(h:MemI gl V w s σ){t:Nat}{p:PV}(hp:(t,p)∈s.sl)(hv:p.isV=true):Dy V w [] p (σ t):=(Hj.iff hv).1 (h.sl _ hp)
theorem Brp{o:Oper}{g x:Operand}{ts:Array TypeId}(ho:o.op= .call ⟨.value g, #[x],ts⟩) {l:Nat} {v:Value} (hg:ev σ g= .func (.yield l) #[] #[]) (hx:ev σ x=v):
  (execOp (ev σ) o).run P w=(Instr.yield l #[v]).run P w:=by
 obtain⟨d,op,ty,pos,after,gd⟩:=o
 simp only at ho
 subst ho
 simp[execOp,resolve,invoke,hg,hx,go_sem]
theorem Ayf{F:Fence}{n:Nat}{P:Program}{Q:Exit→Act→World→Prop}{a:Act}{w:World}{c:Code}(m:Nat)(I:Nat→Act→World→Prop)(h0:∀a w,¬I 0 a w)
  (hs:∀q a w,I (q+1) a w→c.wpIn F n P (Exit.then (I q) Q) a w) (h:I m a w):(Code.loop c).wpIn F n P Q a w:=by
 refine wpIn_loop_rounds m ?_
 induction m generalizing a w with
 |zero=>exact absurd h (h0 a w)
 |succ m ih=>
  rw[roundsIn_succ]
  refine wpIn_mono (hs m a w h) fun e a' w' hh=>?_
  cases e<;>first|exact ih hh|exact hh
def cA:Code→Code| .seq a _=>a| .cond _ a _=>a| .block _ a=>a| .loop a=>a|c=>c
def cB:Code→Code| .seq _ b=>b| .cond _ _ b=>b|c=>c
def cO:Code→List Oper| .region _ ops _=>ops.toList|_=>[]
def fB(f:Func):Code:=match f.body with|some c=>c|none=> .skip
def oAt:List Oper→Nat→Oper
 |[],_=>⟨none, .move (.tmp 0),0, "", #[],none⟩
 |o::_,0=>o
 |_::l,q+1=>oAt l q
end Go.Rx
