/- A part of a proof (see the text that ends in Proof). No conditions. -/
import Derived.Test.YtaokmgopghpikaaGreatDoorVgBB
import Derived.RangeFuncNested
import Derived.RangeFuncLeaves
import Derived.LoopIn
set_option linter.unusedVariables false
set_option linter.unusedSimpArgs false
namespace Go.Rx
open Go Go.Lv Go.RowKit
variable{an:An}{ps:Array Tmp}{assign body:Code}{fn:Func}{g:Operand}
def zL(P:Program)(m:Nat)(gf:Nat)(lb:Array Value)(N:Nat)(E:Nat->Reg->World->Value->Prop)(V0:Reg)(w:World):Prop:=
 ∀(l:Nat) (J:Nat->Reg->World->Prop) (Jx:World->Prop) (W:World),KeepN (λ_=>True) w W->
  (∀i V X Y,J i V X->KeepN (λ_=>True) X Y->J i (λb=>V b\/ (X.heap.size<=b/\b<Y.heap.size)) Y)->
  (∀X Y,Jx X->KeepN (λ_=>True) X Y->Jx Y)->
  (∀i V W1 v,i<N->J i V W1->E i V W1 v->YieldAt (wr none) (m-1) P l #[v] W1 λe W'=>
   (e= .returned (.bool true)/\J (i+1) V W'/\Gr W1 W'/\∀b,V b->W'.heap[b]? =W1.heap[b]?)\/ (e= .returned (.bool false)/\Jx W'))->
  J 0 V0 W->
  CallsIn (wr none) m P gf (#[.func (.yield l) #[] #[]]++lb) W λe W'=>(∃v,e= .returned v)/\ ((∃V,J N V W')\/Jx W')
def As4(B:Nat)(I:Reg->World->Prop)(Ix:Code->World->Prop)(V:Reg)(W:World):Exit->Act->World->Prop
 | .normal,_,W'=>(∀b,(b=B\/b=B+1\/V b)->W'.heap[b]? =W.heap[b]?)/\Gr W W'/\I V W'
 | .ret,_,W'=>(∀b,(b=B\/b=B+1)->W'.heap[b]? =W.heap[b]?)/\Gr W W'/\Ix .ret W'
 | .exit id,_,W'=>(∀b,(b=B\/b=B+1)->W'.heap[b]? =W.heap[b]?)/\Gr W W'/\Ix (.exit id) W'
 |_,_,_=>False
theorem uQ(W:World)(l:Nat)(o:Obj):Gr W (W.putObj l o):=by
 have h:=grownBy_putObj' W l o;exact⟨h.size,h.os,h.tape,h.output⟩
theorem Ab0(W:World)(o:Obj):Gr W (W.alloc o):=by
 have h:=World.grownBy_alloc W o none;exact⟨h.size,h.os,h.tape,h.output⟩
theorem Ant{P:Program}{n:Nat}{Q:Exit->Act->World->Prop}{a:Act}{w:World}
  {gf:Nat} {lb:Array Value} (hg:a.eval g= .func (.func gf) #[] lb) (eg:Ent P gf) {N:Nat} {E:Nat->Reg->World->Value->Prop} {V0:Reg} (hseq:zL P (n-1) gf lb N E V0 w) (hps:ps.size=1)
  (I:Nat->Reg->World->Prop) (Ix:Code->World->Prop)
  (hI:∀i V X Y,I i V X->w.heap.size+1<X.heap.size->KeepN (λ_=>True) X Y->I i (λb=>V b\/ (X.heap.size<=b/\b<Y.heap.size)) Y)
  (hIx:∀c X Y,Ix c X->KeepN (λ_=>True) X Y->Ix c Y)
  (hIr:∀i V X (r r':Loop),I i V X->X.heap[w.heap.size+1]? =some (.loop r)->I i V (X.putObj (w.heap.size+1) (.loop r')))
  (Yk:∀c X (r r':Loop),Ix c X->X.heap[w.heap.size+1]? =some (.loop r)->Ix c (X.putObj (w.heap.size+1) (.loop r')))
  (hV:∀i V W,I i V W-> ¬V (w.heap.size+1))
  (h0:∀W,KeepN (λ_=>True) w W->I 0 V0 W)
  (f_:∀i V W v (r:Loop),i<N->I i V W->E i V W v->W.heap[w.heap.size+1]? =some (.loop r)->W.heap[w.heap.size]? =some (.deferred (some []))->
   assign.wpIn (wr (some (w.heap.size+1))) (n-1-1) P (Exit.then (λa' W'=>(∀b,(b=w.heap.size\/b=w.heap.size+1\/V b)->W'.heap[b]? =W.heap[b]?)/\Gr W W'/\
    ∀r',body.wpIn (wr (some (w.heap.size+1))) (n-1-1) P (As4 w.heap.size (I (i+1)) Ix V (W'.putObj (w.heap.size+1) (.loop r'))) a' (W'.putObj (w.heap.size+1) (.loop r'))) (λ_ _ _=>False))
    {tmps:=(ps.zip #[v]).foldl (λt (p,v)=>t.setIfInBounds p v) a.tmps,defers:=[]} W)
  (hdone:∀V W,I N V W->W.heap[w.heap.size]? =some (.deferred (some []))->Q .normal {a with defers:={target:= .collected w.heap.size,args:= #[]}::a.defers} W)
  (hstop:∀c W,Ix c W->W.heap[w.heap.size]? =some (.deferred (some []))->c.wpIn (wr none) n P Q {a with defers:={target:= .collected w.heap.size,args:= #[]}::a.defers} W):
  (Code.rangeFunc g ps assign body).wpIn (wr none) n P Q a w:=by
 refine wpIn_rangeFunc ?_;intro fn hfn;obtain⟨rec,hrec⟩:∃rec:LoopState->Option Code->Loop,rec=λst pe=>{state:=st,pending:=pe,fn,tmps:=a.tmps,params:=ps,assign,body,defers:=w.heap.size}:=⟨_,rfl⟩;obtain⟨W1,hW1⟩:∃W1,(w.alloc (.deferred (some []))).alloc (.loop (rec .ready none))=W1:=⟨_,rfl⟩;have hL1:W1.heap[w.heap.size+1]? =some (.loop (rec .ready none)):=by
  rw[<-hW1];have:=Z7 (w.alloc (.deferred (some []))) (.loop (rec .ready none));rwa [World.size_alloc]at this
 have hK1:W1.heap[w.heap.size]? =some (.deferred (some [])):=by
  rw[<-hW1];exact(Below.heap_alloc _ _ _ A7).trans (Z7 w _)
 have hk1:KeepN (λ_=>True) w W1:=by
  rw[<-hW1];refine⟨λb hb _=>?_,(Ab0 _ _).trans (Ab0 _ _)⟩;exact(Below.heap_alloc _ _ _ F7).trans (Below.heap_alloc _ _ _ hb)
 refine⟨w.heap.size+1,[{target:= .collected w.heap.size,args:= #[]}],W1,{target:= .fn (.func gf) lb,args:= #[.func (.yield (w.heap.size+1)) #[] #[]]},W1,gf,
  #[.func (.yield (w.heap.size + 1)) #[] #[]] ++ lb, W1, ?_, ?_, ?_, ?_, (λh => by simp [wr, Fence.wide] at h), ?_⟩
 ·rw[<-hW1,hrec];exact run_enterLoop_outer _ _ _ _ _
 ·simp only[resolve,hg];simp[go_sem]
 ·intro f' hf';trivial
 ·simp[invoke,go_sem,eg _ _]
 ·refine(hseq (w.heap.size+1)
   (λi V W=>I i V W/\W.heap[w.heap.size+1]? =some (.loop (rec .ready none))/\W.heap[w.heap.size]? =some (.deferred (some [])))
   (λW=>∃c,Ix c W/\W.heap[w.heap.size+1]? =some (.loop (rec .done (some c)))/\W.heap[w.heap.size]? =some (.deferred (some [])))
   W1 hk1 ?_ ?_ ?_ ⟨h0 _ hk1,hL1,hK1⟩).mono ?_
  ·rintro i V X Y ⟨h1,h2,h3⟩ hk;exact⟨hI i V X Y h1 (lt_of_heap h2) hk,(hk.same _ (lt_of_heap h2) trivial).trans h2,(hk.same _ (lt_of_heap h3) trivial).trans h3⟩
  ·rintro X Y ⟨c,h1,h2,h3⟩ hk;exact⟨c,hIx c X Y h1 hk,(hk.same _ (lt_of_heap h2) trivial).trans h2,(hk.same _ (lt_of_heap h3) trivial).trans h3⟩
  ·
   rintro i V W v hlen ⟨hi,hl,hk⟩ hE;have hy:=run_yield (P:=P) (args:= #[v]) hl (by rw[hrec];exact hps.symm);rw[hrec]at hy;have hVl:=hV i V W hi;refine⟨fn,_,assign,body,hy,roundIn_of_wpIn hfn (P2 (f_ i V W v _ hlen hi hE hl hk) ?_)⟩;clear hy;rintro e a' W2 hh;cases e with
   |normal=>
    obtain⟨hs,hgr,hb⟩:=hh;have hl2:=(hs _ (.inr (.inl rfl))).trans hl;have hk2:=(hs _ (.inl rfl)).trans hk;refine⟨_,run_beginRound hl2 (by rw[hrec]),?_⟩;refine P2 (hb _) ?_;have hlt:=lt_of_heap hl2;have hl3:(W2.putObj (w.heap.size+1) (.loop {rec .ready none with state:= .busy})).heap[w.heap.size+1]? =some (.loop {rec .ready none with state:= .busy}):=lL hlt;have hk3:(W2.putObj (w.heap.size+1) (.loop {rec .ready none with state:= .busy})).heap[w.heap.size]? =some (.deferred (some [])):=(TS F0).trans hk2;have fin:∀(jump:Option Code) (W3:World),(∀b,(b=w.heap.size\/b=w.heap.size+1)->W3.heap[b]? =(W2.putObj (w.heap.size+1) (.loop {rec .ready none with state:= .busy})).heap[b]?)->
      (Instr.endRound (w.heap.size+1) jump).run P W3= .ok (.bool jump.isNone) (W3.putObj (w.heap.size+1) (.loop (rec (if jump.isNone then .ready else .done) jump)))/\
      W3.heap[w.heap.size+1]? =some (.loop {rec .ready none with state:= .busy})/\
      (W3.putObj (w.heap.size+1) (.loop (rec (if jump.isNone then .ready else .done) jump))).heap[w.heap.size+1]? =some (.loop (rec (if jump.isNone then .ready else .done) jump))/\
      (W3.putObj (w.heap.size+1) (.loop (rec (if jump.isNone then .ready else .done) jump))).heap[w.heap.size]? =some (.deferred (some [])):=λjump W3 hs3=>by
     have hl4:=(hs3 _ (.inr rfl)).trans hl3;have:=run_endRound (P:=P) jump hl4;rw[hrec]at this⊢;exact⟨this,by rw[hrec]at hl4;exact hl4,lL (lt_of_heap hl4),(TS F0).trans ((hs3 _ (.inl rfl)).trans hk3)⟩
    rintro e a3 W3 hp;cases e with
    |normal=>
     obtain⟨hs3,hg3,hi3⟩:=hp;obtain⟨hr,hl4,hl5,hk5⟩:=fin none W3 (λb hb=>hs3 b (hb.elim .inl λh=> .inr (.inl h)));refine⟨_,_,hr, .inl ⟨rfl,⟨hIr _ _ _ _ _ hi3 hl4,hl5,hk5⟩,hgr.trans ((uQ _ _ _).trans (hg3.trans (uQ _ _ _))),λb hb=>?_⟩⟩;have hne:b≠w.heap.size+1:=λe=>hVl (e▸hb);exact(TS hne).trans ((hs3 b (.inr (.inr hb))).trans ((TS hne).trans (hs b (.inr (.inr hb)))))
    |ret=>
     obtain⟨hs3,hg3,hi3⟩:=hp;obtain⟨hr,hl4,hl5,hk5⟩:=fin (some .ret) W3 hs3;exact⟨_,_,hr, .inr ⟨rfl, .ret,Yk _ _ _ _ hi3 hl4,hl5,hk5⟩⟩
    |exit id=>
     obtain⟨hs3,hg3,hi3⟩:=hp;obtain⟨hr,hl4,hl5,hk5⟩:=fin (some (.exit id)) W3 hs3;exact⟨_,_,hr, .inr ⟨rfl, .exit id,Yk _ _ _ _ hi3 hl4,hl5,hk5⟩⟩
    |goto t=>exact hp.elim
    |panic ch=>exact hp.elim
    |outgrown=>exact hp.elim
   |_=>exact hh.elim
  ·rintro e W2 ⟨⟨v,rfl⟩,(⟨V,hi,hl,hk⟩|⟨c,hi,hl,hk⟩)⟩
   ·exact⟨none,_,by have:=run_endLoop (P:=P) hl (by rw[hrec];simp);rw[hrec]at this;exact this,hdone _ _ (hIr _ _ _ _ _ hi hl) ((TS F0).trans hk)⟩
   ·exact⟨some c,_,by have:=run_endLoop (P:=P) hl (by rw[hrec];simp);rw[hrec]at this;exact this,hstop c _ (Yk _ _ _ _ hi hl) ((TS F0).trans hk)⟩
variable {P:Program} {B:Reg} {w w':World} {L L':List MD} {s s':S} {σs σs':List Env} {σ σ':Env} {Z:Fix} {A A':Reg} {n:Nat}
theorem Afs{md:MD}{b:Nat}(h:md.Hg.holds (some b) w):∃arr T fr,w.heap[b]? =some (.cells arr T fr):=by
 cases md with
 |dead=>
  obtain⟨p,len,cap,h1,h2,h3,h4,h5,h6⟩:=h;obtain⟨arr,fr,e1,e2,_⟩:=h6 b rfl;exact⟨_,_,_,e2⟩
 |box b' c T=>obtain⟨h1,h2⟩:=h;cases h1;exact⟨_,_,_,h2⟩
 |own z E v cs=>
  obtain⟨p,len,cap,h1,h2,h3,h4,h5,h6⟩:=h;obtain⟨arr,fr,e1,e2,_⟩:=h6 b rfl;exact⟨_,_,_,e2⟩
theorem sW:∀{L:List MD} {A:Reg},Cs w A (L.map MD.Hg)->∃O:Reg,(∀b,O b-> ¬A b/\b<w.heap.size/\∃arr T fr,w.heap[b]? =some (.cells arr T fr))/\Cs w (λb=>¬O b) (L.map MD.Hg)
 |[],A,_=>⟨λ_=>False,λb h=>h.elim,trivial⟩
 |md::L,A,⟨o,h1,h2,h3⟩=>by
  obtain⟨O,g1,g2⟩:=sW h3;refine⟨λb=>O b\/o=some b,λb hb=>?_,o,h1,λb hb=>⟨λh=>h (.inr hb),(h2 b hb).2⟩,g2.Wb λb hb=>?_⟩
  ·rcases hb with hb|hb
   ·exact⟨λh=>(g1 b hb).1 (.inl h),(g1 b hb).2⟩
   ·subst hb;exact⟨(h2 b rfl).1,(h2 b rfl).2,Afs h1⟩
  ·rcases hb with hb|hb
   ·exact λh=>hb (.inl h)
   ·exact λh=>(g1 b h).1 (.inr hb)
theorem Rel.gr0(hr:Rel Z s σs A L σ w):Gr Z.w0 w:=(hr.fact 1 (f:= .old Z.M Z.w0) rfl).1
theorem Rel.old(hr:Rel Z s σs A L σ w){b:Nat}(h1:b<Z.w0.heap.size)(h2:¬Z.M b):A b/\w.heap[b]? =Z.w0.heap[b]? :=(hr.fact 1 (f:= .old Z.M Z.w0) rfl).2 b h1 h2
theorem Rel.mk3{Z:Fix}(h1:∀b,A b->b<w.heap.size)(h2:MemR (λb=>A b/\Z.R b) w L s σs σ)(h3:Gr Z.w0 w)(h4:∀b,b<Z.w0.heap.size-> ¬Z.M b->A b/\w.heap[b]? =Z.w0.heap[b]?)(h5:Cs w A (L.map MD.Hg)):Rel Z s σs A L σ w:=
by
 refine⟨h1,λf hf=>?_,h5⟩;cases hf with
 |head=>exact h2
 |tail _ hf=>
  cases hf with
  |head=>exact⟨h3,h4⟩
  |tail _ hf=>cases hf
theorem Rel.grow(hr:Rel Z s σs A L σ w)(hk:KeepN (λ_=>True) w w')(h1:∀b,A b->A' b)(h2:∀b,A' b->A b\/ (w.heap.size<=b/\b<w'.heap.size)):Rel Z s σs A' L σ w':=by
 have same:∀b,b<w.heap.size->w'.heap[b]? =w.heap[b]? :=λb hb=>hk.same b hb trivial;refine Rel.mk3 (λb hb=>?_) (hr.mem.step (λb hb=>⟨h1 b hb.1,hb.2⟩) (λb hb=>same b (St.lt hr b hb.1))) (hr.gr0.trans hk.gr) (λb hb hM=>?_) ?_
 ·rcases h2 b hb with h|h
  ·exact M0 (St.lt hr b h) hk.gr.le
  ·exact h.2
 ·obtain⟨g1,g2⟩:=hr.old hb hM;exact⟨h1 b g1,(same b (St.lt hr b g1)).trans g2⟩
 ·exact((St.mobs hr).lt.step hk.gr.le λb hb _=>same b hb).Wb λb hb=>(h2 b hb).imp id And.left
theorem Rel.row(hr:Rel Z s σs A L σ w){l:Nat}{o o':Obj}(hA:¬A l)(hl:w.heap[l]? =some o)(ho:o.isCells=false):Rel Z s σs A L σ (w.putObj l o'):=by
 have hne:∀b,A b->b≠l:=λb hb e=>hA (e▸hb);have hg:=uQ w l o';have same:∀b,b≠l-> (w.putObj l o').heap[b]? =w.heap[b]? :=λb hb=>TS hb;refine Rel.mk3 (λb hb=>M0 (St.lt hr b hb) hg.le) (hr.mem.step (λb hb=>hb) (λb hb=>same b (hne b hb.1))) (hr.gr0.trans hg) (λb hb hM=>?_) ?_
 ·obtain⟨g1,g2⟩:=hr.old hb hM;exact⟨g1,(same b (hne b g1)).trans g2⟩
 ·obtain⟨O,g1,g2⟩:=sW (St.mobs hr);refine(g2.step hg.le λb hb hO=>same b λe=>?_).Wb λb hb hO=>(g1 b hO).1 hb;subst e;obtain⟨_,_,arr,T,fr,e⟩:=g1 b (Classical.not_not.1 hO);rw[hl]at e;cases e;cases ho
structure Rows (Z:Fix) (A:Reg) (w:World) (X:Reg):Prop where
 out:∀b,X b-> ¬A b
 new:∀b,X b->Z.w0.heap.size<=b
 row:∀b,X b->∃o,w.heap[b]? =some o/\o.isCells=false
def Fix.sub(Z:Fix)(hr:Rel Z s σs A L σ w)(X:Reg)(hX:Rows Z A w X):Fix where
 R b:=Z.R b/\ ¬X b
 M b:=b<w.heap.size/\ ¬A b/\ ¬X b
 w0:=w
 new b hb:=⟨Z.new b (U4 hr.gr0.le hb),λh=>by obtain⟨o,ho,_⟩:=hX.row b h;have:=lt_of_heap ho;omega⟩
 mod b hb:=⟨by
  rcases RP b Z.w0.heap.size with h|h
  ·exact Z.mod b (Z4 λhM=>hb.2.1 (hr.old h hM).1)
  ·exact Z.new b h,hb.2.2⟩
 gl:=Z.gl
 glok p hp:=by
  obtain⟨⟨h1,h2⟩,T,fr,h3⟩:=hr.Ua hp;exact⟨⟨h2,λh=>hX.out _ h h1⟩,λh=>h.2.1 h1,lt_of_heap h3,T,fr,h3⟩
theorem I0(hr:Rel Z s σs A L σ w){X:Reg}(hX:Rows Z A w X):Rel (Z.sub hr X hX) s σs (λb=>A b\/X b) L σ w:=by
 refine Rel.mk3 (λb hb=>?_) (hr.mem.step (λb hb=>⟨.inl hb.1,hb.2,λh=>hX.out b h hb.1⟩) (λ_ _=>rfl)) (.refl _) (λb hb hM=>⟨?_,rfl⟩) ?_
 ·rcases hb with h|h
  ·exact St.lt hr b h
  ·obtain⟨o,ho,_⟩:=hX.row b h;exact lt_of_heap ho
 ·exact Z4 λh=>hM ⟨hb,λg=>h (.inl g),λg=>h (.inr g)⟩
 ·obtain⟨O,g1,g2⟩:=sW (St.mobs hr);refine g2.Wb λb hb hO=>?_;rcases hb with h|h
  ·exact(g1 b hO).1 h
  ·obtain⟨o,ho,hc⟩:=hX.row b h;obtain⟨_,_,arr,T,fr,e⟩:=g1 b hO;rw[ho]at e;cases e;cases hc
theorem rY(hr:Rel Z s σs A L σ w){X:Reg}(hX:Rows Z A w X){L2:List MD}{A2:Reg}(h:Rel (Z.sub hr X hX) s' σs' A2 L2 σ' w'):
  Rel Z s' σs' (λb=>A2 b/\ ¬X b) L2 σ' w'/\ (∀b,A b->A2 b/\ ¬X b)/\ (∀b,(X b\/A b)->w'.heap[b]? =w.heap[b]?)/\Gr w w':=by
 have hold:∀b,(X b\/A b)->A2 b/\w'.heap[b]? =w.heap[b]? :=λb hb=>by
  have hlt:b<w.heap.size:=by
   rcases hb with h|h
   ·obtain⟨o,ho,_⟩:=hX.row b h;exact lt_of_heap ho
   ·exact St.lt hr b h
  exact h.old (Z:=Z.sub hr X hX) hlt λhM=>hb.elim hM.2.2 hM.2.1
 have hg:Gr w w':=h.gr0 (Z:=Z.sub hr X hX);refine⟨Rel.mk3 (λb hb=>St.lt h b hb.1) (h.mem.step (λb hb=>⟨⟨hb.1,hb.2.2⟩,hb.2.1⟩) (λ_ _=>rfl)) (hr.gr0.trans hg) (λb hb hM=>?_) ((St.mobs h).Wb λb hb=>hb.1),
  λb hb=>⟨(hold b (.inr hb)).1,λhx=>hX.out b hx hb⟩,λb hb=>(hold b hb).2,hg⟩
 obtain⟨g1,g2⟩:=hr.old hb hM;obtain⟨g3,g4⟩:=hold b (.inr g1);exact⟨⟨g3,λhx=>by have:=hX.new b hx;omega⟩,g4.trans g2⟩
def nK:PV->Bool
 | .val _ _=>true
 | .agg l=>go l
 |_=>false
where go:List PV->Bool
 |[]=>true
 |a::r=>nK a&&go r
mutual
theorem Ade:∀{p:PV} {cs:List Value},nK p=true->Ba B w L p cs->Ba B w L' p cs
 | .val e x,cs,_,h=>h
 | .agg l,cs,hv,h=>Awj hv (show Ba.go B w L l cs from h)
 | .tup _,_,hv,_=>by cases hv
 | .nils,_,hv,_=>by cases hv
 | .own _,_,hv,_=>by cases hv
 | .ptr _ _,_,hv,_=>by cases hv
 | .view _ _ _ _ _ _,_,hv,_=>by cases hv
 | .rptr _,_,hv,_=>by cases hv
 | .fn _ _,_,hv,_=>by cases hv
 | .cap _ _ _,_,hv,_=>by cases hv
 | .mp _ _,_,hv,_=>by cases hv
 | .bfn _ _,_,hv,_=>by cases hv
 | .cst _,_,hv,_=>by cases hv
 | .any,_,hv,_=>by cases hv
 | .gd _ _ _,_,hv,_=>by cases hv
 | .off,_,hv,_=>by cases hv
 | .undef,_,hv,_=>by cases hv
theorem Awj:∀{l:List PV} {cs:List Value},nK.go l=true->Ba.go B w L l cs->Ba.go B w L' l cs
 |[],cs,_,h=>h
 |a::l,cs,hv,⟨c1,c2,e,h1,h2⟩=>by
  simp only[nK.go,B9]at hv;exact⟨c1,c2,e,Ade hv.1 h1,Awj hv.2 h2⟩
end
theorem Aay(hr:Rel Z s σs A L σ w){i:Nat}{T:TypeId}{v:PV}(hi:Cg s.it i= .box T v)(hv:nK v=true):
  ∃b cells A',L[i]? =some (.box b cells T)/\Rel Z ((s.Sg i .dead).sub i .any) σs A' (L.set i .dead) σ w/\A' b/\Z.R b/\w.heap[b]? =some (.cells cells.toArray T (0,0))/\Ba (λb=>A' b/\Z.R b) w [] v cells:=by
 have hm:=hr.mem;obtain⟨b,cells,h1,h2⟩:=hm.box hi;obtain⟨o,ho,h3,h4⟩:=(St.front hr (hr.Hg h1)).mobs;obtain⟨rfl,hb⟩:=ho;have hR:Z.R b:=by
  rcases RP b Z.w0.heap.size with hlt|hge
  ·exact Z.mod b (Z4 λhM=>(h3 b rfl).1 (hr.old hlt hM).1)
  ·exact Z.new b hge
 have hs:St (λk=>A k\/some b=some k) w [Nb Z.R L s σs σ, .old Z.M Z.w0] ((L.map MD.Hg).eraseIdx i):=by
  refine⟨λk hk=>hk.elim (St.lt hr k) λe=>(h3 k e).2,λf hf=>f.step (St.facts hr f hf) (λ_ h=> .inl h) (λ_ _=>rfl) (.refl _),h4⟩
 have hs2:=Cs.bC (hs.I6 1 0) (RA (m':=MD.dead.Hg) (hr.Hg h1));have hm2:MemR (λk=>(A k\/some b=some k)/\Z.R k) w L s σs σ:=hs2.fact 0 rfl;have hf:Frz (λk=>(A k\/some b=some k)/\Z.R k) w L i .any:=⟨(λz E' v' c' h=>by rw[h1]at h;cases h),rfl,rfl⟩;refine⟨b,cells,λk=>A k\/some b=some k,h1,Rel.as hs2 (i:=1) rfl (hm2.subst hf) (by rw[U6]), .inr rfl,hR,hb,Ade hv (Ba.step (λb hb=>⟨.inl hb.1,hb.2⟩) (λ_ _=>rfl) (.refl L) h2)⟩
structure ItC where
 T:TypeId
 e:ET
 F:PV->Option (List e.T)
structure ItOk (P:Program) (gl:List (Nat×List Value)) (gf:Nat) (c:ItC):Prop where
 ent:Ent P gf
 ok:∀(m:Nat) (B:Reg) (w:World) (b:Nat) (v:PV) (cells:List Value) (xs:List c.e.T),(∀k,B k->k<w.heap.size)->B b->w.heap[b]? =some (.cells cells.toArray c.T (0,0))->Ba B w [] v cells->GlOk gl B w->c.F v=some xs->
  zL P m gf #[.pointer (some ⟨b,0,none⟩)] xs.length (λi V W v=>∀x,xs[i]? =some x->Gg V W [] (.val c.e x) v) B w
def m_:Code->Bool
 | .rangeFunc _ _ _ _=>false
 | .seq a b=>m_ a&&m_ b
 | .cond _ a b=>m_ a&&m_ b
 | .block _ a=>m_ a
 | .loop a=>m_ a
 | .scope a=>m_ a
 |_=>true
def rnd{R α:Type}(an:An)(body:(S->Option R)->α->S->Option R)(kn:S->Option R):List α->S->Option R
 |[],s=>kn s
 |x::xs,s=>body (TL an (rnd an body kn xs)) x s
def E!{R:Type}(k:S->Option R)(s:S):Option R:=match s.st with|sl::st=>k ⟨sl,s.it,st⟩|[]=>none
def Aj:List (Nat×ItC)->Nat->Option ItC|[],_=>none|(g,c)::r,f=>Ch (Nat.beq g f) (some c)<|Aj r f
noncomputable def iY{R:Type}(P:Program)(T:Tab)(inl:sM R)(n:Nat)(p:Nat)(assign body:Code)(an:An)(k:K R)(e:ET)(kn:S->Option R)(x:e.T)(s:S):Option R:=
 ex P T inl n assign an.r {n:=λs2=>ex P T inl n body an.l ⟨E! kn,λid=>E! (k.x id),E! k.r⟩ s2,x:=λ_ _=>none,r:=λ_=>none} ⟨X2 s.sl p (.val e x),s.it,s.sl::s.st⟩
noncomputable def bY{R:Type}(P:Program)(T:Tab)(inl:sM R)(n:Nat)(its:List (Nat×ItC))(g:Operand)(ps:Array Tmp)(assign body:Code)(an:An)(k:K R)(s:S):Option R:=
 match Dr s.sl g with
 | .fn gf caps=>match caps with
  |[.ptr i []]=>match ps.toList with
   |[p]=>match Cg s.it i with
    | .box T' v=>match Aj its gf with
     |some c=>Ch (Nat.beq T' c.T&&nK v&&Nat.blt p n) (Option.bind (c.F v) λxs=>TL an (rnd an (iY P T inl n p assign body an k c.e) k.n xs) ((s.Sg i .dead).sub i .any)) none
     |none=>none
    |_=>none
   |_=>none
  |_=>none
 |_=>none
noncomputable def pW{R:Type}(P:Program)(T:Tab)(inl:sM R)(n:Nat)(its:List (Nat×ItC)):Code->An->K R->S->Option R
 | .seq a b,an,k,s=>match m_ a with
  |true=>ex P T inl n a an.l {k with n:=M3 an λs'=>pW P T inl n its b an.r k s'} s
  |false=>pW P T inl n its a an.l {k with n:=M3 an λs'=>ex P T inl n b an.r k s'} s
 | .block id a,an,k,s=>pW P T inl n its a an.l {k with x:=λid' s'=>Ch (Nat.beq id' id) (k.n s')<|k.x id' s'} s
 | .rangeFunc g ps assign body,an,k,s=>bY P T inl n its g ps assign body an k s
 |c,an,k,s=>ex P T inl n c an k s
def mark(D:Nat):Deferred:={target:= .collected D,args:= #[]}
def X4:Option Nat->List Deferred|none=>[]|some D=>[mark D]
def W2(P:Program)(n:Nat)(c:Code)(Q:Exit->Env->World->Option Nat->Prop)(σ:Env)(w:World):Prop:=
 ∀(m:Nat) (a:Act),Fits [] n a σ->c.wpIn (wr none) m P (λe a' w'=>∃σ' D,Fits (X4 D) n a' σ'/\Q e σ' w' D) a w
variable {R:Type} {r:R} {T:Tab} {inl:sM R}
def QK2(Z:Fix)(σs:List Env)(k:K R)(r:R)(e:Exit)(σ':Env)(w':World)(D:Option Nat):Prop:=
 ∃s' A' L',kof k e s'=some r/\Rel Z s' σs A' L' σ' w'/\∀d,D=some d->w'.heap[d]? =some (.deferred (some []))/\ ¬A' d/\Z.w0.heap.size<=d
def kx(k:K R):Code->S->Option R| .ret=>k.r| .exit id=>k.x id|_=>λ_=>none
theorem Akk{f:Nat}{c:ItC}:∀{its:List (Nat×ItC)},Aj its f=some c-> (f,c)∈its
 |[],h=>by simp[Aj]at h
 |(g,a)::its,h=>by
  simp only[Aj]at h;cases hb:Nat.beq g f with
  |true=>have:=Cc hb;subst this;rw[hb]at h;cases h;exact .head _
  |false=>rw[hb]at h;exact .tail _ (Akk h)
theorem E0{k:S->Option R}(h:TL an k s=some r):∃lv co s',s.cn lv co=some s'/\k s'=some r:=by
 unfold TL at h;split at h
 ·split at h
  ·rename_i s2 hs2;exact⟨_,_,s2,hs2,h⟩
  ·cases h
 ·cases h
theorem Ajn{its:List (Nat×ItC)}{k:K R}(h:bY P T inl n its g ps assign body an k s=some r):
  ∃gf i p v c xs,Dr s.sl g= .fn gf [.ptr i []]/\ps.toList=[p]/\Cg s.it i= .box c.T v/\Aj its gf=some c/\nK v=true/\Nat.blt p n=true/\c.F v=some xs/\
   TL an (rnd an (iY P T inl n p assign body an k c.e) k.n xs) ((s.Sg i .dead).sub i .any)=some r:=by
 unfold bY at h;split at h
 ·rename_i gf caps hg;split at h
  ·rename_i i;split at h
   ·rename_i p hps;split at h
    ·rename_i T' v hi;split at h
     ·rename_i c hc;obtain⟨hcond,h'⟩:=As h;simp only[B9]at hcond;obtain⟨⟨hT',hpl⟩,hpn⟩:=hcond;obtain⟨xs,hF,h2⟩:=Go.Lv.bind_some h';exact⟨gf,i,p,v,c,xs,hg,hps,by rw[hi,Cc hT'],hc,hpl,hpn,hF,h2⟩
     ·cases h
    ·cases h
   ·cases h
  ·cases h
 ·cases h
theorem Anf(SJ:P.follows .mixedOrders=true)(hT:cX P T Z)(hI:AB P T.gl inl){its:List (Nat×ItC)}(hits:∀p∈its,ItOk P T.gl p.1 p.2){k:K R}
  (h:bY P T inl n its g ps assign body an k s=some r) (hr:Rel Z s σs A L σ w):W2 P n (.rangeFunc g ps assign body) (QK2 Z σs k r) σ w:=by
 intro m a ha;obtain⟨gf,i,p,v,c,xs,hg,hps,hi,hc,hpl,hpn,hF,hrun⟩:=Ajn h;clear h;have hit:=hits _ (Akk hc);have hg1:=p? (by rw[<-hg];exact Oq hr.mem.sl g (by rw[hg];rfl));obtain⟨us,hgv,v0,_,rfl,hp0,rfl⟩:=hg1;obtain⟨b,cells,A1,hLb,hr1,hA1b,hRb,hcell,henc⟩:=Aay hr hi hpl;have hv0:v0= .pointer (some ⟨b,0,none⟩):=by
  obtain⟨md,b',e1,e2,e3⟩:=(show Ba (λb=>A b/\Z.R b) w L (.ptr i []) [v0]from hp0);rw[hLb]at e1;cases e1;cases e2;simpa [Ar]using e3
 subst hv0;have hB1:∀k,(A1 k/\Z.R k)->k<w.heap.size:=λk hk=>St.lt hr1 k hk.1;have hseq:=hit.ok (m-1) (λk=>A1 k/\Z.R k) w b v cells xs hB1 ⟨hA1b,hRb⟩ hcell henc
  (λq hq=>by rw[<-hT.2]at hq;obtain⟨g1,T1,fr,g2⟩:=hr1.Ua hq;exact⟨lt_of_heap g2,g1,T1,fr,g2⟩) hF
 have hps':ps= #[p]:=by rw[<-Array.toArray_toList (xs:=ps),hps]
 subst hps';have hrow2:∀(A:Reg) (W:World) (o o':Obj),¬A w.heap.size-> ¬A (w.heap.size+1)->W.heap[w.heap.size]? =some o->o.isCells=false->W.heap[w.heap.size+1]? =some o'->o'.isCells=false->Rows Z A W (λk=>k=w.heap.size\/k=w.heap.size+1):=λA W o o' h1 h2 h3 h4 h5 h6=>
  ⟨λk hk=>by rcases hk with rfl|rfl<;>assumption,λk hk=>by have:=hr.gr0.le;rcases hk with rfl|rfl<;>omega,λk hk=>by rcases hk with rfl|rfl<;>exact⟨_,by assumption,by assumption⟩⟩
 refine Ant (gf:=gf) (lb:= #[.pointer (some ⟨b,0,none⟩)]) (by rw[ha.eval];exact hgv) hit.ent hseq rfl
  (λi V W=>∃s A L,TL an (rnd an (iY P T inl n p assign body an k c.e) k.n (xs.drop i)) s=some r/\Rel Z s σs A L σ W/\ (∀b,V b->A b/\Z.R b)/\ ¬A w.heap.size/\ ¬A (w.heap.size+1))
  (λc W=>∃s A L,kx k c s=some r/\Rel Z s σs A L σ W/\ ¬A w.heap.size/\ ¬A (w.heap.size+1))
  ?hI ?hIx ?hIr ?Yk ?hV ?h0 ?f_ ?hdone ?hstop
 case hI=>
  rintro i V X Y ⟨s',A',L',h1,h2,h3,h4,h5⟩ hX hk;refine⟨s',λb=>A' b\/ (X.heap.size<=b/\b<Y.heap.size),L',h1,h2.grow hk (λ_ h=> .inl h) (λ_ h=>h),λb hb=>?_,?_,?_⟩
  ·rcases hb with h|h
   ·exact⟨.inl (h3 b h).1,(h3 b h).2⟩
   ·exact⟨.inr h,Z.new b (U4 h2.gr0.le h.1)⟩
  ·rintro(h|h)
   ·exact h4 h
   ·omega
  ·rintro(h|h)
   ·exact h5 h
   ·omega
 case hIx=>
  rintro c X Y ⟨s',A',L',h1,h2,h3,h4⟩ hk;exact⟨s',A',L',h1,h2.grow hk (λ_ h=>h) (λ_ h=> .inl h),h3,h4⟩
 case hIr=>
  rintro i V X rr rr' ⟨s',A',L',h1,h2,h3,h4,h5⟩ hX;exact⟨s',A',L',h1,h2.row h5 hX rfl,h3,h4,h5⟩
 case Yk=>
  rintro c X rr rr' ⟨s',A',L',h1,h2,h3,h4⟩ hX;exact⟨s',A',L',h1,h2.row h4 hX rfl,h3,h4⟩
 case hV=>
  rintro i V W ⟨s',A',L',h1,h2,h3,h4,h5⟩ hV;exact h5 (h3 _ hV).1
 case h0=>
  intro W hk;refine⟨_,A1,_,hrun,hr1.grow hk (λ_ h=>h) (λ_ h=> .inl h),λb hb=>hb,λh=>?_,λh=>?_⟩
  ·have:=St.lt hr1 _ h;omega
  ·have:=St.lt hr1 _ h;omega
 case hdone=>
  rintro V W ⟨s',A',L',h1,h2,h3,h4,h5⟩ hD;rw[RM]at h1;obtain⟨lv,co,s2,hcn,h1⟩:=E0 h1;have hX:Rows Z A' W (λk=>k=w.heap.size):=⟨λk hk=>by subst hk;exact h4,λk hk=>by subst hk;exact hr.gr0.le,λk hk=>by subst hk;exact⟨_,hD,rfl⟩⟩;obtain⟨A2,L2,hr2⟩:=vN (I0 h2 hX) hcn;obtain⟨g1,g2,g3,g4⟩:=rY h2 hX hr2;exact⟨σ,some w.heap.size,⟨ha.size,by simp[X4,mark,ha.defers],ha.get⟩,s2,_,L2,h1,g1,λd hd=>by cases hd;exact⟨hD,λh=>h.2 rfl,hr.gr0.le⟩⟩
 case hstop=>
  rintro c W ⟨s',A',L',h1,h2,h3,h4⟩ hD;have key:∀e,kof k e s'=some r->∃σ' D,Fits (X4 D) n {a with defers:={target:= .collected w.heap.size,args:= #[]}::a.defers} σ'/\QK2 Z σs k r e σ' W D:=λe he=>
   ⟨σ,some w.heap.size,⟨ha.size,by simp[X4,mark,ha.defers],ha.get⟩,s',A',L',he,h2,λd hd=>by cases hd;exact⟨hD,h3,hr.gr0.le⟩⟩
  cases c<;>first
   |exact wpIn_ret (key .ret h1)
   |exact wpIn_exit (key (.exit _) h1)
   |cases h1
 case f_=>
  rintro i V W v rr hi ⟨s',A',L',h1,h2,h3,h4,h5⟩ hE hl hD;have hX:=hrow2 A' W _ _ h4 h5 hD rfl hl rfl;have hin:=I0 h2 hX;obtain⟨lv,co,s2,hcn,h1⟩:=E0 h1;obtain⟨A2,L2,hr2⟩:=vN hin hcn;obtain⟨x,hx⟩:∃x,xs[i]? =some x:=⟨_,KV hi⟩;have hdrop:xs.drop i=x::xs.drop (i+1):=by rw[lA hi];congr 1;rw[KV hi]at hx;exact O9 hx
  rw[hdrop]at h1;have h1':iY P T inl n p assign body an k c.e (TL an (rnd an (iY P T inl n p assign body an k c.e) k.n (xs.drop (i+1)))) x s2=some r:=h1;unfold iY at h1';have hlt:=lt_of_heap hl;have hA2:∀b,A' b->A2 b:=λb hb=>(hr2.old (Z:=Z.sub h2 _ hX) (St.lt h2 b hb) (λhM=>hM.2.1 hb)).1;have hval:Ej (λb=>A2 b/\ (Z.sub h2 _ hX).R b) W L2 (.val c.e x) v:=by
   refine(Ja (Gg.step (B:=V) (w:=W) (L:=[]) (λb hb=>⟨hA2 b (h3 b hb).1,(h3 b hb).2,λh=>?_⟩) (λb hb=>rfl) (by have:=cU.append [] L2;rwa [OJ]at this) (hE x hx))).2;rcases h with rfl|rfl
   ·exact h4 (h3 _ hb).1
   ·exact h5 (h3 _ hb).1
  have hr3:Rel (Z.sub h2 _ hX) ⟨X2 s2.sl p (.val c.e x),s2.it,s2.sl::s2.st⟩ (σ::σs) A2 L2 (Sg σ p v) W:=
   Rel.as hr2 (i:=1) rfl ⟨hr2.mem.it,hr2.mem.sl.set (Hf.put rfl hval),hr2.mem.sl,hr2.mem.stk⟩ rfl
  have hfit:Fits [] n ({tmps:=((#[p]:Array Tmp).zip #[v]).foldl (λt (p,v)=>t.setIfInBounds p v) a.tmps,defers:=[]}:Act) (Sg σ p v):=by
   have hp:=ha.put hpn v;exact⟨by simpa [Act.put]using hp.size,rfl,by simpa [Act.put]using hp.get⟩
  refine P2 (vY (Z:=Z.sub h2 _ hX) SJ ⟨hT.1,hT.2⟩ hI assign h1' hr3 (some (w.heap.size+1)) (m-1-1) [] _ hfit) ?_;rintro e a2 W2 ⟨σ2,hf2,s3,A3,L3,hk3,hr3'⟩;cases e with
  |normal=>
   have hk3':ex P T inl n body an.l ⟨E! (TL an (rnd an (iY P T inl n p assign body an k c.e) k.n (xs.drop (i+1)))),λid=>E! (k.x id),E! k.r⟩ s3=some r:=hk3;obtain⟨g1,g2,g3,g4⟩:=rY h2 hX hr3';refine⟨λb hb=>g3 b (by rcases hb with h|h|h;exact .inl (.inl h);exact .inl (.inr h);exact .inr (h3 b h).1),g4,λr'=>?_⟩;have hl2:W2.heap[w.heap.size+1]? =some (.loop rr):=(g3 _ (.inl (.inr rfl))).trans hl;have hD2:W2.heap[w.heap.size]? =some (.deferred (some [])):=(g3 _ (.inl (.inl rfl))).trans hD;have hnl:¬(A3 (w.heap.size+1)/\ ¬(w.heap.size+1=w.heap.size\/w.heap.size+1=w.heap.size+1)):=λh=>h.2 (.inr rfl);have hnD:¬(A3 w.heap.size/\ ¬(w.heap.size=w.heap.size\/w.heap.size=w.heap.size+1)):=λh=>h.2 (.inl rfl);have hr4:=Rel.row (o':= .loop r') g1 hnl hl2 rfl;have hl3:(W2.putObj (w.heap.size+1) (.loop r')).heap[w.heap.size+1]? =some (.loop r'):=lL (lt_of_heap hl2);have hD3:(W2.putObj (w.heap.size+1) (.loop r')).heap[w.heap.size]? =some (.deferred (some [])):=(TS F0).trans hD2;have hX3:=hrow2 (λb=>A3 b/\ ¬(b=w.heap.size\/b=w.heap.size+1)) _ _ _ hnD hnl hD3 rfl hl3 rfl;refine P2 (vY (Z:=Z.sub hr4 _ hX3) SJ ⟨hT.1,hT.2⟩ hI body hk3' (I0 hr4 hX3) (some (w.heap.size+1)) (m-1-1) [] a2 hf2) ?_;rintro e a5 W5 ⟨σ5,hf5,s5,A5,L5,hk5,hr5⟩;have pop:∀(kk:S->Option R),E! kk s5=some r->∃s6 A6,kk s6=some r/\Rel Z s6 σs A6 L5 σ W5/\ (∀b,A3 b/\ ¬(b=w.heap.size\/b=w.heap.size+1)->A6 b)/\ ¬A6 w.heap.size/\ ¬A6 (w.heap.size+1):=by
    intro kk hkk;unfold E! at hkk;split at hkk
    ·rename_i sl st hst;have V9:=hr5.mem.stk;rw[hst]at V9;have hr6:Rel (Z.sub hr4 _ hX3) ⟨sl,s5.it,st⟩ σs A5 L5 σ W5:=Rel.as hr5 (i:=1) rfl ⟨hr5.mem.it,V9.1,V9.2⟩ rfl;obtain⟨q1,q2,q3,q4⟩:=rY hr4 hX3 hr6;exact⟨_,_,hkk,q1,q2,λh=>h.2 (.inl rfl),λh=>h.2 (.inr rfl)⟩
    ·cases hkk
   obtain⟨_,_,q3,q4⟩:=rY hr4 hX3 hr5;cases e with
   |normal=>
    obtain⟨s6,A6,p1,p2,p3,p4,p5⟩:=pop _ hk5;refine⟨λb hb=>q3 b ?_,q4,s6,A6,L5,p1,p2,λb hb=>⟨p3 b (g2 b (h3 b hb).1),(h3 b hb).2⟩,p4,p5⟩;rcases hb with h|h|h
    ·exact .inl (.inl h)
    ·exact .inl (.inr h)
    ·exact .inr (g2 b (h3 b h).1)
   |ret=>
    obtain⟨s6,A6,p1,p2,p3,p4,p5⟩:=pop _ hk5;exact⟨λb hb=>q3 b (.inl hb),q4,s6,A6,L5,p1,p2,p4,p5⟩
   |exit id=>
    obtain⟨s6,A6,p1,p2,p3,p4,p5⟩:=pop _ hk5;exact⟨λb hb=>q3 b (.inl hb),q4,s6,A6,L5,p1,p2,p4,p5⟩
   |goto t=>cases hk5
   |panic ch=>cases hk5
   |outgrown=>cases hk5
  |ret=>cases hk3
  |exit id=>cases hk3
  |goto t=>cases hk3
  |panic ch=>cases hk3
  |outgrown=>cases hk3
theorem QK2.exit{e:Exit}{k k':K R}{σ':Env}{w':World}{D:Option Nat}(h:QK2 Z σs k r e σ' w' D)(he:∀s,kof k e s=some r->kof k' e s=some r):QK2 Z σs k' r e σ' w' D:=by
 obtain⟨s',A',L',h1,h2⟩:=h;exact⟨s',A',L',he _ h1,h2⟩
theorem Ar2(SJ:P.follows .mixedOrders=true)(hT:cX P T Z)(hI:AB P T.gl inl){its:List (Nat×ItC)}(hits:∀p∈its,ItOk P T.gl p.1 p.2):∀(c:Code) {an:An} {k:K R} {s:S} {A:Reg} {L:List MD} {σ:Env} {w:World},
  pW P T inl n its c an k s=some r->Rel Z s σs A L σ w->W2 P n c (QK2 Z σs k r) σ w:=by
 have dflt:∀(c:Code) {an:An} {k:K R} {s:S} {A:Reg} {L:List MD} {σ:Env} {w:World},ex P T inl n c an k s=some r->Rel Z s σs A L σ w->W2 P n c (QK2 Z σs k r) σ w:=by
  intro c an k s A L σ w h hr m a ha;refine P2 (vY SJ hT hI c h hr none m [] a ha) ?_;rintro e a' w' ⟨σ',hf,s',A',L',h1,h2⟩;exact⟨σ',none,hf,s',A',L',h1,h2,λd hd=>by cases hd⟩
 intro c
 induction c with
 |seq a b iha ihb=>
  intro an k s A L σ w h hr m act ha;simp only[pW]at h;split at h
  ·refine wpIn_seq (P2 (vY SJ hT hI a h hr none m [] act ha) ?_);rintro e a' w' ⟨σ',hf,s',A',L',h1,hr'⟩;cases e with
   |normal=>
    have h2:M3 an (λs'=>pW P T inl n its b an.r k s') s'=some r:=h1;unfold M3 at h2;split at h2
    ·split at h2
     ·rename_i s2 hs2;obtain⟨A2,L2,hr2⟩:=vN hr' hs2;exact ihb h2 hr2 m a' hf
     ·cases h2
    ·exact ihb h2 hr' m a' hf
   |_=>exact⟨σ',none,hf,s',A',L',h1,hr',λd hd=>by cases hd⟩
  ·refine wpIn_seq (P2 (iha h hr m act ha) ?_);rintro e a' w' ⟨σ',D,hf,s',A',L',h1,hr',hD⟩;cases e with
   |normal=>
    have h2:M3 an (λs'=>ex P T inl n b an.r k s') s'=some r:=h1;have hX:Rows Z A' w' (λk=>D=some k):=⟨λk hk=>(hD k hk).2.1,λk hk=>(hD k hk).2.2,λk hk=>⟨_,(hD k hk).1,rfl⟩⟩;have fin:∀{s2:S} {A2:Reg} {L2:List MD},ex P T inl n b an.r k s2=some r->Rel (Z.sub hr' _ hX) s2 σs A2 L2 σ' w'->b.wpIn (wr none) m P (λe a' w'=>∃σ' D,Fits (X4 D) n a' σ'/\QK2 Z σs k r e σ' w' D) a' w':=by
     intro s2 A2 L2 h3 hr2;refine P2 (vY (Z:=Z.sub hr' _ hX) SJ ⟨hT.1,hT.2⟩ hI b h3 hr2 none m (X4 D) a' hf) ?_;rintro e a'' w'' ⟨σ'',hf',s3,A3,L3,h4,hr3⟩;obtain⟨g1,g2,g3,g4⟩:=rY hr' hX hr3;exact⟨σ'',D,hf',s3,_,L3,h4,g1,λd hd=>⟨(g3 d (.inl hd)).trans (hD d hd).1,λh=>h.2 hd,(hD d hd).2.2⟩⟩
    unfold M3 at h2;split at h2
    ·split at h2
     ·rename_i s2 hs2;obtain⟨A2,L2,hr2⟩:=vN (I0 hr' hX) hs2;exact fin h2 hr2
     ·cases h2
    ·exact fin h2 (I0 hr' hX)
   |_=>exact⟨σ',D,hf,s',A',L',h1,hr',hD⟩
 |block id a iha=>
  intro an k s A L σ w h hr m act ha;refine wpIn_block (P2 (iha (an:=an.l) (k:={k with x:=λid' s'=>Ch (Nat.beq id' id) (k.n s')<|k.x id' s'}) h hr m act ha) ?_);rintro e a' w' ⟨σ',D,hf,hq⟩;cases e with
  |exit id'=>
   simp only[Exit.inBlock];obtain⟨s',A',L',h1,hr'⟩:=hq;have h2:(Ch (Nat.beq id' id) (k.n s')<|k.x id' s')=some r:=h1;by_cases hid:id'=id
   ·rw[A4 hid];subst hid;simp at h2;exact⟨σ',D,hf,s',A',L',h2,hr'⟩
   ·rw[A! hid];have hb:Nat.beq id' id=false:=by
     cases hb:Nat.beq id' id with
     |false=>rfl
     |true=>exact absurd (Cc hb) hid
    rw[hb]at h2;exact⟨σ',D,hf,s',A',L',h2,hr'⟩
  |_=>exact⟨σ',D,hf,hq⟩
 |rangeFunc g ps assign body _ _=>intro an k s A L σ w h hr;exact Anf SJ hT hI hits h hr
 |_=>intro an k s A L σ w h hr;exact dflt _ (by simpa only[pW]using h) hr
theorem C2{vs:List Value}(hle:Nat.ble vs.length fn.ntmps=true):Fits [] fn.ntmps {tmps:=vs.toArray++Array.replicate (fn.ntmps-vs.toArray.size) undef,defers:=[]} (lP vs):=by
 have hle':vs.length<=fn.ntmps:=by simpa using hle
 refine⟨by simp;omega,rfl,λt=>?_⟩;simp only[lP,QA,D!,Array.getElem?_append,QF,T2];by_cases ht:t<vs.length
 ·simp[ht]
 ·rw[A! ht,T3 F0];by_cases h2:t-vs.length<fn.ntmps-vs.length
  ·simp[cR,h2]
  ·simp[cR,h2]
noncomputable def bZ(P:Program)(T:Tab)(ans:List (Nat×An))(its:List (Nat×ItC))(f:Func)(an:An)(ps rs:List Sh)(x:CW (Sj ps)):Option (CW (Sj rs)):=
 match f.body,args ps x with
 |some c,some vs=>pW P T (GP P T 8 ans) f.ntmps its c an {n:=kZ P rs f.results.toList,x:=λ_ _=>none,r:=kZ P rs f.results.toList} ⟨Xy 0 vs,yh ps x,[]⟩
 |_,_=>none
theorem Bc3(SJ:P.follows .mixedOrders=true){f:Nat}{ans:List (Nat×An)}{its:List (Nat×ItC)}{ps rs:List Sh}{F:CW (Sj ps)->Option (CW (Sj rs))}(hf:P.funcs[f]? =some fn)(hE:Ent P f)(hT:FE P T)(hA:∀p∈ans,Ent P p.1)
  (hits:∀p∈its,ItOk P T.gl p.1 p.2) (hle:Nat.ble ps.length fn.ntmps=true) (h:∀x,bZ P T ans its fn an ps rs x=F x):ConOk P T.gl f ⟨ps,rs,F⟩:=by
 cases hc:fn.body with
 |none=>
  refine NU (RUN:=λ_=>none) (fn:=fn) hE (λx y pvs hx hy=>?_) (λ_ _ _ _ _ _ _ _ _ _ _ h=>by cases h);rw[<-h x]at hy;unfold bZ at hy;rw[hc]at hy;exact hy
 |some c=>
  refine NU (T:=T) (fn:=fn) (RUN:=pW P T (GP P T 8 ans) fn.ntmps its c an {n:=kZ P rs fn.results.toList,x:=λ_ _=>none,r:=kZ P rs fn.results.toList}) hE (λx y pvs hx hy=>?_) ?_
  ·rw[<-h x]at hy;unfold bZ at hy;rw[hc,hx]at hy;exact hy
  ·intro Z A L w s y vs Q hZ hr hl hy fin;refine(callsIn_wide (n:=4)).1 (callsIn_of_wp_marks hf hc trivial (P2 (Ar2 SJ ⟨hT,hZ⟩ (pO SJ hT hA 8) hits c hy hr 4 _ (C2 (by rw[hl];exact hle))) ?_) rfl);rintro e a' w' ⟨σ',D,hf',s',A',L',h1,hr',hD⟩;have key:kZ P rs fn.results.toList s'=some y->LeavesInM (wr none) 4 P fn a'.tmps Q a'.defers .returning w':=by
    intro h1;rw[hf'.defers];cases D with
    |none=>
     obtain⟨us,h2,h3⟩:=fin s' A' L' σ' w' h1 hr';exact⟨_,SN A7 hf' h2,h3⟩
    |some d=>
     obtain⟨g1,g2,g3⟩:=hD d rfl;obtain⟨us,h2,h3⟩:=fin s' A' L' σ' _ h1 (hr'.row (o':= .deferred none) g2 g1 rfl);exact⟨A7, .inl ⟨d,_,rfl,run_takeDeferred g1,_,SN A7 hf' h2,h3⟩⟩
   cases e with
   |normal=>exact key h1
   |ret=>exact key h1
   |exit id=>cases h1
   |goto l=>cases h1
   |panic c=>cases h1
   |outgrown=>cases h1
end Go.Rx
namespace Go.Rx
open Go Go.Lv Go.RowKit
variable{a:Act}{ops:Array Oper}{o:Oper}{v:Value}
variable {P:Program} {B:Reg} {w w':World} {L L':List MD} {s s':S} {σs σs':List Env} {σ σ':Env} {Z:Fix} {A A':Reg} {n:Nat}
variable {R:Type} {r:R} {T:Tab}
def oB:Exit->Option Nat| .normal=>some 0| .exit id=>some (id+2)| .ret=>some 1|_=>none
structure MemI (gl:List (Nat×List Value)) (V:Reg) (w:World) (s:S) (σ:Env):Prop where
 lt:∀b,V b->b<w.heap.size
 it:s.it=[]
 st:s.st=[]
 sl:Fu V w [] σ s.sl
 gl:GlOk gl V w
theorem GlOk.keep{gl:List (Nat×List Value)}{V V':Reg}(h:GlOk gl V w)(hV:∀b,V b->V' b)(hs:Same V w w')(hg:Gr w w'):GlOk gl V' w':=λp hp=>
 let⟨h1,h2,T,fr,h3⟩:=h p hp
 ⟨M0 h1 hg.le,hV _ h2,T,fr,(hs _ h2).trans h3⟩
theorem MemI.keep{gl:List (Nat×List Value)}{V V':Reg}(h:MemI gl V w s σ)(hV:∀b,V b->V' b)(hl:∀b,V' b->b<w'.heap.size)(hs:Same V w w')(hg:Gr w w'):MemI gl V' w' s σ:=
 ⟨hl,h.it,h.st,h.sl.step hV hs (.refl []),h.gl.keep hV hs hg⟩
theorem MemI.I_{gl:List (Nat×List Value)}{V:Reg}(h:MemI gl V w s σ){sl:Slots}(hs:∀p∈sl,p∈s.sl):MemI gl V w ⟨sl,[],[]⟩ σ:=
 ⟨h.lt,rfl,rfl,λp hp=>h.sl p (hs p hp),h.gl⟩
def X!(gl:List (Nat×List Value))(V:Reg)(w:World)(h:GlOk gl V w):Fix where
 R b:=V b\/w.heap.size<=b
 M _:=False
 w0:=w
 new _ hb:= .inr hb
 mod _ h:=h.elim
 gl:=gl
 glok p hp:=let⟨h1,h2,h3⟩:=h p hp;⟨.inl h2,id,h1,h3⟩
theorem MemI.rel{gl:List (Nat×List Value)}{V:Reg}(h:MemI gl V w s σ):Rel (X! gl V w h.gl) s [] (λb=>b<w.heap.size) [] σ w:=by
 refine Rel.mk3 (λb hb=>hb) ⟨⟨by rw[h.it];rfl,λi a m h1=>by rw[h.it]at h1;simp at h1⟩,h.sl.step (λb hb=>⟨h.lt b hb, .inl hb⟩) (λ_ _=>rfl) (.refl []),?_⟩ (.refl _) (λb hb _=>⟨hb,rfl⟩) trivial;rw[h.st];trivial
def grown(V:Reg)(w w':World):Reg:=λb=>V b\/ (w.heap.size<=b/\b<w'.heap.size)
theorem MemI.back{gl:List (Nat×List Value)}{V:Reg}(h:MemI gl V w s σ){A':Reg}{L':List MD}(hr:Rel (X! gl V w h.gl) s' [] A' L' σ' w')(h1:s'.it=[]):
  KeepN (λ_=>True) w w'/\MemI gl (grown V w w') w' s' σ':=by
 have hk:KeepN (λ_=>True) w w':=⟨λb hb _=>(hr.old (Z:=X! gl V w h.gl) hb id).2,hr.gr0 (Z:=X! gl V w h.gl)⟩;have hL:L'=[]:=by
  have:=hr.mem.it.1;rw[h1]at this;exact R3 this.symm
 subst hL;refine⟨hk,λb hb=>hb.elim (λh'=>M0 (h.lt b h') hk.gr.le) And.right,h1,?_,hr.mem.sl.step (λb hb=>hb.2.elim .inl λh=> .inr ⟨h,St.lt hr b hb.1⟩) (λ_ _=>rfl) (.refl []),?_⟩
 ·have:=hr.mem.stk;cases hst:s'.st with
  |nil=>rfl
  |cons a l=>rw[hst]at this;exact this.elim
 ·exact h.gl.keep (λb hb=> .inl hb) (λb hb=>hk.same b (h.lt b hb) trivial) hk.gr
theorem Alb{m:Nat}{next next':Act->World->Prop}{Y:Act->World->Prop}{Q:Exit->Act->World->Prop}{x:Result Next}(hn:∀a w,next a w->next' a w)
  (h:o.uponIn (wr none) m P a next (Nrm Y) x):o.uponIn (wr none) m P a next' Q x:=by
 cases x with
 |ok x w'=>
  cases x with
  |value v=>exact hn _ _ h
  |skip=>exact hn _ _ h
  |defer d=>exact hn _ _ h
  |enter f args=>
   refine⟨h.1,h.2.mono ?_⟩;intro e w'' hh;cases e with
   |returned v=>exact hn _ _ hh
   |panicked c=>exact absurd hh.1 A7
   |outgrown=>exact(xw hh).elim
  |row row args=>exact⟨h.1,h.2.mono λv w'' hh=>hn _ _ hh⟩
  |round l f t b c=>
   refine⟨h.1,h.2.mono ?_⟩;intro e w'' hh;cases e with
   |returned v=>exact hn _ _ hh
   |panicked c=>exact absurd hh.1 A7
   |outgrown=>exact(xw hh).elim
  |_=>exact h.elim
 |halt x w'=>
  cases x with
  |panic v=>exact absurd h.1 A7
  |_=>exact h.elim
theorem YZ{m:Nat}{ops:Array Oper}{Y:Act->World->Prop}{Q:Exit->Act->World->Prop}{l2:List Oper}(h2:∀a w,Y a w->wpListIn (wr none) m P ops Q l2 a w):∀{l1:List Oper} {a:Act} {w:World},
  wpListIn (wr none) m P ops (Nrm Y) l1 a w->wpListIn (wr none) m P ops Q (l1++l2) a w
 |[],a,w,h=>h2 a w h.2
 |o::l1,a,w,h=>by
  simp only[wpListIn,SC]at h⊢;split
  ·rename_i hw;rw[A4 hw]at h;exact⟨h.1,Alb (λa w h=>YZ h2 h) h.2⟩
  ·rename_i hw;rw[A! hw]at h;exact⟨h.1,YZ h2 h.2⟩
theorem Akx{m:Nat}{Q:Exit->Act->World->Prop}{rest:List Oper}{d:Nat}(hg:o.guard=none)(hd:o.dst=some d)(hdn:Nat.blt d n=true)(hne:∀c,o.op≠ .defer c){l:Nat}
  (hx:(execOp (ev σ) o).run P w=(Instr.yield l #[v]).run P w) {RR:Ending->World->Prop} (hy:YieldAt (wr none) (m-1) P l #[v] w RR)
  (hR:∀e w',RR e w'->∃u,e= .returned u/\∀a',Fits [] n a' (Sg σ d u)->wpListIn (wr none) m P ops Q rest a' w') {a:Act} (ha:Fits [] n a σ):wpListIn (wr none) m P ops Q (o::rest) a w:=by
 obtain⟨fn,tmps,assign,body,hy1,hr⟩:=hy;simp only[wpListIn];have hw:Region.wanted o (yielded ops a.tmps)=true:=by simp only[Region.wanted,hg]
 rw[A4 hw];refine⟨λ_ _=>trivial,?_⟩;rw[Oper.semAt_eq _ _ _ hne,ha.eval,hx,hy1];refine⟨(λh=>by simp[wr,Fence.wide]at h),hr.mono ?_⟩;intro e w' he;obtain⟨u,rfl,h⟩:=hR e w' he;exact h _ (by rw[hd];exact ha.put hdn u)
def cnP(lv:List Nat)(co:List At)(q:Nat)(s:S):Option (Nat×S):=match s.cn lv co with|some s'=>some (q,s')|none=>none
def kC(lv:List Nat)(co:List At):K (Nat×S):=⟨cnP lv co 0,λid=>cnP lv co (id+2),cnP lv co 1⟩
theorem pG{lv:List Nat}{co:List At}{q q':Nat}(h:cnP lv co q s=some (q',s')):q'=q/\s.cn lv co=some s':=by
 unfold cnP at h;split at h
 ·rename_i s2 hs;cases h;exact⟨rfl,hs⟩
 ·cases h
theorem jS{inl:sM (Nat×S)}(SJ:P.follows .mixedOrders=true)(hT:FE P T)(hI:AB P T.gl inl){J:Reg->World->Prop}(hJ:∀V X Y,J V X->KeepN (λ_=>True) X Y->J (grown V X Y) Y)
  {c:Code} {an:An} {lv:List Nat} {co:List At} {q:Nat} (h:ex P T inl n c an (kC lv co) s=some (q,s')) (h1:s'.it=[]) {V:Reg} (hm:MemI T.gl V w s σ) (hj:J V w) {m:Nat} {a:Act} (ha:Fits [] n a σ):
  c.wpIn (wr none) m P (λe a' w'=>oB e=some q/\∃σ' V',Fits [] n a' σ'/\J V' w'/\MemI T.gl V' w' s' σ') a w:=by
 refine P2 (vY (Z:=X! T.gl V w hm.gl) SJ ⟨hT,rfl⟩ hI c h hm.rel none m [] a ha) ?_;rintro e a' w' ⟨σ',hf,s2,A',L',h2,hr⟩;have key:oB e=some q/\s2.cn lv co=some s':=by
  cases e with
  |normal=>obtain⟨rfl,h3⟩:=pG h2;exact⟨rfl,h3⟩
  |ret=>obtain⟨rfl,h3⟩:=pG h2;exact⟨rfl,h3⟩
  |exit id=>obtain⟨rfl,h3⟩:=pG h2;exact⟨rfl,h3⟩
  |goto l=>cases h2
  |panic c=>cases h2
  |outgrown=>cases h2
 obtain⟨h3,h4⟩:=key;obtain⟨A2,L2,hr2⟩:=vN hr h4;obtain⟨g1,g2⟩:=hm.back hr2 h1;exact⟨h3,σ',_,hf,hJ _ _ _ hj g1,g2⟩
theorem oA{inl:sM (Nat×S)}(SJ:P.follows .mixedOrders=true)(hT:FE P T)(hI:AB P T.gl inl){J:Reg->World->Prop}(hJ:∀V X Y,J V X->KeepN (λ_=>True) X Y->J (grown V X Y) Y)
  {c d:Code} (an:An) (lv:List Nat) (co:List At) (h:ex P T inl n c an (kC lv co) s=some (0,s')) (h1:s'.it=[]) {V:Reg} (hm:MemI T.gl V w s σ) (hj:J V w) {m:Nat} {a:Act} (ha:Fits [] n a σ) {Q:Exit->Act->World->Prop}
  (hk:∀σ' V' w' a',Fits [] n a' σ'->J V' w'->MemI T.gl V' w' s' σ'->d.wpIn (wr none) m P Q a' w'):(Code.seq c d).wpIn (wr none) m P Q a w:=by
 refine wpIn_seq (P2 (jS SJ hT hI hJ h h1 hm hj ha) ?_);rintro e a' w' ⟨he,σ',V',h2,h3,h4⟩;cases e with
 |normal=>exact hk σ' V' w' a' h2 h3 h4
 |ret=>simp[oB]at he
 |exit id=>simp[oB]at he
 |goto l=>cases he
 |panic c=>cases he
 |outgrown=>cases he
theorem jw{inl:sM (Nat×S)}(hT:FE P T)(hI:AB P T.gl inl){J:Reg->World->Prop}(hJ:∀V X Y,J V X->KeepN (λ_=>True) X Y->J (grown V X Y) Y){l l2:List Oper}(lv:List Nat)(hd:mP l=true)
  (h:pK P T inl n ops l s (cnP lv [] 0)=some (0,s')) (h1:s'.it=[]) {V:Reg} (hm:MemI T.gl V w s σ) (hj:J V w) {m:Nat} {a:Act} (ha:Fits [] n a σ) {Q:Exit->Act->World->Prop}
  (hk:∀σ' V' w' a',Fits [] n a' σ'->J V' w'->MemI T.gl V' w' s' σ'->wpListIn (wr none) m P ops Q l2 a' w'):wpListIn (wr none) m P ops Q (l++l2) a w:=by
 have h2:=Aak (Z:=X! T.gl V w hm.gl) (ops:=ops) ⟨hT,rfl⟩ hI hm.rel h;have h3:WL P n ops l (λσ' w'=>∃V',J V' w'/\MemI T.gl V' w' s' σ') σ w:=by
  refine NW h2 ?_;rintro σ' w' ⟨s2,A',L',g1,hr⟩;obtain⟨_,g2⟩:=pG g1;obtain⟨A2,L2,hr2⟩:=vN hr g2;obtain⟨g3,g4⟩:=hm.back hr2 h1;exact⟨_,hJ _ _ _ hj g3,g4⟩
 exact YZ (Y:=λa' w'=>∃σ',Fits [] n a' σ'/\∃V',J V' w'/\MemI T.gl V' w' s' σ') (λa' w' ⟨σ',g1,V',g2,g3⟩=>hk σ' V' w' a' g1 g2 g3) (tB (yW hd) (h3 [] a ha))
theorem MemI.set{gl:List (Nat×List Value)}{V:Reg}(h:MemI gl V w s σ){d:Nat}{p:PV}{v:Value}(hv:p.isV=true)(hp:Ej V w [] p v):MemI gl V w ⟨X2 s.sl d p,[],[]⟩ (Sg σ d v):=
 ⟨h.lt,rfl,rfl,h.sl.set (.put hv hp),h.gl⟩
theorem MemI.round{gl:List (Nat×List Value)}{V:Reg}(h:MemI gl V w s σ)(hg:Gr w w')(hs:∀b,V b->w'.heap[b]? =w.heap[b]?):MemI gl V w' s σ:=
 h.keep (λ_ h=>h) (λb hb=>M0 (h.lt b hb) hg.le) hs hg
theorem MemI.val{gl:List (Nat×List Value)}{V:Reg}(h:MemI gl V w s σ){t:Nat}{p:PV}(hp:(t,p)∈s.sl)(hv:p.isV=true):Ej V w [] p (σ t):=(Hf.iff hv).1 (h.sl _ hp)
theorem Bdz{g x:Operand}{ts:Array TypeId}(ho:o.op= .call ⟨.value g, #[x],ts⟩) {l:Nat} (hg:ev σ g= .func (.yield l) #[] #[]) (hx:ev σ x=v):
  (execOp (ev σ) o).run P w=(Instr.yield l #[v]).run P w:=by
 obtain⟨d,op,ty,pos,after,gd⟩:=o;simp only at ho;subst ho;simp[execOp,resolve,invoke,hg,hx,go_sem]
theorem kN{F:Fence}{n:Nat}{P:Program}{Q:Exit->Act->World->Prop}{w:World}{c:Code}(m:Nat)(I:Nat->Act->World->Prop)(h0:∀a w,¬I 0 a w)
  (hs:∀q a w,I (q+1) a w->c.wpIn F n P (Exit.then (I q) Q) a w) (h:I m a w):(Code.loop c).wpIn F n P Q a w:=by
 refine wpIn_loop_rounds m ?_
 induction m generalizing a w with
 |zero=>exact absurd h (h0 a w)
 |succ m ih=>
  rw[roundsIn_succ];refine P2 (hs m a w h) λe a' w' hh=>?_;cases e<;>first|exact ih hh|exact hh
def cA:Code->Code| .seq a _=>a| .cond _ a _=>a| .block _ a=>a| .loop a=>a|c=>c
def cB:Code->Code| .seq _ b=>b| .cond _ _ b=>b|c=>c
def cO:Code->List Oper| .region _ ops _=>ops.toList|_=>[]
def fB(f:Func):Code:=match f.body with|some c=>c|none=> .skip
def oAt:List Oper->Nat->Oper
 |[],_=>⟨none, .move (.tmp 0),0, "", #[],none⟩
 |o::_,0=>o
 |_::l,q+1=>oAt l q
end Go.Rx
