/- A part of a proof (see the text that ends in Proof). No conditions. -/
import Derived.Test.YtniihmolajmfcaaGreatDoorCvBB
import Derived.RangeFuncNested
import Derived.RangeFuncLeaves
import Derived.LoopIn
set_option linter.unusedVariables false
set_option linter.unusedSimpArgs false
namespace Go.Rx
open Go Go.Lv Go.RowKit
variable{an:An}{ps:Array Tmp}{assign body:Code}{fn:Func}{o o':Obj}{g:Operand}
def zH(P:Program)(m:Nat)(gf:Nat)(lb:Array Value)(N:Nat)(E:Nat->Reg->World->Value->Prop)(G V0:Reg)(w:World):Prop:=
 ∀(l:Nat) (J:Nat->Reg->World->Prop) (Jx:World->Prop) (W:World),KeepN (λ_=>True) w W->
  (∀i V X Y,J i V X->KeepN G X Y->J i (λb=>V b\/ (X.heap.size<=b/\b<Y.heap.size)) Y)->
  (∀X Y,Jx X->KeepN G X Y->Jx Y)->
  (∀i V W1 v,i<N->J i V W1->E i V W1 v->YieldAt (wr none) (m-1) P l #[v] W1 λe W'=>
   (e= .returned (.bool true)/\J (i+1) V W'/\Gr W1 W'/\∀b,(V b\/ ¬G b)->W'.heap[b]? =W1.heap[b]?)\/ (e= .returned (.bool false)/\Jx W'))->
  J 0 V0 W->
  CallsIn (wr none) m P gf (#[.func (.yield l) #[] #[]]++lb) W λe W'=>(∃v,e= .returned v)/\ ((∃V,J N V W')\/Jx W')
def Avl(B:Nat)(I:Reg->World->Prop)(Ix:Code->World->Prop)(V:Reg)(W:World):Exit->Act->World->Prop
 | .normal,_,W'=>(∀b,(b=B\/b=B+1\/V b)->W'.heap[b]? =W.heap[b]?)/\Gr W W'/\I V W'
 | .ret,_,W'=>(∀b,(b=B\/b=B+1)->W'.heap[b]? =W.heap[b]?)/\Gr W W'/\Ix .ret W'
 | .exit id,_,W'=>(∀b,(b=B\/b=B+1)->W'.heap[b]? =W.heap[b]?)/\Gr W W'/\Ix (.exit id) W'
 |_,_,_=>False
theorem mI(W:World)(l:Nat)(o:Obj):Gr W (W.putObj l o):=by
 have h:=grownBy_putObj' W l o;exact⟨h.size,h.os,h.tape,h.output⟩
theorem U6(W:World)(o:Obj):Gr W (W.alloc o):=by
 have h:=World.grownBy_alloc W o none;exact⟨h.size,h.os,h.tape,h.output⟩
theorem Ap5{P:Program}{n:Nat}{Q:Exit->Act->World->Prop}{a:Act}{w:World}
  {gf:Nat} {lb:Array Value} (hg:a.eval g= .func (.func gf) #[] lb) (eg:Ent P gf) {N:Nat} {E:Nat->Reg->World->Value->Prop} {G V0:Reg} (hseq:zH P (n-1) gf lb N E G V0 w) (hG:∀b,w.heap.size<=b->G b) (hps:ps.size=1)
  (I:Nat->Reg->World->Prop) (Ix:Code->World->Prop)
  (hI:∀i V X Y,I i V X->w.heap.size+1<X.heap.size->KeepN G X Y->I i (λb=>V b\/ (X.heap.size<=b/\b<Y.heap.size)) Y)
  (hIx:∀c X Y,Ix c X->KeepN G X Y->Ix c Y)
  (hIr:∀i V X (r r':Loop),I i V X->X.heap[w.heap.size+1]? =some (.loop r)->I i V (X.putObj (w.heap.size+1) (.loop r')))
  (Zm:∀c X (r r':Loop),Ix c X->X.heap[w.heap.size+1]? =some (.loop r)->Ix c (X.putObj (w.heap.size+1) (.loop r')))
  (hV:∀i V W,I i V W-> ¬V (w.heap.size+1))
  (h0:∀W,KeepN (λ_=>True) w W->I 0 V0 W)
  (iq:∀i V W v (r:Loop),i<N->I i V W->E i V W v->W.heap[w.heap.size+1]? =some (.loop r)->W.heap[w.heap.size]? =some (.deferred (some []))->
   assign.wpIn (wr (some (w.heap.size+1))) (n-1-1) P (Exit.then (λa' W'=>(∀b,(b=w.heap.size\/b=w.heap.size+1\/V b\/ ¬G b)->W'.heap[b]? =W.heap[b]?)/\Gr W W'/\
    ∀r',body.wpIn (wr (some (w.heap.size+1))) (n-1-1) P (Avl w.heap.size (λ_=>I (i+1) V) Ix (λb=>V b\/ ¬G b) (W'.putObj (w.heap.size+1) (.loop r'))) a' (W'.putObj (w.heap.size+1) (.loop r'))) (λ_ _ _=>False))
    {tmps:=(ps.zip #[v]).foldl (λt (p,v)=>t.setIfInBounds p v) a.tmps,defers:=[]} W)
  (hdone:∀V W,I N V W->W.heap[w.heap.size]? =some (.deferred (some []))->Q .normal {a with defers:={target:= .collected w.heap.size,args:= #[]}::a.defers} W)
  (hstop:∀c W,Ix c W->W.heap[w.heap.size]? =some (.deferred (some []))->c.wpIn (wr none) n P Q {a with defers:={target:= .collected w.heap.size,args:= #[]}::a.defers} W):
  (Code.rangeFunc g ps assign body).wpIn (wr none) n P Q a w:=by
 refine wpIn_rangeFunc ?_;intro fn hfn;obtain⟨rec,hrec⟩:∃rec:LoopState->Option Code->Loop,rec=λst pe=>{state:=st,pending:=pe,fn,tmps:=a.tmps,params:=ps,assign,body,defers:=w.heap.size}:=⟨_,rfl⟩;obtain⟨W1,hW1⟩:∃W1,(w.alloc (.deferred (some []))).alloc (.loop (rec .ready none))=W1:=⟨_,rfl⟩;have hL1:W1.heap[w.heap.size+1]? =some (.loop (rec .ready none)):=by
  rw[<-hW1];have:=nH (w.alloc (.deferred (some []))) (.loop (rec .ready none));rwa [World.size_alloc]at this
 have hK1:W1.heap[w.heap.size]? =some (.deferred (some [])):=by
  rw[<-hW1];exact(Below.heap_alloc _ _ _ F8).trans (nH w _)
 have hk1:KeepN (λ_=>True) w W1:=by
  rw[<-hW1];refine⟨λb hb _=>?_,(U6 _ _).trans (U6 _ _)⟩;exact(Below.heap_alloc _ _ _ F5).trans (Below.heap_alloc _ _ _ hb)
 refine⟨w.heap.size+1,[{target:= .collected w.heap.size,args:= #[]}],W1,{target:= .fn (.func gf) lb,args:= #[.func (.yield (w.heap.size+1)) #[] #[]]},W1,gf,
  #[.func (.yield (w.heap.size + 1)) #[] #[]] ++ lb, W1, ?_, ?_, ?_, ?_, (λh => by simp [wr, Fence.wide] at h), ?_⟩
 ·rw[<-hW1,hrec];exact run_enterLoop_outer _ _ _ _ _
 ·simp only[resolve,hg];simp[go_sem]
 ·intro f' hf';trivial
 ·simp[invoke,go_sem,eg _ _]
 ·refine(hseq (w.heap.size+1)
   (λi V W=>I i V W/\W.heap[w.heap.size+1]? =some (.loop (rec .ready none))/\W.heap[w.heap.size]? =some (.deferred (some [])))
   (λW=>∃c,Ix c W/\W.heap[w.heap.size+1]? =some (.loop (rec .done (some c)))/\W.heap[w.heap.size]? =some (.deferred (some [])))
   W1 hk1 ?_ ?_ ?_ ⟨h0 _ hk1,hL1,hK1⟩).mono ?_
  ·rintro i V X Y ⟨h1,h2,h3⟩ hk;exact⟨hI i V X Y h1 (lt_of_heap h2) hk,(hk.same _ (lt_of_heap h2) (hG _ F0)).trans h2,(hk.same _ (lt_of_heap h3) (hG _ (C4 _))).trans h3⟩
  ·rintro X Y ⟨c,h1,h2,h3⟩ hk;exact⟨c,hIx c X Y h1 hk,(hk.same _ (lt_of_heap h2) (hG _ F0)).trans h2,(hk.same _ (lt_of_heap h3) (hG _ (C4 _))).trans h3⟩
  ·
   rintro i V W v hlen ⟨hi,hl,hk⟩ hE;have hy:=run_yield (P:=P) (args:= #[v]) hl (by rw[hrec];exact hps.symm);rw[hrec]at hy;have hVl:=hV i V W hi;refine⟨fn,_,assign,body,hy,roundIn_of_wpIn hfn (R5 (iq i V W v _ hlen hi hE hl hk) ?_)⟩;clear hy;rintro e a' W2 hh;cases e with
   |normal=>
    obtain⟨hs,hgr,hb⟩:=hh;have hl2:=(hs _ (.inr (.inl rfl))).trans hl;have hk2:=(hs _ (.inl rfl)).trans hk;refine⟨_,run_beginRound hl2 (by rw[hrec]),?_⟩;refine R5 (hb _) ?_;have hlt:=lt_of_heap hl2;have hl3:(W2.putObj (w.heap.size+1) (.loop {rec .ready none with state:= .busy})).heap[w.heap.size+1]? =some (.loop {rec .ready none with state:= .busy}):=mX hlt;have hk3:(W2.putObj (w.heap.size+1) (.loop {rec .ready none with state:= .busy})).heap[w.heap.size]? =some (.deferred (some [])):=(VY F0).trans hk2;have fin:∀(jump:Option Code) (W3:World),(∀b,(b=w.heap.size\/b=w.heap.size+1)->W3.heap[b]? =(W2.putObj (w.heap.size+1) (.loop {rec .ready none with state:= .busy})).heap[b]?)->
      (Instr.endRound (w.heap.size+1) jump).run P W3= .ok (.bool jump.isNone) (W3.putObj (w.heap.size+1) (.loop (rec (if jump.isNone then .ready else .done) jump)))/\
      W3.heap[w.heap.size+1]? =some (.loop {rec .ready none with state:= .busy})/\
      (W3.putObj (w.heap.size+1) (.loop (rec (if jump.isNone then .ready else .done) jump))).heap[w.heap.size+1]? =some (.loop (rec (if jump.isNone then .ready else .done) jump))/\
      (W3.putObj (w.heap.size+1) (.loop (rec (if jump.isNone then .ready else .done) jump))).heap[w.heap.size]? =some (.deferred (some [])):=λjump W3 hs3=>by
     have hl4:=(hs3 _ (.inr rfl)).trans hl3;have:=run_endRound (P:=P) jump hl4;rw[hrec]at this⊢;exact⟨this,by rw[hrec]at hl4;exact hl4,mX (lt_of_heap hl4),(VY F0).trans ((hs3 _ (.inl rfl)).trans hk3)⟩
    rintro e a3 W3 hp;cases e with
    |normal=>
     obtain⟨hs3,hg3,hi3⟩:=hp;obtain⟨hr,hl4,hl5,hk5⟩:=fin none W3 (λb hb=>hs3 b (hb.elim .inl λh=> .inr (.inl h)));refine⟨_,_,hr, .inl ⟨rfl,⟨hIr _ _ _ _ _ hi3 hl4,hl5,hk5⟩,hgr.trans ((mI _ _ _).trans (hg3.trans (mI _ _ _))),λb hb=>?_⟩⟩;have hne:b≠w.heap.size+1:=λe=>hb.elim (λh=>hVl (e▸h)) λh=>h (hG _ F0);exact(VY hne).trans ((hs3 b (.inr (.inr hb))).trans ((VY hne).trans (hs b (.inr (.inr hb)))))
    |ret=>
     obtain⟨hs3,hg3,hi3⟩:=hp;obtain⟨hr,hl4,hl5,hk5⟩:=fin (some .ret) W3 hs3;exact⟨_,_,hr, .inr ⟨rfl, .ret,Zm _ _ _ _ hi3 hl4,hl5,hk5⟩⟩
    |exit id=>
     obtain⟨hs3,hg3,hi3⟩:=hp;obtain⟨hr,hl4,hl5,hk5⟩:=fin (some (.exit id)) W3 hs3;exact⟨_,_,hr, .inr ⟨rfl, .exit id,Zm _ _ _ _ hi3 hl4,hl5,hk5⟩⟩
    |goto t=>exact hp.elim
    |panic ch=>exact hp.elim
    |outgrown=>exact hp.elim
   |_=>exact hh.elim
  ·rintro e W2 ⟨⟨v,rfl⟩,(⟨V,hi,hl,hk⟩|⟨c,hi,hl,hk⟩)⟩
   ·exact⟨none,_,by have:=run_endLoop (P:=P) hl (by rw[hrec];simp);rw[hrec]at this;exact this,hdone _ _ (hIr _ _ _ _ _ hi hl) ((VY F0).trans hk)⟩
   ·exact⟨some c,_,by have:=run_endLoop (P:=P) hl (by rw[hrec];simp);rw[hrec]at this;exact this,hstop c _ (Zm _ _ _ _ hi hl) ((VY F0).trans hk)⟩
variable {P:Program} {B:Reg} {w w':World} {L L':List MD} {s s':S} {σs σs':List Env} {σ σ':Env} {Z:Fix} {A A':Reg} {n:Nat}
theorem Ah6{md:MD}{b:Nat}(h:md.Ex.holds (some b) w):∃arr T fr,w.heap[b]? =some (.cells arr T fr):=by
 cases md with
 |dead=>
  obtain⟨p,len,cap,h1,h2,h3,h4,h5,h6⟩:=h;obtain⟨arr,fr,e1,e2,_⟩:=h6 b rfl;exact⟨_,_,_,e2⟩
 |box b' c T=>obtain⟨h1,h2⟩:=h;cases h1;exact⟨_,_,_,h2⟩
 |own z E v cs=>
  obtain⟨p,len,cap,h1,h2,h3,h4,h5,h6⟩:=h;obtain⟨arr,fr,e1,e2,_⟩:=h6 b rfl;exact⟨_,_,_,e2⟩
theorem lQ:∀{L:List MD} {A:Reg},Cu w A (L.map MD.Ex)->∃O:Reg,(∀b,O b-> ¬A b/\b<w.heap.size/\∃arr T fr,w.heap[b]? =some (.cells arr T fr))/\Cu w (λb=>¬O b) (L.map MD.Ex)
 |[],A,_=>⟨λ_=>False,λb h=>h.elim,trivial⟩
 |md::L,A,⟨o,h1,h2,h3⟩=>by
  obtain⟨O,g1,g2⟩:=lQ h3;refine⟨λb=>O b\/o=some b,λb hb=>?_,o,h1,λb hb=>⟨λh=>h (.inr hb),(h2 b hb).2⟩,g2.Ii λb hb=>?_⟩
  ·rcases hb with hb|hb
   ·exact⟨λh=>(g1 b hb).1 (.inl h),(g1 b hb).2⟩
   ·subst hb;exact⟨(h2 b rfl).1,(h2 b rfl).2,Ah6 h1⟩
  ·rcases hb with hb|hb
   ·exact λh=>hb (.inl h)
   ·exact λh=>(g1 b h).1 (.inr hb)
theorem Rel.gr0(hr:Rel Z s σs A L σ w):Gr Z.w0 w:=(hr.fact 1 (f:= .old Z.M Z.w0) rfl).1
theorem Rel.old(hr:Rel Z s σs A L σ w){b:Nat}(h1:b<Z.w0.heap.size)(h2:¬Z.M b):A b/\w.heap[b]? =Z.w0.heap[b]? :=(hr.fact 1 (f:= .old Z.M Z.w0) rfl).2 b h1 h2
theorem Rel.mk3{Z:Fix}(h1:∀b,A b->b<w.heap.size)(h2:MemR (λb=>A b/\Z.R b) w L s σs σ)(h3:Gr Z.w0 w)(h4:∀b,b<Z.w0.heap.size-> ¬Z.M b->A b/\w.heap[b]? =Z.w0.heap[b]?)(h5:Cu w A (L.map MD.Ex)):Rel Z s σs A L σ w:=
by
 refine⟨h1,λf hf=>?_,h5⟩;cases hf with
 |head=>exact h2
 |tail _ hf=>
  cases hf with
  |head=>exact⟨h3,h4⟩
  |tail _ hf=>cases hf
theorem Rel.row(hr:Rel Z s σs A L σ w){l:Nat}(hA:¬A l)(hl:w.heap[l]? =some o)(ho:o.isCells=false):Rel Z s σs A L σ (w.putObj l o'):=by
 have hne:∀b,A b->b≠l:=λb hb e=>hA (e▸hb);have hg:=mI w l o';have same:∀b,b≠l-> (w.putObj l o').heap[b]? =w.heap[b]? :=λb hb=>VY hb;refine Rel.mk3 (λb hb=>E5 (St.lt hr b hb) hg.le) (hr.mem.step (λb hb=>hb) (λb hb=>same b (hne b hb.1))) (hr.gr0.trans hg) (λb hb hM=>?_) ?_
 ·obtain⟨g1,g2⟩:=hr.old hb hM;exact⟨g1,(same b (hne b g1)).trans g2⟩
 ·obtain⟨O,g1,g2⟩:=lQ (St.mobs hr);refine(g2.step hg.le λb hb hO=>same b λe=>?_).Ii λb hb hO=>(g1 b hO).1 hb;subst e;obtain⟨_,_,arr,T,fr,e⟩:=g1 b (Classical.not_not.1 hO);rw[hl]at e;cases e;cases ho
theorem Rel.jU(hr:Rel Z s σs A L σ w){G:Reg}(hk:KeepN G w w')(hA:∀b,A b->G b)(hM:Cu w (λb=>A b\/ ¬G b) (L.map MD.Ex))(h1:∀b,A b->A' b)(h2:∀b,A' b->A b\/ (w.heap.size<=b/\b<w'.heap.size)):
  Rel Z s σs A' L σ w'/\Cu w' (λb=>A' b\/ (b<w.heap.size/\ ¬G b)) (L.map MD.Ex):=by
 have same:∀b,A b->w'.heap[b]? =w.heap[b]? :=λb hb=>hk.same b (St.lt hr b hb) (hA b hb);have hm:Cu w' (λb=>(A b\/ ¬G b)\/w.heap.size<=b) (L.map MD.Ex):=hM.lt.step hk.gr.le λb hb hn=>hk.same b hb (VJ λh=>hn (.inl (.inr h)));refine⟨Rel.mk3 (λb hb=>?_) (hr.mem.step (λb hb=>⟨h1 b hb.1,hb.2⟩) (λb hb=>same b hb.1)) (hr.gr0.trans hk.gr) (λb hb hM=>?_) (hm.Ii λb hb=>?_),hm.Ii λb hb=>?_⟩
 ·rcases h2 b hb with h|h
  ·exact E5 (St.lt hr b h) hk.gr.le
  ·exact h.2
 ·obtain⟨g1,g2⟩:=hr.old hb hM;exact⟨h1 b g1,(same b g1).trans g2⟩
 ·exact(h2 b hb).imp .inl And.left
 ·rcases hb with h|h
  ·exact(h2 b h).imp .inl And.left
  ·exact .inl (.inr h.2)
structure RowsG (Z:Fix) (A:Reg) (L:List MD) (w:World) (X:Reg):Prop where
 out:∀b,X b-> ¬A b
 lt:∀b,X b->b<w.heap.size
 mobs:Cu w (λb=>A b\/X b) (L.map MD.Ex)
theorem RowsG.row{X Y:Reg}(h:RowsG Z A L w X)(h1:∀b,Y b-> ¬A b)(h3:∀b,Y b->∃o,w.heap[b]? =some o/\o.isCells=false):RowsG Z A L w (λb=>X b\/Y b):=by
 refine⟨λb hb=>hb.elim (h.out b) (h1 b),λb hb=>hb.elim (h.lt b) λhb=>?_,?_⟩
 ·obtain⟨o,ho,_⟩:=h3 b hb;exact lt_of_heap ho
 ·obtain⟨O,g1,g2⟩:=lQ h.mobs;refine g2.Ii λb hb hO=>?_;rcases hb with hb|hb|hb
  ·exact(g1 b hO).1 (.inl hb)
  ·exact(g1 b hO).1 (.inr hb)
  ·obtain⟨o,ho,hc⟩:=h3 b hb;obtain⟨_,_,arr,T,fr,e⟩:=g1 b hO;rw[ho]at e;cases e;cases hc
theorem RowsG.put{X:Reg}(h:RowsG Z A L w X)(hr:Rel Z s σs A L σ w){l:Nat}(hA:¬A l)(hl:w.heap[l]? =some o)(ho:o.isCells=false):RowsG Z A L (w.putObj l o') X:=by
 have hg:=mI w l o';refine⟨h.out,λb hb=>E5 (h.lt b hb) hg.le,?_⟩;obtain⟨O,g1,g2⟩:=lQ h.mobs;refine(g2.step hg.le λb hb hO=>VY λe=>?_).Ii λb hb hO=>(g1 b hO).1 hb;subst e;obtain⟨_,_,arr,T,fr,e⟩:=g1 b (Classical.not_not.1 hO);rw[hl]at e;cases e;cases ho
theorem RowsG.nil(hr:Rel Z s σs A L σ w):RowsG Z A L w (λ_=>False):=⟨λ_ h=>h.elim,λ_ h=>h.elim,(St.mobs hr).Ii λb hb=>hb.elim id False.elim⟩
def Fix.sub(Z:Fix)(hr:Rel Z s σs A L σ w)(X:Reg)(hX:RowsG Z A L w X):Fix where
 R b:=Z.R b/\ ¬X b
 M b:=b<w.heap.size/\ ¬A b/\ ¬X b
 w0:=w
 new b hb:=⟨Z.new b (Xm hr.gr0.le hb),λh=>by have:=hX.lt b h;omega⟩
 mod b hb:=⟨by
  rcases VE b Z.w0.heap.size with h|h
  ·exact Z.mod b (VJ λhM=>hb.2.1 (hr.old h hM).1)
  ·exact Z.new b h,hb.2.2⟩
 gl:=Z.gl
 glok p hp:=by
  obtain⟨⟨h1,h2⟩,T,fr,h3⟩:=hr.V! hp;exact⟨⟨h2,λh=>hX.out _ h h1⟩,λh=>h.2.1 h1,lt_of_heap h3,T,fr,h3⟩
theorem W4(hr:Rel Z s σs A L σ w){X:Reg}(hX:RowsG Z A L w X):Rel (Z.sub hr X hX) s σs (λb=>A b\/X b) L σ w:=by
 refine Rel.mk3 (λb hb=>hb.elim (St.lt hr b) (hX.lt b)) (hr.mem.step (λb hb=>⟨.inl hb.1,hb.2,λh=>hX.out b h hb.1⟩) (λ_ _=>rfl)) (.refl _) (λb hb hM=>⟨?_,rfl⟩) hX.mobs;exact VJ λh=>hM ⟨hb,λg=>h (.inl g),λg=>h (.inr g)⟩
theorem rG(hr:Rel Z s σs A L σ w){X:Reg}(hX:RowsG Z A L w X){L2:List MD}{A2:Reg}(h:Rel (Z.sub hr X hX) s' σs' A2 L2 σ' w'):
  Rel Z s' σs' (λb=>A2 b/\ ¬X b) L2 σ' w'/\ (∀b,A b->A2 b/\ ¬X b)/\ (∀b,(X b\/A b)->w'.heap[b]? =w.heap[b]?)/\Gr w w'/\RowsG Z (λb=>A2 b/\ ¬X b) L2 w' X:=by
 have hold:∀b,(X b\/A b)->A2 b/\w'.heap[b]? =w.heap[b]? :=λb hb=>
  h.old (Z:=Z.sub hr X hX) (hb.elim (hX.lt b) (St.lt hr b)) λhM=>hb.elim hM.2.2 hM.2.1
 have hg:Gr w w':=h.gr0 (Z:=Z.sub hr X hX);refine⟨Rel.mk3 (λb hb=>St.lt h b hb.1) (h.mem.step (λb hb=>⟨⟨hb.1,hb.2.2⟩,hb.2.1⟩) (λ_ _=>rfl)) (hr.gr0.trans hg) (λb hb hM=>?_) ((St.mobs h).Ii λb hb=>hb.1),
  λb hb=>⟨(hold b (.inr hb)).1,λhx=>hX.out b hx hb⟩,λb hb=>(hold b hb).2,hg,λb hb hA=>hA.2 hb,λb hb=>E5 (hX.lt b hb) hg.le,(St.mobs h).Ii λb hb=>hb.elim And.left λhb=>(hold b (.inl hb)).1⟩
 obtain⟨g1,g2⟩:=hr.old hb hM;obtain⟨g3,g4⟩:=hold b (.inr g1);exact⟨⟨g3,λhx=>hX.out b hx g1⟩,g4.trans g2⟩
def BT:PV->Bool
 | .val _ _=>true
 | .agg l=>go l
 |_=>false
where go:List PV->Bool
 |[]=>true
 |a::r=>BT a&&go r
mutual
theorem mS:∀{p:PV} {cs:List Value},BT p=true->Ba B w L p cs->Ba B w L' p cs
 | .val e x,cs,_,h=>h
 | .agg l,cs,hv,h=>Aav hv (show Ba.go B w L l cs from h)
 | .tup _,_,hv,_=>by cases hv
 | .nils,_,hv,_=>by cases hv
 | .own _,_,hv,_=>by cases hv
 | .ptr _ _,_,hv,_=>by cases hv
 | .wp _,_,hv,_=>by cases hv
 | .view _ _ _ _ _ _,_,hv,_=>by cases hv
 | .rptr _,_,hv,_=>by cases hv
 | .fn _ _,_,hv,_=>by cases hv
 | .cap _ _ _,_,hv,_=>by cases hv
 | .mp _ _ _,_,hv,_=>by cases hv
 | .bfn _ _,_,hv,_=>by cases hv
 | .cst _,_,hv,_=>by cases hv
 | .any,_,hv,_=>by cases hv
 | .gd _ _ _,_,hv,_=>by cases hv
 | .off,_,hv,_=>by cases hv
 | .undef,_,hv,_=>by cases hv
theorem Aav:∀{l:List PV} {cs:List Value},BT.go l=true->Ba.go B w L l cs->Ba.go B w L' l cs
 |[],cs,_,h=>h
 |a::l,cs,hv,⟨c1,c2,e,h1,h2⟩=>by
  simp only[BT.go,A9]at hv;exact⟨c1,c2,e,mS hv.1 h1,Aav hv.2 h2⟩
end
inductive Boxes (o:Bool) (B:Reg) (w:World):List TypeId->List Nat->List PV->Prop
 |nil:Boxes o B w [] [] []
 |cons {T:TypeId} {b:Nat} {v:PV} {Ts:List TypeId} {bs:List Nat} {vs:List PV} {cells:List Value}:w.heap[b]? =some (.cells cells.toArray T (0,0))->Ba B w [] v cells-> (o=false->B b)-> (o=true-> ¬B b)->b∉bs->Boxes o B w Ts bs vs->Boxes o B w (T::Ts) (b::bs) (v::vs)
theorem Boxes.one{o:Bool}{B:Reg}{T:TypeId}{bs:List Nat}{v:PV}(h:Boxes o B w [T] bs [v]):∃b cells,bs=[b]/\w.heap[b]? =some (.cells cells.toArray T (0,0))/\Ba B w [] v cells/\ (o=false->B b):=by
 cases h with
 |cons h1 h2 h3 h4 h5 h6=>cases h6;exact⟨_,_,rfl,h1,h2,h3⟩
theorem KeepN.Ii{G G':Reg}(h:KeepN G w w')(hG:∀b,G' b->G b):KeepN G' w w':=⟨λb hb hg=>h.same b hb (hG b hg),h.gr⟩
def Gd(s:S):List PV->List TypeId->Option (List PV×S)
 |[],[]=>some ([],s)
 | .ptr i []::r,T::Ts=>match Cs s.it i with
  | .box T' v=>Cp (Nat.beq T' T&&BT v) (match Gd ((s.Mr i .dead).sub i .any) r Ts with|some (vs,s')=>some (v::vs,s')|none=>none) none
  |_=>none
 |_,_=>none
theorem oO(o:Bool){B0:Reg}{L0:List MD}:∀{caps:List PV} {Ts:List TypeId} {vs:List PV} {s s':S} {us:List Value} {A:Reg} {L:List MD} {X:Reg},Rel Z s σs A L σ w->RowsG Z A L w X->Gd s caps Ts=some (vs,s')->Ek B0 w L0 caps us->
  (∀(i:Nat) (md:MD),L[i]? =some md->md= .dead\/L0[i]? =some md)->
  ∃(bs:List Nat) (A':Reg) (L':List MD),us=bs.map (λb=>Value.pointer (some ⟨b,0,none⟩))/\Rel Z s' σs A' L' σ w/\RowsG Z A' L' w (λb=>X b\/ (o=true/\b∈bs))/\ (∀b,A b->A' b)/\ (∀b,b∈bs-> ¬A b/\ ¬X b/\b<w.heap.size)/\Boxes o (λb=>A' b/\Z.R b) w Ts bs vs
 |[],[],vs,s,s',us,A,L,X,hr,hX,h,hu,_=>by
  simp only[Gd,HN,SO]at h;obtain⟨rfl,rfl⟩:=h;obtain rfl:us=[]:=hu;refine⟨[],A,L,rfl,hr,⟨λb hb=>hb.elim (hX.out b) (λh=>nomatch h.2),λb hb=>hb.elim (hX.lt b) (λh=>nomatch h.2),hX.mobs.Ii λb hb=>hb.imp id λh=>h.elim id (λh=>nomatch h.2)⟩,λ_ h=>h,(λ_ h=>nomatch h), .nil⟩
 | .ptr i []::r,T::Ts,vs,s,s',us,A,L,X,hr,hX,h,hu,hL=>by
  simp only[Gd]at h;split at h
  ·rename_i T' v hi;obtain⟨hc,h2⟩:=Aq h;clear h;simp only[A9]at hc;obtain⟨hT,hpl⟩:=hc;obtain rfl:=Bn hT;split at h2
   ·rename_i vs1 s1 h1;simp only[HN,SO]at h2;obtain⟨rfl,rfl⟩:=h2;obtain⟨v0,us1,rfl,hp0,hu1⟩:=hu;have hm:=hr.mem;obtain⟨b,cells,hLi,henc⟩:=hm.box hi;have hv0:v0= .pointer (some ⟨b,0,none⟩):=by
     obtain⟨md,b',e1,e2,e3⟩:=(show Ba B0 w L0 (.ptr i []) [v0]from hp0);rcases hL i _ hLi with e|e
     ·cases e
     rw[e]at e1;cases e1;cases e2;simpa [Au]using e3
    subst hv0;obtain⟨ow,how,g3,g4⟩:=hX.mobs.perm (aX (hr.Ex hLi)).symm;obtain⟨rfl,hb⟩:=how;have hlt:=(g3 b rfl).2;have hnb:¬A b/\ ¬X b:=⟨λh=>(g3 b rfl).1 (.inl h),λh=>(g3 b rfl).1 (.inr h)⟩;have hR:Z.R b:=hr.out hnb.1;have AU:Cu w (λk=>(A k\/X k)\/some b=some k) ((L.set i .dead).map MD.Ex):=by
     rw[VR];exact Cu.perm (Ws (hr.Ex hLi)) ⟨none,Ave,(λb hb=>by cases hb),g4.Ii λk hk=>hk.elim id (λh=>by cases h)⟩
    have hfz:∀{B:Reg},Frz B w L i .any:=λ{B}=>⟨(λz E' v' c' h=>by rw[hLi]at h;cases h),rfl,rfl⟩;have hL':∀(j:Nat) (md:MD),(L.set i .dead)[j]? =some md->md= .dead\/L0[j]? =some md:=λj md h=>by
     by_cases hj:i=j
     ·subst hj;rw[U2 (List.getElem?_eq_some_iff.1 hLi).1]at h;exact .inl (Z6 h).symm
     ·rw[SZ hj]at h;exact hL j md h
    have key:∀(A1:Reg) (X1:Reg),(∀k,A1 k->A k\/k=b)-> (∀k,A k->A1 k)-> (∀k,X1 k->X k\/k=b)-> (∀k,X k->X1 k)-> (o=false->A1 b/\∀k,X1 k->X k)-> (o=true-> ¬A1 b/\X1 b)-> (A1 b\/X1 b)->
      ∃(bs:List Nat) (A':Reg) (L':List MD),Value.pointer (some ⟨b,0,none⟩)::us1=bs.map (λb=>Value.pointer (some ⟨b,0,none⟩))/\Rel Z s1 σs A' L' σ w/\RowsG Z A' L' w (λb=>X b\/ (o=true/\b∈bs))/\ (∀b,A b->A' b)/\ (∀b,b∈bs-> ¬A b/\ ¬X b/\b<w.heap.size)/\Boxes o (λb=>A' b/\Z.R b) w (T'::Ts) bs (v::vs1):=by
     intro A1 X1 a1 a2 x1 x2 c1 c2 c3;have hr1:Rel Z ((s.Mr i .dead).sub i .any) σs A1 (L.set i .dead) σ w:=Rel.mk3 (λk hk=>(a1 k hk).elim (St.lt hr k) (λe=>e▸hlt)) (MemR.subst (hm.step (λk hk=>⟨a2 k hk.1,hk.2⟩) (λ_ _=>rfl)) hfz) hr.gr0
      (λk hk hM=>⟨a2 k (hr.old hk hM).1,(hr.old hk hM).2⟩) (AU.Ii λk hk=>(a1 k hk).imp .inl (λe=>by rw[e]))
     have hX1:RowsG Z A1 (L.set i .dead) w X1:=by
      refine⟨λk hk ha=>?_,λk hk=>(x1 k hk).elim (hX.lt k) (λe=>e▸hlt),AU.Ii λk hk=>?_⟩
      ·cases ho:o with
       |false=>
        have hk':=(c1 ho).2 k hk;rcases a1 k ha with h|rfl
        ·exact hX.out k hk' h
        ·exact hnb.2 hk'
       |true=>
        rcases x1 k hk with h|rfl
        ·rcases a1 k ha with h'|rfl
         ·exact hX.out k h h'
         ·exact hnb.2 h
        ·exact(c2 ho).1 ha
      ·rcases hk with hk|hk
       ·exact(a1 k hk).imp .inl (λe=>by rw[e])
       ·exact(x1 k hk).imp .inr (λe=>by rw[e])
     obtain⟨bs,A',L',q1,q2,q3,q4,q5,q6⟩:=oO o hr1 hX1 h1 hu1 hL';refine⟨b::bs,A',L',by rw[q1];rfl,q2,⟨λk hk=>?_,λk hk=>?_,q3.mobs.Ii λk hk=>?_⟩,λk hk=>q4 k (a2 k hk),λk hk=>?_, .cons hb (mS hpl (Ba.step (λk hk=>⟨q4 k (a2 k hk.1),hk.2⟩) (λ_ _=>rfl) (.refl L) henc)) (λho=>⟨q4 b (c1 ho).1,hR⟩)
      (λho hB=>q3.out b (.inl (c2 ho).2) hB.1) (λhbs=>?_) q6⟩
     ·refine q3.out k ?_;rcases hk with hk|⟨ho,hk⟩
      ·exact .inl (x2 k hk)
      ·rcases List.mem_cons.1 hk with rfl|hk
       ·exact .inl (c2 ho).2
       ·exact .inr ⟨ho,hk⟩
     ·refine q3.lt k ?_;rcases hk with hk|⟨ho,hk⟩
      ·exact .inl (x2 k hk)
      ·rcases List.mem_cons.1 hk with rfl|hk
       ·exact .inl (c2 ho).2
       ·exact .inr ⟨ho,hk⟩
     ·rcases hk with hk|hk|⟨ho,hk⟩
      ·exact .inl hk
      ·exact .inr (.inl (x2 k hk))
      ·rcases List.mem_cons.1 hk with rfl|hk
       ·exact .inr (.inl (c2 ho).2)
       ·exact .inr (.inr ⟨ho,hk⟩)
     ·rcases List.mem_cons.1 hk with rfl|hk
      ·exact⟨hnb.1,hnb.2,hlt⟩
      ·obtain⟨p1,p2,p3⟩:=q5 k hk;exact⟨λh=>p1 (a2 k h),λh=>p2 (x2 k h),p3⟩
     ·exact c3.elim (q5 b hbs).1 (q5 b hbs).2.1
    cases o with
    |false=>exact key (λk=>A k\/k=b) X (λk h=>h) (λk h=> .inl h) (λk h=> .inl h) (λk h=>h) (λ_=>⟨.inr rfl,λ_ h=>h⟩) (λh=>nomatch h) (.inl (.inr rfl))
    |true=>exact key A (λk=>X k\/k=b) (λk h=> .inl h) (λk h=>h) (λk h=>h) (λk h=> .inl h) (λh=>nomatch h) (λ_=>⟨hnb.1, .inr rfl⟩) (.inr (.inr rfl))
   ·cases h2
  ·cases h
 |[],_::_,_,_,_,_,_,_,_,_,_,h,_,_=>by simp[Gd]at h
 | .ptr _ []::_,[],_,_,_,_,_,_,_,_,_,h,_,_=>by simp[Gd]at h
 | .ptr _ (_::_)::_,_,_,_,_,_,_,_,_,_,_,h,_,_=>by simp[Gd]at h
 | .val _ _::_,_,_,_,_,_,_,_,_,_,_,h,_,_=>by simp[Gd]at h
 | .agg _::_,_,_,_,_,_,_,_,_,_,_,h,_,_=>by simp[Gd]at h
 | .tup _::_,_,_,_,_,_,_,_,_,_,_,h,_,_=>by simp[Gd]at h
 | .nils::_,_,_,_,_,_,_,_,_,_,_,h,_,_=>by simp[Gd]at h
 | .wp _::_,_,_,_,_,_,_,_,_,_,_,h,_,_=>by simp[Gd]at h
 | .own _::_,_,_,_,_,_,_,_,_,_,_,h,_,_=>by simp[Gd]at h
 | .rptr _::_,_,_,_,_,_,_,_,_,_,_,h,_,_=>by simp[Gd]at h
 | .view _ _ _ _ _ _::_,_,_,_,_,_,_,_,_,_,_,h,_,_=>by simp[Gd]at h
 | .fn _ _::_,_,_,_,_,_,_,_,_,_,_,h,_,_=>by simp[Gd]at h
 | .cap _ _ _::_,_,_,_,_,_,_,_,_,_,_,h,_,_=>by simp[Gd]at h
 | .mp _ _ _::_,_,_,_,_,_,_,_,_,_,_,h,_,_=>by simp[Gd]at h
 | .bfn _ _::_,_,_,_,_,_,_,_,_,_,_,h,_,_=>by simp[Gd]at h
 | .cst _::_,_,_,_,_,_,_,_,_,_,_,h,_,_=>by simp[Gd]at h
 | .gd _ _ _::_,_,_,_,_,_,_,_,_,_,_,h,_,_=>by simp[Gd]at h
 | .any::_,_,_,_,_,_,_,_,_,_,_,h,_,_=>by simp[Gd]at h
 | .off::_,_,_,_,_,_,_,_,_,_,_,h,_,_=>by simp[Gd]at h
 | .undef::_,_,_,_,_,_,_,_,_,_,_,h,_,_=>by simp[Gd]at h
structure ItC where
 Ts:List TypeId
 o:Bool
 e:ET
 F:List PV->Option (List e.T)
def YD(bs:List Nat):Array Value:=(bs.map λb=>Value.pointer (some ⟨b,0,none⟩)).toArray
structure ItOk (P:Program) (gl:List (Nat×List Value)) (gf:Nat) (c:ItC):Prop where
 ent:Ent P gf
 ok:∀(m:Nat) (B:Reg) (w:World) (bs:List Nat) (vs:List PV) (xs:List c.e.T),(∀k,B k->k<w.heap.size)-> (∀k∈bs,k<w.heap.size)->Boxes c.o B w c.Ts bs vs->GlOk gl B w->c.F vs=some xs->
  zH P m gf (YD bs) xs.length (λi V W v=>∀x,xs[i]? =some x->Ga V W [] (.val c.e x) v) (λb=>c.o=true->b∉bs) B w
def WM:Code->Bool
 | .rangeFunc _ _ _ _=>false
 | .seq a b=>WM a&&WM b
 | .cond _ a b=>WM a&&WM b
 | .block _ a=>WM a
 | .loop a=>WM a
 | .scope a=>WM a
 |_=>true
def rnd{R α:Type}(an:An)(body:(S->Option R)->α->S->Option R)(kn:S->Option R):List α->S->Option R
 |[],s=>kn s
 |x::xs,s=>body (RY an (rnd an body kn xs)) x s
def p? {R:Type}(k:S->Option R)(s:S):Option R:=match s.st with|sl::st=>k ⟨sl,s.it,st⟩|[]=>none
def Af:List (Nat×ItC)->Nat->Option ItC|[],_=>none|(g,c)::r,f=>Cp (Nat.beq g f) (some c)<|Af r f
noncomputable def aL{R:Type}(P:Program)(T:Tab)(inl:fN R)(n:Nat)(p:Nat)(assign body:Code)(an:An)(k:K R)(e:ET)(kn:S->Option R)(x:e.T)(s:S):Option R:=
 ex P T inl n assign an.r {n:=λs2=>ex P T inl n body an.l ⟨p? kn,λid=>p? (k.x id),p? k.r⟩ s2,x:=λ_ _=>none,r:=λ_=>none} ⟨j? s.sl p (.val e x),s.it,s.sl::s.st⟩
noncomputable def e!{R:Type}(P:Program)(T:Tab)(inl:fN R)(n:Nat)(its:List (Nat×ItC))(g:Operand)(ps:Array Tmp)(assign body:Code)(an:An)(k:K R)(s:S):Option R:=
 match Eh s.sl g with
 | .fn gf caps=>match ps.toList with
  |[p]=>match Af its gf with
   |some c=>match Gd s caps c.Ts with
    |some (vs,s1)=>Cp (Nat.blt p n) (Option.bind (c.F vs) λxs=>RY an (rnd an (aL P T inl n p assign body an k c.e) k.n xs) s1) none
    |none=>none
   |none=>none
  |_=>none
 |_=>none
noncomputable def exF{R:Type}(P:Program)(T:Tab)(inl:fN R)(n:Nat)(its:List (Nat×ItC)):Code->An->K R->S->Option R
 | .seq a b,an,k,s=>match WM a with
  |true=>ex P T inl n a an.l {k with n:=Q0 an λs'=>exF P T inl n its b an.r k s'} s
  |false=>exF P T inl n its a an.l {k with n:=Q0 an λs'=>ex P T inl n b an.r k s'} s
 | .block id a,an,k,s=>exF P T inl n its a an.l {k with x:=λid' s'=>Cp (Nat.beq id' id) (k.n s')<|k.x id' s'} s
 | .rangeFunc g ps assign body,an,k,s=>e! P T inl n its g ps assign body an k s
 |c,an,k,s=>ex P T inl n c an k s
def mark(D:Nat):Deferred:={target:= .collected D,args:= #[]}
def Y6:Option Nat->List Deferred|none=>[]|some D=>[mark D]
def W2(P:Program)(n:Nat)(c:Code)(Q:Exit->Env->World->Option Nat->Prop)(σ:Env)(w:World):Prop:=
 ∀(m:Nat) (a:Act),Fits [] n a σ->c.wpIn (wr none) m P (λe a' w'=>∃σ' D,Fits (Y6 D) n a' σ'/\Q e σ' w' D) a w
variable {R:Type} {r:R} {T:Tab} {inl:fN R}
def QK2(Z:Fix)(σs:List Env)(k:K R)(r:R)(e:Exit)(σ':Env)(w':World)(D:Option Nat):Prop:=
 ∃s' A' L',kof k e s'=some r/\Rel Z s' σs A' L' σ' w'/\∀d,D=some d->w'.heap[d]? =some (.deferred (some []))/\ ¬A' d/\Z.w0.heap.size<=d
def kx(k:K R):Code->S->Option R| .ret=>k.r| .exit id=>k.x id|_=>λ_=>none
theorem Aeg{f:Nat}{c:ItC}:∀{its:List (Nat×ItC)},Af its f=some c-> (f,c)∈its
 |[],h=>by simp[Af]at h
 |(g,a)::its,h=>by
  simp only[Af]at h;cases hb:Nat.beq g f with
  |true=>have:=Bn hb;subst this;rw[hb]at h;cases h;exact .head _
  |false=>rw[hb]at h;exact .tail _ (Aeg h)
theorem Aak{k:S->Option R}(h:RY an k s=some r):∃lv co s',s.cn lv co=some s'/\k s'=some r:=by
 unfold RY at h;split at h
 ·split at h
  ·rename_i s2 hs2;exact⟨_,_,s2,hs2,h⟩
  ·cases h
 ·cases h
theorem Amx{its:List (Nat×ItC)}{k:K R}(h:e! P T inl n its g ps assign body an k s=some r):
  ∃gf caps p c vs s1 xs,Eh s.sl g= .fn gf caps/\ps.toList=[p]/\Af its gf=some c/\Gd s caps c.Ts=some (vs,s1)/\Nat.blt p n=true/\c.F vs=some xs/\
   RY an (rnd an (aL P T inl n p assign body an k c.e) k.n xs) s1=some r:=by
 unfold e! at h;split at h
 ·rename_i gf caps hg;split at h
  ·rename_i p hps;split at h
   ·rename_i c hc;split at h
    ·rename_i vs s1 ht;obtain⟨hpn,h'⟩:=Aq h;obtain⟨xs,hF,h2⟩:=Go.Lv.bind_some h';exact⟨gf,caps,p,c,vs,s1,xs,hg,hps,hc,ht,hpn,hF,h2⟩
    ·cases h
   ·cases h
  ·cases h
 ·cases h
theorem Aqm(HI:P.follows .mixedOrders=true)(hT:fE P T Z)(hI:Qi P T.gl inl){its:List (Nat×ItC)}(hits:∀p∈its,ItOk P T.gl p.1 p.2){k:K R}
  (h:e! P T inl n its g ps assign body an k s=some r) (hr:Rel Z s σs A L σ w):W2 P n (.rangeFunc g ps assign body) (QK2 Z σs k r) σ w:=by
 intro m a ha;obtain⟨gf,caps,p,c,vs,s1,xs,hg,hps,hc,htk,hpn,hF,hrun⟩:=Amx h;clear h;have hit:=hits _ (Aeg hc);have hg1:=qm (by rw[<-hg];exact Qk hr.mem.sl g (by rw[hg];rfl));obtain⟨us,hgv,hus⟩:=hg1;obtain⟨bs,A1,L1,hbs,hr1,hX1,hAA,hbl,fM⟩:=oO c.o hr (RowsG.nil hr) htk hus (λi md h=> .inr h);subst hbs;have hB1:∀k,(A1 k/\Z.R k)->k<w.heap.size:=λk hk=>St.lt hr1 k hk.1;have hseq:=hit.ok (m-1) (λk=>A1 k/\Z.R k) w bs vs xs hB1 (λk hk=>(hbl k hk).2.2) fM
  (λq hq=>by rw[<-hT.2]at hq;obtain⟨g1,T1,fr,g2⟩:=hr1.V! hq;exact⟨lt_of_heap g2,g1,T1,fr,g2⟩) hF
 obtain⟨G,hGe⟩:∃G:Reg,G=λb=>c.o=true->b∉bs:=⟨_,rfl⟩;rw[<-hGe]at hseq;have hGn:∀b,w.heap.size<=b->G b:=λb hb=>by rw[hGe];exact λ_ hm=>by have:=(hbl b hm).2.2;omega
 have hnG:∀b,¬G b↔(c.o=true/\b∈bs):=λb=>by
  rw[hGe];constructor
  ·intro h;refine⟨VJ λho=>h λe=>absurd e ho,VJ λhm=>h λ_=>hm⟩
  ·rintro⟨h1,h2⟩ h;exact h h1 h2
 have hX1:RowsG Z A1 L1 w (λb=>¬G b):=by
  have e:(λb=>False\/ (c.o=true/\b∈bs))=λb=>¬G b:=funext λb=>propext (by rw[hnG b];simp);rw[<-e];exact hX1
 clear hGe hnG;have hps':ps= #[p]:=by rw[<-Array.toArray_toList (xs:=ps),hps]
 subst hps';have hrow2:∀(A:Reg) (L:List MD) (W:World) (o o':Obj),RowsG Z A L W (λb=>¬G b)-> ¬A w.heap.size-> ¬A (w.heap.size+1)->W.heap[w.heap.size]? =some o->o.isCells=false->W.heap[w.heap.size+1]? =some o'->o'.isCells=false->RowsG Z A L W (λk=>¬G k\/ (k=w.heap.size\/k=w.heap.size+1)):=λA L W o o' h0 h1 h2 h3 h4 h5 h6=>
  h0.row (λk hk=>by rcases hk with rfl|rfl<;>assumption) (λk hk=>by rcases hk with rfl|rfl<;>exact⟨_,by assumption,by assumption⟩)
 have hw0:Z.w0.heap.size<=w.heap.size:=hr.gr0.le;refine Ap5 (G:=G) (gf:=gf) (lb:=YD bs) (by rw[ha.eval];exact hgv) hit.ent hseq hGn rfl
  (λi V W=>∃s A L,RY an (rnd an (aL P T inl n p assign body an k c.e) k.n (xs.drop i)) s=some r/\Rel Z s σs A L σ W/\ (∀b,V b->A b/\Z.R b)/\ ¬A w.heap.size/\ ¬A (w.heap.size+1)/\RowsG Z A L W (λb=>¬G b))
  (λc W=>∃s A L,kx k c s=some r/\Rel Z s σs A L σ W/\ ¬A w.heap.size/\ ¬A (w.heap.size+1)/\RowsG Z A L W (λb=>¬G b))
  ?hI ?hIx ?hIr ?Zm ?hV ?h0 ?iq ?hdone ?hstop
 case hI=>
  rintro i V X Y ⟨s',A',L',h1,h2,h3,h4,h5,h6⟩ hX hk;obtain⟨h7,h8⟩:=h2.jU (A':=λb=>A' b\/ (X.heap.size<=b/\b<Y.heap.size)) hk (λb hb=>VJ λhg=>h6.out b hg hb) h6.mobs (λ_ h=> .inl h) (λ_ h=>h);refine⟨s',_,L',h1,h7,λb hb=>?_,?_,?_,?_,λb hb=>E5 (h6.lt b hb) hk.gr.le,h8.Ii λb hb=>hb.imp id λhb=>⟨h6.lt b hb,hb⟩⟩
  ·rcases hb with h|h
   ·exact⟨.inl (h3 b h).1,(h3 b h).2⟩
   ·exact⟨.inr h,Z.new b (Xm h2.gr0.le h.1)⟩
  ·rintro(h|h)
   ·exact h4 h
   ·omega
  ·rintro(h|h)
   ·exact h5 h
   ·omega
  ·rintro b hb (h|h)
   ·exact h6.out b hb h
   ·have:=h6.lt b hb;omega
 case hIx=>
  rintro c X Y ⟨s',A',L',h1,h2,h3,h4,h6⟩ hk;obtain⟨h7,h8⟩:=h2.jU (A':=A') hk (λb hb=>VJ λhg=>h6.out b hg hb) h6.mobs (λ_ h=>h) (λ_ h=> .inl h);exact⟨s',A',L',h1,h7,h3,h4,h6.out,λb hb=>E5 (h6.lt b hb) hk.gr.le,h8.Ii λb hb=>hb.imp id λhb=>⟨h6.lt b hb,hb⟩⟩
 case hIr=>
  rintro i V X rr rr' ⟨s',A',L',h1,h2,h3,h4,h5,h6⟩ hX;exact⟨s',A',L',h1,h2.row h5 hX rfl,h3,h4,h5,h6.put h2 h5 hX rfl⟩
 case Zm=>
  rintro c X rr rr' ⟨s',A',L',h1,h2,h3,h4,h6⟩ hX;exact⟨s',A',L',h1,h2.row h4 hX rfl,h3,h4,h6.put h2 h4 hX rfl⟩
 case hV=>
  rintro i V W ⟨s',A',L',h1,h2,h3,h4,h5,h6⟩ hV;exact h5 (h3 _ hV).1
 case h0=>
  intro W hk;obtain⟨h7,h8⟩:=hr1.jU (G:=G) (A':=A1) ⟨λb hb _=>hk.same b hb trivial,hk.gr⟩ (λb hb=>VJ λhg=>hX1.out b hg hb) hX1.mobs (λ_ h=>h) (λ_ h=> .inl h);refine⟨_,A1,_,hrun,h7,λb hb=>hb,λh=>?_,λh=>?_,hX1.out,λb hb=>E5 (hX1.lt b hb) hk.gr.le,h8.Ii λb hb=>hb.imp id λhb=>⟨hX1.lt b hb,hb⟩⟩
  ·have:=St.lt hr1 _ h;omega
  ·have:=St.lt hr1 _ h;omega
 case hdone=>
  rintro V W ⟨s',A',L',h1,h2,h3,h4,h5,h6⟩ hD;rw[YU]at h1;obtain⟨lv,co,s2,hcn,h1⟩:=Aak h1;have hX:RowsG Z A' L' W (λk=>False\/k=w.heap.size):=(RowsG.nil h2).row (λk hk=>by subst hk;exact h4) (λk hk=>by subst hk;exact⟨_,hD,rfl⟩);obtain⟨A2,L2,hr2⟩:=oB (W4 h2 hX) hcn;obtain⟨g1,g2,g3,g4,g5⟩:=rG h2 hX hr2;exact⟨σ,some w.heap.size,⟨ha.size,by simp[Y6,mark,ha.defers],ha.get⟩,s2,_,L2,h1,g1,λd hd=>by cases hd;exact⟨hD,λh=>h.2 (.inr rfl),hw0⟩⟩
 case hstop=>
  rintro c W ⟨s',A',L',h1,h2,h3,h4,h6⟩ hD;have key:∀e,kof k e s'=some r->∃σ' D,Fits (Y6 D) n {a with defers:={target:= .collected w.heap.size,args:= #[]}::a.defers} σ'/\QK2 Z σs k r e σ' W D:=λe he=>
   ⟨σ,some w.heap.size,⟨ha.size,by simp[Y6,mark,ha.defers],ha.get⟩,s',A',L',he,h2,λd hd=>by cases hd;exact⟨hD,h3,hw0⟩⟩
  cases c<;>first
   |exact wpIn_ret (key .ret h1)
   |exact wpIn_exit (key (.exit _) h1)
   |cases h1
 case iq=>
  rintro i V W v rr hi ⟨s',A',L',h1,h2,h3,h4,h5,h6⟩ hE hl hD;have hX:=hrow2 A' L' W _ _ h6 h4 h5 hD rfl hl rfl;have hin:=W4 h2 hX;obtain⟨lv,co,s2,hcn,h1⟩:=Aak h1;obtain⟨A2,L2,hr2⟩:=oB hin hcn;obtain⟨x,hx⟩:∃x,xs[i]? =some x:=⟨_,C? hi⟩;have hdrop:xs.drop i=x::xs.drop (i+1):=by rw[eR hi];congr 1;rw[C? hi]at hx;exact Z6 hx
  rw[hdrop]at h1;have h1':aL P T inl n p assign body an k c.e (RY an (rnd an (aL P T inl n p assign body an k c.e) k.n (xs.drop (i+1)))) x s2=some r:=h1;unfold aL at h1';have hlt:=lt_of_heap hl;have hA2:∀b,A' b->A2 b:=λb hb=>(hr2.old (Z:=Z.sub h2 _ hX) (St.lt h2 b hb) (λhM=>hM.2.1 hb)).1;have hval:Ef (λb=>A2 b/\ (Z.sub h2 _ hX).R b) W L2 (.val c.e x) v:=by
   refine(Je (Ga.step (B:=V) (w:=W) (L:=[]) (λb hb=>⟨hA2 b (h3 b hb).1,(h3 b hb).2,λh=>?_⟩) (λb hb=>rfl) (by have:=RI.append [] L2;rwa [O7]at this) (hE x hx))).2;exact hX.out b h (h3 b hb).1
  have hr3:Rel (Z.sub h2 _ hX) ⟨j? s2.sl p (.val c.e x),s2.it,s2.sl::s2.st⟩ (σ::σs) A2 L2 (Mr σ p v) W:=
   Rel.as hr2 (i:=1) rfl ⟨hr2.mem.it,hr2.mem.sl.set (Gx.put rfl hval),hr2.mem.sl,hr2.mem.stk⟩ rfl
  have hfit:Fits [] n ({tmps:=((#[p]:Array Tmp).zip #[v]).foldl (λt (p,v)=>t.setIfInBounds p v) a.tmps,defers:=[]}:Act) (Mr σ p v):=by
   have hp:=ha.put hpn v;exact⟨by simpa [Act.put]using hp.size,rfl,by simpa [Act.put]using hp.get⟩
  refine R5 (tQ (Z:=Z.sub h2 _ hX) HI ⟨hT.1,hT.2⟩ hI assign h1' hr3 (some (w.heap.size+1)) (m-1-1) [] _ hfit) ?_;rintro e a2 W2 ⟨σ2,hf2,s3,A3,L3,hk3,hr3'⟩;cases e with
  |normal=>
   have hk3':ex P T inl n body an.l ⟨p? (RY an (rnd an (aL P T inl n p assign body an k c.e) k.n (xs.drop (i+1)))),λid=>p? (k.x id),p? k.r⟩ s3=some r:=hk3;obtain⟨g1,g2,g3,g4,g5⟩:=rG h2 hX hr3';have hkeep:∀b,(b=w.heap.size\/b=w.heap.size+1\/V b\/ ¬G b)->W2.heap[b]? =W.heap[b]? :=λb hb=>g3 b (by rcases hb with h|h|h|h;exact .inl (.inr (.inl h));exact .inl (.inr (.inr h));exact .inr (h3 b h).1;exact .inl (.inl h));refine⟨hkeep,g4,λr'=>?_⟩;have hl2:W2.heap[w.heap.size+1]? =some (.loop rr):=(g3 _ (.inl (.inr (.inr rfl)))).trans hl;have hD2:W2.heap[w.heap.size]? =some (.deferred (some [])):=(g3 _ (.inl (.inr (.inl rfl)))).trans hD;have hnl:¬(A3 (w.heap.size+1)/\ ¬(¬G (w.heap.size+1)\/ (w.heap.size+1=w.heap.size\/w.heap.size+1=w.heap.size+1))):=λh=>h.2 (.inr (.inr rfl));have hnD:¬(A3 w.heap.size/\ ¬(¬G w.heap.size\/ (w.heap.size=w.heap.size\/w.heap.size=w.heap.size+1))):=λh=>h.2 (.inr (.inl rfl));have hr4:=Rel.row (o':= .loop r') g1 hnl hl2 rfl;have hl3:(W2.putObj (w.heap.size+1) (.loop r')).heap[w.heap.size+1]? =some (.loop r'):=mX (lt_of_heap hl2);have hD3:(W2.putObj (w.heap.size+1) (.loop r')).heap[w.heap.size]? =some (.deferred (some [])):=(VY F0).trans hD2;have g6:RowsG Z (λb=>A3 b/\ ¬(¬G b\/ (b=w.heap.size\/b=w.heap.size+1))) L3 W2 (λb=>¬G b):=⟨λb hb h=>h.2 (.inl hb),λb hb=>g5.lt b (.inl hb),g5.mobs.Ii λb hb=>hb.imp id .inl⟩;have hX3:=hrow2 (λb=>A3 b/\ ¬(¬G b\/ (b=w.heap.size\/b=w.heap.size+1))) L3 _ _ _ (g6.put (o':= .loop r') g1 hnl hl2 rfl) hnD hnl hD3 rfl hl3 rfl;refine R5 (tQ (Z:=Z.sub hr4 _ hX3) HI ⟨hT.1,hT.2⟩ hI body hk3' (W4 hr4 hX3) (some (w.heap.size+1)) (m-1-1) [] a2 hf2) ?_;rintro e a5 W5 ⟨σ5,hf5,s5,A5,L5,hk5,hr5⟩;have pop:∀(kk:S->Option R),p? kk s5=some r->∃s6 A6,kk s6=some r/\Rel Z s6 σs A6 L5 σ W5/\ (∀b,A3 b/\ ¬(¬G b\/ (b=w.heap.size\/b=w.heap.size+1))->A6 b)/\ ¬A6 w.heap.size/\ ¬A6 (w.heap.size+1)/\RowsG Z A6 L5 W5 (λb=>¬G b):=by
    intro kk hkk;unfold p? at hkk;split at hkk
    ·rename_i sl st hst;have nJ:=hr5.mem.stk;rw[hst]at nJ;have hr6:Rel (Z.sub hr4 _ hX3) ⟨sl,s5.it,st⟩ σs A5 L5 σ W5:=Rel.as hr5 (i:=1) rfl ⟨hr5.mem.it,nJ.1,nJ.2⟩ rfl;obtain⟨q1,q2,q3,q4,q5⟩:=rG hr4 hX3 hr6;exact⟨_,_,hkk,q1,q2,λh=>h.2 (.inr (.inl rfl)),λh=>h.2 (.inr (.inr rfl)),λb hb h=>h.2 (.inl hb),λb hb=>q5.lt b (.inl hb),q5.mobs.Ii λb hb=>hb.imp id .inl⟩
    ·cases hkk
   obtain⟨_,_,q3,q4,_⟩:=rG hr4 hX3 hr5;have hV3:∀b,V b->A3 b/\ ¬(¬G b\/ (b=w.heap.size\/b=w.heap.size+1)):=λb hb=>g2 b (h3 b hb).1;cases e with
   |normal=>
    obtain⟨s6,A6,p1,p2,p3,p4,p5,p6⟩:=pop _ hk5;refine⟨λb hb=>q3 b ?_,q4,s6,A6,L5,p1,p2,λb hb=>⟨p3 b (hV3 b hb),(h3 b hb).2⟩,p4,p5,p6⟩;rcases hb with h|h|h|h
    ·exact .inl (.inr (.inl h))
    ·exact .inl (.inr (.inr h))
    ·exact .inr (hV3 b h)
    ·exact .inl (.inl h)
   |ret=>
    obtain⟨s6,A6,p1,p2,p3,p4,p5,p6⟩:=pop _ hk5;exact⟨λb hb=>q3 b (.inl (.inr hb)),q4,s6,A6,L5,p1,p2,p4,p5,p6⟩
   |exit id=>
    obtain⟨s6,A6,p1,p2,p3,p4,p5,p6⟩:=pop _ hk5;exact⟨λb hb=>q3 b (.inl (.inr hb)),q4,s6,A6,L5,p1,p2,p4,p5,p6⟩
   |goto t=>cases hk5
   |panic ch=>cases hk5
   |outgrown=>cases hk5
  |ret=>cases hk3
  |exit id=>cases hk3
  |goto t=>cases hk3
  |panic ch=>cases hk3
  |outgrown=>cases hk3
theorem QK2.exit{e:Exit}{k k':K R}{σ':Env}{w':World}{D:Option Nat}(h:QK2 Z σs k r e σ' w' D)(he:∀s,kof k e s=some r->kof k' e s=some r):QK2 Z σs k' r e σ' w' D:=by
 obtain⟨s',A',L',h1,h2⟩:=h;exact⟨s',A',L',he _ h1,h2⟩
theorem vW(HI:P.follows .mixedOrders=true)(hT:fE P T Z)(hI:Qi P T.gl inl){its:List (Nat×ItC)}(hits:∀p∈its,ItOk P T.gl p.1 p.2):∀(c:Code) {an:An} {k:K R} {s:S} {A:Reg} {L:List MD} {σ:Env} {w:World},
  exF P T inl n its c an k s=some r->Rel Z s σs A L σ w->W2 P n c (QK2 Z σs k r) σ w:=by
 have dflt:∀(c:Code) {an:An} {k:K R} {s:S} {A:Reg} {L:List MD} {σ:Env} {w:World},ex P T inl n c an k s=some r->Rel Z s σs A L σ w->W2 P n c (QK2 Z σs k r) σ w:=by
  intro c an k s A L σ w h hr m a ha;refine R5 (tQ HI hT hI c h hr none m [] a ha) ?_;rintro e a' w' ⟨σ',hf,s',A',L',h1,h2⟩;exact⟨σ',none,hf,s',A',L',h1,h2,λd hd=>by cases hd⟩
 intro c
 induction c with
 |seq a b iha ihb=>
  intro an k s A L σ w h hr m act ha;simp only[exF]at h;split at h
  ·refine wpIn_seq (R5 (tQ HI hT hI a h hr none m [] act ha) ?_);rintro e a' w' ⟨σ',hf,s',A',L',h1,hr'⟩;cases e with
   |normal=>
    have h2:Q0 an (λs'=>exF P T inl n its b an.r k s') s'=some r:=h1;unfold Q0 at h2;split at h2
    ·split at h2
     ·rename_i s2 hs2;obtain⟨A2,L2,hr2⟩:=oB hr' hs2;exact ihb h2 hr2 m a' hf
     ·cases h2
    ·exact ihb h2 hr' m a' hf
   |_=>exact⟨σ',none,hf,s',A',L',h1,hr',λd hd=>by cases hd⟩
  ·refine wpIn_seq (R5 (iha h hr m act ha) ?_);rintro e a' w' ⟨σ',D,hf,s',A',L',h1,hr',hD⟩;cases e with
   |normal=>
    have h2:Q0 an (λs'=>ex P T inl n b an.r k s') s'=some r:=h1;have hX:RowsG Z A' L' w' (λk=>False\/D=some k):=(RowsG.nil hr').row (λk hk=>(hD k hk).2.1) (λk hk=>⟨_,(hD k hk).1,rfl⟩);have fin:∀{s2:S} {A2:Reg} {L2:List MD},ex P T inl n b an.r k s2=some r->Rel (Z.sub hr' _ hX) s2 σs A2 L2 σ' w'->b.wpIn (wr none) m P (λe a' w'=>∃σ' D,Fits (Y6 D) n a' σ'/\QK2 Z σs k r e σ' w' D) a' w':=by
     intro s2 A2 L2 h3 hr2;refine R5 (tQ (Z:=Z.sub hr' _ hX) HI ⟨hT.1,hT.2⟩ hI b h3 hr2 none m (Y6 D) a' hf) ?_;rintro e a'' w'' ⟨σ'',hf',s3,A3,L3,h4,hr3⟩;obtain⟨g1,g2,g3,g4,g5⟩:=rG hr' hX hr3;exact⟨σ'',D,hf',s3,_,L3,h4,g1,λd hd=>⟨(g3 d (.inl (.inr hd))).trans (hD d hd).1,λh=>h.2 (.inr hd),(hD d hd).2.2⟩⟩
    unfold Q0 at h2;split at h2
    ·split at h2
     ·rename_i s2 hs2;obtain⟨A2,L2,hr2⟩:=oB (W4 hr' hX) hs2;exact fin h2 hr2
     ·cases h2
    ·exact fin h2 (W4 hr' hX)
   |_=>exact⟨σ',D,hf,s',A',L',h1,hr',hD⟩
 |block id a iha=>
  intro an k s A L σ w h hr m act ha;refine wpIn_block (R5 (iha (an:=an.l) (k:={k with x:=λid' s'=>Cp (Nat.beq id' id) (k.n s')<|k.x id' s'}) h hr m act ha) ?_);rintro e a' w' ⟨σ',D,hf,hq⟩;cases e with
  |exit id'=>
   simp only[Exit.inBlock];obtain⟨s',A',L',h1,hr'⟩:=hq;have h2:(Cp (Nat.beq id' id) (k.n s')<|k.x id' s')=some r:=h1;by_cases hid:id'=id
   ·rw[A7 hid];subst hid;simp at h2;exact⟨σ',D,hf,s',A',L',h2,hr'⟩
   ·rw[A4 hid];have hb:Nat.beq id' id=false:=by
     cases hb:Nat.beq id' id with
     |false=>rfl
     |true=>exact absurd (Bn hb) hid
    rw[hb]at h2;exact⟨σ',D,hf,s',A',L',h2,hr'⟩
  |_=>exact⟨σ',D,hf,hq⟩
 |rangeFunc g ps assign body _ _=>intro an k s A L σ w h hr;exact Aqm HI hT hI hits h hr
 |_=>intro an k s A L σ w h hr;exact dflt _ (by simpa only[exF]using h) hr
theorem cZ{vs:List Value}(hle:Nat.ble vs.length fn.ntmps=true):Fits [] fn.ntmps {tmps:=vs.toArray++Array.replicate (fn.ntmps-vs.toArray.size) undef,defers:=[]} (QW vs):=by
 have hle':vs.length<=fn.ntmps:=by simpa using hle
 refine⟨by simp;omega,rfl,λt=>?_⟩;simp only[QW,Sm,B4,Array.getElem?_append,T?,VZ];by_cases ht:t<vs.length
 ·simp[ht]
 ·rw[A4 ht,Vx F0];by_cases h2:t-vs.length<fn.ntmps-vs.length
  ·simp[eS,h2]
  ·simp[eS,h2]
noncomputable def eC(P:Program)(T:Tab)(rs:List Sh)(inl:fN (Zb (Qo rs)))(its:List (Nat×ItC))(f:Func)(an:An)(ps:List Sh)(x:Zb (Qo ps)):Option (Zb (Qo rs)):=
 match f.body,args ps x with
 |some c,some vs=>exF P T inl f.ntmps its c an {n:=nI P rs f.results.toList,x:=λ_ _=>none,r:=nI P rs f.results.toList} ⟨Xh 0 vs,f_ ps x,[]⟩
 |_,_=>none
theorem Bdo (HI:P.follows .mixedOrders=true){f:Nat}{its:List (Nat×ItC)}{ps rs:List Sh}{inl:fN (Zb (Qo rs))}{F:Zb (Qo ps)->Option (Zb (Qo rs))}(hf:P.funcs[f]? =some fn)(hE:Ent P f)(hT:Sk P T)(hI:Qi P T.gl inl)
  (hits:∀p∈its,ItOk P T.gl p.1 p.2) (hle:Nat.ble ps.length fn.ntmps=true) (h:∀x,eC P T rs inl its fn an ps x=F x):ConOk P T.gl f ⟨ps,rs,F⟩:=by
 cases hc:fn.body with
 |none=>
  refine KI (RUN:=λ_=>none) (fn:=fn) hE (λx y pvs hx hy=>?_) (λ_ _ _ _ _ _ _ _ _ _ _ h=>by cases h);rw[<-h x]at hy;unfold eC at hy;rw[hc]at hy;exact hy
 |some c=>
  refine KI (T:=T) (fn:=fn) (RUN:=exF P T inl fn.ntmps its c an {n:=nI P rs fn.results.toList,x:=λ_ _=>none,r:=nI P rs fn.results.toList}) hE (λx y pvs hx hy=>?_) ?_
  ·rw[<-h x]at hy;unfold eC at hy;rw[hc,hx]at hy;exact hy
  ·intro Z A L w s y vs Q hZ hr hl hy fin;refine(callsIn_wide (n:=4)).1 (callsIn_of_wp_marks hf hc trivial (R5 (vW HI ⟨hT,hZ⟩ hI hits c hy hr 4 _ (cZ (by rw[hl];exact hle))) ?_) rfl);rintro e a' w' ⟨σ',D,hf',s',A',L',h1,hr',hD⟩;have key:nI P rs fn.results.toList s'=some y->LeavesInM (wr none) 4 P fn a'.tmps Q a'.defers .returning w':=by
    intro h1;rw[hf'.defers];cases D with
    |none=>
     obtain⟨us,h2,h3⟩:=fin s' A' L' σ' w' h1 hr';exact⟨_,Zv F8 hf' h2,h3⟩
    |some d=>
     obtain⟨g1,g2,g3⟩:=hD d rfl;obtain⟨us,h2,h3⟩:=fin s' A' L' σ' _ h1 (hr'.row (o':= .deferred none) g2 g1 rfl);exact⟨F8, .inl ⟨d,_,rfl,run_takeDeferred g1,_,Zv F8 hf' h2,h3⟩⟩
   cases e with
   |normal=>exact key h1
   |ret=>exact key h1
   |exit id=>cases h1
   |goto l=>cases h1
   |panic c=>cases h1
   |outgrown=>cases h1
end Go.Rx
namespace Go.Rx
open Go Go.Lv Go.RowKit
variable{a:Act}{ops:Array Oper}{o:Oper}{v:Value}
variable {P:Program} {B:Reg} {w w':World} {L L':List MD} {s s':S} {σs σs':List Env} {σ σ':Env} {Z:Fix} {A A':Reg} {n:Nat}
variable {R:Type} {r:R} {T:Tab}
def QI:Exit->Option Nat| .normal=>some 0| .exit id=>some (id+2)| .ret=>some 1|_=>none
structure MemI (gl:List (Nat×List Value)) (V:Reg) (w:World) (s:S) (σ:Env):Prop where
 lt:∀b,V b->b<w.heap.size
 it:s.it=[]
 st:s.st=[]
 sl:Fp V w [] σ s.sl
 gl:GlOk gl V w
theorem GlOk.keep{gl:List (Nat×List Value)}{V V':Reg}(h:GlOk gl V w)(hV:∀b,V b->V' b)(hs:Same V w w')(hg:Gr w w'):GlOk gl V' w':=λp hp=>
 let⟨h1,h2,T,fr,h3⟩:=h p hp
 ⟨E5 h1 hg.le,hV _ h2,T,fr,(hs _ h2).trans h3⟩
theorem MemI.keep{gl:List (Nat×List Value)}{V V':Reg}(h:MemI gl V w s σ)(hV:∀b,V b->V' b)(hl:∀b,V' b->b<w'.heap.size)(hs:Same V w w')(hg:Gr w w'):MemI gl V' w' s σ:=
 ⟨hl,h.it,h.st,h.sl.step hV hs (.refl []),h.gl.keep hV hs hg⟩
theorem MemI.oz{gl:List (Nat×List Value)}{V:Reg}(h:MemI gl V w s σ){sl:Slots}(hs:∀p∈sl,p∈s.sl):MemI gl V w ⟨sl,[],[]⟩ σ:=
 ⟨h.lt,rfl,rfl,λp hp=>h.sl p (hs p hp),h.gl⟩
def YH(gl:List (Nat×List Value))(V:Reg)(w:World)(h:GlOk gl V w):Fix where
 R b:=V b\/w.heap.size<=b
 M _:=False
 w0:=w
 new _ hb:= .inr hb
 mod _ h:=h.elim
 gl:=gl
 glok p hp:=let⟨h1,h2,h3⟩:=h p hp;⟨.inl h2,id,h1,h3⟩
theorem MemI.rel{gl:List (Nat×List Value)}{V:Reg}(h:MemI gl V w s σ):Rel (YH gl V w h.gl) s [] (λb=>b<w.heap.size) [] σ w:=by
 refine Rel.mk3 (λb hb=>hb) ⟨⟨by rw[h.it];rfl,λi a m h1=>by rw[h.it]at h1;simp at h1⟩,h.sl.step (λb hb=>⟨h.lt b hb, .inl hb⟩) (λ_ _=>rfl) (.refl []),?_⟩ (.refl _) (λb hb _=>⟨hb,rfl⟩) trivial;rw[h.st];trivial
def grown(V:Reg)(w w':World):Reg:=λb=>V b\/ (w.heap.size<=b/\b<w'.heap.size)
theorem MemI.back{gl:List (Nat×List Value)}{V:Reg}(h:MemI gl V w s σ){A':Reg}{L':List MD}(hr:Rel (YH gl V w h.gl) s' [] A' L' σ' w')(h1:s'.it=[]):
  KeepN (λ_=>True) w w'/\MemI gl (grown V w w') w' s' σ':=by
 have hk:KeepN (λ_=>True) w w':=⟨λb hb _=>(hr.old (Z:=YH gl V w h.gl) hb id).2,hr.gr0 (Z:=YH gl V w h.gl)⟩;have hL:L'=[]:=by
  have:=hr.mem.it.1;rw[h1]at this;exact VT this.symm
 subst hL;refine⟨hk,λb hb=>hb.elim (λh'=>E5 (h.lt b h') hk.gr.le) And.right,h1,?_,hr.mem.sl.step (λb hb=>hb.2.elim .inl λh=> .inr ⟨h,St.lt hr b hb.1⟩) (λ_ _=>rfl) (.refl []),?_⟩
 ·have:=hr.mem.stk;cases hst:s'.st with
  |nil=>rfl
  |cons a l=>rw[hst]at this;exact this.elim
 ·exact h.gl.keep (λb hb=> .inl hb) (λb hb=>hk.same b (h.lt b hb) trivial) hk.gr
theorem Akx{m:Nat}{next next':Act->World->Prop}{Y:Act->World->Prop}{Q:Exit->Act->World->Prop}{x:Result Next}(hn:∀a w,next a w->next' a w)
  (h:o.uponIn (wr none) m P a next (Nrm Y) x):o.uponIn (wr none) m P a next' Q x:=by
 cases x with
 |ok x w'=>
  cases x with
  |value v=>exact hn _ _ h
  |skip=>exact hn _ _ h
  |defer d=>exact hn _ _ h
  |enter f args=>
   refine⟨h.1,h.2.mono ?_⟩;intro e w'' hh;cases e with
   |returned v=>exact hn _ _ hh
   |panicked c=>exact absurd hh.1 F8
   |outgrown=>exact(o_ hh).elim
  |row row args=>exact⟨h.1,h.2.mono λv w'' hh=>hn _ _ hh⟩
  |round l f t b c=>
   refine⟨h.1,h.2.mono ?_⟩;intro e w'' hh;cases e with
   |returned v=>exact hn _ _ hh
   |panicked c=>exact absurd hh.1 F8
   |outgrown=>exact(o_ hh).elim
  |_=>exact h.elim
 |halt x w'=>
  cases x with
  |panic v=>exact absurd h.1 F8
  |_=>exact h.elim
theorem KV{m:Nat}{ops:Array Oper}{Y:Act->World->Prop}{Q:Exit->Act->World->Prop}{l2:List Oper}(h2:∀a w,Y a w->wpListIn (wr none) m P ops Q l2 a w):∀{l1:List Oper} {a:Act} {w:World},
  wpListIn (wr none) m P ops (Nrm Y) l1 a w->wpListIn (wr none) m P ops Q (l1++l2) a w
 |[],a,w,h=>h2 a w h.2
 |o::l1,a,w,h=>by
  simp only[wpListIn,SU]at h⊢;split
  ·rename_i hw;rw[A7 hw]at h;exact⟨h.1,Akx (λa w h=>KV h2 h) h.2⟩
  ·rename_i hw;rw[A4 hw]at h;exact⟨h.1,KV h2 h.2⟩
theorem E9{m:Nat}{Q:Exit->Act->World->Prop}{rest:List Oper}{d:Nat}(hg:o.guard=none)(hd:o.dst=some d)(hdn:Nat.blt d n=true)(hne:∀c,o.op≠ .defer c){l:Nat}
  (hx:(execOp (ev σ) o).run P w=(Instr.yield l #[v]).run P w) {RR:Ending->World->Prop} (hy:YieldAt (wr none) (m-1) P l #[v] w RR)
  (hR:∀e w',RR e w'->∃u,e= .returned u/\∀a',Fits [] n a' (Mr σ d u)->wpListIn (wr none) m P ops Q rest a' w') {a:Act} (ha:Fits [] n a σ):wpListIn (wr none) m P ops Q (o::rest) a w:=by
 obtain⟨fn,tmps,assign,body,hy1,hr⟩:=hy;simp only[wpListIn];have hw:Region.wanted o (yielded ops a.tmps)=true:=by simp only[Region.wanted,hg]
 rw[A7 hw];refine⟨λ_ _=>trivial,?_⟩;rw[Oper.semAt_eq _ _ _ hne,ha.eval,hx,hy1];refine⟨(λh=>by simp[wr,Fence.wide]at h),hr.mono ?_⟩;intro e w' he;obtain⟨u,rfl,h⟩:=hR e w' he;exact h _ (by rw[hd];exact ha.put hdn u)
def cnP(lv:List Nat)(co:List At)(q:Nat)(s:S):Option (Nat×S):=match s.cn lv co with|some s'=>some (q,s')|none=>none
def kC(lv:List Nat)(co:List At):K (Nat×S):=⟨cnP lv co 0,λid=>cnP lv co (id+2),cnP lv co 1⟩
theorem GZ{lv:List Nat}{co:List At}{q q':Nat}(h:cnP lv co q s=some (q',s')):q'=q/\s.cn lv co=some s':=by
 unfold cnP at h;split at h
 ·rename_i s2 hs;cases h;exact⟨rfl,hs⟩
 ·cases h
theorem rV{inl:fN (Nat×S)}(HI:P.follows .mixedOrders=true)(hT:Sk P T)(hI:Qi P T.gl inl){J:Reg->World->Prop}(hJ:∀V X Y,J V X->KeepN (λ_=>True) X Y->J (grown V X Y) Y)
  {c:Code} {an:An} {lv:List Nat} {co:List At} {q:Nat} (h:ex P T inl n c an (kC lv co) s=some (q,s')) (h1:s'.it=[]) {V:Reg} (hm:MemI T.gl V w s σ) (hj:J V w) {m:Nat} {a:Act} (ha:Fits [] n a σ):
  c.wpIn (wr none) m P (λe a' w'=>QI e=some q/\∃σ' V',Fits [] n a' σ'/\J V' w'/\MemI T.gl V' w' s' σ') a w:=by
 refine R5 (tQ (Z:=YH T.gl V w hm.gl) HI ⟨hT,rfl⟩ hI c h hm.rel none m [] a ha) ?_;rintro e a' w' ⟨σ',hf,s2,A',L',h2,hr⟩;have key:QI e=some q/\s2.cn lv co=some s':=by
  cases e with
  |normal=>obtain⟨rfl,h3⟩:=GZ h2;exact⟨rfl,h3⟩
  |ret=>obtain⟨rfl,h3⟩:=GZ h2;exact⟨rfl,h3⟩
  |exit id=>obtain⟨rfl,h3⟩:=GZ h2;exact⟨rfl,h3⟩
  |goto l=>cases h2
  |panic c=>cases h2
  |outgrown=>cases h2
 obtain⟨h3,h4⟩:=key;obtain⟨A2,L2,hr2⟩:=oB hr h4;obtain⟨g1,g2⟩:=hm.back hr2 h1;exact⟨h3,σ',_,hf,hJ _ _ _ hj g1,g2⟩
theorem sA{inl:fN (Nat×S)}(hT:Sk P T)(hI:Qi P T.gl inl){J:Reg->World->Prop}(hJ:∀V X Y,J V X->KeepN (λ_=>True) X Y->J (grown V X Y) Y){l l2:List Oper}(lv:List Nat)(hd:jG l=true)
  (h:SA P T inl n ops l s (cnP lv [] 0)=some (0,s')) (h1:s'.it=[]) {V:Reg} (hm:MemI T.gl V w s σ) (hj:J V w) {m:Nat} {a:Act} (ha:Fits [] n a σ) {Q:Exit->Act->World->Prop}
  (hk:∀σ' V' w' a',Fits [] n a' σ'->J V' w'->MemI T.gl V' w' s' σ'->wpListIn (wr none) m P ops Q l2 a' w'):wpListIn (wr none) m P ops Q (l++l2) a w:=by
 have h2:=R4 (Z:=YH T.gl V w hm.gl) (ops:=ops) ⟨hT,rfl⟩ hI hm.rel h;have h3:WL P n ops l (λσ' w'=>∃V',J V' w'/\MemI T.gl V' w' s' σ') σ w:=by
  refine GM h2 ?_;rintro σ' w' ⟨s2,A',L',g1,hr⟩;obtain⟨_,g2⟩:=GZ g1;obtain⟨A2,L2,hr2⟩:=oB hr g2;obtain⟨g3,g4⟩:=hm.back hr2 h1;exact⟨_,hJ _ _ _ hj g3,g4⟩
 exact KV (Y:=λa' w'=>∃σ',Fits [] n a' σ'/\∃V',J V' w'/\MemI T.gl V' w' s' σ') (λa' w' ⟨σ',g1,V',g2,g3⟩=>hk σ' V' w' a' g1 g2 g3) (mG (qM hd) (h3 [] a ha))
theorem MemI.set{gl:List (Nat×List Value)}{V:Reg}(h:MemI gl V w s σ){d:Nat}{p:PV}{v:Value}(hv:p.isV=true)(hp:Ef V w [] p v):MemI gl V w ⟨j? s.sl d p,[],[]⟩ (Mr σ d v):=
 ⟨h.lt,rfl,rfl,h.sl.set (.put hv hp),h.gl⟩
theorem MemI.round{gl:List (Nat×List Value)}{V:Reg}(h:MemI gl V w s σ)(hg:Gr w w')(hs:∀b,V b->w'.heap[b]? =w.heap[b]?):MemI gl V w' s σ:=
 h.keep (λ_ h=>h) (λb hb=>E5 (h.lt b hb) hg.le) hs hg
theorem MemI.val{gl:List (Nat×List Value)}{V:Reg}(h:MemI gl V w s σ){t:Nat}{p:PV}(hp:(t,p)∈s.sl)(hv:p.isV=true):Ef V w [] p (σ t):=(Gx.iff hv).1 (h.sl _ hp)
theorem iF{g x:Operand}{ts:Array TypeId}(ho:o.op= .call ⟨.value g, #[x],ts⟩) {l:Nat} (hg:ev σ g= .func (.yield l) #[] #[]) (hx:ev σ x=v):
  (execOp (ev σ) o).run P w=(Instr.yield l #[v]).run P w:=by
 obtain⟨d,op,ty,pos,after,gd⟩:=o;simp only at ho;subst ho;simp[execOp,resolve,invoke,hg,hx,go_sem]
theorem Ajr{F:Fence}{n:Nat}{P:Program}{Q:Exit->Act->World->Prop}{w:World}{c:Code}(m:Nat)(I:Nat->Act->World->Prop)(h0:∀a w,¬I 0 a w)
  (hs:∀q a w,I (q+1) a w->c.wpIn F n P (Exit.then (I q) Q) a w) (h:I m a w):(Code.loop c).wpIn F n P Q a w:=by
 refine wpIn_loop_rounds m ?_
 induction m generalizing a w with
 |zero=>exact absurd h (h0 a w)
 |succ m ih=>
  rw[roundsIn_succ];refine R5 (hs m a w h) λe a' w' hh=>?_;cases e<;>first|exact ih hh|exact hh
def cA:Code->Code| .seq a _=>a| .cond _ a _=>a| .block _ a=>a| .loop a=>a|c=>c
def cB:Code->Code| .seq _ b=>b| .cond _ _ b=>b|c=>c
def cO:Code->List Oper| .region _ ops _=>ops.toList|_=>[]
def fB(f:Func):Code:=match f.body with|some c=>c|none=> .skip
def oAt:List Oper->Nat->Oper
 |[],_=>⟨none, .move (.tmp 0),0, "", #[],none⟩
 |o::_,0=>o
 |_::l,q+1=>oAt l q
end Go.Rx
namespace Go.Rx
open Go Go.Lv Go.RowKit
variable {P:Program} {B V:Reg} {w w':World} {L L':List MD} {s s':S} {σs σs':List Env} {σ σ':Env} {Z:Fix} {A A':Reg} {n:Nat} {bs:List Nat} {gl:List (Nat×List Value)}
variable {R:Type} {r:R} {T:Tab}
def bSl:Nat->Nat->Slots|_,0=>[]|i,n+1=>(i, .ptr i [])::bSl (i+1) n
def XN(bs:List Nat):Env:=λi=>match bs[i]? with|some b=> .pointer (some ⟨b,0,none⟩)|none=> .bool false
def itB(n:Nat)(l:List Item):Bool:=Nat.beq l.length n&&l.all λa=>match a with| .box _ v=>BT v|_=>false
theorem zq:∀{i n j:Nat},j<n-> (i+j,PV.ptr (i+j) [])∈bSl i n
 |i,n+1,0,_=> .head _
 |i,n+1,j+1,h=>by
  have:=zq (i:=i+1) (n:=n) (j:=j) F0;rw[show i+(j+1)=i+1+j by omega];exact .tail _ this
theorem rI:∀{i n:Nat} {p:Nat×PV},p∈bSl i n->∃j,j<n/\p=(i+j,PV.ptr (i+j) [])
 |i,n+1,p,h=>by
  rcases List.mem_cons.1 h with rfl|h
  ·exact⟨0,F0,rfl⟩
  ·obtain⟨j,h1,h2⟩:=rI h;exact⟨j+1,F0,by rw[h2,show i+(j+1)=i+1+j by omega]⟩
structure BoxesI (V:Reg) (w:World) (bs:List Nat) (it:List Item) (L:List MD):Prop where
 li:it.length=bs.length
 ll:L.length=bs.length
 get:∀(i b:Nat),bs[i]? =some b-> ¬V b/\∃T v cells,it[i]? =some (.box T v)/\BT v=true/\L[i]? =some (.box b cells T)/\w.heap[b]? =some (.cells cells.toArray T (0,0))/\Ba V w [] v cells
 inj:∀(i j b:Nat),bs[i]? =some b->bs[j]? =some b->i=j
structure MemB (gl:List (Nat×List Value)) (bs:List Nat) (V:Reg) (w:World) (s:S) (σ:Env):Prop where
 lt:∀b,V b->b<w.heap.size
 it:∃L,BoxesI V w bs s.it L/\Fp V w L σ s.sl
 st:s.st=[bSl 0 bs.length]
 gl:GlOk gl V w
theorem BoxesI.lt{it:List Item}(h:BoxesI V w bs it L){b:Nat}(hb:b∈bs):b<w.heap.size/\ ¬V b:=by
 obtain⟨i,hi⟩:=List.mem_iff_getElem?.1 hb;obtain⟨h1,T,v,cells,_,_,_,h2,_⟩:=h.get i b hi;exact⟨lt_of_heap h2,h1⟩
def WR(gl:List (Nat×List Value))(bs:List Nat)(V:Reg)(w:World)(h:GlOk gl V w)(hb:∀b∈bs,¬V b):Fix where
 R b:=V b\/b∈bs\/w.heap.size<=b
 M b:=b∈bs
 w0:=w
 new _ hb:= .inr (.inr hb)
 mod _ h:= .inr (.inl h)
 gl:=gl
 glok p hp:=let⟨h1,h2,h3⟩:=h p hp;⟨.inl h2,λh=>hb _ h h2,h1,h3⟩
theorem MemB.nv(h:MemB gl bs V w s σ):∀b∈bs,¬V b:=λb hb=>let⟨L,h1,_⟩:=h.it;(h1.lt hb).2
theorem MemB.rel(h:MemB gl bs V w s σ):∃L,Rel (WR gl bs V w h.gl h.nv) s [XN bs] (λb=>b<w.heap.size/\b∉bs) L σ w:=by
 obtain⟨L,hb,hs⟩:=h.it;have hVA:∀b,V b-> (b<w.heap.size/\b∉bs)/\ (WR gl bs V w h.gl h.nv).R b:=λb hv=>⟨⟨h.lt b hv,λhm=>(hb.lt hm).2 hv⟩, .inl hv⟩;refine⟨L,Rel.mk3 (λb hb=>hb.1) ⟨⟨hb.li.trans hb.ll.symm,λi a m h1 h2=>?_⟩,hs.step hVA (λ_ _=>rfl) (.refl L),?_⟩ (.refl _) (λb hb hM=>⟨⟨hb,hM⟩,rfl⟩) ?_⟩
 ·have hi:i<bs.length:=by rw[<-hb.li];exact(List.getElem?_eq_some_iff.1 h1).1
  obtain⟨g1,T,v,cells,g2,g3,g4,g5,g6⟩:=hb.get i _ (C? hi);rw[g2]at h1;cases h1;rw[g4]at h2;cases h2;exact⟨rfl,mS g3 (Ba.step hVA (λ_ _=>rfl) (.refl []) g6)⟩
 ·rw[h.st];refine⟨λp hp=>?_,trivial⟩;obtain⟨j,h1,rfl⟩:=rI hp;obtain⟨g1,T,v,cells,g2,g3,g4,g5,g6⟩:=hb.get j _ (C? h1);rw[K1];refine⟨_,_,g4,rfl,?_⟩;simp only[XN,C? h1];rfl
 ·refine Cu.ofI (os:=λi=>bs[i]?) ⟨λi m hm=>?_,λi j b h1 h2 hij h3 h4=>hij (hb.inj i j b h3 h4)⟩;rw[V?]at hm;obtain⟨md,hm1,rfl⟩:=Option.map_eq_some_iff.1 hm;have hi:i<bs.length:=by rw[<-hb.ll];exact(List.getElem?_eq_some_iff.1 hm1).1
  obtain⟨g1,T,v,cells,g2,g3,g4,g5,g6⟩:=hb.get i _ (C? hi);rw[g4]at hm1;cases hm1;refine⟨⟨C? hi,g5⟩,λb hb'=>?_⟩;have hm:=UH hb';exact⟨λh=>h.2 hm,(hb.lt hm).1⟩
theorem MemB.back(h:MemB gl bs V w s σ){A':Reg}{L':List MD}(hr:Rel (WR gl bs V w h.gl h.nv) s' [XN bs] A' L' σ' w')(h1:itB bs.length s'.it=true)(h2:s'.st=[bSl 0 bs.length]):
  KeepN (λb=>b∉bs) w w'/\MemB gl bs (grown V w w') w' s' σ':=by
 have hk:KeepN (λb=>b∉bs) w w':=⟨λb hb hN=>(hr.old (Z:=WR gl bs V w h.gl h.nv) hb hN).2,hr.gr0 (Z:=WR gl bs V w h.gl h.nv)⟩;simp only[itB,A9]at h1;obtain⟨hlen,hall⟩:=h1;have hlen:=Bn hlen;have hm:=hr.mem;obtain⟨L,hb,_⟩:=h.it;have hnA:∀b∈bs,¬A' b:=λb hbm hA=>by
  obtain⟨i,hi⟩:=List.mem_iff_getElem?.1 hbm;have hil:i<bs.length:=(List.getElem?_eq_some_iff.1 hi).1;have nJ:=hm.stk;rw[h2]at nJ;obtain⟨md,b2,e1,e2,e3⟩:=(show∃md b2,L'[i]? =some md/\md.base=some b2/\ [XN bs i]=[.pointer (some ⟨b2,Au [],none⟩)]from by
   have:=nJ.1 _ (zq (i:=0) hil);rw[K1]at this;exact this)
  simp only[XN,hi,W9,n!,HN,oH]at e3;obtain rfl:b=b2:=e3.1.1;have hit:i<s'.it.length:=F0
  have hbx:=List.all_eq_true.1 hall _ (N5 hit);have hri:=hm.it.2 i _ md (C? hit) e1;split at hbx
  ·rename_i T v hv;rw[hv]at hri;cases md with
   |box b' cells T'=>
    cases e2;obtain⟨o,⟨rfl,_⟩,g2⟩:=Cu.Y5 (St.mobs hr) (hr.Ex e1);exact g2 _ rfl hA
   |dead=>exact hri.elim
   |own _ _ _ _=>exact hri.elim
  ·cases hbx
 have hVA:∀b,(A' b/\ (WR gl bs V w h.gl h.nv).R b)->grown V w w' b:=λb hb'=>by
  rcases hb'.2 with hv|hm'|hs
  ·exact .inl hv
  ·exact absurd hb'.1 (hnA b hm')
  ·exact .inr ⟨hs,St.lt hr b hb'.1⟩
 refine⟨hk,λb hb'=>hb'.elim (λh'=>E5 (h.lt b h') hk.gr.le) And.right,⟨L',⟨hlen,hm.it.1.symm.trans hlen,λi b hi=>?_,hb.inj⟩,hm.sl.step hVA (λ_ _=>rfl) (.refl L')⟩,h2,?_⟩
 ·have hil:i<bs.length:=(List.getElem?_eq_some_iff.1 hi).1;have hmem:=UH hi;refine⟨λhg=>hg.elim (h.nv b hmem) λhg=>by have:=(hb.lt hmem).1;omega,?_⟩;have hit:i<s'.it.length:=F0
  have hbx:=List.all_eq_true.1 hall _ (N5 hit);have hget:=C? hit;split at hbx
  ·rename_i T v hv;rw[hv]at hget;obtain⟨md,hmd⟩:∃md,L'[i]? =some md:=⟨_,C? (by rw[<-hm.it.1];exact hit)⟩;have hri:=hm.it.2 i _ md hget hmd;have nJ:=hm.stk;rw[h2]at nJ;obtain⟨md2,b2,e1,e2,e3⟩:=(show∃md b2,L'[i]? =some md/\md.base=some b2/\ [XN bs i]=[.pointer (some ⟨b2,Au [],none⟩)]from by
    have:=nJ.1 _ (zq (i:=0) hil);rw[K1]at this;exact this)
   rw[hmd]at e1;cases e1;simp only[XN,hi,W9,n!,HN,oH]at e3;obtain rfl:b=b2:=e3.1.1;cases md with
   |box b' cells T'=>
    cases e2;obtain⟨rfl,henc⟩:=(show T'=T/\ _ from hri);exact⟨T',v,cells,hget,hbx,hmd,St.box hr (hr.Ex hmd),mS hbx (Ba.step hVA (λ_ _=>rfl) (.refl L') henc)⟩
   |dead=>exact hri.elim
   |own _ _ _ _=>exact hri.elim
  ·cases hbx
 ·exact h.gl.keep (λb hb=> .inl hb) (λb hb'=>hk.same b (h.lt b hb') λhm=>h.nv b hm hb') hk.gr
theorem MemB.round(h:MemB gl bs V w s σ)(hg:Gr w w')(hs:∀b,(V b\/b∈bs)->w'.heap[b]? =w.heap[b]?):MemB gl bs V w' s σ:=by
 obtain⟨L,hb,hsl⟩:=h.it;have same:Same V w w':=λb hb=>hs b (.inl hb);refine⟨λb hb=>E5 (h.lt b hb) hg.le,⟨L,⟨hb.li,hb.ll,λi b hi=>?_,hb.inj⟩,hsl.step (λ_ h=>h) same (.refl L)⟩,h.st,h.gl.keep (λ_ h=>h) same hg⟩;obtain⟨g1,T,v,cells,g2,g3,g4,g5,g6⟩:=hb.get i b hi;exact⟨g1,T,v,cells,g2,g3,g4,(hs b (.inr (UH hi))).trans g5,Ba.step (λ_ h=>h) same (.refl []) g6⟩
theorem MemB.set(h:MemB gl bs V w s σ){d:Nat}{p:PV}{v:Value}(hv:p.isV=true)(hp:∀L,Ef V w L p v):MemB gl bs V w ⟨j? s.sl d p,s.it,s.st⟩ (Mr σ d v):=
 let⟨L,hb,hsl⟩:=h.it
 ⟨h.lt,⟨L,hb,hsl.set (.put hv (hp L))⟩,h.st,h.gl⟩
theorem MemB.val(h:MemB gl bs V w s σ){t:Nat}{p:PV}(hp:(t,p)∈s.sl)(hv:p.isV=true):∃L,Ef V w L p (σ t):=let⟨L,_,hsl⟩:=h.it;⟨L,(Gx.iff hv).1 (hsl _ hp)⟩
theorem MemB.oz(h:MemB gl bs V w s σ){sl:Slots}(hs:∀p∈sl,p∈s.sl):MemB gl bs V w ⟨sl,s.it,s.st⟩ σ:=
 let⟨L,hb,hsl⟩:=h.it
 ⟨h.lt,⟨L,hb,λp hp=>hsl p (hs p hp)⟩,h.st,h.gl⟩
theorem VW{inl:fN (Nat×S)}(HI:P.follows .mixedOrders=true)(hT:Sk P T)(hI:Qi P T.gl inl){J:Reg->World->Prop}(hJ:∀V X Y,J V X->KeepN (λb=>b∉bs) X Y->J (grown V X Y) Y)
  {c:Code} {an:An} {lv:List Nat} {co:List At} {q:Nat} (h:ex P T inl n c an (kC lv co) s=some (q,s')) (h1:itB bs.length s'.it=true) (h2:s'.st=[bSl 0 bs.length]) {V:Reg} (hm:MemB T.gl bs V w s σ) (hj:J V w) {m:Nat} {a:Act} (ha:Fits [] n a σ):
  c.wpIn (wr none) m P (λe a' w'=>QI e=some q/\∃σ' V',Fits [] n a' σ'/\J V' w'/\MemB T.gl bs V' w' s' σ') a w:=by
 obtain⟨L,hrel⟩:=hm.rel;refine R5 (tQ (Z:=WR T.gl bs V w hm.gl hm.nv) HI ⟨hT,rfl⟩ hI c h hrel none m [] a ha) ?_;rintro e a' w' ⟨σ',hf,s2,A',L',h3,hr⟩;have key:QI e=some q/\s2.cn lv co=some s':=by
  cases e with
  |normal=>obtain⟨rfl,h6⟩:=GZ h3;exact⟨rfl,h6⟩
  |ret=>obtain⟨rfl,h6⟩:=GZ h3;exact⟨rfl,h6⟩
  |exit id=>obtain⟨rfl,h6⟩:=GZ h3;exact⟨rfl,h6⟩
  |goto l=>cases h3
  |panic c=>cases h3
  |outgrown=>cases h3
 obtain⟨h4,h5⟩:=key;obtain⟨A2,L2,hr2⟩:=oB hr h5;obtain⟨g1,g2⟩:=hm.back hr2 h1 h2;exact⟨h4,σ',_,hf,hJ _ _ _ hj g1,g2⟩
theorem aZ{inl:fN (Nat×S)}(HI:P.follows .mixedOrders=true)(hT:Sk P T)(hI:Qi P T.gl inl){J:Reg->World->Prop}(hJ:∀V X Y,J V X->KeepN (λb=>b∉bs) X Y->J (grown V X Y) Y)
  {c d:Code} (an:An) (lv:List Nat) (co:List At) (h:ex P T inl n c an (kC lv co) s=some (0,s')) (h1:itB bs.length s'.it=true) (h2:s'.st=[bSl 0 bs.length]) {V:Reg} (hm:MemB T.gl bs V w s σ) (hj:J V w) {m:Nat} {a:Act} (ha:Fits [] n a σ) {Q:Exit->Act->World->Prop}
  (hk:∀σ' V' w' a',Fits [] n a' σ'->J V' w'->MemB T.gl bs V' w' s' σ'->d.wpIn (wr none) m P Q a' w'):(Code.seq c d).wpIn (wr none) m P Q a w:=by
 refine wpIn_seq (R5 (VW HI hT hI hJ h h1 h2 hm hj ha) ?_);rintro e a' w' ⟨he,σ',V',h2,h3,h4⟩;cases e with
 |normal=>exact hk σ' V' w' a' h2 h3 h4
 |ret=>simp[QI]at he
 |exit id=>simp[QI]at he
 |goto l=>cases he
 |panic c=>cases he
 |outgrown=>cases he
theorem tU{inl:fN (Nat×S)}(hT:Sk P T)(hI:Qi P T.gl inl){J:Reg->World->Prop}(hJ:∀V X Y,J V X->KeepN (λb=>b∉bs) X Y->J (grown V X Y) Y){ops:Array Oper}{l l2:List Oper}(lv:List Nat)(hd:jG l=true)
  (h:SA P T inl n ops l s (cnP lv [] 0)=some (0,s')) (h1:itB bs.length s'.it=true) (h2:s'.st=[bSl 0 bs.length]) {V:Reg} (hm:MemB T.gl bs V w s σ) (hj:J V w) {m:Nat} {a:Act} (ha:Fits [] n a σ) {Q:Exit->Act->World->Prop}
  (hk:∀σ' V' w' a',Fits [] n a' σ'->J V' w'->MemB T.gl bs V' w' s' σ'->wpListIn (wr none) m P ops Q l2 a' w'):wpListIn (wr none) m P ops Q (l++l2) a w:=by
 obtain⟨L,hrel⟩:=hm.rel;have h3:=R4 (Z:=WR T.gl bs V w hm.gl hm.nv) (ops:=ops) ⟨hT,rfl⟩ hI hrel h;have h4:WL P n ops l (λσ' w'=>∃V',J V' w'/\MemB T.gl bs V' w' s' σ') σ w:=by
  refine GM h3 ?_;rintro σ' w' ⟨s2,A',L',g1,hr⟩;obtain⟨_,g2⟩:=GZ g1;obtain⟨A2,L2,hr2⟩:=oB hr g2;obtain⟨g3,g4⟩:=hm.back hr2 h1 h2;exact⟨_,hJ _ _ _ hj g3,g4⟩
 exact KV (Y:=λa' w'=>∃σ',Fits [] n a' σ'/\∃V',J V' w'/\MemB T.gl bs V' w' s' σ') (λa' w' ⟨σ',g1,V',g2,g3⟩=>hk σ' V' w' a' g1 g2 g3) (mG (qM hd) (h4 [] a ha))
theorem Aaw{Ts:List TypeId}{vs:List PV}(hlt:∀b,B b->b<w.heap.size)(hgl:GlOk gl B w)(hb:Boxes true B w Ts bs vs)(hp:∀v∈vs,BT v=true):∃L it,BoxesI B w bs it L/\it=(Ts.zip vs).map (λp=>Item.box p.1 p.2):=by
 induction hb with
 |nil=>exact⟨[],[],⟨rfl,rfl,λi b h=>by simp at h,λi j b h=>by simp at h⟩,rfl⟩
 |cons h1 h2 h3 h4 h5 h6 ih=>
  rename_i T b v Ts bs vs cells;obtain⟨L,it,hi,rfl⟩:=ih λv hv=>hp v (.tail _ hv);refine⟨.box b cells T::L,_,⟨by simpa using hi.li,by simpa using hi.ll,λi c hc=>?_,λi j c hi' hj'=>?_⟩,rfl⟩
  ·cases i with
   |zero=>
    simp at hc;subst hc;exact⟨h4 rfl,T,v,cells,rfl,hp v (.head _),rfl,h1,h2⟩
   |succ i=>exact hi.get i c (by simpa using hc)
  ·cases i with
   |zero=>
    simp at hi';subst hi';cases j with
    |zero=>rfl
    |succ j=>exact absurd (UH (by simpa using hj')) h5
   |succ i=>
    cases j with
    |zero=>
     simp at hj';subst hj';exact absurd (UH (by simpa using hi')) h5
    |succ j=>exact congrArg (· +1) (hi.inj i j c (by simpa using hi') (by simpa using hj'))
theorem L7{o:Bool}{Ts:List TypeId}{vs:List PV}(hB:∀k,B k->k<w.heap.size)(hk:KeepN (λ_=>True) w w')(hb:Boxes o B w Ts bs vs)(hlt:∀k∈bs,k<w.heap.size):Boxes o B w' Ts bs vs:=by
 induction hb with
 |nil=>exact .nil
 |cons h1 h2 h3 h4 h5 h6 ih=>exact .cons ((hk.same _ (hlt _ (.head _)) trivial).trans h1) (Ba.step (λ_ h=>h) (λk hk'=>hk.same k (hB k hk') trivial) (.refl []) h2) h3 h4 h5 (ih λk hk'=>hlt k (.tail _ hk'))
def kG:Nat->Nat->Slots|_,0=>[]|i,n+1=>(i+1, .ptr i [])::kG (i+1) n
theorem D? :∀{i n:Nat} {p:Nat×PV},p∈kG i n->∃j,j<n/\p=(i+j+1,PV.ptr (i+j) [])
 |i,n+1,p,h=>by
  rcases List.mem_cons.1 h with rfl|h
  ·exact⟨0,F0,rfl⟩
  ·obtain⟨j,h1,h2⟩:=D? h;exact⟨j+1,F0,by rw[h2,show i+(j+1)=i+1+j by omega]⟩
theorem S3{it:List Item}{y:Value}(hy:y.oneCell'=true)(hlt:∀b,B b->b<w.heap.size)(hgl:GlOk gl B w)(hb:BoxesI B w bs it L):MemB gl bs B w ⟨(0, .cst y)::kG 0 bs.length,it,[bSl 0 bs.length]⟩ (QW (y::bs.map λb=> .pointer (some ⟨b,0,none⟩))):=by
 refine⟨hlt,⟨L,hb,λp hp=>?_⟩,rfl,hgl⟩;rcases List.mem_cons.1 hp with rfl|hp
 ·exact(show _/\ _ from⟨rfl,hy⟩)
 ·obtain⟨j,h1,rfl⟩:=D? hp;rw[K1];obtain⟨g1,T,v,cells,g2,g3,g4,g5,g6⟩:=hb.get j _ (C? h1);refine⟨_,_,g4,rfl,?_⟩;simp[QW,Au,h1]
end Go.Rx
namespace Go.Rx
open Go Go.Lv Go.RowKit
variable{TD:TypeId}
variable {P:Program} {B:Reg} {w w':World} {L L':List MD} {s s':S} {σs σs':List Env} {σ σ':Env} {Z:Fix} {A A':Reg} {n:Nat} {T:Tab}
class Ev where
 ev:Nat->Value
 ok:∀k,ev k= .nilIface\/∃te pe,ev k= .iface te pe
abbrev aP:=List UInt8
def XJ(P:Program)(TD:TypeId)(res:List ResultVar)(s:S):Option (aP×aP×aP):=
 match s.st with
 |[sl]=>match Yp sl 0 with
  | .ptr i []=>match Cs s.it i with
   | .box T (.agg [v, .val .str p])=>match pL P s res with
    |some [.val .str o]=>match R2 s (.int .u8) v with
     |some l=>Cp (Nat.beq T TD) (some (o,l,p)) none
     |none=>none
    |_=>none
   |_=>none
  |_=>none
 |_=>none
def d!(TD:TypeId)(file pw line:aP):S:=⟨[(0, .ptr 0 []),(1, .val .str line)],[.box TD (.agg [.val (.list (.int .u8)) file, .val .str pw])],[[(0, .ptr 0 [])]]⟩
def H_(B:Reg)(TD:TypeId)(b:Nat)(file pw:aP)(w:World):Prop:=∃fv,w.heap[b]? =some (.cells #[fv,sv pw] TD (0,0))/\Ax B w (.list (.int .u8)) file [fv]
def jh(P:Program)(gl:List (Nat×List Value))(f:Nat)(TD:TypeId)(F:aP->aP->aP->Option (aP×aP×aP)):Prop:=∀(B:Reg) (w:World) (b:Nat) (file pw line:aP) (y:aP×aP×aP),(∀k,B k->k≠b/\k<w.heap.size)->GlOk gl B w->H_ B TD b file pw w->F file pw line=some y->
 Calls P f #[.pointer (some ⟨b,0,none⟩),sv line] w λe w'=>e= .returned (sv y.1)/\H_ (λk=>B k\/ (w.heap.size<=k/\k<w'.heap.size)) TD b y.2.1 y.2.2 w'/\KeepN (λk=>k≠b) w w'
theorem Bfo(HI:P.follows .mixedOrders=true){f:Nat}{fn:Func}{c:Code}{VK:List (Nat×An)}{its:List (Nat×ItC)}{an:An}{F:aP->aP->aP->Option (aP×aP×aP)}(hf:P.funcs[f]? =some fn)(hc:fn.body=some c)(hT:Sk P T)(hA:∀p∈VK,AnE P p)
  (hits:∀p∈its,ItOk P T.gl p.1 p.2) (hle:Nat.ble 2 fn.ntmps=true) (h:∀file pw line,exF P T (Xp P T 8 VK) fn.ntmps its c an {n:=XJ P TD fn.results.toList,x:=λ_ _=>none,r:=XJ P TD fn.results.toList} (d! TD file pw line)=F file pw line):jh P T.gl f TD F:=by
 rintro B w b file pw line y hB hgl ⟨fv,hb,hfv⟩ hy;rw[<-h]at hy;have hlt:=lt_of_heap hb
 let Z:Fix:=⟨λk=>B k\/k=b\/w.heap.size<=k,λk=>k=b,w,λ_ h=> .inr (.inr h),λ_ h=> .inr (.inl h),T.gl,λp hp=>⟨.inl (hgl p hp).2.1,(hB _ (hgl p hp).2.1).1,(hgl p hp).1,(hgl p hp).2.2⟩⟩
 have henc:∀{B':Reg},(∀k,B k->B' k)->Ba.go B' w [.box b [fv,sv pw] TD] [.val (.list (.int .u8)) file, .val .str pw] [fv,sv pw]:=λ{B'} hB=>
  ⟨[fv],[sv pw],rfl,Ax.step hB (λ_ _=>rfl) hfv,[sv pw],[],rfl,rfl,rfl⟩
 have hr:Rel Z (d! TD file pw line) [λ_=> .pointer (some ⟨b,0,none⟩)] (λk=>k<w.heap.size/\k≠b) [.box b [fv,sv pw] TD] (QW [.pointer (some ⟨b,0,none⟩),sv line]) w:=by
  refine Rel.mk3 (λk hk=>hk.1) ⟨⟨rfl,λi a m h1 h2=>?_⟩,λp hp=>?_,λp hp=>?_,trivial⟩ (.refl _) (λk hk hM=>⟨⟨hk,hM⟩,rfl⟩) ⟨some b,⟨rfl,hb⟩,λk hk=>by cases hk;exact⟨λh=>h.2 rfl,hlt⟩,trivial⟩
  ·cases i with
   |zero=>cases h1;cases h2;exact⟨rfl,henc λk hk=>⟨⟨(hB k hk).2,(hB k hk).1⟩, .inl hk⟩⟩
   |succ i=>simp[d!]at h1
  ·rcases List.mem_cons.1 hp with rfl|hp
   ·exact⟨_,b,rfl,rfl,rfl⟩
   ·rcases List.mem_cons.1 hp with rfl|hp
    ·exact(show [_]=[_]from rfl)
    ·cases hp
  ·rcases List.mem_cons.1 hp with rfl|hp
   ·exact⟨_,b,rfl,rfl,rfl⟩
   ·cases hp
 have e0:(#[.pointer (some ⟨b,0,none⟩),sv line]:Array Value)=[.pointer (some ⟨b,0,none⟩),sv line].toArray:=rfl;rw[e0];refine(callsIn_wide (n:=4)).1 (callsIn_of_wp_marks hf hc trivial (R5 (vW HI (Z:=Z) ⟨hT,rfl⟩ (RV HI hT hA 8) hits c hy hr 4 _ (cZ hle)) ?_) rfl);rintro e a' w' ⟨σ',D,hf',s',A',L',h1,hr',hD⟩;have fin:∀w',Rel Z s' [λ_=> .pointer (some ⟨b,0,none⟩)] A' L' σ' w'->XJ P TD fn.results.toList s'=some y->∃us,bA P σ' w' fn.results.toList us/\ (Ending.returned (GB us)= .returned (sv y.1)/\H_ (λk=>B k\/ (w.heap.size<=k/\k<w'.heap.size)) TD b y.2.1 y.2.2 w'/\KeepN (λk=>k≠b) w w'):=by
  intro w' hr' h1;unfold XJ at h1;split at h1
  case h_2=>cases h1
  rename_i sl hst;split at h1
  case h_2=>cases h1
  rename_i i hsl;split at h1
  case h_2=>cases h1
  rename_i T' v p hi;split at h1
  case h_2=>cases h1
  rename_i o hres;split at h1
  case h_2=>cases h1
  rename_i l hel;have hh:=Aq h1;clear h1;obtain⟨hT',h1⟩:=hh;cases h1;obtain rfl:=Bn hT';have hm:=hr'.mem;obtain⟨b',cells,hL,henc⟩:=hm.box hi;have hbb:b'=b:=by
   have nJ:=hm.stk;rw[hst]at nJ;have:=Mu (s:=⟨sl,[],[]⟩) (t:=0) nJ.1;rw[hsl]at this;obtain⟨md,b2,e1,e2,e3⟩:=(show∃md b2,L'[i]? =some md/\md.base=some b2/\ [Value.pointer (some ⟨b,0,none⟩)]=[.pointer (some ⟨b2,Au [],none⟩)]from this);rw[hL]at e1;cases e1;cases e2;simp only[W9,n!,HN,oH]at e3;exact e3.1.1.symm
  subst hbb;obtain⟨us,g1,g2⟩:=lS hr' hres;obtain⟨u,_,rfl,g3,rfl⟩:=g2;obtain rfl:u=sv o:=by cases(show [u]=[sv o]from g3);rfl
  obtain⟨c1,c2',hcl,k1,c2,_,rfl,k2,rfl⟩:=(show Ba.go (λb=>A' b/\Z.R b) w' L' [v, .val .str p] cells from henc);obtain rfl:c2=[sv p]:=k2;rw[F_]at hcl;obtain⟨q1,qA,q2⟩:=Anj hel;have hlen:=k1.len;rw[q2]at hlen;obtain⟨fv',rfl⟩:∃u,c1=[u]:=by match c1,hlen with|[u],_=>exact⟨u,rfl⟩
  subst hcl;have hbk:=St.box hr' (hr'.Ex hL);have hnb:∀k,A' k->k≠b':=λk hk e=>by
   obtain⟨ow,⟨rfl,_⟩,h3⟩:=Cu.Y5 (St.mobs hr') (hr'.Ex hL);exact h3 b' rfl (e▸hk)
  have hval:Ef (λb=>A' b/\Z.R b) w' L' v fv':=(cM k1.lU).2 (by unfold Ga;rw[qA];exact k1);obtain⟨c0,q3,q4⟩:=VV hm q1 hval;have zE:∀k,A' k/\Z.R k->B k\/ (w.heap.size<=k/\k<w'.heap.size):=λk hk=>by
   rcases hk.2 with h|h|h
   ·exact .inl h
   ·exact absurd h (hnb k hk.1)
   ·exact .inr ⟨h,St.lt hr' k hk.1⟩
  refine⟨_,g1,rfl,⟨fv',hbk,fv',c0,rfl,?_,q3.mono λx c h=>Ax.step zE (λ_ _=>rfl) h⟩,⟨λk hk hne=>(hr'.old (Z:=Z) hk hne).2,hr'.gr0 (Z:=Z)⟩⟩;rcases q4 with q4|⟨j,E,u,cs,hj,q4,hpart⟩
  ·exact q4.step zE (λ_ _=>rfl)
  ·refine hpart _ _ ?_;have hji:i≠j:=λe=>by subst e;rw[hL]at q4;cases q4
   obtain⟨_,ow,⟨rfl,_⟩,_,h4⟩:=P3 hr' hL;obtain⟨o2,g5,g6⟩:=Cu.Y5 h4 (i:=j) (m:=(MD.own (ET.int .u8).size E u cs).Ex) (by rw[V?,SZ hji,q4];rfl);refine(Go.Lv.Pf g5).step (λk hk=>?_) (λ_ _=>rfl);subst hk;obtain⟨arr,T2,fr,e2⟩:=Ah6 (md:= .own (ET.int .u8).size E u cs) g5;have hkb:k≠b':=λe=>g6 k rfl (.inr (by rw[e]));rcases VE k w.heap.size with hlt'|hge
   ·exact absurd (hr'.old (Z:=Z) hlt' hkb).1 λh=>g6 k rfl (.inl h)
   ·exact .inr ⟨hge,lt_of_heap e2⟩
 have key:XJ P TD fn.results.toList s'=some y->LeavesInM (wr none) 4 P fn a'.tmps (λe w'=>e= .returned (sv y.1)/\H_ (λk=>B k\/ (w.heap.size<=k/\k<w'.heap.size)) TD b y.2.1 y.2.2 w'/\KeepN (λk=>k≠b) w w') a'.defers .returning w':=by
  intro h1;rw[hf'.defers];cases D with
  |none=>
   obtain⟨us,h2,h3⟩:=fin w' hr' h1;exact⟨_,Zv F8 hf' h2,h3⟩
  |some d=>
   obtain⟨g1,g2,g3⟩:=hD d rfl;obtain⟨us,h2,h3⟩:=fin _ (hr'.row (o':= .deferred none) g2 g1 rfl) h1;exact⟨F8, .inl ⟨d,_,rfl,run_takeDeferred g1,_,Zv F8 hf' h2,h3⟩⟩
 cases e with
 |normal=>exact key h1
 |ret=>exact key h1
 |exit id=>cases h1
 |goto l=>cases h1
 |panic c=>cases h1
 |outgrown=>cases h1
structure Hp (R:Type)where
 T:Tab
 s:List (Nat×An)
 p:Pt R
noncomputable def Hp.e{R:Type}(P:Program)(H:Hp R)(l:List (PS R))(s:S):Option R:=(Pt.at P H.T H.s H.p l).e P H.T H.s s
noncomputable def Hp.i{R:Type}(P:Program)(H:Hp R)(l:List (PS R))(q:Nat)(s:S):Option R:=(Pt.at P H.T H.s H.p l).it P H.T H.s q s
def ji{R:Type}(TD:TypeId)(F:aP->aP->aP->Option (aP×aP×aP))(as:List PV)(s:S)(k:S->PV->Option R):Option R:=
 match as with
 |[.ptr i [], .val .str line]=>match Cs s.it i with
  | .box T (.agg [.val (.list (.int .u8)) file, .val .str pw])=>Cp (Nat.beq T TD) (Option.bind (F file pw line) λy=>k (s.Mr i (.box T (.agg [.val (.list (.int .u8)) y.2.1, .val .str y.2.2]))) (.val .str y.1)) none
  |_=>none
 |_=>none
def lJ{R:Type}(g:Nat)(TD:TypeId)(F:aP->aP->aP->Option (aP×aP×aP))(inl:fN R):fN R:=λf as s k=>Cp (Nat.beq f g) (ji TD F as s k) (inl f as s k)
variable {R:Type}
theorem Aqt{gl:List (Nat×List Value)}{g:Nat}{F:aP->aP->aP->Option (aP×aP×aP)}{inl:fN R}(hI:Qi P gl inl)(hE:Ent P g)(hB:jh P gl g TD F):Qi P gl (lJ g TD F inl):=by
 intro Z hZ f as s k r σs A L σ w vs h hr ha;unfold lJ at h;cases hfg:Nat.beq f g with
 |false=>rw[hfg]at h;exact hI Z hZ f as s k r σs A L σ w vs h hr ha
 |true=>
  rw[hfg]at h;obtain rfl:=Bn hfg;refine⟨hE,?_⟩
  replace h:ji TD F as s k=some r:=h
  unfold ji at h;split at h
  case h_2=>cases h
  rename_i i line;split at h
  case h_2=>cases h
  rename_i T file pw hi;have hh:=Aq h;clear h;obtain⟨hT,h⟩:=hh;obtain rfl:=Bn hT;obtain⟨y,hF,h⟩:=Go.Lv.bind_some h;obtain⟨b,cells,hL,henc⟩:=hr.mem.box hi;have hbk:=St.box hr (hr.Ex hL);obtain⟨v0,_,rfl,hp0,v1,_,rfl,hp1,rfl⟩:=ha;have hv0:v0= .pointer (some ⟨b,0,none⟩):=by
   obtain⟨md,b',e1,e2,e3⟩:=(show Ba (λb=>A b/\Z.R b) w L (.ptr i []) [v0]from hp0);rw[hL]at e1;cases e1;cases e2;simpa [Au]using e3
  subst hv0;obtain rfl:v1=sv line:=by cases(show [v1]=[sv line]from hp1);rfl
  obtain⟨c1,c2',hcl,k1,c2,_,rfl,k2,rfl⟩:=(show Ba.go (λb=>A b/\Z.R b) w L [.val (.list (.int .u8)) file, .val .str pw] cells from henc);obtain rfl:c2=[sv pw]:=k2;rw[F_]at hcl;obtain⟨fv,c0,rfl,k3,k4⟩:=(show∃v c0,c1=[v]/\Rd (λb=>A b/\Z.R b) w (ET.int .u8).size v c0/\Cj (Ax (λb=>A b/\Z.R b) w (.int .u8)) file c0 from k1);subst hcl;obtain⟨o1,⟨rfl,_⟩,h2,h3⟩:=(St.front hr (hr.Ex hL)).mobs;have hnb:∀k,A k->k≠b:=λk hk e=>(h2 b rfl).1 (e▸hk);have hlt:=(h2 b rfl).2;refine(hB (λk=>A k/\Z.R k) w b file pw line y (λk hk=>⟨hnb k hk.1,St.lt hr k hk.1⟩) (λq hq=>by
   rw[<-hZ]at hq;obtain⟨g1,T1,fr,g2⟩:=hr.V! hq;exact⟨lt_of_heap g2,g1,T1,fr,g2⟩) ⟨fv,hbk,fv,c0,rfl,k3,k4⟩ hF).mono ?_
  rintro e w' ⟨rfl,⟨fv',hb',hf'⟩,hk⟩;have hg:=hk.gr;have same:∀k,A k->w'.heap[k]? =w.heap[k]? :=λk hk'=>hk.same k (St.lt hr k hk') (hnb k hk');have hle:RI L (L.set i (.box b [fv',sv y.2.2] T)):=RI.set hL (λs E v c e=>by cases e) (λb' e=>e);have hm:=hr.mem;have hi':=(List.getElem?_eq_some_iff.1 hL).1;refine⟨_,_,_,λk=>A k\/ (w.heap.size<=k/\k<w'.heap.size),L.set i (.box b [fv',sv y.2.2] T),rfl,h,Rel.mk3 (λk hk'=>hk'.elim (λh=>E5 (St.lt hr k h) hg.le) And.right) ⟨⟨?_,λj a md h1 h2'=>?_⟩,hm.sl.step (λk h=>⟨.inl h.1,h.2⟩) (λk hk=>same k hk.1) hle,hm.stk.step (λk h=>⟨.inl h.1,h.2⟩) (λk hk=>same k hk.1) hle⟩ (hr.gr0.trans hg) (λk hk' hM=>?_) ?_,rfl,rfl⟩
  ·simp[S.Mr,LG,hm.it.1]
  ·simp only[S.Mr]at h1;rcases LA h1 with⟨rfl,rfl⟩|⟨h3',h4⟩
   ·rw[U2 hi']at h2';cases h2';exact⟨rfl,[fv'],[sv y.2.2],rfl,Ax.step (λk hk'=>hk'.elim (λh=>⟨.inl h.1,h.2⟩) λh=>⟨.inr h,Z.new k (Xm hr.gr0.le h.1)⟩) (λ_ _=>rfl) hf',[sv y.2.2],[],rfl,rfl,rfl⟩
   ·rw[SZ (S? h3')]at h2';exact(hm.it.2 j a md h4 h2').step (λk h=>⟨.inl h.1,h.2⟩) (λk hk=>same k hk.1) hle
  ·obtain⟨g1,g2⟩:=hr.old hk' hM;exact⟨.inl g1,(same k g1).trans g2⟩
  ·have h4:Cu w' (λk=>(A k\/some b=some k)\/w.heap.size<=k) ((L.map MD.Ex).eraseIdx i):=h3.lt.step hg.le λk hk' hn=>hk.same k hk' λe=>hn (.inl (.inr (by rw[e])));have h5:Cu w' (λk=>A k\/ (w.heap.size<=k/\k<w'.heap.size)) ((MD.box b [fv',sv y.2.2] T).Ex::(L.map MD.Ex).eraseIdx i):=by
    refine⟨some b,⟨rfl,hb'⟩,λk hk'=>⟨λh=>?_,?_⟩,h4.Ii λk hk'=>?_⟩
    ·cases hk';rcases h with h|h
     ·exact hnb _ h rfl
     ·omega
    ·cases hk';exact E5 hlt hg.le
    ·rcases hk' with(h|h)|h
     ·exact .inl (.inl h)
     ·exact .inr h.1
     ·exact .inl (.inr h)
   rw[VR];exact h5.perm (Ws (hr.Ex hL))
end Go.Rx
