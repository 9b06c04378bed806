/- A part of a proof (see the text that ends in Proof). No conditions. -/
import Derived.Test.YtjjpijoihenabaaGreatDoorOnBB
import Derived.LoopIn
set_option linter.unusedVariables false
set_option linter.unusedSimpArgs false
namespace Go.Rx
open Go Go.Lv Go.RowKit
variable{a:Act}{ops:Array Oper}{o:Oper}{v:Value}
variable {P:Program} {B:Reg} {w w':World} {L L':List MD} {s s':S} {σs σs':List Env} {σ σ':Env} {Z:Fix} {A A':Reg} {n:Nat}
variable {R:Type} {r:R} {T:Tab}
def zX:Exit->Option Nat| .normal=>some 0| .exit id=>some (id+2)| .ret=>some 1|_=>none
structure MemI (gl:List (Nat×List Value)) (V:Reg) (w:World) (s:S) (σ:Env):Prop where
 lt:∀b,V b->b<w.heap.size
 it:s.it=[]
 st:s.st=[]
 sl:Ie V w [] σ s.sl
 gl:GlOk gl V w
theorem GlOk.keep{gl:List (Nat×List Value)}{V V':Reg}(h:GlOk gl V w)(hV:∀b,V b->V' b)(hs:Same V w w')(hg:Gr w w'):GlOk gl V' w':=λp hp=>
 let⟨h1,h2,T,fr,h3⟩:=h p hp
 ⟨HJ h1 hg.le,hV _ h2,T,fr,(hs _ h2).trans h3⟩
theorem MemI.keep{gl:List (Nat×List Value)}{V V':Reg}(h:MemI gl V w s σ)(hV:∀b,V b->V' b)(hl:∀b,V' b->b<w'.heap.size)(hs:Same V w w')(hg:Gr w w'):MemI gl V' w' s σ:=
 ⟨hl,h.it,h.st,h.sl.step hV hs (.refl []),h.gl.keep hV hs hg⟩
theorem MemI.Y?{gl:List (Nat×List Value)}{V:Reg}(h:MemI gl V w s σ){sl:Slots}(hs:∀p∈sl,p∈s.sl):MemI gl V w ⟨sl,[],[]⟩ σ:=
 ⟨h.lt,rfl,rfl,λp hp=>h.sl p (hs p hp),h.gl⟩
def V_(gl:List (Nat×List Value))(V:Reg)(w:World)(h:GlOk gl V w):Fix where
 R b:=V b\/w.heap.size<=b
 M _:=False
 w0:=w
 new _ hb:= .inr hb
 mod _ h:=h.elim
 gl:=gl
 glok p hp:=let⟨h1,h2,h3⟩:=h p hp;⟨.inl h2,id,h1,h3⟩
theorem MemI.rel{gl:List (Nat×List Value)}{V:Reg}(h:MemI gl V w s σ):Rel (V_ gl V w h.gl) s [] (λb=>b<w.heap.size) [] σ w:=by
 refine Rel.mk3 (λb hb=>hb) ⟨⟨by rw[h.it];rfl,λi a m h1=>by rw[h.it]at h1;simp at h1⟩,h.sl.step (λb hb=>⟨h.lt b hb, .inl hb⟩) (λ_ _=>rfl) (.refl []),?_⟩ (.refl _) (λb hb _=>⟨hb,rfl⟩) trivial;rw[h.st];trivial
def grown(V:Reg)(w w':World):Reg:=λb=>V b\/ (w.heap.size<=b/\b<w'.heap.size)
theorem MemI.back{gl:List (Nat×List Value)}{V:Reg}(h:MemI gl V w s σ){A':Reg}{L':List MD}(hr:Rel (V_ gl V w h.gl) s' [] A' L' σ' w')(h1:s'.it=[]):
  KeepN (λ_=>True) w w'/\MemI gl (grown V w w') w' s' σ':=by
 have hk:KeepN (λ_=>True) w w':=⟨λb hb _=>(hr.old (Z:=V_ gl V w h.gl) hb id).2,hr.gr0 (Z:=V_ gl V w h.gl)⟩;have hL:L'=[]:=by
  have:=hr.mem.it.1;rw[h1]at this;exact LJ this.symm
 subst hL;refine⟨hk,λb hb=>hb.elim (λh'=>HJ (h.lt b h') hk.gr.le) And.right,h1,?_,hr.mem.sl.step (λb hb=>hb.2.elim .inl λh=> .inr ⟨h,St.lt hr b hb.1⟩) (λ_ _=>rfl) (.refl []),?_⟩
 ·have:=hr.mem.stk;cases hst:s'.st with
  |nil=>rfl
  |cons a l=>rw[hst]at this;exact this.elim
 ·exact h.gl.keep (λb hb=> .inl hb) (λb hb=>hk.same b (h.lt b hb) trivial) hk.gr
theorem Av9{m:Nat}{next next':Act->World->Prop}{Y:Act->World->Prop}{Q:Exit->Act->World->Prop}{x:Result Next}(hn:∀a w,next a w->next' a w)
  (h:o.uponIn (wr none) m P a next (Nrm Y) x):o.uponIn (wr none) m P a next' Q x:=by
 cases x with
 |ok x w'=>
  cases x with
  |value v=>exact hn _ _ h
  |skip=>exact hn _ _ h
  |defer d=>exact hn _ _ h
  |enter f args=>
   refine⟨h.1,h.2.mono ?_⟩;intro e w'' hh;cases e with
   |returned v=>exact hn _ _ hh
   |panicked c=>exact absurd hh.1 B7
   |outgrown=>exact(hH hh).elim
  |row row args=>exact⟨h.1,h.2.mono λv w'' hh=>hn _ _ hh⟩
  |round l f t b c=>
   refine⟨h.1,h.2.mono ?_⟩;intro e w'' hh;cases e with
   |returned v=>exact hn _ _ hh
   |panicked c=>exact absurd hh.1 B7
   |outgrown=>exact(hH hh).elim
  |_=>exact h.elim
 |halt x w'=>
  cases x with
  |panic v=>exact absurd h.1 B7
  |_=>exact h.elim
theorem lS{m:Nat}{ops:Array Oper}{Y:Act->World->Prop}{Q:Exit->Act->World->Prop}{l2:List Oper}(h2:∀a w,Y a w->wpListIn (wr none) m P ops Q l2 a w):∀{l1:List Oper} {a:Act} {w:World},
  wpListIn (wr none) m P ops (Nrm Y) l1 a w->wpListIn (wr none) m P ops Q (l1++l2) a w
 |[],a,w,h=>h2 a w h.2
 |o::l1,a,w,h=>by
  simp only[wpListIn,MS]at h⊢;split
  ·rename_i hw;rw[B0 hw]at h;exact⟨h.1,Av9 (λa w h=>lS h2 h) h.2⟩
  ·rename_i hw;rw[B! hw]at h;exact⟨h.1,lS h2 h.2⟩
theorem Avt{m:Nat}{Q:Exit->Act->World->Prop}{rest:List Oper}{d:Nat}(hg:o.guard=none)(hd:o.dst=some d)(hdn:Nat.blt d n=true)(hne:∀c,o.op≠ .defer c){l:Nat}
  (hx:(execOp (ev σ) o).run P w=(Instr.yield l #[v]).run P w) {RR:Ending->World->Prop} (hy:YieldAt (wr none) (m-1) P l #[v] w RR)
  (hR:∀e w',RR e w'->∃u,e= .returned u/\∀a',Fits [] n a' (Xz σ d u)->wpListIn (wr none) m P ops Q rest a' w') {a:Act} (ha:Fits [] n a σ):wpListIn (wr none) m P ops Q (o::rest) a w:=by
 obtain⟨fn,tmps,assign,body,hy1,hr⟩:=hy;simp only[wpListIn];have hw:Region.wanted o (yielded ops a.tmps)=true:=by simp only[Region.wanted,hg]
 rw[B0 hw];refine⟨λ_ _=>trivial,?_⟩;rw[Oper.semAt_eq _ _ _ hne,ha.eval,hx,hy1];refine⟨(λh=>by simp[wr,Fence.wide]at h),hr.mono ?_⟩;intro e w' he;obtain⟨u,rfl,h⟩:=hR e w' he;exact h _ (by rw[hd];exact ha.put hdn u)
def cnP(lv:List Nat)(co:List At)(q:Nat)(s:S):Option (Nat×S):=match s.cn lv co with|some s'=>some (q,s')|none=>none
def kC(lv:List Nat)(co:List At):K (Nat×S):=⟨cnP lv co 0,λid=>cnP lv co (id+2),cnP lv co 1⟩
theorem E6{lv:List Nat}{co:List At}{q q':Nat}(h:cnP lv co q s=some (q',s')):q'=q/\s.cn lv co=some s':=by
 unfold cnP at h;split at h
 ·rename_i s2 hs;cases h;exact⟨rfl,hs⟩
 ·cases h
theorem vH{inl:P1 (Nat×S)}(cX:P.follows .mixedOrders=true)(hT:NK P T)(hI:HI P T.gl inl){J:Reg->World->Prop}(hJ:∀V X Y,J V X->KeepN (λ_=>True) X Y->J (grown V X Y) Y)
  {c:Code} {an:An} {lv:List Nat} {co:List At} {q:Nat} (h:ex P T inl n c an (kC lv co) s=some (q,s')) (h1:s'.it=[]) {V:Reg} (hm:MemI T.gl V w s σ) (hj:J V w) {m:Nat} {a:Act} (ha:Fits [] n a σ):
  c.wpIn (wr none) m P (λe a' w'=>zX e=some q/\∃σ' V',Fits [] n a' σ'/\J V' w'/\MemI T.gl V' w' s' σ') a w:=by
 refine JA (jg (Z:=V_ T.gl V w hm.gl) cX ⟨hT,rfl⟩ hI c h hm.rel none m [] a ha) ?_;rintro e a' w' ⟨σ',hf,s2,A',L',h2,hr⟩;have key:zX e=some q/\s2.cn lv co=some s':=by
  cases e with
  |normal=>obtain⟨rfl,h3⟩:=E6 h2;exact⟨rfl,h3⟩
  |ret=>obtain⟨rfl,h3⟩:=E6 h2;exact⟨rfl,h3⟩
  |exit id=>obtain⟨rfl,h3⟩:=E6 h2;exact⟨rfl,h3⟩
  |goto l=>cases h2
  |panic c=>cases h2
  |outgrown=>cases h2
 obtain⟨h3,h4⟩:=key;obtain⟨A2,L2,hr2⟩:=Z7 hr h4;obtain⟨g1,g2⟩:=hm.back hr2 h1;exact⟨h3,σ',_,hf,hJ _ _ _ hj g1,g2⟩
theorem zV{inl:P1 (Nat×S)}(cX:P.follows .mixedOrders=true)(hT:NK P T)(hI:HI P T.gl inl){J:Reg->World->Prop}(hJ:∀V X Y,J V X->KeepN (λ_=>True) X Y->J (grown V X Y) Y)
  {c d:Code} (an:An) (lv:List Nat) (co:List At) (h:ex P T inl n c an (kC lv co) s=some (0,s')) (h1:s'.it=[]) {V:Reg} (hm:MemI T.gl V w s σ) (hj:J V w) {m:Nat} {a:Act} (ha:Fits [] n a σ) {Q:Exit->Act->World->Prop}
  (hk:∀σ' V' w' a',Fits [] n a' σ'->J V' w'->MemI T.gl V' w' s' σ'->d.wpIn (wr none) m P Q a' w'):(Code.seq c d).wpIn (wr none) m P Q a w:=by
 refine wpIn_seq (JA (vH cX hT hI hJ h h1 hm hj ha) ?_);rintro e a' w' ⟨he,σ',V',h2,h3,h4⟩;cases e with
 |normal=>exact hk σ' V' w' a' h2 h3 h4
 |ret=>simp[zX]at he
 |exit id=>simp[zX]at he
 |goto l=>cases he
 |panic c=>cases he
 |outgrown=>cases he
theorem oJ{inl:P1 (Nat×S)}(hT:NK P T)(hI:HI P T.gl inl){J:Reg->World->Prop}(hJ:∀V X Y,J V X->KeepN (λ_=>True) X Y->J (grown V X Y) Y){l l2:List Oper}(lv:List Nat)(hd:yE l=true)
  (h:G1 P T inl n ops l s (cnP lv [] 0)=some (0,s')) (h1:s'.it=[]) {V:Reg} (hm:MemI T.gl V w s σ) (hj:J V w) {m:Nat} {a:Act} (ha:Fits [] n a σ) {Q:Exit->Act->World->Prop}
  (hk:∀σ' V' w' a',Fits [] n a' σ'->J V' w'->MemI T.gl V' w' s' σ'->wpListIn (wr none) m P ops Q l2 a' w'):wpListIn (wr none) m P ops Q (l++l2) a w:=by
 have h2:=Agn (Z:=V_ T.gl V w hm.gl) (ops:=ops) ⟨hT,rfl⟩ hI hm.rel h;have h3:WL P n ops l (λσ' w'=>∃V',J V' w'/\MemI T.gl V' w' s' σ') σ w:=by
  refine YE h2 ?_;rintro σ' w' ⟨s2,A',L',g1,hr⟩;obtain⟨_,g2⟩:=E6 g1;obtain⟨A2,L2,hr2⟩:=Z7 hr g2;obtain⟨g3,g4⟩:=hm.back hr2 h1;exact⟨_,hJ _ _ _ hj g3,g4⟩
 exact lS (Y:=λa' w'=>∃σ',Fits [] n a' σ'/\∃V',J V' w'/\MemI T.gl V' w' s' σ') (λa' w' ⟨σ',g1,V',g2,g3⟩=>hk σ' V' w' a' g1 g2 g3) (R3 (zh hd) (h3 [] a ha))
theorem MemI.set{gl:List (Nat×List Value)}{V:Reg}(h:MemI gl V w s σ){d:Nat}{p:PV}{v:Value}(hv:p.isV=true)(hp:Gi V w [] p v):MemI gl V w ⟨WG s.sl d p,[],[]⟩ (Xz σ d v):=
 ⟨h.lt,rfl,rfl,h.sl.set (.put hv hp),h.gl⟩
theorem MemI.round{gl:List (Nat×List Value)}{V:Reg}(h:MemI gl V w s σ)(hg:Gr w w')(hs:∀b,V b->w'.heap[b]? =w.heap[b]?):MemI gl V w' s σ:=
 h.keep (λ_ h=>h) (λb hb=>HJ (h.lt b hb) hg.le) hs hg
theorem MemI.val{gl:List (Nat×List Value)}{V:Reg}(h:MemI gl V w s σ){t:Nat}{p:PV}(hp:(t,p)∈s.sl)(hv:p.isV=true):Gi V w [] p (σ t):=(Kh.iff hv).1 (h.sl _ hp)
theorem Ahg{g x:Operand}{ts:Array TypeId}(ho:o.op= .call ⟨.value g, #[x],ts⟩) {l:Nat} (hg:ev σ g= .func (.yield l) #[] #[]) (hx:ev σ x=v):
  (execOp (ev σ) o).run P w=(Instr.yield l #[v]).run P w:=by
 obtain⟨d,op,ty,pos,after,gd⟩:=o;simp only at ho;subst ho;simp[execOp,resolve,invoke,hg,hx,go_sem]
theorem wH{F:Fence}{n:Nat}{P:Program}{Q:Exit->Act->World->Prop}{w:World}{c:Code}(m:Nat)(I:Nat->Act->World->Prop)(h0:∀a w,¬I 0 a w)
  (hs:∀q a w,I (q+1) a w->c.wpIn F n P (Exit.then (I q) Q) a w) (h:I m a w):(Code.loop c).wpIn F n P Q a w:=by
 refine wpIn_loop_rounds m ?_
 induction m generalizing a w with
 |zero=>exact absurd h (h0 a w)
 |succ m ih=>
  rw[roundsIn_succ];refine JA (hs m a w h) λe a' w' hh=>?_;cases e<;>first|exact ih hh|exact hh
def cA:Code->Code| .seq a _=>a| .cond _ a _=>a| .block _ a=>a| .loop a=>a|c=>c
def cB:Code->Code| .seq _ b=>b| .cond _ _ b=>b|c=>c
def cO:Code->List Oper| .region _ ops _=>ops.toList|_=>[]
def fB(f:Func):Code:=match f.body with|some c=>c|none=> .skip
def oAt:List Oper->Nat->Oper
 |[],_=>⟨none, .move (.tmp 0),0, "", #[],none⟩
 |o::_,0=>o
 |_::l,q+1=>oAt l q
end Go.Rx
namespace Go.Rx
open Go Go.Lv
noncomputable def Con.seal(c:Con):Con:=⟨c.ps,c.rs,vQ c.fn⟩
theorem ConOk.seal{P:Program}{gl:List (Nat×List Value)}{f:Nat}{c:Con}(h:ConOk P gl f c):ConOk P gl f c.seal:=
 ⟨h.ent,λR N w L0 vs ps x y h1 h2 h3 h4 h5 h6 h7=>h.ok R N w L0 vs ps x y h1 h2 h3 h4 h5 h6 ((Axc c.fn x).symm.trans h7)⟩
end Go.Rx
