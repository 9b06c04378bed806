/- A part of a proof (see the text that ends in Proof). No conditions. -/
import Derived.Test.YtmnpghdjdepelaaGreatDoorScBA
import Derived.MapKept
import Derived.ProofKit
import Derived.LaidMore
import Derived.DataReads
set_option linter.unusedVariables false
set_option linter.unusedSimpArgs false
namespace Go.Rx
open Go Go.Lv
variable{a x:Operand}{m p:PV}{v:Value}
variable {P:Program} {B:Reg} {w w':World} {L L':List MD} {s:S} {σs:List Env} {σ:Env} {Z:Fix} {A A':Reg} {n:Nat} {ops:Array Oper} {rest:List Oper} {K:Env->World->Prop}
variable {R:Type} {k:S->Option R} {r:R} {d:Option Nat} {ty:TypeId} {pos:String} {after:Array Edge}
structure Frz (B:Reg) (w:World) (L:List MD) (i:Nat) (m:PV):Prop where
 enc:∀z E v c,L[i]? =some (.own z E v c)->Ap B w (L.set i .dead) m [v]
 isA:m.isA=false
 isV:m.isV=true
theorem WS{i:Nat}(hm:m.isA=false):(subst i m p).isA=p.isA:=by
 cases p<;>try rfl
 ·rename_i j;simp only[subst];cases hb:Nat.beq i j with
  |true=>exact hm
  |false=>rfl
 ·rename_i j q;simp only[subst];cases hb:Nat.beq i j<;>rfl
 ·rename_i o j q e lo n;simp only[subst];cases hb:Nat.beq i j<;>rfl
theorem CH{i j:Nat}(h:Nat.beq i j=false):(L.set i .dead)[j]? =L[j]? :=by
 rw[List.getElem?_set_ne];intro e;subst e;simp at h
mutual
theorem Wa{i:Nat}{m:PV}(hf:Frz B w L i m):∀{p:PV} {cs:List Value},Ap B w L p cs->Ap B w (L.set i .dead) (subst i m p) cs
 | .val _ x,cs,h=>h
 | .agg q,cs,h=>RP hf (show Ap.go B w L q cs from h)
 | .tup _,_,h=>h.elim
 | .nils,cs,h=>h
 | .own j,cs,⟨z,E,v,c,h1,h2⟩=>by
  simp only[subst];cases hb:Nat.beq i j with
  |true=>
   have:=Bh hb;subst this;rw[h2];exact hf.enc _ _ _ _ h1
  |false=>exact⟨z,E,v,c,by rw[CH hb];exact h1,h2⟩
 | .ptr j q,cs,⟨md,b,h1,h2,h3⟩=>by
  simp only[subst];cases hb:Nat.beq i j with
  |true=>exact⟨_,h3,rfl⟩
  |false=>exact⟨md,b,by rw[CH hb];exact h1,h2,h3⟩
 | .view o j q e lo n,cs,⟨md,v,h1,h2,h3⟩=>by
  simp only[subst];cases hb:Nat.beq i j with
  |true=>
   obtain⟨_,_,⟨pt,cap,e',_⟩,_⟩:=h3;exact⟨v,h2,by rw[e'];rfl⟩
  |false=>exact⟨md,v,by rw[CH hb];exact h1,h2,h3⟩
 | .rptr v,cs,⟨pv,c0,h1,h2,h3⟩=>by
  exact⟨pv,c0,h1,h2,Wa hf h3⟩
 | .fn f caps,cs,⟨vs,h1,h2⟩=>⟨vs,h1,Rm hf h2⟩
 | .cap _ _ _,cs,h=>h
 | .bfn f fs,cs,⟨vs,h1,h2⟩=>⟨vs,h1,Rm hf h2⟩
 | .mp ks l,cs,⟨r,es,n,h1,h2,h3,h4,h5⟩=>⟨r,es,n,h1,h2,h3,h4,Rm hf h5⟩
 | .cst v,cs,h=>h
 | .any,cs,h=>h
 | .gd _ _ _,_,h=>h.elim
 | .off,_,h=>h.elim
 | .undef,_,h=>h.elim
theorem RP{i:Nat}{m:PV}(hf:Frz B w L i m):∀{q:List PV} {cs:List Value},Ap.go B w L q cs->Ap.go B w (L.set i .dead) (subst.go i m q) cs
 |[],cs,h=>h
 |a::q,cs,⟨c1,c2,e',h1,h2⟩=>⟨c1,c2,e',Wa hf h1,RP hf h2⟩
theorem Rm{i:Nat}{m:PV}(hf:Frz B w L i m):∀{q:List PV} {vs:List Value},Ca B w L q vs->Ca B w (L.set i .dead) (subst.go i m q) vs
 |[],vs,h=>h
 |a::q,vs,⟨v,vs',e',h1,h2⟩=>⟨v,vs',e',by rw[WS hf.isA];exact h1.mono λc h=>Wa hf h,Rm hf h2⟩
end
theorem cF{i:Nat}(hf:Frz B w L i m)(h:Dr B w L p v):Dr B w (L.set i .dead) (subst i m p) v:=by
 unfold Dr;rw[WS hf.isA];exact eO.mono (λc h=>Wa hf h) h
theorem UT{i:Nat}(hf:Frz B w L i m)(h:Cg B w L p v):Cg B w (L.set i .dead) (subst i m p) v:=by
 cases hp:p.ZU with
 |true=>exact(Ef (cF hf ((BE hp).1 h))).2
 |false=>
  cases p
  case tup q=>obtain⟨vs,h1,h2⟩:=h;exact⟨vs,h1,Rm hf h2⟩
  case undef=>exact(show False from h).elim
  case off=>exact(show False from h).elim
  case gd=>exact(show False from h).elim
  all_goals cases hp
theorem bM{i:Nat}(hf:Frz B w L i m){t:Nat}(h:Dn B w L σ t p):Dn B w (L.set i .dead) σ t (subst i m p):=by
 cases hv:p.isV with
 |true=>
  have h1:=UT hf ((Dn.iff hv).1 h);have h2:(subst i m p).isV=true:=by
   cases p<;>first|rfl|cases hv|skip
   ·rename_i j;simp only[subst];cases Nat.beq i j;rfl;exact hf.isV
   ·rename_i j q;simp only[subst];cases Nat.beq i j<;>rfl
   ·rename_i o j q e lo n;simp only[subst];cases Nat.beq i j<;>rfl
  exact(Dn.iff h2).2 h1
 |false=>
  rcases Ik hv with rfl|rfl|⟨j,u,q,rfl⟩
  ·exact trivial
  ·exact h
  ·obtain⟨b,h1,h2,h3⟩:=h;exact⟨b,h1,λe=>UT hf (h2 e),h3⟩
theorem IW{i:Nat}(hf:Frz B w L i m){sl:Slots}(h:Cr B w L σ sl):Cr B w (L.set i .dead) σ (fK i m sl):=by
 intro p hp;obtain⟨q,hq,rfl⟩:=List.mem_map.1 hp;exact bM hf (h q hq)
theorem JI{i:Nat}{m:PV}(hf:Frz B w L i m):∀{σs:List Env} {st:List Slots},Xe B w L σs st->Xe B w (L.set i .dead) σs (st.map (fK i m))
 |[],[],h=>h
 |_::_,_::_,⟨h1,h2⟩=>⟨IW hf h1,JI hf h2⟩
theorem cK{i:Nat}(hf:Frz B w L i m){a:Item}{md:MD}(h:Jp B w L a md):Jp B w (L.set i .dead) (eS i m a) md:=by
 cases a<;>cases md<;>first
  |exact h
  |exact⟨h.1,Wa hf h.2⟩
theorem MemR.subst(hm:MemR B w L s σs σ){i:Nat}(hf:Frz B w L i m):MemR B w (L.set i .dead) ((s.Jf i .dead).sub i m) σs σ:=by
 refine⟨⟨?_,?_⟩,IW hf hm.sl,JI hf hm.stk⟩
 ·simp[S.sub,S.Jf,DD,hm.it.1]
 ·intro j a md g1 g2;simp only[S.sub,S.Jf,List.getElem?_map,uG]at g1;obtain⟨a0,g3,rfl⟩:=g1;rcases DC g3 with⟨rfl,rfl⟩|⟨g4,g5⟩
  ·trivial
  ·rw[List.getElem?_set_ne (vC g4)]at g2;exact cK hf (hm.it.2 j a0 md g5 g2)
theorem FT(hr:Rel Z s σs A L σ w){i:Nat}{s':S}(h:s.freeze i=some s'):∃A',Rel Z s' σs A' (L.set i .dead) σ w/\∃E e l,Bg s.it i= .arr E e l/\s'=(s.Jf i .dead).sub i (.val (.list e) l):=by
 unfold S.freeze at h;split at h
 ·rename_i E e l hi;cases h;have hm:=hr.mem;obtain⟨v,cs,h1,h2⟩:=hm.arr hi;have hR:∀b,¬A b->Z.R b:=λb hb=>by
   rcases uT b Z.w0.heap.size with hlt|hge
   ·have hold:=(hr.fact 1 (f:= .old Z.M Z.w0) rfl).2 b hlt;exact Z.mod b (Classical.byContradiction λhM=>hb (hold hM).1)
   ·exact Z.new b hge
  obtain⟨A',hA,hs'⟩:=St.freeze hr (hr.Dl h1) rfl Z.R hR;have hs2:=Bp.DJ (hs'.YY 1 0) (Wj (m':=MD.dead.Dl) (hr.Dl h1));have hm2:MemR (λb=>A' b/\Z.R b) w L s σs σ:=hs2.fact 1 rfl;have hrd:Rd (λb=>A' b/\Z.R b) w e.size v cs:=hs2.fact 0 (f:= .rd Z.R e.size v cs) rfl;have hall:=h2.mono (g:=Ak (λb=>A' b/\Z.R b) w e) λx c h=>Ak.step (λb hb=>⟨hA b hb.1,hb.2⟩) (λ_ _=>rfl) h;have hf:Frz (λb=>A' b/\Z.R b) w L i (.val (.list e) l):=⟨λz E' v' c' h=>by rw[h1]at h;cases h;exact⟨v,cs,rfl,hrd,hall⟩,rfl,rfl⟩;exact⟨A',Rel.as hs2 (i:=2) rfl (hm2.subst hf) (by rw[vI]),E,e,l,hi,rfl⟩
 ·cases h
theorem Gj:∀{is:List Nat} {s s':S} {A:Reg} {L:List MD},Rel Z s σs A L σ w->s.Lz is=some s'->∃A' L',Rel Z s' σs A' L' σ w/\ (is=[]->s'=s/\A'=A/\L'=L)
 |[],s,s',A,L,hr,h=>by simp only[S.Lz,tJ]at h;subst h;exact⟨A,L,hr,λ_=>⟨rfl,rfl,rfl⟩⟩
 |i::is,s,s',A,L,hr,h=>by
  simp only[S.Lz]at h;split at h
  ·obtain⟨A',L',h1,_⟩:=Gj hr h;exact⟨A',L',h1,λe=>by cases e⟩
  ·cases h
  ·split at h
   ·rename_i s1 h1;obtain⟨A1,h2,_⟩:=FT hr h1;obtain⟨A',L',h3,_⟩:=Gj h2 h;exact⟨A',L',h3,λe=>by cases e⟩
   ·cases h
theorem XN(h:QX p=true):p.ZU=true:=by cases p<;>first|rfl|cases h
theorem Qc{B:Reg}(hm:Cr B w L σ s.sl)(h:(Bv s.sl x).ZU=true):Dr B w L (Bv s.sl x) (ev σ x):=(BE h).1 (Gl hm x (PV.WW h))
theorem cD{s':S}(hr:Rel Z s σs A L σ w)(h:UU s a x=some s'):∃A' L',Rel Z s' σs A' L' σ w:=by
 unfold UU at h;split at h
 ·split at h
  ·obtain⟨A',L',h1,_⟩:=Gj hr h;exact⟨A',L',h1⟩
  ·cases h;exact⟨A,L,hr⟩
 ·cases h
theorem FE.step{B B':Reg}{w w':World}(hb:∀b,B b->B' b)(hs:Same B w w')(hl:Zz L L'){a:Item}{cs:List Value}(h:FE B w L a cs):FE B' w' L' a cs:=by
 cases a with
 |dead=>exact h
 |box T v=>exact Ap.step hb hs hl h
 |arr E e l=>exact Bd.mono (λx c h=>Ak.step hb hs h) h
def RL(R:Reg)(L:List MD)(a:Item)(cs:List Value):Fact where
 holds A w:=FE (λb=>A b/\R b) w L a cs
 step h ha hs _:=h.step (λb ⟨h1,h2⟩=>⟨ha b h1,h2⟩) (λb ⟨h1,_⟩=>hs b h1) (.refl L)
theorem jP{t:TypeId}(hr:Rel Z s σs A L σ w)(h:YL P s t a x k=some r):
  Kb P n ops ⟨none, .store t a x,ty,pos,after,none⟩ Z s σs k r False A L σ w:=by
 unfold YL at h;split at h
 ·cases h
 ·rename_i s1 hs1;obtain⟨A1,L1,hr1⟩:=cD hr hs1;have hm:=hr1.mem;split at h
  ·rename_i i p ha;split at h
   ·rename_i inf Hh;obtain⟨hb,h⟩:=Aj h;simp only[tF]at hb;obtain⟨md,b,h1,h2,h3⟩:=Jj (Bj hm.sl ha rfl);obtain⟨ns,h4,h5⟩:=Qv hr1 (Qc hm.sl (XN hb.1.1));have hne:Bg s1.it i≠ .dead:=by intro e;rw[e]at h;simp[QU]at h
    obtain⟨h6,h7⟩:=hm.root h1 hne;obtain⟨a',hk,h8,h9,h10⟩:=dU h5 h h6;have hlen:=h5.len;have hz:=Bh hb.1.2;have hz0:0<inf.size:=by simpa [Nat.blt_eq]using hb.2
    have sS:=St.JF (f:=RL Z.R L1 a' (Ar md.cells (Ah p) ns)) hr1 h9;refine gW sS h1 h2 ⟨inf,Hh,rfl⟩ h3 rfl h4 (hlen.trans hz.symm) (List.all_eq_true.2 (h5.one hr1.DS)) (by rw[hz,<-hlen];exact h8) hz0 (λw' md' hs' hmd=>?_);have h11:FE (λb=>A1 b/\Z.R b) w' L1 a' (Ar md.cells (Ah p) ns):=hs'.fact 0 rfl;have hs2:=hs'.OM
    revert h7 h10
    cases hi:Bg s1.it i with
    |dead=>exact absurd hi hne
    |box T v0=>
     rintro⟨b0,c0,rfl⟩ h10;simp only[Jh]at hmd;subst hmd;have key:=Zz.box (cs':=Ar (MD.box b0 c0 T).cells (Ah p) ns) h1;refine⟨_,A1,_,hk,Rel.change hs2 h1 key ?_,λh=>h.elim⟩;cases a' with
     |box T' v'=>simp only[sameKind]at h10;subst h10;exact⟨rfl,Ap.step (λ_ h=>h) (λ_ _=>rfl) key h11⟩
     |dead=>exact h11.elim
     |arr _ _ _=>exact h10.elim
    |arr E e l=>
     rintro⟨v0,c0,rfl⟩ h10;simp only[Jh]at hmd;subst hmd;have key:=Zz.own (cs':=Ar (MD.own e.size E v0 c0).cells (Ah p) ns) h1;refine⟨_,A1,_,hk,Rel.change hs2 h1 key ?_,λh=>h.elim⟩;cases a' with
     |arr E' e' l'=>obtain⟨rfl,rfl⟩:=h10;exact⟨rfl,rfl,h11⟩
     |dead=>exact h11.elim
     |box _ _=>exact h10.elim
   ·cases h
  ·cases h
end Go.Rx
namespace Go.Rx
open Go Go.Lv
variable{x:Operand}{p:PV}{v:Value}
variable {P:Program} {B:Reg} {w w':World} {L L':List MD} {s:S} {σs:List Env} {σ:Env} {Z:Fix} {A A':Reg} {n:Nat} {ops:Array Oper} {rest:List Oper} {K:Env->World->Prop}
variable {R:Type} {k:S->Option R} {r:R} {d:Option Nat} {ty:TypeId} {pos:String} {after:Array Edge}
theorem Ro{t:TypeId}(h:zeroOf P t=some p):∃z,(∃i,P.info? t=some i/\i.zero=some z)/\∀(B:Reg) (w:World) (L:List MD),Ap B w L p z.cells.toList:=by
 unfold zeroOf at h;split at h
 ·rename_i i hi;split at h
  ·rename_i z hz;exact⟨z,⟨i,hi,hz⟩,λB w L=>FM h⟩
  ·cases h
 ·cases h
theorem fC{md:MD}{b:Nat}(hb:md.base=some b){B:Reg}:Cg B w (L++[md]) (.ptr L.length []) (.pointer (some ⟨b,0,none⟩)):=⟨md,b,A6,hb,rfl⟩
theorem HM{z:Nat}{E:TypeId}{c:List Value}{B:Reg}:Cg B w (L++[.own z E v c]) (.own L.length) v:=⟨z,E,v,c,A6,rfl⟩
theorem Rel.len(hr:Rel Z s σs A L σ w):s.it.length=L.length:=hr.mem.it.1
theorem Rel.lt(hr:Rel Z s σs A L σ w):∀b,A b->b<w.heap.size:=St.lt hr
def jS(A0:Reg)(w0:World):Fact where
 holds A w:=(∀b,A0 b->A b)/\Same A0 w0 w
 step h ha hs _:=⟨λb hb=>ha b (h.1 b hb),λb hb=>(hs b (h.1 b hb)).trans (h.2 b hb)⟩
theorem Rel.same(hr:Rel Z s σs A L σ w):St A w [jS A w,PJ Z.R L s σs σ, .old Z.M Z.w0] (L.map MD.Dl):=St.JF (f:=jS A w) hr ⟨λ_ h=>h,λ_ _=>rfl⟩
theorem Wq{w':World}{A':Reg}{a:Item}{md:MD}{dn:Nat}{G:Prop}(hr:Rel Z s σs A L σ w)(hs:St A' w' [jS A w,PJ Z.R L s σs σ, .old Z.M Z.w0] (md.Dl::L.map MD.Dl))
  (ha:Jp (λb=>A' b/\Z.R b) w' (L++[md]) a md) (hv:p.isV=true) (hp:∀B,Cg B w' (L++[md]) p v) (hk:k ((s.add a).Cp (some dn) p)=some r):
  VN Z σs k r G A L s.it w (Jf σ dn v) w':=by
 obtain⟨h1,h2⟩:(∀b,A b->A' b)/\Same A w w':=hs.fact 0 rfl;have hr':=Rel.push hs.OM ha;exact⟨_,A',L++[md],hk,hr'.Cp (d:=some dn) hv (hp _),λ_=>⟨h1,h2,⟨[md],rfl⟩,⟨[a],rfl⟩⟩⟩
theorem Ry{o:Op}{dn:Nat}(h:Dv n ⟨some dn,o,ty,pos,after,none⟩=true):Nat.blt dn n=true:=h
theorem iK{t:TypeId}{v:PV}{dn:Nat}{G:Prop}(hr:Rel Z s σs A L σ w)(hd:Dv n ⟨some dn, .alloc t,ty,pos,after,none⟩=true)(hz:zeroOf P t=some v)
  (hk:k ((s.add (.box t v)).Cp (some dn) (.ptr s.new []))=some r):Kb P n ops ⟨some dn, .alloc t,ty,pos,after,none⟩ Z s σs k r G A L σ w:=by
 obtain⟨z,h1,h2⟩:=Ro hz;refine WL.alloc (cells:=z.cells.toList) hr.same (Ry hd) h1 A6 (λb w' hs'=>WL.nil ?_);refine Wq (a:= .box t v) (md:= .box b z.cells.toList t) hr hs' ⟨rfl,h2 _ _ _⟩ rfl (λB=>?_) hk;rw[S.new,hr.len];exact fC rfl
theorem nK{t:TypeId}{dn:Nat}{G:Prop}(hr:Rel Z s σs A L σ w)(hd:Dv n ⟨some dn, .box t x,ty,pos,after,none⟩=true)(hx:QX (Bv s.sl x)=true)
  (hk:k ((s.add (.box t (Bv s.sl x))).Cp (some dn) (.ptr s.new []))=some r):Kb P n ops ⟨some dn, .box t x,ty,pos,after,none⟩ Z s σs k r G A L σ w:=by
 obtain⟨cs,h1,h2⟩:=Qv hr (Qc hr.mem.sl (XN hx));have hF:=St.JF (f:=RL Z.R L (.box t (Bv s.sl x)) cs) hr.same h2;refine WL.box hF (Ry hd) rfl h1 (λb w' hs'=>WL.nil ?_);have h3:FE (λb=>A b/\Z.R b) w' L (.box t (Bv s.sl x)) cs:=hs'.fact 0 rfl;refine Wq (a:= .box t (Bv s.sl x)) (md:= .box b cs t) hr hs'.OM ⟨rfl,Ap.step (λ_ h=>h) (λ_ _=>rfl) (Zz.append _ _) h3⟩ rfl (λB=>?_) hk;rw[S.new,hr.len];exact fC rfl
theorem YC{a t e:TypeId}{l:List UInt8}{dn:Nat}{G:Prop}(hr:Rel Z s σs A L σ w)(hd:Dv n ⟨some dn, .convert a t x,ty,pos,after,none⟩=true)(ha:P.underlying a=some .string)(ht:P.underlying t=some (.slice e))
  (he:P.underlying e=some (.int .u8)) (hx:Bv s.sl x= .val .str l) (hk:k ((s.add (.arr e (.int .u8) l)).Cp (some dn) (.own s.new))=some r):Kb P n ops ⟨some dn, .convert a t x,ty,pos,after,none⟩ Z s σs k r G A L σ w:=by
 refine WL.sG ha ht he hr.same (Ry hd) (Gn hr.mem.sl hx) (λp m c w' hs'=>WL.nil ?_);refine Wq (a:= .arr e (.int .u8) l) (md:= .own 1 e (.slice p m c) (Oj l)) hr hs' ⟨rfl,rfl,Qr⟩ rfl (λB=>?_) hk;rw[S.new,hr.len];exact HM
where Qr:∀{B:Reg} {w:World} {l:List UInt8},Bd (Ak B w (.int .u8)) l (Oj l)
 |_,_,[]=>rfl
 |_,_,x::l=>⟨[iv x],Oj l,rfl,rfl,Qr⟩
theorem kT{t e E:TypeId}{i:Nat}{y:UInt8}{ys:List UInt8}{dn:Nat}{G:Prop}(hr:Rel Z s σs A L σ w)(hd:Dv n ⟨some dn, .convert t t x,ty,pos,after,none⟩=true)(ht:P.underlying t=some (.slice e))
  (he:P.underlying e=some (.int .u8)) (hx:Bv s.sl x= .own i) (hi:Bg s.it i= .arr E (.int .u8) (y::ys)) (hk:k (s.Cp (some dn) (.own i))=some r):Kb P n ops ⟨some dn, .convert t t x,ty,pos,after,none⟩ Z s σs k r G A L σ w:=by
 obtain⟨v,cs,h1,h2⟩:=hr.mem.arr hi;have hne:0<cs.length:=by
  obtain⟨c,c',e1,e2,_⟩:=h2;rw[e1,tM];have:c.length=(ET.int .u8).size:=Ak.len e2;rw[this];have:(ET.int Kd.u8).size=1:=rfl;omega
 have kJ:Cg (λb=>A b/\Z.R b) w L (.own i) (ev σ x):=by
  have:=Bj hr.mem.sl hx rfl;exact this
 have hev:ev σ x=v:=by
  obtain⟨z,E',v',c,g1,g2⟩:=kJ;rw[h1]at g1;cases g1;simpa using g2
 have hL:(L.map MD.Dl)[i]? =some (.own 1 E v cs):=by rw[List.getElem?_map,h1];rfl
 refine WL.qB ht he hr.same hL hne (Ry hd) hev (λw' hs'=>WL.nil ?_);obtain⟨g1,g2⟩:(∀b,A b->A b)/\Same A w w':=hs'.fact 0 rfl;have hr':Rel Z s σs A L σ w':=hs'.OM;exact⟨_,A,L,hk,hr'.Cp (d:=some dn) (p:= .own i) rfl ⟨_,_,_,_,h1,rfl⟩,λ_=>⟨g1,g2,⟨[],A6⟩,⟨[],by simp[S.Cp,S.set]⟩⟩⟩
theorem MP{t:TypeId}{e:ET}(h:TN P t e=true):ElemOk P t e.size:=by
 unfold TN at h;split at h
 ·rename_i i hi;simp only[tF]at h;obtain⟨⟨⟨h1,h2⟩,h3⟩,h4⟩:=h;split at h3
  ·rename_i z hz;exact⟨⟨i,z,hi,Bh h1,hz,Bh h3,tQ h2⟩,by have:=tQ h4;omega⟩
  ·cases h3
 ·cases h
theorem Wd{t E:TypeId}(h:MV P t=some E):P.underlying t=some (.slice E):=by
 unfold MV at h;split at h
 ·rename_i e he;cases h;exact he
 ·cases h
theorem YH{e:ET}{x:e.T}{c:List Value}(h:Ak B w e x c):∀m,Bd (Ak B w e) (List.replicate m x) (List.replicate m c).flatten
 |0=>rfl
 |m+1=>⟨c,(List.replicate m c).flatten,rfl,h,YH h m⟩
theorem lT{t:TypeId}{a b:Operand}{dn:Nat}{G:Prop}(hr:Rel Z s σs A L σ w)(hd:Dv n ⟨some dn, .makeSlice t a b,ty,pos,after,none⟩=true)(h:dE P s (some dn) t a b k=some r):
  Kb P n ops ⟨some dn, .makeSlice t a b,ty,pos,after,none⟩ Z s σs k r G A L σ w:=by
 unfold dE at h;split at h
 ·cases h
 ·rename_i E hE;split at h
  ·cases h
  ·rename_i e he;obtain⟨hb,h⟩:=Aj h;split at h
   ·rename_i m m' z hm hm' hz;split at h
    ·rename_i x hx;obtain⟨l,hl,h⟩:=bind_some h;obtain⟨_,hq,h⟩:=bind_some h;obtain⟨h1,h2,rfl⟩:=bG hl;have h3:m'=m:=by have:=Ij hq;simpa [geq,GI.toZ]using this
     subst h3;obtain⟨zv,hz1,hz2⟩:=Ro hz;have ea:=RJ hm (Gl hr.mem.sl a (YQ hm));have eb:=RJ hm' (Gl hr.mem.sl b (YQ hm'));refine WL.makeSlice (Wd hE) (MP hb) hz1 (zs:=zv.cells.toList) A6 hr.same (Ry hd) (m:=m'.toNat) (by rw[<-h1];exact ea) (by rw[<-h1];exact eb) h2 (λp q c w' hs'=>WL.nil ?_);refine Wq (a:= .arr E e (List.replicate m'.toNat x)) (md:= .own e.size E (.slice p q c) (List.replicate m'.toNat zv.cells.toList).flatten) hr hs' ⟨rfl,rfl,YH (Rk hx (hz2 _ _ (L++[]))) _⟩ rfl (λB=>?_) h;rw[S.new,hr.len];exact HM
    ·cases h
   ·cases h
end Go.Rx
namespace Go.Rx
open Go Go.Lv
variable{vw:Bool}{e:ET}{x y:Operand}{p:PV}{v:Value}
variable {P:Program} {B:Reg} {w w':World} {L L':List MD} {s:S} {σs:List Env} {σ:Env} {Z:Fix} {A A':Reg} {n:Nat} {ops:Array Oper} {rest:List Oper} {K:Env->World->Prop}
variable {R:Type} {k:S->Option R} {r:R} {d:Option Nat} {ty:TypeId} {pos:String} {after:Array Edge}
theorem VN.of{G:Prop}{s1:S}{A1:Reg}{L1:List MD}{σ':Env}(h:G->s1=s/\A1=A/\L1=L)(hp:VN Z σs k r G A1 L1 s1.it w σ' w'):VN Z σs k r G A L s.it w σ' w':=by
 obtain⟨s',A',L',h1,h2,h3⟩:=hp;refine⟨s',A',L',h1,h2,λg=>?_⟩;obtain⟨e1,e2,e3⟩:=h g;subst e1 e2 e3;exact h3 g
theorem isEmpty_nil{α:Type}{l:List α}(h:l.isEmpty=true):l=[]:=by cases l<;>simp_all
theorem ZY{z:Nat}(h:Nat.ble 1 z=true):0<z:=by have:=tQ h;omega
theorem Rel.oA(hr:Rel Z s σs A L σ w){i z:Nat}{E:TypeId}{cs:List Value}(h:L[i]? =some (.own z E v cs)):
  ∃q len cap,v= .slice q len cap/\cs.length=len*z/\len<=cap/\ (q=none->cap=0)/\ (0<cap->∃b,q=some ⟨b,0,none⟩/\ (MD.own z E v cs).base=some b):=by
 obtain⟨o,q,len,cap,h1,h2,h3,h4,h5,h6⟩:=Bp.mem (A:=A) (St.mobs hr) (hr.Dl h);refine⟨q,len,cap,h1,h2,h3,h4,λhc=>?_⟩;cases o with
 |none=>have:=h5 rfl;omega
 |some b=>
  obtain⟨arr,fr,e1,_⟩:=h6 b rfl;subst h1 e1;exact⟨b,rfl,rfl⟩
theorem X.KZ{t e:TypeId}{z len cap a b:Nat}{p:Option Addr}{lo hi:Option Operand}(ht:P.underlying t=some (.slice e))(hsz:Di P e z)(h1:a<=b)(h2:b<=len)(h3:len<=cap)(hx:ev σ x= .slice p len cap)
  (hlo:(∃q,lo.map (ev σ)=some (.int q (a:Int)))\/ (lo=none/\a=0)) (hhi:(∃q,hi.map (ev σ)=some (.int q (b:Int)))\/ (hi=none/\b=len)):
  XO P σ w (.slice t x lo hi none) (.slice (if cap=a then p else p.map (·.add (a*z))) (b-a) (cap-a)):=λ_ _ _ _ _=>by
 have hr:=XB (P:=P) (w:=w) (p:=p) (iA:=lo.map (ev σ)) (nF:=hi.map (ev σ)) ht hsz h1 h2 h3 (by rcases hlo with h|⟨h,h'⟩;exact .inl h;exact .inr ⟨by rw[h];rfl,h'⟩)
   (by rcases hhi with h|⟨h,h'⟩;exact .inl h;exact .inr ⟨by rw[h];rfl,h'⟩)
 simp only[execOp,hx,Instr.sliceAt,tK,tH ht,tG,uM,hr,tN]
theorem X.XI{t u e:TypeId}{z m a b:Nat}{ad:Addr}{lo hi:Option Operand}(ht:fD P t=some (u,m,e))(hsz:Di P e z)(h1:a<=b)(h2:b<=m)(hx:ev σ x= .pointer (some ad))
  (hlo:(∃q,lo.map (ev σ)=some (.int q (a:Int)))\/ (lo=none/\a=0)) (hhi:(∃q,hi.map (ev σ)=some (.int q (b:Int)))\/ (hi=none/\b=m)):
  XO P σ w (.slice t x lo hi none) (.slice (some (if m=a then ad else ad.add (a*z))) (b-a) (m-a)):=λ_ _ _ _ _=>by
 have hlo':(∃q,lo.map (ev σ)=some (.int q (a:Int)))\/ (lo.map (ev σ)=none/\a=0):=hlo.imp id λh=>⟨by rw[h.1];rfl,h.2⟩;have hhi':(∃q,hi.map (ev σ)=some (.int q (b:Int)))\/ (hi.map (ev σ)=none/\b=m):=hhi.imp id λh=>⟨by rw[h.1];rfl,h.2⟩;unfold fD at ht;split at ht
 ·rename_i m' et hu;cases ht;simp only[execOp,hx,Instr.sliceAt,tK,tH hu,tG,uM];generalize lo.map (ev σ)=iA at hlo'⊢;generalize hi.map (ev σ)=nF at hhi'⊢;clear hlo hhi;rcases hlo' with⟨q,rfl⟩|⟨rfl,rfl⟩<;>rcases hhi' with⟨q',rfl⟩|⟨rfl,rfl⟩<;>
   simp[Instr.sureAddr,Instr.sliceBounds,Instr.sliceBound,asIntOf,Az hsz,h1,h2]
 ·rename_i u' hp;split at ht
  ·rename_i m' et hu;cases ht;simp only[execOp,hx,Instr.sliceAt,tK,tH hp,tG,uM];generalize lo.map (ev σ)=iA at hlo'⊢;generalize hi.map (ev σ)=nF at hhi'⊢;clear hlo hhi;rcases hlo' with⟨q,rfl⟩|⟨rfl,rfl⟩<;>rcases hhi' with⟨q',rfl⟩|⟨rfl,rfl⟩<;>
    simp[Instr.slice,tH hp,tH hu,Instr.sliceBounds,Instr.sliceBound,asIntOf,Az hsz,h1,h2,asAddr]
  ·cases ht
 ·cases ht
theorem lR{t et:TypeId}{lo hi:Option Operand}{G:Prop}(hr:Rel Z s σs A L σ w)(hd:Dv n ⟨d, .slice t x lo hi none,ty,pos,after,none⟩=true)(ht:P.underlying t=some (.slice et))(h:eE P s d et (Bv s.sl x) lo hi k=some r):
  Kb P n ops ⟨d, .slice t x lo hi none,ty,pos,after,none⟩ Z s σs k r G A L σ w:=by
 have hm:=hr.mem;unfold eE at h;split at h
 ·cases h
 ·rename_i inf Hh;split at h
  ·rename_i i hx;split at h
   ·rename_i E e l hi';obtain⟨hb,h⟩:=Aj h;simp only[tF]at hb;split at h
    ·rename_i a b ha hb';obtain⟨_,hok,h⟩:=bind_some h;have hab:0<=a/\a<=b/\b<=Aa l:=uD (Ij hok);obtain⟨u,cs,h1,h2⟩:=hm.arr hi';obtain⟨z',E',c',h3⟩:=Ns (Bj hm.sl hx rfl);rw[h1]at h3;have h3':=h3;cases h3;obtain⟨q,len,cap,g1,g2,g3,g4,g5⟩:=hr.oA h1;have hz:0<e.size:=by have:=tQ hb.2;omega
     have hl:len=l.length:=tL hz (g2.symm.trans (h2.len λx c h=>Ak.len h));obtain⟨a1,ha1⟩:=tP hab.1;obtain⟨b1,hb1⟩:=tP (show 0<=b by omega);subst ha1 hb1;have hbl:b1<=len:=by rw[hl];have:=hab.2.2;unfold Aa at this;omega
     have hxo:=X.KZ (P:=P) (σ:=σ) (w:=w) (x:=x) (lo:=lo) (hi:=hi) (a:=a1) (b:=b1) ht (Ci Hh hb.1) A4 hbl g3 g1
      (by rcases En hm.sl ha with h|⟨h,h'⟩;exact .inl h;exact .inr ⟨h,A4⟩) (by rcases En hm.sl hb' with h|⟨h,h'⟩;exact .inl h;exact .inr ⟨h,by unfold Aa at h';omega⟩)
     rw[g1]at h1;refine Bt (p:= .view true i [] e a1 (b1-a1)) hr hd hxo rfl ⟨_,_,h1,rfl,A4,A4,⟨_,_,by rw[show((b1:Int)-a1).toNat=b1-a1 by omega],A4,λhn=>?_,λhc=>?_⟩,
      (λ_=>⟨_,_,q,len,cap,cs,rfl,rfl,A4,λpt m c' hv=>?_,λh0=>?_⟩),(λh=>by cases h)⟩ h
     ·split at hn
      ·omega
      ·have:q=none:=by simpa using hn
       have:=g4 this;omega
     ·obtain⟨bb,e1,e2⟩:=g5 A4;rw[g1]at e2;refine⟨bb,e2,?_⟩;rw[uA A4,e1];simp[Fs,Ah]
     ·cases hv;simp only[uH];omega
     ·have ha0:a1=0:=A4
      subst ha0;rw[show((b1:Int)-(0:Nat)).toNat=b1 by omega];simp only[Nat.sub_zero];congr 1;split
      ·rfl
      ·by_cases hc:0<cap
       ·obtain⟨bb,e1,_⟩:=g5 hc;rw[e1];simp[Fs]
       ·omega
    ·cases h
   ·cases h
  ·rename_i o i p e l0 n' hx;obtain⟨hb,h⟩:=Aj h;simp only[tF]at hb;split at h
   ·rename_i a b ha hb';obtain⟨_,hok,hk⟩:=bind_some h;have hab:0<=a/\a<=b/\b<=n':=uD (Ij hok);obtain⟨md,v1,h3,h4,k1,k2,⟨pt,cap,k3,k4,k5,k6⟩,k7,k8⟩:=Bj hm.sl hx rfl;have h6:ev σ x=v1:=by simpa using h4
    obtain⟨a1,ha1⟩:=tP hab.1;obtain⟨b1,hb1⟩:=tP (show 0<=b by omega);obtain⟨l1,hl1⟩:=tP k1;obtain⟨n1,hn1⟩:=tP k2;subst ha1 hb1 hl1 hn1;simp only[uH]at k3 k4 k6 k7;have hxo:=X.KZ (P:=P) (σ:=σ) (w:=w) (x:=x) (lo:=lo) (hi:=hi) (a:=a1) (b:=b1) ht (Ci Hh hb.1) A4 A4 k4 (h6.trans k3)
     (by rcases En hm.sl ha with h|⟨h,h'⟩;exact .inl h;exact .inr ⟨h,A4⟩) (by rcases En hm.sl hb' with h|⟨h,h'⟩;exact .inl h;exact .inr ⟨h,A4⟩)
    have e0:((l1:Int)+a1).toNat=l1+a1:=A4
    refine Bt (p:= .view o i p e (l1+a1) (b1-a1)) hr hd hxo rfl ⟨md,_,h3,rfl,A4,A4,⟨_,_,by rw[show((b1:Int)-a1).toNat=b1-a1 by omega],A4,λhn=>?_,λhc=>?_⟩,(λho=>?_),k8⟩ hk
    ·split at hn
     ·omega
     ·have:pt=none:=by simpa using hn
      have:=k5 this;omega
    ·obtain⟨bb,e1,e2⟩:=k6 A4;refine⟨bb,e1,?_⟩;rw[uA A4,e2,e0];simp[Fs,tR,tW]
    ·obtain⟨s',E',q,len,cap0,c0,e1,e2,e3,e4,e5⟩:=k7 ho;have e6:=e4 _ _ _ k3;refine⟨s',E',q,len,cap0,c0,e1,e2,A4,λpt' m c' hv=>?_,λh0=>?_⟩
     ·cases hv;omega
     ·have h00:l1=0/\a1=0:=A4
      obtain⟨rfl,rfl⟩:=h00;have e7:=e5 rfl;rw[k3]at e7;cases e7;rw[show((b1:Int)-(0:Nat)).toNat=b1 by omega];simp only[Nat.sub_zero];congr 1;split
      ·rfl
      ·by_cases hc:0<cap
       ·obtain⟨bb,_,e8⟩:=k6 hc;rw[e8];simp[Fs]
       ·omega
   ·cases h
  ·cases h
theorem iQ{t:TypeId}{lo hi:Option Operand}{G:Prop}(hr0:Rel Z s σs A L σ w)(hd:Dv n ⟨d, .slice t x lo hi none,ty,pos,after,none⟩=true)(h:YE vw s d t x lo hi k P=some r)(hG:G-> (owns (Bv s.sl x)).isEmpty=true):
  Kb P n ops ⟨d, .slice t x lo hi none,ty,pos,after,none⟩ Z s σs k r G A L σ w:=by
 unfold YE at h;split at h
 ·rename_i ht;split at h
  ·rename_i l hx;split at h
   ·rename_i a b ha hb;obtain⟨y,hy,h⟩:=bind_some h;exact Bt (p:= .val .str y) hr0 hd (X.pP ht (Gn hr0.mem.sl hx) hy (En hr0.mem.sl ha) (En hr0.mem.sl hb)) rfl rfl h
   ·cases h
  ·cases h
 ·rename_i et ht;cases hvw:(vw&&bR (Bv s.sl x))with
  |true=>
   rw[hvw]at h;exact lR hr0 hd ht h
  |false=>
  rw[hvw]at h;dsimp only[Bi,cond]at h;split at h
  ·cases h
  ·rename_i s1 hs1;obtain⟨A1,L1,hr,hsame⟩:=Gj hr0 hs1;have hm:=hr.mem;split at h
   ·rename_i e0 l0 hx;split at h
    ·rename_i e l;split at h
     ·rename_i inf Hh;obtain⟨hb,h⟩:=Aj h;simp only[tF]at hb;split at h
      ·rename_i a b ha hb';obtain⟨y,hy,h⟩:=bind_some h;obtain⟨h1,h2,h3,h4,rfl⟩:=Px hy;obtain⟨c0,h5,h6⟩:=Ku (Bj hm.sl hx rfl);have hlen:=h6.len λx c h=>Ak.len h;obtain⟨p',l',c',h7,h8⟩:=X.bZ (P:=P) (l:=a.toNat) (k:=b.toNat) (m:=l.length) ht (Ci Hh hb.1) (St.jR hr h5) (j:=0) rfl hlen (ZY hb.2) h3 h4;have hxo:=h7 σ w x lo hi rfl (by rcases En hm.sl ha with h|⟨h,h'⟩;exact .inl (by rw[<-h1];exact h);exact .inr ⟨h,A4⟩)
        (by rcases En hm.sl hb' with h|⟨h,h'⟩;exact .inl (by rw[<-h2];exact h);exact .inr ⟨h,by rw[h'];simp[Aa]⟩)
       have hv:Cg (λb=>A1 b/\Z.R b) w L1 (.val (.list e) ((l.take b.toNat).drop a.toNat)) (.slice p' l' c'):=
        DI (h8.fact 0 rfl) (Bd.drop (λx c h=>Ak.len h) _ (Bd.take (λx c h=>Ak.len h) _ h6))
       refine WL.dX rfl hd (hxo _ _ _ _ _) (WL.nil ⟨_,A1,L1,h,hr.Cp rfl hv,λg=>?_⟩);obtain⟨e1,e2,e3⟩:=hsame (isEmpty_nil (hG g));subst e1 e2 e3;have:(s1.Cp d (.val (.list e) ((l.take b.toNat).drop a.toNat))).it=s1.it:=by cases d<;>rfl
       rw[this];exact .refl
      ·cases h
     ·cases h
    ·cases h
   ·rename_i hx;split at h
    ·rename_i inf a b Hh ha hb';obtain⟨_,hok,hk⟩:=bind_some h;have hab:0<=a/\a<=b/\b<=0:=uD (Ij hok);have ha0:a=0:=A4
     have hb0:b=0:=A4
     subst ha0 hb0;have hv:=Mn (Bj hm.sl hx rfl);have hxo:=X.KZ (P:=P) (σ:=σ) (w:=w) (x:=x) (lo:=lo) (hi:=hi) (a:=0) (b:=0) (z:=inf.size) ht ⟨inf,Hh,rfl⟩ (tT _) (tT _) (tT _) hv
      (by rcases En hm.sl ha with h|⟨h,h'⟩;exact .inl h;exact .inr ⟨h,rfl⟩) (by rcases En hm.sl hb' with h|⟨h,h'⟩;exact .inl h;exact .inr ⟨h,rfl⟩)
     refine WL.dX rfl hd (hxo _ _ _ _ _) (WL.nil ⟨_,A1,L1,hk,hr.Cp rfl rfl,λg=>?_⟩);obtain⟨e1,e2,e3⟩:=hsame (isEmpty_nil (hG g));subst e1 e2 e3;have:(s1.Cp d .nils).it=s1.it:=by cases d<;>rfl
     rw[this];exact .refl
    ·cases h
   ·cases h
 ·split at h
  ·rename_i u m et hat;split at h
   ·cases h
   ·rename_i inf Hh;split at h
    ·rename_i i p hx;split at h
     ·rename_i T v hit;split at h
      ·rename_i e0 l0 hg;split at h
       ·rename_i m' e l;obtain⟨hb,h⟩:=Aj h;simp only[tF]at hb;split at h
        ·rename_i a b ha hb';obtain⟨_,hok,hk⟩:=bind_some h;have hab:0<=a/\a<=b/\b<=m:=uD (Ij hok);have hm:=hr0.mem;obtain⟨md,bb,h1,h2,h3⟩:=Jj (Bj hm.sl hx rfl);obtain⟨a1,ha1⟩:=tP hab.1;obtain⟨b1,hb1⟩:=tP (show 0<=b by omega);subst ha1 hb1;have hxo:=X.XI (P:=P) (σ:=σ) (w:=w) (x:=x) (lo:=lo) (hi:=hi) (a:=a1) (b:=b1) hat (Ci Hh hb.1.2) A4 A4 h3
          (by rcases En hm.sl ha with h|⟨h,h'⟩;exact .inl h;exact .inr ⟨h,A4⟩) (by rcases En hm.sl hb' with h|⟨h,h'⟩;exact .inl h;exact .inr ⟨h,A4⟩)
         refine Bt (p:= .view false i p e a1 (b1-a1)) hr0 hd hxo rfl ⟨md,_,h1,rfl,A4,A4,⟨_,_,(by rw[show((b1:Int)-a1).toNat=b1-a1 by omega]),A4,(λh=>by cases h),λhc=>⟨bb,h2,?_⟩⟩,(λh=>by cases h),λ_=>⟨bb,h2⟩⟩ hk;rw[uA A4,Fs];rfl
        ·cases h
       ·cases h
      ·cases h
     ·cases h
    ·cases h
  ·cases h
theorem gV{t:TypeId}{hi mx:Operand}{lo:Option Operand}{G:Prop}(hr0:Rel Z s σs A L σ w)(hd:Dv n ⟨d, .slice t x lo (some hi) (some mx),ty,pos,after,none⟩=true)(h:SQ vw s d t x lo hi mx k P=some r)(hG:G-> (owns (Bv s.sl x)).isEmpty=true):
  Kb P n ops ⟨d, .slice t x lo (some hi) (some mx),ty,pos,after,none⟩ Z s σs k r G A L σ w:=by
 unfold SQ at h;split at h
 ·rename_i et ht;split at h
  ·cases h
  ·rename_i s1 hs1;obtain⟨A1,L1,hr,hsame⟩:=Gj hr0 hs1;have hm:=hr.mem;split at h
   ·rename_i e0 l0 hx;split at h
    ·rename_i e l;split at h
     ·rename_i inf Hh;obtain⟨hb,h⟩:=Aj h;simp only[tF]at hb;split at h
      ·rename_i a b c ha hb' hc';obtain⟨_,hok,h⟩:=bind_some h;have hbc:b<=c/\c<=Aa l:=uD (Ij hok);obtain⟨y,hy,h⟩:=bind_some h;obtain⟨h1,h2,h3,h4,rfl⟩:=Px hy;obtain⟨c0,h5,h6⟩:=Ku (Bj hm.sl hx rfl);have hlen:=h6.len λx c h=>Ak.len h;obtain⟨q1,hq1⟩:=Nj hb' (Gl hm.sl hi (Tj hb'));obtain⟨q2,hq2⟩:=Nj hc' (Gl hm.sl mx (Tj hc'));unfold Aa at hbc;obtain⟨p',l',c',h7,h8,sT⟩:=X.gE (P:=P) (l:=a.toNat) (k:=b.toNat) (c:=c.toNat) (m:=l.length) ht (Ci Hh hb.1) (St.jR hr h5) (j:=0) rfl hlen (ZY hb.2) h3 A4 A4;have hxo:=h7 σ w x lo hi mx rfl (by rcases En hm.sl ha with h|⟨h,h'⟩;exact .inl (by rw[<-h1];exact h);exact .inr ⟨h,A4⟩)
        ⟨q1,by rw[hq1,<-h2]⟩ ⟨q2,by rw[hq2,show((c.toNat:Nat):Int)=c by omega]⟩
       have hall:Bd (Ak (λb=>A1 b/\Z.R b) w e) ((l.take b.toNat).drop a.toNat) ((c0.take (b.toNat*e.size)).drop (a.toNat*e.size)):=Bd.drop (λx c h=>Ak.len h) _ (Bd.take (λx c h=>Ak.len h) _ h6);have hv:Cg (λb=>A1 b/\Z.R b) w L1 (Bi vw (.cap e ((l.take b.toNat).drop a.toNat) (c-a))<| .val (.list e) ((l.take b.toNat).drop a.toNat)) (.slice p' l' c'):=by
        cases vw with
        |true=>exact⟨_,_,rfl,h8.fact 0 rfl,hall,A4,p',l',by rw[sT];congr 1;omega⟩
        |false=>exact DI (h8.fact 0 rfl) hall
       have hV:(Bi vw (PV.cap e ((l.take b.toNat).drop a.toNat) (c-a))<| .val (.list e) ((l.take b.toNat).drop a.toNat)).isV=true:=by cases vw<;>rfl
       refine WL.dX rfl hd (hxo _ _ _ _ _) (WL.nil ⟨_,A1,L1,h,hr.Cp hV hv,λg=>?_⟩);obtain⟨e1,e2,e3⟩:=hsame (isEmpty_nil (hG g));subst e1 e2 e3;have:∀q,(s1.Cp d q).it=s1.it:=λq=>by cases d<;>rfl
       rw[this];exact .refl
      ·cases h
     ·cases h
    ·cases h
   ·cases h
 ·cases h
theorem qF{x:e.T}(h:e.of p=some x):p.ZU=true:=by
 unfold ET.of cA at h;split at h
 ·rfl
 ·rfl
 ·rfl
 ·cases h
theorem XG{e:ET}(hr:Rel Z s σs A L σ w):∀{xs:List Operand} {l:List e.T},WI e (xs.map (Bv s.sl))=some l->
  Bd (Ak (λb=>A b/\Z.R b) w e) l ((xs.map (ev σ)).map λv:Value=>v.cells.toList).flatten/\l.length=xs.length/\∀v∈xs.map (ev σ),v.cells.size=e.size
 |[],l,h=>by simp only[vJ,WI,tJ]at h;subst h;exact⟨rfl,rfl,A6⟩
 |x::xs,l,h=>by
  simp only[tZ,WI]at h;split at h
  ·rename_i y ys hy hys;cases h;obtain⟨h1,h2,h3⟩:=XG hr hys;obtain⟨cs,h4,h5⟩:=Qv hr (Qc hr.mem.sl (x:=x) (qF hy));have h6:=Rk hy h5;refine⟨⟨cs,_,by simp[h4],h6,h1⟩,by simp[h2],λv hv=>?_⟩;simp only[tZ,List.mem_cons]at hv;rcases hv with rfl|hv
   ·rw[h4];simpa using h6.len
   ·exact h3 v hv
  ·cases h
theorem cG:∀{ps:List (Nat×Operand)} {m:Nat},fB m ps=true-> (ps.map λp=>(p.1,ev σ p.2))=(((ps.map Prod.snd).map (ev σ)).zipIdx m).map λp=>(p.2,p.1)
 |[],_,_=>rfl
 |(i,x)::ps,m,h=>by
  simp only[fB,tF]at h;simp only[tZ,List.zipIdx_cons,cG h.2,Bh h.1]
theorem VJ{t:TypeId}{len:Nat}{ps:Array (Nat×Operand)}{dn:Nat}{G:Prop}(hr0:Rel Z s σs A L σ w)(hd:Dv n ⟨some dn, .buildSlice t len ps,ty,pos,after,none⟩=true)
  (h:Xw P s (some dn) t len ps.toList k=some r) (hG:G-> (owns.go (ps.toList.map λp=>Bv s.sl p.2)).isEmpty=true):Kb P n ops ⟨some dn, .buildSlice t len ps,ty,pos,after,none⟩ Z s σs k r G A L σ w:=by
 unfold Xw at h;split at h
 ·cases h
 ·rename_i E hE;split at h
  ·cases h
  ·rename_i e he;obtain⟨hb,h⟩:=Aj h;simp only[tF]at hb;obtain⟨⟨⟨hb1,hb2⟩,hb3⟩,hb4⟩:=hb;split at h
   ·cases h
   ·rename_i s1 hs1;obtain⟨A1,L1,hr,hsame⟩:=Gj hr0 hs1;split at h
    ·rename_i l hl;have hl':WI e ((ps.toList.map Prod.snd).map (Bv s1.sl))=some l:=by rw[List.map_map];exact hl
     obtain⟨h1,h2,h3⟩:=XG hr hl';have hps:ps=ps.toList.toArray:=by simp
     rw[show(⟨some dn, .buildSlice t len ps,ty,pos,after,none⟩:Oper)=⟨some dn, .buildSlice t len ps.toList.toArray,ty,pos,after,none⟩ by rw[<-hps]];have hlen:((ps.toList.map Prod.snd).map (ev σ)).length=len:=by simpa using Bh hb3
     have hF:=St.JF (f:=RL Z.R L1 (.arr E e l) (((ps.toList.map Prod.snd).map (ev σ)).map λv:Value=>v.cells.toList).flatten) hr.same h1;refine WL.buildSlice (vs:=(ps.toList.map Prod.snd).map (ev σ)) (Wd hE) (MP hb1) hF (Ry (o:= .buildSlice t len ps) hd) (cG hb2) hlen hb4 h3 rfl (λp q c w' hs'=>WL.nil ?_);have h4:Bd (Ak (λb=>A1 b/\Z.R b) w' e) l (((ps.toList.map Prod.snd).map (ev σ)).map λv:Value=>v.cells.toList).flatten:=hs'.fact 0 rfl;refine VN.of (λg=>hsame (isEmpty_nil (hG g))) (Wq (a:= .arr E e l) (md:= .own e.size E (.slice p q c) _) hr hs'.OM ⟨rfl,rfl,h4⟩ rfl (λB=>?_) h);rw[S.new,hr.len];exact HM
    ·cases h
theorem gU{E:TypeId}{i len cap m:Nat}{q:Option Addr}{cs:List Value}{l:List e.T}(hr:Rel Z s σs A L σ w)(hi:L[i]? =some (.own e.size E (.slice q len cap) cs))(hm:m<=len)(hl:Bd (Ak (λb=>A b/\Z.R b) w e) l (cs.take (m*e.size))):
  Rel Z (((s.Jf i .dead).sub i .any).add (.arr E e l)) σs A (L.set i .dead++[.own e.size E (.slice q m cap) (cs.take (m*e.size))]) σ w:=by
 have hf:Frz (λb=>A b/\Z.R b) w L i .any:=⟨λz E' u c h=>⟨u,rfl,by rw[hi]at h;cases h;rfl⟩,rfl,rfl⟩;have hm2:=hr.mem.subst hf;have EC:(L.map MD.Dl)[i]? =some (Mob.own e.size E (.slice q len cap) cs):=hr.Dl hi;obtain⟨o,h1,h2,h3⟩:=(St.mobs hr).perm (GL EC).symm;have h4:(Mob.own e.size E (.slice q m cap) (cs.take (m*e.size))).holds o w:=by
  obtain⟨q',len',cap',g1,g2,g3,g4,g5,g6⟩:=h1;cases g1;have e5:m*e.size<=len*e.size:=tI _ hm;refine⟨q,m,cap,rfl,by rw[tV];omega,A4,g4,g5,λb hb=>?_⟩;obtain⟨arr,fr,k1,k2,k3,k4,k5⟩:=g6 b hb;exact⟨arr,fr,k1,k2,k3,k4,λj hj=>by rw[k5 j A4,List.getElem?_take,uB hj]⟩
 have h5:Bp w A (Mob.own e.size E (.slice q m cap) (cs.take (m*e.size))::(L.map MD.Dl).eraseIdx i):=⟨o,h4,h2,h3⟩;have h6:Bp w A (MD.dead.Dl::Mob.own e.size E (.slice q m cap) (cs.take (m*e.size))::(L.map MD.Dl).eraseIdx i):=⟨none,⟨none,0,0,rfl,A6,tT _,λ_=>rfl,λ_=>rfl,λb h=>by cases h⟩,λb hb=>(by cases hb),h5.Mr λb hb=>hb.elim id λh=>by cases h⟩;have h7:Bp w A ((MD.own e.size E (.slice q m cap) (cs.take (m*e.size))).Dl::(L.set i .dead).map MD.Dl):=by
  rw[vI];exact h6.perm ((List.Perm.swap _ _ _).trans ((Wj (m':=MD.dead.Dl) EC).cons _))
 have h8:St A w [PJ Z.R (L.set i .dead) ((s.Jf i .dead).sub i .any) σs σ, .old Z.M Z.w0] ((MD.own e.size E (.slice q m cap) (cs.take (m*e.size))).Dl::(L.set i .dead).map MD.Dl):=by
  refine⟨St.lt hr,λf hf=>?_,h7⟩;cases hf with
  |head=>exact hm2
  |tail _ hf=>exact hr.facts f (.tail _ hf)
 exact Rel.push (a:= .arr E e l) h8 ⟨rfl,rfl,hl⟩
theorem cC{E:TypeId}{s1:S}{i:Nat}(hr:Rel Z s σs A L σ w)(hz:0<e.size)(hx:(Bv s.sl x).ZU=true)(h:eY s E e (Bv s.sl x)=some (s1,i)):
  ∃L1,Rel Z s1 σs A L1 σ w/\∃c0,L1[i]? =some (.own e.size E (ev σ x) c0):=by
 have hv:=Gl hr.mem.sl x (PV.WW hx);unfold eY at h;split at h
 ·rename_i hp;cases h;rw[hp]at hv;have hev:=Mn hv;have hr':=Rel.push (a:= .arr E e []) (md:= .own e.size E (.slice none 0 0) []) (St.YY hr e.size E) ⟨rfl,rfl,rfl⟩;refine⟨_,hr',[],?_⟩;rw[S.new,hr.len,hev];simp
 ·rename_i j hp;rw[hp]at hv;split at h
  ·rename_i E' e' l hj;obtain⟨hb,h⟩:=Aj h;split at h
   ·rename_i he;cases h;subst he;have:=Bh hb;subst this;obtain⟨v,cs,h1,h2⟩:=hr.mem.arr hj;obtain⟨z,E',c,h3⟩:=Ns hv;rw[h1]at h3;cases h3;exact⟨L,hr,cs,h1⟩
   ·cases h
  ·cases h
 ·rename_i j p e1 lo n' hp;rw[hp]at hv;split at h
  ·rename_i E' e' l hj;obtain⟨hb,h⟩:=Aj h;simp only[tF,uO]at hb;obtain⟨⟨hE,h0⟩,he1⟩:=hb;split at h
   ·rename_i he;cases h;subst he he1;have:=Bh hE;subst this;subst h0;obtain⟨u,cs,h1,h2⟩:=hr.mem.arr hj;obtain⟨md,v1,h3,h4,k1,k2,_,k7,_⟩:=hv;rw[h1]at h3;cases h3;have h6:ev σ x=v1:=by simpa using h4
    obtain⟨s',E2,q,len,cap,c0,e1,e2,e3,_,e5⟩:=k7 rfl;cases e1;have e7:=e5 rfl;have hl:Bd (Ak (λb=>A b/\Z.R b) w e1) (Rg l 0 n') (cs.take (n'.toNat*e1.size)):=by
     have:=Bd.take (λx c h=>Ak.len h) n'.toNat h2;simpa [Rg]using this
    have hr':=gU hr h1 (m:=n'.toNat) (by simpa using e3) hl;refine⟨_,hr',cs.take (n'.toNat*e1.size),?_⟩;rw[h6,e7,S.new,hr.len];have:L.length=(L.set j .dead).length:=by simp
    rw[this,List.getElem?_append_right (tT _)];simp
   ·cases h
  ·cases h
 ·cases h
theorem lC{a:Item}{l:List e.T}(h:nT e a=some l):∃E,a= .arr E e l:=by
 unfold nT at h;split at h
 ·rename_i E e' l';split at h
  ·rename_i he;subst he;cases h;exact⟨E,rfl⟩
  ·cases h
 ·cases h
theorem cJ{E:TypeId}{i dn:Nat}{l m:List e.T}{cs ys:List Value}{v':Value}{w':World}{s0:S}{A0:Reg}{L0:List MD}{w0:World}(hr:Rel Z s σs A L σ w)(hi:L[i]? =some (.own e.size E v cs))(hl:Bd (Ak (λb=>A b/\Z.R b) w e) (l++m) (cs++ys))
  (hs:St A w' [RL Z.R L (.arr E e (l++m)) (cs++ys),PJ Z.R L s σs σ, .old Z.M Z.w0] ((L.map MD.Dl).set i (.own e.size E v' (cs++ys))))
  (hk:k ((((s.Jf i .dead).sub i .any).add (.arr E e (l++m))).Cp (some dn) (.own s.new))=some r):VN Z σs k r False A0 L0 s0.it w0 (Jf σ dn v') w':=by
 have h1:Bd (Ak (λb=>A b/\Z.R b) w' e) (l++m) (cs++ys):=hs.fact 0 rfl;have hone:v.oneCell'=true:=by obtain⟨p,len,cap,rfl,_⟩:=hr.Hl hi;rfl
 have hs1:=hs.OM;have hm:MemR (λb=>A b/\Z.R b) w' L s σs σ:=hs1.fact 0 rfl;have hf:Frz (λb=>A b/\Z.R b) w' L i .any:=⟨λz E' u c h=>⟨u,rfl,by rw[hi]at h;cases h;exact hone⟩,rfl,rfl⟩;have hm2:=hm.subst hf;have EC:(L.map MD.Dl)[i]? =some (Mob.own e.size E v cs):=hr.Dl hi;have hs2:=Bp.DJ hs1 (Wj (m':=Mob.own e.size E v' (cs++ys)) EC).symm;have hs3:=Bp.DJ (hs2.YY 1 0) (List.Perm.swap _ _ _);have hs4:=Bp.DJ hs3 ((Wj (m':=MD.dead.Dl) EC).cons _);have hs5:St A w' [PJ Z.R (L.set i .dead) ((s.Jf i .dead).sub i .any) σs σ, .old Z.M Z.w0] ((MD.own e.size E v' (cs++ys)).Dl::(L.set i .dead).map MD.Dl):=by
  rw[vI];exact(hs4.rZ.JF (f:= .old Z.M Z.w0) (hs4.fact 1 rfl)).JF (f:=PJ Z.R (L.set i .dead) ((s.Jf i .dead).sub i .any) σs σ) hm2
 have hr2:=Rel.push (a:= .arr E e (l++m)) hs5 ⟨rfl,rfl,h1⟩;have hnew:s.new=(L.set i .dead).length:=by rw[List.length_set,<-hr.len];rfl
 refine⟨_,A,_,hk,hr2.Cp (d:=some dn) rfl ?_,λg=>g.elim⟩;rw[hnew];exact HM
theorem jL(z:Array Value)(hz:0<z.size)(m:Nat):((List.replicate m z.toList).flatten).toArray=Builtin.zeroCells z m:=by
 apply Array.ext
 ·simp[Builtin.zeroCells]
 ·intro j h1 h2;simp only[Builtin.zeroCells,Array.getElem_map,Array.getElem_range];have h3:j<m*z.size:=by simpa [Builtin.zeroCells]using h2
  have h4:=SW z.toList z.size A6 hz m j h3;have h5:j %z.size<z.size:=Nat.mod_lt _ hz;simp only[List.getElem_toArray];rw[List.getElem?_eq_getElem (by simpa using h1)]at h4;simp[h5]at h4;simp[h4,h5]
theorem lJ{E t t2:TypeId}{kk:List e.T->Option R}(hr:Rel Z s σs A L σ w)(ht:P.underlying t=some (.slice E))(hel:ElemOk P E e.size)(h:nS P s E e t2 y kk=some r):
  ∃m ys,kk m=some r/\Bd (Ak (λb=>A b/\Z.R b) w e) m ys/\∀(A1:Reg) (F:List Fact) (LL:List Mob) (i ll:Nat) (vx:Value) (cs:List Value),St A1 w F LL->LL[i]? =some (.own e.size E vx cs)->cs.length=ll*e.size->ll+m.length<=aH->
   ∃v' w',(Builtin.append_ #[t,t2] ty #[vx,ev σ y]).run P w= .ok v' w'/\St A1 w' F (LL.set i (.own e.size E v' (cs++ys))):=by
 unfold nS at h;split at h
 ·rename_i ht2;split at h
  ·rename_i m0 hy;split at h
   ·rename_i m hm;unfold Wx at hm;split at hm
    ·rename_i he;cases he;cases hm;refine⟨m0,Oj m0,h,YC.Qr,λA1 F LL i ll vx cs hs hL hlen hlim=>?_⟩;rw[Gn hr.mem.sl hy];exact GK (x:=y) (y:=y) ht hel hs hL (Src.string ht2) (lI m0) hlen (by simp[Oj,ET.size]) hlim
    ·cases hm
   ·cases h
  ·cases h
 ·rename_i sU ht2;split at h
  ·rename_i m hm;have hV:(Bv s.sl y).isV=true:=by
    cases hq:(Bv s.sl y).isV with
    |true=>rfl
    |false=>rcases Ik hq with h|h|⟨_,_,_,h⟩<;>rw[h]at hm<;>cases hm
   obtain⟨c0,h1,h2⟩:=BH hr.mem hm (Gl hr.mem.sl y hV);have hrd:Rd (λ_=>True) w e.size (ev σ y) c0:=by
    rcases h2 with h2|⟨j,E',u,cs',_,h2,hpart⟩
    ·exact h2.step (λ_ _=>trivial) (λ_ _=>rfl)
    ·exact hpart _ _ (hr.Hl h2)
   have WE:=h1.len λx c h=>Ak.len h;exact⟨m,c0,h,h1,λA1 F LL i ll vx cs hs hL hlen hlim=>GK (x:=y) (y:=y) ht hel hs hL (Src.slice ⟨_,ht2⟩ hrd WE hel.pos) h1.ZG hlen WE hlim⟩
  ·cases h
 ·rename_i tD ht2;split at h
  ·rename_i q z hq hz;split at h
   ·rename_i x0 hx0;obtain⟨m,hm,h⟩:=bind_some h;obtain⟨h1,h2,rfl⟩:=bG hm;obtain⟨zv,⟨i0,hi0,hz0⟩,hz2⟩:=Ro hz;have hx1:=Rk hx0 (hz2 (λb=>A b/\Z.R b) w L);have hall:=YH hx1 q.toNat;refine⟨_,_,h,hall,λA1 F LL i ll vx cs hs hL hlen hlim=>?_⟩;rw[RJ hq (Gl hr.mem.sl y (YQ hq)),h1];have hzs:zv.cells.size=e.size:=by have:=hx1.len;simpa using this
    rw[List.length_replicate]at hlim;exact ZW (x:=y) (y:=y) (ly:=q.toNat) ht hel hs hL ⟨_,ht2⟩ (λi z' hi hz'=>by rw[hi0]at hi;cases hi;rw[hz0]at hz';cases hz';exact jL zv.cells (by rw[hzs];exact hel.pos) _)
     hall.ZG hlen ((hall.len λx c h=>Ak.len h).trans A6) hlim
   ·cases h
  ·cases h
 ·cases h
theorem lH{t2:TypeId}{m:List e.T}(hr:Rel Z s σs A L σ w)(hz:0<e.size)(h:oI P s e t2 y=some m):∃ys,Bd (Ak (λb=>A b/\Z.R b) w e) m ys/\Src P w t2 (ev σ y) e.size m.length ys:=by
 unfold oI at h;split at h
 ·rename_i ht2;split at h
  ·rename_i m0 hy;unfold Wx at h;split at h
   ·rename_i he;cases he;cases h;refine⟨Oj m0,YC.Qr,?_⟩;rw[Gn hr.mem.sl hy];exact Src.string ht2
   ·cases h
  ·cases h
 ·rename_i sU ht2;have hV:(Bv s.sl y).isV=true:=by
   cases hq:(Bv s.sl y).isV with
   |true=>rfl
   |false=>rcases Ik hq with h'|h'|⟨_,_,_,h'⟩<;>rw[h']at h<;>cases h
  obtain⟨c0,h1,h2⟩:=BH hr.mem h (Gl hr.mem.sl y hV);have hrd:Rd (λ_=>True) w e.size (ev σ y) c0:=by
   rcases h2 with h2|⟨j,E',u,cs',_,h2,hpart⟩
   ·exact h2.step (λ_ _=>trivial) (λ_ _=>rfl)
   ·exact hpart _ _ (hr.Hl h2)
  exact⟨c0,h1,Src.slice ⟨_,ht2⟩ hrd (h1.len λx c h=>Ak.len h) hz⟩
 ·cases h
theorem mC{l:List e.T}{c:Int}(h:oF e p=some (l,c)):p= .cap e l c:=by
 unfold oF at h;split at h
 ·split at h
  ·rename_i he;subst he;cases h;rfl
  ·cases h
 ·cases h
theorem hO{t t2:TypeId}{dn:Nat}(hr0:Rel Z s σs A L σ w)(hd:Dv n ⟨some dn, .call ⟨.builtin .append, #[x,y], #[t,t2]⟩,ty,pos,after,none⟩=true)
  (h:RT P s (some dn) x y t t2 k=some r):Kb P n ops ⟨some dn, .call ⟨.builtin .append, #[x,y], #[t,t2]⟩,ty,pos,after,none⟩ Z s σs k r False A L σ w:=by
 unfold RT at h;split at h
 ·cases h
 ·rename_i E hE;split at h
  ·cases h
  ·rename_i e he;obtain⟨hb,h⟩:=Aj h;simp only[tF]at hb;have hel:=MP hb.1;split at h
   ·rename_i l c hcap;split at h
    ·rename_i m hm;obtain⟨r',ha,hk⟩:=bind_some h;obtain⟨h3,rfl⟩:=LO ha;obtain⟨_,hok,hk⟩:=bind_some hk;have hlt:c<Aa (l++m):=uD (Ij hok);obtain⟨ys,hy1,hy2⟩:=lH hr0 hel.pos hm;obtain⟨v0,c0,g1,g2,g3,g4,p,len,g5⟩:=Bj hr0.mem.sl (mC hcap) rfl;cases g1;have hlen:=g3.len λx c h=>Ak.len h;have WE:=hy1.len λx c h=>Ak.len h;unfold Aa at hlt;rw[tM]at hlt;obtain⟨v',w',h4,h5⟩:=bJ (ty:=ty) (Wd hE) hel hr0.same (g2.step (A':=λ_=>True) (λ_ _=>trivial) (λ_ _=>rfl)) g5 A4 hy2 hlen WE h3;refine WL.val (v:=v') (w':=w') rfl rfl (Ry hd) ?_ (WL.nil (Wq (a:= .arr E e (l++m)) (md:= .own e.size E v' (c0++ys)) hr0 h5 ⟨rfl,rfl,?_⟩ rfl (λB=>?_) hk))
     ·simp[execOp,resolve,invoke,builtin,h4]
     ·obtain⟨k1,k2⟩:(∀b,A b->A b)/\Same A w w':=h5.fact 0 rfl;exact(g3.append hy1).mono λx c h=>Ak.step (λ_ h=>h) (λb hb=>k2 b hb.1) h
     ·rw[S.new,hr0.len];exact HM
    ·cases h
   split at h
   ·cases h
   ·rename_i s1 i hown;obtain⟨L1,hr,cs,hi⟩:=cC hr0 hel.pos hb.2 hown;split at h
    ·cases h
    ·rename_i l hl;obtain⟨E',hit⟩:=lC hl;obtain⟨v1,cs1,h1,h2⟩:=hr.mem.arr hit;rw[hi]at h1;cases h1;have hlen:=h2.len λx c h=>Ak.len h;obtain⟨m,ys,hk,hm,hrun⟩:=lJ (ty:=ty) hr0 (Wd hE) hel h;obtain⟨r',ha,hk⟩:=bind_some hk;obtain⟨h3,rfl⟩:=LO ha;have hF:=St.JF (f:=RL Z.R L1 (.arr E e (l++m)) (cs++ys)) hr (h2.append hm);obtain⟨v',w',h4,h5⟩:=hrun A _ _ i l.length (ev σ x) cs hF (hr.Dl hi) hlen h3;refine WL.val (v:=v') (w':=w') rfl rfl (Ry hd) ?_ (WL.nil (cJ hr hi (h2.append hm) h5 hk));simp[execOp,resolve,invoke,builtin,h4]
end Go.Rx
namespace Go.Rx
open Go Go.Lv
variable {P:Program} {B:Reg} {w w':World} {L L':List MD} {s:S} {σs:List Env} {σ:Env} {Z:Fix} {A A':Reg} {n:Nat} {ops:Array Oper} {rest:List Oper} {K:Env->World->Prop}
variable {R:Type} {k:S->Option R} {r:R} {d:Option Nat} {ty:TypeId} {pos:String} {after:Array Edge}
theorem XD{place:Nat->Option (Nat×Nat)}{acc ns:List Value}{i off z:Nat}{v:Value}{rest:List (Nat×Value)}(hp:place i=some (off,z))(hv:v.cells=ns.toArray)(hz:ns.length=z)(hl:off+z<=acc.length):
  Instr.fill place acc.toArray ((i,v)::rest)=Instr.fill place (Ar acc off ns).toArray rest:=by
 have hf:=BI off ns 0 acc A4;have kG:v.cells.zipIdx.foldl (λcs (x:Value×Nat)=>cs.setIfInBounds (off+x.2) x.1) acc.toArray=(Ar acc off ns).toArray:=by
  rw[hv,<-Array.foldl_toList,Array.toList_zipIdx];simpa using hf
 simp only[Instr.fill,hp];have hc:(decide (v.cells.size≠z)||decide (off+v.cells.size>acc.toArray.size))=false:=by rw[hv];simp;omega
 rw[uA (by rw[hc];simp)]
 show Instr.fill _ (v.cells.zipIdx.foldl (λcs (x:Value×Nat)=>cs.setIfInBounds (off+x.2) x.1) acc.toArray) _=_;rw[kG]
def places:List PV->Nat->List (Nat×Nat)
 |[],_=>[]
 |v::vs,off=>(off,v.size)::places vs (off+v.size)
theorem SF:∀{l:List PV} {i off:Nat} {u:PV},l[i]? =some u-> (places l off)[i]? =some (off+RO l i,u.size)
 |[],_,_,_,h=>by simp at h
 |a::l,0,off,u,h=>by simp at h;subst h;rfl
 |a::l,i+1,off,u,h=>by
  have:=SF (l:=l) (i:=i) (off:=off+a.size) (by simpa using h);simpa [places,RO,tW]using this
theorem RR:∀{l:List PV} {i off:Nat} {u v:PV},l[i]? =some u->u.size=v.size->places (l.set i v) off=places l off
 |[],_,_,_,_,h,_=>by simp at h
 |a::l,0,off,u,v,h,hs=>by simp at h;subst h;simp[places,hs]
 |a::l,i+1,off,u,v,h,hs=>by simp[places,RR (l:=l) (i:=i) (by simpa using h) hs]
theorem PF:∀{fs:List Field} {vs:List PV} {off:Nat},Vs P fs vs off=true-> (fs.map λf=>(f.offset,(P.info? f.type).map (·.size)))=(places vs off).map λp=>(p.1,some p.2)
 |[],[],_,_=>rfl
 |[],_::_,_,h=>by simp[Vs]at h
 |_::_,[],_,h=>by simp[Vs]at h
 |f::fs,v::vs,off,h=>by
  simp only[Vs,tF]at h;obtain⟨⟨h1,h2⟩,h3⟩:=h;split at h2
  ·rename_i i hi;simp[places,PF h3,hi,Bh h1,Bh h2]
  ·cases h2
theorem OS(hr:Rel Z s σs A L σ w){pl:List (Nat×Nat)}:∀{parts:List (Nat×Operand)} {zs l:List PV} {acc:List Value},CO (parts.map λp=>(p.1,Bv s.sl p.2)) zs=some l->
  places zs 0=pl->Ap.go (λb=>A b/\Z.R b) w L zs acc->∃cells,Instr.fill (pl[·]?) acc.toArray (parts.map λp=>(p.1,ev σ p.2))=some cells.toArray/\Ap.go (λb=>A b/\Z.R b) w L l cells
 |[],zs,l,acc,h,_,ha=>by simp only[vJ,CO,tJ]at h;subst h;exact⟨acc,rfl,ha⟩
 |(i,x)::ps,zs,l,acc,h,hpl,ha=>by
  subst hpl;simp only[tZ,CO]at h;split at h
  ·rename_i u hu;obtain⟨hb,h⟩:=Aj h;simp only[tF]at hb;have hsz:=Bh hb.1;obtain⟨ns,h1,h2⟩:=Qv hr (Qc hr.mem.sl (x:=x) hb.2);obtain⟨c1,c2,c3,e,h3,h4,h5⟩:=Ap.field ha hu;have hlen:=h2.len;have FJ:=h4.len;obtain⟨cells,h6,h7⟩:=OS hr (zs:=zs.set i (Bv s.sl x)) (acc:=c1++(ns++c3)) h (by rw[RR hu hsz]) (h5 _ _ h2);refine⟨cells,?_,h7⟩;rw[tZ,XD (off:=c1.length) (z:=u.size) (ns:=ns) (by rw[SF hu,uP,h3]) h1 A4 (by rw[e];simp;omega),e,Xi A4];exact h6
  ·cases h
theorem aW(hr:Rel Z s σs A L σ w){e:ET}:∀{parts:List (Nat×Operand)} {l l':List e.T} {acc:List Value},TJ e (parts.map λp=>(p.1,Bv s.sl p.2)) l=some l'->
  Bd (Ak (λb=>A b/\Z.R b) w e) l acc->∃cells,Instr.fill (λi=>some (i*e.size,e.size)) acc.toArray (parts.map λp=>(p.1,ev σ p.2))=some cells.toArray/\Bd (Ak (λb=>A b/\Z.R b) w e) l' cells/\l'.length=l.length
 |[],l,l',acc,h,ha=>by simp only[vJ,TJ,tJ]at h;subst h;exact⟨acc,rfl,ha,rfl⟩
 |(i,x)::ps,l,l',acc,h,ha=>by
  simp only[tZ,TJ]at h;split at h
  ·rename_i u y hu hy;obtain⟨ns,h1,h2⟩:=Qv hr (Qc hr.mem.sl (x:=x) (qF hy));have h3:=Rk hy h2;obtain⟨c1,c2,c3,e',h4,h5,h6⟩:=Bd.get (λx c h=>Ak.len h) ha hu;have hlen:=h3.len;have FJ:=h5.len;obtain⟨cells,h7,h8,h9⟩:=aW hr (l:=l.set i y) (acc:=c1++(ns++c3)) h (h6 _ _ h3);refine⟨cells,?_,h8,by rw[h9,List.length_set]⟩;rw[tZ,XD (off:=c1.length) (z:=e.size) (ns:=ns) (by rw[h4]) h1 hlen (by rw[e'];simp;omega),e',Xi A4];exact h7
  ·cases h
theorem gQ{t et:TypeId}{m z:Nat}{parts:List (Nat×Operand)}{zv:Value}{cells:List Value}(ht:P.underlying t=some (.array m et))(hz:∃i,P.info? t=some i/\i.zero=some zv)(hsz:Di P et z)
  (hf:Instr.fill (λi=>some (i*z,z)) zv.cells (parts.map λp=>(p.1,ev σ p.2))=some cells.toArray) (w:World):XO P σ w (.build t parts.toArray) (.agg cells.toArray):=λ_ _ _ _ _=>by
 obtain⟨i,hi,hz⟩:=hz;simp only[execOp,Instr.build,tK,zeroValue,typeInfo];simp[hi,hz,tH ht,Az hsz,hf]
theorem iF{t:TypeId}{ps:Array (Nat×Operand)}{G:Prop}(hr:Rel Z s σs A L σ w)(hd:Dv n ⟨d, .build t ps,ty,pos,after,none⟩=true)(h:XU P s d t ps.toList k=some r):
  Kb P n ops ⟨d, .build t ps,ty,pos,after,none⟩ Z s σs k r G A L σ w:=by
 have hps:ps=ps.toList.toArray:=by simp
 rw[show(⟨d, .build t ps,ty,pos,after,none⟩:Oper)=⟨d, .build t ps.toList.toArray,ty,pos,after,none⟩ by rw[<-hps]];unfold XU at h;split at h
 ·rename_i fs zs ht hz;obtain⟨hb,h⟩:=Aj h;obtain⟨z,⟨i,hi,hz0⟩,hz2⟩:=Ro hz;split at h
  ·rename_i l hl;obtain⟨cells,h1,h2⟩:=OS hr (pl:=places zs 0) hl rfl (show Ap.go _ w L zs _ from hz2 _ _ _);have hst:Wt P t (places zs 0) z.cells.toList:=by
    unfold Wt Xx;rw[ht];simp only[PF hb,hi,hz0,uN]
   exact Bt hr (d:=d) (o:= .build t ps.toList.toArray) (by simpa using hd) (X.build hst rfl (by simpa using h1)) rfl (show Cg _ w L (.agg l) _ from⟨cells,rfl,h2⟩) h
  ·cases h
 ·rename_i m et e0 l0 ht hz;split at h
  ·rename_i m' a l;split at h
   ·rename_i inf l' Hh hl;obtain⟨hb,h⟩:=Aj h;obtain⟨z,hz1,hz2⟩:=Ro hz;obtain⟨h0,h0'⟩:l.length=m'/\Bd (Ak (λb=>A b/\Z.R b) w a) l z.cells.toList:=hz2 _ _ L;obtain⟨cells,h1,h2,h3⟩:=aW hr hl h0';have:=gQ (σ:=σ) (parts:=ps.toList) ht hz1 (Ci Hh hb) (by simpa using h1) w;exact Bt hr (d:=d) (o:= .build t ps.toList.toArray) (by simpa using hd) this rfl (show Cg _ w L (.val (.vec m' a) l') _ from⟨cells,rfl,h3.trans h0,h2⟩) h
   ·cases h
  ·cases h
 ·cases h
end Go.Rx
namespace Go.Rx
open Go Go.Lv
variable{e:ET}{q:PV}
variable {P:Program} {B B':Reg} {w w':World} {L L':List MD} {s:S} {σs:List Env} {σ:Env} {Z:Fix} {A A':Reg} {n:Nat}
def Yx(B:Reg)(w:World)(L:List MD)(B':Reg)(w':World)(L':List MD)(q q':PV):Prop:=q'.isA=q.isA/\∀cs,Ap B w L q cs->Ap B' w' L' q' cs
inductive All2 {α β:Type} (f:α->β->Prop):List α->List β->Prop
 |nil:All2 f [] []
 |cons {a b l m}:f a b->All2 f l m->All2 f (a::l) (b::m)
theorem All2.split{α β:Type}{f:α->β->Prop}:∀{l1 l2:List α} {m:List β},All2 f (l1++l2) m->∃m1 m2,m=m1++m2/\All2 f l1 m1/\All2 f l2 m2
 |[],_,m,h=>⟨[],m,rfl, .nil,h⟩
 |a::l1,l2,_, .cons h1 h2=>let⟨m1,m2,e,h3,h4⟩:=All2.split h2;⟨_::m1,m2,by rw[e];rfl, .cons h1 h3,h4⟩
mutual
theorem GB:∀{sh:Sh} {p:PV} {ls ls' rest:List PV} {cs:List Value},Ie sh p=some ls->Ap B w L p cs->All2 (Yx B w L B' w' L') ls ls'->∃p',Gw sh (ls'++rest)=some (p',rest)/\p'.isA=p.isA/\Ap B' w' L' p' cs
 | .lf e o,p,ls,ls',rest,cs,h,hp,ha=>by
  simp only[Ie,tJ]at h;subst h;cases ha with
  |cons h1 h2=>
   cases h2;exact⟨_,rfl,h1.1,h1.2 _ hp⟩
 | .agg l,p,ls,ls',rest,cs,h,hp,ha=>by
  cases p<;>simp only[Ie,reduceCtorEq]at h;rename_i vs;obtain⟨us,h1,h2⟩:=NT (rest:=rest) h (show Ap.go B w L vs cs from hp) ha;exact⟨.agg us,by simp only[Gw,h1],rfl,h2⟩
theorem NT:∀{l:List Sh} {ps:List PV} {ls ls' rest:List PV} {cs:List Value},Ie.go l ps=some ls->Ap.go B w L ps cs->All2 (Yx B w L B' w' L') ls ls'->∃ps',Gw.go l (ls'++rest)=some (ps',rest)/\Ap.go B' w' L' ps' cs
 |[],[],ls,ls',rest,cs,h,hp,ha=>by
  simp only[Ie.go,tJ]at h;subst h;cases ha;exact⟨[],rfl,hp⟩
 |a::l,p::ps,ls,ls',rest,cs,h,⟨c1,c2,e,hp1,hp2⟩,ha=>by
  simp only[Ie.go]at h;split at h
  ·rename_i x y hx hy;cases h;obtain⟨m1,m2,rfl,h1,h2⟩:=ha.split;obtain⟨p',h3,_,h4⟩:=GB (rest:=m2++rest) hx hp1 h1;obtain⟨ps',h5,h6⟩:=NT (rest:=rest) hy hp2 h2;exact⟨p'::ps',by simp only[Gw.go,uC,h3,h5],c1,c2,e,h4,h6⟩
  ·cases h
 |[],_::_,_,_,_,_,h,_,_=>by simp[Ie.go]at h
 |_::_,[],_,_,_,_,h,_,_=>by simp[Ie.go]at h
end
theorem EO:∀{l:List Sh} {ps:List PV} {ls ls' rest:List PV} {us:List Value},Ie.go l ps=some ls->Ca B w L ps us->All2 (Yx B w L B' w' L') ls ls'->∃ps',Gw.go l (ls'++rest)=some (ps',rest)/\Ca B' w' L' ps' us
 |[],[],ls,ls',rest,us,h,hp,ha=>by
  simp only[Ie.go,tJ]at h;subst h;cases ha;exact⟨[],rfl,hp⟩
 |a::l,p::ps,ls,ls',rest,us,h,⟨v,us',e,hp1,hp2⟩,ha=>by
  simp only[Ie.go]at h;split at h
  ·rename_i x y hx hy;cases h;obtain⟨m1,m2,rfl,h1,h2⟩:=ha.split;have key:∃p',Gw a (m1++(m2++rest))=some (p',m2++rest)/\eO p'.isA (Ap B' w' L' p') v:=by
    cases hA:p.isA with
    |true=>
     rw[hA]at hp1;obtain⟨cs,e1,hc⟩:=hp1;obtain⟨p',h3,h4,h5⟩:=GB (rest:=m2++rest) hx hc h1;exact⟨p',h3,by rw[h4,hA];exact⟨cs,e1,h5⟩⟩
    |false=>
     rw[hA]at hp1;obtain⟨p',h3,h4,h5⟩:=GB (rest:=m2++rest) hx hp1 h1;exact⟨p',h3,by rw[h4,hA];exact h5⟩
   obtain⟨p',h3,h4⟩:=key;obtain⟨ps',h5,h6⟩:=EO (rest:=rest) hy hp2 h2;exact⟨p'::ps',by simp only[Gw.go,uC,h3,h5],v,us',e,h4,h6⟩
  ·cases h
 |[],_::_,_,_,_,_,h,_,_=>by simp[Ie.go]at h
 |_::_,[],_,_,_,_,h,_,_=>by simp[Ie.go]at h
theorem JZ{l:List Sh}{ps ls ls':List PV}{us:List Value}(h:fU l ps=some ls)(hp:Ca B w L ps us)(ha:All2 (Yx B w L B' w' L') ls ls'):∃ps',AY l ls'=some ps'/\Ca B' w' L' ps' us:=by
 obtain⟨ps',h1,h2⟩:=EO (rest:=[]) h hp ha;rw[tY]at h1;exact⟨ps',by simp only[AY,h1],h2⟩
theorem aN{x:e.T}(h:CU s e q=some x):(∃e0,e= .list e0)\/ (∃e' x',q= .val e' x'/\Wx e' e x'=some x):=by
 unfold CU at h;split at h
 ·exact .inl ⟨_,rfl⟩
 ·exact .inr ⟨_,_,rfl,h⟩
 ·cases h
theorem cast_eq{e':ET}{x:e.T}{y:e'.T}(h:Wx e e' x=some y):PV.val e x=PV.val e' y:=by
 unfold Wx at h;split at h
 ·rename_i he;subst he;cases h;rfl
 ·cases h
theorem gY{l:List e.T}(h:ZF s e q=some l):elems s e q=some l/\q.isA=false/\q.size=1:=by
 unfold ZF at h;refine⟨h,?_⟩;unfold elems at h;split at h
 ·split at h
  ·exact⟨rfl,rfl⟩
  ·cases h
 ·exact⟨rfl,rfl⟩
 ·exact⟨rfl,rfl⟩
 ·exact⟨rfl,rfl⟩
 ·exact⟨rfl,rfl⟩
 ·cases h
theorem bY(hr:Rel Z s σs A L σ w){x:e.T}(h:CU s e q=some x)(hb:∀b,A b/\Z.R b->B' b)(ho:∀i∈owns q,∀z E v c,L[i]? =some (.own z E v c)->Rd B' w z v c):Yx (λb=>A b/\Z.R b) w L B' w L' q (.val e x):=by
 rcases aN h with⟨e0,rfl⟩|⟨e',x',rfl,hc⟩
 ·obtain⟨h1,hA,h2⟩:=gY (show ZF s e0 q=some x from h);refine⟨by rw[hA];rfl,λcs hcs=>?_⟩;have hP:=hcs.MN;have hlen:=hcs.len;have:∃v,cs=[v]:=by
   rw[h2]at hlen
   match cs,hlen with
   |[v],_=>exact⟨v,rfl⟩
  obtain⟨v,rfl⟩:=this;have hv:Cg (λb=>A b/\Z.R b) w L q v:=(BE hP).2 (by unfold Dr;rw[hA];exact hcs);obtain⟨c0,h3,h4⟩:=BH hr.mem h1 hv;refine⟨v,c0,rfl,?_,h3.mono λx c h=>Ak.step hb (λ_ _=>rfl) h⟩;rcases h4 with h4|⟨i,E,u,cs,hi,h4,hpart⟩
  ·exact h4.step hb (λ_ _=>rfl)
  ·exact hpart _ _ (ho i hi _ _ _ _ h4)
 ·have:=cast_eq hc;rw[this];exact⟨rfl,λcs h=>Ak.step hb (λ_ _=>rfl) (show Ak _ w e x cs from h)⟩
theorem fH{x:e.T}{s0:S}:Ce e none x s0=(.val e x,s0):=by cases e<;>rfl
theorem RH(x:Pd [])(s0:S):Cj [] x s0=([],s0):=rfl
theorem Xc(p:ET×Option TypeId)(x:Pd [p])(s0:S):Cj [p] x s0=([(Ce p.1 p.2 x s0).1],(Ce p.1 p.2 x s0).2):=rfl
theorem Td(p q:ET×Option TypeId)(r:List (ET×Option TypeId))(x:p.1.T)(y:Pd (q::r))(s0:S):Cj (p::q::r) (x,y) s0=
  ((Ce p.1 p.2 x s0).1::(Cj (q::r) y (Ce p.1 p.2 x s0).2).1,(Cj (q::r) y (Ce p.1 p.2 x s0).2).2):=rfl
theorem sJ{p:ET×Option TypeId}:Qw s [p] []=none:=rfl
theorem sH{p:ET×Option TypeId}{r:PV}{qs:List PV}:Qw s [p] (q::r::qs)=none:=rfl
theorem sN{qs:List PV}:Qw s [] (q::qs)=none:=rfl
theorem sM{p q:ET×Option TypeId}{r:List (ET×Option TypeId)}:Qw s (p::q::r) []=none:=rfl
theorem sL{p q:ET×Option TypeId}{r:List (ET×Option TypeId)}{v:PV}{vs:List PV}:Qw s (p::q::r) (v::vs)=(match CU s p.1 v,Qw s (q::r) vs with|some x,some y=>some ((x,y):p.1.T×Pd (q::r))|_,_=>none):=rfl
theorem bS{qs:List PV}{x:Pd []}(h:Qw s [] qs=some x):qs=[]:=by
 match qs,h with
 |[],_=>rfl
 |_::_,h=>rw[sN]at h;cases h
theorem bE{p:ET×Option TypeId}{qs:List PV}{x:Pd [p]}(h:Qw s [p] qs=some x):∃q,qs=[q]/\CU s p.1 q=some x:=by
 match qs,h with
 |[],h=>rw[sJ]at h;cases h
 |[q],h=>exact⟨q,rfl,h⟩
 |q::r::qs,h=>rw[sH]at h;cases h
theorem XA{p q:ET×Option TypeId}{r:List (ET×Option TypeId)}{qs:List PV}{z:Pd (p::q::r)}(h:Qw s (p::q::r) qs=some z):
  ∃v vs,∃(x:p.1.T) (y:Pd (q::r)),qs=v::vs/\z=(x,y)/\CU s p.1 v=some x/\Qw s (q::r) vs=some y:=by
 match qs,h with
 |[],h=>rw[sM]at h;cases h
 |v::vs,h=>
  rw[sL]at h;split at h
  ·rename_i x y hx hy;cases h;exact⟨v,vs,x,y,rfl,rfl,hx,hy⟩
  ·cases h
def Fe(L:List MD):List (ET×Option TypeId)->List PV->List MD
 |p::r,v::vs=>match p.2 with
  |none=>Fe L r vs
  |some E=>(match p.1,v with
   | .list _, .own i=>L.getD i .dead
   | .list a,_=> .own a.size E (.slice none 0 0) []
   |_,_=> .dead)::Fe L r vs
 |_,_=>[]
theorem KJ:∀{ls:List (ET×Option TypeId)} {vs:List PV} {is:List Nat},WK ls=true->consume s ls vs=some is->is=[]
 |[],[],is,_,h=>by simp[consume]at h;exact h
 |[],_::_,_,_,h=>by simp[consume]at h
 |_::_,[],_,_,h=>by simp[consume]at h
 |(e,none)::r,v::vs,is,hn,h=>KJ (ls:=r) (vs:=vs) (by simpa [WK]using hn) (by simpa [consume]using h)
 |(e,some _)::r,v::vs,is,hn,h=>by simp[WK]at hn
theorem HO{N:Reg}:∀{ls:List (ET×Option TypeId)} {vs:List PV} {is:List Nat} {A:Reg},consume s ls vs=some is->Bp w A (is.map λi=>(L.getD i .dead).Dl)->Bp w A ((Fe L ls vs).map MD.Dl)
 |[],[],_,_,_,_=>trivial
 |[],_::_,_,_,h,_=>by simp[consume]at h
 |_::_,[],_,_,h,_=>by simp[consume]at h
 |(e,none)::r,v::vs,is,A,h,hm=>HO (N:=N) (ls:=r) (vs:=vs) (by simpa [consume]using h) hm
 |(e,some E)::r,v::vs,is,A,h,hm=>by
  simp only[consume]at h;split at h
  ·rename_i a;exact⟨none,⟨none,0,0,rfl,A6,tT _,λ_=>rfl,λ_=>rfl,λb h=>by cases h⟩,λb hb=>(by cases hb),(HO (N:=N) h hm).Mr λb hb=>hb.elim id (λh=>by cases h)⟩
  ·rename_i a i;split at h
   ·rename_i E' a' l hi;obtain⟨_,h⟩:=Aj h;simp only[uG]at h;obtain⟨is',h1,rfl⟩:=h;obtain⟨o,g1,g2,g3⟩:=hm;exact⟨o,g1,g2,HO (N:=N) h1 g3⟩
   ·cases h
  ·cases h
theorem XJ{B1:Reg}(hr:Rel Z s σs A L σ w)(hb:∀b,A b/\Z.R b->B1 b):∀(ls:List (ET×Option TypeId)) (vs:List PV) (x:Pd ls) (is:List Nat) (s0:S) (Lx LF:List MD),
  Qw s ls vs=some x->consume s ls vs=some is-> (∀i∈Hn ls vs,∀z E v c,L[i]? =some (.own z E v c)->Rd B1 w z v c)->Lx.length=s0.it.length->LF=Lx++Fe L ls vs->
  ∃its,(Cj ls x s0).2=⟨s0.sl,s0.it++its,s0.st⟩/\its.length=(Fe L ls vs).length/\All2 (Yx (λb=>A b/\Z.R b) w L B1 w LF) vs (Cj ls x s0).1/\
   ∀(i:Nat) (a:Item) (m:MD),its[i]? =some a-> (Fe L ls vs)[i]? =some m->Jp B1 w LF a m
 |[],vs,x,is,s0,Lx,LF,hp,hc,_,_,_=>by
  rw[bS hp];refine⟨[],?_,rfl,All2.nil,λi a m h=>by simp at h⟩;rw[RH];simp
 |p::ls,vs,x,is,s0,Lx,LF,hp,hc,ho,hlen,cW=>by
  have main:∀(v:PV) (vs':List PV) (x1:p.1.T) (rest:S->List PV×S),vs=v::vs'->CU s p.1 v=some x1->
    (Cj (p::ls) x s0=((Ce p.1 p.2 x1 s0).1::(rest (Ce p.1 p.2 x1 s0).2).1,(rest (Ce p.1 p.2 x1 s0).2).2))->
    (∀(is:List Nat) (s1:S) (Lx:List MD),consume s ls vs'=some is-> (∀i∈Hn ls vs',∀z E v c,L[i]? =some (.own z E v c)->Rd B1 w z v c)->Lx.length=s1.it.length->LF=Lx++Fe L ls vs'->
     ∃its,(rest s1).2=⟨s1.sl,s1.it++its,s1.st⟩/\its.length=(Fe L ls vs').length/\All2 (Yx (λb=>A b/\Z.R b) w L B1 w LF) vs' (rest s1).1/\
      ∀(i:Nat) (a:Item) (m:MD),its[i]? =some a-> (Fe L ls vs')[i]? =some m->Jp B1 w LF a m)->
    ∃its,(Cj (p::ls) x s0).2=⟨s0.sl,s0.it++its,s0.st⟩/\its.length=(Fe L (p::ls) vs).length/\All2 (Yx (λb=>A b/\Z.R b) w L B1 w LF) vs (Cj (p::ls) x s0).1/\
     ∀(i:Nat) (a:Item) (m:MD),its[i]? =some a-> (Fe L (p::ls) vs)[i]? =some m->Jp B1 w LF a m:=by
   intro v vs' x1 rest hvs hx hu hrest;subst hvs;rw[hu];obtain⟨e,o⟩:=p;cases o with
   |none=>
    have hc':consume s ls vs'=some is:=by simpa [consume]using hc
    have e1:Ce e none x1 s0=(.val e x1,s0):=fH;simp only[e1];obtain⟨its,h1,h2,h3,h4⟩:=hrest is s0 Lx hc' (λi hi=>ho i (by simp[Hn,hi])) hlen cW;refine⟨its,h1,h2, .cons (bY hr hx hb (λi hi z E v c hL=>ho i (by simp[Hn,hi]) z E v c hL)) h3,h4⟩
   |some E=>
    simp only[consume]at hc;split at hc
    ·rename_i a;have hx':x1=[]:=by
      have:elems s a .nils=some x1:=hx;simpa [elems]using this.symm
     subst hx';have e1:Ce (.list a) (some E) [] s0=(.own s0.new,s0.add (.arr E a [])):=rfl;simp only[e1];obtain⟨its,h1,h2,h3,h4⟩:=hrest is (s0.add (.arr E a [])) (Lx++[.own a.size E (.slice none 0 0) []]) hc (λi hi=>ho i (by simpa [Hn]using hi)) (by simp[S.add,hlen]) (by rw[cW];simp[Fe]);refine⟨.arr E a []::its,by rw[h1];simp[S.add],by simp[Fe,h2], .cons ⟨rfl,λcs hcs=>?_⟩ h3,λi b m hi hm=>?_⟩
     ·refine⟨a.size,E, .slice none 0 0,[],?_,hcs⟩;rw[cW,S.new,<-hlen];simp[Fe]
     ·cases i with
      |zero=>
       simp[Fe]at hi hm;subst hi hm;exact⟨rfl,rfl,rfl⟩
      |succ i=>exact h4 i b m (by simpa using hi) (by simpa [Fe]using hm)
    ·rename_i a i;split at hc
     ·rename_i E' a' l hi;obtain⟨hb1,hc1⟩:=Aj hc;clear hc;simp only[tF,uO]at hb1;obtain⟨hE,rfl⟩:=hb1;have:=Bh hE;subst this;simp only[uG]at hc1;obtain⟨is',hc',rfl⟩:=hc1;obtain⟨u,cs0,g1,g2⟩:=hr.mem.arr hi;have hx':x1=l:=by
       have:elems s a' (.own i)=some x1:=hx;simp[elems,hi]at this;exact this.symm
      subst hx';have hg:L.getD i .dead= .own a'.size E' u cs0:=by simp[List.getD_eq_getElem?_getD,g1]
      have e1:Ce (.list a') (some E') x1 s0=(.own s0.new,s0.add (.arr E' a' x1)):=rfl;simp only[e1];obtain⟨its,h1,h2,h3,h4⟩:=hrest is' (s0.add (.arr E' a' x1)) (Lx++[.own a'.size E' u cs0]) hc' (λi hi=>ho i (by simpa [Hn]using hi)) (by simp[S.add,hlen]) (by rw[cW];simp only[Fe,hg];simp);refine⟨.arr E' a' x1::its,by rw[h1];simp[S.add],by simp[Fe,h2], .cons ⟨rfl,λcs hcs=>?_⟩ h3,λq b m hq hm=>?_⟩
      ·obtain⟨z,E2,v2,c2,k1,k2⟩:=hcs;rw[g1]at k1;cases k1;refine⟨a'.size,E',u,cs0,?_,k2⟩;rw[cW,S.new,<-hlen];simp only[Fe,hg];simp
      ·cases q with
       |zero=>
        simp only[Fe,hg]at hq hm;simp at hq hm;subst hq hm;exact⟨rfl,rfl,g2.mono λx c h=>Ak.step hb (λ_ _=>rfl) h⟩
       |succ q=>exact h4 q b m (by simpa using hq) (by simpa [Fe]using hm)
     ·cases hc
    ·cases hc
  cases ls with
  |nil=>
   obtain⟨v,rfl,hx⟩:=bE hp;exact main v [] x (λs1=>([],s1)) rfl hx (Xc p x s0) (λis s1 Lx _ _ hlen cW=>⟨[],A6,rfl,All2.nil,λi a m h=>by simp at h⟩)
  |cons q r=>
   obtain⟨v,vs',x1,y',rfl,rfl,hx,hy⟩:=XA hp;exact main v vs' x1 (λs1=>Cj (q::r) y' s1) rfl hx (Td p q r x1 y' s0)
    (λis s1 Lx hc ho hlen cW=>XJ hr hb (q::r) vs' y' is s1 Lx LF hy hc ho hlen cW)
theorem aV:∀(a b:List PV),owns.go (a++b)=owns.go a++owns.go b
 |[],b=>rfl
 |x::a,b=>by simp[owns.go,aV a b]
mutual
theorem dO:∀{sh:Sh} {p:PV} {ls:List PV},Ie sh p=some ls->owns.go ls=owns p
 | .lf e o,p,ls,h=>by simp only[Ie,tJ]at h;subst h;simp[owns.go]
 | .agg l,p,ls,h=>by cases p<;>simp only[Ie,reduceCtorEq]at h;exact GD h
theorem GD:∀{l:List Sh} {ps ls:List PV},Ie.go l ps=some ls->owns.go ls=owns.go ps
 |[],[],ls,h=>by simp only[Ie.go,tJ]at h;subst h;rfl
 |a::l,p::ps,ls,h=>by
  simp only[Ie.go]at h;split at h
  ·rename_i x y hx hy;cases h;rw[aV,dO hx,GD hy];rfl
  ·cases h
 |[],_::_,_,h=>by simp[Ie.go]at h
 |_::_,[],_,h=>by simp[Ie.go]at h
end
structure KeepN (N:Reg) (w w':World):Prop where
 same:∀b,b<w.heap.size->N b->w'.heap[b]? =w.heap[b]?
 gr:Gr w w'
def GlOk(gl:List (Nat×List Value))(N:Reg)(w:World):Prop:=∀p∈gl,p.1<w.heap.size/\N p.1/\∃T fr,w.heap[p.1]? =some (.cells p.2.toArray T fr)
def nA(gl:List (Nat×List Value))(R N:Reg)(w w':World)(rs:List Sh)(y:Pd (Jb rs))(us:List Value):Prop:=
 KeepN N w w'/\∃(A1:Reg) (L1:List MD),(∀b,A1 b-> (¬N b\/w.heap.size<=b)/\b<w'.heap.size)/\Bp w' (λb=>A1 b\/ (b<w.heap.size/\N b)) (L1.map MD.Dl)/\
  ∀(s:S) (L:List MD) (B':Reg),L.length=s.it.length-> (∀b,A1 b->B' b)-> (mJ rs=true->∀b,(R b/\N b)\/ (∃p∈gl,p.1=b)->B' b)->
   ∃ps its,(Cj (Jb rs) y s).2=⟨s.sl,s.it++its,s.st⟩/\AY rs (Cj (Jb rs) y s).1=some ps/\Ca B' w' (L++L1) ps us/\its.length=L1.length/\
   ∀(i:Nat) (a:Item) (m:MD),its[i]? =some a->L1[i]? =some m->Jp B' w' (L++L1) a m
structure ConOk (P:Program) (gl:List (Nat×List Value)) (f:Nat) (c:Con):Prop where
 ent:Ent P f
 ok:∀(R N:Reg) (w:World) (L0:List MD) (vs:List Value) (ps:List PV) (x:Pd (Jb c.ps)) (y:Pd (Jb c.rs)),args c.ps x=some ps-> (cT c.ps x).length=L0.length->
  (∀(i:Nat) (a:Item) (m:MD),(cT c.ps x)[i]? =some a->L0[i]? =some m->Jp (λb=>R b/\N b) w L0 a m)->Bp w N (L0.map MD.Dl)->Ca (λb=>R b/\N b) w L0 ps vs->GlOk gl N w->c.fn x=some y->
  Calls P f vs.toArray w λe w'=>∃us,e= .returned (Po us)/\nA gl R N w w' c.rs y us
end Go.Rx
namespace Go.Rx
open Go Go.Lv
variable{g:Operand}{G:Prop}
variable {P:Program} {B B':Reg} {w w':World} {L L':List MD} {s:S} {σs:List Env} {σ:Env} {Z:Fix} {A A':Reg} {n:Nat} {ops:Array Oper}
variable {R:Type} {k:S->Option R} {r:R} {d:Option Nat} {ty:TypeId} {pos:String} {after:Array Edge} {T:Tab} {inl:YW R}
def Vq(P:Program)(gl:List (Nat×List Value))(inl:YW R):Prop:=∀(Z:Fix),Z.gl=gl->∀(f:Nat) (as:List PV) (s:S) (k:S->PV->Option R) (r:R) (σs:List Env) (A:Reg) (L:List MD) (σ:Env) (w:World) (vs:List Value),
 inl f as s k=some r->Rel Z s σs A L σ w->Ca (λb=>A b/\Z.R b) w L as vs->Ent P f/\Calls P f vs.toArray w λe w'=>∃v p s' A' L',e= .returned v/\k s' p=some r/\Rel Z s' σs A' L' σ w'/\p.isV=true/\Cg (λb=>A' b/\Z.R b) w' L' p v
def Yp(P:Program)(T:Tab):Prop:=∀f c,T.get f=some c->ConOk P T.gl f c
def DP(P:Program)(T:Tab)(Z:Fix):Prop:=Yp P T/\Z.gl=T.gl
theorem Ca.step{q:List PV}{vs:List Value}(hb:∀b,B b->B' b)(hs:Same B w w')(hl:Zz L L')(h:Ca B w L q vs):Ca B' w' L' q vs:=Ap.OQ hb hs hl h
theorem Ca.append:∀{p q:List PV} {us vs:List Value},Ca B w L p us->Ca B w L q vs->Ca B w L (p++q) (us++vs)
 |[],q,us,vs,h,h'=>by rw[show us=[]from h];exact h'
 |a::p,q,us,vs,⟨v,us',e,h1,h2⟩,h'=>⟨v,us'++vs,by rw[e];rfl,h1,Ca.append h2 h'⟩
theorem cE{ps:List PV}{us:List Value}(h:Ca B w L ps us):(bC ps).isV=true/\Cg B w L (bC ps) (Po us):=by
 match ps,us,h with
 |[],us,h=>rw[show us=[]from h];exact⟨rfl,[],rfl,rfl⟩
 |[p],us,⟨v,us',e,h1,h2⟩=>
  rw[show us'=[]from h2]at e;subst e;exact Ef h1
 |p::q::r,us,h=>
  obtain⟨v,us',e,h1,v2,sD,e2,h2,h3⟩:=h;subst e2 e;exact⟨rfl,v::v2::sD,rfl,v,_,rfl,h1,v2,sD,rfl,h2,h3⟩
theorem Rel.gZ{w':World}{A1 BX:Reg}{L1:List MD}{its:List Item}(hr:Rel Z s σs A L σ w)(nH:∀b,BX b-> ¬A b/\b<w.heap.size)(hY:Bp w (λb=>A b\/BX b) (L.map MD.Dl))
  (hk:KeepN (λb=>¬BX b) w w') (hA1:∀b,A1 b-> (¬ ¬BX b\/w.heap.size<=b)/\b<w'.heap.size)
  (hm:Bp w' (λb=>A1 b\/ (b<w.heap.size/\ ¬BX b)) (L1.map MD.Dl)) (hlen:its.length=L1.length)
  (hit:∀(i:Nat) (a:Item) (m:MD),its[i]? =some a->L1[i]? =some m->Jp (λb=>(A b\/A1 b)/\Z.R b) w' (L++L1) a m):
  Rel Z ⟨s.sl,s.it++its,s.st⟩ σs (λb=>A b\/A1 b) (L++L1) σ w':=by
 have hlt:=St.lt hr;have hsame:Same A w w':=λb hb=>hk.same b (hlt b hb) λh=>(nH b h).1 hb;have hmem:MemR (λb=>A b/\Z.R b) w' L s σs σ:=Fact.step _ (hr.fact 0 (f:=PJ Z.R L s σs σ) rfl) (λ_ h=>h) hsame hk.gr;have hold:(Fact.old Z.M Z.w0).holds A w':=Fact.step _ (hr.fact 1 (f:= .old Z.M Z.w0) rfl) (λ_ h=>h) hsame hk.gr;have hl:=Zz.append L L1;have hst:St (λb=>A b\/A1 b) w' [.old Z.M Z.w0] (L1.map MD.Dl++L.map MD.Dl):=by
  refine⟨λb hb=>hb.elim (λh=>uE (hlt b h) hk.gr.le) (λh=>(hA1 b h).2),λf hf=>?_,?_⟩
  ·cases hf with
   |head=>exact Fact.step _ hold (λ_ h=> .inl h) (λ_ _=>rfl) (.refl _)
   |tail _ h=>cases h
  ·refine Bp.append (λb=>b<w.heap.size/\ ¬BX b) (λb hb=>uE hb.1 hk.gr.le) (hm.Mr ?_) ?_
   ·rintro b ((h|h)|h)
    ·exact .inr ⟨hlt b h,λhx=>(nH b hx).1 h⟩
    ·exact .inl h
    ·exact .inr h
   ·refine(hY.lt.step hk.gr.le λb hb hn=>hk.same b hb λh=>hn (.inl (.inr h))).Mr ?_;rintro b ((h|h)|h)
    ·exact .inl (.inl h)
    ·rcases(hA1 b h).1 with h|h
     ·exact .inl (.inr (Classical.not_not.1 h))
     ·exact .inr h
    ·by_cases hx:BX b
     ·exact .inl (.inr hx)
     ·exact .inr (Nat.le_of_not_lt λhl=>h ⟨hl,hx⟩)
 have hb:∀b,A b/\Z.R b-> (A b\/A1 b)/\Z.R b:=λb h=>⟨.inl h.1,h.2⟩;refine Rel.as (Bp.DJ hst List.perm_append_comm) (i:=0) rfl ⟨⟨?_,?_⟩,hmem.sl.step hb (λ_ _=>rfl) hl,hmem.stk.step hb (λ_ _=>rfl) hl⟩ (by rw[uW])
 ·simp[hmem.it.1,hlen]
 ·intro i a m g1 g2;simp only at g1;rcases uT i s.it.length with hi|hi
  ·rw[List.getElem?_append_left hi]at g1;rw[List.getElem?_append_left (by rw[<-hmem.it.1];exact hi)]at g2;exact(hmem.it.2 i a m g1 g2).step hb (λ_ _=>rfl) hl
  ·rw[List.getElem?_append_right hi]at g1;rw[List.getElem?_append_right (by rw[<-hmem.it.1];exact hi)]at g2;rw[hmem.it.1]at g1;exact hit _ a m g1 g2
theorem Bp.split:∀{X Y:List Mob} {A:Reg},Bp w A (X++Y)->∃BX:Reg,(∀b,BX b-> ¬A b/\b<w.heap.size)/\Bp w (λb=>¬BX b) X/\Bp w (λb=>A b\/BX b) Y
 |[],Y,A,h=>⟨λ_=>False,λb hb=>hb.elim,trivial,h.Mr λb hb=>hb.elim id λh=>h.elim⟩
 |m::X,Y,A,⟨o,h1,h2,h3⟩=>by
  obtain⟨BX,g1,g2,g3⟩:=Bp.split h3;refine⟨λb=>BX b\/o=some b,λb hb=>?_,⟨o,h1,λb hb=>⟨λh=>h (.inr hb),(h2 b hb).2⟩,g2.Mr ?_⟩,g3.Mr ?_⟩
  ·rcases hb with hb|hb
   ·exact⟨λh=>(g1 b hb).1 (.inl h),(g1 b hb).2⟩
   ·exact h2 b hb
  ·rintro b (hb|hb)
   ·exact λh=>hb (.inl h)
   ·exact λh=>(g1 b h).1 (.inr hb)
  ·rintro b (hb|hb|hb)
   ·exact .inl (.inl hb)
   ·exact .inr hb
   ·exact .inl (.inr hb)
theorem Bp.pB:∀{Y:List Mob} {A:Reg} {i:Nat} {m:Mob},Bp w A Y->Y[i]? =some m->∃o,m.holds o w/\∀b,o=some b-> ¬A b
 |_::_,A,0,m,⟨o,h1,h2,_⟩,h=>⟨o,by simp at h;exact h▸h1,λb hb=>(h2 b hb).1⟩
 |_::Y,A,i+1,m,⟨o,_,_,h3⟩,h=>by
  obtain⟨q,g1,g2⟩:=Bp.pB h3 (i:=i) (by simpa using h);exact⟨q,g1,λb hb hA=>g2 b hb (.inl hA)⟩
theorem cM{w:World}:MD.dead.Dl.holds none w:=⟨none,0,0,rfl,A6,tT _,λ_=>rfl,λ_=>rfl,λb h=>by cases h⟩
theorem Kv{i:Nat}:∀{l:List Nat},Jm i l=true↔i∈l
 |[]=>by simp[Jm]
 |j::l=>by
  simp only[Jm,uV,List.mem_cons,Kv (l:=l)];exact or_congr ⟨Bh,λh=>by subst h;simp⟩ Iff.rfl
theorem MM{f:Item->Item}(hf:f .dead= .dead):∀{l:List Item} {i:Nat},Bg (l.map f) i=f (Bg l i)
 |[],_=>by simp[Bg,hf]
 |_::_,0=>rfl
 |_::r,i+1=>by simpa [Bg]using MM hf (l:=r) (i:=i)
theorem CT:∀{l:List Item} {i j:Nat},Bg l i= .dead->Bg (Lp l j .dead) i= .dead
 |[],_,_,h=>by simpa [Lp]using h
 |_::_,0,0,_=>rfl
 |_::_,0,j+1,h=>by simpa [Lp,Bg]using h
 |_::_,i+1,0,h=>by simpa [Lp,Bg]using h
 |_::r,i+1,j+1,h=>by simpa [Lp,Bg]using CT (l:=r) (i:=i) (j:=j) (by simpa [Bg]using h)
theorem AN:∀{l:List Item} {i:Nat},Bg (Lp l i .dead) i= .dead
 |[],_=>rfl
 |_::_,0=>rfl
 |_::r,i+1=>by simpa [Lp,Bg]using AN (l:=r) (i:=i)
theorem TS{i:Nat}:∀{is:List Nat} {s s':S},Bg s.it i= .dead->s.OZ is=some s'->Jm i is=false
 |[],_,_,_,_=>rfl
 |j::is,s,s',hd,h=>by
  simp only[S.OZ]at h;split at h
  ·rename_i s1 h1;unfold S.kill at h1;split at h1
   ·rename_i E e l hj;cases h1;have hij:Nat.beq i j=false:=by
     cases hb:Nat.beq i j with
     |false=>rfl
     |true=>rw[Bh hb]at hd;rw[hd]at hj;cases hj
    have:Bg ((s.Jf j .dead).sub j .any).it i= .dead:=by
     show Bg ((Lp s.it j .dead).map _) i=_;rw[MM rfl,CT hd];rfl
    simp[Jm,hij,TS this h]
   ·cases h1
  ·cases h
theorem cB:∀{is:List Nat} {s s':S} {L:List MD},MemR B w L s σs σ-> (∀(i z:Nat) (E:TypeId) (v:Value) (c:List Value),L[i]? =some (.own z E v c)->v.oneCell'=true)->s.OZ is=some s'->
  ∃L',MemR B w L' s' σs σ/\ (is=[]->L'=L)/\ (∀j,Jm j is=false->L'[j]? =L[j]?)/\∀(A:Reg) (X:List Mob),Bp w A (X++L.map MD.Dl)->Bp w A (X++(is.map λi=>(L.getD i .dead).Dl)++L'.map MD.Dl)
 |[],s,s',L,hm,_,h=>by
  simp only[S.OZ,tJ]at h;subst h;exact⟨L,hm,λ_=>rfl,λ_ _=>rfl,λA X hX=>by simpa using hX⟩
 |i::is,s,s',L,hm,hone,h=>by
  simp only[S.OZ]at h;split at h
  ·rename_i s1 h1;unfold S.kill at h1;split at h1
   ·rename_i E e l hi;cases h1;obtain⟨v,cs,hL,_⟩:=hm.arr hi;have hf:Frz B w L i .any:=⟨λz E' u c h=>⟨u,rfl,by rw[hL]at h;cases h;exact hone _ _ _ _ _ hL⟩,rfl,rfl⟩;have hm2:=hm.subst hf;have hlt:=(List.getElem?_eq_some_iff.1 hL).1;obtain⟨L',g1,g2,g3,g4⟩:=cB hm2 (λj z E v c hj=>by
     by_cases hji:j=i
     ·subst hji;rw[List.getElem?_set_self hlt]at hj;cases hj
     ·rw[List.getElem?_set_ne (vC hji)]at hj;exact hone _ _ _ _ _ hj) h
    refine⟨L',g1,(λe=>by cases e),λj hj=>?_,λA X hX=>?_⟩
    ·simp only[Jm,uL]at hj;rw[g3 j hj.2,List.getElem?_set_ne (λe=>by subst e;simp at hj)]
    ·have EC:(L.map MD.Dl)[i]? =some (L.getD i .dead).Dl:=by simp[hL,List.getD_eq_getElem?_getD]
     have hX1:Bp w A (MD.dead.Dl::(L.map MD.Dl).eraseIdx i++(X++[(L.getD i .dead).Dl])):=by
      have h1:Bp w A (MD.dead.Dl::(X++L.map MD.Dl)):=⟨none,cM,λb hb=>(by cases hb),hX.Mr λb hb=>hb.elim id λh=>by cases h⟩;refine h1.perm (.cons _ ?_);have hp:=(GL EC).symm;refine(List.Perm.append_left X hp).trans ?_;rw[show X++(L.getD i .dead).Dl::(L.map MD.Dl).eraseIdx i=(X++[(L.getD i .dead).Dl])++(L.map MD.Dl).eraseIdx i by simp];exact List.perm_append_comm
     have hX2:Bp w A ((X++[(L.getD i .dead).Dl])++(L.set i .dead).map MD.Dl):=by
      refine hX1.perm (List.perm_append_comm.trans (List.Perm.append_left _ ?_));rw[vI];exact Wj EC
     have:=g4 A _ hX2;have hni:Jm i is=false:=TS (s:=(s.Jf i .dead).sub i .any) (by
      show Bg ((Lp s.it i .dead).map _) i=_;rw[MM rfl,AN];rfl) h
     have he:(is.map λj=>((L.set i .dead).getD j .dead).Dl)=is.map λj=>(L.getD j .dead).Dl:=by
      refine List.map_congr_left λj hj=>?_;have:j≠i:=λe=>by
       subst e;rw[Kv.2 hj]at hni;cases hni
      simp only[List.getD_eq_getElem?_getD,List.getElem?_set_ne (vC this)]
     rw[he]at this;simpa using this
   ·cases h1
  ·cases h
theorem Ak.pZ:∀{e:ET} {x:e.T} {cs:List Value},e.UL=false->Ak B w e x cs->Ak B' w' e x cs
 | .int k,x,cs,_,h=>h
 | .bool,x,cs,_,h=>h
 | .str,x,cs,_,h=>h
 | .list e,l,cs,hL,h=>by cases hL
 | .vec m e,l,cs,hL,⟨h1,h2⟩=>⟨h1,h2.mono λx c h=>Ak.pZ (e:=e) hL h⟩
 | .cons a q,x,cs,hL,⟨c1,c2,e,h1,h2⟩=>by
  simp only[ET.UL,uL]at hL;exact⟨c1,c2,e,Ak.pZ hL.1 h1,Ak.pZ hL.2 h2⟩
 | .nil,_,cs,_,h=>h
theorem SJ:∀{ls:List (ET×Option TypeId)} {vs:List PV},owns.go vs=[]->Hn ls vs=[]
 |[],_,_=>by unfold Hn;rfl
 |_::_,[],_=>by unfold Hn;rfl
 |(e,o)::ls,v::vs,h=>by
  simp only[owns.go,List.append_eq_nil_iff]at h;cases o<;>simp[Hn,h.1,SJ h.2]
theorem Rel.out(hr:Rel Z s σs A L σ w){b:Nat}(hb:¬A b):Z.R b:=by
 rcases uT b Z.w0.heap.size with hlt|hge
 ·have hold:=(hr.fact 1 (f:= .old Z.M Z.w0) rfl).2 b hlt;exact Z.mod b (Classical.byContradiction λhM=>hb (hold hM).1)
 ·exact Z.new b hge
theorem jF{f:Nat}{fs:List PV}{as:Array Operand}{ts:Array TypeId}{dn:Nat}(hT:DP P T Z)(hI:Vq P T.gl inl)(hr0:Rel Z s σs A L σ w)(hg:Bv s.sl g= .bfn f fs)
  (hd:Dv n ⟨some dn, .call ⟨.value g,as,ts⟩,ty,pos,after,none⟩=true) (hP:TW (as.toList.map (Bv s.sl))=true) (h:inl f (fs++as.toList.map (Bv s.sl)) s (λs v=>k (s.Cp (some dn) v))=some r) (hG:¬G):
  Kb P n ops ⟨some dn, .call ⟨.value g,as,ts⟩,ty,pos,after,none⟩ Z s σs k r G A L σ w:=by
 obtain⟨fvs,hgv,hfs⟩:∃vs:List Value,ev σ g= .func (.func f) vs.toArray #[]/\Ca (λb=>A b/\Z.R b) w L fs vs:=by
  obtain⟨vs,h1,h2⟩:=Bj hr0.mem.sl hg rfl;exact⟨vs,by simpa using h1,h2⟩
 have hpv:=Ca.append hfs (DE hr0.mem.sl _ hP);obtain⟨he,hcall⟩:=hI Z hT.2 f _ s _ r σs A L σ w _ h hr0 hpv;have hxe:XE P σ w (.call ⟨.value g,as,ts⟩) f (fvs++as.toList.map (ev σ)).toArray:=λ_ _ _ _ _=>by
  have h1:(callFunc f (fvs.toArray++as.map (ev σ))).run P w= .ok (.enter f (fvs.toArray++as.map (ev σ))) w:=he _ w;have h2:(fvs++as.toList.map (ev σ)).toArray=fvs.toArray++as.map (ev σ):=by apply Array.ext';simp
  rw[h2];simp[execOp,resolve,hgv,Deferred.ofValue,invoke,h1]
 refine WL.e (Ry hd) hxe hcall ?_;rintro e w' ⟨v,p,s',A',L',rfl,hk,hr',hv,hv'⟩;exact⟨_,rfl,WL.nil ⟨_,A',L',hk,hr'.Cp (d:=some dn) hv hv',λgg=>absurd gg hG⟩⟩
theorem lM{f:Nat}{caps:List PV}{as:Array Operand}{ts:Array TypeId}{dn:Nat}(hT:DP P T Z)(hI:Vq P T.gl inl)(hr0:Rel Z s σs A L σ w)(hg:Bv s.sl g= .fn f caps)
  (hd:Dv n ⟨some dn, .call ⟨.value g,as,ts⟩,ty,pos,after,none⟩=true) (h:eJ P T inl s (some dn) f caps as.toList k=some r)
  (hG:G->∃c,T.get f=some c/\WK (Jb c.ps)=true/\ (SI c=false\/owns.go (as.toList.map (Bv s.sl))=[])):
  Kb P n ops ⟨some dn, .call ⟨.value g,as,ts⟩,ty,pos,after,none⟩ Z s σs k r G A L σ w:=by
 obtain⟨sE,hgv,nI⟩:=lB (Bj hr0.mem.sl hg rfl);have has:as=as.toList.toArray:=by simp
 have hxe:Ent P f->XE P σ w (.call ⟨.value g,as,ts⟩) f (as.toList.map (ev σ)++sE).toArray:=λhe=>by
  have:=X.pT (P:=P) (σ:=σ) (w:=w) (args:=as.toList) (ts:=ts) he hgv rfl;rw[<-has]at this;exact this
 unfold eJ at h;split at h
 ·rename_i c hc;have hcon:=hT.1 f c hc;split at h
  ·have hc0:sE=[]:=nI;subst hc0;split at h
   ·cases h
   ·rename_i qJ qL;split at h
    ·cases h
    ·rename_i s1 hs1;obtain⟨A1,L1,hr,hsame⟩:∃A1 L1,Rel Z s1 σs A1 L1 σ w/\ (G->s1=s/\A1=A/\L1=L):=by
      split at hs1
      ·rename_i hro;obtain⟨A1,L1,h1,h2⟩:=Gj hr0 hs1;refine⟨A1,L1,h1,λg=>h2 ?_⟩;obtain⟨c',hc',_,h3⟩:=hG g;rw[hc]at hc';cases hc';rcases h3 with h3|h3
       ·rw[hro]at h3;cases h3
       ·exact SJ (by rw[GD qL];exact h3)
      ·cases hs1;exact⟨A,L,hr0,λ_=>⟨rfl,rfl,rfl⟩⟩
     cases hP:TW (as.toList.map (Bv s1.sl))with
     |false=>rw[hP]at h;cases h
     |true=>
     rw[hP]at h;simp only[uX,vG]at h;try dsimp only[Bi]at h
     split at h
     ·cases h
     ·rename_i ls hls;cases kK:(SI c&& !(Hn (Jb c.ps) ls).isEmpty)with
      |true=>rw[kK]at h;cases h
      |false=>
      rw[kK]at h;dsimp only[Bi,cond]at h;split at h
      ·cases h
      ·rename_i x hx;split at h
       ·cases h
       ·rename_i is his;cases oQ:(!((Hn (Jb c.ps) ls).all λi=>!Jm i is))with
        |true=>rw[oQ]at h;cases h
        |false=>
        rw[oQ]at h;dsimp only[Bi,cond]at h;split at h
        ·cases h
        ·rename_i s2 hs2;obtain⟨y,hy,h⟩:=bind_some h;change (match AY c.rs (Cj (Jb c.rs) y s2).1 with|some vs=>k ((Cj (Jb c.rs) y s2).2.Cp (some dn) (bC vs))|none=>none)=some r at h;have hpv:=DE hr.mem.sl _ hP;have hone:∀(i z:Nat) (E:TypeId) (v:Value) (c:List Value),L1[i]? =some (.own z E v c)->v.oneCell'=true:=λi z E v c hi=>by
          obtain⟨p,len,cap,rfl,_⟩:=hr.Hl hi;rfl
         obtain⟨L2,hm2,hnil,hget,qM⟩:=cB hr.mem hone hs2;obtain⟨BX,nH,hX,hY⟩:=Bp.split (qM A1 [] (by simpa using St.mobs hr));have hr2:Rel Z s2 σs A1 L2 σ w:=Rel.as (h:=(⟨St.lt hr,hr.facts,hY.Mr λ_ h=> .inl h⟩:St A1 w _ (L2.map MD.Dl))) (i:=1) rfl hm2 rfl;have hL0:Bp w (λb=>¬BX b) ((Fe L1 (Jb c.ps) ls).map MD.Dl):=HO (N:=λ_=>True) his (by simpa using hX);have key:∀R0:Reg,(∀b,A1 b/\Z.R b->R0 b)-> (Hn (Jb c.ps) ls=[]\/∀b,R0 b)-> (SI c=true->∀b,R0 b->A1 b/\Z.R b)->
           Kb P n ops ⟨some dn, .call ⟨.value g,as,ts⟩,ty,pos,after,none⟩ Z s σs k r G A L σ w:=by
          intro R0 h1 h2 h3;have hb1:∀b,A1 b/\Z.R b->R0 b/\ ¬BX b:=λb hb=>⟨h1 b hb,λhx=>(nH b hx).1 hb.1⟩;obtain⟨rJ,e1,e2,e3,e4⟩:=XJ (B1:=λb=>R0 b/\ ¬BX b) hr hb1 (Jb c.ps) ls x is ⟨[],[],[]⟩ [] (Fe L1 (Jb c.ps) ls) hx his (λi hi z E v cc sV=>by
           rcases h2 with h2|h2
           ·rw[h2]at hi;cases hi
           ·have hni:Jm i is=false:=by
             have:=oQ;simp only[Bool.not_eq_false',List.all_eq_true,tS]at this;exact this i hi
            have rK:=(hget i hni).trans sV;obtain⟨o,g1,g2⟩:=Bp.pB hY (hr2.Dl rK);exact(Go.Lv.Hl g1).step (λb hb=>⟨h2 b,λhx=>g2 b hb (.inr hx)⟩) (λ_ _=>rfl)) rfl rfl
          obtain⟨ps,h5,h6⟩:=JZ hls hpv e3;have mP:cT c.ps x=rJ:=by unfold cT;rw[e1];rfl
          have hcall:=hcon.ok R0 (λb=>¬BX b) w _ _ ps x y h5 (by rw[mP];exact e2) (by rw[mP];exact e4) hL0 h6 (λp hp=>by
           obtain⟨hA,T1,fr,hh⟩:=hr.iS (hT.2▸hp);exact⟨lt_of_heap hh,λhx=>(nH _ hx).1 hA.1,T1,fr,hh⟩) hy
          have hxe':=hxe hcon.ent;rw[tY]at hxe';refine WL.e (Ry hd) hxe' hcall ?_;rintro e w' ⟨us,rfl,hk,A2,LL,hA2,rL,hres⟩;refine⟨_,rfl,WL.nil ?_⟩;have hnew:∀b,A2 b->Z.R b:=λb hb=>by
           rcases(hA2 b hb).1 with h7|h7
           ·exact hr.out (nH b (Classical.not_not.1 h7)).1
           ·refine Z.new b ?_;have h8:Z.w0.heap.size<=w.heap.size:=(hr.fact 1 (f:= .old Z.M Z.w0) rfl).1.le;omega
          obtain⟨ps',its,g1,g2,g3,g4,g5⟩:=hres s2 L2 (λb=>(A1 b\/A2 b)/\Z.R b) hr2.len.symm (λb hb=>⟨.inr hb,hnew b hb⟩) (λhro b hb=>by
           rcases hb with hb|⟨p,hp,rfl⟩
           ·exact⟨.inl (h3 hro b hb.1).1,(h3 hro b hb.1).2⟩
           ·exact⟨.inl (hr.iS (hT.2▸hp)).1.1,(hr.iS (hT.2▸hp)).1.2⟩)
          have hr':=Rel.gZ hr2 nH hY hk hA2 rL g4 g5;obtain⟨hv,hv'⟩:=cE g3;rw[g2]at h;refine⟨_,λb=>A1 b\/A2 b,L2++LL,h,?_,λgg=>?_⟩
          ·rw[g1];exact hr'.Cp (d:=some dn) hv hv'
          ·obtain⟨e1',e2',e3'⟩:=hsame gg;obtain⟨c',hc',hno,_⟩:=hG gg;rw[hc]at hc';cases hc';have rM:=KJ hno his;subst rM;have rN:s1=s2:=by simpa [S.OZ]using hs2
           have rO:=hnil rfl;subst rN rO e1' e2' e3';rw[g1];exact⟨λb hb=> .inl hb,λb hb=>hk.same b (St.lt hr b hb) λhx=>(nH b hx).1 hb,⟨LL,rfl⟩,⟨its,rfl⟩⟩
         cases hro':SI c with
         |true=>
          refine key (λb=>A1 b/\Z.R b) (λ_ h=>h) (.inl ?_) (λ_ _ h=>h);rw[hro']at kK;simp only[vD,Bool.not_eq_false']at kK;exact isEmpty_nil kK
         |false=>exact key (λ_=>True) (λ_ _=>trivial) (.inr λ_=>trivial) (λh=>by rw[hro']at h;cases h)
  ·cases h
 ·rename_i hn;obtain⟨hP,h⟩:=Aj h;have hpv:=Ca.append (DE hr0.mem.sl _ hP) nI;obtain⟨he,hcall⟩:=hI Z hT.2 f _ s _ r σs A L σ w _ h hr0 hpv;refine WL.e (Ry hd) (hxe he) hcall ?_;rintro e w' ⟨v,p,s',A',L',rfl,hk,hr',hv,hv'⟩;refine⟨_,rfl,WL.nil ⟨_,A',L',hk,hr'.Cp (d:=some dn) hv hv',λgg=>?_⟩⟩;obtain⟨c,hc,_⟩:=hG gg;rw[hn]at hc;cases hc
end Go.Rx
namespace Go.Rx
open Go Go.Lv
variable{o:BinOp}{e:ET}{x y:Operand}{v:PV}{G:Prop}{vy:Value}
variable {P:Program} {B B':Reg} {w w':World} {L L':List MD} {s:S} {σs:List Env} {σ:Env} {Z:Fix} {A A':Reg} {n:Nat} {ops:Array Oper}
variable {R:Type} {k:S->Option R} {r:R} {d:Option Nat} {ty:TypeId} {pos:String} {after:Array Edge} {T:Tab} {inl:YW R}
theorem Ud{l:List Oper}{K K':Env->World->Prop}(h:WL P n ops l K σ w)(hk:∀σ w,K σ w->K' σ w):WL P n ops l K' σ w:=by
 have:=WL.cut (rest:=[]) K l h (λσ w h=>WL.nil (hk σ w h));rwa [tY]at this
theorem look_ok{a:UInt8}{z:PV}{kk:PV->Option R}:∀{es:List MapEntry} {ks:List UInt8} {vs:List PV} {i:Nat},es.map (·.key)=ks.map (λk=>iv (T:=UInt8) (k:= .u8) k)->Ca B w L vs (es.map (·.val))->qV a kk z ks vs=some r->
  ∃res,Instr.findNow (.int .u8) (iv (T:=UInt8) (k:= .u8) a) es i=some res/\match res with
   |some (_,v)=>∃p:PV,eO p.isA (Ap B w L p) v/\kk (.tup [p, .b true])=some r
   |none=>kk (.tup [z, .b false])=some r
 |[],[],[],i,_,_,h=>⟨none,rfl,h⟩
 |[],[],_::_,i,_,⟨_,_,e,_⟩,h=>by cases e
 |[],_::_,_,i,h,_,_=>by cases h
 |_::_,[],_,i,h,_,_=>by cases h
 |e::es,q::ks,[],i,_,h,_=>by cases h
 |e::es,q::ks,p::vs,i,hk,⟨v,vs',hv,h1,h2⟩,h=>by
  simp only[tZ,vF]at hk hv;obtain⟨hk1,hk2⟩:=hk;obtain⟨rfl,rfl⟩:=hv;have hs:Instr.sameNow (.int .u8) (iv (T:=UInt8) (k:= .u8) a) e.key=some (geq a q):=by
   rw[hk1];rfl
  unfold qV at h;cases hb:geq a q with
  |true=>
   rw[hb,uB rfl]at h;exact⟨some (i,e.val),by simp only[Instr.findNow,hs,hb],p,h1,h⟩
  |false=>
   rw[hb,uA A6]at h;obtain⟨res,g1,g2⟩:=look_ok (i:=i+1) hk2 h2 h;exact⟨res,by simp only[Instr.findNow,hs,hb];exact g1,g2⟩
theorem gA{t:TypeId}{ix:Operand}{dn:Nat}(hr:Rel Z s σs A L σ w)(hd:Dv n ⟨some dn, .lookup t x ix true,ty,pos,after,none⟩=true)(h:dT P s dn t x ix k=some r):
  Kb P n ops ⟨some dn, .lookup t x ix true,ty,pos,after,none⟩ Z s σs k r G A L σ w:=by
 have hm:=hr.mem;unfold dT at h;split at h
 ·rename_i ks vs e a kt et hx hix ht;split at h
  ·rename_i a' hkt;split at h
   ·rename_i inf Hh;split at h
    ·rename_i hz;obtain⟨rr,es,c,h1,h2,h3,h4,h5⟩:=Bj hm.sl hx rfl;have hxv:ev σ x= .map (some rr):=by simpa using h1
     have hiv:ev σ ix=iv (T:=UInt8) (k:= .u8) a':=Nr (Bj hm.sl hix rfl);obtain⟨res,g1,g2⟩:=look_ok (i:=0) h4 h5 h;have sW:(zeroValue et).run P w= .ok .nilFunc w:=by simp[zeroValue,typeInfo,Hh,hz]
     have hck:(Instr.checkKey es.isEmpty 10000 kt (iv (T:=UInt8) (k:= .u8) a')).run P w= .ok () w:=MapKept.run_checkKey hkt (show MapKept.IsKey (.int .u8) (.int .u8 _)from rfl) _ 9999;have qW:=MapKept.run_findKey (P:=P) (w:=w) hkt g1;have hgo:=MapKept.run_getObj_map (P:=P) h3;cases res with
     |none=>
      refine Bt (p:= .tup [.cst .nilFunc, .b false]) (val:= .tuple #[.nilFunc, .bool false]) (d:=some dn) hr hd (λ_ _ _ _ _=>?_) rfl ?_ g2
      ·simp[execOp,hxv,hiv,Instr.lookup,tH ht,hgo,hck,qW,sW,Result.andThen]
      ·exact⟨[.nilFunc, .bool false],rfl, .nilFunc,[.bool false],rfl,⟨rfl,rfl⟩,_,[],rfl,rfl,rfl⟩
     |some q=>
      obtain⟨j,v⟩:=q;obtain⟨p,k1,k2⟩:=g2;refine Bt (p:= .tup [p, .b true]) (val:= .tuple #[v, .bool true]) (d:=some dn) hr hd (λ_ _ _ _ _=>?_) rfl ?_ k2
      ·simp[execOp,hxv,hiv,Instr.lookup,tH ht,hgo,hck,qW,Result.andThen]
      ·exact⟨[v, .bool true],rfl,v,[.bool true],rfl,k1,_,[],rfl,rfl,rfl⟩
    ·cases h
   ·cases h
  ·cases h
 ·cases h
theorem WH{cs:Array Value}(h:FV P ty (.agg cs)=some v)(hA:v.isA=true):v.isV=true/\Cg B w L v (.agg cs):=by
 have h1:=FM (B:=B) (w:=w) (L:=L) h;have h2:Dr B w L v (.agg cs):=by
  unfold Dr;rw[hA];exact⟨cs.toList,A6,h1⟩
 exact Ef h2
theorem ZI{a:Option R}:∀{l:List (Option R)},both a l=some r->a=some r/\∀b∈l,b=some r
 |[],h=>⟨h,A6⟩
 |b::l,h=>by
  unfold both at h;split at h
  ·rename_i hab;obtain⟨h1,h2⟩:=ZI h;exact⟨h1,λc hc=>by
    rcases List.mem_cons.1 hc with rfl|hc
    ·exact hab▸h1
    ·exact h2 c hc⟩
  ·cases h
theorem lQ{α:Type}{l:List α}{a b:Option R}(h:QY l a b=some r):b=some r/\ (l=[]->a=some r):=by
 cases l with
 |nil=>
  obtain⟨h1,h2⟩:=ZI h;exact⟨h2 _ (.head _),λ_=>h1⟩
 |cons x l=>exact⟨h,λe=>by cases e⟩
theorem LK{t e t':TypeId}{q:Bool}{p:Option Addr}{l c:Nat}(h:SL o=some q)(ht:P.underlying t=some (.slice e))(hx:ev σ x= .slice p l c)(hy:ev σ y= .slice none 0 0):
  XO P σ w (.binOp o t x y t') (.bool (p.isNone==q)):=by
 cases o<;>simp only[SL,tJ,reduceCtorEq]at h<;>subst h
 ·have:=X.bin (w:=w) (t':=t') hx hy (Bin.lX ht p l c);simpa using this
 ·have:=X.bin (w:=w) (t':=t') hx hy (Bin.kR ht p l c);cases p<;>simpa using this
theorem elem_nil{B:Reg}{l:List e.T}(hz:Nat.ble 1 e.size=true)(h:Bd (Ak B w e) l []):l=[]:=by
 have h1:=Bd.len (λx c h=>Ak.len h) h;have h2:1<=e.size:=by simpa using hz
 cases l with
 |nil=>rfl
 |cons a l=>
  simp only[uJ,List.length_nil]at h1;have:0<(l.length+1)*e.size:=Nat.mul_pos A4 A4;omega
theorem jQ{t t':TypeId}{a:PV}{dn:Nat}(hr:Rel Z s σs A L σ w)(hd:Dv n ⟨some dn, .binOp o t x y t',ty,pos,after,none⟩=true)(hx:Bv s.sl x=a)(hy:Bv s.sl y= .nils)
  (h:jC P s dn o t a k=some r):Kb P n ops ⟨some dn, .binOp o t x y t',ty,pos,after,none⟩ Z s σs k r G A L σ w:=by
 have hm:=hr.mem;have hy':=Mn (Bj hm.sl hy rfl);unfold jC at h;split at h
 ·rename_i q e hq ht;have main:∀{α:Type} {l:List α} {p:Option Addr} {len c:Nat},ev σ x= .slice p len c-> (p=none->l=[])->QY l (k (s.set dn (.b q))) (k (s.set dn (.b (!q))))=some r->Kb P n ops ⟨some dn, .binOp o t x y t',ty,pos,after,none⟩ Z s σs k r G A L σ w:=by
   intro α l p len c hv hp h;obtain⟨h1,h2⟩:=lQ h;cases hn:p.isNone with
   |true=>
    have hk:=h2 (hp (by simpa using hn));have hxo:=LK (w:=w) (t':=t') hq ht hv hy';rw[hn]at hxo;have hb:(true==q)=q:=by cases q<;>rfl
    rw[hb]at hxo;exact Bt (p:= .b q) hr hd hxo rfl rfl hk
   |false=>
    have hxo:=LK (w:=w) (t':=t') hq ht hv hy';rw[hn]at hxo;have hb:(false==q)=!q:=by cases q<;>rfl
    rw[hb]at hxo;exact Bt (p:= .b (!q)) hr hd hxo rfl rfl h1
  split at h
  ·have hv:=Mn (Bj hm.sl hx rfl);have hxo:=LK (w:=w) (t':=t') hq ht hv hy';have hb:((none:Option Addr).isNone==q)=q:=by cases q<;>rfl
   rw[hb]at hxo;exact Bt (p:= .b q) hr hd hxo rfl rfl h
  ·split at h
   ·obtain⟨hz,h⟩:=Aj h;obtain⟨c0,h1,h2⟩:=Ku (Bj hm.sl hx rfl);have h1':=h1;obtain⟨p,len,cap,hv,h3,h4,h5,h6⟩:=h1;refine main hv (λhp=>?_) h;subst hp;have:c0=[]:=Go.Lv.Rd.cH (by rw[<-hv];exact h1');subst this;have:=h5 rfl;exact elem_nil hz h2
   ·cases h
  ·rename_i i;split at h
   ·rename_i E e' l hi;obtain⟨hz,h⟩:=Aj h;obtain⟨v,cs,h1,h2⟩:=hm.arr hi;obtain⟨z,E',c0,h3⟩:=Ns (Bj hm.sl hx rfl);rw[h1]at h3;cases h3;have hrd:=hr.Hl h1;have h1':=hrd;obtain⟨p,len,cap,hv,h4,h5,h6,h7⟩:=hrd;refine main hv (λhp=>?_) h;subst hp;have:cs=[]:=Go.Lv.Rd.cH (by rw[<-hv];exact h1');subst this;exact elem_nil hz h2
   ·cases h
  ·cases h
 ·cases h
theorem cY{i b off:Nat}{md:MD}{ns:List Value}{F:List Fact}(hr:St A w F (L.map MD.Dl))(h:L[i]? =some md)(hb:md.base=some b)(h1:ns.all (·.oneCell')=true)(hle:off+ns.length<=md.cells.length)(hz:0<ns.length):
  ∃w' md',(storeCells ⟨b,off,none⟩ ns).run P w= .ok () w'/\St A w' F ((L.map MD.Dl).set i md'.Dl)/\Jh off ns md md':=by
 cases md with
 |dead=>cases hb
 |box b' cells T=>
  cases hb;have hL:(L.map MD.Dl)[i]? =some (Mob.box b cells T):=ZC h;have hr':=Cy (P:=P) b T (0,0) ns off 0 cells w (hr.box hL) (by simpa [MD.cells]using hle) (.inr (.inr (tT _))) (λv hv=>by simpa using List.all_eq_true.1 h1 v hv);simp only[Nat.add_zero]at hr';exact⟨_, .box b (Ar cells off ns) T,hr',hr.jD hL,rfl⟩
 |own z' E u cs=>
  obtain⟨b',m,c,hu,hs'⟩:=St.ZO hr (ZC h) (by simp[MD.cells]at hle;omega);subst hu;cases hb;have hlen:i<(L.map MD.Dl).length:=by simpa using(List.getElem?_eq_some_iff.1 h).1
  have hL:((L.map MD.Dl).set i (.at_ b z' E m c cs))[i]? =some (.at_ b z' E m c cs):=by rw[List.getElem?_set_self hlen]
  have hle':off+ns.length<=cs.length:=hle;have hcore:∃w',(storeCells ⟨b,off,none⟩ ns).run P w= .ok () w'/\St A w' F (((L.map MD.Dl).set i (.at_ b z' E m c cs)).set i (.at_ b z' E m c (Ar cs off ns))):=by
   obtain⟨o,ho,_,_⟩:=(hs'.front hL).mobs;obtain⟨rfl,ho⟩:=ho;have ho':=ho;obtain⟨_,len,cap,e,h3,h4,h5,h5',h6⟩:=ho;cases e;obtain⟨arr,fr,e,hbb,hsz',hfz,hcells⟩:=h6 b rfl;have hcl:cs.length<=arr.size:=by rw[h3,hsz'];exact tI _ h4
   have hr':=Cy (P:=P) b E fr ns off 0 arr.toList w (by simpa using hbb) A5 (by simp;rcases hfz with h|h;exact .inr (.inr (Nat.le_of_eq h.symm));exact .inr (.inl h)) (λv hv=>by simpa using List.all_eq_true.1 h1 v hv);simp only[Nat.add_zero]at hr';have hbl:=lt_of_heap hbb;have hcs':(Ar cs off ns).length=cs.length:=Cl A4;have hget:∀i,i<m*z'-> (Ar arr.toList off ns)[i]? =(Ar cs off ns)[i]? :=λi hi=>by
    have kH:min off arr.toList.length=off:=by simp;omega
    have kI:min off cs.length=off:=A4
    simp only[Ar,List.getElem?_append,tV,kH,kI,List.getElem?_take,List.getElem?_drop];by_cases g1:i<off
    ·rw[uB g1,uB g1,uB g1,uB g1];simpa using hcells i hi
    ·rw[uA g1,uA g1];by_cases g2:i-off<ns.length
     ·rw[uB g2,uB g2]
     ·rw[uA g2,uA g2];have e1:off+ns.length+(i-off-ns.length)=i:=A4
      rw[e1];simpa using hcells i hi
   refine⟨_,hr',hs'.BD hL (b:=b) ⟨rfl,ho'⟩ ⟨rfl,_,m,c,rfl,by rw[hcs',h3],h4,h5,h5',λb' hb'=>?_⟩ ?_⟩
   ·cases hb';refine⟨(Ar arr.toList off ns).toArray,fr,rfl,by simp[Cn,hbl],?_,?_,λi hi=>?_⟩
    ·simp only[tX];rw[Cl A5];simpa using hsz'
    ·simp only[tX];rw[Cl A5];simpa using hfz
    ·simpa using hget i hi
   ·rintro⟨q,hq,q1,q2⟩;exact⟨q,hq,q1,q2,hq.1⟩
  obtain⟨w',g1,g2⟩:=hcore;have hs3:=g2.pN (i:=i) (b:=b) (s:=z') (m:=m) (c:=c) (E:=E) (cs:=Ar cs off ns) (by rw[List.getElem?_set_self (by simpa using hlen)]);rw[List.set_set,List.set_set]at hs3;exact⟨w', .own z' E (.slice (some ⟨b,0,none⟩) m c) (Ar cs off ns),g1,hs3,rfl⟩
structure SrcW (P:Program) (w:World) (vy:Value) (z ly:Nat) (ys:List Value):Prop where
 len:(Builtin.lenOf vy).run P w= .ok ly w
 first:∀m,m<=ly-> (Builtin.firstCells z m vy).run P w= .ok (ys.take (m*z)).toArray w
theorem SrcW.rd{z ly:Nat}{ys:List Value}(h:Rd (λ_=>True) w z vy ys)(hl:ys.length=ly*z)(hz:0<z):SrcW P w vy z ly ys:=by
 obtain⟨p,len,cap,rfl,h2,h3,h4,h5⟩:=h;have he:len=ly:=tL hz (h2.symm.trans hl);subst he;refine⟨rfl,λm hm=>?_⟩;cases p with
 |none=>
  have:m=0:=by have:=h4 rfl;omega
  subst this;simp[Builtin.firstCells]
 |some a=>
  have hlen:(ys.take (m*z)).length=m*z:=by
   rw[tV,h2];have:=tI z hm;omega
  simp only[Builtin.firstCells];by_cases hc:0<cap
  ·obtain⟨b,off,arr,T,fr,e1,_,e2,_,e4⟩:=h5 hc;cases e1;have:=Ey (P:=P) (w:=w) (b:=b) (off:=off) (ys.take (m*z)) (λi hi=>by
    rw[hlen]at hi;have h6:i<len*z:=uE hi (tI z hm);rw[cell_of e2,e4 i h6,List.getElem?_take,uB hi])
   rw[hlen]at this;exact this
  ·have:m=0:=A4
   subst this;simp[loadCells,loadCellsFrom]
theorem SrcW.str{l:List UInt8}:SrcW P w (sv l) 1 l.length (Oj (k:= .u8) l):=by
 refine⟨by simp[Builtin.lenOf,ByteArray.size],λm hm=>?_⟩;simp only[Builtin.firstCells,FR,tN];congr 1;simp[Oj,List.map_take];rfl
theorem XR{t2:TypeId}{m:List e.T}(hr:Rel Z s σs A L σ w)(hz:0<e.size)(h:jO P s e t2 y=some m):∃ys,Bd (Ak (λb=>A b/\Z.R b) w e) m ys/\SrcW P w (ev σ y) e.size m.length ys:=by
 have hm:=hr.mem;have plain:elems s e (Bv s.sl y)=some m->∃ys,Bd (Ak (λb=>A b/\Z.R b) w e) m ys/\SrcW P w (ev σ y) e.size m.length ys:=by
  intro h;have hV:(Bv s.sl y).isV=true:=by
   cases hq:(Bv s.sl y).isV with
   |true=>rfl
   |false=>rcases Ik hq with h'|h'|⟨_,_,_,h'⟩<;>rw[h']at h<;>cases h
  obtain⟨c0,h1,h2⟩:=BH hm h (Gl hm.sl y hV);have hrd:Rd (λ_=>True) w e.size (ev σ y) c0:=by
   rcases h2 with h2|⟨j,E',u,cs',_,h2,hpart⟩
   ·exact h2.step (λ_ _=>trivial) (λ_ _=>rfl)
   ·exact hpart _ _ (hr.Hl h2)
  exact⟨c0,h1, .rd hrd (h1.len λx c h=>Ak.len h) hz⟩
 unfold jO at h;split at h
 ·split at h
  ·rename_i m0 hy;unfold Wx at h;split at h
   ·rename_i he;cases he;cases h;rw[Gn hm.sl hy];exact⟨Oj m0,YC.Qr, .str⟩
   ·cases h
  ·cases h
 ·unfold iO at h;split at h
  ·rename_i i p e1 lo n' hy;split at h
   ·rename_i T v hi;split at h
    ·rename_i a x hg;split at h
     ·rename_i q a l;obtain⟨hb,h⟩:=Aj h;simp only[tF,uO]at hb;obtain⟨⟨k1,k2,k3⟩,rfl⟩:=hb;split at h
      ·rename_i ha;subst ha;cases h;obtain⟨md,v1,h3,h4,g1,g2,⟨pt,cap,g3,g4,g5,g6⟩,_⟩:=Bj hm.sl hy rfl;have h6:ev σ y=v1:=by simpa using h4
       obtain⟨b,cells,h7,h8⟩:=hm.box hi;rw[h7]at h3;cases h3;obtain⟨c1,c2,c3,he,h9,h10,h11⟩:=Yd hg h8;have FJ:=h11.len λx c h=>Ak.len h;obtain⟨lo',rfl⟩:=tP k1;obtain⟨n1,rfl⟩:=tP k2;simp only[uH]at g3 g4 g6;have hq:lo'+n1<=l.length:=by rw[h10];omega
       have hsub:(Rg l lo' n1).length=n1:=by simp[Rg];omega
       have e5:lo'*a.size+n1*a.size<=l.length*a.size:=by rw[<-tR];exact tI _ hq
       refine⟨(c2.drop (lo'*a.size)).take (n1*a.size),Bd.take (λx c h=>Ak.len h) _ (Bd.drop (λx c h=>Ak.len h) _ h11),?_,λm hm'=>?_⟩
       ·rw[h6,g3,hsub];rfl
       ·rw[hsub]at hm';rw[h6,g3];have hml:m*a.size<=n1*a.size:=tI _ hm';cases pt with
        |none=>
         have:m=0:=by have:=g5 rfl;omega
         subst this;simp[Builtin.firstCells]
        |some ad=>
         simp only[Builtin.firstCells];by_cases hc:0<cap
         ·obtain⟨bb,e1,e2⟩:=g6 hc;cases e1;cases e2;have hlen3:(((c2.drop (lo'*a.size)).take (n1*a.size)).take (m*a.size)).length=m*a.size:=by
           simp only[tV,vA,FJ];omega
          have:=Ey (P:=P) (w:=w) (b:=b) (off:=Ah p+lo'*a.size) (((c2.drop (lo'*a.size)).take (n1*a.size)).take (m*a.size)) (λi hi=>by
           rw[hlen3]at hi;have hcl:Ah p+lo'*a.size+i<(MD.box b cells T).cells.length:=by
            simp only[MD.cells,he,tM,h9,FJ];omega
           rw[hr.cells h7 rfl _ hcl];simp only[MD.cells];rw[he,List.getElem?_append_right A4,h9,show Ah p+lo'*a.size+i-Ah p=lo'*a.size+i by omega,List.getElem?_append_left (by rw[FJ];omega),
            List.getElem?_take,uB hi,List.getElem?_take,uB A4,List.getElem?_drop])
          rw[hlen3]at this;exact this
         ·have:m=0:=A4
          subst this;simp[loadCells,loadCellsFrom]
      ·cases h
     ·cases h
    ·cases h
   ·cases h
  ·exact plain h
 ·cases h
theorem OE(cs:List Value)(o:Nat):Ar cs o []=cs:=by simp[Ar]
theorem bH{t t2 E:TypeId}{vx:Value}{z ly nv WG off i:Nat}{pt:Option Addr}{ys:List Value}{md:MD}{F:List Fact}(ht:P.underlying t=some (.slice E))(hsz:Di P E z)(hsrc:SrcW P w vy z ly ys)(hys:ys.length=ly*z)(h1:ys.all (·.oneCell')=true)
  (hr:St A w F (L.map MD.Dl)) (h:L[i]? =some md) (hne:md≠ .dead) (hx:vx= .slice pt nv WG) (hcap:nv<=WG) (hpt:pt=none->WG=0) (hb:0<WG->∃b,md.base=some b/\pt=some ⟨b,off,none⟩) (hle:off+nv*z<=md.cells.length) (hz:0<z):
  ∃w' md',(Builtin.copy_ #[t,t2] ty #[vx,vy]).run P w= .ok (goInt (Nat.min ly nv)) w'/\St A w' F ((L.map MD.Dl).set i md'.Dl)/\Jh off (ys.take (nv*z)) md md':=by
 subst hx;have hmin:Nat.min ly nv<=ly:=Nat.min_le_left _ _;have aC:=hsrc.first _ hmin
 have htake:ys.take (Nat.min ly nv*z)=ys.take (nv*z):=by
  rcases Nat.le_total ly nv with h'|h'
  ·rw[show Nat.min ly nv=ly from Nat.min_eq_left h',<-hys,List.take_length,List.take_of_length_le (by rw[hys];exact tI z h')]
  ·rw[show Nat.min ly nv=nv from Nat.min_eq_right h']
 rw[htake]at aC;have hmul:Nat.min ly nv*z<=nv*z:=tI z (Nat.min_le_right _ _);have hlen:(ys.take (nv*z)).length=Nat.min ly nv*z:=by
  rw[<-htake,tV,hys];have:=tI z hmin;omega
 have hnone:(ys.take (nv*z))=[]->∃w' md',(Builtin.copy_ #[t,t2] ty #[.slice pt nv WG,vy]).run P w= .ok (goInt (Nat.min ly nv)) w'/\St A w' F ((L.map MD.Dl).set i md'.Dl)/\Jh off (ys.take (nv*z)) md md':=by
  intro he;refine⟨w,md,?_,?_,?_⟩
  ·rw[he]at aC;cases pt<;>simp[Builtin.copy_,tH ht,hsrc.len,Az hsz,aC,storeCells]
  ·rw[List.getElem?_eq_some_iff]at h;obtain⟨hlt,h⟩:=h;have:(L.map MD.Dl).set i md.Dl=L.map MD.Dl:=by
    rw[<-vI,<-h,List.set_getElem_self]
   rw[this];exact hr
  ·rw[he];cases md with
   |dead=>exact absurd rfl hne
   |box b c T=>simp only[Jh,OE]
   |own z' E' v c=>simp only[Jh,OE]
 by_cases he:(ys.take (nv*z))=[]
 ·exact hnone he
 ·have hpos:0<(ys.take (nv*z)).length:=List.length_pos_iff.2 he;have hm0:0<Nat.min ly nv:=by
   rcases Nat.eq_zero_or_pos (Nat.min ly nv)with h'|h'
   ·rw[hlen,h']at hpos;simp at hpos
   ·exact h'
  have tE:0<nv:=uE hm0 (Nat.min_le_right _ _);obtain⟨b,e1,e2⟩:=hb A4;subst e2;obtain⟨w',md',g1,g2,g3⟩:=cY (P:=P) (off:=off) hr h e1 (ns:=ys.take (nv*z)) (List.all_eq_true.2 λv hv=>List.all_eq_true.1 h1 v (List.mem_of_mem_take hv)) (by rw[hlen];omega) hpos;refine⟨w',md',?_,g2,g3⟩;simp[Builtin.copy_,tH ht,hsrc.len,Az hsz,aC,g1]
theorem bV(nv k:Nat):Tt (nv:Int) k=((Nat.min k nv:Nat):Int):=by
 unfold Tt;rcases uT k nv with h|h
 ·rw[uB A4,show Nat.min k nv=k from Nat.min_eq_left A4]
 ·rw[uA A4,show Nat.min k nv=nv from Nat.min_eq_right h]
theorem RD{B:Reg}{l m:List e.T}{cs ys:List Value}{lo nv:Nat}(hl:Bd (Ak B w e) l cs)(hm:Bd (Ak B w e) m ys):Bd (Ak B w e) (Hk l lo nv m) (Ar cs (lo*e.size) (ys.take (nv*e.size))):=by
 have h1:=Bd.take (λx c h=>Ak.len h) nv hm;have h2:=h1.len λx c h=>Ak.len h;have h3:=Bd.take (λx c h=>Ak.len h) lo hl;have h4:=Bd.drop (λx c h=>Ak.len h) (lo+(m.take nv).length) hl;unfold Hk Ar;simp only[uH];refine Bd.append h3 (Bd.append h1 ?_);rw[h2,<-tR];exact h4
theorem iH{α:Type}(l m:List α):PB l m=Hk l ((0:Nat):Int) ((l.length:Nat):Int) m:=by
 unfold PB Hk;simp only[uH,List.take_zero,vE,uP,tV];congr 1;rcases Nat.le_total m.length l.length with h|h
 ·rw[Nat.min_eq_right h]
 ·rw[Nat.min_eq_left h,uS (tT _),uS h]
theorem aL{t t2 E E':TypeId}{l m:List e.T}{ys cs:List Value}{u:Value}{lo nv WG i:Nat}{pt:Option Addr}{ow:Option Nat}(hr:Rel Z s σs A L σ w)(hd:Dv n ⟨ow, .call ⟨.builtin .copy, #[x,y], #[t,t2]⟩,ty,pos,after,none⟩=true)
  (ht:P.underlying t=some (.slice E)) (hsz:Di P E e.size) (hz:0<e.size) (hit:Bg s.it i= .arr E' e l) (hL:L[i]? =some (.own e.size E' u cs)) (hl:Bd (Ak (λb=>A b/\Z.R b) w e) l cs) (hm:Bd (Ak (λb=>A b/\Z.R b) w e) m ys) (hsrc:SrcW P w (ev σ y) e.size m.length ys)
  (hx:ev σ x= .slice pt nv WG) (hcap:nv<=WG) (hpt:pt=none->WG=0) (hb:0<WG->∃b,(MD.own e.size E' u cs).base=some b/\pt=some ⟨b,lo*e.size,none⟩) (hle:lo+nv<=l.length)
  (hk:k ((s.Jf i (.arr E' e (Hk l lo nv m))).Cp ow (.i .i64 (Tt (nv:Int) m.length)))=some r):Kb P n ops ⟨ow, .call ⟨.builtin .copy, #[x,y], #[t,t2]⟩,ty,pos,after,none⟩ Z s σs k r False A L σ w:=by
 have hcl:=hl.len λx c h=>Ak.len h;have hyl:=hm.len λx c h=>Ak.len h;have hF:=St.JF (f:=RL Z.R L (.arr E' e (Hk l lo nv m)) (Ar cs (lo*e.size) (ys.take (nv*e.size)))) hr (RD hl hm);obtain⟨w',md',g1,g2,g3⟩:=bH (P:=P) (ty:=ty) (t2:=t2) (off:=lo*e.size) ht hsz hsrc hyl hm.ZG hF hL (by intro h;cases h) rfl hcap hpt hb (by
  show lo*e.size+nv*e.size<=cs.length;rw[hcl,<-tR];exact tI _ hle) hz
 simp only[Jh]at g3;subst g3;have key:=Zz.own (cs':=Ar cs (lo*e.size) (ys.take (nv*e.size))) hL;have hr2:=Rel.change (a:= .arr E' e (Hk l lo nv m)) g2.OM hL key ⟨rfl,rfl,g2.fact 0 rfl⟩;refine WL.dX (v:=goInt (Nat.min m.length nv)) rfl hd ?_ (WL.nil ⟨_,A,_,hk,hr2.Cp rfl ?_,λh=>h.elim⟩)
 ·simp[execOp,resolve,invoke,builtin,hx,g1]
 ·rw[bV];rfl
theorem fG{t t2:TypeId}{ow:Option Nat}(hr:Rel Z s σs A L σ w)(hd:Dv n ⟨ow, .call ⟨.builtin .copy, #[x,y], #[t,t2]⟩,ty,pos,after,none⟩=true)
  (h:YI P s ow x y t t2 k=some r):Kb P n ops ⟨ow, .call ⟨.builtin .copy, #[x,y], #[t,t2]⟩,ty,pos,after,none⟩ Z s σs k r False A L σ w:=by
 have hmm:=hr.mem;unfold YI at h;split at h
 ·cases h
 ·rename_i E hE;have ht:=Wd hE;split at h
  ·cases h
  ·rename_i inf Hh;split at h
   ·rename_i i hx;split at h
    ·rename_i E' e l hit;obtain⟨hb,h⟩:=Aj h;simp only[tF]at hb;have hz:0<e.size:=by have:=tQ hb.2;omega
     split at h
     ·rename_i m hsrc;obtain⟨ys,h1,h2⟩:=XR hr hz hsrc;obtain⟨u,cs,h3,h4⟩:=hmm.arr hit;obtain⟨z',E2,c',h5⟩:=Ns (Bj hmm.sl hx rfl);rw[h3]at h5;cases h5;obtain⟨q,len,cap,g1,g2,g3,g4,g5⟩:=hr.oA h3;have hl:len=l.length:=tL hz (g2.symm.trans (h4.len λx c h=>Ak.len h));rw[iH]at h;exact aL (lo:=0) (nv:=l.length) (ys:=ys) hr hd ht (Ci Hh hb.1) hz hit h3 h4 h1 h2 (by rw[g1,hl]) A4 g4 (λhc=>by obtain⟨b,e1,e2⟩:=g5 hc;exact⟨b,e2,by rw[e1];simp⟩) A4 h
     ·cases h
    ·cases h
   ·rename_i i p e1 lo n' hx;split at h
    ·rename_i E' e l hit;obtain⟨hb,h⟩:=Aj h;simp only[tF,uO]at hb;obtain⟨⟨hb1,hb2⟩,rfl⟩:=hb;have hz:0<e1.size:=by have:=tQ hb2;omega
     split at h
     ·rename_i m hsrc;obtain⟨ys,h1,h2⟩:=XR hr hz hsrc;obtain⟨u,cs,h3,h4⟩:=hmm.arr hit;obtain⟨md,v1,h5,h6,k1,k2,⟨pt,cap,k3,k4,k5,k6⟩,k7,_⟩:=Bj hmm.sl hx rfl;rw[h3]at h5;cases h5;have h7:ev σ x=v1:=by simpa using h6
      obtain⟨lo',rfl⟩:=tP k1;obtain⟨n1,rfl⟩:=tP k2;simp only[uH]at k3 k4 k6 k7;obtain⟨s',E2,q,len,cap0,c0,e1',rfl,e3,_⟩:=k7 trivial;cases e1';obtain⟨q',len',cap',g1,g2,_⟩:=hr.oA h3;cases g1;have hl:len=l.length:=tL hz (g2.symm.trans (h4.len λx c h=>Ak.len h));exact aL (lo:=lo') (nv:=n1) (ys:=ys) hr hd ht (Ci Hh hb1) hz hit h3 h4 h1 h2 (h7.trans k3) k4 k5 (λhc=>by obtain⟨b,e4,e5⟩:=k6 hc;exact⟨b,e4,by rw[e5];simp[Ah]⟩) A4 h
     ·cases h
    ·cases h
   ·rename_i i p e1 lo n' hx;split at h
    ·rename_i T v hit;split at h
     ·rename_i a0 x0 hg;split at h
      ·rename_i q e l;obtain⟨hb,h⟩:=Aj h;simp only[tF,uO]at hb;obtain⟨⟨⟨hb1,hb2⟩,rfl⟩,k1,k2,k3⟩:=hb;have hz:0<e1.size:=by have:=tQ hb2;omega
       split at h
       ·rename_i m hsrc;obtain⟨ys,h1,h2⟩:=XR hr hz hsrc;obtain⟨md,v1,h5,h6,_,_,⟨pt,cap,g3,g4,g5,g6⟩,_⟩:=Bj hmm.sl hx rfl;have h7:ev σ x=v1:=by simpa using h6
        obtain⟨b,cells,h8,h9⟩:=hmm.box hit;rw[h8]at h5;cases h5;obtain⟨c1,c2,c3,he,h10,h11,h12⟩:=Yd hg h9;have FJ:=h12.len λx c h=>Ak.len h;have hyl:=h1.len λx c h=>Ak.len h;obtain⟨lo',rfl⟩:=tP k1;obtain⟨n1,rfl⟩:=tP k2;simp only[uH]at g3 g4 g6;have hq:lo'+n1<=l.length:=by rw[h11];omega
        have e5:lo'*e1.size+n1*e1.size<=l.length*e1.size:=by rw[<-tR];exact tI _ hq
        have hk1:=Bd.take (λx c h=>Ak.len h) n1 h1;have hk2:=hk1.len λx c h=>Ak.len h;have hk3:(ys.take (n1*e1.size)).length<=n1*e1.size:=by rw[tV];omega
        have hcp:=RD (lo:=lo') (nv:=n1) h12 h1;have qN:(Ar c2 (lo'*e1.size) (ys.take (n1*e1.size))).length=c2.length:=Cl (by rw[FJ];omega);have rP:Ap (λb=>A b/\Z.R b) w L (.val (.vec q e1) (Hk l lo' n1 m)) (Ar c2 (lo'*e1.size) (ys.take (n1*e1.size))):=by
         refine⟨?_,hcp⟩;have:=hcp.len λx c h=>Ak.len h;rw[qN,FJ]at this;rw[<-h11];exact(tL hz this).symm
        obtain⟨v',hk,_,hv'⟩:=HR rP h h9;have hcells:Ar cells (Ah p) (Ar c2 (lo'*e1.size) (ys.take (n1*e1.size)))=Ar cells (Ah p+lo'*e1.size) (ys.take (n1*e1.size)):=by
         rw[he,Vi h10 _ (by rw[FJ];omega),<-h10,Xi qN]
        rw[hcells]at hv';have hF:=St.JF (f:=RL Z.R L (.box T v') (Ar cells (Ah p+lo'*e1.size) (ys.take (n1*e1.size)))) hr hv';obtain⟨w',md',g1,g2,g3'⟩:=bH (P:=P) (ty:=ty) (t2:=t2) (off:=Ah p+lo'*e1.size) ht (Ci Hh hb1) h2 hyl h1.ZG hF h8 (by intro h;cases h) rfl g4 g5 (λhc=>by obtain⟨b,e4,e5⟩:=g6 hc;exact⟨b,e4,e5⟩) (by
         show Ah p+lo'*e1.size+n1*e1.size<=cells.length;rw[he];simp only[tM,h10,FJ];omega) hz
        simp only[Jh]at g3';subst g3';have key:=Zz.box (cs':=Ar cells (Ah p+lo'*e1.size) (ys.take (n1*e1.size))) h8;have hr2:=Rel.change (a:= .box T v') g2.OM h8 key ⟨rfl,Ap.step (λ_ h=>h) (λ_ _=>rfl) key (g2.fact 0 rfl)⟩;refine WL.dX (v:=goInt (Nat.min m.length n1)) rfl hd ?_ (WL.nil ⟨_,A,_,hk,hr2.Cp rfl ?_,λh=>h.elim⟩)
        ·rw[<-g3,<-h7]at g1;simp[execOp,resolve,invoke,builtin,g1]
        ·rw[bV];rfl
       ·cases h
      ·cases h
     ·cases h
    ·cases h
   ·cases h
theorem RG{g:Nat}{cs:List Value}:∀{l:List (Nat×List Value)},kZ l g=some cs-> (g,cs)∈l
 |[],h=>by cases h
 |(q,c)::r,h=>by
  simp only[kZ]at h;cases hb:Nat.beq q g with
  |true=>
   rw[hb]at h;have:=Bh hb;subst this;cases h;exact .head _
  |false=>rw[hb]at h;exact .tail _ (RG h)
theorem dP{g:Nat}{t:TypeId}(hT:DP P T Z)(hr:Rel Z s σs A L σ w)(h:T.nE P g t=some v):∃cs T1 fr,w.heap[g]? =some (.cells cs.toArray T1 fr)/\ (A g/\Z.R g)/\Ap (λb=>A b/\Z.R b) w L v cs:=by
 unfold Tab.nE at h;split at h
 ·rename_i cs hg;split at h
  ·rename_i v' hp;cases h;obtain⟨h1,T1,fr,h2⟩:=hr.iS (p:=(g,cs)) (by rw[hT.2];exact RG hg);obtain⟨c,e1,h3⟩:=Wg (B:=λb=>A b/\Z.R b) (w:=w) (L:=L) Q hp;rw[tY]at e1;subst e1;exact⟨_,T1,fr,h2,h1,h3⟩
  ·cases h
 ·cases h
theorem ZH{o:Op}{g dn:Nat}(hT:DP P T Z)(hr:Rel Z s σs A L σ w)(hd:Dv n ⟨some dn,o,ty,pos,after,none⟩=true)
  (ho:(∃t,o= .load t (.global g))\/ (∃t ix,o= .indexAddr t (.global g) ix)\/ (∃t lo hi,o= .slice t (.global g) lo hi none)) (h:GR P T s dn g o k=some r):
  Kb P n ops ⟨some dn,o,ty,pos,after,none⟩ Z s σs k r G A L σ w:=by
 have hm:=hr.mem;rcases ho with⟨t,rfl⟩|⟨t,ix,rfl⟩|⟨t,lo,hi,rfl⟩
 ·simp only[GR]at h;split at h
  ·rename_i v hv;obtain⟨hb,hk⟩:=Aj h;obtain⟨cs,T1,fr,h1,h2,h3⟩:=dP hT hr hv;obtain⟨val,h7,h8⟩:=UR (P:=P) (σ:=σ) (x:= .global g) (b:=g) (off:=0) (Gh hb) h3 (λj hj=>by rw[cell_of h1];simp) rfl;obtain⟨hv,hv'⟩:=Ef h7;exact Bt hr hd h8 hv hv' hk
  ·cases h
 ·simp only[GR]at h;split at h
  ·rename_i j m et e0 l0 hj ht hv;obtain⟨q,hix⟩:=Nj hj (Gl hm.sl ix (Tj hj));split at h
   ·rename_i inf m' e l Hh;obtain⟨hb,h⟩:=Aj h;simp only[tF]at hb;obtain⟨y,hy,hk⟩:=bind_some h;obtain⟨hj0,hj1,hj2⟩:=Dq hy;obtain⟨cs,T1,fr,h1,h2,h3,h4⟩:=dP hT hr hv;obtain⟨c1,c2,c3,he,h8,h9,_⟩:=Bd.get (λx c h=>Ak.len h) h4 hj2;have hmm:=Bh hb.1.1;subst hmm;have h10:c2.length=e.size:=h9.len;have hp:XW (λb=>A b/\Z.R b) w (.pointer (some ⟨g,0+j.toNat*e.size,none⟩)) c2:=by
     refine⟨g,0+j.toNat*e.size,_,T1,fr,rfl,h2,h1,λq hq=>?_⟩;rw[List.getElem?_toArray,he,uP,List.getElem?_append_right A4,h8,show j.toNat*e.size+q-j.toNat*e.size=q by omega,List.getElem?_append_left hq]
    have kJ:Cg (λb=>A b/\Z.R b) w L (.rptr (e.pv y)) (.pointer (some ⟨g,0+j.toNat*e.size,none⟩)):=⟨_,c2,rfl,hp,Vc.2 h9⟩;exact Bt hr hd (Uv (x:= .global g) ht (Ci Hh hb.1.2) rfl hix A4 (by rw[<-show l.length=m' from h3];omega) w) rfl kJ hk
   ·cases h
  ·cases h
 ·simp only[GR]at h;split at h
  ·rename_i u m et hat;split at h
   ·rename_i e0 l0 hv;split at h
    ·rename_i inf m' e l Hh;obtain⟨hb,h⟩:=Aj h;simp only[tF]at hb;split at h
     ·rename_i a b ha hb';obtain⟨y,hy,hk⟩:=bind_some h;obtain⟨k1,k2,k3,k4,rfl⟩:=Px hy;obtain⟨cs,T1,fr,h1,h2,h3,h4⟩:=dP hT hr hv;have hmm:=Bh hb.1.1;subst hmm;have hlen:=h4.len λx c h=>Ak.len h;have hz:0<e.size:=by have:=tQ hb.2;omega
      have rL:l.length=m':=h3;have hxo:=X.XI (P:=P) (σ:=σ) (w:=w) (x:= .global g) (lo:=lo) (hi:=hi) (a:=a.toNat) (b:=b.toNat) (ad:=⟨g,0,none⟩) hat (Ci Hh hb.1.2) k3 A4 rfl
       (by rcases En hm.sl ha with h|⟨h,h'⟩;exact .inl (by rw[<-k1];exact h);exact .inr ⟨h,A4⟩) (by rcases En hm.sl hb' with h|⟨h,h'⟩;exact .inl (by rw[<-k2];exact h);exact .inr ⟨h,A4⟩)
      have e5:a.toNat*e.size<=b.toNat*e.size:=tI _ k3;have e6:b.toNat*e.size<=l.length*e.size:=tI _ k4;have e7:(b.toNat-a.toNat)*e.size=b.toNat*e.size-a.toNat*e.size:=uU _ _ _;refine Bt hr hd hxo rfl (DI ⟨_,_,_,rfl,?_,A4,(λh=>by cases h),λhc=>?_⟩ (Bd.drop (λx c h=>Ak.len h) _ (Bd.take (λx c h=>Ak.len h) _ h4))) hk
      ·rw[vA,tV,hlen,e7];omega
      ·rw[uA A4,Fs];refine⟨g,0+a.toNat*e.size,_,T1,fr,rfl,h2,h1,?_,λi hi=>?_⟩
       ·simp only[tX,hlen,rL];have:(m'-a.toNat)*e.size=m'*e.size-a.toNat*e.size:=uU _ _ _;have:a.toNat*e.size<=m'*e.size:=tI _ A4;omega
       ·rw[List.getElem?_toArray,uP,List.getElem?_drop,List.getElem?_take,uB A4]
     ·cases h
    ·cases h
   ·cases h
  ·cases h
theorem nX{o:Op}{dn:Nat}(hT:DP P T Z)(hI:Vq P T.gl inl)(hr:Rel Z s σs A L σ w)(hd:Dv n ⟨some dn,o,ty,pos,after,none⟩=true)(h:qX P T inl s dn ty o k=some r):
  Kb P n ops ⟨some dn,o,ty,pos,after,none⟩ Z s σs k r (VQ T s ⟨some dn,o,ty,pos,after,none⟩=true) A L σ w:=by
 have hm:=hr.mem;unfold qX at h;split at h
 ·
  rename_i o t x y t';split at h
  ·rename_i a u b v hx hy;split at h
   ·rename_i c q hc hq;obtain⟨_,hok,h⟩:=bind_some h;have:=Ij hok;subst this;obtain⟨hv,val,hb,kJ⟩:=QS (P:=P) (w:=w) (L:=L) (B:=λb=>A b/\Z.R b) (t:=t) hq hc;exact Bt hr hd (X.bin (Jy hm.sl hx) (Jy hm.sl hy) hb) hv kJ h
   ·cases h
  ·rename_i u v hx hy;split at h
   ·obtain⟨q,hq,h⟩:=bind_some h;exact Bt (p:= .val .str q) hr hd (X.jH (Gn hm.sl hx) (Gn hm.sl hy) hq) rfl rfl h
   ·cases h
  ·rename_i a h1 h2 hy;exact jQ hr hd rfl hy h
  ·cases h
 ·
  rename_i t x ix;split at h
  ·rename_i j e0 l0 hj hx;obtain⟨q,hix⟩:=Nj hj (Gl hm.sl ix (Tj hj));split at h
   ·rename_i l ht;obtain⟨y,hy,h⟩:=bind_some h;exact Bt (p:= .i .u8 y) hr hd (X.iI ht (Gn hm.sl hx) hix hy) rfl rfl h
   ·rename_i m e l m' et ht;obtain⟨hb,h⟩:=Aj h;obtain⟨y,hy,h⟩:=bind_some h;obtain⟨hk,hkk⟩:=Aj h;have hok:=Gh hk;have hv:Dr (λb=>A b/\Z.R b) w L (.val (.vec m e) l) (ev σ x):=Bj hm.sl hx rfl;obtain⟨cs,h1,h2,h3⟩:=hv;have hsz:(e.pv y).size=e.size:=by
     obtain⟨_,_,h5⟩:=Dq hy;obtain⟨_,c2,_,_,_,h6,_⟩:=Bd.get (λx c h=>Ak.len h) h3 h5;rw[<- (Vc (L:=L).2 h6).len,h6.len]
    have hmm:=Bh hb;subst hmm;obtain⟨d0,hd0,ha0⟩:=hok.agg;obtain⟨val,h4,h5⟩:=kY (L:=L) ht (by rw[<-hsz];exact hok.size) ⟨d0,hd0,ha0⟩ (λhA=>by rw[<-hsz];exact hok.one hA) h2 h1 h3 hix hy;obtain⟨hv,hv'⟩:=Ef h5;exact Bt hr hd h4 hv hv' hkk
   ·cases h
  ·cases h
 ·split at h
  ·exact ZH hT hr hd (.inr (.inr ⟨_,_,_,rfl⟩)) h
  ·exact iQ hr hd h (λg=>g)
 ·split at h
  ·exact ZH hT hr hd (.inr (.inl ⟨_,_,rfl⟩)) h
  ·exact dB hr hd h
 ·split at h
  ·exact ZH hT hr hd (.inl ⟨_,rfl⟩) h
  ·exact mE hr hd h
 ·
  split at h
  ·rename_i v hz;exact iK hr hd hz h
  ·cases h
 ·obtain⟨hb,h⟩:=Aj h;exact nK hr hd hb h
 ·split at h
  ·rename_i v hv;obtain⟨hA,h⟩:=Aj h;obtain⟨h1,h2⟩:=WH (B:=λb=>A b/\Z.R b) (w:=w) (L:=L) hv hA;exact Bt hr hd (X.assign rfl) h1 h2 h
  ·cases h
 ·split at h
  ·rename_i v hv;obtain⟨hA,h⟩:=Aj h;obtain⟨h1,h2⟩:=WH (B:=λb=>A b/\Z.R b) (w:=w) (L:=L) hv hA;exact Bt hr hd (X.move rfl) h1 h2 h
  ·cases h
 ·exact iF hr hd h
 ·exact VJ hr hd h (λg=>g)
 ·exact lT hr hd h
 ·
  split at h
  ·rename_i e ha ht;split at h
   ·rename_i l he hx;exact YC hr hd ha ht he hx h
   ·cases h
  ·rename_i e ha ht;obtain⟨hb,h1⟩:=Aj h;clear h;have:=Bh hb;subst this;split at h1
   ·rename_i i he hx;split at h1
    ·rename_i E e' l hi;split at h1
     ·rename_i y ys;exact kT hr hd ht he hx hi h1
     ·cases h1
    ·cases h1
   ·cases h1
  ·cases h
 ·
  rename_i as ts;split at h
  ·rename_i x y t t2 has hts;have h1:=Lt has;have h2:=Lt hts;subst h1 h2;refine Ud (hO hr hd h) ?_;rintro σ' w' ⟨s',A',L',g1,g2,g3⟩;exact⟨s',A',L',g1,g2,λg=>by simp[VQ,mY]at g⟩
  ·cases h
 ·
  rename_i as ts;split at h
  ·rename_i x y t t2 has hts;have h1:=Lt has;have h2:=Lt hts;subst h1 h2;refine Ud (fG hr hd h) ?_;rintro σ' w' ⟨s',A',L',g1,g2,g3⟩;exact⟨s',A',L',g1,g2,λg=>by simp[VQ,mY]at g⟩
  ·cases h
 ·
  rename_i as ts;split at h
  ·rename_i x t has hts;have h1:=Lt has;have h2:=Lt hts;subst h1 h2;split at h
   ·rename_i e ht hx;refine Bt (p:= .i .i64 (0:Int)) hr hd (val:=iv (0:Int)) (λ_ _ _ _ _=>?_) rfl rfl h;have hv:=Mn (Bj hm.sl hx rfl);simp[execOp,resolve,invoke,builtin,hv,Builtin.cap_,tH ht,goInt];rfl
   ·cases h
  ·cases h
 ·
  rename_i g as ts;split at h
  ·rename_i f caps hg;refine lM hT hI hr hg hd h (λgg=>?_);unfold VQ at gg;split at gg
   ·rename_i heq;cases heq
   ·rename_i heq;cases heq
   ·rename_i f' as' ts' heq;cases heq;cases hg;split at gg
    ·rename_i c hc;simp only[tF,uV,tS]at gg;exact⟨c,hc,gg.1,gg.2.imp id isEmpty_nil⟩
    ·cases gg
   ·rename_i h1 h2 h3;simp only[mY]at gg;split at gg<;>simp_all
  ·rename_i f fs hg;obtain⟨hb,h⟩:=Aj h;simp only[tF]at hb;refine jF hT hI hr hg hd hb.2 h (λgg=>?_);unfold VQ at gg;split at gg
   ·rename_i heq;cases heq
   ·rename_i heq;cases heq
   ·rename_i f' as' ts' heq;cases heq;cases hg
   ·rename_i h1 h2 h3;simp only[mY]at gg;split at gg<;>simp_all
  ·cases h
 ·exact gV hr hd h (λg=>g)
 ·exact gA hr hd h
 ·cases h
end Go.Rx
namespace Go.Rx
open Go Go.Lv
variable {P:Program} {w w':World} {L:List MD} {s:S} {σs:List Env} {σ:Env} {Z:Fix} {A:Reg}
theorem Wu{α:Type 1}{c:Bool}{x:Option α}{y:α}(h:(Bi (c) (x)<|none)=some y):c=true/\x=some y:=by cases c<;>simp_all
theorem dF{o:Op}{b:BV}{x:b.X}(hr:Rel Z s σs A L σ w)(h:iU P s o=some b)(hx:b.E=some x):(b.v x).isV=true/\∃val,(∀w',XO P σ w' o val)/\Cg (λb=>A b/\Z.R b) w L (b.v x) val:=by
 have hm:=hr.mem;unfold iU at h;split at h
 ·
  rename_i o t x y t';split at h
  ·rename_i a u b v hx' hy;split at h
   ·rename_i c q hc hq;cases h;have:=Ij hx;subst this;obtain⟨hv,val,hb,kJ⟩:=QS (P:=P) (w:=w) (L:=L) (B:=λb=>A b/\Z.R b) (t:=t) hq hc;exact⟨hv,val,λw'=>X.bin (Jy hm.sl hx') (Jy hm.sl hy) hb,kJ⟩
   ·cases h
  ·rename_i u v hx' hy;split at h
   ·cases h;exact⟨rfl,_,λw'=>X.jH (Gn hm.sl hx') (Gn hm.sl hy) hx,rfl⟩
   ·cases h
  ·cases h
 ·
  split at h
  ·rename_i j l hj hx' ht;cases h;obtain⟨q,hix⟩:=Nj hj (Gl hm.sl _ (Tj hj));exact⟨rfl,_,λw'=>X.iI ht (Gn hm.sl hx') hix hx,rfl⟩
  ·cases h
 ·
  split at h
  ·rename_i ht;split at h
   ·rename_i l hx';split at h
    ·rename_i a b ha hb;cases h;exact⟨rfl,_,λw'=>X.pP ht (Gn hm.sl hx') hx (En hm.sl ha) (En hm.sl hb),rfl⟩
    ·cases h
   ·cases h
  ·rename_i et ht;split at h
   ·rename_i e0 l0 hx';split at h
    ·rename_i e l;split at h
     ·rename_i inf Hh;obtain⟨hb,h⟩:=Wu h;simp only[tF]at hb;split at h
      ·rename_i a b ha hb';cases h;obtain⟨h1,h2,h3,h4,h5'⟩:=Px hx;obtain⟨c0,h5,h6⟩:=Ku (Bj hm.sl hx' rfl);have hlen:=h6.len λx c h=>Ak.len h;obtain⟨p',l',c',h7,h8⟩:=X.bZ (P:=P) (l:=a.toNat) (k:=b.toNat) (m:=l.length) ht (Ci Hh hb.1) (St.jR hr h5) (j:=0) rfl hlen (ZY hb.2) h3 h4;refine⟨rfl, .slice p' l' c',λw'=>h7 σ w' _ _ _ rfl (by rcases En hm.sl ha with h|⟨h,h'⟩;exact .inl (by rw[<-h1];exact h);exact .inr ⟨h,A4⟩)
        (by rcases En hm.sl hb' with h|⟨h,h'⟩;exact .inl (by rw[<-h2];exact h);exact .inr ⟨h,by rw[h'];simp[Aa]⟩),?_⟩
       rw[h5'];exact DI (h8.fact 0 rfl) (Bd.drop (λx c h=>Ak.len h) _ (Bd.take (λx c h=>Ak.len h) _ h6))
      ·cases h
     ·cases h
    ·cases h
   ·cases h
  ·cases h
 ·
  split at h
  ·cases h
  ·rename_i j hj;obtain⟨q,hix⟩:=Nj hj (Gl hm.sl _ (Tj hj));split at h
   ·rename_i et ht;split at h
    ·cases h
    ·rename_i inf Hh;split at h
     ·rename_i e0 l0 hx';split at h
      ·rename_i e l;obtain⟨hb,h⟩:=Wu h;cases h;simp only[tF]at hb;obtain⟨hj0,hj1,hj2⟩:=Dq hx;obtain⟨c0,h1,h2⟩:=Ku (Bj hm.sl hx' rfl);obtain⟨p,len,cap,h3,h4,h5,h6,h7⟩:=h1;have hlen:=h2.len λx c h=>Ak.len h;have hz:0<e.size:=by have:=tQ hb.2;omega
       have hl:len=l.length:=tL hz (h4.symm.trans hlen);subst hl;obtain⟨b,off,arr,T,fr,rfl,hB,hbl,hcap,hc⟩:=h7 A4;obtain⟨c1,c2,c3,he,h8,h9,_⟩:=Bd.get (λx c h=>Ak.len h) h2 hj2;have h10:c2.length=e.size:=h9.len;have h11:(j.toNat+1)*e.size<=l.length*e.size:=tI _ hj1;rw[uQ]at h11;have hp:XW (λb=>A b/\Z.R b) w (.pointer (some ⟨b,off+j.toNat*e.size,none⟩)) c2:=by
        refine⟨b,off+j.toNat*e.size,arr,T,fr,rfl,hB,hbl,λq hq=>?_⟩;rw[tW,hc _ A4,he,List.getElem?_append_right A4,h8,show j.toNat*e.size+q-j.toNat*e.size=q by omega,List.getElem?_append_left hq]
       have kJ:Cg (λb=>A b/\Z.R b) w L (.rptr (e.pv x)) (.pointer (some ⟨b,off+j.toNat*e.size,none⟩)):=⟨_,c2,rfl,hp,Vc.2 h9⟩;exact⟨rfl,_,λw'=>Hi ht (Ci Hh hb.1) h3 hix A4 A4 w',kJ⟩
      ·cases h
     ·rename_i i hx';split at h
      ·rename_i E e l hi;obtain⟨hb,h⟩:=Wu h;cases h;simp only[tF]at hb;obtain⟨hj0,hj1,hj2⟩:=Dq hx;obtain⟨v,cs,h1,h2⟩:=hm.arr hi;obtain⟨z',E',c',h3⟩:=Ns (Bj hm.sl hx' rfl);rw[h1]at h3;cases h3;have hlen:=h2.len λx c h=>Ak.len h;have hz:0<e.size:=by have:=tQ hb.2;omega
       have hpos:0<cs.length:=by rw[hlen];exact Nat.mul_pos A4 hz
       obtain⟨b,len,cap,h4,h5⟩:=hr.base h1 hpos;have hl:len=l.length:=tL hz (h5.symm.trans hlen);subst hl;refine⟨rfl,_,λw'=>Hi ht (Ci Hh hb.1) h4 hix A4 A4 w',?_⟩;rw[show(0:Nat)+j.toNat*e.size=Ah [.idx j e.size] by simp[Ah,DA]];refine Nq h1 ?_;rw[h4];rfl
      ·cases h
     ·rename_i o i p e lo n' hx';obtain⟨hb,h⟩:=Wu h;cases h;simp only[tF]at hb;have hj':0<=j/\j<n':=uD (Ij hx);obtain⟨md,v1,h3,h4,k1,k2,⟨pt,cap,k3,k4,k5,k6⟩,_⟩:=Bj hm.sl hx' rfl;have h6:=List.cons.inj h4;obtain⟨b,e1,rfl⟩:=k6 A4;refine⟨rfl,_,λw'=>Hi ht (Ci Hh hb.1) (h6.1.trans k3) hix hj'.1 A4 w',?_⟩;rw[show Ah p+lo.toNat*e.size+j.toNat*e.size=Ah (p++[.idx (lo+j) e.size]) by
       rw[Xu,tW,<-tR]
       show _=Ah p+(lo+j).toNat*e.size;rw[Int.toNat_add k1 hj'.1]]
      exact Nq h3 e1
     ·cases h
   ·rename_i m et ht;split at h
    ·cases h
    ·rename_i inf Hh;split at h
     ·rename_i i p hx';split at h
      ·rename_i T v hi;split at h
       ·rename_i e0 l0 hg;split at h
        ·rename_i m' e l;obtain⟨hb,h⟩:=Wu h;cases h;simp only[tF]at hb;obtain⟨hj0,hj1,hj2⟩:=Dq hx;obtain⟨md,b,h1,h2,h3⟩:=Jj (Bj hm.sl hx' rfl);obtain⟨b',cells,h4,h5⟩:=hm.box hi;rw[h4]at h1;cases h1;cases h2;obtain⟨c1,c2,c3,he,h6,h7,h8⟩:=Yd hg h5;have hmm:=Bh hb.2;subst hmm;have hl:l.length=m':=h7;refine⟨rfl,_,λw'=>Uv ht (Ci Hh hb.1.1) h3 hix A4 A4 w',?_⟩;rw[show Ah p+j.toNat*e.size=Ah (p++[.idx j e.size]) by simp[Rl,Ah,DA]];exact Nq h4 rfl
        ·cases h
       ·cases h
      ·cases h
     ·cases h
   ·cases h
 ·cases h
end Go.Rx
namespace Go.Rx
open Go Go.Lv
variable{want b:Bool}{v:PV}{G:Prop}
variable {P:Program} {B B':Reg} {w w':World} {L L':List MD} {s:S} {σs:List Env} {σ:Env} {Z:Fix} {A A':Reg} {n:Nat} {ops:Array Oper}
variable {R:Type} {k:S->Option R} {r:R} {d:Option Nat} {ty:TypeId} {pos:String} {after:Array Edge} {T:Tab} {inl:YW R}
theorem iP{o:Oper}(hT:DP P T Z)(hI:Vq P T.gl inl)(hr:Rel Z s σs A L σ w)(hd:Dv n o=true)(h:oY P T inl o s k=some r):
  Kb P n ops {o with guard:=none} Z s σs k r (VQ T s o=true) A L σ w:=by
 obtain⟨d,op,ty,pos,after,g⟩:=o;have hd':Dv n ⟨d,op,ty,pos,after,none⟩=true:=hd;unfold oY at h;split at h
 ·rename_i v hv;obtain⟨h1,val,h2,h3⟩:=YM (P:=P) (B:=λb=>A b/\Z.R b) (w:=w) (L:=L) (λ_=>True) hr.mem.sl hv;exact Bt hr hd' (h2 w trivial) h1 h3 h
 ·split at h
  ·rename_i v hv;obtain⟨h1,val,h2,h3⟩:=dR (P:=P) hr hv;exact Bt hr hd' (h2 w (.refl hr)) h1 h3 h
  ·cases d with
   |some dn=>exact nX hT hI hr hd' h
   |none=>
    simp only at h;split at h
    ·rename_i t a x;refine Ud (jP hr h) ?_;rintro σ' w' ⟨s',A',L',g1,g2,g3⟩;exact⟨s',A',L',g1,g2,λg=>by simp[VQ,mY]at g⟩
    ·rename_i as ts;split at h
     ·rename_i x y t t2 has hts;have h1:=Lt has;have h2:=Lt hts;subst h1 h2;refine Ud (fG hr hd' h) ?_;rintro σ' w' ⟨s',A',L',g1,g2,g3⟩;exact⟨s',A',L',g1,g2,λg=>by simp[VQ,mY]at g⟩
     ·cases h
    ·cases h
theorem WL.pG{rest:List Oper}{K:Env->World->Prop}{o:Oper}{j t:Nat}(hg:o.guard=some (j,want))(hj:(ops[j]?).bind (·.dst)=some t)(hb:σ t= .bool b)(hne:(b==want)=false)
  (hdn:Dv n o=true) (h:WL P n ops rest K (gN σ o.dst Go.undef) w):WL P n ops (o::rest) K σ w:=by
 intro ds a ha;refine wpList_step λK' hK'=>?_;have hw:Region.wanted o (yielded ops a.tmps)=false:=by
  simp only[Region.wanted,hg,Rw ha hj hb];cases b<;>cases want<;>simp_all
 rw[uA (by rw[hw];simp)];refine hK' _ _ ?_;cases hd:o.dst with
 |none=>rw[hd]at h;exact h _ _ (ha.TH _)
 |some d=>rw[hd]at h;unfold Dv at hdn;rw[hd]at hdn;exact h _ _ (ha.put hdn _)
theorem WL.pQ{rest:List Oper}{K:Env->World->Prop}{o:Oper}{j t:Nat}(hg:o.guard=some (j,want))(hj:(ops[j]?).bind (·.dst)=some t)(hb:σ t=Go.undef)
  (hdn:Dv n o=true) (h:WL P n ops rest K (gN σ o.dst Go.undef) w):WL P n ops (o::rest) K σ w:=by
 intro ds a ha;refine wpList_step λK' hK'=>?_;have hy:yielded ops a.tmps j=none:=by
  unfold yielded;rw[hj];have h1:=ha.get t;rw[hb]at h1;cases h:a.tmps[t]? with
  |none=>simp[h]
  |some v=>
   rw[Array.getD_eq_getD_getElem?,h]at h1;simp at h1;subst h1;simp[h,undef]
 have hw:Region.wanted o (yielded ops a.tmps)=false:=by
  simp only[Region.wanted,hg,hy];cases want<;>rfl
 rw[uA (by rw[hw];simp)];refine hK' _ _ ?_;cases hd:o.dst with
 |none=>rw[hd]at h;exact h _ _ (ha.TH _)
 |some d=>rw[hd]at h;unfold Dv at hdn;rw[hd]at hdn;exact h _ _ (ha.put hdn _)
theorem aY{o:Oper}(hr:Rel Z s σs A L σ w)(h:k (s.Cp o.dst .off)=some r):WL P n ops [] (VN Z σs k r G A L s.it w) (gN σ o.dst Go.undef) w:=by
 refine WL.nil ⟨_,A,L,h,hr.kS,λ_=>?_⟩;have:(s.Cp o.dst .off).it=s.it:=by cases o.dst<;>rfl
 rw[this];exact .refl
theorem Xt{a:Bool}:FC a b=(b==a):=by cases a<;>cases b<;>rfl
theorem dD{G':Prop}{σ':Env}{it:List Item}(hp:VN Z σs k r G A L it w σ' w')(h:G'->G):VN Z σs k r G' A L it w σ' w':=by
 obtain⟨s',A',L',h1,h2,h3⟩:=hp;exact⟨s',A',L',h1,h2,λg=>h3 (h g)⟩
theorem QW{t dn:Nat}{val:Value}(ht:σ t= .bool b)(hne:Nat.beq dn t=false)(h1:b=want->Cg B w L v val)(h2:b≠want->val=Go.undef):Dn B w L (Jf σ dn val) dn (.gd t want v):=by
 have htd:t≠dn:=by intro e;subst e;simp at hne
 exact⟨b,by rw[Yc _ _ htd];exact ht,λe=>by rw[Mc];exact h1 e,λe=>by rw[Mc];exact h2 e⟩
theorem eV{o:Oper}{j t dn:Nat}(hr:Rel Z s σs A L σ w)(hg:o.guard=some (j,want))(hj:(ops[j]?).bind (·.dst)=some t)(ht:σ t= .bool b)(hdn:Dv n o=true)(hd:o.dst=some dn)
  (hne:Nat.beq dn t=false) (hv:b=want->v.isV=true/\∃val,XO P σ w o.op val/\Cg (λb=>A b/\Z.R b) w L v val) (hk:k (s.set dn (.gd t want v))=some r):Kb P n ops o Z s σs k r G A L σ w:=by
 by_cases hbw:b=want
 ·obtain⟨h1,val,h2,h3⟩:=hv hbw;refine WL.on hg hj ht (by simpa using hbw) (WL.dX rfl (by simpa [Dv]using hdn) (h2 _ _ _ _ _) (WL.nil ⟨_,A,L,hk,?_,λ_=> .refl⟩));simp only[hd];exact hr.set (QW ht hne (λ_=>h3) (λe=>absurd hbw e))
 ·refine WL.pG hg hj ht (by simpa using hbw) hdn (WL.nil ⟨_,A,L,hk,?_,λ_=> .refl⟩);rw[hd];exact hr.set (QW ht hne (λe=>absurd e hbw) (λ_=>rfl))
theorem Py{t:Nat}(hm:Cr B w L σ s.sl)(h:Lc s.sl t= .val .bool b):σ t= .bool b:=by
 have h1:=Hj (t:=t) hm;rw[h]at h1;exact Mx h1
theorem IV{t:Nat}(hm:Cr B w L σ s.sl)(h:Lc s.sl t= .cst (.bool b)):σ t= .bool b:=by
 have h1:=Hj (t:=t) hm;rw[h]at h1;have: [σ t]=[Value.bool b]:=h1.1;simpa using this
theorem nU{o:Oper}{j t:Nat}(hT:DP P T Z)(hI:Vq P T.gl inl)(hr:Rel Z s σs A L σ w)(hd:Dv n o=true)(hg:o.guard=some (j,want))(hj:(ops[j]?).bind (·.dst)=some t)
  (h:oW P T inl o t want s k=some r):Kb P n ops o Z s σs k r (VQ T s o=true/\∃b,Lc s.sl t= .cst (.bool b)) A L σ w:=by
 have hm:=hr.mem;have lit:∀(G:Prop) (s1:S) (b:Bool),(G->VQ T s1 o=true)->Rel Z s1 σs A L σ w->s1.it=s.it->σ t= .bool b-> (Bi (FC want b) (oY P T inl o s1 k)<|k (s1.Cp o.dst .off))=some r->Kb P n ops o Z s σs k r G A L σ w:=by
  intro G s1 b hG hr1 hit ht h;cases hb:FC want b with
  |true=>
   rw[hb]at h;refine WL.on hg hj ht (by rw[<-Xt];exact hb) (Ud (iP hT hI hr1 hd h) λσ' w' hp=>?_);rw[<-hit];exact dD hp hG
  |false=>
   rw[hb]at h;refine WL.pG hg hj ht (by rw[<-Xt];exact hb) hd ?_;rw[<-hit];exact aY hr1 h
 unfold oW at h;simp only at h;split at h
 ·rename_i b hb;exact lit _ s b (λg=>g.1) hr rfl (IV hm.sl hb) h
 ·rename_i hb;have h1:=Hj (t:=t) hm.sl;rw[hb]at h1;exact WL.pQ hg hj h1 hd (aY hr h)
 ·rename_i b hb;have ht:=Py hm.sl hb;have qO:∀{X:Prop},(∃b,Lc s.sl t= .cst (.bool b))->X:=λ⟨_,g⟩=>by rw[hb]at g;cases g
  split at h
  ·rename_i dn v hdn hv;cases hne:Nat.beq dn t with
   |true=>rw[hne]at h;cases h
   |false=>
    rw[hne]at h;refine eV hr hg hj ht hd hdn hne (λhbw=>?_) h;subst hbw;obtain⟨h1,val,h2,h3⟩:=YM (P:=P) (λ_=>True) (hr.res ht).mem.sl hv;exact⟨h1,val,h2 w trivial,h3⟩
  ·rename_i dn v hdn hv0 hv;cases hne:Nat.beq dn t with
   |true=>rw[hne]at h;cases h
   |false=>
    rw[hne]at h;refine eV hr hg hj ht hd hdn hne (λhbw=>?_) h;subst hbw;obtain⟨h1,val,h2,h3⟩:=dR (P:=P) (hr.res ht) hv;exact⟨h1,val,h2 w (.refl (hr.res ht)),h3⟩
  ·cases b with
   |true=>exact lit _ (s.res t true) true (λg=>qO g.2) (hr.res ht) rfl ht (by simpa using h)
   |false=>exact lit _ (s.res t false) false (λg=>qO g.2) (hr.res ht) rfl ht (by simpa using h)
 ·cases h
theorem fE{o:Oper}(hT:DP P T Z)(hI:Vq P T.gl inl)(hr:Rel Z s σs A L σ w)(h:FW P T inl n ops o s k=some r):Kb P n ops o Z s σs k r (VQ T s o=true/\dY ops s o=true) A L σ w:=by
 have hm:=hr.mem;unfold FW at h;cases hd:Dv n o with
 |false=>rw[hd]at h;cases h
 |true=>
  rw[hd]at h;simp only[uX,vG]at h;try dsimp only[Bi]at h
  split at h
  ·rename_i hg;have:({o with guard:=none}:Oper)=o:=by cases o;simp only at hg;subst hg;rfl
   rw[<-this];refine Ud (iP hT hI hr hd h) λσ' w' hp=>dD hp ?_;rintro⟨g,_⟩;rw[this]at g;exact g
  ·rename_i j want hg;split at h
   ·cases h
   ·rename_i t hj;have fin:∀s1:S,(dY ops s o=true->s1=s)->Rel Z s1 σs A L σ w->s1.it=s.it->oW P T inl o t want s1 k=some r->Kb P n ops o Z s σs k r (VQ T s o=true/\dY ops s o=true) A L σ w:=by
     intro s1 hs hr1 hit h;refine Ud (nU hT hI hr1 hd hg hj h) λσ' w' hp=>?_;rw[<-hit];refine dD hp (λg=>?_);have:=hs g.2;subst this;refine⟨g.1,?_⟩;have h2:=g.2;unfold dY at h2;simp only[hg,hj]at h2;split at h2
     ·exact⟨_,by assumption⟩
     ·cases h2
    split at h
    ·rename_i t2 w2 v hv;have qO:∀{X:Prop},dY ops s o=true->X:=λg=>by
      unfold dY at g;simp only[hg,hj,hv]at g;cases g
     split at h
     ·rename_i b hb;have ht:=Py hm.sl hb;cases b with
      |true=>exact fin _ qO (hr.res ht) rfl (by simpa using h)
      |false=>exact fin _ qO (hr.res ht) rfl (by simpa using h)
     ·cases h
    ·exact fin s (λ_=>rfl) hr rfl h
theorem Rel.qD{rr:Nat}(hr:Rel Z s σs A L σ w)(hl:rr<w.heap.size)(hm:Bp w (λb=>A b\/b=rr) (L.map MD.Dl)):Rel Z s σs (λb=>A b\/b=rr) L σ w:=
 ⟨λb hb=>hb.elim (hr.lt b) (λe=>e▸hl),λf hf=>f.step (hr.facts f hf) (λ_ h=> .inl h) (λ_ _=>rfl) (.refl _),hm⟩
theorem Rel.world{w':World}(hr:Rel Z s σs A L σ w)(hs:Same A w w')(hg:Gr w w')(hm:Bp w' A (L.map MD.Dl)):Rel Z s σs A L σ w':=
 ⟨λb hb=>uE (hr.lt b hb) hg.le,λf hf=>f.step (hr.facts f hf) (λ_ h=>h) hs hg,hm⟩
def iY(P:Program)(Z:Fix)(d t:Nat)(ks:List UInt8)(vs:List PV)(A:Reg)(L:List MD)(σ:Env)(w:World):Prop:=
 ∃rr es c kt et,P.underlying t=some (.map kt et)/\P.underlying kt=some (.int .u8)/\σ d= .map (some rr)/\w.heap[rr]? =some (.map es c)/\Z.w0.heap.size<=rr/\ ¬A rr/\Bp w (λb=>A b\/b=rr) (L.map MD.Dl)/\
  es.toList.map (·.key)=ks.map (λk=>iv (T:=UInt8) (k:= .u8) k)/\Ca (λb=>A b/\Z.R b) w L vs (es.toList.map (·.val))
theorem iY.close{d t:Nat}{ks:List UInt8}{vs:List PV}(hr:Rel Z s σs A L σ w)(h:iY P Z d t ks vs A L σ w):∃A',Rel Z (s.set d (.mp ks vs)) σs A' L σ w:=by
 obtain⟨rr,es,c,kt,et,_,_,h3,h4,h5,h6,h7,h8,h9⟩:=h;have hr1:=hr.qD (lt_of_heap h4) h7;have hσ:Jf σ d (.map (some rr))=σ:=by
  rw[<-h3];funext q;by_cases hq:q=d
  ·rw[hq,Mc]
  ·rw[Yc _ _ hq]
 refine⟨λb=>A b\/b=rr,?_⟩;rw[<-hσ];refine hr1.set ?_;rw[hσ];have hv:Ap (λb=>(A b\/b=rr)/\Z.R b) w L (.mp ks vs) [.map (some rr)]:=⟨rr,es,c,rfl,⟨.inr rfl,Z.new _ h5⟩,h4,h8,Ap.OQ (λb hb=>⟨.inl hb.1,hb.2⟩) (λ_ _=>rfl) (.refl L) h9⟩
 show Ap _ w L (.mp ks vs) [σ d];rw[h3];exact hv
theorem eP{u:UInt8}:∀{es:List MapEntry} {ks:List UInt8} (i:Nat),es.map (·.key)=ks.map (λk=>iv (T:=UInt8) (k:= .u8) k)->fQ u ks=false->Instr.findNow (.int .u8) (iv (T:=UInt8) (k:= .u8) u) es i=some none
 |[],_,_,_,_=>rfl
 |e::es,[],_,h,_=>by cases h
 |e::es,q::ks,i,h,hu=>by
  simp only[tZ,vF]at h;simp only[fQ,uL]at hu;have hs:Instr.sameNow (.int .u8) (iv (T:=UInt8) (k:= .u8) u) e.key=some (geq u q):=by rw[h.1];rfl
  simp only[Instr.findNow,hs,hu.1];exact eP (i+1) h.2 hu.2
theorem Ca.push{B:Reg}{p:PV}{v:Value}(h:eO p.isA (Ap B w L p) v):∀{vs:List PV} {us:List Value},Ca B w L vs us->Ca B w L (vs++[p]) (us++[v])
 |[],us,e=>by
  rw[show us=[]from e];exact⟨v,[],rfl,h,rfl⟩
 |a::vs,us,⟨x,us',e,h1,h2⟩=>⟨x,us'++[v],by rw[e];rfl,h1,Ca.push h h2⟩
theorem iL{d t:Nat}{o:Op}{u:UInt8}{x:Operand}(h:jV d t o=some (u,x)):o= .insert t (.tmp d) (.const (iv (T:=UInt8) (k:= .u8) u)) x:=by
 unfold jV at h;split at h
 ·rename_i t' q m x';obtain⟨hb,h⟩:=Aj h;simp only[tF]at hb;cases h;rw[Bh hb.1.1,Bh hb.1.2];have:=uD hb.2
  show Op.insert t (.tmp d) (.const (.int .u8 m)) x= .insert t (.tmp d) (.const (.int .u8 (((GI.ofZ m:UInt8).toNat:Nat):Int))) x;rw[this]
 ·cases h
theorem mG{o:Oper}{d t:Nat}(h:oH P n o=some (d,t)):o.op= .makeMap t none/\o.dst=some d/\o.guard=none/\Nat.blt d n=true/\∃kt et,P.underlying t=some (.map kt et)/\P.underlying kt=some (.int .u8):=by
 unfold oH at h;split at h
 ·rename_i t' ho;split at h
  ·rename_i d' kt et hd hg ht;split at h
   ·rename_i hk;obtain⟨hb,h⟩:=Aj h;cases h;exact⟨ho,hd,hg,hb,kt,et,ht,hk⟩
   ·cases h
  ·cases h
 ·cases h
def qZ(P:Program)(Z:Fix)(σs:List Env)(m:Option (Nat×Nat×List UInt8×List PV))(A:Reg)(L:List MD)(σ:Env)(w:World):Prop:=match m with|none=>True|some (d,t,ks,vs)=>iY P Z d t ks vs A L σ w
theorem Wz(hT:DP P T Z)(hI:Vq P T.gl inl):∀{l:List Oper} {m:Option (Nat×Nat×List UInt8×List PV)} {s:S} {A:Reg} {L:List MD} {σ:Env} {w:World},Rel Z s σs A L σ w->qZ P Z σs m A L σ w->Oi P T inl n ops l m s k=some r->
  WL P n ops l (λσ' w'=>∃s' A' L',k s'=some r/\Rel Z s' σs A' L' σ' w') σ w
 |[],m,s,A,L,σ,w,hr,hm,h=>by
  unfold Oi at h;cases m with
  |none=>exact WL.nil ⟨s,A,L,h,hr⟩
  |some q=>
   obtain⟨d,t,ks,vs⟩:=q;obtain⟨A',hr'⟩:=iY.close hr hm;exact WL.nil ⟨_,A',L,h,hr'⟩
 |o::l,m,s,A,L,σ,w,hr,hm,h=>by
  have op:∀{s:S} {A:Reg},Rel Z s σs A L σ w-> (FW P T inl n ops o s λs'=>Oi P T inl n ops l none s' k)=some r->WL P n ops (o::l) (λσ' w'=>∃s' A' L',k s'=some r/\Rel Z s' σs A' L' σ' w') σ w:=by
   intro s A hr h;have h1:=fE (ops:=ops) hT hI hr h;refine WL.cut _ [o] h1 ?_;rintro σ' w' ⟨s',A',L',g1,g2,_⟩;exact Wz (m:=none) hT hI g2 trivial g1
  unfold Oi at h;cases m with
  |none=>
   simp only at h;split at h
   ·exact op hr h
   ·rename_i d t hmk;obtain⟨h1,h2,h3,h4,kt,et,h5,h6⟩:=mG hmk;have hsz:(w.alloc (.map #[] 0)).heap.size=w.heap.size+1:=AZ w _;have hkeep:Keep w (w.alloc (.map #[] 0)):=OC w _;have hr1:Rel Z s σs A L σ (w.alloc (.map #[] 0)):=St.keep hr hkeep;have hr2:Rel Z (s.set d .undef) σs A L (Jf σ d (.map (some w.heap.size))) (w.alloc (.map #[] 0)):=hr1.set trivial;have EC:Bp (w.alloc (.map #[] 0)) (λb=>A b\/b=w.heap.size) (L.map MD.Dl):=
     (Bp.step (by rw[hsz];omega) (St.mobs hr).lt λb hb _=>hkeep.same b hb).Mr λb hb=>hb.imp id λe=>Nat.le_of_eq e.symm
    have hx:(execOp (ev σ) o).run P w= .ok (.value (.map (some w.heap.size))) (w.alloc (.map #[] 0)):=by
     obtain⟨_,_,_,_,_,_⟩:=o;simp only at h1;subst h1;simp[execOp,Instr.makeMap,Result.andThen]
    refine WL.val h3 h2 h4 hx (Wz hT hI hr2 ?_ h);exact⟨w.heap.size, #[],0,kt,et,h5,h6,Mc _ _ _,Ib w _,(hr.fact 1 (f:= .old Z.M Z.w0) rfl).1.le,λhA=>absurd (hr.lt _ hA) A4,EC,rfl,rfl⟩
  |some q=>
   obtain⟨d,t,ks,vs⟩:=q;simp only at h;have cl:∀{s':S},s'=s.set d (.mp ks vs)-> (FW P T inl n ops o s' λs'=>Oi P T inl n ops l none s' k)=some r->WL P n ops (o::l) (λσ' w'=>∃s' A' L',k s'=some r/\Rel Z s' σs A' L' σ' w') σ w:=by
    intro s' hs' h;subst hs';obtain⟨A',hr'⟩:=iY.close hr hm;exact op hr' h
   split at h
   ·rename_i q hg hq;split at h
    ·rename_i v hv;obtain⟨hb,hv⟩:=Aj hv;simp only[tF,tS]at hb;obtain⟨h1,val,h2,h3⟩:=YM (P:=P) (B:=λb=>A b/\Z.R b) (w:=w) (L:=L) (λ_=>True) hr.mem.sl hv;have hne:d≠q:=λe=>by rw[e]at hb;simp at hb
     have hx:(execOp (ev σ) o).run P w= .ok (.value val) w:=by
      obtain⟨d0,nZ,sX,rQ,sY,g0⟩:=o;exact h2 w trivial d0 sX rQ sY g0
     refine WL.val hg hq hb.1 hx (Wz hT hI (hr.set (Dn.put h1 h3)) ?_ h);obtain⟨rr,es,c,kt,et,g1,g2,g3,g4⟩:=hm;exact⟨rr,es,c,kt,et,g1,g2,by rw[Yc _ _ hne];exact g3,g4⟩
    ·exact cl rfl h
   ·rename_i hg hq;split at h
    ·rename_i u x hins;have ho:=iL hins;obtain⟨hb,h⟩:=Aj h;simp only[tF,tS]at hb;obtain⟨rr,es,c,kt,et,g1,g2,g3,g4,g5,g6,g7,g8,g9⟩:=hm;have hxv:Dr (λb=>A b/\Z.R b) w L (Bv s.sl x) (ev σ x):=by
      refine Qc hr.mem.sl ?_;cases hp:Bv s.sl x<;>rw[hp]at hb<;>first|rfl|exact absurd hb.1 (by simp[pS])
     have hlt:=lt_of_heap g4
     let o':Obj:= .map (es.push {key:=iv (T:=UInt8) (k:= .u8) u,val:=ev σ x,born:=c}) (c+1)
     let w':World:={w with heap:=w.heap.setIfInBounds rr o'}
     have hheap:∀b,b≠rr->w'.heap[b]? =w.heap[b]? :=λb hb=>by simp[w',Array.getElem?_setIfInBounds_ne (vC hb)]
     have hnew:w'.heap[rr]? =some o':=by simp[w',hlt]
     have hgr:Gr w w':=⟨by simp[w'],rfl,rfl,rfl⟩;have hsame:Same A w w':=λb hb=>hheap b λe=>g6 (e▸hb);have EC:Bp w' (λb=>A b\/b=rr) (L.map MD.Dl):=Bp.step hgr.le g7 λb _ hb=>hheap b λe=>hb (.inr e);have hck:(Instr.checkKey false 10000 kt (iv (T:=UInt8) (k:= .u8) u)).run P w= .ok () w:=MapKept.run_checkKey g2 (show MapKept.IsKey (.int .u8) (.int .u8 _)from rfl) _ 9999;have qW:=MapKept.run_findKey (P:=P) (w:=w) g2 (eP 0 g8 hb.2);have hx:(execOp (ev σ) o).run P w= .ok .skip w':=by
      obtain⟨_,_,_,_,_,_⟩:=o;simp only at ho;subst ho;have e1:ev σ (.tmp d)= .map (some rr):=g3;have e2:ev σ (.const (iv (T:=UInt8) (k:= .u8) u))=iv (T:=UInt8) (k:= .u8) u:=rfl;simp[execOp,e1,e2,Instr.mapUpdate,tH g1,MapKept.run_getObj_map g4,hck,qW,MapKept.run_setObj_map _ g4,Result.andThen,w',o']
     refine WL.unit hg hq hx (Wz hT hI (hr.world hsame hgr (EC.Mr λb hb=> .inl hb)) ?_ h);refine⟨rr,_,_,kt,et,g1,g2,g3,hnew,g5,g6,EC,?_,?_⟩
     ·simp only[Array.toList_push,uW,g8,tZ,vJ]
     ·simp only[Array.toList_push,uW,tZ,vJ];exact Ap.OQ (λ_ h=>h) (λb hb=>hsame b hb.1) (.refl L) (Ca.push hxv g9)
    ·exact cl rfl h
   ·cases h
theorem iW(hT:DP P T Z)(hI:Vq P T.gl inl){l:List Oper}{s:S}{A:Reg}{L:List MD}{σ:Env}{w:World}(hr:Rel Z s σs A L σ w)(h:aU P T inl n ops l s k=some r):
  WL P n ops l (λσ' w'=>∃s' A' L',k s'=some r/\Rel Z s' σs A' L' σ' w') σ w:=Wz (m:=none) hT hI hr trivial h
end Go.Rx
namespace Go.Rx
open Go Go.Lv
variable{b:BV}{o:Op}{v:PV}
variable {P:Program} {B B':Reg} {w w':World} {L L':List MD} {s:S} {σs:List Env} {σ:Env} {Z:Fix} {A A':Reg} {n:Nat} {ops:Array Oper}
variable {R:Type} {k:S->Option R} {r:R} {d:Option Nat} {ty:TypeId} {pos:String} {after:Array Edge} {T:Tab} {inl:YW R} {mem:Bool} {listed:Array Bool}
def MG(Z:Fix)(σs:List Env)(A:Reg)(L:List MD)(it:List Item)(w w':World):Prop:=∃s2 σ2 A' L',Rel Z s2 σs A' L' σ2 w'/\Grow A L it w A' L' s2.it w'
theorem MG.refl(hr:Rel Z s σs A L σ w):MG Z σs A L s.it w w:=⟨s,σ,A,L,hr, .refl⟩
theorem MG.ext(hr:Rel Z s σs A L σ w)(h:MG Z σs A L s.it w w'):Ext Z s σs A L σ w w':=by
 obtain⟨s2,σ2,A',L',h1,h2⟩:=h;exact h2.ext hr h1
theorem KC{z:Array Bool}:∀{is:List Nat} {i d:Nat} {v:PV},Kx P T n mem ops z listed s is=some (i,d,v)->∃o,ops[i]? =some o/\Kz ops (tw z) listed i=true/\ZP P T n mem ops o s=some (d,v)
 |[],_,_,_,h=>by simp[Kx]at h
 |j::is,i,d,v,h=>by
  simp only[Kx]at h;split at h
  ·cases h
  ·rename_i o ho;split at h
   ·rename_i d' v' hp;cases h;cases ht:Kz ops (tw z) listed j with
    |true=>rw[ht]at hp;exact⟨o,ho,by first|exact ht|rfl,hp⟩
    |false=>rw[ht]at hp;cases hp
   ·exact KC h
def GS(Z:Fix)(σs:List Env)(w':World):Prop:=∃s2 σ2 A2 L2,Rel Z s2 σs A2 L2 σ2 w'
theorem Ext.gs(h:Ext Z s σs A L σ w w'):GS Z σs w':=by
 obtain⟨⟨A',L',it',_,hr⟩,_⟩:=h;exact⟨_,_,_,_,hr⟩
theorem gL{g:Nat}{t:TypeId}(hT:DP P T Z)(h:T.nE P g t=some v):∃cs,(∀w',GS Z σs w'->∃T1 fr,w'.heap[g]? =some (.cells cs.toArray T1 fr))/\∀(B:Reg) (w:World) (L:List MD),Ap B w L v cs:=by
 unfold Tab.nE at h;split at h
 ·rename_i cs hg;split at h
  ·rename_i v' hp;cases h;refine⟨cs,λw' hw=>?_,λB w L=>?_⟩
   ·obtain⟨s2,σ2,A2,L2,hr⟩:=hw;obtain⟨_,T1,fr,h2⟩:=hr.iS (p:=(g,cs)) (by rw[hT.2];exact RG hg);exact⟨T1,fr,h2⟩
   ·obtain⟨c,e1,h3⟩:=Wg (B:=B) (w:=w) (L:=L) Q hp;rw[tY]at e1;subst e1;exact h3
  ·cases h
 ·cases h
theorem lD(hT:DP P T Z)(h:oN P T o=some v):v.isV=true/\∃val,(∀w',GS Z σs w'->XO P σ w' o val)/\Cg (λb=>A b/\Z.R b) w L v val:=by
 unfold oN at h;split at h
 ·rename_i t g;split at h
  ·rename_i u hv;obtain⟨hb,hk⟩:=Aj h;cases hk;obtain⟨cs,h1,h3⟩:=gL (σs:=σs) hT hv;obtain⟨val,h7,h8⟩:=AR (P:=P) (σ:=σ) (x:= .global g) (b:=g) (off:=0) (Gh hb) (h3 (λb=>A b/\Z.R b) w L) rfl;obtain⟨hv1,hv2⟩:=Ef h7;refine⟨hv1,val,λw' hw=>h8 w' λj hj=>?_,hv2⟩;obtain⟨T1,fr,h4⟩:=h1 w' hw;rw[cell_of h4];simp
  ·cases h
 ·cases h
theorem SH{S:World->Prop}(hT:DP P T Z)(hr:Rel Z s σs A L σ w)(h:OB P T mem s o=some v)(hS:mem=true->∀w',S w'->Ext Z s σs A L σ w w')(hG:∀w',S w'->GS Z σs w'):v.isV=true/\∃val,(∀w',S w'->XO P σ w' o val)/\Cg (λb=>A b/\Z.R b) w L v val:=by
 unfold OB at h;split at h
 ·rename_i u hu;cases h;exact YM (P:=P) S hr.mem.sl hu
 ·split at h
  ·rename_i u hu;cases h;cases mem with
   |true=>
    obtain⟨h1,val,h2,h3⟩:=dR (P:=P) hr hu;exact⟨h1,val,λw' hw=>h2 w' (hS rfl w' hw),h3⟩
   |false=>cases hu
  ·obtain⟨h1,val,h2,h3⟩:=lD (σs:=σs) (σ:=σ) (A:=A) (w:=w) (L:=L) hT h;exact⟨h1,val,λw' hw=>h2 w' (hG w' hw),h3⟩
theorem lW{t:Nat}{b:Bool}{w':World}(h:Ext Z s σs A L σ w w')(ht:σ t= .bool b):Ext Z (s.res t b) σs A L σ w w':=by
 obtain⟨⟨A',L',it',h1,h2⟩,h3⟩:=h;exact⟨⟨A',L',it',h1,Rel.res (s:=⟨s.sl,s.it++it',s.st⟩) h2 ht⟩,h3⟩
theorem fI{S:World->Prop}{z:Array Bool}{fuel i dn:Nat}{o:Oper}{K:Env->World->Prop}(hT:DP P T Z)(hr:Rel Z s σs A L σ w)(hi:ops[i]? =some o)(hB:Kz ops (tw z) listed i=true)(hp:ZP P T n mem ops o s=some (dn,v))(hSw:S w)
  (hS:mem=true->∀w',S w'->Ext Z s σs A L σ w w') (hG:∀w',S w'->GS Z σs w') (h:∀σ',Rel Z (s.set dn v) σs A L σ' w->WD P n ops S (tw z) fuel (listed.setIfInBounds i true) K σ' w):WD P n ops S (tw z) (fuel+1) listed K σ w:=by
 obtain⟨d,op,ty,pos,after,g⟩:=o;have hm:=hr.mem;unfold ZP at hp;simp only at hp;split at hp
 ·cases hp
 ·rename_i d';cases hn:Nat.blt d' n with
  |false=>rw[hn]at hp;cases hp
  |true=>
   rw[hn]at hp;simp only[uX,vG]at hp;try dsimp only[Bi]at hp
   split at hp
   ·
    cases hv:OB P T mem s op with
    |none=>rw[hv]at hp;cases hp
    |some u=>
     rw[hv]at hp;cases hp;obtain⟨h1,val,h2,h3⟩:=SH hT hr hv hS hG;exact WD.x i hi hB hn hSw h2 (h _ (hr.set (.put h1 h3)))
   ·rename_i j want;split at hp
    ·cases hp
    ·rename_i t hj;split at hp
     ·rename_i b hb;have ht:=IV hm.sl hb;cases hw:FC want b with
      |true=>
       rw[hw]at hp;dsimp only[Bi,cond]at hp;cases hv:OB P T mem s op with
       |none=>rw[hv]at hp;cases hp
       |some u=>
        rw[hv]at hp;cases hp;obtain⟨h1,val,h2,h3⟩:=SH hT hr hv hS hG;have hbw:(b==want)=true:=by rw[<-Xt];exact hw
        refine WD.gx (v:=val) i hi hB hn hj ht hSw (λ_=>h2) (h _ ?_);rw[RS hbw];exact hr.set (.put h1 h3)
      |false=>
       rw[hw]at hp;cases hp;have hbw:(b==want)=false:=by rw[<-Xt];exact hw
       refine WD.gx (v:=Go.undef) i hi hB hn hj ht hSw (λhg=>by rw[hbw]at hg;cases hg) (h _ ?_);rw[dK hbw];exact hr.set (show Jf σ dn Go.undef dn=Go.undef from Mc _ _ _)
     ·rename_i b hb;have ht:=Py hm.sl hb;cases hne:Nat.beq d' t with
      |true=>rw[hne]at hp;cases hp
      |false=>
       rw[hne]at hp;dsimp only[Bi,cond]at hp;cases hv:OB P T mem (s.res t want) op with
       |none=>rw[hv]at hp;cases hp
       |some u=>
        rw[hv]at hp;cases hp;by_cases hbw:b=want
        ·subst hbw;obtain⟨h1,val,h2,h3⟩:=SH hT (hr.res ht) hv (λhm w' hw=>lW (hS hm w' hw) ht) hG;refine WD.gx (v:=val) i hi hB hn hj ht hSw (λ_=>h2) (h _ ?_);rw[RS A6];exact hr.set (QW ht hne (λ_=>h3) (λe=>absurd rfl e))
        ·refine WD.gx (v:=Go.undef) i hi hB hn hj ht hSw (λhg=>absurd (by simpa using hg) hbw) (h _ ?_);rw[dK (by simpa using hbw)];exact hr.set (QW ht hne (λe=>absurd e hbw) (λ_=>rfl))
     ·cases hp
theorem AD{z:Array Bool}:∀{is:List Nat} {i d:Nat} {v:BG},Np P n ops z listed s is=some (i,d,v)->∃o,ops[i]? =some o/\Kz ops (tw z) listed i=true/\WQ P n ops o s=some (d,v)
 |[],_,_,_,h=>by simp[Np]at h
 |j::is,i,d,v,h=>by
  simp only[Np]at h;split at h
  ·cases h
  ·rename_i o ho;split at h
   ·rename_i d' v' hp;cases h;cases ht:Kz ops (tw z) listed j with
    |true=>rw[ht]at hp;exact⟨o,ho,by first|exact ht|rfl,hp⟩
    |false=>rw[ht]at hp;cases hp
   ·exact AD h
theorem kF{S:World->Prop}{z:Array Bool}{fuel i dn:Nat}{o:Oper}{x:b.X}{K:Env->World->Prop}(hr:Rel Z s σs A L σ w)(hi:ops[i]? =some o)(hB:Kz ops (tw z) listed i=true)(hp:WQ P n ops o s=some (dn, .on b))(hx:b.E=some x)(hSw:S w)
  (h:∀σ',Rel Z (s.set dn (b.v x)) σs A L σ' w->WD P n ops S (tw z) fuel (listed.setIfInBounds i true) K σ' w):WD P n ops S (tw z) (fuel+1) listed K σ w:=by
 obtain⟨d,op,ty,pos,after,g⟩:=o;have hm:=hr.mem;unfold WQ at hp;simp only at hp;split at hp
 ·cases hp
 ·rename_i d';cases hn:Nat.blt d' n with
  |false=>rw[hn]at hp;cases hp
  |true=>
   rw[hn]at hp;simp only[uX,vG]at hp;try dsimp only[Bi]at hp
   split at hp
   ·cases hv:iU P s op with
    |none=>rw[hv]at hp;cases hp
    |some u=>
     rw[hv]at hp;cases hp;obtain⟨h1,val,h2,h3⟩:=dF hr hv hx;exact WD.x i hi hB hn hSw (λw' _=>h2 w') (h _ (hr.set (.put h1 h3)))
   ·rename_i j want;split at hp
    ·cases hp
    ·rename_i t hj;split at hp
     ·rename_i c hb;have ht:=IV hm.sl hb;cases hw:FC want c with
      |true=>
       rw[hw]at hp;dsimp only[Bi,cond]at hp;cases hv:iU P s op with
       |none=>rw[hv]at hp;cases hp
       |some u=>
        rw[hv]at hp;cases hp;obtain⟨h1,val,h2,h3⟩:=dF hr hv hx;have hbw:(c==want)=true:=by rw[<-Xt];exact hw
        refine WD.gx (v:=val) i hi hB hn hj ht hSw (λ_ w' _=>h2 w') (h _ ?_);rw[RS hbw];exact hr.set (.put h1 h3)
      |false=>rw[hw]at hp;cases hp
     ·rename_i c hb;cases hne:Nat.beq d' t with
      |true=>rw[hne]at hp;cases hp
      |false=>
       rw[hne]at hp;dsimp only[Bi,cond]at hp;cases hv:iU P (s.res t want) op with
       |none=>rw[hv]at hp;cases hp
       |some u=>rw[hv]at hp;cases hp
     ·cases hp
theorem fM{S:World->Prop}{z:Array Bool}{fuel i dn t:Nat}{want bv:Bool}{o:Oper}{K:Env->World->Prop}{X:Go.Rx.S->Option R}(hr:Rel Z s σs A L σ w)(hi:ops[i]? =some o)(hB:Kz ops (tw z) listed i=true)(hp:WQ P n ops o s=some (dn, .ask t want bv b))(hSw:S w)
  (hx:(Bi (FC want bv) (Option.bind b.E λx=>X ((s.res t bv).set dn (b.v x)))<|X ((s.res t bv).set dn .off))=some r)
  (h:∀s',s'.it=s.it->∀σ',Rel Z s' σs A L σ' w->X s'=some r->WD P n ops S (tw z) fuel (listed.setIfInBounds i true) K σ' w):WD P n ops S (tw z) (fuel+1) listed K σ w:=by
 obtain⟨d,op,ty,pos,after,g⟩:=o;have hm:=hr.mem;unfold WQ at hp;simp only at hp;split at hp
 ·cases hp
 ·rename_i d';cases hn:Nat.blt d' n with
  |false=>rw[hn]at hp;cases hp
  |true=>
   rw[hn]at hp;simp only[uX,vG]at hp;try dsimp only[Bi]at hp
   split at hp
   ·cases hv:iU P s op with
    |none=>rw[hv]at hp;cases hp
    |some u=>rw[hv]at hp;cases hp
   ·rename_i j want';split at hp
    ·cases hp
    ·rename_i t' hj;split at hp
     ·rename_i c hb;cases hw:FC want' c with
      |true=>
       rw[hw]at hp;dsimp only[Bi,cond]at hp;cases hv:iU P s op with
       |none=>rw[hv]at hp;cases hp
       |some u=>rw[hv]at hp;cases hp
      |false=>rw[hw]at hp;cases hp
     ·rename_i c hb;have ht:=Py hm.sl hb;cases hne:Nat.beq d' t' with
      |true=>rw[hne]at hp;cases hp
      |false=>
       rw[hne]at hp;dsimp only[Bi,cond]at hp;cases hv:iU P (s.res t' want') op with
       |none=>rw[hv]at hp;cases hp
       |some u=>
        rw[hv]at hp;cases hp;cases hw:FC want bv with
        |true=>
         rw[hw]at hx;dsimp only[Bi,cond]at hx;obtain⟨x,hx,hk⟩:=bind_some hx;have hbw:bv=want:=by cases want<;>cases bv<;>simp_all [FC]
         subst hbw;obtain⟨h1,val,h2,h3⟩:=dF (hr.res ht) hv hx;refine WD.gx (v:=val) i hi hB hn hj ht hSw (λ_ w' _=>h2 w') (h ((s.res t bv).set dn (b.v x)) rfl _ ?_ hk);rw[RS A6];exact(hr.res ht).set (.put h1 h3)
        |false=>
         rw[hw]at hx;dsimp only[Bi,cond]at hx;have hbw:(bv==want)=false:=by rw[<-Xt];exact hw
         refine WD.gx (v:=Go.undef) i hi hB hn hj ht hSw (λhg=>by rw[hbw]at hg;cases hg) (h ((s.res t bv).set dn .off) rfl _ ?_ hx);rw[dK hbw];exact(hr.res ht).set (show Jf σ dn Go.undef dn=Go.undef from Mc _ _ _)
     ·cases hp
theorem RM{z:Array Bool}:∀{is:List Nat} {i:Nat} {v:Nat×TypeId×Nat×List Step},Tm n ops z listed s is=some (i,v)->∃o,ops[i]? =some o/\Kz ops (tw z) listed i=true/\mH n ops o s=some v
 |[],_,_,h=>by simp[Tm]at h
 |j::is,i,v,h=>by
  simp only[Tm]at h;split at h
  ·cases h
  ·rename_i o ho;split at h
   ·rename_i v' hp;cases h;cases ht:Kz ops (tw z) listed j with
    |true=>rw[ht]at hp;exact⟨o,ho,by first|exact ht|rfl,hp⟩
    |false=>rw[ht]at hp;cases hp
   ·exact RM h
theorem mT{d dn:Nat}{t:TypeId}{j:Nat}{p:List Step}{u:PV}{kk:PV->Option R}(hr:Rel Z s σs A L σ w)(hp:lP s d o=some (dn,t,j,p))(h:getRoot (Bg s.it j) p kk=some r):
  d=dn/\∃u,kk u=some r/\ (Fo P t u=true->u.isV=true/\∃val,(∀w',Ext Z s σs A L σ w w'->XO P σ w' o val)/\Cg (λb=>A b/\Z.R b) w L u val):=by
 have hm:=hr.mem;unfold lP at hp;split at hp
 ·rename_i t' x;split at hp
  ·rename_i i p' hx;split at hp
   ·cases hp
   ·rename_i hne;cases hp;obtain⟨md,b,h1,h2,h3⟩:=Jj (Bj hm.sl hx rfl);obtain⟨h4,_⟩:=hm.root h1 (λe=>hne e);obtain⟨u,c1,c2,c3,hk,he,h5,h6⟩:=UQ h h4;refine⟨rfl,u,hk,λhb=>?_⟩;obtain⟨val,h7,h8⟩:=AR (P:=P) (σ:=σ) (x:=x) (b:=b) (off:=Ah p) (Gh hb) h6 h3;obtain⟨hv,hv'⟩:=Ef h7;refine⟨hv,val,λw' hext=>h8 w' λq hq=>?_,hv'⟩;obtain⟨A',L',it',ha,hr'⟩:=hext.ex;have h10:(L++L')[j]? =some md:=by rw[List.getElem?_append_left (List.getElem?_eq_some_iff.1 h1).1];exact h1
    rw[hr'.cells h10 h2 _ (by rw[he];simp;omega),he,List.getElem?_append_right A4,h5,show Ah p+q-Ah p=q by omega,List.getElem?_append_left hq]
  ·cases hp
 ·cases hp
theorem qE{S:World->Prop}{z:Array Bool}{fuel i dn j:Nat}{t:TypeId}{p:List Step}{o:Oper}{kk:PV->Option R}{K:Env->World->Prop}(hr:Rel Z s σs A L σ w)(hi:ops[i]? =some o)(hB:Kz ops (tw z) listed i=true)(hp:mH n ops o s=some (dn,t,j,p))(hg:getRoot (Bg s.it j) p kk=some r)(hSw:S w)
  (hS:∀w',S w'->Ext Z s σs A L σ w w') (hkk:∀u,kk u=some r->Fo P t u=true)
  (h:∀u σ',kk u=some r->Rel Z (s.set dn u) σs A L σ' w->WD P n ops S (tw z) fuel (listed.setIfInBounds i true) K σ' w):WD P n ops S (tw z) (fuel+1) listed K σ w:=by
 obtain⟨d,op,ty,pos,after,g⟩:=o;have hm:=hr.mem;unfold mH at hp;simp only at hp;split at hp
 ·cases hp
 ·rename_i d';cases hn:Nat.blt d' n with
  |false=>rw[hn]at hp;cases hp
  |true=>
   rw[hn]at hp;simp only[uX,vG]at hp;try dsimp only[Bi]at hp
   split at hp
   ·obtain⟨rfl,u,hk,hu⟩:=mT (P:=P) (u:= .undef) hr hp hg;obtain⟨h1,val,h2,h3⟩:=hu (hkk u hk);exact WD.x i hi hB hn hSw (λw' hw=>h2 w' (hS w' hw)) (h u _ hk (hr.set (.put h1 h3)))
   ·rename_i q want;split at hp
    ·cases hp
    ·rename_i t' hj;split at hp
     ·rename_i c hb;have ht:=IV hm.sl hb;cases hw:FC want c with
      |true=>
       rw[hw]at hp;dsimp only[Bi,cond]at hp;obtain⟨rfl,u,hk,hu⟩:=mT (P:=P) (u:= .undef) hr hp hg;obtain⟨h1,val,h2,h3⟩:=hu (hkk u hk);have hbw:(c==want)=true:=by rw[<-Xt];exact hw
       refine WD.gx (v:=val) i hi hB hn hj ht hSw (λ_ w' hw=>h2 w' (hS w' hw)) (h u _ hk ?_);rw[RS hbw];exact hr.set (.put h1 h3)
      |false=>rw[hw]at hp;cases hp
     ·cases hp
theorem gM{i t:Nat}{b:Bool}(hr:Rel Z s σs A L σ w)(h:dG ops s i=some (t,b)):σ t= .bool b:=by
 unfold dG at h;split at h
 ·cases h
 ·split at h
  ·cases h
  ·split at h
   ·cases h
   ·split at h
    ·rename_i hb;cases h;exact Py hr.mem.sl hb
    ·split at h
     ·rename_i hb;cases h;exact Py hr.mem.sl hb
     ·cases h
    ·cases h
theorem DG{fin:S->Option R}:∀{l:List Nat} {s:Go.Rx.S},Rel Z s σs A L σ w->Xj ops l s fin=some r->∃s',Rel Z s' σs A L σ w/\s'.it=s.it/\fin s'=some r
 |[],s,hr,h=>⟨s,hr,rfl,h⟩
 |i::l,s,hr,h=>by
  rw[Xj]at h;split at h
  ·rename_i t b hg;have ht:=gM hr hg;cases b with
   |true=>
    obtain⟨s',h1,h2,h3⟩:=DG (l:=l) (hr.res ht) (by simpa using h);exact⟨s',h1,h2,h3⟩
   |false=>
    obtain⟨s',h1,h2,h3⟩:=DG (l:=l) (hr.res ht) (by simpa using h);exact⟨s',h1,h2,h3⟩
  ·exact DG (l:=l) hr h
theorem nP(hT:DP P T Z)(hI:Vq P T.gl inl):∀{fuel:Nat} {z0:Array Bool} {listed:Array Bool} {s:S} {A:Reg} {L:List MD} {σ:Env} {w:World} {S:World->Prop},Rel Z s σs A L σ w->Tf P T inl n mem ops fuel z0 listed s k=some r->
  (mem=true->Rh (tw z0) listed=true\/∀w',MG Z σs A L s.it w w'->S w')-> (mem=false->∀w',GS Z σs w'->S w')->
  WD P n ops S (tw z0) fuel listed (λσ' w'=>∃s' A' L',k s'=some r/\Rel Z s' σs A' L' σ' w') σ w:=by
 intro fuel
 induction fuel with
 |zero=>
  intro z0 listed s A L σ w S hr h hI1 hI2;unfold Tf at h;split at h
  ·rename_i hrd;exact WD.done hrd ⟨s,A,L,h,hr⟩
  ·cases h
 |succ fuel ih=>
  intro z0 listed s A L σ w S hr h hI1 hI2;unfold Tf at h;split at h
  ·rename_i hrd;exact WD.done hrd ⟨s,A,L,h,hr⟩
  ·rename_i i is hrd;simp only at h;have rest:∀(z:Array Bool) (S:World->Prop) (s:Go.Rx.S),Rel Z s σs A L σ w-> (mem=true->∀w',MG Z σs A L s.it w w'->S w')-> (mem=false->∀w',GS Z σs w'->S w')->
     both (match ops[i]? with
        |some o=>Bi (mem&& !((VQ T s o&&dY ops s o)||(!tw z i&&Rh (tw z) (listed.setIfInBounds i true)))) (none)<|
         FW P T inl n ops o s λs'=>Tf P T inl n mem ops fuel z (listed.setIfInBounds i true) s' k
        |none=>none) (is.map λi=>match ops[i]? with
        |some o=>Bi (mem&& !((VQ T s o&&dY ops s o)||(!tw z i&&Rh (tw z) (listed.setIfInBounds i true)))) (none)<|
         FW P T inl n ops o s λs'=>Tf P T inl n mem ops fuel z (listed.setIfInBounds i true) s' k
        |none=>none)=some r->WD P n ops S (tw z) (fuel+1) listed (λσ' w'=>∃s' A' L',k s'=some r/\Rel Z s' σs A' L' σ' w') σ w:=by
    intro z S s hr hS1 hS2 h;obtain⟨h1,h2⟩:=ZI h;refine WD.steps hrd rfl ?_;intro q hq;have hone:(match ops[q]? with
       |some o=>Bi (mem&& !((VQ T s o&&dY ops s o)||(!tw z q&&Rh (tw z) (listed.setIfInBounds q true)))) (none)<|
        FW P T inl n ops o s λs'=>Tf P T inl n mem ops fuel z (listed.setIfInBounds q true) s' k
       |none=>none)=some r:=by
     rcases List.mem_cons.1 hq with rfl|hq
     ·exact h1
     ·exact h2 _ (List.mem_map_of_mem hq)
    split at hone
    ·rename_i o ho;refine⟨o,ho,?_⟩;cases hc:(mem&& !((VQ T s o&&dY ops s o)||(!tw z q&&Rh (tw z) (listed.setIfInBounds q true))))with
     |true=>rw[hc]at hone;cases hone
     |false=>
      rw[hc]at hone;dsimp only[Bi,cond]at hone;refine Ud (fE hT hI hr hone) ?_;rintro σ' w' ⟨s',A',L',g1,g2,g3⟩;cases hmem:mem with
      |true=>
       subst hmem;simp only[vD,Bool.not_eq_false',uV,tF,tS]at hc;rcases hc with hc|⟨hc1,hc2⟩
       ·have g4:=g3 hc;refine⟨λ_=>hS1 rfl _ ⟨s',σ',A',L',g2,g4⟩,ih g2 g1 (λ_=> .inr λw'' hw=>?_) (λe=>by cases e)⟩;obtain⟨s2,σ2,A2,L2,h5,h6⟩:=hw;exact hS1 rfl _ ⟨s2,σ2,A2,L2,h5,g4.trans h6⟩
       ·refine⟨λhlt=>?_,ih g2 g1 (λ_=> .inl hc2) (λe=>by cases e)⟩;rw[hlt]at hc1;cases hc1
      |false=>
       subst hmem;exact⟨λ_=>hS2 rfl _ ⟨_,_,_,_,g2⟩,ih g2 g1 (λe=>by cases e) hS2⟩
    ·cases hone
   have main:∀(z:Array Bool) (S:World->Prop) (s:Go.Rx.S) (F:Option R),Rel Z s σs A L σ w-> (mem=true->∀w',MG Z σs A L s.it w w'->S w')-> (mem=false->∀w',GS Z σs w'->S w')-> (F=some r->WD P n ops S (tw z) (fuel+1) listed (λσ' w'=>∃s' A' L',k s'=some r/\Rel Z s' σs A' L' σ' w') σ w)->
     (match Kx P T n mem ops z listed s (i::is)with
      |some (i,d,v)=>Tf P T inl n mem ops fuel z (listed.setIfInBounds i true) (s.set d v) k
      |none=>match Np P n ops z listed s (i::is)with
       |some (i,d, .on b)=>Option.bind b.E λx=>Tf P T inl n mem ops fuel z (listed.setIfInBounds i true) (s.set d (b.v x)) k
       |some (i,d, .ask t want bv b)=>if bv=true then
         (Bi (FC want true) (Option.bind b.E λx=>Tf P T inl n mem ops fuel z (listed.setIfInBounds i true) ((s.res t true).set d (b.v x)) k)<|Tf P T inl n mem ops fuel z (listed.setIfInBounds i true) ((s.res t true).set d .off) k)
         else(Bi (FC want false) (Option.bind b.E λx=>Tf P T inl n mem ops fuel z (listed.setIfInBounds i true) ((s.res t false).set d (b.v x)) k)<|Tf P T inl n mem ops fuel z (listed.setIfInBounds i true) ((s.res t false).set d .off) k)
       |none=>match(Bi (mem) (Tm n ops z listed s (i::is))<|none)with
       |some (i,d,t,j,p)=>getRoot (Bg s.it j) p λu=>Bi (Fo P t u) (Tf P T inl n mem ops fuel z (listed.setIfInBounds i true) (s.set d u) k)<|none
       |none=>F)=some r->WD P n ops S (tw z) (fuel+1) listed (λσ' w'=>∃s' A' L',k s'=some r/\Rel Z s' σs A' L' σ' w') σ w:=by
    intro z S s F hr hS1 hS2 hfin h;split at h
    ·rename_i i' d v hp;obtain⟨o,ho,hB,hp⟩:=KC hp;cases hmem:mem with
     |true=>
      subst hmem;refine WD.TE (S':=MG Z σs A L s.it w) (hS1 rfl) (fI hT hr ho hB hp (.refl hr) (λ_ w' hw=>hw.ext hr) (λw' hw=>(hw.ext hr).gs) λσ' hr'=>?_);exact ih hr' h (λ_=> .inr λw' hw=>hw) (λe=>by cases e)
     |false=>
      subst hmem;refine WD.TE (S':=GS Z σs) (hS2 rfl) (fI hT hr ho hB hp ⟨_,_,_,_,hr⟩ (λe=>by cases e) (λw' hw=>hw) λσ' hr'=>?_);exact ih hr' h (λe=>by cases e) (λ_ w' hw=>hw)
    ·split at h
     ·rename_i i' d b hp;obtain⟨o,ho,hB,hp⟩:=AD hp;obtain⟨x,hx,h⟩:=bind_some h;cases hmem:mem with
      |true=>
       subst hmem;refine WD.TE (S':=MG Z σs A L s.it w) (hS1 rfl) (kF hr ho hB hp hx (.refl hr) λσ' hr'=>?_);exact ih hr' h (λ_=> .inr λw' hw=>hw) (λe=>by cases e)
      |false=>
       subst hmem;refine kF hr ho hB hp hx (hS2 rfl _ ⟨_,_,_,_,hr⟩) λσ' hr'=>?_;exact ih hr' h (λe=>by cases e) hS2
     ·rename_i i' d t want bv b hp;obtain⟨o,ho,hB,hp⟩:=AD hp;have h:(Bi (FC want bv) (Option.bind b.E λx=>Tf P T inl n mem ops fuel z (listed.setIfInBounds i' true) ((s.res t bv).set d (b.v x)) k)<|Tf P T inl n mem ops fuel z (listed.setIfInBounds i' true) ((s.res t bv).set d .off) k)=some r:=by
       cases bv with
       |true=>simpa using h
       |false=>simpa using h
      cases hmem:mem with
      |true=>
       subst hmem;refine WD.TE (S':=MG Z σs A L s.it w) (hS1 rfl) (fM (X:=λs'=>Tf P T inl n true ops fuel z (listed.setIfInBounds i' true) s' k) hr ho hB hp (.refl hr) h λs' hs' σ' hr' h=>?_);exact ih hr' h (λ_=> .inr λw' hw=>hs'▸hw) (λe=>by cases e)
      |false=>
       subst hmem;refine fM (X:=λs'=>Tf P T inl n false ops fuel z (listed.setIfInBounds i' true) s' k) hr ho hB hp (hS2 rfl _ ⟨_,_,_,_,hr⟩) h λs' hs' σ' hr' h=>?_;exact ih hr' h (λe=>by cases e) hS2
     ·split at h
      ·rename_i i' d t j p hp;cases hmem:mem with
       |false=>rw[hmem]at hp;cases hp
       |true=>
        subst hmem;dsimp only[Bi,cond]at hp;obtain⟨o,ho,hB,hp⟩:=RM hp;refine WD.TE (S':=MG Z σs A L s.it w) (hS1 rfl) (qE (P:=P) hr ho hB hp h (.refl hr) (λw' hw=>hw.ext hr) (λu hu=>(Aj hu).1) λu σ' hu hr'=>?_);exact ih hr' (Aj hu).2 (λ_=> .inr λw' hw=>hw) (λe=>by cases e)
      exact hfin h
   have all:∀(z:Array Bool) (S:World->Prop),(mem=true->∀w',MG Z σs A L s.it w w'->S w')-> (mem=false->∀w',GS Z σs w'->S w')->
     (match Kx P T n mem ops z listed s (i::is)with
      |some (i,d,v)=>Tf P T inl n mem ops fuel z (listed.setIfInBounds i true) (s.set d v) k
      |none=>match Np P n ops z listed s (i::is)with
       |some (i,d, .on b)=>Option.bind b.E λx=>Tf P T inl n mem ops fuel z (listed.setIfInBounds i true) (s.set d (b.v x)) k
       |some (i,d, .ask t want bv b)=>if bv=true then
         (Bi (FC want true) (Option.bind b.E λx=>Tf P T inl n mem ops fuel z (listed.setIfInBounds i true) ((s.res t true).set d (b.v x)) k)<|Tf P T inl n mem ops fuel z (listed.setIfInBounds i true) ((s.res t true).set d .off) k)
         else(Bi (FC want false) (Option.bind b.E λx=>Tf P T inl n mem ops fuel z (listed.setIfInBounds i true) ((s.res t false).set d (b.v x)) k)<|Tf P T inl n mem ops fuel z (listed.setIfInBounds i true) ((s.res t false).set d .off) k)
       |none=>match(Bi (mem) (Tm n ops z listed s (i::is))<|none)with
       |some (i,d,t,j,p)=>getRoot (Bg s.it j) p λu=>Bi (Fo P t u) (Tf P T inl n mem ops fuel z (listed.setIfInBounds i true) (s.set d u) k)<|none
       |none=>(λs=>Bi mem (Xj ops ((i::is)++(i::is)) s λs=>(match Kx P T n mem ops z listed s (i::is)with
      |some (i,d,v)=>Tf P T inl n mem ops fuel z (listed.setIfInBounds i true) (s.set d v) k
      |none=>match Np P n ops z listed s (i::is)with
       |some (i,d, .on b)=>Option.bind b.E λx=>Tf P T inl n mem ops fuel z (listed.setIfInBounds i true) (s.set d (b.v x)) k
       |some (i,d, .ask t want bv b)=>if bv=true then
         (Bi (FC want true) (Option.bind b.E λx=>Tf P T inl n mem ops fuel z (listed.setIfInBounds i true) ((s.res t true).set d (b.v x)) k)<|Tf P T inl n mem ops fuel z (listed.setIfInBounds i true) ((s.res t true).set d .off) k)
         else(Bi (FC want false) (Option.bind b.E λx=>Tf P T inl n mem ops fuel z (listed.setIfInBounds i true) ((s.res t false).set d (b.v x)) k)<|Tf P T inl n mem ops fuel z (listed.setIfInBounds i true) ((s.res t false).set d .off) k)
       |none=>match(Bi (mem) (Tm n ops z listed s (i::is))<|none)with
       |some (i,d,t,j,p)=>getRoot (Bg s.it j) p λu=>Bi (Fo P t u) (Tf P T inl n mem ops fuel z (listed.setIfInBounds i true) (s.set d u) k)<|none
       |none=>both (match ops[i]? with
        |some o=>Bi (mem&& !((VQ T s o&&dY ops s o)||(!tw z i&&Rh (tw z) (listed.setIfInBounds i true)))) (none)<|
         FW P T inl n ops o s λs'=>Tf P T inl n mem ops fuel z (listed.setIfInBounds i true) s' k
        |none=>none) (is.map λi=>match ops[i]? with
        |some o=>Bi (mem&& !((VQ T s o&&dY ops s o)||(!tw z i&&Rh (tw z) (listed.setIfInBounds i true)))) (none)<|
         FW P T inl n ops o s λs'=>Tf P T inl n mem ops fuel z (listed.setIfInBounds i true) s' k
        |none=>none)))<|both (match ops[i]? with
        |some o=>Bi (mem&& !((VQ T s o&&dY ops s o)||(!tw z i&&Rh (tw z) (listed.setIfInBounds i true)))) (none)<|
         FW P T inl n ops o s λs'=>Tf P T inl n mem ops fuel z (listed.setIfInBounds i true) s' k
        |none=>none) (is.map λi=>match ops[i]? with
        |some o=>Bi (mem&& !((VQ T s o&&dY ops s o)||(!tw z i&&Rh (tw z) (listed.setIfInBounds i true)))) (none)<|
         FW P T inl n ops o s λs'=>Tf P T inl n mem ops fuel z (listed.setIfInBounds i true) s' k
        |none=>none)) s)=some r->WD P n ops S (tw z) (fuel+1) listed (λσ' w'=>∃s' A' L',k s'=some r/\Rel Z s' σs A' L' σ' w') σ w:=by
    intro z S hS1 hS2 h;refine main z S s _ hr hS1 hS2 (λhF=>?_) h;clear h;cases hmem:mem with
    |false=>
     simp only[hmem,Bi]at hF;subst hmem;exact rest z S s hr hS1 hS2 hF
    |true=>
     simp only[hmem,Bi]at hF;subst hmem;obtain⟨s',hr',hit,h'⟩:=DG hr hF;refine main z S s' _ hr' (by rw[hit];exact hS1) hS2 (λhG=>?_) h';exact rest z S s' hr' (by rw[hit];exact hS1) hS2 hG
   cases hz:(mem&&Rh (tw z0) listed)with
   |true=>
    rw[hz]at h;simp only[tF]at hz;obtain⟨hm,hov⟩:=hz;subst hm;exact WD.next (S':=MG Z σs A L s.it w) _ hov (all _ _ (λ_ w' hw=>hw) (λe=>by cases e) h)
   |false=>
    rw[hz]at h;refine all _ _ (λhm=>?_) hI2 h;subst hm;rcases hI1 rfl with h1|h1
    ·rw[h1]at hz;cases hz
    ·exact h1
end Go.Rx
namespace Go.Rx
open Go Go.Lv
variable{p:PV}
variable {P:Program} {B B':Reg} {w w':World} {L L':List MD} {s:S} {σs:List Env} {σ:Env} {Z:Fix} {A A':Reg} {n:Nat} {ops:Array Oper}
variable {R:Type} {k:S->Option R} {r:R}
def mZ(w:World)(A:Reg)(L:List Mob)(os:Nat->Option Nat):Prop:=
 (∀(i:Nat) (m:Mob),L[i]? =some m->m.holds (os i) w/\∀b,os i=some b-> ¬A b/\b<w.heap.size)/\∀i j b,i<L.length->j<L.length->i≠j->os i=some b->os j≠some b
theorem Bp.sC:∀{L:List Mob} {A:Reg},Bp w A L->∃os,mZ w A L os
 |[],A,_=>⟨λ_=>none,λi m h=>by simp at h,λi j b h=>by simp at h⟩
 |m::L,A,⟨o,h1,h2,h3⟩=>by
  obtain⟨os,g1,g2⟩:=Bp.sC h3;refine⟨λi=>match i with|0=>o|i+1=>os i,λi m' h=>?_,λi j b hi hj hij h=>?_⟩
  ·cases i with
   |zero=>simp at h;subst h;exact⟨h1,h2⟩
   |succ i=>
    obtain⟨g3,g4⟩:=g1 i m' (by simpa using h);exact⟨g3,λb hb=>⟨λhA=>(g4 b hb).1 (.inl hA),(g4 b hb).2⟩⟩
  ·have key:∀q,q<L.length->∀b,os q=some b->o≠some b:=λq hq b hb ho=>by
    exact((g1 q L[q] (by simp[hq])).2 b hb).1 (.inr ho)
   cases i with
   |zero=>
    cases j with
    |zero=>exact absurd rfl hij
    |succ j=>intro hb;exact key j (by simpa using hj) b hb h
   |succ i=>
    cases j with
    |zero=>exact key i (by simpa using hi) b h
    |succ j=>exact g2 i j b (by simpa using hi) (by simpa using hj) A4 h
theorem Bp.sB:∀{L:List Mob} {A:Reg} {os:Nat->Option Nat},mZ w A L os->Bp w A L
 |[],_,_,_=>trivial
 |m::L,A,os,⟨g1,g2⟩=>by
  obtain⟨h1,h2⟩:=g1 0 m rfl;refine⟨os 0,h1,h2,Bp.sB (os:=λi=>os (i+1)) ⟨λi m' h=>?_,λi j b hi hj hij h=>?_⟩⟩
  ·obtain⟨g3,g4⟩:=g1 (i+1) m' (by simpa using h);refine⟨g3,λb hb=>⟨λhA=>?_,(g4 b hb).2⟩⟩;rcases hA with hA|hA
   ·exact(g4 b hb).1 hA
   ·have hlt:i<L.length:=(List.getElem?_eq_some_iff.1 h).1;exact g2 0 (i+1) b A6 (by simpa using hlt) A4 hA hb
  ·exact g2 (i+1) (j+1) b (by simpa using hi) (by simpa using hj) A4 h
def distinct:List Nat->Bool|[]=>true|i::r=>!Jm i r&&distinct r
theorem IY:∀{l:List Nat} {i j q:Nat},distinct l=true->l[i]? =some q->l[j]? =some q->i=j
 |[],_,_,_,_,h,_=>by simp at h
 |a::l,i,j,q,hd,hi,hj=>by
  simp only[distinct,tF,tS]at hd;have hn:a∉l:=λh=>by have:=Kv.2 h;rw[hd.1]at this;cases this
  cases i with
  |zero=>
   cases j with
   |zero=>rfl
   |succ j=>simp at hi hj;subst hi;exact absurd (List.mem_of_getElem? hj) hn
  |succ i=>
   cases j with
   |zero=>simp at hi hj;subst hj;exact absurd (List.mem_of_getElem? hi) hn
   |succ j=>exact congrArg (· +1) (IY (q:=q) hd.2 (by simpa using hi) (by simpa using hj))
theorem SP{w:World}:MD.dead.Dl.holds none w:=⟨none,0,0,rfl,A6,tT _,λ_=>rfl,λ_=>rfl,λb h=>by cases h⟩
theorem getD_some{i:Nat}{md:MD}(h:L[i]? =some md):L.getD i .dead=md:=by simp[List.getD_eq_getElem?_getD,h]
theorem getD_none{i:Nat}(h:L[i]? =none):L.getD i .dead= .dead:=by simp[List.getD_eq_getElem?_getD,h]
def cV(o:List Nat)(L:List MD)(os:Nat->Option Nat)(j:Nat):Option Nat:=match o[j]? with|some i=>(match L[i]? with|some _=>os i|none=>none)|none=>none
theorem FL{o:List Nat}{os:Nat->Option Nat}{i j:Nat}{md:MD}(h:o[j]? =some i)(hL:L[i]? =some md):cV o L os j=os i:=by unfold cV;rw[h];simp only[hL]
theorem GZ{o:List Nat}{os:Nat->Option Nat}{i j:Nat}(h:o[j]? =some i)(hL:L[i]? =none):cV o L os j=none:=by unfold cV;rw[h];simp only[hL]
theorem WJ{o:List Nat}(h:Bp w A (L.map MD.Dl))(hd:distinct o=true):Bp w A ((o.map λi=>L.getD i .dead).map MD.Dl):=by
 obtain⟨os,g1,g2⟩:=Bp.sC h;refine Bp.sB (os:=cV o L os) ⟨λj m hm=>?_,λi j b hi hj hij hb=>?_⟩
 ·simp only[List.map_map,List.getElem?_map,uG,Function.comp]at hm;obtain⟨i,hi,rfl⟩:=hm;cases hL:L[i]? with
  |none=>rw[getD_none hL,GZ hi hL];exact⟨SP,λb hb=>by cases hb⟩
  |some md=>rw[getD_some hL,FL hi hL];exact g1 i md.Dl (by simp[hL])
 ·simp only[List.length_map]at hi hj;have e1:o[i]? =some o[i]:=by simp[hi]
  have e2:o[j]? =some o[j]:=by simp[hj]
  have hne:o[i]≠o[j]:=λe=>hij (IY hd e1 (by rw[e2,e]));cases hL1:L[o[i]]? with
  |none=>rw[GZ e1 hL1]at hb;cases hb
  |some m1=>
   rw[FL e1 hL1]at hb;cases hL2:L[o[j]]? with
   |none=>rw[GZ e2 hL2];simp
   |some m2=>
    rw[FL e2 hL2];exact g2 _ _ b (by simpa using(List.getElem?_eq_some_iff.1 hL1).1) (by simpa using(List.getElem?_eq_some_iff.1 hL2).1) hne hb
theorem cS{i:Nat}:∀{o:List Nat} {m j:Nat},posOf i o m=some j->∃q,j=m+q/\o[q]? =some i
 |[],_,_,h=>by simp[posOf]at h
 |a::o,m,j,h=>by
  simp only[posOf]at h;cases hb:Nat.beq i a with
  |true=>rw[hb]at h;cases h;exact⟨0,rfl,by simp[Bh hb]⟩
  |false=>
   rw[hb]at h;obtain⟨q,h1,h2⟩:=cS (o:=o) h;exact⟨q+1,A4,by simpa using h2⟩
theorem NJ{o:List Nat}{i j:Nat}{md:MD}(h:posOf i o 0=some j)(hL:L[i]? =some md):(o.map λi=>L.getD i .dead)[j]? =some md:=by
 obtain⟨q,h1,h2⟩:=cS h;rw[uP]at h1;subst h1;simp[h2,List.getD_eq_getElem?_getD,hL]
theorem fA{o:List Nat}:(VC o p).isA=p.isA:=by
 cases p<;>try rfl
 ·simp only[VC];split<;>rfl
 ·simp only[VC];split<;>rfl
 ·simp only[VC];split<;>rfl
abbrev DS(L:List MD):Prop:=L.all (λm=>match m with| .own _ _ v _=>v.oneCell'|_=>true)=true
mutual
theorem IH{o:List Nat}(h1:DS L):∀{p:PV} {cs:List Value},Ap B w L p cs->Ap B w (o.map λi=>L.getD i .dead) (VC o p) cs
 | .val _ x,cs,h=>h
 | .agg q,cs,h=>cR h1 (show Ap.go B w L q cs from h)
 | .tup _,_,h=>h.elim
 | .nils,cs,h=>h
 | .own j,cs,⟨z,E,v,c,g1,g2⟩=>by
  simp only[VC];split
  ·rename_i j' hj;exact⟨z,E,v,c,NJ hj g1,g2⟩
  ·exact⟨v,g2,List.all_eq_true.1 h1 _ (List.mem_of_getElem? g1)⟩
 | .ptr j q,cs,⟨md,b,g1,g2,g3⟩=>by
  simp only[VC];split
  ·rename_i j' hj;exact⟨md,b,NJ hj g1,g2,g3⟩
  ·exact⟨_,g3,rfl⟩
 | .view u j p e lo n,cs,⟨md,v,g1,g2,g3⟩=>by
  simp only[VC];split
  ·rename_i j' hj;exact⟨md,v,NJ hj g1,g2,g3⟩
  ·obtain⟨_,_,⟨pt,cap,e',_⟩,_⟩:=g3;exact⟨v,g2,by rw[e'];rfl⟩
 | .rptr v,cs,⟨pv,c0,g1,g2,g3⟩=>⟨pv,c0,g1,g2,IH h1 g3⟩
 | .fn f caps,cs,⟨vs,g1,g2⟩=>⟨vs,g1,AF h1 g2⟩
 | .cap _ _ _,cs,h=>h
 | .bfn f fs,cs,⟨vs,g1,g2⟩=>⟨vs,g1,AF h1 g2⟩
 | .mp ks l,cs,⟨r,es,n,g1,g2,g3,g4,g5⟩=>⟨r,es,n,g1,g2,g3,g4,AF h1 g5⟩
 | .cst v,cs,h=>h
 | .any,cs,h=>h
 | .gd _ _ _,_,h=>h.elim
 | .off,_,h=>h.elim
 | .undef,_,h=>h.elim
theorem cR{o:List Nat}(h1:DS L):∀{q:List PV} {cs:List Value},Ap.go B w L q cs->Ap.go B w (o.map λi=>L.getD i .dead) (VC.go o q) cs
 |[],cs,h=>h
 |a::q,cs,⟨c1,c2,e',g1,g2⟩=>⟨c1,c2,e',IH h1 g1,cR h1 g2⟩
theorem AF{o:List Nat}(h1:DS L):∀{q:List PV} {vs:List Value},Ca B w L q vs->Ca B w (o.map λi=>L.getD i .dead) (VC.go o q) vs
 |[],vs,h=>h
 |a::q,vs,⟨v,vs',e',g1,g2⟩=>⟨v,vs',e',by rw[fA];exact g1.mono λc h=>IH h1 h,AF h1 g2⟩
end
theorem cI{o:List Nat}(h1:DS L){v:Value}(h:Cg B w L p v):Cg B w (o.map λi=>L.getD i .dead) (VC o p) v:=by
 cases hp:p.ZU with
 |true=>
  have h2:Dr B w (o.map λi=>L.getD i .dead) (VC o p) v:=by
   unfold Dr;rw[fA];exact eO.mono (λc h=>IH h1 h) ((BE hp).1 h)
  exact(Ef h2).2
 |false=>
  cases p
  case tup q=>obtain⟨vs,g1,g2⟩:=h;exact⟨vs,g1,AF h1 g2⟩
  case undef=>exact(show False from h).elim
  case off=>exact(show False from h).elim
  case gd=>exact(show False from h).elim
  all_goals cases hp
theorem gG{o:List Nat}(h1:DS L){t:Nat}(h:Dn B w L σ t p):Dn B w (o.map λi=>L.getD i .dead) σ t (VC o p):=by
 cases hv:p.isV with
 |true=>
  have g1:=cI (o:=o) h1 ((Dn.iff hv).1 h);have g2:(VC o p).isV=true:=by
   cases p<;>first|rfl|cases hv|skip
   ·simp only[VC];split<;>rfl
   ·simp only[VC];split<;>rfl
   ·simp only[VC];split<;>rfl
  exact(Dn.iff g2).2 g1
 |false=>
  rcases Ik hv with rfl|rfl|⟨j,u,q,rfl⟩
  ·exact trivial
  ·exact h
  ·obtain⟨b,g1,g2,g3⟩:=h;exact⟨b,g1,λe=>cI h1 (g2 e),g3⟩
theorem TV{o:List Nat}(h1:DS L){sl:Slots}(h:Cr B w L σ sl):Cr B w (o.map λi=>L.getD i .dead) σ (fT o sl):=by
 intro p hp;obtain⟨q,hq,rfl⟩:=List.mem_map.1 hp;exact gG h1 (h q hq)
theorem UD{o:List Nat}(h1:DS L):∀{σs:List Env} {st:List Slots},Xe B w L σs st->Xe B w (o.map λi=>L.getD i .dead) σs (st.map (fT o))
 |[],[],h=>h
 |_::_,_::_,⟨g1,g2⟩=>⟨TV h1 g1,UD h1 g2⟩
theorem XF{o:List Nat}(h1:DS L){a:Item}{md:MD}(h:Jp B w L a md):Jp B w (o.map λi=>L.getD i .dead) (mR o a) md:=by
 cases a<;>cases md<;>first
  |exact h
  |exact⟨h.1,IH h1 h.2⟩
theorem Wv{sl:Slots}(h:Cr B w L σ sl):∀(lv:List Nat),Cr B w L σ (EZ sl lv)
 |[]=>λp hp=>by simp[EZ]at hp
 |t::lv=>by
  intro p hp;simp only[EZ]at hp;split at hp
  ·exact Wv h lv p hp
  ·exact Wv h lv p hp
  ·exact Wv h lv p hp
  ·rcases List.mem_cons.1 hp with rfl|hp
   ·exact Hj (s:=⟨sl,[],[]⟩) (t:=t) h
   ·exact Wv h lv p hp
theorem EX:∀{l:List Nat} {i:Nat},distinct l=true->Jm i l=false->distinct (l++[i])=true
 |[],_,_,_=>rfl
 |a::l,i,hd,hi=>by
  simp only[distinct,tF,tS]at hd;simp only[Jm,uL]at hi;simp only[List.cons_append,distinct,tF,tS];refine⟨?_,EX hd.2 hi.2⟩;cases hx:Jm a (l++[i])with
  |false=>rfl
  |true=>
   rcases List.mem_append.1 (Kv.1 hx)with h|h
   ·have:=Kv.2 h;rw[hd.1]at this;cases this
   ·simp at h;subst h;simp at hi
theorem Qp{it:List Item}:∀(q:Nat) (todo seen:List Nat),distinct seen=true->distinct (reach it q todo seen)=true
 |0,_,_,h=>h
 |_+1,[],_,h=>h
 |q+1,i::todo,seen,h=>by
  simp only[reach];cases he:Jm i seen with
  |true=>exact Qp q _ _ h
  |false=>exact Qp q _ _ (EX h he)
theorem jY(hr:Rel Z s σs A L σ w)(lv:List Nat):∃L',Rel Z (s.canon lv) σs A L' σ w:=by
 have hm:=hr.mem;have h1:DS L:=hr.DS;unfold S.canon;simp only;generalize ho:reach s.it 200 (aA (EZ s.sl lv)++(s.st.map aA).flatten) []=o;have hd:distinct o=true:=by rw[<-ho];exact Qp _ _ _ rfl
 refine⟨o.map λi=>L.getD i .dead,?_⟩;have hst:St A w [PJ Z.R L s σs σ, .old Z.M Z.w0] ((o.map λi=>L.getD i .dead).map MD.Dl):=⟨St.lt hr,St.facts hr,WJ (St.mobs hr) hd⟩;refine Rel.as hst (i:=1) rfl ⟨⟨A6,λj a m g1 g2=>?_⟩,TV h1 (Wv hm.sl lv),UD h1 hm.stk⟩ rfl;simp only[List.getElem?_map,uG]at g1 g2;obtain⟨i,g3,rfl⟩:=g1;obtain⟨i',g4,rfl⟩:=g2;rw[g3]at g4;cases g4;cases hi:Bg s.it i with
 |dead=>exact trivial
 |box T v=>
  obtain⟨md,g5,g6⟩:=hm.item hi (by intro e;cases e);rw[getD_some g5];exact XF h1 g6
 |arr E e l=>
  obtain⟨md,g5,g6⟩:=hm.item hi (by intro e;cases e);rw[getD_some g5];exact XF h1 g6
theorem SA:∀{p:List Nat} {v u:PV} {cs:List Value},nC v p=some u->Ap B w L v cs-> (∃c,Ap B w L u c)/\∀(B':Reg) (w':World) (L':List MD) (m v':PV),(∀q c,Ap B w L q c->Ap B' w' L' q c)-> (∀c,Ap B w L u c->Ap B' w' L' m c)->m.isA=u.isA->eA m v p=some v'->Ap B' w' L' v' cs/\v'.isA=v.isA
 |[],v,u,cs,h,hv=>by
  simp only[nC,tJ]at h;subst h;refine⟨⟨cs,hv⟩,λB' w' L' m v' _ hm hA hp=>?_⟩;simp only[eA,tJ]at hp;subst hp;exact⟨hm _ hv,hA⟩
 |i::p,v,u,cs,h,hv=>by
  cases v<;>simp only[nC,reduceCtorEq]at h;rename_i l;split at h
  ·rename_i f hf;obtain⟨c1,c2,c3,e,h1,h2,h3⟩:=Ap.field (show Ap.go B w L l cs from hv) hf;obtain⟨g1,g2⟩:=SA h h2;refine⟨g1,λB' w' L' m v' hq hm hA hp=>?_⟩;simp only[eA,hf]at hp;split at hp
   ·rename_i f' hf';cases hp;obtain⟨g3,_⟩:=g2 B' w' L' m f' hq hm hA hf';refine⟨?_,rfl⟩;have hl:Ap.go B' w' L' l cs:=show Ap B' w' L' (.agg l) cs from hq _ _ hv;obtain⟨d1,d2,d3,e',k1,k2,k3⟩:=Ap.field hl hf;have:d2=c2:=by
     have l1:d1.length=c1.length:=k1.trans h1.symm;have l2:d2.length=c2.length:=k2.len.trans h2.len.symm;rw[e]at e';obtain⟨e1,e2⟩:=List.append_inj e' l1.symm;obtain⟨e3,_⟩:=List.append_inj e2 l2.symm;exact e3.symm
    rw[e'];exact k3 _ _ (by rw[this];exact g3)
   ·cases hp
  ·cases h
theorem aK(hr:Rel Z s σs A L σ w)(E:TypeId)(e:ET):Rel Z (s.add (.arr E e [])) σs A (L++[.own e.size E (.slice none 0 0) []]) σ w:=
 Rel.push (a:= .arr E e []) (md:= .own e.size E (.slice none 0 0) []) (St.YY hr e.size E) ⟨rfl,rfl,rfl⟩
theorem TQ{i b:Nat}{T:TypeId}{v':PV}{cells:List Value}(hr:Rel Z s σs A L σ w)(hL:L[i]? =some (.box b cells T))(hv:Ap (λb=>A b/\Z.R b) w L v' cells):Rel Z (s.Jf i (.box T v')) σs A L σ w:=by
 have hm:=hr.mem;refine Rel.as hr (i:=1) rfl ⟨⟨by simp[S.Jf,DD,hm.it.1],λj a m h1 h2=>?_⟩,hm.sl,hm.stk⟩ rfl;simp only[S.Jf]at h1;rcases DC h1 with⟨rfl,rfl⟩|⟨_,h4⟩
 ·rw[hL]at h2;cases h2;exact⟨rfl,hv⟩
 ·exact hm.it.2 j a m h4 h2
theorem aX{t:Nat}{m:PV}:∀{sl:Slots} {q:Nat} {v:PV},(q,v)∈eC t m sl-> (q,v)∈sl\/ (q=t/\v=m)
 |[],_,_,h=>by simp[eC]at h
 |(q',v')::r,q,v,h=>by
  simp only[eC]at h;cases hb:Nat.beq q' t with
  |true=>
   rw[hb]at h;rcases List.mem_cons.1 h with h|h
   ·cases h;exact .inr ⟨Bh hb,rfl⟩
   ·exact .inl (.tail _ h)
  |false=>
   rw[hb]at h;rcases List.mem_cons.1 h with h|h
   ·cases h;exact .inl (.head _)
   ·exact(aX h).imp (.tail _) id
theorem TL{t:Nat}{m:PV}(hr:Rel Z s σs A L σ w)(hm:Dn (λb=>A b/\Z.R b) w L σ t m):Rel Z ⟨eC t m s.sl,s.it,s.st⟩ σs A L σ w:=by
 refine hr.eT rfl rfl ?_;rintro⟨q,v⟩ hp;rcases aX hp with h|⟨rfl,rfl⟩
 ·exact hr.mem.sl _ h
 ·exact hm
theorem cL{e:ET}{c:List Value}(h:Ap B w L .nils c):Ap B w L (.val (.list e) []) c:=⟨_,[],show c=_ from h,Rd.nil,rfl⟩
theorem lE{a:At}{s':S}(hr:Rel Z s σs A L σ w)(h:oP s a=some s'):∃A' L',Rel Z s' σs A' L' σ w:=by
 have hm:=hr.mem;unfold oP at h;simp only at h;split at h
 ·
  rename_i i q hsl;split at h
  ·rename_i T v hi;split at h
   ·rename_i u hu;obtain⟨b,cells,hL,hv⟩:=hm.box hi;split at h
    ·rename_i E e _;split at h
     ·rename_i v' hv';cases h;obtain⟨_,g⟩:=SA hu hv;have hr2:=aK hr E e;have hL2:(L++[.own e.size E (.slice none 0 0) []])[i]? =some (.box b cells T):=by rw[List.getElem?_append_left (List.getElem?_eq_some_iff.1 hL).1];exact hL
      obtain⟨g1,_⟩:=g (λb=>A b/\Z.R b) w (L++[.own e.size E (.slice none 0 0) []]) (.own s.new) v' (λq c h=>Ap.step (λ_ h=>h) (λ_ _=>rfl) (Zz.append _ _) h)
       (λc hc=>⟨e.size,E,_,[],by rw[S.new,hr.len];simp,hc⟩) rfl hv'
      exact⟨_,_,TQ hr2 hL2 g1⟩
     ·cases h
    ·cases h;exact⟨A,L,hr⟩
    ·rename_i e _;split at h
     ·rename_i v' hv';cases h;obtain⟨_,g⟩:=SA hu hv;obtain⟨g1,_⟩:=g (λb=>A b/\Z.R b) w L (.val (.list e) []) v' (λq c h=>h) (λc hc=>cL hc) rfl hv';exact⟨_,_,TQ hr hL g1⟩
     ·cases h
    ·obtain⟨A',h1,_⟩:=FT hr h;exact⟨A',_,h1⟩
    ·cases h;exact⟨A,L,hr⟩
    ·cases h
   ·cases h
  ·cases h
 split at h
 ·
  rename_i o i p e1 lo n hsl;split at h
  ·rename_i E e _ _;obtain⟨hb,h⟩:=Aj h;split at h
   ·rename_i s1 j h1;cases h;have hx:Bv s.sl (.tmp a.t)= .view o i p e1 lo n:=by simp only[Bv,hsl]
    obtain⟨L1,hr1,c0,hL⟩:=cC (x:= .tmp a.t) hr (by simpa [Nat.blt_eq]using hb) (by rw[hx];rfl) (by rw[hx];exact h1);exact⟨_,_,TL hr1 ⟨_,_,_,_,hL,rfl⟩⟩
   ·cases h
  ·cases h
 ·
  split at h
  ·rename_i u hu;have hsl:=Hj (t:=a.t) hm.sl;have nJ:∀(B':Reg) (L':List MD) (m v':PV),(∀q c,Ap (λb=>A b/\Z.R b) w L q c->Ap B' w L' q c)-> (∀c,Ap (λb=>A b/\Z.R b) w L u c->Ap B' w L' m c)->m.isA=u.isA->u= .nils->eA m (Lc s.sl a.t) a.p=some v'->Dn B' w L' σ a.t v':=by
    intro B' L' m v' hq hmu hA hun hp;have hP:(Lc s.sl a.t).ZU=true:=by
     revert hu
     generalize Lc s.sl a.t=x;generalize a.p=pp;intro hu;cases pp with
     |nil=>simp only[nC,tJ]at hu;rw[hu,hun];rfl
     |cons _ _=>cases x<;>first|rfl|simp[nC]at hu
    have hE:Dr (λb=>A b/\Z.R b) w L (Lc s.sl a.t) (σ a.t):=(BE hP).1 ((Dn.iff (PV.WW hP)).1 hsl);have key:Dr B' w L' v' (σ a.t):=by
     unfold Dr eO at hE;split at hE
     ·rename_i hA';obtain⟨cs,e1,hc⟩:=hE;obtain⟨_,g⟩:=SA hu hc;obtain⟨g1,g2⟩:=g B' w L' m v' hq hmu hA hp;unfold Dr;rw[g2,hA'];exact⟨cs,e1,g1⟩
     ·rename_i hA';obtain⟨_,g⟩:=SA hu hE;obtain⟨g1,g2⟩:=g B' w L' m v' hq hmu hA hp;unfold Dr;rw[g2,hA'];exact g1
    obtain⟨k1,k2⟩:=Ef key;exact(Dn.iff k1).2 k2
   split at h
   ·rename_i E e _;split at h
    ·rename_i v' hv';cases h;have hr2:=aK hr E e;exact⟨_,_,TL (s:=s.add (.arr E e [])) hr2 (nJ _ _ (.own s.new) v' (λq c h=>Ap.step (λ_ h=>h) (λ_ _=>rfl) (Zz.append _ _) h) (λc hc=>⟨e.size,E,_,[],by rw[S.new,hr.len];simp,hc⟩) rfl rfl hv')⟩
    ·cases h
   ·cases h;exact⟨A,L,hr⟩
   ·rename_i e _;split at h
    ·rename_i v' hv';cases h;exact⟨_,_,TL hr (nJ _ _ (.val (.list e) []) v' (λq c h=>h) (λc hc=>cL hc) rfl rfl hv')⟩
    ·cases h
   ·obtain⟨A',h1,_⟩:=FT hr h;exact⟨A',_,h1⟩
   ·cases h;exact⟨A,L,hr⟩
   ·cases h
  ·cases h
theorem fF:∀{l:List At} {s s':S} {A:Reg} {L:List MD},Rel Z s σs A L σ w->iN s l=some s'->∃A' L',Rel Z s' σs A' L' σ w
 |[],s,s',A,L,hr,h=>by simp only[iN,tJ]at h;subst h;exact⟨A,L,hr⟩
 |a::l,s,s',A,L,hr,h=>by
  simp only[iN]at h;split at h
  ·rename_i s1 h1;obtain⟨A1,L1,hr1⟩:=lE hr h1;exact fF hr1 h
  ·cases h
theorem mS{lv:List Nat}{co:List At}{s':S}(hr:Rel Z s σs A L σ w)(h:s.cn lv co=some s'):∃A' L',Rel Z s' σs A' L' σ w:=by
 unfold S.cn at h;split at h
 ·rename_i s1 h1;cases h;obtain⟨A1,L1,hr1⟩:=fF hr h1;obtain⟨L',hr2⟩:=jY hr1 lv;exact⟨A1,L',hr2⟩
 ·cases h
end Go.Rx
namespace Go.Rx
open Go Go.Lv
variable {P:Program} {B B':Reg} {w w':World} {L L':List MD} {s:S} {σs:List Env} {σ:Env} {Z:Fix} {A A':Reg} {n:Nat} {ops:Array Oper}
variable {R:Type} {r:R} {T:Tab} {inl:YW R}
def sP(k:K R):Exit->S->Option R
 | .normal=>k.n| .exit id=>k.x id| .ret=>k.r|_=>λ_=>none
def QK(Z:Fix)(σs:List Env)(k:K R)(r:R)(e:Exit)(σ':Env)(w':World):Prop:=∃s' A' L',sP k e s'=some r/\Rel Z s' σs A' L' σ' w'
theorem eZ(an:An){gl:List (Nat×List Value)}(hI:Vq P gl inl):Vq P gl (ZV an inl):=by
 unfold ZV;split
 ·intro Z hZ f as s k r σs A L σ w vs h hr ha;exact hI Z hZ f as _ k r σs A L σ w vs h (hr.eT rfl rfl (Wv hr.mem.sl _)) ha
 ·exact hI
theorem mW(eM:P.follows .mixedOrders=true)(hT:DP P T Z)(hI:Vq P T.gl inl):∀(c:Code) {an:An} {k:K R} {s:S} {A:Reg} {L:List MD} {σ:Env} {w:World},ex P T inl n c an k s=some r->Rel Z s σs A L σ w->W P n c (QK Z σs k r) σ w:=by
 intro c
 induction c with
 |skip=>intro an k s A L σ w h hr;exact W.skip ⟨s,A,L,h,hr⟩
 |ret=>intro an k s A L σ w h hr;exact W.ret ⟨s,A,L,h,hr⟩
 |exit id=>intro an k s A L σ w h hr;exact W.exit ⟨s,A,L,h,hr⟩
 |seq a b iha ihb=>
  intro an k s A L σ w h hr;refine W.seq (W.mono (iha (an:=an.l) (k:={k with n:=jW an λs'=>ex P T inl n b an.r k s'}) h hr) ?_);rintro e σ' w' ⟨s',A',L',h1,hr'⟩;cases e with
  |normal=>
   have h2:jW an (λs'=>ex P T inl n b an.r k s') s'=some r:=h1;unfold jW at h2;split at h2
   ·split at h2
    ·rename_i s2 hs2;obtain⟨A2,L2,hr2⟩:=mS hr' hs2;exact ihb h2 hr2
    ·cases h2
   ·exact ihb h2 hr'
  |exit id=>exact⟨s',A',L',h1,hr'⟩
  |ret=>exact⟨s',A',L',h1,hr'⟩
  |goto l=>exact⟨s',A',L',h1,hr'⟩
  |panic c=>exact⟨s',A',L',h1,hr'⟩
  |outgrown=>exact⟨s',A',L',h1,hr'⟩
 |cond c a b iha ihb=>
  intro an k s A L σ w h hr;simp only[ex]at h;split at h
  ·rename_i t hc;refine W.cond (JK hr.mem.sl hc) (λht=>?_) (λht=>?_)
   ·subst ht;exact iha (by simpa using h) hr
   ·subst ht;exact ihb (by simpa using h) hr
  ·cases h
 |block id a iha=>
  intro an k s A L σ w h hr;refine W.block (W.mono (iha (an:=an.l) (k:={k with x:=λid' s'=>Bi (Nat.beq id' id) (k.n s')<|k.x id' s'}) h hr) ?_);rintro e σ' w' ⟨s',A',L',h1,hr'⟩;cases e with
  |exit id'=>
   have h2:(Bi (Nat.beq id' id) (k.n s')<|k.x id' s')=some r:=h1;simp only[YN];by_cases hid:id'=id
   ·rw[uB hid];subst hid;simp at h2;exact⟨s',A',L',h2,hr'⟩
   ·rw[uA hid];have hb:Nat.beq id' id=false:=by
     cases hb:Nat.beq id' id with
     |false=>rfl
     |true=>exact absurd (Bh hb) hid
    rw[hb]at h2;exact⟨s',A',L',h2,hr'⟩
  |normal=>exact⟨s',A',L',h1,hr'⟩
  |ret=>exact⟨s',A',L',h1,hr'⟩
  |goto l=>exact⟨s',A',L',h1,hr'⟩
  |panic c=>exact⟨s',A',L',h1,hr'⟩
  |outgrown=>exact⟨s',A',L',h1,hr'⟩
 |loop a iha=>
  intro an k s A L σ w h hr;have head:∀(q:Nat) (s:S) (A:Reg) (L:List MD) (σ:Env) (w:World),WZ an (iter an (λkn s'=>ex P T inl n a an.l {k with n:=kn} s') q) s=some r->Rel Z s σs A L σ w->
    ∃s' A' L',iter an (λkn s'=>ex P T inl n a an.l {k with n:=kn} s') q s'=some r/\Rel Z s' σs A' L' σ w:=by
   intro q s A L σ w h hr;unfold WZ at h;split at h
   ·split at h
    ·rename_i s2 hs2;obtain⟨A2,L2,hr2⟩:=mS hr hs2;exact⟨s2,A2,L2,h,hr2⟩
    ·cases h
   ·cases h
  refine W.loop (λq σ w=>∃s A L,iter an (λkn s'=>ex P T inl n a an.l {k with n:=kn} s') q s=some r/\Rel Z s σs A L σ w) Bl (head _ _ _ _ _ _ h hr) ?_;rintro q σ w ⟨s,A,L,h,hr⟩;cases q with
  |zero=>cases h
  |succ q=>
   refine W.mono (iha (k:={k with n:=WZ an (iter an (λkn s'=>ex P T inl n a an.l {k with n:=kn} s') q)}) h hr) ?_;rintro e σ' w' ⟨s',A',L',h1,hr'⟩;cases e with
   |normal=>exact⟨q,Nat.lt_succ_self _,head q s' A' L' σ' w' h1 hr'⟩
   |exit id=>exact⟨s',A',L',h1,hr'⟩
   |ret=>exact⟨s',A',L',h1,hr'⟩
   |goto l=>exact⟨s',A',L',h1,hr'⟩
   |panic c=>exact⟨s',A',L',h1,hr'⟩
   |outgrown=>exact⟨s',A',L',h1,hr'⟩
 |region id ops draw=>
  intro an k s A L σ w h hr;cases draw with
  |false=>
   obtain⟨hd,h⟩:=Aj (show(Bi (JP ops.toList) (aU P T (ZV an inl) n ops ops.toList s k.n)<|none)=some r from h);have h1:=iW (ops:=ops) hT (eZ an hI) hr (show aU P T (ZV an inl) n ops ops.toList s k.n=some r from h);have hops:ops=ops.toList.toArray:=by simp
   rw[hops];exact W.region hd (by rw[<-hops];exact h1)
  |true=>
   obtain⟨hd,h⟩:=Aj (show(Bi (JP ops.toList) (Tf P T (ZV an inl) n (LY an) ops ops.size (Bi (LY an) (#[])<|Array.replicate ops.size true) (Array.replicate ops.size false) s k.n)<|none)=some r from h);refine W.lU hd eM (λ_=>True) (tw (Bi (LY an) (#[])<|Array.replicate ops.size true)) (λw' hw hg=>?_);have hr':Rel Z s σs A L σ w':=St.jE hr hw hg;refine nP hT (eZ an hI) hr' h (λhm=> .inl ?_) (λ_ _ _=>trivial);rw[hm];simp[Rh,tw]
 |rangeFunc=>intro an k s A L σ w h hr;cases h
 |scope=>intro an k s A L σ w h hr;cases h
 |label=>intro an k s A L σ w h hr;cases h
 |goto=>intro an k s A L σ w h hr;cases h
 |refuse=>intro an k s A L σ w h hr;cases h
theorem gI(hr:Rel Z s σs A L σ w){v:ResultVar}{p:PV}(h:dV P s v=some p):∃u,Ui P σ w v u/\Dr (λb=>A b/\Z.R b) w L p u:=by
 have hm:=hr.mem;cases v with
 |tmp t=>
  obtain⟨hp,h⟩:=Aj h;cases h;exact⟨σ t,rfl,Qc hm.sl hp⟩
 |cell a t=>
  simp only[dV]at h;split at h
  ·rename_i i p' hsl;split at h
   ·rename_i T v0 hi;split at h
    ·rename_i u hu;obtain⟨hk,h⟩:=Aj h;cases h;have hs1:=Hj (t:=a) hm.sl;rw[hsl]at hs1;obtain⟨md,b,h1,h2,h3⟩:=Jj hs1;obtain⟨b',cells,h4,h5⟩:=hm.box hi;rw[h4]at h1;cases h1;cases h2;obtain⟨c1,c2,c3,e,h6,h7⟩:=Yd hu h5;have hok:=Gh hk;obtain⟨d,hd,ha⟩:=hok.agg;have hlen:=h7.len;cases hA:p.isA with
     |true=>
      refine⟨.agg c2.toArray,Ui.cells hr (hr.Dl h4) ⟨d,hd,ha.trans hA⟩ hok.size h3 ?_ hlen,by unfold Dr;rw[hA];exact⟨c2,rfl,h7⟩⟩;rw[e,<-h6,<-hlen];exact fL rfl
     |false=>
      rw[hok.one hA]at hlen
      match c2,hlen with
      |[u],_=>exact⟨u,Ui.cell hr (hr.Dl h4) ⟨d,hd,ha.trans hA⟩ h3 (by rw[e,<-h6];simp),by unfold Dr;rw[hA];exact h7⟩
    ·cases h
   ·cases h
  ·cases h
theorem LR(hr:Rel Z s σs A L σ w):∀{vs:List ResultVar} {ps:List PV},NO P s vs=some ps->∃us,CV P σ w vs us/\Ca (λb=>A b/\Z.R b) w L ps us
 |[],ps,h=>by simp only[NO,tJ]at h;subst h;exact⟨[],trivial,rfl⟩
 |v::vs,ps,h=>by
  simp only[NO]at h;split at h
  ·rename_i p ps' hp hps;cases h;obtain⟨u,h1,h2⟩:=gI hr hp;obtain⟨us,h3,h4⟩:=LR hr hps;exact⟨u::us,⟨h1,h3⟩,u,us,rfl,h2,h4⟩
  ·cases h
theorem AK:∀{as:List PV} {vs:List Value} {m:Nat} {f:Nat->Value},Ca B w L as vs-> (∀i v,vs[i]? =some v->f (m+i)=v)->∀p∈Lh m as,Dn B w L f p.1 p.2
 |[],vs,m,f,_,_,p,hp=>by simp[Lh]at hp
 |a::as,vs,m,f,⟨v,vs',e,h1,h2⟩,hf,p,hp=>by
  subst e;simp only[Lh]at hp;rcases List.mem_cons.1 hp with rfl|hp
  ·obtain⟨k1,k2⟩:=Ef (show Dr B w L a v from h1);refine(Dn.iff k1).2 ?_;have:=hf 0 v rfl;rw[Nat.add_zero]at this;rw[this];exact k2
  ·exact AK h2 (λi v hi=>by have:=hf (i+1) v (by simpa using hi);rw[<-this];congr 1;omega) p hp
theorem WU{vs:List Value}{i:Nat}{v:Value}(h:vs[i]? =some v):QZ vs i=v:=by simp[QZ,List.getD_eq_getElem?_getD,h]
theorem Ca.length:∀{as:List PV} {vs:List Value},Ca B w L as vs->vs.length=as.length
 |[],vs,h=>by rw[show vs=[]from h];rfl
 |a::as,vs,⟨v,vs',e,h1,h2⟩=>by rw[e,uJ,Ca.length h2];rfl
theorem XM{f:Nat}{an:An}:∀{ans:List (Nat×An)},Vu.UZ ans f=some an->∃a,(f,a)∈ans
 |[],h=>by simp[Vu.UZ]at h
 |(g,a)::ans,h=>by
  simp only[Vu.UZ]at h;cases hb:Nat.beq g f with
  |true=>have:=Bh hb;subst this;exact⟨a, .head _⟩
  |false=>rw[hb]at h;obtain⟨a',h1⟩:=XM h;exact⟨a', .tail _ h1⟩
theorem eU(eM:P.follows .mixedOrders=true)(hT:Yp P T){ans:List (Nat×An)}(hA:∀p∈ans,Ent P p.1):∀(q:Nat),Vq (R:=R) P T.gl (Vu P T q ans)
 |0=>λZ hZ f as s k r σs A L σ w vs h hr ha=>by cases h
 |q+1=>λZ hZ f as s k r σs A L σ w vs h hr ha=>by
  have hI:=eU eM hT hA q;unfold Vu at h;split at h
  ·rename_i an fn han hfn;obtain⟨a,hmem⟩:=XM han;split at h
   ·cases h
   ·rename_i c hc;obtain⟨hle,h⟩:=Aj h;refine⟨hA _ hmem,?_⟩;have hr1:Rel Z ⟨Lh 0 as,s.it,s.sl::s.st⟩ (σ::σs) A L (QZ vs) w:=
     Rel.as hr (i:=1) rfl ⟨hr.mem.it,AK ha (λi v hi=>by rw[uP];exact WU hi),hr.mem.sl,hr.mem.stk⟩ rfl
    refine UW (rs:=fn.results.toList) hfn hc rfl A6 (by rw[ha.length];exact hle) (W.mono (mW eM ⟨hT,hZ⟩ hI c h hr1) ?_);rintro e σ' w' ⟨s',A',L',h1,hr'⟩;have fin:Vu.iB P fn.results.toList k s'=some r->∃us,CV P σ' w' fn.results.toList us/\∃v p s'' A'' L'',Ending.returned (Po us)= .returned v/\k s'' p=some r/\Rel Z s'' σs A'' L'' σ w'/\p.isV=true/\Cg (λb=>A'' b/\Z.R b) w' L'' p v:=by
     intro h1;unfold Vu.iB at h1;split at h1
     ·rename_i ps sl st hps hst;obtain⟨us,h2,h3⟩:=LR hr' hps;obtain⟨h4,h5⟩:=cE h3;have oR:=hr'.mem.stk;rw[hst]at oR;exact⟨us,h2,_,_,_,A',L',rfl,h1,Rel.as hr' (i:=1) rfl ⟨hr'.mem.it,oR.1,oR.2⟩ rfl,h4,h5⟩
     ·cases h1
    cases e with
    |normal=>exact⟨.inr rfl,fin h1⟩
    |ret=>exact⟨.inl rfl,fin h1⟩
    |exit id=>cases h1
    |goto l=>cases h1
    |panic c=>cases h1
    |outgrown=>cases h1
  ·cases h
end Go.Rx
namespace Go.Rx
open Go Go.Lv
variable{e:ET}{fn:Func}{o:Option TypeId}
variable {P:Program} {B B':Reg} {w w':World} {L L':List MD} {s:S} {σs:List Env} {σ:Env} {Z:Fix} {A A':Reg} {n:Nat} {ops:Array Oper}
variable {R:Type} {r:R} {T:Tab} {inl:YW R}
abbrev LS:=List (ET×Option TypeId)
def Db:LS->List PV->Nat->List Nat
 |p::r,v::vs,c=>match p.2 with
  |none=>Db r vs c
  |some _=>(match v with| .own i=>i|_=>c)::Db r vs (c+1)
 |_,_,_=>[]
def Vf:LS->List MD
 |p::r=>match p.2 with
  |none=>Vf r
  |some E=>(match p.1 with| .list a=> .own a.size E (.slice none 0 0) []|_=> .dead)::Vf r
 |[]=>[]
theorem jB(h:Bp w A (L.map MD.Dl)):∀(ls:LS),Bp w A ((L++Vf ls).map MD.Dl):=by
 have one:∀(m:MD) (ms:List MD),m.Dl.holds none w->Bp w A ((L++ms).map MD.Dl)->Bp w A ((L++m::ms).map MD.Dl):=by
  intro m ms hm h;have:Bp w A (m.Dl::(L++ms).map MD.Dl):=⟨none,hm,λb hb=>(by cases hb),h.Mr λb hb=>hb.elim id (λh=>by cases h)⟩;refine this.perm ?_;rw[uW,uW,tZ];exact(List.perm_middle).symm
 intro ls
 induction ls with
 |nil=>simpa [Vf]using h
 |cons p ls ih=>
  obtain⟨e,o⟩:=p;cases o with
  |none=>exact ih
  |some E=>cases e<;>exact one _ _ (by first|exact SP|exact⟨none,0,0,rfl,A6,tT _,λ_=>rfl,λ_=>rfl,λb h=>by cases h⟩) ih
theorem DH:∀{ls:LS} {vs:List PV} {seen:List Nat} {c:Nat},Vw s ls vs seen=true->s.it.length<=c->distinct (Db ls vs c)=true/\∀i∈Db ls vs c,(i<s.it.length/\i∉seen)\/c<=i
 |[],[],_,_,_,_=>⟨rfl,by simp[Db]⟩
 |[],_::_,_,_,h,_=>by simp[Vw]at h
 |_::_,[],_,_,h,_=>by simp[Vw]at h
 |(e,none)::ls,v::vs,seen,c,h,hc=>by
  simp only[Vw,tF]at h;exact DH (ls:=ls) (vs:=vs) (seen:=seen) (c:=c) h.2 hc
 |(e,some E)::ls,v::vs,seen,c,h,hc=>by
  simp only[Vw]at h;split at h
  ·obtain⟨h1,h2⟩:=DH h (c:=c+1) A4;refine⟨?_,λi hi=>?_⟩
   ·simp only[Db,distinct,tF,tS];refine⟨?_,h1⟩;cases hx:Jm c (Db ls vs (c+1))with
    |false=>rfl
    |true=>rcases h2 c (Kv.1 hx)with⟨h3,_⟩|h3<;>omega
   ·simp only[Db,List.mem_cons]at hi;rcases hi with rfl|hi
    ·exact .inr (tT _)
    ·rcases h2 i hi with h3|h3
     ·exact .inl h3
     ·exact .inr A4
  ·rename_i a i;simp only[tF,tS]at h;obtain⟨⟨h0,hit⟩,h⟩:=h;have hlt:i<s.it.length:=by
    split at hit
    ·rename_i E' a' l hi;exact(List.getElem?_eq_some_iff.1 (GV hi (by intro e;cases e))).1
    ·cases hit
   obtain⟨h1,h2⟩:=DH h (c:=c+1) A4;refine⟨?_,λj hj=>?_⟩
   ·simp only[Db,distinct,tF,tS];refine⟨?_,h1⟩;cases hx:Jm i (Db ls vs (c+1))with
    |false=>rfl
    |true=>
     rcases h2 i (Kv.1 hx)with⟨_,h3⟩|h3
     ·exact absurd (List.mem_cons_self) h3
     ·omega
   ·simp only[Db,List.mem_cons]at hj;rcases hj with rfl|hj
    ·exact .inl ⟨hlt,λhm=>by have:=Kv.2 hm;rw[h0]at this;cases this⟩
    ·rcases h2 j hj with⟨h3,h4⟩|h3
     ·exact .inl ⟨h3,λhm=>h4 (uY _ hm)⟩
     ·exact .inr A4
  ·cases h
theorem kV{q:PV}{x:e.T}(hr:Rel Z s σs A L σ w)(h:CU s e q=some x)(ho:owns q=[])(hb:e.UL=true->∀b,A b/\Z.R b->B' b){L':List MD}:Yx (λb=>A b/\Z.R b) w L B' w L' q (.val e x):=by
 obtain⟨h1,h2⟩:=bY (L':=L') hr h (B':=λb=>A b/\Z.R b) (λ_ h=>h) (λi hi=>by rw[ho]at hi;cases hi);refine⟨h1,λcs hcs=>?_⟩;have h3:Ak (λb=>A b/\Z.R b) w e x cs:=h2 cs hcs;cases hl:e.UL with
 |true=>exact Ak.step (hb hl) (λ_ _=>rfl) h3
 |false=>exact Ak.pZ hl h3
theorem lA{l:List e.T}{cs:List Value}(hb:e.UL=true->∀b,B b->B' b)(h:Bd (Ak B w e) l cs):Bd (Ak B' w e) l cs:=by
 cases hl:e.UL with
 |true=>exact h.mono λx c hx=>Ak.step (hb hl) (λ_ _=>rfl) hx
 |false=>exact h.mono λx c hx=>Ak.pZ hl hx
theorem TP(hr:Rel Z s σs A L σ w){LP:List MD}(hP:∀(i:Nat) (m:MD),L[i]? =some m->LP[i]? =some m):∀(ls:LS) (vs:List PV) (y:Pd ls) (seen:List Nat) (c:Nat) (s0:S) (Lx LF:List MD),
  Vw s ls vs seen=true->Qw s ls vs=some y-> (∀p∈ls,jG p=true->∀b,A b/\Z.R b->B' b)-> (∀i m,(Vf ls)[i]? =some m->LP[c+i]? =some m)->Lx.length=s0.it.length->LF=Lx++(Db ls vs c).map (λi=>LP.getD i .dead)->
  ∃its,(Cj ls y s0).2=⟨s0.sl,s0.it++its,s0.st⟩/\its.length=(Db ls vs c).length/\All2 (Yx (λb=>A b/\Z.R b) w L B' w LF) vs (Cj ls y s0).1/\
   ∀(i:Nat) (a:Item) (m:MD),its[i]? =some a-> ((Db ls vs c).map (λi=>LP.getD i .dead))[i]? =some m->Jp B' w LF a m
 |[],vs,y,seen,c,s0,Lx,LF,ho,hp,_,_,_,_=>by
  rw[bS hp];refine⟨[],?_,rfl,All2.nil,λi a m h=>by simp at h⟩;rw[RH];simp
 |p::ls,vs,y,seen,c,s0,Lx,LF,ho,hp,hb,hn,hlen,cW=>by
  have main:∀(v:PV) (vs':List PV) (x:p.1.T) (rest:S->List PV×S),vs=v::vs'->CU s p.1 v=some x->
    (Cj (p::ls) y s0=((Ce p.1 p.2 x s0).1::(rest (Ce p.1 p.2 x s0).2).1,(rest (Ce p.1 p.2 x s0).2).2))->
    (∀(seen:List Nat) (c:Nat) (s1:S) (Lx:List MD),Vw s ls vs' seen=true-> (∀i m,(Vf ls)[i]? =some m->LP[c+i]? =some m)->Lx.length=s1.it.length->LF=Lx++(Db ls vs' c).map (λi=>LP.getD i .dead)->
     ∃its,(rest s1).2=⟨s1.sl,s1.it++its,s1.st⟩/\its.length=(Db ls vs' c).length/\All2 (Yx (λb=>A b/\Z.R b) w L B' w LF) vs' (rest s1).1/\
      ∀(i:Nat) (a:Item) (m:MD),its[i]? =some a-> ((Db ls vs' c).map (λi=>LP.getD i .dead))[i]? =some m->Jp B' w LF a m)->
    ∃its,(Cj (p::ls) y s0).2=⟨s0.sl,s0.it++its,s0.st⟩/\its.length=(Db (p::ls) vs c).length/\All2 (Yx (λb=>A b/\Z.R b) w L B' w LF) vs (Cj (p::ls) y s0).1/\
     ∀(i:Nat) (a:Item) (m:MD),its[i]? =some a-> ((Db (p::ls) vs c).map (λi=>LP.getD i .dead))[i]? =some m->Jp B' w LF a m:=by
   intro v vs' x rest hvs hx hu hrest;subst hvs;rw[hu];have hbp:=hb p (.head _);obtain⟨e,o⟩:=p;cases o with
   |none=>
    simp only[Vw,tF]at ho;have e1:Ce e none x s0=(.val e x,s0):=fH;simp only[e1];obtain⟨its,h1,h2,h3,h4⟩:=hrest seen c s0 Lx ho.2 hn hlen cW;refine⟨its,h1,h2, .cons (kV hr hx (isEmpty_nil ho.1) (λhl=>hbp ?_)) h3,h4⟩;cases e<;>first|exact hl|cases hl
   |some E=>
    simp only[Vw]at ho;split at ho
    ·
     rename_i a;have hx':x=[]:=by
      have:elems s a .nils=some x:=hx;simpa [elems]using this.symm
     subst hx';have hc:LP[c]? =some (.own a.size E (.slice none 0 0) []):=hn 0 _ rfl;have e1:Ce (.list a) (some E) [] s0=(.own s0.new,s0.add (.arr E a [])):=rfl;simp only[e1];obtain⟨its,h1,h2,h3,h4⟩:=hrest seen (c+1) (s0.add (.arr E a [])) (Lx++[.own a.size E (.slice none 0 0) []]) ho (λi m hi=>by rw[tW,Nat.add_comm 1 i];exact hn (i+1) m (by simpa [Vf]using hi))
      (by simp[S.add,hlen]) (by rw[cW];simp[Db,List.getD_eq_getElem?_getD,hc])
     refine⟨.arr E a []::its,by rw[h1];simp[S.add],by simp[Db,h2], .cons ⟨rfl,λcs hcs=>?_⟩ h3,λi b m hi hm=>?_⟩
     ·refine⟨a.size,E, .slice none 0 0,[],?_,hcs⟩;rw[cW,S.new,<-hlen];simp[Db,List.getD_eq_getElem?_getD,hc]
     ·cases i with
      |zero=>
       simp[Db,List.getD_eq_getElem?_getD,hc]at hi hm;subst hi hm;exact⟨rfl,rfl,rfl⟩
      |succ i=>exact h4 i b m (by simpa using hi) (by simpa [Db]using hm)
    ·
     rename_i a i;simp only[tF,tS]at ho;obtain⟨⟨h0,hit⟩,ho⟩:=ho;split at hit
     ·rename_i E' a' l hi;simp only[tF,uO]at hit;obtain⟨hE,rfl⟩:=hit;have:=Bh hE;subst this;obtain⟨u,cs0,g1,g2⟩:=hr.mem.arr hi;have hx':x=l:=by
       have:elems s a' (.own i)=some x:=hx;simp[elems,hi]at this;exact this.symm
      subst hx';have hc:LP[i]? =some (.own a'.size E' u cs0):=hP i _ g1;have e1:Ce (.list a') (some E') x s0=(.own s0.new,s0.add (.arr E' a' x)):=rfl;simp only[e1];obtain⟨its,h1,h2,h3,h4⟩:=hrest (i::seen) (c+1) (s0.add (.arr E' a' x)) (Lx++[.own a'.size E' u cs0]) ho (λi m hi=>by rw[tW,Nat.add_comm 1 i];exact hn (i+1) m (by simpa [Vf]using hi))
       (by simp[S.add,hlen]) (by rw[cW];simp[Db,List.getD_eq_getElem?_getD,hc])
      refine⟨.arr E' a' x::its,by rw[h1];simp[S.add],by simp[Db,h2], .cons ⟨rfl,λcs hcs=>?_⟩ h3,λq b m hq hm=>?_⟩
      ·obtain⟨z,E2,v2,c2,k1,k2⟩:=hcs;rw[g1]at k1;cases k1;refine⟨a'.size,E',u,cs0,?_,k2⟩;rw[cW,S.new,<-hlen];simp[Db,List.getD_eq_getElem?_getD,hc]
      ·cases q with
       |zero=>
        simp[Db,List.getD_eq_getElem?_getD,hc]at hq hm;subst hq hm;exact⟨rfl,rfl,lA hbp g2⟩
       |succ q=>exact h4 q b m (by simpa using hq) (by simpa [Db]using hm)
     ·cases hit
    ·cases ho
  cases ls with
  |nil=>
   obtain⟨v,rfl,hx⟩:=bE hp;exact main v [] y (λs1=>([],s1)) rfl hx (Xc p y s0) (λseen c s1 Lx _ _ hlen cW=>⟨[],A6,rfl,All2.nil,λi a m h=>by simp at h⟩)
  |cons q r=>
   obtain⟨v,vs',x,y',rfl,rfl,hx,hy⟩:=XA hp;exact main v vs' x (λs1=>Cj (q::r) y' s1) rfl hx (Td p q r x y' s0)
    (λseen c s1 Lx ho hn hlen cW=>TP hr hP (q::r) vs' y' seen c s1 Lx LF ho hy (λp hp=>hb p (.tail _ hp)) hn hlen cW)
theorem Ki{e:ET}{x:e.T}{cs:List Value}(h:Ak B w e x cs):Ak (λb=>b<w.heap.size/\B b) w e x cs:=
 match e,x,h with
 | .int _,_,h=>h
 | .bool,_,h=>h
 | .str,_,h=>h
 | .list _,_,⟨v,c0,h1,h2,h3⟩=>⟨v,c0,h1,h2.start,h3.mono λ_ _ h=>Ki h⟩
 | .vec _ _,_,⟨h1,h2⟩=>⟨h1,h2.mono λ_ _ h=>Ki h⟩
 | .cons _ _,_,⟨c1,c2,e,h1,h2⟩=>⟨c1,c2,e,Ki h1,Ki h2⟩
 | .nil,_,h=>h
def Uu:PV->Bool
 | .val _ _=>true
 | .own _=>true
 | .agg l=>go l
 |_=>false
where go:List PV->Bool
 |[]=>true
 |a::r=>Uu a&&go r
mutual
theorem WN:∀{p:PV} {cs:List Value},Uu p=true->Ap B w L p cs->Ap (λb=>b<w.heap.size/\B b) w L p cs
 | .val e x,cs,_,h=>Ki (show Ak B w e x cs from h)
 | .own i,cs,_,h=>h
 | .agg l,cs,hv,h=>TX hv (show Ap.go B w L l cs from h)
 | .tup _,_,hv,_=>by cases hv
 | .nils,_,hv,_=>by cases hv
 | .ptr _ _,_,hv,_=>by cases hv
 | .view _ _ _ _ _ _,_,hv,_=>by cases hv
 | .rptr _,_,hv,_=>by cases hv
 | .fn _ _,_,hv,_=>by cases hv
 | .cap _ _ _,_,hv,_=>by cases hv
 | .mp _ _,_,hv,_=>by cases hv
 | .bfn _ _,_,hv,_=>by cases hv
 | .cst _,_,hv,_=>by cases hv
 | .any,_,hv,_=>by cases hv
 | .gd _ _ _,_,hv,_=>by cases hv
 | .off,_,hv,_=>by cases hv
 | .undef,_,hv,_=>by cases hv
theorem TX:∀{l:List PV} {cs:List Value},Uu.go l=true->Ap.go B w L l cs->Ap.go (λb=>b<w.heap.size/\B b) w L l cs
 |[],cs,_,h=>h
 |a::l,cs,hv,⟨c1,c2,e,h1,h2⟩=>by
  simp only[Uu.go,tF]at hv;exact⟨c1,c2,e,WN hv.1 h1,TX hv.2 h2⟩
end
theorem RA:∀{l:List PV} {vs:List Value},Uu.go l=true->Ca B w L l vs->Ca (λb=>b<w.heap.size/\B b) w L l vs
 |[],vs,_,h=>h
 |a::l,vs,hv,⟨v,vs',e,h1,h2⟩=>by
  simp only[Uu.go,tF]at hv;exact⟨v,vs',e,h1.mono λc h=>WN hv.1 h,RA hv.2 h2⟩
theorem PA{x:e.T}{s0:S}:Uu (Ce e o x s0).1=true:=by
 unfold Ce;split<;>rfl
theorem NU{x:e.T}{s0:S}(h:∀a∈s0.it,∃E e' l,a= .arr E e' l):∀a∈(Ce e o x s0).2.it,∃E e' l,a= .arr E e' l:=by
 unfold Ce;split
 ·intro a ha;simp only[S.add,List.mem_append,List.mem_singleton]at ha;rcases ha with ha|ha
  ·exact h a ha
  ·exact⟨_,_,_,ha⟩
 ·exact h
theorem UP:∀(ls:LS) (x:Pd ls) (s0:S),Uu.go (Cj ls x s0).1=true
 |[],x,s0=>rfl
 |[p],x,s0=>by
  rw[Xc];have h1:Uu (Ce p.1 p.2 x s0).1=true:=PA;simp only[Uu.go,h1];rfl
 |p::q::r,(x,y),s0=>by
  rw[Td];have h1:Uu (Ce p.1 p.2 x s0).1=true:=PA;simp only[Uu.go,h1,UP (q::r) y _];rfl
theorem US:∀(ls:LS) (x:Pd ls) (s0:S),(∀a∈s0.it,∃E e' l,a= .arr E e' l)->∀a∈(Cj ls x s0).2.it,∃E e' l,a= .arr E e' l
 |[],x,s0,h=>h
 |[p],x,s0,h=>by rw[Xc];exact NU h
 |p::q::r,(x,y),s0,h=>by rw[Td];exact US (q::r) y _ (NU h)
mutual
theorem gK:∀{sh:Sh} {vs r:List PV} {u:PV},Gw sh vs=some (u,r)->Uu.go vs=true->Uu u=true/\Uu.go r=true
 | .lf e o,v::vs,r,u,h,hv=>by
  simp only[Gw,tJ,uK]at h;obtain⟨rfl,rfl⟩:=h;simpa [Uu.go]using hv
 | .lf e o,[],r,u,h,hv=>by simp[Gw]at h
 | .agg l,vs,r,u,h,hv=>by
  simp only[Gw]at h;split at h
  ·rename_i us r' h1;cases h;exact GP h1 hv
  ·cases h
theorem GP:∀{l:List Sh} {vs r us:List PV},Gw.go l vs=some (us,r)->Uu.go vs=true->Uu.go us=true/\Uu.go r=true
 |[],vs,r,us,h,hv=>by
  simp only[Gw.go,tJ,uK]at h;obtain⟨rfl,rfl⟩:=h;exact⟨rfl,hv⟩
 |a::l,vs,r,us,h,hv=>by
  simp only[Gw.go]at h;split at h
  ·rename_i u vs' h1;split at h
   ·rename_i us' vs'' h2;cases h;obtain⟨g1,g2⟩:=gK h1 hv;obtain⟨g3,g4⟩:=GP h2 g2;exact⟨by simp[Uu.go,g1,g3],g4⟩
   ·cases h
  ·cases h
end
theorem kC{rs:List Sh}{p:ET×Option TypeId}(hp:p∈Jb rs)(h:jG p=true):mJ rs=true:=by
 unfold mJ;exact List.any_eq_true.2 ⟨p,hp,h⟩
theorem IZ{f:Nat}{ps rs:List Sh}{F:Pd (Jb ps)->Option (Pd (Jb rs))}{RUN:S->Option (Pd (Jb rs))}(hE:Ent P f)
  (hrun:∀x y pvs,args ps x=some pvs->F x=some y->RUN ⟨Lh 0 pvs,cT ps x,[]⟩=some y)
  (oS:∀(Z:Fix) (A:Reg) (L:List MD) (w:World) (s:S) (y:Pd (Jb rs)) (vs:List Value) (Q:Ending->World->Prop),Z.gl=T.gl->Rel Z s [] A L (QZ vs) w->vs.length=ps.length->RUN s=some y->
   (∀s' A' L' σ' w',XY P rs fn.results.toList s'=some y->Rel Z s' [] A' L' σ' w'->∃us,CV P σ' w' fn.results.toList us/\Q (.returned (Po us)) w')->Calls P f vs.toArray w Q):ConOk P T.gl f ⟨ps,rs,F⟩:=by
 refine⟨hE,λR N w L0 vs pvs x y hx qP mP qQ hvs hgl hy=>?_⟩;have hx':args ps x=some pvs:=hx;have hy':=hrun x y pvs hx' hy
 ·let Z:Fix:=⟨λb=>((R b/\N b)\/∃p∈T.gl,p.1=b)\/ ¬N b\/w.heap.size<=b,λb=>¬N b,w,λb hb=> .inr (.inr hb),λb hb=> .inr (.inl hb),T.gl,λp hp=>⟨.inl (.inr ⟨p,hp,rfl⟩),λh=>h (hgl p hp).2.1,(hgl p hp).1,(hgl p hp).2.2⟩⟩
  have hval:Uu.go pvs=true:=by
   unfold args AY at hx';split at hx'
   ·rename_i us hs;cases hx';exact(GP hs (UP _ _ _)).1
   ·cases hx'
  have rR:Ca (λb=>(b<w.heap.size/\N b)/\Z.R b) w L0 pvs vs:=Ca.step (λb hb=>⟨⟨hb.1,hb.2.2⟩, .inl (.inl hb.2)⟩) (λ_ _=>rfl) (.refl L0) (RA hval hvs);have hst:St (λb=>b<w.heap.size/\N b) w [.old Z.M Z.w0] (L0.map MD.Dl):=by
   refine⟨λb hb=>hb.1,λf hf=>?_,qQ.Mr λb hb=>hb.2⟩;cases hf with
   |head=>exact⟨.refl _,λb hb hM=>⟨⟨hb,Classical.not_not.1 hM⟩,rfl⟩⟩
   |tail _ h=>cases h
  have hr:Rel Z ⟨Lh 0 pvs,cT ps x,[]⟩ [] (λb=>b<w.heap.size/\N b) L0 (QZ vs) w:=
   Rel.as (L:=L0) hst (i:=0) rfl ⟨⟨qP,λi a m h1 h2=>by
    have h3:=mP i a m h1 h2;obtain⟨E,e',l,rfl⟩:=US (Jb ps) x ⟨[],[],[]⟩ A6 a (List.mem_of_getElem? h1);cases m with
    |dead=>exact h3
    |box _ _ _=>exact h3
    |own z E2 v2 c2=>exact⟨h3.1,h3.2.1,h3.2.2.mono λx c h=>Ak.step (λb hb=>⟨⟨hb.1,hb.2.2⟩, .inl (.inl hb.2)⟩) (λ_ _=>rfl) (Ki h)⟩⟩,
    AK rR (λi v hi=>by rw[uP];exact WU hi),trivial⟩ rfl
  have hlen:vs.length=pvs.length:=hvs.length;have hpl:pvs.length=ps.length:=by
   unfold args AY at hx';split at hx'
   ·rename_i us hs;cases hx';have key:∀(l:List Sh) (vs r us:List PV),Gw.go l vs=some (us,r)->us.length=l.length:=by
     intro l
     induction l with
     |nil=>intro vs r us h;simp only[Gw.go,tJ,uK]at h;obtain⟨rfl,_⟩:=h;rfl
     |cons a l ih=>
      intro vs r us h;simp only[Gw.go]at h;split at h
      ·split at h
       ·rename_i h2;cases h;simp[ih _ _ _ h2]
       ·cases h
      ·cases h
    exact key _ _ _ _ hs
   ·cases hx'
  refine oS Z _ _ w _ y vs _ rfl hr (hlen.trans hpl) hy' ?_;intro s' A' L' σ' w' h1 hr';have fin:XY P rs fn.results.toList s'=some y->∃us,CV P σ' w' fn.results.toList us/\∃us',Ending.returned (Po us)= .returned (Po us')/\nA T.gl R N w w' rs y us':=by
   intro h1;unfold XY at h1;split at h1
   ·cases h1
   ·rename_i qJ qL;split at h1
    ·cases h1
    ·rename_i s1 hs1;obtain⟨A1,L1,hr1,_⟩:=Gj hr' hs1;split at h1
     ·rename_i ls hls;obtain⟨ho,h1⟩:=Aj h1;unfold oK at hls;split at hls
      ·rename_i vs1 rS;obtain⟨us,sZ,huv⟩:=LR hr1 rS;refine⟨us,sZ,us,rfl,?_⟩;have hold:=hr1.fact 1 (f:= .old Z.M Z.w0) rfl;have hA:∀b,b<w.heap.size->N b->A1 b:=λb hb hN=>(hold.2 b hb (λh=>h hN)).1;have hkeep:KeepN N w w':=⟨λb hb hN=>(hold.2 b hb (λh=>h hN)).2,hold.1⟩;have EC:=jB (St.mobs hr1) (Jb rs);obtain⟨hd,hidx⟩:=DH (s:=s1) (c:=L1.length) ho (by rw[hr1.len];exact tT _);refine⟨hkeep,λb=>A1 b/\ (¬N b\/w.heap.size<=b),(Db (Jb rs) ls L1.length).map (λi=>(L1++Vf (Jb rs)).getD i .dead),λb hb=>⟨hb.2,St.lt hr1 b hb.1⟩,?_,?_⟩
       ·refine(WJ EC hd).Mr ?_;rintro b (hb|hb)
        ·exact hb.1
        ·exact hA b hb.1 hb.2
       ·intro s0 L0 B' hL0 hB1 hB2;obtain⟨its,g1,g2,g3,g4⟩:=TP hr1 (B':=B') (LP:=L1++Vf (Jb rs)) (λi m hi=>by rw[List.getElem?_append_left (List.getElem?_eq_some_iff.1 hi).1];exact hi) (Jb rs) ls y [] L1.length s0 L0 _ ho h1
         (λp hp hl b hb=>by
          rcases hb.2 with hR|hN
          ·exact hB2 (kC hp hl) b hR
          ·exact hB1 b ⟨hb.1,hN⟩)
         (λi m hi=>by rw[List.getElem?_append_right A4,Nat.add_sub_cancel_left];exact hi) hL0 rfl
        obtain⟨ps',g5,g6⟩:=JZ hls huv g3;exact⟨ps',its,g1,g5,g6,by rw[g2];simp,g4⟩
      ·cases hls
     ·cases h1
  obtain⟨us,k1,us',k2,k3⟩:=fin h1;exact⟨us,k1,us',k2,k3⟩
theorem dC(eM:P.follows .mixedOrders=true){f:Nat}{ans:List (Nat×An)}{an:An}{ps rs:List Sh}{F:Pd (Jb ps)->Option (Pd (Jb rs))}(hf:P.funcs[f]? =some fn)(hE:Ent P f)(hT:Yp P T)(hA:∀p∈ans,Ent P p.1)
  (hle:Nat.ble ps.length fn.ntmps=true) (h:∀x,run P T ans fn an ps rs x=F x):ConOk P T.gl f ⟨ps,rs,F⟩:=by
 cases hc:fn.body with
 |none=>
  refine IZ (RUN:=λ_=>none) (fn:=fn) hE (λx y pvs hx hy=>?_) (λ_ _ _ _ _ _ _ _ _ _ _ h=>by cases h);rw[<-h x]at hy;unfold run at hy;rw[hc]at hy;exact hy
 |some c=>
  refine IZ (T:=T) (fn:=fn) (RUN:=ex P T (Vu P T 8 ans) fn.ntmps c an {n:=XY P rs fn.results.toList,x:=λ_ _=>none,r:=XY P rs fn.results.toList}) hE (λx y pvs hx hy=>?_) ?_
  ·rw[<-h x]at hy;unfold run at hy;rw[hc,hx]at hy;exact hy
  ·intro Z A L w s y vs Q hZ hr hl hy fin;refine UW (rs:=fn.results.toList) hf hc rfl A6 (by rw[hl];exact hle) (W.mono (mW eM ⟨hT,hZ⟩ (eU eM hT hA 8) c hy hr) ?_);rintro e σ' w' ⟨s',A',L',h1,hr'⟩;cases e with
   |normal=>exact⟨.inr rfl,fin s' A' L' σ' w' h1 hr'⟩
   |ret=>exact⟨.inl rfl,fin s' A' L' σ' w' h1 hr'⟩
   |exit id=>cases h1
   |goto l=>cases h1
   |panic c=>cases h1
   |outgrown=>cases h1
end Go.Rx
namespace Go.Rx
open Go Go.Lv
structure Pt (R:Type)where
 q:Nat
 n:Nat
 c:Code
 an:An
 k:K R
inductive PS (R:Type)|l|r|d|lp (kn:S->Option R)|call (i f:Nat)|dcall (i f fuel:Nat) (z listed:Array Bool)
def dH(f:Func):Code:=match f.body with|some c=>c|none=> .skip
variable {R:Type}
noncomputable def Pt.e(P:Program)(T:Tab)(ans:List (Nat×An))(p:Pt R)(s:S):Option R:=match p.c with
 | .loop _=>ex P T (Vu P T p.q ans) p.n p.c p.an p.k s
 |_=>hold (λs=>ex P T (Vu P T p.q ans) p.n p.c p.an p.k s) s
noncomputable def Pt.it(P:Program)(T:Tab)(ans:List (Nat×An))(p:Pt R)(q:Nat)(s:S):Option R:=match p.c with
 | .loop a=>iter p.an (λkn s'=>ex P T (Vu P T p.q ans) p.n a p.an.l {p.k with n:=kn} s') q s
 |_=>none
noncomputable def Pt.step(P:Program)(T:Tab)(ans:List (Nat×An))(p:Pt R):PS R->Pt R
 | .l=>match p.c with
  | .seq a b=>⟨p.q,p.n,a,p.an.l,{p.k with n:=jW p.an λs'=>ex P T (Vu P T p.q ans) p.n b p.an.r p.k s'}⟩
  | .cond _ a _=>⟨p.q,p.n,a,p.an.l,p.k⟩
  |_=>p
 | .r=>match p.c with
  | .seq _ b=>⟨p.q,p.n,b,p.an.r,p.k⟩
  | .cond _ _ b=>⟨p.q,p.n,b,p.an.r,p.k⟩
  |_=>p
 | .d=>match p.c with
  | .block id a=>⟨p.q,p.n,a,p.an.l,{p.k with x:=λid' s'=>Bi (Nat.beq id' id) (p.k.n s')<|p.k.x id' s'}⟩
  |_=>p
 | .lp kn=>match p.c with
  | .loop a=>⟨p.q,p.n,a,p.an.l,{p.k with n:=WZ p.an kn}⟩
  |_=>p
 | .call i f=>match p.c,p.q,P.funcs[f]?,Vu.UZ ans f with
  | .region _ ops false,q+1,some fn,some an=>
   let fin:=Vu.iB P fn.results.toList λs v=>aU P T (ZV p.an (Vu P T (q+1) ans)) p.n ops (ops.toList.drop (i+1)) (s.Cp ((ops[i]?).bind (·.dst)) v) p.k.n
   ⟨q,fn.ntmps,dH fn,an,{n:=fin,x:=λ_ _=>none,r:=fin}⟩
  |_,_,_,_=>p
 | .dcall i f fuel z listed=>match p.c,p.q,P.funcs[f]?,Vu.UZ ans f with
  | .region _ ops true,q+1,some fn,some an=>
   let fin:=Vu.iB P fn.results.toList λs v=>Tf P T (ZV p.an (Vu P T (q+1) ans)) p.n (LY p.an) ops fuel z listed (s.Cp ((ops[i]?).bind (·.dst)) v) p.k.n
   ⟨q,fn.ntmps,dH fn,an,{n:=fin,x:=λ_ _=>none,r:=fin}⟩
  |_,_,_,_=>p
noncomputable def Pt.at(P:Program)(T:Tab)(ans:List (Nat×An)):Pt R->List (PS R)->Pt R
 |p,[]=>p
 |p,x::l=>Pt.at P T ans (p.step P T ans x) l
noncomputable def Pt.root(P:Program)(fn:Func)(an:An)(rs:List Sh):Pt (Pd (Jb rs)):=
 ⟨8,fn.ntmps,dH fn,an,{n:=XY P rs fn.results.toList,x:=λ_ _=>none,r:=XY P rs fn.results.toList}⟩
noncomputable def PE(P:Program)(T:Tab)(ans:List (Nat×An))(fn:Func)(an:An)(rs:List Sh)(l:List (PS (Pd (Jb rs))))(s:S):Option (Pd (Jb rs)):=(Pt.at P T ans (Pt.root P fn an rs) l).e P T ans s
noncomputable def PI(P:Program)(T:Tab)(ans:List (Nat×An))(fn:Func)(an:An)(rs:List Sh)(l:List (PS (Pd (Jb rs))))(q:Nat)(s:S):Option (Pd (Jb rs)):=(Pt.at P T ans (Pt.root P fn an rs) l).it P T ans q s
theorem UJ(a:Option R):both a [a,a]=a:=by simp[both]
theorem SU(a:Option R):both a [a,a,a]=a:=by simp[both]
end Go.Rx
namespace Go.Rx
open Go Go.Lv
variable{vw cp:Bool}{g:Nat}{P:Program}
theorem ConOk.mono{P:Program}{gl gl':List (Nat×List Value)}{f:Nat}{c:Con}(h:ConOk P gl f c)(hs:gl.Sublist gl'):ConOk P gl' f c:=by
 refine⟨h.ent,λR N w L0 vs ps x y h1 h2 h3 h4 h5 h6 h7=>(h.ok R N w L0 vs ps x y h1 h2 h3 h4 h5 (λp hp=>h6 p (hs.subset hp)) h7).mono ?_⟩;rintro e w' ⟨us,he,hk,A1,L1,g1,g2,g3⟩;exact⟨us,he,hk,A1,L1,g1,g2,λs L B' k1 k2 k3=>g3 s L B' k1 k2 λhr b hb=>k3 hr b (hb.imp id λ⟨p,hp,he⟩=>⟨p,hs.subset hp,he⟩)⟩
theorem Yp.nil{gl:List (Nat×List Value)}:Yp P ⟨[],gl,vw,cp⟩:=λf c h=>by cases h
theorem Yp.cons{c:Con}{r:List (Nat×Con)}{gl:List (Nat×List Value)}(h:ConOk P gl g c)(hr:Yp P ⟨r,gl,vw,cp⟩):Yp P ⟨(g,c)::r,gl,vw,cp⟩:=λf c' h'=>by
 simp only[Tab.get,nN]at h';cases hb:Nat.beq g f with
 |true=>
  rw[hb]at h';have:=Bh hb;subst this;cases h';exact h
 |false=>rw[hb]at h';exact hr f c' h'
theorem qR.nil:∀p∈([]:List (Nat×An)),Ent P p.1:=by simp
theorem qR.cons{a:An}{r:List (Nat×An)}(h:Ent P g)(hr:∀p∈r,Ent P p.1):∀p∈(g,a)::r,Ent P p.1:=by
 intro p hp;rcases List.mem_cons.1 hp with rfl|hp
 ·exact h
 ·exact hr p hp
end Go.Rx
namespace Go.Rx
variable {R α:Type}
theorem Dk{a b c:Option R}(h:a=c)(h1:b=c):both a [b]=c:=by subst h;subst h1;exact LA _
theorem Dj{a b d c:Option R}(h:a=c)(h1:b=c)(h2:d=c):both a [b,d]=c:=by subst h;subst h1;subst h2;exact UJ _
theorem Dm{a b d e c:Option R}(h:a=c)(h1:b=c)(h2:d=c)(h3:e=c):both a [b,d,e]=c:=by subst h;subst h1;subst h2;subst h3;exact SU _
theorem Fm{l:List α}{a b c:Option R}(h:l=[]->a=c)(h1:b=c):QY l a b=c:=by subst h1;exact mL h
theorem Fk{o:Option α}{f g:α->Option R}(h:∀x,f x=g x):Option.bind o f=Option.bind o g:=by rw[funext h]
theorem Cb{o:Option α}{f:α->Option R}{t:Option R}(h:o=none->none=t)(h1:∀x,o=some x->f x=t):Option.bind o f=t:=by
 cases o with
 |none=>exact h rfl
 |some x=>exact h1 x rfl
theorem Fl(f:α->Option R):Option.bind none f=none:=rfl
theorem Br(x:α)(f:α->Option R):Option.bind (some x) f=f x:=rfl
theorem Bo(o:Option α):Option.bind o (λ_=>(none:Option R))=none:=by cases o<;>rfl
theorem Hm{c:Prop} [Decidable c]{a b a' b':Option R}(h:c->a=a')(h1:¬c->b=b'):(if c then a else b)=if c then a' else b':=by
 by_cases hc:c
 ·rw[uB hc,uB hc];exact h hc
 ·rw[uA hc,uA hc];exact h1 hc
theorem Cs{c:Prop} [Decidable c]{a b t:Option R}(h:c->a=t)(h1:¬c->b=t):(if c then a else b)=t:=by
 by_cases hc:c
 ·rw[uB hc];exact h hc
 ·rw[uA hc];exact h1 hc
abbrev vi(x:Int):PV:= .val (.int .i64) x
abbrev vc(x:UInt8):PV:= .val (.int .u8) x
abbrev vu(x:UInt32):PV:= .val (.int .u32) x
abbrev vq(x:UInt64):PV:= .val (.int .u64) x
abbrev vx(x:Int32):PV:= .val (.int .i32) x
abbrev vt(x:Bool):PV:= .val .bool x
abbrev vs(x:List UInt8):PV:= .val .str x
abbrev vb(x:List UInt8):PV:= .val (.list (.int .u8)) x
abbrev vl(x:List Int):PV:= .val (.list (.int .i64)) x
abbrev vw(x:List Int32):PV:= .val (.list (.int .i32)) x
abbrev vv(x:List UInt32):PV:= .val (.list (.int .u32)) x
end Go.Rx
namespace Go.Rx
open Go Go.Lv
variable{f:Nat}{P:Program}
structure Hd where
 p:List Sh
 r:List Sh
 a:An
 T:Tab
 s:List (Nat×An)
 f:Func
noncomputable def Hd.e(P:Program)(H:Hd):List (PS (Pd (Jb H.r)))->S->Option (Pd (Jb H.r)):=PE P H.T H.s H.f H.a H.r
noncomputable def Hd.i(P:Program)(H:Hd):List (PS (Pd (Jb H.r)))->Nat->S->Option (Pd (Jb H.r)):=PI P H.T H.s H.f H.a H.r
noncomputable def Hd.u(P:Program)(H:Hd)(x:Pd (Jb H.p)):Option (Pd (Jb H.r)):=run P H.T H.s H.f H.a H.p H.r x
def rA(H:Hd):Bool:=(!(H.f.name== "runtime.NumGoroutine")&&H.f.body.isSome)&&Nat.ble H.p.length H.f.ntmps
theorem Hd.sI(hM:P.follows .mixedOrders=true)(H:Hd){F:Pd (Jb H.p)->Option (Pd (Jb H.r))}(hf:P.funcs[f]? =some H.f)(hT:Yp P H.T)(hA:∀p∈H.s,Ent P p.1)
  (hb:rA H=true) (h:∀x,H.u P x=F x):ConOk P H.T.gl f ⟨H.p,H.r,F⟩:=by
 simp only[rA,tF,tS]at hb;obtain⟨c,hc⟩:=Option.isSome_iff_exists.1 hb.1.2;exact dC (T:=H.T) hM hf (Ent.mk hf hb.1.1 hc) hT hA hb.2 h
def nM(P:Program)(f:Nat):Bool:=match P.funcs[f]? with|some fn=>!(fn.name== "runtime.NumGoroutine")&&fn.body.isSome|none=>false
theorem oE(h:nM P f=true):Ent P f:=by
 unfold nM at h;split at h
 ·rename_i fn hf;simp only[tF,tS]at h;obtain⟨c,hc⟩:=Option.isSome_iff_exists.1 h.2;exact Ent.mk hf h.1 hc
 ·cases h
def qY(P:Program)(H:Hd):Bool:=(H.s.all λp=>nM P p.1)&&rA H
theorem Hd.cn(hM:P.follows .mixedOrders=true)(H:Hd){F:Pd (Jb H.p)->Option (Pd (Jb H.r))}(hf:P.funcs[f]? =some H.f)(hT:Yp P H.T)
  (hb:qY P H=true) (h:∀x,H.u P x=F x):ConOk P H.T.gl f ⟨H.p,H.r,F⟩:=by
 simp only[qY,tF,List.all_eq_true]at hb;exact Hd.sI hM H hf hT (λp hp=>oE (hb.1 p hp)) hb.2 h
abbrev Kc(P:Program)(gl:List (Nat×List Value)):={p:Nat×Con//ConOk P gl p.1 p.2}
def pC{P:Program}{gl:List (Nat×List Value)}(l:List (Kc P gl))(v c:Bool):Tab:=⟨l.map (·.1),gl,v,c⟩
theorem fR{P:Program}{gl:List (Nat×List Value)}:∀(l:List (Kc P gl)) (v c:Bool),Yp P (pC l v c)
 |[],_,_=> .nil
 |a::l,v,c=> .cons a.2 (fR l v c)
theorem ind{p:Nat->Prop}(h:p 0)(hs:∀q,p q->p (q+1)):∀q,p q:=λq=>Nat.rec h hs q
variable {R α:Type}
noncomputable abbrev bo(a:Option R):Option R:=both a [a]
noncomputable abbrev rY(a:Option R):Option R:=both a [a,a]
theorem Pk(a:Option R):both a [a]=a:=LA a
theorem Ix(a:Option R):both a [a,a]=a:=UJ a
theorem Jc(a:Option R):both a [a,a,a]=a:=SU a
abbrev Si:Sh:= .lf (.int .i64) none
abbrev Sc:Sh:= .lf (.int .u8) none
abbrev Su:Sh:= .lf (.int .u32) none
abbrev Sq:Sh:= .lf (.int .u64) none
abbrev Sx:Sh:= .lf (.int .i32) none
abbrev Sz:Sh:= .lf .bool none
abbrev Ss:Sh:= .lf .str none
abbrev Sb:Sh:= .lf (.list (.int .u8)) none
abbrev Sl:Sh:= .lf (.list (.int .i64)) none
abbrev Sw:Sh:= .lf (.list (.int .i32)) none
abbrev Sv:Sh:= .lf (.list (.int .u32)) none
abbrev Ob(e:Nat):Sh:= .lf (.list (.int .u8)) (some e)
abbrev Ol(e:Nat):Sh:= .lf (.list (.int .i64)) (some e)
abbrev Ow(e:Nat):Sh:= .lf (.list (.int .i32)) (some e)
abbrev Ov(e:Nat):Sh:= .lf (.list (.int .u32)) (some e)
abbrev Ai(e:Nat)(l:List Int):Item:= .arr e (.int .i64) l
abbrev Ab(e:Nat)(l:List UInt8):Item:= .arr e (.int .u8) l
abbrev Aw(e:Nat)(l:List Int32):Item:= .arr e (.int .i32) l
abbrev Av(e:Nat)(l:List UInt32):Item:= .arr e (.int .u32) l
abbrev An.q(a:An):An:= .seq .d a
end Go.Rx
namespace Go.Rx
open Go Go.Lv Go.RowKit
variable{cs:List Value}{B:Reg}{w:World}
variable {P:Program}
theorem Qr{B:Reg}{w:World}{k:Kd}:∀(l:List k.T),Bd (Ak B w (.int k)) l (Go.Lv.Oj (k:=k.k) l)
 |[]=>rfl
 |x::l=>⟨[iv (T:=k.T) (k:=k.k) x],Go.Lv.Oj (k:=k.k) l,rfl,rfl,Qr l⟩
theorem Rd.Mr{A:Reg}{s:Nat}{v:Value}(h:Rd A w s v cs)(ha:∀b,A b->B b):Rd B w s v cs:=h.step ha λ_ _=>rfl
theorem encs_nil:Ca B w [] [] []:=rfl
theorem row_true{gl:List (Nat×List Value)}{f:Nat}{ps:List Sh}{F:Pd (Jb ps)->Option Bool}(hC:ConOk P gl f ⟨ps,[.lf .bool none],F⟩){x:Pd (Jb ps)}{pvs:List PV}{vs:List Value}(ha:args ps x=some pvs)(hi:cT ps x=[])
  (hv:Ca (λ_=>True/\True) w [] pvs vs) (hg:GlOk gl (λ_=>True) w) (hF:F x=some true):Calls P f vs.toArray w λe w'=>e= .returned (.bool true)/\Below w.heap.size w w':=by
 refine(hC.ok (λ_=>True) (λ_=>True) w [] vs pvs x true ha (by rw[hi];rfl) (λi a m h=>by rw[hi]at h;simp at h) trivial hv hg hF).mono ?_;rintro e w' ⟨us,rfl,hk,A1,L1,g1,g2,g3⟩;obtain⟨qs,its,k1,k2,k3,k4,k5⟩:=g3 ⟨[],[],[]⟩ [] (λ_=>True) rfl (λ_ _=>trivial) (λ_ _ _=>trivial);refine⟨?_,⟨hk.gr.os,hk.gr.tape,hk.gr.output,hk.gr.le,λb hb=>hk.same b hb trivial⟩⟩;obtain rfl:=Option.some.inj (show some [PV.val .bool true]=some qs from k2);obtain⟨_,_,rfl,e1,rfl⟩:=k3;cases(show [_]=[Value.bool true]from e1);rfl
theorem laid_ints{H:Type}{enc:TypeId×Value->H}{fuel:Nat}{t e n:Nat}{k:IntKind}{zs:List Int}{p:List MemPlace}(hu:P.underlying t=some (.array n e))(he:P.underlying e=some (.int k))(hc:P.cellsOf e=1)(ht:P.cellsOf t=n)
  (h:DataW.trod enc P w 0 (λ_=>true) false fuel t cs=some (.agg (zs.map λz=> .lit (.int k z)),p)):cs=zs.map λz=>Value.int k z:=by
 obtain⟨xs,m,rfl,hx,hlen,hn,hel⟩:=DataW.trod_array hu h;simp only[uK,DataW.agg.injEq]at hx;rw[ht]at hlen;have hz:zs.length=n:=by
  have:=congrArg List.length hx.1;simpa [hn]using this
 apply List.ext_getElem?;intro i;by_cases hi:i<n
 ·have h0:=hel i hi;rw[hc,Nat.mul_one]at h0;have hxi:xs[i]? =some xs[i]:=List.getElem?_eq_getElem A4;rw[hxi]at h0;obtain⟨q,e1,e2,_⟩:=DataW.trod_int he h0;have e3:(cs.drop i).take 1=[cs[i]' A4]:=by
   rw[List.drop_eq_getElem_cons A4];rfl
  rw[e3]at e1;have e4:(xs.map (·.1))[i]? =(zs.map λz=>(DataW.lit (.int k z):DataW H))[i]? :=by rw[<-hx.1]
  rw[List.getElem?_map,List.getElem?_map,hxi,List.getElem?_eq_getElem A4,e2]at e4;simp only[uN,tJ,DataW.lit.injEq,Lit.int.injEq,true_and]at e4;rw[List.getElem?_map,List.getElem?_eq_getElem A4,List.getElem?_eq_getElem A4];simp only[vF,and_true]at e1;rw[e1,e4];rfl
 ·rw[List.getElem?_eq_none A4,List.getElem?_eq_none A5]
theorem glOk_cons{n:String}{g:Nat}{cs:Array Value}{l:List Value}{gl:List (Nat×List Value)}(hg:P.globalNamed n=some g)(hv:w.var? P n=some cs)(hl:cs.toList=l)(h:GlOk gl (λ_=>True) w):GlOk ((g,l)::gl) (λ_=>True) w:=by
 intro p hp;rcases List.mem_cons.1 hp with rfl|hp
 ·simp only[World.var?,hg,Option.bind_some]at hv;split at hv
  ·rename_i cs' T fr hh;cases hv;refine⟨(Array.getElem?_eq_some_iff.1 hh).1,trivial,T,fr,?_⟩;rw[hh,<-hl]
  ·cases hv
 ·exact h p hp
theorem glOk_nil{N:Reg}:GlOk [] N w:=λp hp=>by simp at hp
end Go.Rx
namespace Go.Rx
open Go Go.Lv Go.RowKit Go.ChangeShapes Go.WideShapes
variable{cs:List Value}{fuel:Nat}{H:Type}{t:TypeId}{w:World}
variable {P:Program}
theorem laid_bool_int{enc:TypeId×Value->H}{f0 f1:Field}{k:IntKind}{b:Bool}{z:Int}{p:List MemPlace}(hu:P.underlying t=some (.struct #[f0,f1]))
  (h0:P.underlying f0.type=some .bool) (h1:P.underlying f1.type=some (.int k)) (o0:f0.offset=0) (o1:f1.offset=1) (c0:P.cellsOf f0.type=1) (c1:P.cellsOf f1.type=1) (ct:P.cellsOf t=2)
  (h:DataW.trod enc P w 0 (λ_=>true) false fuel t cs=some (.agg [.lit (.bool b), .lit (.int k z)],p)):cs=[.bool b, .int k z]:=by
 obtain⟨xs,m,rfl,hx,hlen,hn,hel⟩:=DataW.trod_struct hu h;rw[ct]at hlen
 match cs,hlen with
 |[a,c],_=>
  match xs,hn with
  |[y0,y1],_=>
   simp only[uK,DataW.agg.injEq,tZ,vJ,vF,and_true]at hx;have e0:=hel 0 f0 rfl;have e1:=hel 1 f1 rfl;rw[o0,c0]at e0;rw[o1,c1]at e1;obtain⟨b',q0,r0⟩:=DataW.trod_bool h0 e0;obtain⟨z',q1,r1,_⟩:=DataW.trod_int h1 e1;simp at q0 q1;rw[r0,r1]at hx;simp at hx;rw[q0,q1,hx.1.1,hx.1.2]
theorem fld{enc:TypeId×Value->H}{base:Nat}{spare:Nat->Bool}{held:Bool}{fs:Array Field}{x:DataW H×List MemPlace}(ht:P.underlying t=some (.struct fs))(h:DataW.trod enc P w base spare held fuel t cs=some x)
  (i:Nat) {ft:TypeId} {off k:Nat} {part:List Value} (hf:(fs[i]?).map (λf=>(f.type,f.offset))=some (ft,off)) (hc:P.cellsOf ft=k) (hd:(cs.drop off).take k=part):∃n y,DataW.trod enc P w base spare held n ft part=some y:=by
 obtain⟨xs,n,_,_,_,hn,hel⟩:=DataW.trod_struct ht h;cases hi:fs[i]? with
 |none=>rw[hi]at hf;cases hf
 |some f=>
  rw[hi]at hf;cases hf;have g:=hel i f hi;rw[hc,hd,List.getElem?_eq_getElem (by rw[hn];exact(Array.getElem?_eq_some_iff.1 hi).1)]at g;exact⟨n,_,g⟩
end Go.Rx
namespace Go.Rx
open Go Go.Lv Go.RowKit Go.ChangeShapes Go.WideShapes
variable {P:Program}
end Go.Rx
