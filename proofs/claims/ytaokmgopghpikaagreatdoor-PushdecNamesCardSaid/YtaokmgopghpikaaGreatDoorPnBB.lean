/- A part of a proof (see the text that ends in Proof). No conditions. -/
import Derived.Test.YtaokmgopghpikaaGreatDoorPnBA
import Derived.MapKept
import Derived.ProofKit
import Derived.LaidMore
import Derived.DataReads
import Derived.ChangeSame
import Derived.RangeFuncNested
import Derived.RangeFuncLeaves
import Derived.LoopIn
set_option linter.unusedVariables false
set_option linter.unusedSimpArgs false
namespace Go.Rx
open Go Go.Lv
variable{a x:Operand}{m p:PV}{v:Value}
variable {P:Program} {B:Reg} {w w':World} {L L':List MD} {s:S} {σs:List Env} {σ:Env} {Z:Fix} {A A':Reg} {n:Nat} {ops:Array Oper} {rest:List Oper} {K:Env->World->Prop}
variable {R:Type} {k:S->Option R} {r:R} {d:Option Nat} {ty:TypeId} {pos:String} {after:Array Edge}
structure Frz (B:Reg) (w:World) (L:List MD) (i:Nat) (m:PV):Prop where
 enc:∀z E v c,L[i]? =some (.own z E v c)->Am B w (L.set i .dead) m [v]
 isA:m.isA=false
 isV:m.isV=true
theorem TQ{i:Nat}(hm:m.isA=false):(subst i m p).isA=p.isA:=by
 cases p<;>try rfl
 ·rename_i j;simp only[subst];cases hb:Nat.beq i j with
  |true=>exact hm
  |false=>rfl
 ·rename_i j q;simp only[subst];cases hb:Nat.beq i j<;>rfl
 ·rename_i o j q e lo n;simp only[subst];cases hb:Nat.beq i j<;>rfl
theorem AG{i j:Nat}(h:Nat.beq i j=false):(L.set i .dead)[j]? =L[j]? :=by
 rw[vJ];intro e;subst e;simp at h
mutual
theorem Ue{i:Nat}{m:PV}(hf:Frz B w L i m):∀{p:PV} {cs:List Value},Am B w L p cs->Am B w (L.set i .dead) (subst i m p) cs
 | .val _ x,cs,h=>h
 | .agg q,cs,h=>NX hf (show Am.go B w L q cs from h)
 | .tup _,_,h=>h.elim
 | .nils,cs,h=>h
 | .own j,cs,⟨z,E,v,c,h1,h2⟩=>by
  simp only[subst];cases hb:Nat.beq i j with
  |true=>
   have:=Bc hb;subst this;rw[h2];exact hf.enc _ _ _ _ h1
  |false=>exact⟨z,E,v,c,by rw[AG hb];exact h1,h2⟩
 | .ptr j q,cs,⟨md,b,h1,h2,h3⟩=>by
  simp only[subst];cases hb:Nat.beq i j with
  |true=>exact⟨_,h3,rfl⟩
  |false=>exact⟨md,b,by rw[AG hb];exact h1,h2,h3⟩
 | .view o j q e lo n,cs,⟨md,v,h1,h2,h3⟩=>by
  simp only[subst];cases hb:Nat.beq i j with
  |true=>
   obtain⟨_,_,⟨pt,cap,e',_⟩,_⟩:=h3;exact⟨v,h2,by rw[e'];rfl⟩
  |false=>exact⟨md,v,by rw[AG hb];exact h1,h2,h3⟩
 | .rptr v,cs,⟨pv,c0,h1,h2,h3⟩=>by
  exact⟨pv,c0,h1,h2,Ue hf h3⟩
 | .fn f caps,cs,⟨vs,h1,h2⟩=>⟨vs,h1,Qr hf h2⟩
 | .cap _ _ _,cs,h=>h
 | .bfn f fs,cs,⟨vs,h1,h2⟩=>⟨vs,h1,Qr hf h2⟩
 | .mp ks l,cs,⟨r,es,n,h1,h2,h3,h4,h5⟩=>⟨r,es,n,h1,h2,h3,h4,Qr hf h5⟩
 | .cst v,cs,h=>h
 | .any,cs,h=>h
 | .gd _ _ _,_,h=>h.elim
 | .off,_,h=>h.elim
 | .undef,_,h=>h.elim
theorem NX{i:Nat}{m:PV}(hf:Frz B w L i m):∀{q:List PV} {cs:List Value},Am.go B w L q cs->Am.go B w (L.set i .dead) (subst.go i m q) cs
 |[],cs,h=>h
 |a::q,cs,⟨c1,c2,e',h1,h2⟩=>⟨c1,c2,e',Ue hf h1,NX hf h2⟩
theorem Qr{i:Nat}{m:PV}(hf:Frz B w L i m):∀{q:List PV} {vs:List Value},By B w L q vs->By B w (L.set i .dead) (subst.go i m q) vs
 |[],vs,h=>h
 |a::q,vs,⟨v,vs',e',h1,h2⟩=>⟨v,vs',e',by rw[TQ hf.isA];exact h1.mono λc h=>Ue hf h,Qr hf h2⟩
end
theorem ZU{i:Nat}(hf:Frz B w L i m)(h:Dg B w L p v):Dg B w (L.set i .dead) (subst i m p) v:=by
 unfold Dg;rw[TQ hf.isA];exact cP.mono (λc h=>Ue hf h) h
theorem RW{i:Nat}(hf:Frz B w L i m)(h:Bw B w L p v):Bw B w (L.set i .dead) (subst i m p) v:=by
 cases hp:p.WY with
 |true=>exact(Dp (ZU hf ((Vn hp).1 h))).2
 |false=>
  cases p
  case tup q=>obtain⟨vs,h1,h2⟩:=h;exact⟨vs,h1,Qr hf h2⟩
  case undef=>exact(show False from h).elim
  case off=>exact(show False from h).elim
  case gd=>exact(show False from h).elim
  all_goals cases hp
theorem ZA{i:Nat}(hf:Frz B w L i m){t:Nat}(h:Cw B w L σ t p):Cw B w (L.set i .dead) σ t (subst i m p):=by
 cases hv:p.isV with
 |true=>
  have h1:=RW hf ((Cw.iff hv).1 h);have h2:(subst i m p).isV=true:=by
   cases p<;>first|rfl|cases hv|skip
   ·rename_i j;simp only[subst];cases Nat.beq i j;rfl;exact hf.isV
   ·rename_i j q;simp only[subst];cases Nat.beq i j<;>rfl
   ·rename_i o j q e lo n;simp only[subst];cases Nat.beq i j<;>rfl
  exact(Cw.iff h2).2 h1
 |false=>
  rcases Ig hv with rfl|rfl|⟨j,u,q,rfl⟩
  ·exact trivial
  ·exact h
  ·obtain⟨b,h1,h2,h3⟩:=h;exact⟨b,h1,λe=>RW hf (h2 e),h3⟩
theorem GO{i:Nat}(hf:Frz B w L i m){sl:Slots}(h:Cj B w L σ sl):Cj B w (L.set i .dead) σ (dS i m sl):=by
 intro p hp;obtain⟨q,hq,rfl⟩:=List.mem_map.1 hp;exact ZA hf (h q hq)
theorem HC{i:Nat}{m:PV}(hf:Frz B w L i m):∀{σs:List Env} {st:List Slots},Vh B w L σs st->Vh B w (L.set i .dead) σs (st.map (dS i m))
 |[],[],h=>h
 |_::_,_::_,⟨h1,h2⟩=>⟨GO hf h1,HC hf h2⟩
theorem aA{i:Nat}(hf:Frz B w L i m){a:Item}{md:MD}(h:Jk B w L a md):Jk B w (L.set i .dead) (cZ i m a) md:=by
 cases a<;>cases md<;>first
  |exact h
  |exact⟨h.1,Ue hf h.2⟩
theorem MemR.subst(hm:MemR B w L s σs σ){i:Nat}(hf:Frz B w L i m):MemR B w (L.set i .dead) ((s.Hi i .dead).sub i m) σs σ:=by
 refine⟨⟨?_,?_⟩,GO hf hm.sl,HC hf hm.stk⟩
 ·simp[S.sub,S.Hi,BH,hm.it.1]
 ·intro j a md g1 g2;simp only[S.sub,S.Hi,vZ,vY]at g1;obtain⟨a0,g3,rfl⟩:=g1;rcases BF g3 with⟨rfl,rfl⟩|⟨g4,g5⟩
  ·trivial
  ·rw[vJ (xE g4)]at g2;exact aA hf (hm.it.2 j a0 md g5 g2)
theorem DN(hr:Rel Z s σs A L σ w){i:Nat}{s':S}(h:s.freeze i=some s'):∃A',Rel Z s' σs A' (L.set i .dead) σ w/\∃E e l,Bd s.it i= .arr E e l/\s'=(s.Hi i .dead).sub i (.val (.list e) l):=by
 unfold S.freeze at h;split at h
 ·rename_i E e l hi;cases h;have hm:=hr.mem;obtain⟨v,cs,h1,h2⟩:=hm.arr hi;have hR:∀b,¬A b->Z.R b:=λb hb=>by
   rcases wG b Z.w0.heap.size with hlt|hge
   ·have hold:=(hr.fact 1 (f:= .old Z.M Z.w0) rfl).2 b hlt;exact Z.mod b (wB λhM=>hb (hold hM).1)
   ·exact Z.new b hge
  obtain⟨A',hA,hs'⟩:=St.freeze hr (hr.Cx h1) rfl Z.R hR;have hs2:=Bi.Wj (hs'.QR 1 0) (Qm (m':=MD.dead.Cx) (hr.Cx h1));have hm2:MemR (λb=>A' b/\Z.R b) w L s σs σ:=hs2.fact 1 rfl;have hrd:Rd (λb=>A' b/\Z.R b) w e.size v cs:=hs2.fact 0 (f:= .rd Z.R e.size v cs) rfl;have hall:=h2.mono (g:=Ak (λb=>A' b/\Z.R b) w e) λx c h=>Ak.step (λb hb=>⟨hA b hb.1,hb.2⟩) (λ_ _=>rfl) h;have hf:Frz (λb=>A' b/\Z.R b) w L i (.val (.list e) l):=⟨λz E' v' c' h=>by rw[h1]at h;cases h;exact⟨v,cs,rfl,hrd,hall⟩,rfl,rfl⟩;exact⟨A',Rel.as hs2 (i:=2) rfl (hm2.subst hf) (by rw[xD]),E,e,l,hi,rfl⟩
 ·cases h
theorem Gf:∀{is:List Nat} {s s':S} {A:Reg} {L:List MD},Rel Z s σs A L σ w->s.Ln is=some s'->∃A' L',Rel Z s' σs A' L' σ w/\ (is=[]->s'=s/\A'=A/\L'=L)
 |[],s,s',A,L,hr,h=>by simp only[S.Ln,uN]at h;subst h;exact⟨A,L,hr,λ_=>⟨rfl,rfl,rfl⟩⟩
 |i::is,s,s',A,L,hr,h=>by
  simp only[S.Ln]at h;split at h
  ·obtain⟨A',L',h1,_⟩:=Gf hr h;exact⟨A',L',h1,λe=>by cases e⟩
  ·cases h
  ·split at h
   ·rename_i s1 h1;obtain⟨A1,h2,_⟩:=DN hr h1;obtain⟨A',L',h3,_⟩:=Gf h2 h;exact⟨A',L',h3,λe=>by cases e⟩
   ·cases h
theorem UK(h:NC p=true):p.WY=true:=by cases p<;>first|rfl|cases h
theorem Ph{B:Reg}(hm:Cj B w L σ s.sl)(h:(Bs s.sl x).WY=true):Dg B w L (Bs s.sl x) (ev σ x):=(Vn h).1 (Fw hm x (PV.TV h))
theorem ZS{s':S}(hr:Rel Z s σs A L σ w)(h:RX s a x=some s'):∃A' L',Rel Z s' σs A' L' σ w:=by
 unfold RX at h;split at h
 ·split at h
  ·obtain⟨A',L',h1,_⟩:=Gf hr h;exact⟨A',L',h1⟩
  ·cases h;exact⟨A,L,hr⟩
 ·cases h
theorem CZ.step{B B':Reg}{w w':World}(hb:∀b,B b->B' b)(hs:Same B w w')(hl:Xs L L'){a:Item}{cs:List Value}(h:CZ B w L a cs):CZ B' w' L' a cs:=by
 cases a with
 |dead=>exact h
 |box T v=>exact Am.step hb hs hl h
 |arr E e l=>exact Az.mono (λx c h=>Ak.step hb hs h) h
def NU(R:Reg)(L:List MD)(a:Item)(cs:List Value):Fact where
 holds A w:=CZ (λb=>A b/\R b) w L a cs
 step h ha hs _:=h.step (λb ⟨h1,h2⟩=>⟨ha b h1,h2⟩) (λb ⟨h1,_⟩=>hs b h1) (.refl L)
theorem jB{t:TypeId}(hr:Rel Z s σs A L σ w)(h:VJ P s t a x k=some r):
  Ju P n ops ⟨none, .store t a x,ty,pos,after,none⟩ Z s σs k r False A L σ w:=by
 unfold VJ at h;split at h
 ·cases h
 ·rename_i s1 hs1;obtain⟨A1,L1,hr1⟩:=ZS hr hs1;have hm:=hr1.mem;split at h
  ·rename_i i p ha;split at h
   ·rename_i inf He;obtain⟨hb,h⟩:=Aj h;simp only[uJ]at hb;obtain⟨md,b,h1,h2,h3⟩:=Je (Bg hm.sl ha rfl);obtain⟨ns,h4,h5⟩:=Qb hr1 (Ph hm.sl (UK hb.1.1));have hne:Bd s1.it i≠ .dead:=by intro e;rw[e]at h;simp[MZ]at h
    obtain⟨h6,h7⟩:=hm.root h1 hne;obtain⟨a',hk,h8,h9,h10⟩:=bP h5 h h6;have hlen:=h5.len;have hz:=Bc hb.1.2;have hz0:0<inf.size:=by simpa [Nat.blt_eq]using hb.2
    have tL:=St.GY (f:=NU Z.R L1 a' (Ap md.cells (Ah p) ns)) hr1 h9;refine gA tL h1 h2 ⟨inf,He,rfl⟩ h3 rfl h4 (hlen.trans hz.symm) (List.all_eq_true.2 (h5.one hr1.BR)) (by rw[hz,<-hlen];exact h8) hz0 (λw' md' hs' hmd=>?_);have h11:CZ (λb=>A1 b/\Z.R b) w' L1 a' (Ap md.cells (Ah p) ns):=hs'.fact 0 rfl;have hs2:=hs'.KQ
    revert h7 h10
    cases hi:Bd s1.it i with
    |dead=>exact absurd hi hne
    |box T v0=>
     rintro⟨b0,c0,rfl⟩ h10;simp only[Jb]at hmd;subst hmd;have key:=Xs.box (cs':=Ap (MD.box b0 c0 T).cells (Ah p) ns) h1;refine⟨_,A1,_,hk,Rel.change hs2 h1 key ?_,λh=>h.elim⟩;cases a' with
     |box T' v'=>simp only[sameKind]at h10;subst h10;exact⟨rfl,Am.step (λ_ h=>h) (λ_ _=>rfl) key h11⟩
     |dead=>exact h11.elim
     |arr _ _ _=>exact h10.elim
    |arr E e l=>
     rintro⟨v0,c0,rfl⟩ h10;simp only[Jb]at hmd;subst hmd;have key:=Xs.own (cs':=Ap (MD.own e.size E v0 c0).cells (Ah p) ns) h1;refine⟨_,A1,_,hk,Rel.change hs2 h1 key ?_,λh=>h.elim⟩;cases a' with
     |arr E' e' l'=>obtain⟨rfl,rfl⟩:=h10;exact⟨rfl,rfl,h11⟩
     |dead=>exact h11.elim
     |box _ _=>exact h10.elim
   ·cases h
  ·cases h
end Go.Rx
namespace Go.Rx
open Go Go.Lv
variable{x:Operand}{p:PV}{v:Value}
variable {P:Program} {B:Reg} {w w':World} {L L':List MD} {s:S} {σs:List Env} {σ:Env} {Z:Fix} {A A':Reg} {n:Nat} {ops:Array Oper} {rest:List Oper} {K:Env->World->Prop}
variable {R:Type} {k:S->Option R} {r:R} {d:Option Nat} {ty:TypeId} {pos:String} {after:Array Edge}
theorem Qt{t:TypeId}(h:zeroOf P t=some p):∃z,(∃i,P.info? t=some i/\i.zero=some z)/\∀(B:Reg) (w:World) (L:List MD),Am B w L p z.cells.toList:=by
 unfold zeroOf at h;split at h
 ·rename_i i hi;split at h
  ·rename_i z hz;exact⟨z,⟨i,hi,hz⟩,λB w L=>DH h⟩
  ·cases h
 ·cases h
theorem dJ{md:MD}{b:Nat}(hb:md.base=some b){B:Reg}:Bw B w (L++[md]) (.ptr L.length []) (.pointer (some ⟨b,0,none⟩)):=⟨md,b,A9,hb,rfl⟩
theorem FK{z:Nat}{E:TypeId}{c:List Value}{B:Reg}:Bw B w (L++[.own z E v c]) (.own L.length) v:=⟨z,E,v,c,A9,rfl⟩
theorem Rel.len(hr:Rel Z s σs A L σ w):s.it.length=L.length:=hr.mem.it.1
theorem Rel.lt(hr:Rel Z s σs A L σ w):∀b,A b->b<w.heap.size:=St.lt hr
def jG(A0:Reg)(w0:World):Fact where
 holds A w:=(∀b,A0 b->A b)/\Same A0 w0 w
 step h ha hs _:=⟨λb hb=>ha b (h.1 b hb),λb hb=>(hs b (h.1 b hb)).trans (h.2 b hb)⟩
theorem Rel.same(hr:Rel Z s σs A L σ w):St A w [jG A w,IB Z.R L s σs σ, .old Z.M Z.w0] (L.map MD.Cx):=St.GY (f:=jG A w) hr ⟨λ_ h=>h,λ_ _=>rfl⟩
theorem Uo{w':World}{A':Reg}{a:Item}{md:MD}{dn:Nat}{G:Prop}(hr:Rel Z s σs A L σ w)(hs:St A' w' [jG A w,IB Z.R L s σs σ, .old Z.M Z.w0] (md.Cx::L.map MD.Cx))
  (ha:Jk (λb=>A' b/\Z.R b) w' (L++[md]) a md) (hv:p.isV=true) (hp:∀B,Bw B w' (L++[md]) p v) (hk:k ((s.add a).Cl (some dn) p)=some r):
  SO Z σs k r G A L s.it w (Hi σ dn v) w':=by
 obtain⟨h1,h2⟩:(∀b,A b->A' b)/\Same A w w':=hs.fact 0 rfl;have hr':=Rel.push hs.KQ ha;exact⟨_,A',L++[md],hk,hr'.Cl (d:=some dn) hv (hp _),λ_=>⟨h1,h2,⟨[md],rfl⟩,⟨[a],rfl⟩⟩⟩
theorem Rc{o:Op}{dn:Nat}(h:Dt n ⟨some dn,o,ty,pos,after,none⟩=true):Nat.blt dn n=true:=h
theorem gU{t:TypeId}{v:PV}{dn:Nat}{G:Prop}(hr:Rel Z s σs A L σ w)(hd:Dt n ⟨some dn, .alloc t,ty,pos,after,none⟩=true)(hz:zeroOf P t=some v)
  (hk:k ((s.add (.box t v)).Cl (some dn) (.ptr s.new []))=some r):Ju P n ops ⟨some dn, .alloc t,ty,pos,after,none⟩ Z s σs k r G A L σ w:=by
 obtain⟨z,h1,h2⟩:=Qt hz;refine WL.alloc (cells:=z.cells.toList) hr.same (Rc hd) h1 A9 (λb w' hs'=>WL.nil ?_);refine Uo (a:= .box t v) (md:= .box b z.cells.toList t) hr hs' ⟨rfl,h2 _ _ _⟩ rfl (λB=>?_) hk;rw[S.new,hr.len];exact dJ rfl
theorem nS{t:TypeId}{dn:Nat}{G:Prop}(hr:Rel Z s σs A L σ w)(hd:Dt n ⟨some dn, .box t x,ty,pos,after,none⟩=true)(hx:NC (Bs s.sl x)=true)
  (hk:k ((s.add (.box t (Bs s.sl x))).Cl (some dn) (.ptr s.new []))=some r):Ju P n ops ⟨some dn, .box t x,ty,pos,after,none⟩ Z s σs k r G A L σ w:=by
 obtain⟨cs,h1,h2⟩:=Qb hr (Ph hr.mem.sl (UK hx));have hF:=St.GY (f:=NU Z.R L (.box t (Bs s.sl x)) cs) hr.same h2;refine WL.box hF (Rc hd) rfl h1 (λb w' hs'=>WL.nil ?_);have h3:CZ (λb=>A b/\Z.R b) w' L (.box t (Bs s.sl x)) cs:=hs'.fact 0 rfl;refine Uo (a:= .box t (Bs s.sl x)) (md:= .box b cs t) hr hs'.KQ ⟨rfl,Am.step (λ_ h=>h) (λ_ _=>rfl) (Xs.append _ _) h3⟩ rfl (λB=>?_) hk;rw[S.new,hr.len];exact dJ rfl
theorem VA{a t e:TypeId}{l:List UInt8}{dn:Nat}{G:Prop}(hr:Rel Z s σs A L σ w)(hd:Dt n ⟨some dn, .convert a t x,ty,pos,after,none⟩=true)(ha:P.underlying a=some .string)(ht:P.underlying t=some (.slice e))
  (he:P.underlying e=some (.int .u8)) (hx:Bs s.sl x= .val .str l) (hk:k ((s.add (.arr e (.int .u8) l)).Cl (some dn) (.own s.new))=some r):Ju P n ops ⟨some dn, .convert a t x,ty,pos,after,none⟩ Z s σs k r G A L σ w:=by
 refine WL.sV ha ht he hr.same (Rc hd) (Gw hr.mem.sl hx) (λp m c w' hs'=>WL.nil ?_);refine Uo (a:= .arr e (.int .u8) l) (md:= .own 1 e (.slice p m c) (Nx l)) hr hs' ⟨rfl,rfl,Px⟩ rfl (λB=>?_) hk;rw[S.new,hr.len];exact FK
where Px:∀{B:Reg} {w:World} {l:List UInt8},Az (Ak B w (.int .u8)) l (Nx l)
 |_,_,[]=>rfl
 |_,_,x::l=>⟨[iv x],Nx l,rfl,rfl,Px⟩
theorem kJ{t e E:TypeId}{i:Nat}{y:UInt8}{ys:List UInt8}{dn:Nat}{G:Prop}(hr:Rel Z s σs A L σ w)(hd:Dt n ⟨some dn, .convert t t x,ty,pos,after,none⟩=true)(ht:P.underlying t=some (.slice e))
  (he:P.underlying e=some (.int .u8)) (hx:Bs s.sl x= .own i) (hi:Bd s.it i= .arr E (.int .u8) (y::ys)) (hk:k (s.Cl (some dn) (.own i))=some r):Ju P n ops ⟨some dn, .convert t t x,ty,pos,after,none⟩ Z s σs k r G A L σ w:=by
 obtain⟨v,cs,h1,h2⟩:=hr.mem.arr hi;have hne:0<cs.length:=by
  obtain⟨c,c',e1,e2,_⟩:=h2;rw[e1,uR];have:c.length=(ET.int .u8).size:=Ak.len e2;rw[this];have:(ET.int Kd.u8).size=1:=rfl;omega
 have jZ:Bw (λb=>A b/\Z.R b) w L (.own i) (ev σ x):=by
  have:=Bg hr.mem.sl hx rfl;exact this
 have hev:ev σ x=v:=by
  obtain⟨z,E',v',c,g1,g2⟩:=jZ;rw[h1]at g1;cases g1;simpa using g2
 have hL:(L.map MD.Cx)[i]? =some (.own 1 E v cs):=by rw[vZ,h1];rfl
 refine WL.qM ht he hr.same hL hne (Rc hd) hev (λw' hs'=>WL.nil ?_);obtain⟨g1,g2⟩:(∀b,A b->A b)/\Same A w w':=hs'.fact 0 rfl;have hr':Rel Z s σs A L σ w':=hs'.KQ;exact⟨_,A,L,hk,hr'.Cl (d:=some dn) (p:= .own i) rfl ⟨_,_,_,_,h1,rfl⟩,λ_=>⟨g1,g2,⟨[],A9⟩,⟨[],by simp[S.Cl,S.set]⟩⟩⟩
theorem JE{t:TypeId}{e:ET}(h:QH P t e=true):ElemOk P t e.size:=by
 unfold QH at h;split at h
 ·rename_i i hi;simp only[uJ]at h;obtain⟨⟨⟨h1,h2⟩,h3⟩,h4⟩:=h;split at h3
  ·rename_i z hz;exact⟨⟨i,z,hi,Bc h1,hz,Bc h3,uZ h2⟩,by have:=uZ h4;omega⟩
  ·cases h3
 ·cases h
theorem Uf{t E:TypeId}(h:JJ P t=some E):P.underlying t=some (.slice E):=by
 unfold JJ at h;split at h
 ·rename_i e he;cases h;exact he
 ·cases h
theorem VF{e:ET}{x:e.T}{c:List Value}(h:Ak B w e x c):∀m,Az (Ak B w e) (List.replicate m x) (List.replicate m c).flatten
 |0=>rfl
 |m+1=>⟨c,(List.replicate m c).flatten,rfl,h,VF h m⟩
theorem lV{t:TypeId}{a b:Operand}{dn:Nat}{G:Prop}(hr:Rel Z s σs A L σ w)(hd:Dt n ⟨some dn, .makeSlice t a b,ty,pos,after,none⟩=true)(h:aW P s (some dn) t a b k=some r):
  Ju P n ops ⟨some dn, .makeSlice t a b,ty,pos,after,none⟩ Z s σs k r G A L σ w:=by
 unfold aW at h;split at h
 ·cases h
 ·rename_i E hE;split at h
  ·cases h
  ·rename_i e he;obtain⟨hb,h⟩:=Aj h;split at h
   ·rename_i m m' z hm hm' hz;split at h
    ·rename_i x hx;obtain⟨l,hl,h⟩:=bind_some h;obtain⟨_,hq,h⟩:=bind_some h;obtain⟨h1,h2,rfl⟩:=YS hl;have h3:m'=m:=by have:=Ie hq;simpa [geq,GI.toZ]using this
     subst h3;obtain⟨zv,hz1,hz2⟩:=Qt hz;have ea:=NR hm (Fw hr.mem.sl a (VO hm));have eb:=NR hm' (Fw hr.mem.sl b (VO hm'));refine WL.makeSlice (Uf hE) (JE hb) hz1 (zs:=zv.cells.toList) A9 hr.same (Rc hd) (m:=m'.toNat) (by rw[<-h1];exact ea) (by rw[<-h1];exact eb) h2 (λp q c w' hs'=>WL.nil ?_);refine Uo (a:= .arr E e (List.replicate m'.toNat x)) (md:= .own e.size E (.slice p q c) (List.replicate m'.toNat zv.cells.toList).flatten) hr hs' ⟨rfl,rfl,VF (Qp hx (hz2 _ _ (L++[]))) _⟩ rfl (λB=>?_) h;rw[S.new,hr.len];exact FK
    ·cases h
   ·cases h
end Go.Rx
namespace Go.Rx
open Go Go.Lv
variable{vw:Bool}{e:ET}{x y:Operand}{p:PV}{v:Value}
variable {P:Program} {B:Reg} {w w':World} {L L':List MD} {s:S} {σs:List Env} {σ:Env} {Z:Fix} {A A':Reg} {n:Nat} {ops:Array Oper} {rest:List Oper} {K:Env->World->Prop}
variable {R:Type} {k:S->Option R} {r:R} {d:Option Nat} {ty:TypeId} {pos:String} {after:Array Edge}
theorem SO.of{G:Prop}{s1:S}{A1:Reg}{L1:List MD}{σ':Env}(h:G->s1=s/\A1=A/\L1=L)(hp:SO Z σs k r G A1 L1 s1.it w σ' w'):SO Z σs k r G A L s.it w σ' w':=by
 obtain⟨s',A',L',h1,h2,h3⟩:=hp;refine⟨s',A',L',h1,h2,λg=>?_⟩;obtain⟨e1,e2,e3⟩:=h g;subst e1 e2 e3;exact h3 g
theorem isEmpty_nil{α:Type}{l:List α}(h:l.isEmpty=true):l=[]:=by cases l<;>simp_all
theorem XD{z:Nat}(h:Nat.ble 1 z=true):0<z:=by have:=uZ h;omega
theorem Rel.oK(hr:Rel Z s σs A L σ w){i z:Nat}{E:TypeId}{cs:List Value}(h:L[i]? =some (.own z E v cs)):
  ∃q len cap,v= .slice q len cap/\cs.length=len*z/\len<=cap/\ (q=none->cap=0)/\ (0<cap->∃b,q=some ⟨b,0,none⟩/\ (MD.own z E v cs).base=some b):=by
 obtain⟨o,q,len,cap,h1,h2,h3,h4,h5,h6⟩:=Bi.mem (A:=A) (St.mobs hr) (hr.Cx h);refine⟨q,len,cap,h1,h2,h3,h4,λhc=>?_⟩;cases o with
 |none=>have:=h5 rfl;omega
 |some b=>
  obtain⟨arr,fr,e1,_⟩:=h6 b rfl;subst h1 e1;exact⟨b,rfl,rfl⟩
theorem X.ID{t e:TypeId}{z len cap a b:Nat}{p:Option Addr}{lo hi:Option Operand}(ht:P.underlying t=some (.slice e))(hsz:Dh P e z)(h1:a<=b)(h2:b<=len)(h3:len<=cap)(hx:ev σ x= .slice p len cap)
  (hlo:(∃q,lo.map (ev σ)=some (.int q (a:Int)))\/ (lo=none/\a=0)) (hhi:(∃q,hi.map (ev σ)=some (.int q (b:Int)))\/ (hi=none/\b=len)):
  XO P σ w (.slice t x lo hi none) (.slice (if cap=a then p else p.map (·.add (a*z))) (b-a) (cap-a)):=λ_ _ _ _ _=>by
 have hr:=UA (P:=P) (w:=w) (p:=p) (gI:=lo.map (ev σ)) (nN:=hi.map (ev σ)) ht hsz h1 h2 h3 (by rcases hlo with h|⟨h,h'⟩;exact .inl h;exact .inr ⟨by rw[h];rfl,h'⟩)
   (by rcases hhi with h|⟨h,h'⟩;exact .inl h;exact .inr ⟨by rw[h];rfl,h'⟩)
 simp only[execOp,hx,Instr.sliceAt,uP,uL ht,uK,wK,hr,uT]
theorem X.UF{t u e:TypeId}{z m a b:Nat}{ad:Addr}{lo hi:Option Operand}(ht:dK P t=some (u,m,e))(hsz:Dh P e z)(h1:a<=b)(h2:b<=m)(hx:ev σ x= .pointer (some ad))
  (hlo:(∃q,lo.map (ev σ)=some (.int q (a:Int)))\/ (lo=none/\a=0)) (hhi:(∃q,hi.map (ev σ)=some (.int q (b:Int)))\/ (hi=none/\b=m)):
  XO P σ w (.slice t x lo hi none) (.slice (some (if m=a then ad else ad.add (a*z))) (b-a) (m-a)):=λ_ _ _ _ _=>by
 have hlo':(∃q,lo.map (ev σ)=some (.int q (a:Int)))\/ (lo.map (ev σ)=none/\a=0):=hlo.imp id λh=>⟨by rw[h.1];rfl,h.2⟩;have hhi':(∃q,hi.map (ev σ)=some (.int q (b:Int)))\/ (hi.map (ev σ)=none/\b=m):=hhi.imp id λh=>⟨by rw[h.1];rfl,h.2⟩;unfold dK at ht;split at ht
 ·rename_i m' et hu;cases ht;simp only[execOp,hx,Instr.sliceAt,uP,uL hu,uK,wK];generalize lo.map (ev σ)=gI at hlo'⊢;generalize hi.map (ev σ)=nN at hhi'⊢;clear hlo hhi;rcases hlo' with⟨q,rfl⟩|⟨rfl,rfl⟩<;>rcases hhi' with⟨q',rfl⟩|⟨rfl,rfl⟩<;>
   simp[Instr.sureAddr,Instr.sliceBounds,Instr.sliceBound,asIntOf,As hsz,h1,h2]
 ·rename_i u' hp;split at ht
  ·rename_i m' et hu;cases ht;simp only[execOp,hx,Instr.sliceAt,uP,uL hp,uK,wK];generalize lo.map (ev σ)=gI at hlo'⊢;generalize hi.map (ev σ)=nN at hhi'⊢;clear hlo hhi;rcases hlo' with⟨q,rfl⟩|⟨rfl,rfl⟩<;>rcases hhi' with⟨q',rfl⟩|⟨rfl,rfl⟩<;>
    simp[Instr.slice,uL hp,uL hu,Instr.sliceBounds,Instr.sliceBound,asIntOf,As hsz,h1,h2,asAddr]
  ·cases ht
 ·cases ht
theorem lS{t et:TypeId}{lo hi:Option Operand}{G:Prop}(hr:Rel Z s σs A L σ w)(hd:Dt n ⟨d, .slice t x lo hi none,ty,pos,after,none⟩=true)(ht:P.underlying t=some (.slice et))(h:bZ P s d et (Bs s.sl x) lo hi k=some r):
  Ju P n ops ⟨d, .slice t x lo hi none,ty,pos,after,none⟩ Z s σs k r G A L σ w:=by
 have hm:=hr.mem;unfold bZ at h;split at h
 ·cases h
 ·rename_i inf He;split at h
  ·rename_i i hx;split at h
   ·rename_i E e l hi';obtain⟨hb,h⟩:=Aj h;simp only[uJ]at hb;split at h
    ·rename_i a b ha hb';obtain⟨_,hok,h⟩:=bind_some h;have hab:0<=a/\a<=b/\b<=Aa l:=vU (Ie hok);obtain⟨u,cs,h1,h2⟩:=hm.arr hi';obtain⟨z',E',c',h3⟩:=Nj (Bg hm.sl hx rfl);rw[h1]at h3;have h3':=h3;cases h3;obtain⟨q,len,cap,g1,g2,g3,g4,g5⟩:=hr.oK h1;have hz:0<e.size:=by have:=uZ hb.2;omega
     have hl:len=l.length:=uQ hz (g2.symm.trans (h2.len λx c h=>Ak.len h));obtain⟨a1,ha1⟩:=uW hab.1;obtain⟨b1,hb1⟩:=uW (show 0<=b by omega);subst ha1 hb1;have hbl:b1<=len:=by rw[hl];have:=hab.2.2;unfold Aa at this;omega
     have hxo:=X.ID (P:=P) (σ:=σ) (w:=w) (x:=x) (lo:=lo) (hi:=hi) (a:=a1) (b:=b1) ht (Cc He hb.1) A7 hbl g3 g1
      (by rcases Ej hm.sl ha with h|⟨h,h'⟩;exact .inl h;exact .inr ⟨h,A7⟩) (by rcases Ej hm.sl hb' with h|⟨h,h'⟩;exact .inl h;exact .inr ⟨h,by unfold Aa at h';omega⟩)
     rw[g1]at h1;refine Bp (p:= .view true i [] e a1 (b1-a1)) hr hd hxo rfl ⟨_,_,h1,rfl,A7,A7,⟨_,_,by rw[show((b1:Int)-a1).toNat=b1-a1 by omega],A7,λhn=>?_,λhc=>?_⟩,
      (λ_=>⟨_,_,q,len,cap,cs,rfl,rfl,A7,λpt m c' hv=>?_,λh0=>?_⟩),(λh=>by cases h)⟩ h
     ·split at hn
      ·omega
      ·have:q=none:=by simpa using hn
       have:=g4 this;omega
     ·obtain⟨bb,e1,e2⟩:=g5 A7;rw[g1]at e2;refine⟨bb,e2,?_⟩;rw[vL A7,e1];simp[Fj,Ah]
     ·cases hv;simp only[wA];omega
     ·have ha0:a1=0:=A7
      subst ha0;rw[show((b1:Int)-(0:Nat)).toNat=b1 by omega];simp only[Nat.sub_zero];congr 1;split
      ·rfl
      ·by_cases hc:0<cap
       ·obtain⟨bb,e1,_⟩:=g5 hc;rw[e1];simp[Fj]
       ·omega
    ·cases h
   ·cases h
  ·rename_i o i p e l0 n' hx;obtain⟨hb,h⟩:=Aj h;simp only[uJ]at hb;split at h
   ·rename_i a b ha hb';obtain⟨_,hok,hk⟩:=bind_some h;have hab:0<=a/\a<=b/\b<=n':=vU (Ie hok);obtain⟨md,v1,h3,h4,k1,k2,⟨pt,cap,k3,k4,k5,k6⟩,k7,k8⟩:=Bg hm.sl hx rfl;have h6:ev σ x=v1:=by simpa using h4
    obtain⟨a1,ha1⟩:=uW hab.1;obtain⟨b1,hb1⟩:=uW (show 0<=b by omega);obtain⟨l1,hl1⟩:=uW k1;obtain⟨n1,hn1⟩:=uW k2;subst ha1 hb1 hl1 hn1;simp only[wA]at k3 k4 k6 k7;have hxo:=X.ID (P:=P) (σ:=σ) (w:=w) (x:=x) (lo:=lo) (hi:=hi) (a:=a1) (b:=b1) ht (Cc He hb.1) A7 A7 k4 (h6.trans k3)
     (by rcases Ej hm.sl ha with h|⟨h,h'⟩;exact .inl h;exact .inr ⟨h,A7⟩) (by rcases Ej hm.sl hb' with h|⟨h,h'⟩;exact .inl h;exact .inr ⟨h,A7⟩)
    have e0:((l1:Int)+a1).toNat=l1+a1:=A7
    refine Bp (p:= .view o i p e (l1+a1) (b1-a1)) hr hd hxo rfl ⟨md,_,h3,rfl,A7,A7,⟨_,_,by rw[show((b1:Int)-a1).toNat=b1-a1 by omega],A7,λhn=>?_,λhc=>?_⟩,(λho=>?_),k8⟩ hk
    ·split at hn
     ·omega
     ·have:pt=none:=by simpa using hn
      have:=k5 this;omega
    ·obtain⟨bb,e1,e2⟩:=k6 A7;refine⟨bb,e1,?_⟩;rw[vL A7,e2,e0];simp[Fj,vA,vH]
    ·obtain⟨s',E',q,len,cap0,c0,e1,e2,e3,e4,e5⟩:=k7 ho;have e6:=e4 _ _ _ k3;refine⟨s',E',q,len,cap0,c0,e1,e2,A7,λpt' m c' hv=>?_,λh0=>?_⟩
     ·cases hv;omega
     ·have h00:l1=0/\a1=0:=A7
      obtain⟨rfl,rfl⟩:=h00;have e7:=e5 rfl;rw[k3]at e7;cases e7;rw[show((b1:Int)-(0:Nat)).toNat=b1 by omega];simp only[Nat.sub_zero];congr 1;split
      ·rfl
      ·by_cases hc:0<cap
       ·obtain⟨bb,_,e8⟩:=k6 hc;rw[e8];simp[Fj]
       ·omega
   ·cases h
  ·cases h
theorem hH{t:TypeId}{lo hi:Option Operand}{G:Prop}(hr0:Rel Z s σs A L σ w)(hd:Dt n ⟨d, .slice t x lo hi none,ty,pos,after,none⟩=true)(h:VC vw s d t x lo hi k P=some r)(hG:G-> (owns (Bs s.sl x)).isEmpty=true):
  Ju P n ops ⟨d, .slice t x lo hi none,ty,pos,after,none⟩ Z s σs k r G A L σ w:=by
 unfold VC at h;split at h
 ·rename_i ht;split at h
  ·rename_i l hx;split at h
   ·rename_i a b ha hb;obtain⟨y,hy,h⟩:=bind_some h;exact Bp (p:= .val .str y) hr0 hd (X.pZ ht (Gw hr0.mem.sl hx) hy (Ej hr0.mem.sl ha) (Ej hr0.mem.sl hb)) rfl rfl h
   ·cases h
  ·cases h
 ·rename_i et ht;cases hvw:(vw&&ZF (Bs s.sl x))with
  |true=>
   rw[hvw]at h;exact lS hr0 hd ht h
  |false=>
  rw[hvw]at h;dsimp only[Bf,cond]at h;split at h
  ·cases h
  ·rename_i s1 hs1;obtain⟨A1,L1,hr,hsame⟩:=Gf hr0 hs1;have hm:=hr.mem;split at h
   ·rename_i e0 l0 hx;split at h
    ·rename_i e l;split at h
     ·rename_i inf He;obtain⟨hb,h⟩:=Aj h;simp only[uJ]at hb;split at h
      ·rename_i a b ha hb';obtain⟨y,hy,h⟩:=bind_some h;obtain⟨h1,h2,h3,h4,rfl⟩:=Pb hy;obtain⟨c0,h5,h6⟩:=Kj (Bg hm.sl hx rfl);have hlen:=h6.len λx c h=>Ak.len h;obtain⟨p',l',c',h7,h8⟩:=X.ZO (P:=P) (l:=a.toNat) (k:=b.toNat) (m:=l.length) ht (Cc He hb.1) (St.jF hr h5) (j:=0) rfl hlen (XD hb.2) h3 h4;have hxo:=h7 σ w x lo hi rfl (by rcases Ej hm.sl ha with h|⟨h,h'⟩;exact .inl (by rw[<-h1];exact h);exact .inr ⟨h,A7⟩)
        (by rcases Ej hm.sl hb' with h|⟨h,h'⟩;exact .inl (by rw[<-h2];exact h);exact .inr ⟨h,by rw[h'];simp[Aa]⟩)
       have hv:Bw (λb=>A1 b/\Z.R b) w L1 (.val (.list e) ((l.take b.toNat).drop a.toNat)) (.slice p' l' c'):=
        BM (h8.fact 0 rfl) (Az.drop (λx c h=>Ak.len h) _ (Az.take (λx c h=>Ak.len h) _ h6))
       refine WL.bS rfl hd (hxo _ _ _ _ _) (WL.nil ⟨_,A1,L1,h,hr.Cl rfl hv,λg=>?_⟩);obtain⟨e1,e2,e3⟩:=hsame (isEmpty_nil (hG g));subst e1 e2 e3;have:(s1.Cl d (.val (.list e) ((l.take b.toNat).drop a.toNat))).it=s1.it:=by cases d<;>rfl
       rw[this];exact .refl
      ·cases h
     ·cases h
    ·cases h
   ·rename_i hx;split at h
    ·rename_i inf a b He ha hb';obtain⟨_,hok,hk⟩:=bind_some h;have hab:0<=a/\a<=b/\b<=0:=vU (Ie hok);have ha0:a=0:=A7
     have hb0:b=0:=A7
     subst ha0 hb0;have hv:=Mb (Bg hm.sl hx rfl);have hxo:=X.ID (P:=P) (σ:=σ) (w:=w) (x:=x) (lo:=lo) (hi:=hi) (a:=0) (b:=0) (z:=inf.size) ht ⟨inf,He,rfl⟩ (vD _) (vD _) (vD _) hv
      (by rcases Ej hm.sl ha with h|⟨h,h'⟩;exact .inl h;exact .inr ⟨h,rfl⟩) (by rcases Ej hm.sl hb' with h|⟨h,h'⟩;exact .inl h;exact .inr ⟨h,rfl⟩)
     refine WL.bS rfl hd (hxo _ _ _ _ _) (WL.nil ⟨_,A1,L1,hk,hr.Cl rfl rfl,λg=>?_⟩);obtain⟨e1,e2,e3⟩:=hsame (isEmpty_nil (hG g));subst e1 e2 e3;have:(s1.Cl d .nils).it=s1.it:=by cases d<;>rfl
     rw[this];exact .refl
    ·cases h
   ·cases h
 ·split at h
  ·rename_i u m et hat;split at h
   ·cases h
   ·rename_i inf He;split at h
    ·rename_i i p hx;split at h
     ·rename_i T v hit;split at h
      ·rename_i e0 l0 hg;split at h
       ·rename_i m' e l;obtain⟨hb,h⟩:=Aj h;simp only[uJ]at hb;split at h
        ·rename_i a b ha hb';obtain⟨_,hok,hk⟩:=bind_some h;have hab:0<=a/\a<=b/\b<=m:=vU (Ie hok);have hm:=hr0.mem;obtain⟨md,bb,h1,h2,h3⟩:=Je (Bg hm.sl hx rfl);obtain⟨a1,ha1⟩:=uW hab.1;obtain⟨b1,hb1⟩:=uW (show 0<=b by omega);subst ha1 hb1;have hxo:=X.UF (P:=P) (σ:=σ) (w:=w) (x:=x) (lo:=lo) (hi:=hi) (a:=a1) (b:=b1) hat (Cc He hb.1.2) A7 A7 h3
          (by rcases Ej hm.sl ha with h|⟨h,h'⟩;exact .inl h;exact .inr ⟨h,A7⟩) (by rcases Ej hm.sl hb' with h|⟨h,h'⟩;exact .inl h;exact .inr ⟨h,A7⟩)
         refine Bp (p:= .view false i p e a1 (b1-a1)) hr0 hd hxo rfl ⟨md,_,h1,rfl,A7,A7,⟨_,_,(by rw[show((b1:Int)-a1).toNat=b1-a1 by omega]),A7,(λh=>by cases h),λhc=>⟨bb,h2,?_⟩⟩,(λh=>by cases h),λ_=>⟨bb,h2⟩⟩ hk;rw[vL A7,Fj];rfl
        ·cases h
       ·cases h
      ·cases h
     ·cases h
    ·cases h
  ·cases h
theorem fZ{t:TypeId}{hi mx:Operand}{lo:Option Operand}{G:Prop}(hr0:Rel Z s σs A L σ w)(hd:Dt n ⟨d, .slice t x lo (some hi) (some mx),ty,pos,after,none⟩=true)(h:PC vw s d t x lo hi mx k P=some r)(hG:G-> (owns (Bs s.sl x)).isEmpty=true):
  Ju P n ops ⟨d, .slice t x lo (some hi) (some mx),ty,pos,after,none⟩ Z s σs k r G A L σ w:=by
 unfold PC at h;split at h
 ·rename_i et ht;split at h
  ·cases h
  ·rename_i s1 hs1;obtain⟨A1,L1,hr,hsame⟩:=Gf hr0 hs1;have hm:=hr.mem;split at h
   ·rename_i e0 l0 hx;split at h
    ·rename_i e l;split at h
     ·rename_i inf He;obtain⟨hb,h⟩:=Aj h;simp only[uJ]at hb;split at h
      ·rename_i a b c ha hb' hc';obtain⟨_,hok,h⟩:=bind_some h;have hbc:b<=c/\c<=Aa l:=vU (Ie hok);obtain⟨y,hy,h⟩:=bind_some h;obtain⟨h1,h2,h3,h4,rfl⟩:=Pb hy;obtain⟨c0,h5,h6⟩:=Kj (Bg hm.sl hx rfl);have hlen:=h6.len λx c h=>Ak.len h;obtain⟨q1,hq1⟩:=Mw hb' (Fw hm.sl hi (Rz hb'));obtain⟨q2,hq2⟩:=Mw hc' (Fw hm.sl mx (Rz hc'));unfold Aa at hbc;obtain⟨p',l',c',h7,h8,tM⟩:=X.fC (P:=P) (l:=a.toNat) (k:=b.toNat) (c:=c.toNat) (m:=l.length) ht (Cc He hb.1) (St.jF hr h5) (j:=0) rfl hlen (XD hb.2) h3 A7 A7;have hxo:=h7 σ w x lo hi mx rfl (by rcases Ej hm.sl ha with h|⟨h,h'⟩;exact .inl (by rw[<-h1];exact h);exact .inr ⟨h,A7⟩)
        ⟨q1,by rw[hq1,<-h2]⟩ ⟨q2,by rw[hq2,show((c.toNat:Nat):Int)=c by omega]⟩
       have hall:Az (Ak (λb=>A1 b/\Z.R b) w e) ((l.take b.toNat).drop a.toNat) ((c0.take (b.toNat*e.size)).drop (a.toNat*e.size)):=Az.drop (λx c h=>Ak.len h) _ (Az.take (λx c h=>Ak.len h) _ h6);have hv:Bw (λb=>A1 b/\Z.R b) w L1 (Bf vw (.cap e ((l.take b.toNat).drop a.toNat) (c-a))<| .val (.list e) ((l.take b.toNat).drop a.toNat)) (.slice p' l' c'):=by
        cases vw with
        |true=>exact⟨_,_,rfl,h8.fact 0 rfl,hall,A7,p',l',by rw[tM];congr 1;omega⟩
        |false=>exact BM (h8.fact 0 rfl) hall
       have hV:(Bf vw (PV.cap e ((l.take b.toNat).drop a.toNat) (c-a))<| .val (.list e) ((l.take b.toNat).drop a.toNat)).isV=true:=by cases vw<;>rfl
       refine WL.bS rfl hd (hxo _ _ _ _ _) (WL.nil ⟨_,A1,L1,h,hr.Cl hV hv,λg=>?_⟩);obtain⟨e1,e2,e3⟩:=hsame (isEmpty_nil (hG g));subst e1 e2 e3;have:∀q,(s1.Cl d q).it=s1.it:=λq=>by cases d<;>rfl
       rw[this];exact .refl
      ·cases h
     ·cases h
    ·cases h
   ·cases h
 ·cases h
theorem qR{x:e.T}(h:e.of p=some x):p.WY=true:=by
 unfold ET.of ZP at h;split at h
 ·rfl
 ·rfl
 ·rfl
 ·cases h
theorem UE{e:ET}(hr:Rel Z s σs A L σ w):∀{xs:List Operand} {l:List e.T},TJ e (xs.map (Bs s.sl))=some l->
  Az (Ak (λb=>A b/\Z.R b) w e) l ((xs.map (ev σ)).map λv:Value=>v.cells.toList).flatten/\l.length=xs.length/\∀v∈xs.map (ev σ),v.cells.size=e.size
 |[],l,h=>by simp only[xO,TJ,uN]at h;subst h;exact⟨rfl,rfl,A9⟩
 |x::xs,l,h=>by
  simp only[vN,TJ]at h;split at h
  ·rename_i y ys hy hys;cases h;obtain⟨h1,h2,h3⟩:=UE hr hys;obtain⟨cs,h4,h5⟩:=Qb hr (Ph hr.mem.sl (x:=x) (qR hy));have h6:=Qp hy h5;refine⟨⟨cs,_,by simp[h4],h6,h1⟩,by simp[h2],λv hv=>?_⟩;simp only[vN,yJ]at hv;rcases hv with rfl|hv
   ·rw[h4];simpa using h6.len
   ·exact h3 v hv
  ·cases h
theorem ZW:∀{ps:List (Nat×Operand)} {m:Nat},dI m ps=true-> (ps.map λp=>(p.1,ev σ p.2))=(((ps.map Prod.snd).map (ev σ)).zipIdx m).map λp=>(p.2,p.1)
 |[],_,_=>rfl
 |(i,x)::ps,m,h=>by
  simp only[dI,uJ]at h;simp only[vN,yK,ZW h.2,Bc h.1]
theorem SK{t:TypeId}{len:Nat}{ps:Array (Nat×Operand)}{dn:Nat}{G:Prop}(hr0:Rel Z s σs A L σ w)(hd:Dt n ⟨some dn, .buildSlice t len ps,ty,pos,after,none⟩=true)
  (h:Wb P s (some dn) t len ps.toList k=some r) (hG:G-> (owns.go (ps.toList.map λp=>Bs s.sl p.2)).isEmpty=true):Ju P n ops ⟨some dn, .buildSlice t len ps,ty,pos,after,none⟩ Z s σs k r G A L σ w:=by
 unfold Wb at h;split at h
 ·cases h
 ·rename_i E hE;split at h
  ·cases h
  ·rename_i e he;obtain⟨hb,h⟩:=Aj h;simp only[uJ]at hb;obtain⟨⟨⟨hb1,hb2⟩,hb3⟩,hb4⟩:=hb;split at h
   ·cases h
   ·rename_i s1 hs1;obtain⟨A1,L1,hr,hsame⟩:=Gf hr0 hs1;split at h
    ·rename_i l hl;have hl':TJ e ((ps.toList.map Prod.snd).map (Bs s1.sl))=some l:=by rw[List.map_map];exact hl
     obtain⟨h1,h2,h3⟩:=UE hr hl';have hps:ps=ps.toList.toArray:=by simp
     rw[show(⟨some dn, .buildSlice t len ps,ty,pos,after,none⟩:Oper)=⟨some dn, .buildSlice t len ps.toList.toArray,ty,pos,after,none⟩ by rw[<-hps]];have hlen:((ps.toList.map Prod.snd).map (ev σ)).length=len:=by simpa using Bc hb3
     have hF:=St.GY (f:=NU Z.R L1 (.arr E e l) (((ps.toList.map Prod.snd).map (ev σ)).map λv:Value=>v.cells.toList).flatten) hr.same h1;refine WL.buildSlice (vs:=(ps.toList.map Prod.snd).map (ev σ)) (Uf hE) (JE hb1) hF (Rc (o:= .buildSlice t len ps) hd) (ZW hb2) hlen hb4 h3 rfl (λp q c w' hs'=>WL.nil ?_);have h4:Az (Ak (λb=>A1 b/\Z.R b) w' e) l (((ps.toList.map Prod.snd).map (ev σ)).map λv:Value=>v.cells.toList).flatten:=hs'.fact 0 rfl;refine SO.of (λg=>hsame (isEmpty_nil (hG g))) (Uo (a:= .arr E e l) (md:= .own e.size E (.slice p q c) _) hr hs'.KQ ⟨rfl,rfl,h4⟩ rfl (λB=>?_) h);rw[S.new,hr.len];exact FK
    ·cases h
theorem fY{E:TypeId}{i len cap m:Nat}{q:Option Addr}{cs:List Value}{l:List e.T}(hr:Rel Z s σs A L σ w)(hi:L[i]? =some (.own e.size E (.slice q len cap) cs))(hm:m<=len)(hl:Az (Ak (λb=>A b/\Z.R b) w e) l (cs.take (m*e.size))):
  Rel Z (((s.Hi i .dead).sub i .any).add (.arr E e l)) σs A (L.set i .dead++[.own e.size E (.slice q m cap) (cs.take (m*e.size))]) σ w:=by
 have hf:Frz (λb=>A b/\Z.R b) w L i .any:=⟨λz E' u c h=>⟨u,rfl,by rw[hi]at h;cases h;rfl⟩,rfl,rfl⟩;have hm2:=hr.mem.subst hf;have BU:(L.map MD.Cx)[i]? =some (Mob.own e.size E (.slice q len cap) cs):=hr.Cx hi;obtain⟨o,h1,h2,h3⟩:=(St.mobs hr).perm (EJ BU).symm;have h4:(Mob.own e.size E (.slice q m cap) (cs.take (m*e.size))).holds o w:=by
  obtain⟨q',len',cap',g1,g2,g3,g4,g5,g6⟩:=h1;cases g1;have e5:m*e.size<=len*e.size:=uM _ hm;refine⟨q,m,cap,rfl,by rw[vG];omega,A7,g4,g5,λb hb=>?_⟩;obtain⟨arr,fr,k1,k2,k3,k4,k5⟩:=g6 b hb;exact⟨arr,fr,k1,k2,k3,k4,λj hj=>by rw[k5 j A7,uY,vP hj]⟩
 have h5:Bi w A (Mob.own e.size E (.slice q m cap) (cs.take (m*e.size))::(L.map MD.Cx).eraseIdx i):=⟨o,h4,h2,h3⟩;have h6:Bi w A (MD.dead.Cx::Mob.own e.size E (.slice q m cap) (cs.take (m*e.size))::(L.map MD.Cx).eraseIdx i):=⟨none,⟨none,0,0,rfl,A9,vD _,λ_=>rfl,λ_=>rfl,λb h=>by cases h⟩,λb hb=>(by cases hb),h5.Jg λb hb=>hb.elim id λh=>by cases h⟩;have h7:Bi w A ((MD.own e.size E (.slice q m cap) (cs.take (m*e.size))).Cx::(L.set i .dead).map MD.Cx):=by
  rw[xD];exact h6.perm ((List.Perm.swap _ _ _).trans ((Qm (m':=MD.dead.Cx) BU).cons _))
 have h8:St A w [IB Z.R (L.set i .dead) ((s.Hi i .dead).sub i .any) σs σ, .old Z.M Z.w0] ((MD.own e.size E (.slice q m cap) (cs.take (m*e.size))).Cx::(L.set i .dead).map MD.Cx):=by
  refine⟨St.lt hr,λf hf=>?_,h7⟩;cases hf with
  |head=>exact hm2
  |tail _ hf=>exact hr.facts f (.tail _ hf)
 exact Rel.push (a:= .arr E e l) h8 ⟨rfl,rfl,hl⟩
theorem ZR{E:TypeId}{s1:S}{i:Nat}(hr:Rel Z s σs A L σ w)(hz:0<e.size)(hx:(Bs s.sl x).WY=true)(h:dE s E e (Bs s.sl x)=some (s1,i)):
  ∃L1,Rel Z s1 σs A L1 σ w/\∃c0,L1[i]? =some (.own e.size E (ev σ x) c0):=by
 have hv:=Fw hr.mem.sl x (PV.TV hx);unfold dE at h;split at h
 ·rename_i hp;cases h;rw[hp]at hv;have hev:=Mb hv;have hr':=Rel.push (a:= .arr E e []) (md:= .own e.size E (.slice none 0 0) []) (St.QR hr e.size E) ⟨rfl,rfl,rfl⟩;refine⟨_,hr',[],?_⟩;rw[S.new,hr.len,hev];simp
 ·rename_i j hp;rw[hp]at hv;split at h
  ·rename_i E' e' l hj;obtain⟨hb,h⟩:=Aj h;split at h
   ·rename_i he;cases h;subst he;have:=Bc hb;subst this;obtain⟨v,cs,h1,h2⟩:=hr.mem.arr hj;obtain⟨z,E',c,h3⟩:=Nj hv;rw[h1]at h3;cases h3;exact⟨L,hr,cs,h1⟩
   ·cases h
  ·cases h
 ·rename_i j p e1 lo n' hp;rw[hp]at hv;split at h
  ·rename_i E' e' l hj;obtain⟨hb,h⟩:=Aj h;simp only[uJ,wN]at hb;obtain⟨⟨hE,h0⟩,he1⟩:=hb;split at h
   ·rename_i he;cases h;subst he he1;have:=Bc hE;subst this;subst h0;obtain⟨u,cs,h1,h2⟩:=hr.mem.arr hj;obtain⟨md,v1,h3,h4,k1,k2,_,k7,_⟩:=hv;rw[h1]at h3;cases h3;have h6:ev σ x=v1:=by simpa using h4
    obtain⟨s',E2,q,len,cap,c0,e1,e2,e3,_,e5⟩:=k7 rfl;cases e1;have e7:=e5 rfl;have hl:Az (Ak (λb=>A b/\Z.R b) w e1) (Zq l 0 n') (cs.take (n'.toNat*e1.size)):=by
     have:=Az.take (λx c h=>Ak.len h) n'.toNat h2;simpa [Zq]using this
    have hr':=fY hr h1 (m:=n'.toNat) (by simpa using e3) hl;refine⟨_,hr',cs.take (n'.toNat*e1.size),?_⟩;rw[h6,e7,S.new,hr.len];have:L.length=(L.set j .dead).length:=by simp
    rw[this,uU (vD _)];simp
   ·cases h
  ·cases h
 ·cases h
theorem kT{a:Item}{l:List e.T}(h:oC e a=some l):∃E,a= .arr E e l:=by
 unfold oC at h;split at h
 ·rename_i E e' l';split at h
  ·rename_i he;subst he;cases h;exact⟨E,rfl⟩
  ·cases h
 ·cases h
theorem ZZ{E:TypeId}{i dn:Nat}{l m:List e.T}{cs ys:List Value}{v':Value}{w':World}{s0:S}{A0:Reg}{L0:List MD}{w0:World}(hr:Rel Z s σs A L σ w)(hi:L[i]? =some (.own e.size E v cs))(hl:Az (Ak (λb=>A b/\Z.R b) w e) (l++m) (cs++ys))
  (hs:St A w' [NU Z.R L (.arr E e (l++m)) (cs++ys),IB Z.R L s σs σ, .old Z.M Z.w0] ((L.map MD.Cx).set i (.own e.size E v' (cs++ys))))
  (hk:k ((((s.Hi i .dead).sub i .any).add (.arr E e (l++m))).Cl (some dn) (.own s.new))=some r):SO Z σs k r False A0 L0 s0.it w0 (Hi σ dn v') w':=by
 have h1:Az (Ak (λb=>A b/\Z.R b) w' e) (l++m) (cs++ys):=hs.fact 0 rfl;have hone:v.oneCell'=true:=by obtain⟨p,len,cap,rfl,_⟩:=hr.Hl hi;rfl
 have hs1:=hs.KQ;have hm:MemR (λb=>A b/\Z.R b) w' L s σs σ:=hs1.fact 0 rfl;have hf:Frz (λb=>A b/\Z.R b) w' L i .any:=⟨λz E' u c h=>⟨u,rfl,by rw[hi]at h;cases h;exact hone⟩,rfl,rfl⟩;have hm2:=hm.subst hf;have BU:(L.map MD.Cx)[i]? =some (Mob.own e.size E v cs):=hr.Cx hi;have hs2:=Bi.Wj hs1 (Qm (m':=Mob.own e.size E v' (cs++ys)) BU).symm;have hs3:=Bi.Wj (hs2.QR 1 0) (List.Perm.swap _ _ _);have hs4:=Bi.Wj hs3 ((Qm (m':=MD.dead.Cx) BU).cons _);have hs5:St A w' [IB Z.R (L.set i .dead) ((s.Hi i .dead).sub i .any) σs σ, .old Z.M Z.w0] ((MD.own e.size E v' (cs++ys)).Cx::(L.set i .dead).map MD.Cx):=by
  rw[xD];exact(hs4.sN.GY (f:= .old Z.M Z.w0) (hs4.fact 1 rfl)).GY (f:=IB Z.R (L.set i .dead) ((s.Hi i .dead).sub i .any) σs σ) hm2
 have hr2:=Rel.push (a:= .arr E e (l++m)) hs5 ⟨rfl,rfl,h1⟩;have hnew:s.new=(L.set i .dead).length:=by rw[xW,<-hr.len];rfl
 refine⟨_,A,_,hk,hr2.Cl (d:=some dn) rfl ?_,λg=>g.elim⟩;rw[hnew];exact FK
theorem iX(z:Array Value)(hz:0<z.size)(m:Nat):((List.replicate m z.toList).flatten).toArray=Builtin.zeroCells z m:=by
 apply Array.ext
 ·simp[Builtin.zeroCells]
 ·intro j h1 h2;simp only[Builtin.zeroCells,Array.getElem_map,Array.getElem_range];have h3:j<m*z.size:=by simpa [Builtin.zeroCells]using h2
  have h4:=PL z.toList z.size A9 hz m j h3;have h5:j %z.size<z.size:=Nat.mod_lt _ hz;simp only[List.getElem_toArray];rw[uX (by simpa using h1)]at h4;simp[h5]at h4;simp[h4,h5]
theorem lH{E t t2:TypeId}{kk:List e.T->Option R}(hr:Rel Z s σs A L σ w)(ht:P.underlying t=some (.slice E))(hel:ElemOk P E e.size)(h:oB P s E e t2 y kk=some r):
  ∃m ys,kk m=some r/\Az (Ak (λb=>A b/\Z.R b) w e) m ys/\∀(A1:Reg) (F:List Fact) (LL:List Mob) (i ll:Nat) (vx:Value) (cs:List Value),St A1 w F LL->LL[i]? =some (.own e.size E vx cs)->cs.length=ll*e.size->ll+m.length<=XP->
   ∃v' w',(Builtin.append_ #[t,t2] ty #[vx,ev σ y]).run P w= .ok v' w'/\St A1 w' F (LL.set i (.own e.size E v' (cs++ys))):=by
 unfold oB at h;split at h
 ·rename_i ht2;split at h
  ·rename_i m0 hy;split at h
   ·rename_i m hm;unfold Uv at hm;split at hm
    ·rename_i he;cases he;cases hm;refine⟨m0,Nx m0,h,VA.Px,λA1 F LL i ll vx cs hs hL hlen hlim=>?_⟩;rw[Gw hr.mem.sl hy];exact EI (x:=y) (y:=y) ht hel hs hL (Src.string ht2) (lE m0) hlen (by simp[Nx,ET.size]) hlim
    ·cases hm
   ·cases h
  ·cases h
 ·rename_i tN ht2;split at h
  ·rename_i m hm;have hV:(Bs s.sl y).isV=true:=by
    cases hq:(Bs s.sl y).isV with
    |true=>rfl
    |false=>rcases Ig hq with h|h|⟨_,_,_,h⟩<;>rw[h]at hm<;>cases hm
   obtain⟨c0,h1,h2⟩:=Zc hr.mem hm (Fw hr.mem.sl y hV);have hrd:Rd (λ_=>True) w e.size (ev σ y) c0:=by
    rcases h2 with h2|⟨j,E',u,cs',_,h2,hpart⟩
    ·exact h2.step (λ_ _=>trivial) (λ_ _=>rfl)
    ·exact hpart _ _ (hr.Hl h2)
   have TG:=h1.len λx c h=>Ak.len h;exact⟨m,c0,h,h1,λA1 F LL i ll vx cs hs hL hlen hlim=>EI (x:=y) (y:=y) ht hel hs hL (Src.slice ⟨_,ht2⟩ hrd TG hel.pos) h1.WG hlen TG hlim⟩
  ·cases h
 ·rename_i uG ht2;split at h
  ·rename_i q z hq hz;split at h
   ·rename_i x0 hx0;obtain⟨m,hm,h⟩:=bind_some h;obtain⟨h1,h2,rfl⟩:=YS hm;obtain⟨zv,⟨i0,hi0,hz0⟩,hz2⟩:=Qt hz;have hx1:=Qp hx0 (hz2 (λb=>A b/\Z.R b) w L);have hall:=VF hx1 q.toNat;refine⟨_,_,h,hall,λA1 F LL i ll vx cs hs hL hlen hlim=>?_⟩;rw[NR hq (Fw hr.mem.sl y (VO hq)),h1];have hzs:zv.cells.size=e.size:=by have:=hx1.len;simpa using this
    rw[List.length_replicate]at hlim;exact XA (x:=y) (y:=y) (ly:=q.toNat) ht hel hs hL ⟨_,ht2⟩ (λi z' hi hz'=>by rw[hi0]at hi;cases hi;rw[hz0]at hz';cases hz';exact iX zv.cells (by rw[hzs];exact hel.pos) _)
     hall.WG hlen ((hall.len λx c h=>Ak.len h).trans A9) hlim
   ·cases h
  ·cases h
 ·cases h
theorem lD{t2:TypeId}{m:List e.T}(hr:Rel Z s σs A L σ w)(hz:0<e.size)(h:oS P s e t2 y=some m):∃ys,Az (Ak (λb=>A b/\Z.R b) w e) m ys/\Src P w t2 (ev σ y) e.size m.length ys:=by
 unfold oS at h;split at h
 ·rename_i ht2;split at h
  ·rename_i m0 hy;unfold Uv at h;split at h
   ·rename_i he;cases he;cases h;refine⟨Nx m0,VA.Px,?_⟩;rw[Gw hr.mem.sl hy];exact Src.string ht2
   ·cases h
  ·cases h
 ·rename_i tN ht2;have hV:(Bs s.sl y).isV=true:=by
   cases hq:(Bs s.sl y).isV with
   |true=>rfl
   |false=>rcases Ig hq with h'|h'|⟨_,_,_,h'⟩<;>rw[h']at h<;>cases h
  obtain⟨c0,h1,h2⟩:=Zc hr.mem h (Fw hr.mem.sl y hV);have hrd:Rd (λ_=>True) w e.size (ev σ y) c0:=by
   rcases h2 with h2|⟨j,E',u,cs',_,h2,hpart⟩
   ·exact h2.step (λ_ _=>trivial) (λ_ _=>rfl)
   ·exact hpart _ _ (hr.Hl h2)
  exact⟨c0,h1,Src.slice ⟨_,ht2⟩ hrd (h1.len λx c h=>Ak.len h) hz⟩
 ·cases h
theorem mG{l:List e.T}{c:Int}(h:oP e p=some (l,c)):p= .cap e l c:=by
 unfold oP at h;split at h
 ·split at h
  ·rename_i he;subst he;cases h;rfl
  ·cases h
 ·cases h
theorem gF{t t2:TypeId}{dn:Nat}(hr0:Rel Z s σs A L σ w)(hd:Dt n ⟨some dn, .call ⟨.builtin .append, #[x,y], #[t,t2]⟩,ty,pos,after,none⟩=true)
  (h:OB P s (some dn) x y t t2 k=some r):Ju P n ops ⟨some dn, .call ⟨.builtin .append, #[x,y], #[t,t2]⟩,ty,pos,after,none⟩ Z s σs k r False A L σ w:=by
 unfold OB at h;split at h
 ·cases h
 ·rename_i E hE;split at h
  ·cases h
  ·rename_i e he;obtain⟨hb,h⟩:=Aj h;simp only[uJ]at hb;have hel:=JE hb.1;split at h
   ·rename_i l c hcap;split at h
    ·rename_i m hm;obtain⟨r',ha,hk⟩:=bind_some h;obtain⟨h3,rfl⟩:=IL ha;obtain⟨_,hok,hk⟩:=bind_some hk;have hlt:c<Aa (l++m):=vU (Ie hok);obtain⟨ys,hy1,hy2⟩:=lD hr0 hel.pos hm;obtain⟨v0,c0,g1,g2,g3,g4,p,len,g5⟩:=Bg hr0.mem.sl (mG hcap) rfl;cases g1;have hlen:=g3.len λx c h=>Ak.len h;have TG:=hy1.len λx c h=>Ak.len h;unfold Aa at hlt;rw[uR]at hlt;obtain⟨v',w',h4,h5⟩:=YV (ty:=ty) (Uf hE) hel hr0.same (g2.step (A':=λ_=>True) (λ_ _=>trivial) (λ_ _=>rfl)) g5 A7 hy2 hlen TG h3;refine WL.val (v:=v') (w':=w') rfl rfl (Rc hd) ?_ (WL.nil (Uo (a:= .arr E e (l++m)) (md:= .own e.size E v' (c0++ys)) hr0 h5 ⟨rfl,rfl,?_⟩ rfl (λB=>?_) hk))
     ·simp[execOp,resolve,invoke,builtin,h4]
     ·obtain⟨k1,k2⟩:(∀b,A b->A b)/\Same A w w':=h5.fact 0 rfl;exact(g3.append hy1).mono λx c h=>Ak.step (λ_ h=>h) (λb hb=>k2 b hb.1) h
     ·rw[S.new,hr0.len];exact FK
    ·cases h
   split at h
   ·cases h
   ·rename_i s1 i hown;obtain⟨L1,hr,cs,hi⟩:=ZR hr0 hel.pos hb.2 hown;split at h
    ·cases h
    ·rename_i l hl;obtain⟨E',hit⟩:=kT hl;obtain⟨v1,cs1,h1,h2⟩:=hr.mem.arr hit;rw[hi]at h1;cases h1;have hlen:=h2.len λx c h=>Ak.len h;obtain⟨m,ys,hk,hm,hrun⟩:=lH (ty:=ty) hr0 (Uf hE) hel h;obtain⟨r',ha,hk⟩:=bind_some hk;obtain⟨h3,rfl⟩:=IL ha;have hF:=St.GY (f:=NU Z.R L1 (.arr E e (l++m)) (cs++ys)) hr (h2.append hm);obtain⟨v',w',h4,h5⟩:=hrun A _ _ i l.length (ev σ x) cs hF (hr.Cx hi) hlen h3;refine WL.val (v:=v') (w':=w') rfl rfl (Rc hd) ?_ (WL.nil (ZZ hr hi (h2.append hm) h5 hk));simp[execOp,resolve,invoke,builtin,h4]
end Go.Rx
namespace Go.Rx
open Go Go.Lv
variable {P:Program} {B:Reg} {w w':World} {L L':List MD} {s:S} {σs:List Env} {σ:Env} {Z:Fix} {A A':Reg} {n:Nat} {ops:Array Oper} {rest:List Oper} {K:Env->World->Prop}
variable {R:Type} {k:S->Option R} {r:R} {d:Option Nat} {ty:TypeId} {pos:String} {after:Array Edge}
theorem UC{place:Nat->Option (Nat×Nat)}{acc ns:List Value}{i off z:Nat}{v:Value}{rest:List (Nat×Value)}(hp:place i=some (off,z))(hv:v.cells=ns.toArray)(hz:ns.length=z)(hl:off+z<=acc.length):
  Instr.fill place acc.toArray ((i,v)::rest)=Instr.fill place (Ap acc off ns).toArray rest:=by
 have hf:=Zd off ns 0 acc A7;have jW:v.cells.zipIdx.foldl (λcs (x:Value×Nat)=>cs.setIfInBounds (off+x.2) x.1) acc.toArray=(Ap acc off ns).toArray:=by
  rw[hv,<-Array.foldl_toList,Array.toList_zipIdx];simpa using hf
 simp only[Instr.fill,hp];have hc:(decide (v.cells.size≠z)||decide (off+v.cells.size>acc.toArray.size))=false:=by rw[hv];simp;omega
 rw[vL (by rw[hc];simp)]
 show Instr.fill _ (v.cells.zipIdx.foldl (λcs (x:Value×Nat)=>cs.setIfInBounds (off+x.2) x.1) acc.toArray) _=_;rw[jW]
def places:List PV->Nat->List (Nat×Nat)
 |[],_=>[]
 |v::vs,off=>(off,v.size)::places vs (off+v.size)
theorem OO:∀{l:List PV} {i off:Nat} {u:PV},l[i]? =some u-> (places l off)[i]? =some (off+NW l i,u.size)
 |[],_,_,_,h=>by simp at h
 |a::l,0,off,u,h=>by simp at h;subst h;rfl
 |a::l,i+1,off,u,h=>by
  have:=OO (l:=l) (i:=i) (off:=off+a.size) (by simpa using h);simpa [places,NW,vH]using this
theorem NZ:∀{l:List PV} {i off:Nat} {u v:PV},l[i]? =some u->u.size=v.size->places (l.set i v) off=places l off
 |[],_,_,_,_,h,_=>by simp at h
 |a::l,0,off,u,v,h,hs=>by simp at h;subst h;simp[places,hs]
 |a::l,i+1,off,u,v,h,hs=>by simp[places,NZ (l:=l) (i:=i) (by simpa using h) hs]
theorem LN:∀{fs:List Field} {vs:List PV} {off:Nat},Ty P fs vs off=true-> (fs.map λf=>(f.offset,(P.info? f.type).map (·.size)))=(places vs off).map λp=>(p.1,some p.2)
 |[],[],_,_=>rfl
 |[],_::_,_,h=>by simp[Ty]at h
 |_::_,[],_,h=>by simp[Ty]at h
 |f::fs,v::vs,off,h=>by
  simp only[Ty,uJ]at h;obtain⟨⟨h1,h2⟩,h3⟩:=h;split at h2
  ·rename_i i hi;simp[places,LN h3,hi,Bc h1,Bc h2]
  ·cases h2
theorem KW(hr:Rel Z s σs A L σ w){pl:List (Nat×Nat)}:∀{parts:List (Nat×Operand)} {zs l:List PV} {acc:List Value},AP (parts.map λp=>(p.1,Bs s.sl p.2)) zs=some l->
  places zs 0=pl->Am.go (λb=>A b/\Z.R b) w L zs acc->∃cells,Instr.fill (pl[·]?) acc.toArray (parts.map λp=>(p.1,ev σ p.2))=some cells.toArray/\Am.go (λb=>A b/\Z.R b) w L l cells
 |[],zs,l,acc,h,_,ha=>by simp only[xO,AP,uN]at h;subst h;exact⟨acc,rfl,ha⟩
 |(i,x)::ps,zs,l,acc,h,hpl,ha=>by
  subst hpl;simp only[vN,AP]at h;split at h
  ·rename_i u hu;obtain⟨hb,h⟩:=Aj h;simp only[uJ]at hb;have hsz:=Bc hb.1;obtain⟨ns,h1,h2⟩:=Qb hr (Ph hr.mem.sl (x:=x) hb.2);obtain⟨c1,c2,c3,e,h3,h4,h5⟩:=Am.field ha hu;have hlen:=h2.len;have DE:=h4.len;obtain⟨cells,h6,h7⟩:=KW hr (zs:=zs.set i (Bs s.sl x)) (acc:=c1++(ns++c3)) h (by rw[NZ hu hsz]) (h5 _ _ h2);refine⟨cells,?_,h7⟩;rw[vN,UC (off:=c1.length) (z:=u.size) (ns:=ns) (by rw[OO hu,wO,h3]) h1 A7 (by rw[e];simp;omega),e,Vm A7];exact h6
  ·cases h
theorem YC(hr:Rel Z s σs A L σ w){e:ET}:∀{parts:List (Nat×Operand)} {l l':List e.T} {acc:List Value},QC e (parts.map λp=>(p.1,Bs s.sl p.2)) l=some l'->
  Az (Ak (λb=>A b/\Z.R b) w e) l acc->∃cells,Instr.fill (λi=>some (i*e.size,e.size)) acc.toArray (parts.map λp=>(p.1,ev σ p.2))=some cells.toArray/\Az (Ak (λb=>A b/\Z.R b) w e) l' cells/\l'.length=l.length
 |[],l,l',acc,h,ha=>by simp only[xO,QC,uN]at h;subst h;exact⟨acc,rfl,ha,rfl⟩
 |(i,x)::ps,l,l',acc,h,ha=>by
  simp only[vN,QC]at h;split at h
  ·rename_i u y hu hy;obtain⟨ns,h1,h2⟩:=Qb hr (Ph hr.mem.sl (x:=x) (qR hy));have h3:=Qp hy h2;obtain⟨c1,c2,c3,e',h4,h5,h6⟩:=Az.get (λx c h=>Ak.len h) ha hu;have hlen:=h3.len;have DE:=h5.len;obtain⟨cells,h7,h8,h9⟩:=YC hr (l:=l.set i y) (acc:=c1++(ns++c3)) h (h6 _ _ h3);refine⟨cells,?_,h8,by rw[h9,xW]⟩;rw[vN,UC (off:=c1.length) (z:=e.size) (ns:=ns) (by rw[h4]) h1 hlen (by rw[e'];simp;omega),e',Vm A7];exact h7
  ·cases h
theorem fR{t et:TypeId}{m z:Nat}{parts:List (Nat×Operand)}{zv:Value}{cells:List Value}(ht:P.underlying t=some (.array m et))(hz:∃i,P.info? t=some i/\i.zero=some zv)(hsz:Dh P et z)
  (hf:Instr.fill (λi=>some (i*z,z)) zv.cells (parts.map λp=>(p.1,ev σ p.2))=some cells.toArray) (w:World):XO P σ w (.build t parts.toArray) (.agg cells.toArray):=λ_ _ _ _ _=>by
 obtain⟨i,hi,hz⟩:=hz;simp only[execOp,Instr.build,uP,zeroValue,typeInfo];simp[hi,hz,uL ht,As hsz,hf]
theorem gN{t:TypeId}{ps:Array (Nat×Operand)}{G:Prop}(hr:Rel Z s σs A L σ w)(hd:Dt n ⟨d, .build t ps,ty,pos,after,none⟩=true)(h:UR P s d t ps.toList k=some r):
  Ju P n ops ⟨d, .build t ps,ty,pos,after,none⟩ Z s σs k r G A L σ w:=by
 have hps:ps=ps.toList.toArray:=by simp
 rw[show(⟨d, .build t ps,ty,pos,after,none⟩:Oper)=⟨d, .build t ps.toList.toArray,ty,pos,after,none⟩ by rw[<-hps]];unfold UR at h;split at h
 ·rename_i fs zs ht hz;obtain⟨hb,h⟩:=Aj h;obtain⟨z,⟨i,hi,hz0⟩,hz2⟩:=Qt hz;split at h
  ·rename_i l hl;obtain⟨cells,h1,h2⟩:=KW hr (pl:=places zs 0) hl rfl (show Am.go _ w L zs _ from hz2 _ _ _);have hst:Ur P t (places zs 0) z.cells.toList:=by
    unfold Ur Wc;rw[ht];simp only[LN hb,hi,hz0,wL]
   exact Bp hr (d:=d) (o:= .build t ps.toList.toArray) (by simpa using hd) (X.build hst rfl (by simpa using h1)) rfl (show Bw _ w L (.agg l) _ from⟨cells,rfl,h2⟩) h
  ·cases h
 ·rename_i m et e0 l0 ht hz;split at h
  ·rename_i m' a l;split at h
   ·rename_i inf l' He hl;obtain⟨hb,h⟩:=Aj h;obtain⟨z,hz1,hz2⟩:=Qt hz;obtain⟨h0,h0'⟩:l.length=m'/\Az (Ak (λb=>A b/\Z.R b) w a) l z.cells.toList:=hz2 _ _ L;obtain⟨cells,h1,h2,h3⟩:=YC hr hl h0';have:=fR (σ:=σ) (parts:=ps.toList) ht hz1 (Cc He hb) (by simpa using h1) w;exact Bp hr (d:=d) (o:= .build t ps.toList.toArray) (by simpa using hd) this rfl (show Bw _ w L (.val (.vec m' a) l') _ from⟨cells,rfl,h3.trans h0,h2⟩) h
   ·cases h
  ·cases h
 ·cases h
end Go.Rx
namespace Go.Rx
open Go Go.Lv
variable{e:ET}{q:PV}
variable {P:Program} {B B':Reg} {w w':World} {L L':List MD} {s:S} {σs:List Env} {σ:Env} {Z:Fix} {A A':Reg} {n:Nat}
def Wz(B:Reg)(w:World)(L:List MD)(B':Reg)(w':World)(L':List MD)(q q':PV):Prop:=q'.isA=q.isA/\∀cs,Am B w L q cs->Am B' w' L' q' cs
inductive All2 {α β:Type} (f:α->β->Prop):List α->List β->Prop
 |nil:All2 f [] []
 |cons {a b l m}:f a b->All2 f l m->All2 f (a::l) (b::m)
theorem All2.split{α β:Type}{f:α->β->Prop}:∀{l1 l2:List α} {m:List β},All2 f (l1++l2) m->∃m1 m2,m=m1++m2/\All2 f l1 m1/\All2 f l2 m2
 |[],_,m,h=>⟨[],m,rfl, .nil,h⟩
 |a::l1,l2,_, .cons h1 h2=>let⟨m1,m2,e,h3,h4⟩:=All2.split h2;⟨_::m1,m2,by rw[e];rfl, .cons h1 h3,h4⟩
mutual
theorem DZ:∀{sh:Sh} {p:PV} {ls ls' rest:List PV} {cs:List Value},Ia sh p=some ls->Am B w L p cs->All2 (Wz B w L B' w' L') ls ls'->∃p',Ha sh (ls'++rest)=some (p',rest)/\p'.isA=p.isA/\Am B' w' L' p' cs
 | .lf e o,p,ls,ls',rest,cs,h,hp,ha=>by
  simp only[Ia,uN]at h;subst h;cases ha with
  |cons h1 h2=>
   cases h2;exact⟨_,rfl,h1.1,h1.2 _ hp⟩
 | .agg l,p,ls,ls',rest,cs,h,hp,ha=>by
  cases p<;>simp only[Ia,reduceCtorEq]at h;rename_i vs;obtain⟨us,h1,h2⟩:=JW (rest:=rest) h (show Am.go B w L vs cs from hp) ha;exact⟨.agg us,by simp only[Ha,h1],rfl,h2⟩
theorem JW:∀{l:List Sh} {ps:List PV} {ls ls' rest:List PV} {cs:List Value},Ia.go l ps=some ls->Am.go B w L ps cs->All2 (Wz B w L B' w' L') ls ls'->∃ps',Ha.go l (ls'++rest)=some (ps',rest)/\Am.go B' w' L' ps' cs
 |[],[],ls,ls',rest,cs,h,hp,ha=>by
  simp only[Ia.go,uN]at h;subst h;cases ha;exact⟨[],rfl,hp⟩
 |a::l,p::ps,ls,ls',rest,cs,h,⟨c1,c2,e,hp1,hp2⟩,ha=>by
  simp only[Ia.go]at h;split at h
  ·rename_i x y hx hy;cases h;obtain⟨m1,m2,rfl,h1,h2⟩:=ha.split;obtain⟨p',h3,_,h4⟩:=DZ (rest:=m2++rest) hx hp1 h1;obtain⟨ps',h5,h6⟩:=JW (rest:=rest) hy hp2 h2;exact⟨p'::ps',by simp only[Ha.go,vT,h3,h5],c1,c2,e,h4,h6⟩
  ·cases h
 |[],_::_,_,_,_,_,h,_,_=>by simp[Ia.go]at h
 |_::_,[],_,_,_,_,h,_,_=>by simp[Ia.go]at h
end
theorem CJ:∀{l:List Sh} {ps:List PV} {ls ls' rest:List PV} {us:List Value},Ia.go l ps=some ls->By B w L ps us->All2 (Wz B w L B' w' L') ls ls'->∃ps',Ha.go l (ls'++rest)=some (ps',rest)/\By B' w' L' ps' us
 |[],[],ls,ls',rest,us,h,hp,ha=>by
  simp only[Ia.go,uN]at h;subst h;cases ha;exact⟨[],rfl,hp⟩
 |a::l,p::ps,ls,ls',rest,us,h,⟨v,us',e,hp1,hp2⟩,ha=>by
  simp only[Ia.go]at h;split at h
  ·rename_i x y hx hy;cases h;obtain⟨m1,m2,rfl,h1,h2⟩:=ha.split;have key:∃p',Ha a (m1++(m2++rest))=some (p',m2++rest)/\cP p'.isA (Am B' w' L' p') v:=by
    cases hA:p.isA with
    |true=>
     rw[hA]at hp1;obtain⟨cs,e1,hc⟩:=hp1;obtain⟨p',h3,h4,h5⟩:=DZ (rest:=m2++rest) hx hc h1;exact⟨p',h3,by rw[h4,hA];exact⟨cs,e1,h5⟩⟩
    |false=>
     rw[hA]at hp1;obtain⟨p',h3,h4,h5⟩:=DZ (rest:=m2++rest) hx hp1 h1;exact⟨p',h3,by rw[h4,hA];exact h5⟩
   obtain⟨p',h3,h4⟩:=key;obtain⟨ps',h5,h6⟩:=CJ (rest:=rest) hy hp2 h2;exact⟨p'::ps',by simp only[Ha.go,vT,h3,h5],v,us',e,h4,h6⟩
  ·cases h
 |[],_::_,_,_,_,_,h,_,_=>by simp[Ia.go]at h
 |_::_,[],_,_,_,_,h,_,_=>by simp[Ia.go]at h
theorem HL{l:List Sh}{ps ls ls':List PV}{us:List Value}(h:eN l ps=some ls)(hp:By B w L ps us)(ha:All2 (Wz B w L B' w' L') ls ls'):∃ps',Yu l ls'=some ps'/\By B' w' L' ps' us:=by
 obtain⟨ps',h1,h2⟩:=CJ (rest:=[]) h hp ha;rw[vK]at h1;exact⟨ps',by simp only[Yu,h1],h2⟩
theorem XU{x:e.T}(h:AW s e q=some x):(∃e0,e= .list e0)\/ (∃e' x',q= .val e' x'/\Uv e' e x'=some x):=by
 unfold AW at h;split at h
 ·exact .inl ⟨_,rfl⟩
 ·exact .inr ⟨_,_,rfl,h⟩
 ·cases h
theorem cast_eq{e':ET}{x:e.T}{y:e'.T}(h:Uv e e' x=some y):PV.val e x=PV.val e' y:=by
 unfold Uv at h;split at h
 ·rename_i he;subst he;cases h;rfl
 ·cases h
theorem gC{l:List e.T}(h:WE s e q=some l):elems s e q=some l/\q.isA=false/\q.size=1:=by
 unfold WE at h;refine⟨h,?_⟩;unfold elems at h;split at h
 ·split at h
  ·exact⟨rfl,rfl⟩
  ·cases h
 ·exact⟨rfl,rfl⟩
 ·exact⟨rfl,rfl⟩
 ·exact⟨rfl,rfl⟩
 ·exact⟨rfl,rfl⟩
 ·cases h
theorem ZN(hr:Rel Z s σs A L σ w){x:e.T}(h:AW s e q=some x)(hb:∀b,A b/\Z.R b->B' b)(ho:∀i∈owns q,∀z E v c,L[i]? =some (.own z E v c)->Rd B' w z v c):Wz (λb=>A b/\Z.R b) w L B' w L' q (.val e x):=by
 rcases XU h with⟨e0,rfl⟩|⟨e',x',rfl,hc⟩
 ·obtain⟨h1,hA,h2⟩:=gC (show WE s e0 q=some x from h);refine⟨by rw[hA];rfl,λcs hcs=>?_⟩;have hP:=hcs.JD;have hlen:=hcs.len;have:∃v,cs=[v]:=by
   rw[h2]at hlen
   match cs,hlen with
   |[v],_=>exact⟨v,rfl⟩
  obtain⟨v,rfl⟩:=this;have hv:Bw (λb=>A b/\Z.R b) w L q v:=(Vn hP).2 (by unfold Dg;rw[hA];exact hcs);obtain⟨c0,h3,h4⟩:=Zc hr.mem h1 hv;refine⟨v,c0,rfl,?_,h3.mono λx c h=>Ak.step hb (λ_ _=>rfl) h⟩;rcases h4 with h4|⟨i,E,u,cs,hi,h4,hpart⟩
  ·exact h4.step hb (λ_ _=>rfl)
  ·exact hpart _ _ (ho i hi _ _ _ _ h4)
 ·have:=cast_eq hc;rw[this];exact⟨rfl,λcs h=>Ak.step hb (λ_ _=>rfl) (show Ak _ w e x cs from h)⟩
theorem dP{x:e.T}{s0:S}:Cb e none x s0=(.val e x,s0):=by cases e<;>rfl
theorem NO(x:Lg [])(s0:S):Ce [] x s0=([],s0):=rfl
theorem Vf(p:ET×Option TypeId)(x:Lg [p])(s0:S):Ce [p] x s0=([(Cb p.1 p.2 x s0).1],(Cb p.1 p.2 x s0).2):=rfl
theorem Ru(p q:ET×Option TypeId)(r:List (ET×Option TypeId))(x:p.1.T)(y:Lg (q::r))(s0:S):Ce (p::q::r) (x,y) s0=
  ((Cb p.1 p.2 x s0).1::(Ce (q::r) y (Cb p.1 p.2 x s0).2).1,(Ce (q::r) y (Cb p.1 p.2 x s0).2).2):=rfl
theorem tA{p:ET×Option TypeId}:Qc s [p] []=none:=rfl
theorem sX{p:ET×Option TypeId}{r:PV}{qs:List PV}:Qc s [p] (q::r::qs)=none:=rfl
theorem tF{qs:List PV}:Qc s [] (q::qs)=none:=rfl
theorem tE{p q:ET×Option TypeId}{r:List (ET×Option TypeId)}:Qc s (p::q::r) []=none:=rfl
theorem tD{p q:ET×Option TypeId}{r:List (ET×Option TypeId)}{v:PV}{vs:List PV}:Qc s (p::q::r) (v::vs)=(match AW s p.1 v,Qc s (q::r) vs with|some x,some y=>some ((x,y):p.1.T×Lg (q::r))|_,_=>none):=rfl
theorem ZH{qs:List PV}{x:Lg []}(h:Qc s [] qs=some x):qs=[]:=by
 match qs,h with
 |[],_=>rfl
 |_::_,h=>rw[tF]at h;cases h
theorem YO{p:ET×Option TypeId}{qs:List PV}{x:Lg [p]}(h:Qc s [p] qs=some x):∃q,qs=[q]/\AW s p.1 q=some x:=by
 match qs,h with
 |[],h=>rw[tA]at h;cases h
 |[q],h=>exact⟨q,rfl,h⟩
 |q::r::qs,h=>rw[sX]at h;cases h
theorem TZ{p q:ET×Option TypeId}{r:List (ET×Option TypeId)}{qs:List PV}{z:Lg (p::q::r)}(h:Qc s (p::q::r) qs=some z):
  ∃v vs,∃(x:p.1.T) (y:Lg (q::r)),qs=v::vs/\z=(x,y)/\AW s p.1 v=some x/\Qc s (q::r) vs=some y:=by
 match qs,h with
 |[],h=>rw[tE]at h;cases h
 |v::vs,h=>
  rw[tD]at h;split at h
  ·rename_i x y hx hy;cases h;exact⟨v,vs,x,y,rfl,rfl,hx,hy⟩
  ·cases h
def Ex(L:List MD):List (ET×Option TypeId)->List PV->List MD
 |p::r,v::vs=>match p.2 with
  |none=>Ex L r vs
  |some E=>(match p.1,v with
   | .list _, .own i=>L.getD i .dead
   | .list a,_=> .own a.size E (.slice none 0 0) []
   |_,_=> .dead)::Ex L r vs
 |_,_=>[]
theorem HS:∀{ls:List (ET×Option TypeId)} {vs:List PV} {is:List Nat},TM ls=true->consume s ls vs=some is->is=[]
 |[],[],is,_,h=>by simp[consume]at h;exact h
 |[],_::_,_,_,h=>by simp[consume]at h
 |_::_,[],_,_,h=>by simp[consume]at h
 |(e,none)::r,v::vs,is,hn,h=>HS (ls:=r) (vs:=vs) (by simpa [TM]using hn) (by simpa [consume]using h)
 |(e,some _)::r,v::vs,is,hn,h=>by simp[TM]at hn
theorem FM{N:Reg}:∀{ls:List (ET×Option TypeId)} {vs:List PV} {is:List Nat} {A:Reg},consume s ls vs=some is->Bi w A (is.map λi=>(L.getD i .dead).Cx)->Bi w A ((Ex L ls vs).map MD.Cx)
 |[],[],_,_,_,_=>trivial
 |[],_::_,_,_,h,_=>by simp[consume]at h
 |_::_,[],_,_,h,_=>by simp[consume]at h
 |(e,none)::r,v::vs,is,A,h,hm=>FM (N:=N) (ls:=r) (vs:=vs) (by simpa [consume]using h) hm
 |(e,some E)::r,v::vs,is,A,h,hm=>by
  simp only[consume]at h;split at h
  ·rename_i a;exact⟨none,⟨none,0,0,rfl,A9,vD _,λ_=>rfl,λ_=>rfl,λb h=>by cases h⟩,λb hb=>(by cases hb),(FM (N:=N) h hm).Jg λb hb=>hb.elim id (λh=>by cases h)⟩
  ·rename_i a i;split at h
   ·rename_i E' a' l hi;obtain⟨_,h⟩:=Aj h;simp only[vY]at h;obtain⟨is',h1,rfl⟩:=h;obtain⟨o,g1,g2,g3⟩:=hm;exact⟨o,g1,g2,FM (N:=N) h1 g3⟩
   ·cases h
  ·cases h
theorem UG{B1:Reg}(hr:Rel Z s σs A L σ w)(hb:∀b,A b/\Z.R b->B1 b):∀(ls:List (ET×Option TypeId)) (vs:List PV) (x:Lg ls) (is:List Nat) (s0:S) (Lx LF:List MD),
  Qc s ls vs=some x->consume s ls vs=some is-> (∀i∈Hm ls vs,∀z E v c,L[i]? =some (.own z E v c)->Rd B1 w z v c)->Lx.length=s0.it.length->LF=Lx++Ex L ls vs->
  ∃its,(Ce ls x s0).2=⟨s0.sl,s0.it++its,s0.st⟩/\its.length=(Ex L ls vs).length/\All2 (Wz (λb=>A b/\Z.R b) w L B1 w LF) vs (Ce ls x s0).1/\
   ∀(i:Nat) (a:Item) (m:MD),its[i]? =some a-> (Ex L ls vs)[i]? =some m->Jk B1 w LF a m
 |[],vs,x,is,s0,Lx,LF,hp,hc,_,_,_=>by
  rw[ZH hp];refine⟨[],?_,rfl,All2.nil,λi a m h=>by simp at h⟩;rw[NO];simp
 |p::ls,vs,x,is,s0,Lx,LF,hp,hc,ho,hlen,aN=>by
  have main:∀(v:PV) (vs':List PV) (x1:p.1.T) (rest:S->List PV×S),vs=v::vs'->AW s p.1 v=some x1->
    (Ce (p::ls) x s0=((Cb p.1 p.2 x1 s0).1::(rest (Cb p.1 p.2 x1 s0).2).1,(rest (Cb p.1 p.2 x1 s0).2).2))->
    (∀(is:List Nat) (s1:S) (Lx:List MD),consume s ls vs'=some is-> (∀i∈Hm ls vs',∀z E v c,L[i]? =some (.own z E v c)->Rd B1 w z v c)->Lx.length=s1.it.length->LF=Lx++Ex L ls vs'->
     ∃its,(rest s1).2=⟨s1.sl,s1.it++its,s1.st⟩/\its.length=(Ex L ls vs').length/\All2 (Wz (λb=>A b/\Z.R b) w L B1 w LF) vs' (rest s1).1/\
      ∀(i:Nat) (a:Item) (m:MD),its[i]? =some a-> (Ex L ls vs')[i]? =some m->Jk B1 w LF a m)->
    ∃its,(Ce (p::ls) x s0).2=⟨s0.sl,s0.it++its,s0.st⟩/\its.length=(Ex L (p::ls) vs).length/\All2 (Wz (λb=>A b/\Z.R b) w L B1 w LF) vs (Ce (p::ls) x s0).1/\
     ∀(i:Nat) (a:Item) (m:MD),its[i]? =some a-> (Ex L (p::ls) vs)[i]? =some m->Jk B1 w LF a m:=by
   intro v vs' x1 rest hvs hx hu hrest;subst hvs;rw[hu];obtain⟨e,o⟩:=p;cases o with
   |none=>
    have hc':consume s ls vs'=some is:=by simpa [consume]using hc
    have e1:Cb e none x1 s0=(.val e x1,s0):=dP;simp only[e1];obtain⟨its,h1,h2,h3,h4⟩:=hrest is s0 Lx hc' (λi hi=>ho i (by simp[Hm,hi])) hlen aN;refine⟨its,h1,h2, .cons (ZN hr hx hb (λi hi z E v c hL=>ho i (by simp[Hm,hi]) z E v c hL)) h3,h4⟩
   |some E=>
    simp only[consume]at hc;split at hc
    ·rename_i a;have hx':x1=[]:=by
      have:elems s a .nils=some x1:=hx;simpa [elems]using this.symm
     subst hx';have e1:Cb (.list a) (some E) [] s0=(.own s0.new,s0.add (.arr E a [])):=rfl;simp only[e1];obtain⟨its,h1,h2,h3,h4⟩:=hrest is (s0.add (.arr E a [])) (Lx++[.own a.size E (.slice none 0 0) []]) hc (λi hi=>ho i (by simpa [Hm]using hi)) (by simp[S.add,hlen]) (by rw[aN];simp[Ex]);refine⟨.arr E a []::its,by rw[h1];simp[S.add],by simp[Ex,h2], .cons ⟨rfl,λcs hcs=>?_⟩ h3,λi b m hi hm=>?_⟩
     ·refine⟨a.size,E, .slice none 0 0,[],?_,hcs⟩;rw[aN,S.new,<-hlen];simp[Ex]
     ·cases i with
      |zero=>
       simp[Ex]at hi hm;subst hi hm;exact⟨rfl,rfl,rfl⟩
      |succ i=>exact h4 i b m (by simpa using hi) (by simpa [Ex]using hm)
    ·rename_i a i;split at hc
     ·rename_i E' a' l hi;obtain⟨hb1,hc1⟩:=Aj hc;clear hc;simp only[uJ,wN]at hb1;obtain⟨hE,rfl⟩:=hb1;have:=Bc hE;subst this;simp only[vY]at hc1;obtain⟨is',hc',rfl⟩:=hc1;obtain⟨u,cs0,g1,g2⟩:=hr.mem.arr hi;have hx':x1=l:=by
       have:elems s a' (.own i)=some x1:=hx;simp[elems,hi]at this;exact this.symm
      subst hx';have hg:L.getD i .dead= .own a'.size E' u cs0:=by simp[uS,g1]
      have e1:Cb (.list a') (some E') x1 s0=(.own s0.new,s0.add (.arr E' a' x1)):=rfl;simp only[e1];obtain⟨its,h1,h2,h3,h4⟩:=hrest is' (s0.add (.arr E' a' x1)) (Lx++[.own a'.size E' u cs0]) hc' (λi hi=>ho i (by simpa [Hm]using hi)) (by simp[S.add,hlen]) (by rw[aN];simp only[Ex,hg];simp);refine⟨.arr E' a' x1::its,by rw[h1];simp[S.add],by simp[Ex,h2], .cons ⟨rfl,λcs hcs=>?_⟩ h3,λq b m hq hm=>?_⟩
      ·obtain⟨z,E2,v2,c2,k1,k2⟩:=hcs;rw[g1]at k1;cases k1;refine⟨a'.size,E',u,cs0,?_,k2⟩;rw[aN,S.new,<-hlen];simp only[Ex,hg];simp
      ·cases q with
       |zero=>
        simp only[Ex,hg]at hq hm;simp at hq hm;subst hq hm;exact⟨rfl,rfl,g2.mono λx c h=>Ak.step hb (λ_ _=>rfl) h⟩
       |succ q=>exact h4 q b m (by simpa using hq) (by simpa [Ex]using hm)
     ·cases hc
    ·cases hc
  cases ls with
  |nil=>
   obtain⟨v,rfl,hx⟩:=YO hp;exact main v [] x (λs1=>([],s1)) rfl hx (Vf p x s0) (λis s1 Lx _ _ hlen aN=>⟨[],A9,rfl,All2.nil,λi a m h=>by simp at h⟩)
  |cons q r=>
   obtain⟨v,vs',x1,y',rfl,rfl,hx,hy⟩:=TZ hp;exact main v vs' x1 (λs1=>Ce (q::r) y' s1) rfl hx (Ru p q r x1 y' s0)
    (λis s1 Lx hc ho hlen aN=>UG hr hb (q::r) vs' y' is s1 Lx LF hy hc ho hlen aN)
theorem YB:∀(a b:List PV),owns.go (a++b)=owns.go a++owns.go b
 |[],b=>rfl
 |x::a,b=>by simp[owns.go,YB a b]
mutual
theorem bI:∀{sh:Sh} {p:PV} {ls:List PV},Ia sh p=some ls->owns.go ls=owns p
 | .lf e o,p,ls,h=>by simp only[Ia,uN]at h;subst h;simp[owns.go]
 | .agg l,p,ls,h=>by cases p<;>simp only[Ia,reduceCtorEq]at h;exact EB h
theorem EB:∀{l:List Sh} {ps ls:List PV},Ia.go l ps=some ls->owns.go ls=owns.go ps
 |[],[],ls,h=>by simp only[Ia.go,uN]at h;subst h;rfl
 |a::l,p::ps,ls,h=>by
  simp only[Ia.go]at h;split at h
  ·rename_i x y hx hy;cases h;rw[YB,bI hx,EB hy];rfl
  ·cases h
 |[],_::_,_,h=>by simp[Ia.go]at h
 |_::_,[],_,h=>by simp[Ia.go]at h
end
structure KeepN (N:Reg) (w w':World):Prop where
 same:∀b,b<w.heap.size->N b->w'.heap[b]? =w.heap[b]?
 gr:Gr w w'
def GlOk(gl:List (Nat×List Value))(N:Reg)(w:World):Prop:=∀p∈gl,p.1<w.heap.size/\N p.1/\∃T fr,w.heap[p.1]? =some (.cells p.2.toArray T fr)
def nI(gl:List (Nat×List Value))(R N:Reg)(w w':World)(rs:List Sh)(y:Lg (Hj rs))(us:List Value):Prop:=
 KeepN N w w'/\∃(A1:Reg) (L1:List MD),(∀b,A1 b-> (¬N b\/w.heap.size<=b)/\b<w'.heap.size)/\Bi w' (λb=>A1 b\/ (b<w.heap.size/\N b)) (L1.map MD.Cx)/\
  ∀(s:S) (L:List MD) (B':Reg),L.length=s.it.length-> (∀b,A1 b->B' b)-> (mR rs=true->∀b,(R b/\N b)\/ (∃p∈gl,p.1=b)->B' b)->
   ∃ps its,(Ce (Hj rs) y s).2=⟨s.sl,s.it++its,s.st⟩/\Yu rs (Ce (Hj rs) y s).1=some ps/\By B' w' (L++L1) ps us/\its.length=L1.length/\
   ∀(i:Nat) (a:Item) (m:MD),its[i]? =some a->L1[i]? =some m->Jk B' w' (L++L1) a m
structure ConOk (P:Program) (gl:List (Nat×List Value)) (f:Nat) (c:Con):Prop where
 ent:Ent P f
 ok:∀(R N:Reg) (w:World) (L0:List MD) (vs:List Value) (ps:List PV) (x:Lg (Hj c.ps)) (y:Lg (Hj c.rs)),args c.ps x=some ps-> (XH c.ps x).length=L0.length->
  (∀(i:Nat) (a:Item) (m:MD),(XH c.ps x)[i]? =some a->L0[i]? =some m->Jk (λb=>R b/\N b) w L0 a m)->Bi w N (L0.map MD.Cx)->By (λb=>R b/\N b) w L0 ps vs->GlOk gl N w->c.fn x=some y->
  Calls P f vs.toArray w λe w'=>∃us,e= .returned (Om us)/\nI gl R N w w' c.rs y us
end Go.Rx
namespace Go.Rx
open Go Go.Lv
variable{g:Operand}{G:Prop}
variable {P:Program} {B B':Reg} {w w':World} {L L':List MD} {s:S} {σs:List Env} {σ:Env} {Z:Fix} {A A':Reg} {n:Nat} {ops:Array Oper}
variable {R:Type} {k:S->Option R} {r:R} {d:Option Nat} {ty:TypeId} {pos:String} {after:Array Edge} {T:Tab} {inl:HW R}
def Kl(P:Program)(gl:List (Nat×List Value))(inl:HW R):Prop:=∀(Z:Fix),Z.gl=gl->∀(f:Nat) (as:List PV) (s:S) (k:S->PV->Option R) (r:R) (σs:List Env) (A:Reg) (L:List MD) (σ:Env) (w:World) (vs:List Value),
 inl f as s k=some r->Rel Z s σs A L σ w->By (λb=>A b/\Z.R b) w L as vs->Ent P f/\Calls P f vs.toArray w λe w'=>∃v p s' A' L',e= .returned v/\k s' p=some r/\Rel Z s' σs A' L' σ w'/\p.isV=true/\Bw (λb=>A' b/\Z.R b) w' L' p v
def Lt(P:Program)(T:Tab):Prop:=∀f c,T.get f=some c->ConOk P T.gl f c
def Xt(P:Program)(T:Tab)(Z:Fix):Prop:=Lt P T/\Z.gl=T.gl
theorem By.step{q:List PV}{vs:List Value}(hb:∀b,B b->B' b)(hs:Same B w w')(hl:Xs L L')(h:By B w L q vs):By B' w' L' q vs:=Am.KU hb hs hl h
theorem By.append:∀{p q:List PV} {us vs:List Value},By B w L p us->By B w L q vs->By B w L (p++q) (us++vs)
 |[],q,us,vs,h,h'=>by rw[show us=[]from h];exact h'
 |a::p,q,us,vs,⟨v,us',e,h1,h2⟩,h'=>⟨v,us'++vs,by rw[e];rfl,h1,By.append h2 h'⟩
theorem ZT{ps:List PV}{us:List Value}(h:By B w L ps us):(YL ps).isV=true/\Bw B w L (YL ps) (Om us):=by
 match ps,us,h with
 |[],us,h=>rw[show us=[]from h];exact⟨rfl,[],rfl,rfl⟩
 |[p],us,⟨v,us',e,h1,h2⟩=>
  rw[show us'=[]from h2]at e;subst e;exact Dp h1
 |p::q::r,us,h=>
  obtain⟨v,us',e,h1,v2,sS,e2,h2,h3⟩:=h;subst e2 e;exact⟨rfl,v::v2::sS,rfl,v,_,rfl,h1,v2,sS,rfl,h2,h3⟩
theorem Rel.gD{w':World}{A1 BX:Reg}{L1:List MD}{its:List Item}(hr:Rel Z s σs A L σ w)(nP:∀b,BX b-> ¬A b/\b<w.heap.size)(hY:Bi w (λb=>A b\/BX b) (L.map MD.Cx))
  (hk:KeepN (λb=>¬BX b) w w') (hA1:∀b,A1 b-> (¬ ¬BX b\/w.heap.size<=b)/\b<w'.heap.size)
  (hm:Bi w' (λb=>A1 b\/ (b<w.heap.size/\ ¬BX b)) (L1.map MD.Cx)) (hlen:its.length=L1.length)
  (hit:∀(i:Nat) (a:Item) (m:MD),its[i]? =some a->L1[i]? =some m->Jk (λb=>(A b\/A1 b)/\Z.R b) w' (L++L1) a m):
  Rel Z ⟨s.sl,s.it++its,s.st⟩ σs (λb=>A b\/A1 b) (L++L1) σ w':=by
 have hlt:=St.lt hr;have hsame:Same A w w':=λb hb=>hk.same b (hlt b hb) λh=>(nP b h).1 hb;have hmem:MemR (λb=>A b/\Z.R b) w' L s σs σ:=Fact.step _ (hr.fact 0 (f:=IB Z.R L s σs σ) rfl) (λ_ h=>h) hsame hk.gr;have hold:(Fact.old Z.M Z.w0).holds A w':=Fact.step _ (hr.fact 1 (f:= .old Z.M Z.w0) rfl) (λ_ h=>h) hsame hk.gr;have hl:=Xs.append L L1;have hst:St (λb=>A b\/A1 b) w' [.old Z.M Z.w0] (L1.map MD.Cx++L.map MD.Cx):=by
  refine⟨λb hb=>hb.elim (λh=>vE (hlt b h) hk.gr.le) (λh=>(hA1 b h).2),λf hf=>?_,?_⟩
  ·cases hf with
   |head=>exact Fact.step _ hold (λ_ h=> .inl h) (λ_ _=>rfl) (.refl _)
   |tail _ h=>cases h
  ·refine Bi.append (λb=>b<w.heap.size/\ ¬BX b) (λb hb=>vE hb.1 hk.gr.le) (hm.Jg ?_) ?_
   ·rintro b ((h|h)|h)
    ·exact .inr ⟨hlt b h,λhx=>(nP b hx).1 h⟩
    ·exact .inl h
    ·exact .inr h
   ·refine(hY.lt.step hk.gr.le λb hb hn=>hk.same b hb λh=>hn (.inl (.inr h))).Jg ?_;rintro b ((h|h)|h)
    ·exact .inl (.inl h)
    ·rcases(hA1 b h).1 with h|h
     ·exact .inl (.inr (Classical.not_not.1 h))
     ·exact .inr h
    ·by_cases hx:BX b
     ·exact .inl (.inr hx)
     ·exact .inr (Nat.le_of_not_lt λhl=>h ⟨hl,hx⟩)
 have hb:∀b,A b/\Z.R b-> (A b\/A1 b)/\Z.R b:=λb h=>⟨.inl h.1,h.2⟩;refine Rel.as (Bi.Wj hst xN) (i:=0) rfl ⟨⟨?_,?_⟩,hmem.sl.step hb (λ_ _=>rfl) hl,hmem.stk.step hb (λ_ _=>rfl) hl⟩ (by rw[wW])
 ·simp[hmem.it.1,hlen]
 ·intro i a m g1 g2;simp only at g1;rcases wG i s.it.length with hi|hi
  ·rw[uO hi]at g1;rw[uO (by rw[<-hmem.it.1];exact hi)]at g2;exact(hmem.it.2 i a m g1 g2).step hb (λ_ _=>rfl) hl
  ·rw[uU hi]at g1;rw[uU (by rw[<-hmem.it.1];exact hi)]at g2;rw[hmem.it.1]at g1;exact hit _ a m g1 g2
theorem Bi.split:∀{X Y:List Mob} {A:Reg},Bi w A (X++Y)->∃BX:Reg,(∀b,BX b-> ¬A b/\b<w.heap.size)/\Bi w (λb=>¬BX b) X/\Bi w (λb=>A b\/BX b) Y
 |[],Y,A,h=>⟨λ_=>False,λb hb=>hb.elim,trivial,h.Jg λb hb=>hb.elim id λh=>h.elim⟩
 |m::X,Y,A,⟨o,h1,h2,h3⟩=>by
  obtain⟨BX,g1,g2,g3⟩:=Bi.split h3;refine⟨λb=>BX b\/o=some b,λb hb=>?_,⟨o,h1,λb hb=>⟨λh=>h (.inr hb),(h2 b hb).2⟩,g2.Jg ?_⟩,g3.Jg ?_⟩
  ·rcases hb with hb|hb
   ·exact⟨λh=>(g1 b hb).1 (.inl h),(g1 b hb).2⟩
   ·exact h2 b hb
  ·rintro b (hb|hb)
   ·exact λh=>hb (.inl h)
   ·exact λh=>(g1 b h).1 (.inr hb)
  ·rintro b (hb|hb|hb)
   ·exact .inl (.inl hb)
   ·exact .inr hb
   ·exact .inl (.inr hb)
theorem Bi.pN:∀{Y:List Mob} {A:Reg} {i:Nat} {m:Mob},Bi w A Y->Y[i]? =some m->∃o,m.holds o w/\∀b,o=some b-> ¬A b
 |_::_,A,0,m,⟨o,h1,h2,_⟩,h=>⟨o,by simp at h;exact h▸h1,λb hb=>(h2 b hb).1⟩
 |_::Y,A,i+1,m,⟨o,_,_,h3⟩,h=>by
  obtain⟨q,g1,g2⟩:=Bi.pN h3 (i:=i) (by simpa using h);exact⟨q,g1,λb hb hA=>g2 b hb (.inl hA)⟩
theorem aC{w:World}:MD.dead.Cx.holds none w:=⟨none,0,0,rfl,A9,vD _,λ_=>rfl,λ_=>rfl,λb h=>by cases h⟩
theorem Kk{i:Nat}:∀{l:List Nat},Jh i l=true↔i∈l
 |[]=>by simp[Jh]
 |j::l=>by
  simp only[Jh,wV,yJ,Kk (l:=l)];exact or_congr ⟨Bc,λh=>by subst h;simp⟩ yY
theorem JC{f:Item->Item}(hf:f .dead= .dead):∀{l:List Item} {i:Nat},Bd (l.map f) i=f (Bd l i)
 |[],_=>by simp[Bd,hf]
 |_::_,0=>rfl
 |_::r,i+1=>by simpa [Bd]using JC hf (l:=r) (i:=i)
theorem AV:∀{l:List Item} {i j:Nat},Bd l i= .dead->Bd (Lh l j .dead) i= .dead
 |[],_,_,h=>by simpa [Lh]using h
 |_::_,0,0,_=>rfl
 |_::_,0,j+1,h=>by simpa [Lh,Bd]using h
 |_::_,i+1,0,h=>by simpa [Lh,Bd]using h
 |_::r,i+1,j+1,h=>by simpa [Lh,Bd]using AV (l:=r) (i:=i) (j:=j) (by simpa [Bd]using h)
theorem Yh:∀{l:List Item} {i:Nat},Bd (Lh l i .dead) i= .dead
 |[],_=>rfl
 |_::_,0=>rfl
 |_::r,i+1=>by simpa [Lh,Bd]using Yh (l:=r) (i:=i)
theorem QP{i:Nat}:∀{is:List Nat} {s s':S},Bd s.it i= .dead->s.LD is=some s'->Jh i is=false
 |[],_,_,_,_=>rfl
 |j::is,s,s',hd,h=>by
  simp only[S.LD]at h;split at h
  ·rename_i s1 h1;unfold S.kill at h1;split at h1
   ·rename_i E e l hj;cases h1;have hij:Nat.beq i j=false:=by
     cases hb:Nat.beq i j with
     |false=>rfl
     |true=>rw[Bc hb]at hd;rw[hd]at hj;cases hj
    have:Bd ((s.Hi j .dead).sub j .any).it i= .dead:=by
     show Bd ((Lh s.it j .dead).map _) i=_;rw[JC rfl,AV hd];rfl
    simp[Jh,hij,QP this h]
   ·cases h1
  ·cases h
theorem ZQ:∀{is:List Nat} {s s':S} {L:List MD},MemR B w L s σs σ-> (∀(i z:Nat) (E:TypeId) (v:Value) (c:List Value),L[i]? =some (.own z E v c)->v.oneCell'=true)->s.LD is=some s'->
  ∃L',MemR B w L' s' σs σ/\ (is=[]->L'=L)/\ (∀j,Jh j is=false->L'[j]? =L[j]?)/\∀(A:Reg) (X:List Mob),Bi w A (X++L.map MD.Cx)->Bi w A (X++(is.map λi=>(L.getD i .dead).Cx)++L'.map MD.Cx)
 |[],s,s',L,hm,_,h=>by
  simp only[S.LD,uN]at h;subst h;exact⟨L,hm,λ_=>rfl,λ_ _=>rfl,λA X hX=>by simpa using hX⟩
 |i::is,s,s',L,hm,hone,h=>by
  simp only[S.LD]at h;split at h
  ·rename_i s1 h1;unfold S.kill at h1;split at h1
   ·rename_i E e l hi;cases h1;obtain⟨v,cs,hL,_⟩:=hm.arr hi;have hf:Frz B w L i .any:=⟨λz E' u c h=>⟨u,rfl,by rw[hL]at h;cases h;exact hone _ _ _ _ _ hL⟩,rfl,rfl⟩;have hm2:=hm.subst hf;have hlt:=(List.getElem?_eq_some_iff.1 hL).1;obtain⟨L',g1,g2,g3,g4⟩:=ZQ hm2 (λj z E v c hj=>by
     by_cases hji:j=i
     ·subst hji;rw[vM hlt]at hj;cases hj
     ·rw[vJ (xE hji)]at hj;exact hone _ _ _ _ _ hj) h
    refine⟨L',g1,(λe=>by cases e),λj hj=>?_,λA X hX=>?_⟩
    ·simp only[Jh,wI]at hj;rw[g3 j hj.2,vJ (λe=>by subst e;simp at hj)]
    ·have BU:(L.map MD.Cx)[i]? =some (L.getD i .dead).Cx:=by simp[hL,uS]
     have hX1:Bi w A (MD.dead.Cx::(L.map MD.Cx).eraseIdx i++(X++[(L.getD i .dead).Cx])):=by
      have h1:Bi w A (MD.dead.Cx::(X++L.map MD.Cx)):=⟨none,aC,λb hb=>(by cases hb),hX.Jg λb hb=>hb.elim id λh=>by cases h⟩;refine h1.perm (.cons _ ?_);have hp:=(EJ BU).symm;refine(yR X hp).trans ?_;rw[show X++(L.getD i .dead).Cx::(L.map MD.Cx).eraseIdx i=(X++[(L.getD i .dead).Cx])++(L.map MD.Cx).eraseIdx i by simp];exact xN
     have hX2:Bi w A ((X++[(L.getD i .dead).Cx])++(L.set i .dead).map MD.Cx):=by
      refine hX1.perm (List.perm_append_comm.trans (yR _ ?_));rw[xD];exact Qm BU
     have:=g4 A _ hX2;have hni:Jh i is=false:=QP (s:=(s.Hi i .dead).sub i .any) (by
      show Bd ((Lh s.it i .dead).map _) i=_;rw[JC rfl,Yh];rfl) h
     have he:(is.map λj=>((L.set i .dead).getD j .dead).Cx)=is.map λj=>(L.getD j .dead).Cx:=by
      refine List.map_congr_left λj hj=>?_;have:j≠i:=λe=>by
       subst e;rw[Kk.2 hj]at hni;cases hni
      simp only[uS,vJ (xE this)]
     rw[he]at this;simpa using this
   ·cases h1
  ·cases h
theorem Ak.qK:∀{e:ET} {x:e.T} {cs:List Value},e.RN=false->Ak B w e x cs->Ak B' w' e x cs
 | .int k,x,cs,_,h=>h
 | .bool,x,cs,_,h=>h
 | .str,x,cs,_,h=>h
 | .list e,l,cs,hL,h=>by cases hL
 | .vec m e,l,cs,hL,⟨h1,h2⟩=>⟨h1,h2.mono λx c h=>Ak.qK (e:=e) hL h⟩
 | .cons a q,x,cs,hL,⟨c1,c2,e,h1,h2⟩=>by
  simp only[ET.RN,wI]at hL;exact⟨c1,c2,e,Ak.qK hL.1 h1,Ak.qK hL.2 h2⟩
 | .nil,_,cs,_,h=>h
theorem OS:∀{ls:List (ET×Option TypeId)} {vs:List PV},owns.go vs=[]->Hm ls vs=[]
 |[],_,_=>by unfold Hm;rfl
 |_::_,[],_=>by unfold Hm;rfl
 |(e,o)::ls,v::vs,h=>by
  simp only[owns.go,List.append_eq_nil_iff]at h;cases o<;>simp[Hm,h.1,OS h.2]
theorem Rel.out(hr:Rel Z s σs A L σ w){b:Nat}(hb:¬A b):Z.R b:=by
 rcases wG b Z.w0.heap.size with hlt|hge
 ·have hold:=(hr.fact 1 (f:= .old Z.M Z.w0) rfl).2 b hlt;exact Z.mod b (wB λhM=>hb (hold hM).1)
 ·exact Z.new b hge
theorem iP{f:Nat}{fs:List PV}{as:Array Operand}{ts:Array TypeId}{dn:Nat}(hT:Xt P T Z)(hI:Kl P T.gl inl)(hr0:Rel Z s σs A L σ w)(hg:Bs s.sl g= .bfn f fs)
  (hd:Dt n ⟨some dn, .call ⟨.value g,as,ts⟩,ty,pos,after,none⟩=true) (hP:QU (as.toList.map (Bs s.sl))=true) (h:inl f (fs++as.toList.map (Bs s.sl)) s (λs v=>k (s.Cl (some dn) v))=some r) (hG:¬G):
  Ju P n ops ⟨some dn, .call ⟨.value g,as,ts⟩,ty,pos,after,none⟩ Z s σs k r G A L σ w:=by
 obtain⟨fvs,hgv,hfs⟩:∃vs:List Value,ev σ g= .func (.func f) vs.toArray #[]/\By (λb=>A b/\Z.R b) w L fs vs:=by
  obtain⟨vs,h1,h2⟩:=Bg hr0.mem.sl hg rfl;exact⟨vs,by simpa using h1,h2⟩
 have hpv:=By.append hfs (BI hr0.mem.sl _ hP);obtain⟨he,hcall⟩:=hI Z hT.2 f _ s _ r σs A L σ w _ h hr0 hpv;have hxe:XE P σ w (.call ⟨.value g,as,ts⟩) f (fvs++as.toList.map (ev σ)).toArray:=λ_ _ _ _ _=>by
  have h1:(callFunc f (fvs.toArray++as.map (ev σ))).run P w= .ok (.enter f (fvs.toArray++as.map (ev σ))) w:=he _ w;have h2:(fvs++as.toList.map (ev σ)).toArray=fvs.toArray++as.map (ev σ):=by apply yF;simp
  rw[h2];simp[execOp,resolve,hgv,Deferred.ofValue,invoke,h1]
 refine WL.e (Rc hd) hxe hcall ?_;rintro e w' ⟨v,p,s',A',L',rfl,hk,hr',hv,hv'⟩;exact⟨_,rfl,WL.nil ⟨_,A',L',hk,hr'.Cl (d:=some dn) hv hv',λgg=>absurd gg hG⟩⟩
theorem lL{f:Nat}{caps:List PV}{as:Array Operand}{ts:Array TypeId}{dn:Nat}(hT:Xt P T Z)(hI:Kl P T.gl inl)(hr0:Rel Z s σs A L σ w)(hg:Bs s.sl g= .fn f caps)
  (hd:Dt n ⟨some dn, .call ⟨.value g,as,ts⟩,ty,pos,after,none⟩=true) (h:cF P T inl s (some dn) f caps as.toList k=some r)
  (hG:G->∃c,T.get f=some c/\TM (Hj c.ps)=true/\ (OR c=false\/owns.go (as.toList.map (Bs s.sl))=[])):
  Ju P n ops ⟨some dn, .call ⟨.value g,as,ts⟩,ty,pos,after,none⟩ Z s σs k r G A L σ w:=by
 obtain⟨sT,hgv,nQ⟩:=cX (Bg hr0.mem.sl hg rfl);have has:as=as.toList.toArray:=by simp
 have hxe:Ent P f->XE P σ w (.call ⟨.value g,as,ts⟩) f (as.toList.map (ev σ)++sT).toArray:=λhe=>by
  have:=X.qE (P:=P) (σ:=σ) (w:=w) (args:=as.toList) (ts:=ts) he hgv rfl;rw[<-has]at this;exact this
 unfold cF at h;split at h
 ·rename_i c hc;have hcon:=hT.1 f c hc;split at h
  ·have hc0:sT=[]:=nQ;subst hc0;split at h
   ·cases h
   ·rename_i qW qY;split at h
    ·cases h
    ·rename_i s1 hs1;obtain⟨A1,L1,hr,hsame⟩:∃A1 L1,Rel Z s1 σs A1 L1 σ w/\ (G->s1=s/\A1=A/\L1=L):=by
      split at hs1
      ·rename_i hro;obtain⟨A1,L1,h1,h2⟩:=Gf hr0 hs1;refine⟨A1,L1,h1,λg=>h2 ?_⟩;obtain⟨c',hc',_,h3⟩:=hG g;rw[hc]at hc';cases hc';rcases h3 with h3|h3
       ·rw[hro]at h3;cases h3
       ·exact OS (by rw[EB qY];exact h3)
      ·cases hs1;exact⟨A,L,hr0,λ_=>⟨rfl,rfl,rfl⟩⟩
     cases hP:QU (as.toList.map (Bs s1.sl))with
     |false=>rw[hP]at h;cases h
     |true=>
     rw[hP]at h;simp only[wX,xL]at h;try dsimp only[Bf]at h
     split at h
     ·cases h
     ·rename_i ls hls;cases kA:(OR c&& !(Hm (Hj c.ps) ls).isEmpty)with
      |true=>rw[kA]at h;cases h
      |false=>
      rw[kA]at h;dsimp only[Bf,cond]at h;split at h
      ·cases h
      ·rename_i x hx;split at h
       ·cases h
       ·rename_i is his;cases pB:(!((Hm (Hj c.ps) ls).all λi=>!Jh i is))with
        |true=>rw[pB]at h;cases h
        |false=>
        rw[pB]at h;dsimp only[Bf,cond]at h;split at h
        ·cases h
        ·rename_i s2 hs2;obtain⟨y,hy,h⟩:=bind_some h;change (match Yu c.rs (Ce (Hj c.rs) y s2).1 with|some vs=>k ((Ce (Hj c.rs) y s2).2.Cl (some dn) (YL vs))|none=>none)=some r at h;have hpv:=BI hr.mem.sl _ hP;have hone:∀(i z:Nat) (E:TypeId) (v:Value) (c:List Value),L1[i]? =some (.own z E v c)->v.oneCell'=true:=λi z E v c hi=>by
          obtain⟨p,len,cap,rfl,_⟩:=hr.Hl hi;rfl
         obtain⟨L2,hm2,hnil,hget,qZ⟩:=ZQ hr.mem hone hs2;obtain⟨BX,nP,hX,hY⟩:=Bi.split (qZ A1 [] (by simpa using St.mobs hr));have hr2:Rel Z s2 σs A1 L2 σ w:=Rel.as (h:=(⟨St.lt hr,hr.facts,hY.Jg λ_ h=> .inl h⟩:St A1 w _ (L2.map MD.Cx))) (i:=1) rfl hm2 rfl;have hL0:Bi w (λb=>¬BX b) ((Ex L1 (Hj c.ps) ls).map MD.Cx):=FM (N:=λ_=>True) his (by simpa using hX);have key:∀R0:Reg,(∀b,A1 b/\Z.R b->R0 b)-> (Hm (Hj c.ps) ls=[]\/∀b,R0 b)-> (OR c=true->∀b,R0 b->A1 b/\Z.R b)->
           Ju P n ops ⟨some dn, .call ⟨.value g,as,ts⟩,ty,pos,after,none⟩ Z s σs k r G A L σ w:=by
          intro R0 h1 h2 h3;have hb1:∀b,A1 b/\Z.R b->R0 b/\ ¬BX b:=λb hb=>⟨h1 b hb,λhx=>(nP b hx).1 hb.1⟩;obtain⟨rY,e1,e2,e3,e4⟩:=UG (B1:=λb=>R0 b/\ ¬BX b) hr hb1 (Hj c.ps) ls x is ⟨[],[],[]⟩ [] (Ex L1 (Hj c.ps) ls) hx his (λi hi z E v cc tO=>by
           rcases h2 with h2|h2
           ·rw[h2]at hi;cases hi
           ·have hni:Jh i is=false:=by
             have:=pB;simp only[xH,xR,vB]at this;exact this i hi
            have rZ:=(hget i hni).trans tO;obtain⟨o,g1,g2⟩:=Bi.pN hY (hr2.Cx rZ);exact(Go.Lv.Hl g1).step (λb hb=>⟨h2 b,λhx=>g2 b hb (.inr hx)⟩) (λ_ _=>rfl)) rfl rfl
          obtain⟨ps,h5,h6⟩:=HL hls hpv e3;have mY:XH c.ps x=rY:=by unfold XH;rw[e1];rfl
          have hcall:=hcon.ok R0 (λb=>¬BX b) w _ _ ps x y h5 (by rw[mY];exact e2) (by rw[mY];exact e4) hL0 h6 (λp hp=>by
           obtain⟨hA,T1,fr,hh⟩:=hr.bB (hT.2▸hp);exact⟨lt_of_heap hh,λhx=>(nP _ hx).1 hA.1,T1,fr,hh⟩) hy
          have hxe':=hxe hcon.ent;rw[vK]at hxe';refine WL.e (Rc hd) hxe' hcall ?_;rintro e w' ⟨us,rfl,hk,A2,LL,hA2,sA,hres⟩;refine⟨_,rfl,WL.nil ?_⟩;have hnew:∀b,A2 b->Z.R b:=λb hb=>by
           rcases(hA2 b hb).1 with h7|h7
           ·exact hr.out (nP b (Classical.not_not.1 h7)).1
           ·refine Z.new b ?_;have h8:Z.w0.heap.size<=w.heap.size:=(hr.fact 1 (f:= .old Z.M Z.w0) rfl).1.le;omega
          obtain⟨ps',its,g1,g2,g3,g4,g5⟩:=hres s2 L2 (λb=>(A1 b\/A2 b)/\Z.R b) hr2.len.symm (λb hb=>⟨.inr hb,hnew b hb⟩) (λhro b hb=>by
           rcases hb with hb|⟨p,hp,rfl⟩
           ·exact⟨.inl (h3 hro b hb.1).1,(h3 hro b hb.1).2⟩
           ·exact⟨.inl (hr.bB (hT.2▸hp)).1.1,(hr.bB (hT.2▸hp)).1.2⟩)
          have hr':=Rel.gD hr2 nP hY hk hA2 sA g4 g5;obtain⟨hv,hv'⟩:=ZT g3;rw[g2]at h;refine⟨_,λb=>A1 b\/A2 b,L2++LL,h,?_,λgg=>?_⟩
          ·rw[g1];exact hr'.Cl (d:=some dn) hv hv'
          ·obtain⟨e1',e2',e3'⟩:=hsame gg;obtain⟨c',hc',hno,_⟩:=hG gg;rw[hc]at hc';cases hc';have sB:=HS hno his;subst sB;have sC:s1=s2:=by simpa [S.LD]using hs2
           have sD:=hnil rfl;subst sC sD e1' e2' e3';rw[g1];exact⟨λb hb=> .inl hb,λb hb=>hk.same b (St.lt hr b hb) λhx=>(nP b hx).1 hb,⟨LL,rfl⟩,⟨its,rfl⟩⟩
         cases hro':OR c with
         |true=>
          refine key (λb=>A1 b/\Z.R b) (λ_ h=>h) (.inl ?_) (λ_ _ h=>h);rw[hro']at kA;simp only[xF,xH]at kA;exact isEmpty_nil kA
         |false=>exact key (λ_=>True) (λ_ _=>trivial) (.inr λ_=>trivial) (λh=>by rw[hro']at h;cases h)
  ·cases h
 ·rename_i hn;obtain⟨hP,h⟩:=Aj h;have hpv:=By.append (BI hr0.mem.sl _ hP) nQ;obtain⟨he,hcall⟩:=hI Z hT.2 f _ s _ r σs A L σ w _ h hr0 hpv;refine WL.e (Rc hd) (hxe he) hcall ?_;rintro e w' ⟨v,p,s',A',L',rfl,hk,hr',hv,hv'⟩;refine⟨_,rfl,WL.nil ⟨_,A',L',hk,hr'.Cl (d:=some dn) hv hv',λgg=>?_⟩⟩;obtain⟨c,hc,_⟩:=hG gg;rw[hn]at hc;cases hc
end Go.Rx
namespace Go.Rx
open Go Go.Lv
variable{o:BinOp}{e:ET}{x y:Operand}{v:PV}{G:Prop}{vy:Value}
variable {P:Program} {B B':Reg} {w w':World} {L L':List MD} {s:S} {σs:List Env} {σ:Env} {Z:Fix} {A A':Reg} {n:Nat} {ops:Array Oper}
variable {R:Type} {k:S->Option R} {r:R} {d:Option Nat} {ty:TypeId} {pos:String} {after:Array Edge} {T:Tab} {inl:HW R}
theorem Oy{l:List Oper}{K K':Env->World->Prop}(h:WL P n ops l K σ w)(hk:∀σ w,K σ w->K' σ w):WL P n ops l K' σ w:=by
 have:=WL.cut (rest:=[]) K l h (λσ w h=>WL.nil (hk σ w h));rwa [vK]at this
theorem look_ok{a:UInt8}{z:PV}{kk:PV->Option R}:∀{es:List MapEntry} {ks:List UInt8} {vs:List PV} {i:Nat},es.map (·.key)=ks.map (λk=>iv (T:=UInt8) (k:= .u8) k)->By B w L vs (es.map (·.val))->rG a kk z ks vs=some r->
  ∃res,Instr.findNow (.int .u8) (iv (T:=UInt8) (k:= .u8) a) es i=some res/\match res with
   |some (_,v)=>∃p:PV,cP p.isA (Am B w L p) v/\kk (.tup [p, .b true])=some r
   |none=>kk (.tup [z, .b false])=some r
 |[],[],[],i,_,_,h=>⟨none,rfl,h⟩
 |[],[],_::_,i,_,⟨_,_,e,_⟩,h=>by cases e
 |[],_::_,_,i,h,_,_=>by cases h
 |_::_,[],_,i,h,_,_=>by cases h
 |e::es,q::ks,[],i,_,h,_=>by cases h
 |e::es,q::ks,p::vs,i,hk,⟨v,vs',hv,h1,h2⟩,h=>by
  simp only[vN,xG]at hk hv;obtain⟨hk1,hk2⟩:=hk;obtain⟨rfl,rfl⟩:=hv;have hs:Instr.sameNow (.int .u8) (iv (T:=UInt8) (k:= .u8) a) e.key=some (geq a q):=by
   rw[hk1];rfl
  unfold rG at h;cases hb:geq a q with
  |true=>
   rw[hb,vP rfl]at h;exact⟨some (i,e.val),by simp only[Instr.findNow,hs,hb],p,h1,h⟩
  |false=>
   rw[hb,vL A9]at h;obtain⟨res,g1,g2⟩:=look_ok (i:=i+1) hk2 h2 h;exact⟨res,by simp only[Instr.findNow,hs,hb];exact g1,g2⟩
theorem eX{t:TypeId}{ix:Operand}{dn:Nat}(hr:Rel Z s σs A L σ w)(hd:Dt n ⟨some dn, .lookup t x ix true,ty,pos,after,none⟩=true)(h:bO P s dn t x ix k=some r):
  Ju P n ops ⟨some dn, .lookup t x ix true,ty,pos,after,none⟩ Z s σs k r G A L σ w:=by
 have hm:=hr.mem;unfold bO at h;split at h
 ·rename_i ks vs e a kt et hx hix ht;split at h
  ·rename_i a' hkt;split at h
   ·rename_i inf He;split at h
    ·rename_i hz;obtain⟨rr,es,c,h1,h2,h3,h4,h5⟩:=Bg hm.sl hx rfl;have hxv:ev σ x= .map (some rr):=by simpa using h1
     have hiv:ev σ ix=iv (T:=UInt8) (k:= .u8) a':=Ni (Bg hm.sl hix rfl);obtain⟨res,g1,g2⟩:=look_ok (i:=0) h4 h5 h;have tP:(zeroValue et).run P w= .ok .nilFunc w:=by simp[zeroValue,typeInfo,He,hz]
     have hck:(Instr.checkKey es.isEmpty 10000 kt (iv (T:=UInt8) (k:= .u8) a')).run P w= .ok () w:=yU hkt (show MapKept.IsKey (.int .u8) (.int .u8 _)from rfl) _ 9999;have rH:=MapKept.run_findKey (P:=P) (w:=w) hkt g1;have hgo:=yM (P:=P) h3;cases res with
     |none=>
      refine Bp (p:= .tup [.cst .nilFunc, .b false]) (val:= .tuple #[.nilFunc, .bool false]) (d:=some dn) hr hd (λ_ _ _ _ _=>?_) rfl ?_ g2
      ·simp[execOp,hxv,hiv,Instr.lookup,uL ht,hgo,hck,rH,tP,Result.andThen]
      ·exact⟨[.nilFunc, .bool false],rfl, .nilFunc,[.bool false],rfl,⟨rfl,rfl⟩,_,[],rfl,rfl,rfl⟩
     |some q=>
      obtain⟨j,v⟩:=q;obtain⟨p,k1,k2⟩:=g2;refine Bp (p:= .tup [p, .b true]) (val:= .tuple #[v, .bool true]) (d:=some dn) hr hd (λ_ _ _ _ _=>?_) rfl ?_ k2
      ·simp[execOp,hxv,hiv,Instr.lookup,uL ht,hgo,hck,rH,Result.andThen]
      ·exact⟨[v, .bool true],rfl,v,[.bool true],rfl,k1,_,[],rfl,rfl,rfl⟩
    ·cases h
   ·cases h
  ·cases h
 ·cases h
theorem TI{cs:Array Value}(h:DS P ty (.agg cs)=some v)(hA:v.isA=true):v.isV=true/\Bw B w L v (.agg cs):=by
 have h1:=DH (B:=B) (w:=w) (L:=L) h;have h2:Dg B w L v (.agg cs):=by
  unfold Dg;rw[hA];exact⟨cs.toList,A9,h1⟩
 exact Dp h2
theorem WI{a:Option R}:∀{l:List (Option R)},both a l=some r->a=some r/\∀b∈l,b=some r
 |[],h=>⟨h,A9⟩
 |b::l,h=>by
  unfold both at h;split at h
  ·rename_i hab;obtain⟨h1,h2⟩:=WI h;exact⟨h1,λc hc=>by
    rcases List.mem_cons.1 hc with rfl|hc
    ·exact hab▸h1
    ·exact h2 c hc⟩
  ·cases h
theorem lR{α:Type}{l:List α}{a b:Option R}(h:NG l a b=some r):b=some r/\ (l=[]->a=some r):=by
 cases l with
 |nil=>
  obtain⟨h1,h2⟩:=WI h;exact⟨h2 _ (.head _),λ_=>h1⟩
 |cons x l=>exact⟨h,λe=>by cases e⟩
theorem IJ{t e t':TypeId}{q:Bool}{p:Option Addr}{l c:Nat}(h:OV o=some q)(ht:P.underlying t=some (.slice e))(hx:ev σ x= .slice p l c)(hy:ev σ y= .slice none 0 0):
  XO P σ w (.binOp o t x y t') (.bool (p.isNone==q)):=by
 cases o<;>simp only[OV,uN,reduceCtorEq]at h<;>subst h
 ·have:=X.bin (w:=w) (t':=t') hx hy (Bin.mB ht p l c);simpa using this
 ·have:=X.bin (w:=w) (t':=t') hx hy (Bin.kH ht p l c);cases p<;>simpa using this
theorem elem_nil{B:Reg}{l:List e.T}(hz:Nat.ble 1 e.size=true)(h:Az (Ak B w e) l []):l=[]:=by
 have h1:=Az.len (λx c h=>Ak.len h) h;have h2:1<=e.size:=by simpa using hz
 cases l with
 |nil=>rfl
 |cons a l=>
  simp only[wE,List.length_nil]at h1;have:0<(l.length+1)*e.size:=zE A7 A7;omega
theorem jE{t t':TypeId}{a:PV}{dn:Nat}(hr:Rel Z s σs A L σ w)(hd:Dt n ⟨some dn, .binOp o t x y t',ty,pos,after,none⟩=true)(hx:Bs s.sl x=a)(hy:Bs s.sl y= .nils)
  (h:iM P s dn o t a k=some r):Ju P n ops ⟨some dn, .binOp o t x y t',ty,pos,after,none⟩ Z s σs k r G A L σ w:=by
 have hm:=hr.mem;have hy':=Mb (Bg hm.sl hy rfl);unfold iM at h;split at h
 ·rename_i q e hq ht;have main:∀{α:Type} {l:List α} {p:Option Addr} {len c:Nat},ev σ x= .slice p len c-> (p=none->l=[])->NG l (k (s.set dn (.b q))) (k (s.set dn (.b (!q))))=some r->Ju P n ops ⟨some dn, .binOp o t x y t',ty,pos,after,none⟩ Z s σs k r G A L σ w:=by
   intro α l p len c hv hp h;obtain⟨h1,h2⟩:=lR h;cases hn:p.isNone with
   |true=>
    have hk:=h2 (hp (by simpa using hn));have hxo:=IJ (w:=w) (t':=t') hq ht hv hy';rw[hn]at hxo;have hb:(true==q)=q:=by cases q<;>rfl
    rw[hb]at hxo;exact Bp (p:= .b q) hr hd hxo rfl rfl hk
   |false=>
    have hxo:=IJ (w:=w) (t':=t') hq ht hv hy';rw[hn]at hxo;have hb:(false==q)=!q:=by cases q<;>rfl
    rw[hb]at hxo;exact Bp (p:= .b (!q)) hr hd hxo rfl rfl h1
  split at h
  ·have hv:=Mb (Bg hm.sl hx rfl);have hxo:=IJ (w:=w) (t':=t') hq ht hv hy';have hb:((none:Option Addr).isNone==q)=q:=by cases q<;>rfl
   rw[hb]at hxo;exact Bp (p:= .b q) hr hd hxo rfl rfl h
  ·split at h
   ·obtain⟨hz,h⟩:=Aj h;obtain⟨c0,h1,h2⟩:=Kj (Bg hm.sl hx rfl);have h1':=h1;obtain⟨p,len,cap,hv,h3,h4,h5,h6⟩:=h1;refine main hv (λhp=>?_) h;subst hp;have:c0=[]:=Go.Lv.Rd.ZX (by rw[<-hv];exact h1');subst this;have:=h5 rfl;exact elem_nil hz h2
   ·cases h
  ·rename_i i;split at h
   ·rename_i E e' l hi;obtain⟨hz,h⟩:=Aj h;obtain⟨v,cs,h1,h2⟩:=hm.arr hi;obtain⟨z,E',c0,h3⟩:=Nj (Bg hm.sl hx rfl);rw[h1]at h3;cases h3;have hrd:=hr.Hl h1;have h1':=hrd;obtain⟨p,len,cap,hv,h4,h5,h6,h7⟩:=hrd;refine main hv (λhp=>?_) h;subst hp;have:cs=[]:=Go.Lv.Rd.ZX (by rw[<-hv];exact h1');subst this;exact elem_nil hz h2
   ·cases h
  ·cases h
 ·cases h
theorem aQ{i b off:Nat}{md:MD}{ns:List Value}{F:List Fact}(hr:St A w F (L.map MD.Cx))(h:L[i]? =some md)(hb:md.base=some b)(h1:ns.all (·.oneCell')=true)(hle:off+ns.length<=md.cells.length)(hz:0<ns.length):
  ∃w' md',(storeCells ⟨b,off,none⟩ ns).run P w= .ok () w'/\St A w' F ((L.map MD.Cx).set i md'.Cx)/\Jb off ns md md':=by
 cases md with
 |dead=>cases hb
 |box b' cells T=>
  cases hb;have hL:(L.map MD.Cx)[i]? =some (Mob.box b cells T):=WA h;have hr':=Ct (P:=P) b T (0,0) ns off 0 cells w (hr.box hL) (by simpa [MD.cells]using hle) (.inr (.inr (vD _))) (λv hv=>by simpa using List.all_eq_true.1 h1 v hv);simp only[xY]at hr';exact⟨_, .box b (Ap cells off ns) T,hr',hr.iN hL,rfl⟩
 |own z' E u cs=>
  obtain⟨b',m,c,hu,hs'⟩:=St.WS hr (WA h) (by simp[MD.cells]at hle;omega);subst hu;cases hb;have hlen:i<(L.map MD.Cx).length:=by simpa using(List.getElem?_eq_some_iff.1 h).1
  have hL:((L.map MD.Cx).set i (.at_ b z' E m c cs))[i]? =some (.at_ b z' E m c cs):=by rw[vM hlen]
  have hle':off+ns.length<=cs.length:=hle;have hcore:∃w',(storeCells ⟨b,off,none⟩ ns).run P w= .ok () w'/\St A w' F (((L.map MD.Cx).set i (.at_ b z' E m c cs)).set i (.at_ b z' E m c (Ap cs off ns))):=by
   obtain⟨o,ho,_,_⟩:=(hs'.front hL).mobs;obtain⟨rfl,ho⟩:=ho;have ho':=ho;obtain⟨_,len,cap,e,h3,h4,h5,h5',h6⟩:=ho;cases e;obtain⟨arr,fr,e,hbb,hsz',hfz,hcells⟩:=h6 b rfl;have hcl:cs.length<=arr.size:=by rw[h3,hsz'];exact uM _ h4
   have hr':=Ct (P:=P) b E fr ns off 0 arr.toList w (by simpa using hbb) A8 (by simp;rcases hfz with h|h;exact .inr (.inr (xZ h.symm));exact .inr (.inl h)) (λv hv=>by simpa using List.all_eq_true.1 h1 v hv);simp only[xY]at hr';have hbl:=lt_of_heap hbb;have hcs':(Ap cs off ns).length=cs.length:=Cg A7;have hget:∀i,i<m*z'-> (Ap arr.toList off ns)[i]? =(Ap cs off ns)[i]? :=λi hi=>by
    have jX:min off arr.toList.length=off:=by simp;omega
    have jY:min off cs.length=off:=A7
    simp only[Ap,wH,vG,jX,jY,uY,vV];by_cases g1:i<off
    ·rw[vP g1,vP g1,vP g1,vP g1];simpa using hcells i hi
    ·rw[vL g1,vL g1];by_cases g2:i-off<ns.length
     ·rw[vP g2,vP g2]
     ·rw[vL g2,vL g2];have e1:off+ns.length+(i-off-ns.length)=i:=A7
      rw[e1];simpa using hcells i hi
   refine⟨_,hr',hs'.Za hL (b:=b) ⟨rfl,ho'⟩ ⟨rfl,_,m,c,rfl,by rw[hcs',h3],h4,h5,h5',λb' hb'=>?_⟩ ?_⟩
   ·cases hb';refine⟨(Ap arr.toList off ns).toArray,fr,rfl,by simp[Ch,hbl],?_,?_,λi hi=>?_⟩
    ·simp only[vI];rw[Cg A8];simpa using hsz'
    ·simp only[vI];rw[Cg A8];simpa using hfz
    ·simpa using hget i hi
   ·rintro⟨q,hq,q1,q2⟩;exact⟨q,hq,q1,q2,hq.1⟩
  obtain⟨w',g1,g2⟩:=hcore;have hs3:=g2.pX (i:=i) (b:=b) (s:=z') (m:=m) (c:=c) (E:=E) (cs:=Ap cs off ns) (by rw[vM (by simpa using hlen)]);rw[yQ,yQ]at hs3;exact⟨w', .own z' E (.slice (some ⟨b,0,none⟩) m c) (Ap cs off ns),g1,hs3,rfl⟩
structure SrcW (P:Program) (w:World) (vy:Value) (z ly:Nat) (ys:List Value):Prop where
 len:(Builtin.lenOf vy).run P w= .ok ly w
 first:∀m,m<=ly-> (Builtin.firstCells z m vy).run P w= .ok (ys.take (m*z)).toArray w
theorem SrcW.rd{z ly:Nat}{ys:List Value}(h:Rd (λ_=>True) w z vy ys)(hl:ys.length=ly*z)(hz:0<z):SrcW P w vy z ly ys:=by
 obtain⟨p,len,cap,rfl,h2,h3,h4,h5⟩:=h;have he:len=ly:=uQ hz (h2.symm.trans hl);subst he;refine⟨rfl,λm hm=>?_⟩;cases p with
 |none=>
  have:m=0:=by have:=h4 rfl;omega
  subst this;simp[Builtin.firstCells]
 |some a=>
  have hlen:(ys.take (m*z)).length=m*z:=by
   rw[vG,h2];have:=uM z hm;omega
  simp only[Builtin.firstCells];by_cases hc:0<cap
  ·obtain⟨b,off,arr,T,fr,e1,_,e2,_,e4⟩:=h5 hc;cases e1;have:=Eu (P:=P) (w:=w) (b:=b) (off:=off) (ys.take (m*z)) (λi hi=>by
    rw[hlen]at hi;have h6:i<len*z:=vE hi (uM z hm);rw[cell_of e2,e4 i h6,uY,vP hi])
   rw[hlen]at this;exact this
  ·have:m=0:=A7
   subst this;simp[loadCells,loadCellsFrom]
theorem SrcW.str{l:List UInt8}:SrcW P w (sv l) 1 l.length (Nx (k:= .u8) l):=by
 refine⟨by simp[Builtin.lenOf,ByteArray.size],λm hm=>?_⟩;simp only[Builtin.firstCells,DM,uT];congr 1;simp[Nx,List.map_take];rfl
theorem UN{t2:TypeId}{m:List e.T}(hr:Rel Z s σs A L σ w)(hz:0<e.size)(h:jA P s e t2 y=some m):∃ys,Az (Ak (λb=>A b/\Z.R b) w e) m ys/\SrcW P w (ev σ y) e.size m.length ys:=by
 have hm:=hr.mem;have plain:elems s e (Bs s.sl y)=some m->∃ys,Az (Ak (λb=>A b/\Z.R b) w e) m ys/\SrcW P w (ev σ y) e.size m.length ys:=by
  intro h;have hV:(Bs s.sl y).isV=true:=by
   cases hq:(Bs s.sl y).isV with
   |true=>rfl
   |false=>rcases Ig hq with h'|h'|⟨_,_,_,h'⟩<;>rw[h']at h<;>cases h
  obtain⟨c0,h1,h2⟩:=Zc hm h (Fw hm.sl y hV);have hrd:Rd (λ_=>True) w e.size (ev σ y) c0:=by
   rcases h2 with h2|⟨j,E',u,cs',_,h2,hpart⟩
   ·exact h2.step (λ_ _=>trivial) (λ_ _=>rfl)
   ·exact hpart _ _ (hr.Hl h2)
  exact⟨c0,h1, .rd hrd (h1.len λx c h=>Ak.len h) hz⟩
 unfold jA at h;split at h
 ·split at h
  ·rename_i m0 hy;unfold Uv at h;split at h
   ·rename_i he;cases he;cases h;rw[Gw hm.sl hy];exact⟨Nx m0,VA.Px, .str⟩
   ·cases h
  ·cases h
 ·unfold gY at h;split at h
  ·rename_i i p e1 lo n' hy;split at h
   ·rename_i T v hi;split at h
    ·rename_i a x hg;split at h
     ·rename_i q a l;obtain⟨hb,h⟩:=Aj h;simp only[uJ,wN]at hb;obtain⟨⟨k1,k2,k3⟩,rfl⟩:=hb;split at h
      ·rename_i ha;subst ha;cases h;obtain⟨md,v1,h3,h4,g1,g2,⟨pt,cap,g3,g4,g5,g6⟩,_⟩:=Bg hm.sl hy rfl;have h6:ev σ y=v1:=by simpa using h4
       obtain⟨b,cells,h7,h8⟩:=hm.box hi;rw[h7]at h3;cases h3;obtain⟨c1,c2,c3,he,h9,h10,h11⟩:=Wk hg h8;have DE:=h11.len λx c h=>Ak.len h;obtain⟨lo',rfl⟩:=uW k1;obtain⟨n1,rfl⟩:=uW k2;simp only[wA]at g3 g4 g6;have hq:lo'+n1<=l.length:=by rw[h10];omega
       have hsub:(Zq l lo' n1).length=n1:=by simp[Zq];omega
       have e5:lo'*a.size+n1*a.size<=l.length*a.size:=by rw[<-vA];exact uM _ hq
       refine⟨(c2.drop (lo'*a.size)).take (n1*a.size),Az.take (λx c h=>Ak.len h) _ (Az.drop (λx c h=>Ak.len h) _ h11),?_,λm hm'=>?_⟩
       ·rw[h6,g3,hsub];rfl
       ·rw[hsub]at hm';rw[h6,g3];have hml:m*a.size<=n1*a.size:=uM _ hm';cases pt with
        |none=>
         have:m=0:=by have:=g5 rfl;omega
         subst this;simp[Builtin.firstCells]
        |some ad=>
         simp only[Builtin.firstCells];by_cases hc:0<cap
         ·obtain⟨bb,e1,e2⟩:=g6 hc;cases e1;cases e2;have hlen3:(((c2.drop (lo'*a.size)).take (n1*a.size)).take (m*a.size)).length=m*a.size:=by
           simp only[vG,xB,DE];omega
          have:=Eu (P:=P) (w:=w) (b:=b) (off:=Ah p+lo'*a.size) (((c2.drop (lo'*a.size)).take (n1*a.size)).take (m*a.size)) (λi hi=>by
           rw[hlen3]at hi;have hcl:Ah p+lo'*a.size+i<(MD.box b cells T).cells.length:=by
            simp only[MD.cells,he,uR,h9,DE];omega
           rw[hr.cells h7 rfl _ hcl];simp only[MD.cells];rw[he,uU A7,h9,show Ah p+lo'*a.size+i-Ah p=lo'*a.size+i by omega,uO (by rw[DE];omega),
            uY,vP hi,uY,vP A7,vV])
          rw[hlen3]at this;exact this
         ·have:m=0:=A7
          subst this;simp[loadCells,loadCellsFrom]
      ·cases h
     ·cases h
    ·cases h
   ·cases h
  ·exact plain h
 ·cases h
theorem KH(cs:List Value)(o:Nat):Ap cs o []=cs:=by simp[Ap]
theorem YT{t t2 E:TypeId}{vx:Value}{z ly nv TH off i:Nat}{pt:Option Addr}{ys:List Value}{md:MD}{F:List Fact}(ht:P.underlying t=some (.slice E))(hsz:Dh P E z)(hsrc:SrcW P w vy z ly ys)(hys:ys.length=ly*z)(h1:ys.all (·.oneCell')=true)
  (hr:St A w F (L.map MD.Cx)) (h:L[i]? =some md) (hne:md≠ .dead) (hx:vx= .slice pt nv TH) (hcap:nv<=TH) (hpt:pt=none->TH=0) (hb:0<TH->∃b,md.base=some b/\pt=some ⟨b,off,none⟩) (hle:off+nv*z<=md.cells.length) (hz:0<z):
  ∃w' md',(Builtin.copy_ #[t,t2] ty #[vx,vy]).run P w= .ok (goInt (Nat.min ly nv)) w'/\St A w' F ((L.map MD.Cx).set i md'.Cx)/\Jb off (ys.take (nv*z)) md md':=by
 subst hx;have hmin:Nat.min ly nv<=ly:=Nat.min_le_left _ _;have XK:=hsrc.first _ hmin
 have htake:ys.take (Nat.min ly nv*z)=ys.take (nv*z):=by
  rcases Nat.le_total ly nv with h'|h'
  ·rw[show Nat.min ly nv=ly from yS h',<-hys,List.take_length,xJ (by rw[hys];exact uM z h')]
  ·rw[show Nat.min ly nv=nv from yL h']
 rw[htake]at XK;have hmul:Nat.min ly nv*z<=nv*z:=uM z (Nat.min_le_right _ _);have hlen:(ys.take (nv*z)).length=Nat.min ly nv*z:=by
  rw[<-htake,vG,hys];have:=uM z hmin;omega
 have hnone:(ys.take (nv*z))=[]->∃w' md',(Builtin.copy_ #[t,t2] ty #[.slice pt nv TH,vy]).run P w= .ok (goInt (Nat.min ly nv)) w'/\St A w' F ((L.map MD.Cx).set i md'.Cx)/\Jb off (ys.take (nv*z)) md md':=by
  intro he;refine⟨w,md,?_,?_,?_⟩
  ·rw[he]at XK;cases pt<;>simp[Builtin.copy_,uL ht,hsrc.len,As hsz,XK,storeCells]
  ·rw[List.getElem?_eq_some_iff]at h;obtain⟨hlt,h⟩:=h;have:(L.map MD.Cx).set i md.Cx=L.map MD.Cx:=by
    rw[<-xD,<-h,List.set_getElem_self]
   rw[this];exact hr
  ·rw[he];cases md with
   |dead=>exact absurd rfl hne
   |box b c T=>simp only[Jb,KH]
   |own z' E' v c=>simp only[Jb,KH]
 by_cases he:(ys.take (nv*z))=[]
 ·exact hnone he
 ·have hpos:0<(ys.take (nv*z)).length:=List.length_pos_iff.2 he;have hm0:0<Nat.min ly nv:=by
   rcases yA (Nat.min ly nv)with h'|h'
   ·rw[hlen,h']at hpos;simp at hpos
   ·exact h'
  have uH:0<nv:=vE hm0 (Nat.min_le_right _ _);obtain⟨b,e1,e2⟩:=hb A7;subst e2;obtain⟨w',md',g1,g2,g3⟩:=aQ (P:=P) (off:=off) hr h e1 (ns:=ys.take (nv*z)) (List.all_eq_true.2 λv hv=>List.all_eq_true.1 h1 v (List.mem_of_mem_take hv)) (by rw[hlen];omega) hpos;refine⟨w',md',?_,g2,g3⟩;simp[Builtin.copy_,uL ht,hsrc.len,As hsz,XK,g1]
theorem ZK(nv k:Nat):CR (nv:Int) k=((Nat.min k nv:Nat):Int):=by
 unfold CR;rcases wG k nv with h|h
 ·rw[vP A7,show Nat.min k nv=k from yS A7]
 ·rw[vL A7,show Nat.min k nv=nv from yL h]
theorem NK{B:Reg}{l m:List e.T}{cs ys:List Value}{lo nv:Nat}(hl:Az (Ak B w e) l cs)(hm:Az (Ak B w e) m ys):Az (Ak B w e) (Jw l lo nv m) (Ap cs (lo*e.size) (ys.take (nv*e.size))):=by
 have h1:=Az.take (λx c h=>Ak.len h) nv hm;have h2:=h1.len λx c h=>Ak.len h;have h3:=Az.take (λx c h=>Ak.len h) lo hl;have h4:=Az.drop (λx c h=>Ak.len h) (lo+(m.take nv).length) hl;unfold Jw Ap;simp only[wA];refine Az.append h3 (Az.append h1 ?_);rw[h2,<-vA];exact h4
theorem gQ{α:Type}(l m:List α):eB l m=Jw l ((0:Nat):Int) ((l.length:Nat):Int) m:=by
 unfold eB Jw;simp only[wA,yD,wS,wO,vG];congr 1;rcases Nat.le_total m.length l.length with h|h
 ·rw[yL h]
 ·rw[yS h,wR (vD _),wR h]
theorem XS{t t2 E E':TypeId}{l m:List e.T}{ys cs:List Value}{u:Value}{lo nv TH i:Nat}{pt:Option Addr}{ow:Option Nat}(hr:Rel Z s σs A L σ w)(hd:Dt n ⟨ow, .call ⟨.builtin .copy, #[x,y], #[t,t2]⟩,ty,pos,after,none⟩=true)
  (ht:P.underlying t=some (.slice E)) (hsz:Dh P E e.size) (hz:0<e.size) (hit:Bd s.it i= .arr E' e l) (hL:L[i]? =some (.own e.size E' u cs)) (hl:Az (Ak (λb=>A b/\Z.R b) w e) l cs) (hm:Az (Ak (λb=>A b/\Z.R b) w e) m ys) (hsrc:SrcW P w (ev σ y) e.size m.length ys)
  (hx:ev σ x= .slice pt nv TH) (hcap:nv<=TH) (hpt:pt=none->TH=0) (hb:0<TH->∃b,(MD.own e.size E' u cs).base=some b/\pt=some ⟨b,lo*e.size,none⟩) (hle:lo+nv<=l.length)
  (hk:k ((s.Hi i (.arr E' e (Jw l lo nv m))).Cl ow (.i .i64 (CR (nv:Int) m.length)))=some r):Ju P n ops ⟨ow, .call ⟨.builtin .copy, #[x,y], #[t,t2]⟩,ty,pos,after,none⟩ Z s σs k r False A L σ w:=by
 have hcl:=hl.len λx c h=>Ak.len h;have hyl:=hm.len λx c h=>Ak.len h;have hF:=St.GY (f:=NU Z.R L (.arr E' e (Jw l lo nv m)) (Ap cs (lo*e.size) (ys.take (nv*e.size)))) hr (NK hl hm);obtain⟨w',md',g1,g2,g3⟩:=YT (P:=P) (ty:=ty) (t2:=t2) (off:=lo*e.size) ht hsz hsrc hyl hm.WG hF hL (by intro h;cases h) rfl hcap hpt hb (by
  show lo*e.size+nv*e.size<=cs.length;rw[hcl,<-vA];exact uM _ hle) hz
 simp only[Jb]at g3;subst g3;have key:=Xs.own (cs':=Ap cs (lo*e.size) (ys.take (nv*e.size))) hL;have hr2:=Rel.change (a:= .arr E' e (Jw l lo nv m)) g2.KQ hL key ⟨rfl,rfl,g2.fact 0 rfl⟩;refine WL.bS (v:=goInt (Nat.min m.length nv)) rfl hd ?_ (WL.nil ⟨_,A,_,hk,hr2.Cl rfl ?_,λh=>h.elim⟩)
 ·simp[execOp,resolve,invoke,builtin,hx,g1]
 ·rw[ZK];rfl
theorem dO{t t2:TypeId}{ow:Option Nat}(hr:Rel Z s σs A L σ w)(hd:Dt n ⟨ow, .call ⟨.builtin .copy, #[x,y], #[t,t2]⟩,ty,pos,after,none⟩=true)
  (h:VG P s ow x y t t2 k=some r):Ju P n ops ⟨ow, .call ⟨.builtin .copy, #[x,y], #[t,t2]⟩,ty,pos,after,none⟩ Z s σs k r False A L σ w:=by
 have hmm:=hr.mem;unfold VG at h;split at h
 ·cases h
 ·rename_i E hE;have ht:=Uf hE;split at h
  ·cases h
  ·rename_i inf He;split at h
   ·rename_i i hx;split at h
    ·rename_i E' e l hit;obtain⟨hb,h⟩:=Aj h;simp only[uJ]at hb;have hz:0<e.size:=by have:=uZ hb.2;omega
     split at h
     ·rename_i m hsrc;obtain⟨ys,h1,h2⟩:=UN hr hz hsrc;obtain⟨u,cs,h3,h4⟩:=hmm.arr hit;obtain⟨z',E2,c',h5⟩:=Nj (Bg hmm.sl hx rfl);rw[h3]at h5;cases h5;obtain⟨q,len,cap,g1,g2,g3,g4,g5⟩:=hr.oK h3;have hl:len=l.length:=uQ hz (g2.symm.trans (h4.len λx c h=>Ak.len h));rw[gQ]at h;exact XS (lo:=0) (nv:=l.length) (ys:=ys) hr hd ht (Cc He hb.1) hz hit h3 h4 h1 h2 (by rw[g1,hl]) A7 g4 (λhc=>by obtain⟨b,e1,e2⟩:=g5 hc;exact⟨b,e2,by rw[e1];simp⟩) A7 h
     ·cases h
    ·cases h
   ·rename_i i p e1 lo n' hx;split at h
    ·rename_i E' e l hit;obtain⟨hb,h⟩:=Aj h;simp only[uJ,wN]at hb;obtain⟨⟨hb1,hb2⟩,rfl⟩:=hb;have hz:0<e1.size:=by have:=uZ hb2;omega
     split at h
     ·rename_i m hsrc;obtain⟨ys,h1,h2⟩:=UN hr hz hsrc;obtain⟨u,cs,h3,h4⟩:=hmm.arr hit;obtain⟨md,v1,h5,h6,k1,k2,⟨pt,cap,k3,k4,k5,k6⟩,k7,_⟩:=Bg hmm.sl hx rfl;rw[h3]at h5;cases h5;have h7:ev σ x=v1:=by simpa using h6
      obtain⟨lo',rfl⟩:=uW k1;obtain⟨n1,rfl⟩:=uW k2;simp only[wA]at k3 k4 k6 k7;obtain⟨s',E2,q,len,cap0,c0,e1',rfl,e3,_⟩:=k7 trivial;cases e1';obtain⟨q',len',cap',g1,g2,_⟩:=hr.oK h3;cases g1;have hl:len=l.length:=uQ hz (g2.symm.trans (h4.len λx c h=>Ak.len h));exact XS (lo:=lo') (nv:=n1) (ys:=ys) hr hd ht (Cc He hb1) hz hit h3 h4 h1 h2 (h7.trans k3) k4 k5 (λhc=>by obtain⟨b,e4,e5⟩:=k6 hc;exact⟨b,e4,by rw[e5];simp[Ah]⟩) A7 h
     ·cases h
    ·cases h
   ·rename_i i p e1 lo n' hx;split at h
    ·rename_i T v hit;split at h
     ·rename_i a0 x0 hg;split at h
      ·rename_i q e l;obtain⟨hb,h⟩:=Aj h;simp only[uJ,wN]at hb;obtain⟨⟨⟨hb1,hb2⟩,rfl⟩,k1,k2,k3⟩:=hb;have hz:0<e1.size:=by have:=uZ hb2;omega
       split at h
       ·rename_i m hsrc;obtain⟨ys,h1,h2⟩:=UN hr hz hsrc;obtain⟨md,v1,h5,h6,_,_,⟨pt,cap,g3,g4,g5,g6⟩,_⟩:=Bg hmm.sl hx rfl;have h7:ev σ x=v1:=by simpa using h6
        obtain⟨b,cells,h8,h9⟩:=hmm.box hit;rw[h8]at h5;cases h5;obtain⟨c1,c2,c3,he,h10,h11,h12⟩:=Wk hg h9;have DE:=h12.len λx c h=>Ak.len h;have hyl:=h1.len λx c h=>Ak.len h;obtain⟨lo',rfl⟩:=uW k1;obtain⟨n1,rfl⟩:=uW k2;simp only[wA]at g3 g4 g6;have hq:lo'+n1<=l.length:=by rw[h11];omega
        have e5:lo'*e1.size+n1*e1.size<=l.length*e1.size:=by rw[<-vA];exact uM _ hq
        have hk1:=Az.take (λx c h=>Ak.len h) n1 h1;have hk2:=hk1.len λx c h=>Ak.len h;have hk3:(ys.take (n1*e1.size)).length<=n1*e1.size:=by rw[vG];omega
        have hcp:=NK (lo:=lo') (nv:=n1) h12 h1;have rA:(Ap c2 (lo'*e1.size) (ys.take (n1*e1.size))).length=c2.length:=Cg (by rw[DE];omega);have sE:Am (λb=>A b/\Z.R b) w L (.val (.vec q e1) (Jw l lo' n1 m)) (Ap c2 (lo'*e1.size) (ys.take (n1*e1.size))):=by
         refine⟨?_,hcp⟩;have:=hcp.len λx c h=>Ak.len h;rw[rA,DE]at this;rw[<-h11];exact(uQ hz this).symm
        obtain⟨v',hk,_,hv'⟩:=FP sE h h9;have hcells:Ap cells (Ah p) (Ap c2 (lo'*e1.size) (ys.take (n1*e1.size)))=Ap cells (Ah p+lo'*e1.size) (ys.take (n1*e1.size)):=by
         rw[he,Tt h10 _ (by rw[DE];omega),<-h10,Vm rA]
        rw[hcells]at hv';have hF:=St.GY (f:=NU Z.R L (.box T v') (Ap cells (Ah p+lo'*e1.size) (ys.take (n1*e1.size)))) hr hv';obtain⟨w',md',g1,g2,g3'⟩:=YT (P:=P) (ty:=ty) (t2:=t2) (off:=Ah p+lo'*e1.size) ht (Cc He hb1) h2 hyl h1.WG hF h8 (by intro h;cases h) rfl g4 g5 (λhc=>by obtain⟨b,e4,e5⟩:=g6 hc;exact⟨b,e4,e5⟩) (by
         show Ah p+lo'*e1.size+n1*e1.size<=cells.length;rw[he];simp only[uR,h10,DE];omega) hz
        simp only[Jb]at g3';subst g3';have key:=Xs.box (cs':=Ap cells (Ah p+lo'*e1.size) (ys.take (n1*e1.size))) h8;have hr2:=Rel.change (a:= .box T v') g2.KQ h8 key ⟨rfl,Am.step (λ_ h=>h) (λ_ _=>rfl) key (g2.fact 0 rfl)⟩;refine WL.bS (v:=goInt (Nat.min m.length n1)) rfl hd ?_ (WL.nil ⟨_,A,_,hk,hr2.Cl rfl ?_,λh=>h.elim⟩)
        ·rw[<-g3,<-h7]at g1;simp[execOp,resolve,invoke,builtin,g1]
        ·rw[ZK];rfl
       ·cases h
      ·cases h
     ·cases h
    ·cases h
   ·cases h
theorem NN{g:Nat}{cs:List Value}:∀{l:List (Nat×List Value)},kQ l g=some cs-> (g,cs)∈l
 |[],h=>by cases h
 |(q,c)::r,h=>by
  simp only[kQ]at h;cases hb:Nat.beq q g with
  |true=>
   rw[hb]at h;have:=Bc hb;subst this;cases h;exact .head _
  |false=>rw[hb]at h;exact .tail _ (NN h)
theorem bK{g:Nat}{t:TypeId}(hT:Xt P T Z)(hr:Rel Z s σs A L σ w)(h:T.nM P g t=some v):∃cs T1 fr,w.heap[g]? =some (.cells cs.toArray T1 fr)/\ (A g/\Z.R g)/\Am (λb=>A b/\Z.R b) w L v cs:=by
 unfold Tab.nM at h;split at h
 ·rename_i cs hg;split at h
  ·rename_i v' hp;cases h;obtain⟨h1,T1,fr,h2⟩:=hr.bB (p:=(g,cs)) (by rw[hT.2];exact NN hg);obtain⟨c,e1,h3⟩:=Uh (B:=λb=>A b/\Z.R b) (w:=w) (L:=L) Q hp;rw[vK]at e1;subst e1;exact⟨_,T1,fr,h2,h1,h3⟩
  ·cases h
 ·cases h
theorem WH{o:Op}{g dn:Nat}(hT:Xt P T Z)(hr:Rel Z s σs A L σ w)(hd:Dt n ⟨some dn,o,ty,pos,after,none⟩=true)
  (ho:(∃t,o= .load t (.global g))\/ (∃t ix,o= .indexAddr t (.global g) ix)\/ (∃t lo hi,o= .slice t (.global g) lo hi none)) (h:ER P T s dn g o k=some r):
  Ju P n ops ⟨some dn,o,ty,pos,after,none⟩ Z s σs k r G A L σ w:=by
 have hm:=hr.mem;rcases ho with⟨t,rfl⟩|⟨t,ix,rfl⟩|⟨t,lo,hi,rfl⟩
 ·simp only[ER]at h;split at h
  ·rename_i v hv;obtain⟨hb,hk⟩:=Aj h;obtain⟨cs,T1,fr,h1,h2,h3⟩:=bK hT hr hv;obtain⟨val,h7,h8⟩:=RU (P:=P) (σ:=σ) (x:= .global g) (b:=g) (off:=0) (Fz hb) h3 (λj hj=>by rw[cell_of h1];simp) rfl;obtain⟨hv,hv'⟩:=Dp h7;exact Bp hr hd h8 hv hv' hk
  ·cases h
 ·simp only[ER]at h;split at h
  ·rename_i j m et e0 l0 hj ht hv;obtain⟨q,hix⟩:=Mw hj (Fw hm.sl ix (Rz hj));split at h
   ·rename_i inf m' e l He;obtain⟨hb,h⟩:=Aj h;simp only[uJ]at hb;obtain⟨y,hy,hk⟩:=bind_some h;obtain⟨hj0,hj1,hj2⟩:=Dk hy;obtain⟨cs,T1,fr,h1,h2,h3,h4⟩:=bK hT hr hv;obtain⟨c1,c2,c3,he,h8,h9,_⟩:=Az.get (λx c h=>Ak.len h) h4 hj2;have hmm:=Bc hb.1.1;subst hmm;have h10:c2.length=e.size:=h9.len;have hp:UT (λb=>A b/\Z.R b) w (.pointer (some ⟨g,0+j.toNat*e.size,none⟩)) c2:=by
     refine⟨g,0+j.toNat*e.size,_,T1,fr,rfl,h2,h1,λq hq=>?_⟩;rw[vQ,he,wO,uU A7,h8,show j.toNat*e.size+q-j.toNat*e.size=q by omega,uO hq]
    have jZ:Bw (λb=>A b/\Z.R b) w L (.rptr (e.pv y)) (.pointer (some ⟨g,0+j.toNat*e.size,none⟩)):=⟨_,c2,rfl,hp,Tn.2 h9⟩;exact Bp hr hd (Ti (x:= .global g) ht (Cc He hb.1.2) rfl hix A7 (by rw[<-show l.length=m' from h3];omega) w) rfl jZ hk
   ·cases h
  ·cases h
 ·simp only[ER]at h;split at h
  ·rename_i u m et hat;split at h
   ·rename_i e0 l0 hv;split at h
    ·rename_i inf m' e l He;obtain⟨hb,h⟩:=Aj h;simp only[uJ]at hb;split at h
     ·rename_i a b ha hb';obtain⟨y,hy,hk⟩:=bind_some h;obtain⟨k1,k2,k3,k4,rfl⟩:=Pb hy;obtain⟨cs,T1,fr,h1,h2,h3,h4⟩:=bK hT hr hv;have hmm:=Bc hb.1.1;subst hmm;have hlen:=h4.len λx c h=>Ak.len h;have hz:0<e.size:=by have:=uZ hb.2;omega
      have sA:l.length=m':=h3;have hxo:=X.UF (P:=P) (σ:=σ) (w:=w) (x:= .global g) (lo:=lo) (hi:=hi) (a:=a.toNat) (b:=b.toNat) (ad:=⟨g,0,none⟩) hat (Cc He hb.1.2) k3 A7 rfl
       (by rcases Ej hm.sl ha with h|⟨h,h'⟩;exact .inl (by rw[<-k1];exact h);exact .inr ⟨h,A7⟩) (by rcases Ej hm.sl hb' with h|⟨h,h'⟩;exact .inl (by rw[<-k2];exact h);exact .inr ⟨h,A7⟩)
      have e5:a.toNat*e.size<=b.toNat*e.size:=uM _ k3;have e6:b.toNat*e.size<=l.length*e.size:=uM _ k4;have e7:(b.toNat-a.toNat)*e.size=b.toNat*e.size-a.toNat*e.size:=wU _ _ _;refine Bp hr hd hxo rfl (BM ⟨_,_,_,rfl,?_,A7,(λh=>by cases h),λhc=>?_⟩ (Az.drop (λx c h=>Ak.len h) _ (Az.take (λx c h=>Ak.len h) _ h4))) hk
      ·rw[xB,vG,hlen,e7];omega
      ·rw[vL A7,Fj];refine⟨g,0+a.toNat*e.size,_,T1,fr,rfl,h2,h1,?_,λi hi=>?_⟩
       ·simp only[vI,hlen,sA];have:(m'-a.toNat)*e.size=m'*e.size-a.toNat*e.size:=wU _ _ _;have:a.toNat*e.size<=m'*e.size:=uM _ A7;omega
       ·rw[vQ,wO,vV,uY,vP A7]
     ·cases h
    ·cases h
   ·cases h
  ·cases h
theorem oH{o:Op}{dn:Nat}(hT:Xt P T Z)(hI:Kl P T.gl inl)(hr:Rel Z s σs A L σ w)(hd:Dt n ⟨some dn,o,ty,pos,after,none⟩=true)(h:rK P T inl s dn ty o k=some r):
  Ju P n ops ⟨some dn,o,ty,pos,after,none⟩ Z s σs k r (SR T s ⟨some dn,o,ty,pos,after,none⟩=true) A L σ w:=by
 have hm:=hr.mem;unfold rK at h;split at h
 ·
  rename_i o t x y t';split at h
  ·rename_i a u b v hx hy;split at h
   ·rename_i c q hc hq;obtain⟨_,hok,h⟩:=bind_some h;have:=Ie hok;subst this;obtain⟨hv,val,hb,jZ⟩:=MX (P:=P) (w:=w) (L:=L) (B:=λb=>A b/\Z.R b) (t:=t) hq hc;exact Bp hr hd (X.bin (Js hm.sl hx) (Js hm.sl hy) hb) hv jZ h
   ·cases h
  ·rename_i u v hx hy;split at h
   ·obtain⟨q,hq,h⟩:=bind_some h;exact Bp (p:= .val .str q) hr hd (X.iR (Gw hm.sl hx) (Gw hm.sl hy) hq) rfl rfl h
   ·cases h
  ·rename_i a h1 h2 hy;exact jE hr hd rfl hy h
  ·cases h
 ·
  rename_i t x ix;split at h
  ·rename_i j e0 l0 hj hx;obtain⟨q,hix⟩:=Mw hj (Fw hm.sl ix (Rz hj));split at h
   ·rename_i l ht;obtain⟨y,hy,h⟩:=bind_some h;exact Bp (p:= .i .u8 y) hr hd (X.gS ht (Gw hm.sl hx) hix hy) rfl rfl h
   ·rename_i m e l m' et ht;obtain⟨hb,h⟩:=Aj h;obtain⟨y,hy,h⟩:=bind_some h;obtain⟨hk,hkk⟩:=Aj h;have hok:=Fz hk;have hv:Dg (λb=>A b/\Z.R b) w L (.val (.vec m e) l) (ev σ x):=Bg hm.sl hx rfl;obtain⟨cs,h1,h2,h3⟩:=hv;have hsz:(e.pv y).size=e.size:=by
     obtain⟨_,_,h5⟩:=Dk hy;obtain⟨_,c2,_,_,_,h6,_⟩:=Az.get (λx c h=>Ak.len h) h3 h5;rw[<- (Tn (L:=L).2 h6).len,h6.len]
    have hmm:=Bc hb;subst hmm;obtain⟨d0,hd0,ha0⟩:=hok.agg;obtain⟨val,h4,h5⟩:=kP (L:=L) ht (by rw[<-hsz];exact hok.size) ⟨d0,hd0,ha0⟩ (λhA=>by rw[<-hsz];exact hok.one hA) h2 h1 h3 hix hy;obtain⟨hv,hv'⟩:=Dp h5;exact Bp hr hd h4 hv hv' hkk
   ·cases h
  ·cases h
 ·split at h
  ·exact WH hT hr hd (.inr (.inr ⟨_,_,_,rfl⟩)) h
  ·exact hH hr hd h (λg=>g)
 ·split at h
  ·exact WH hT hr hd (.inr (.inl ⟨_,_,rfl⟩)) h
  ·exact aT hr hd h
 ·split at h
  ·exact WH hT hr hd (.inl ⟨_,rfl⟩) h
  ·exact mJ hr hd h
 ·
  split at h
  ·rename_i v hz;exact gU hr hd hz h
  ·cases h
 ·obtain⟨hb,h⟩:=Aj h;exact nS hr hd hb h
 ·split at h
  ·rename_i v hv;obtain⟨hA,h⟩:=Aj h;obtain⟨h1,h2⟩:=TI (B:=λb=>A b/\Z.R b) (w:=w) (L:=L) hv hA;exact Bp hr hd (X.assign rfl) h1 h2 h
  ·cases h
 ·split at h
  ·rename_i v hv;obtain⟨hA,h⟩:=Aj h;obtain⟨h1,h2⟩:=TI (B:=λb=>A b/\Z.R b) (w:=w) (L:=L) hv hA;exact Bp hr hd (X.move rfl) h1 h2 h
  ·cases h
 ·exact gN hr hd h
 ·exact SK hr hd h (λg=>g)
 ·exact lV hr hd h
 ·
  split at h
  ·rename_i e ha ht;split at h
   ·rename_i l he hx;exact VA hr hd ha ht he hx h
   ·cases h
  ·rename_i e ha ht;obtain⟨hb,h1⟩:=Aj h;clear h;have:=Bc hb;subst this;split at h1
   ·rename_i i he hx;split at h1
    ·rename_i E e' l hi;split at h1
     ·rename_i y ys;exact kJ hr hd ht he hx hi h1
     ·cases h1
    ·cases h1
   ·cases h1
  ·cases h
 ·
  rename_i as ts;split at h
  ·rename_i x y t t2 has hts;have h1:=Lj has;have h2:=Lj hts;subst h1 h2;refine Oy (gF hr hd h) ?_;rintro σ' w' ⟨s',A',L',g1,g2,g3⟩;exact⟨s',A',L',g1,g2,λg=>by simp[SR,nG]at g⟩
  ·cases h
 ·
  rename_i as ts;split at h
  ·rename_i x y t t2 has hts;have h1:=Lj has;have h2:=Lj hts;subst h1 h2;refine Oy (dO hr hd h) ?_;rintro σ' w' ⟨s',A',L',g1,g2,g3⟩;exact⟨s',A',L',g1,g2,λg=>by simp[SR,nG]at g⟩
  ·cases h
 ·
  rename_i as ts;split at h
  ·rename_i x t has hts;have h1:=Lj has;have h2:=Lj hts;subst h1 h2;split at h
   ·rename_i e ht hx;refine Bp (p:= .i .i64 (0:Int)) hr hd (val:=iv (0:Int)) (λ_ _ _ _ _=>?_) rfl rfl h;have hv:=Mb (Bg hm.sl hx rfl);simp[execOp,resolve,invoke,builtin,hv,Builtin.cap_,uL ht,goInt];rfl
   ·cases h
  ·cases h
 ·
  rename_i g as ts;split at h
  ·rename_i f caps hg;refine lL hT hI hr hg hd h (λgg=>?_);unfold SR at gg;split at gg
   ·rename_i heq;cases heq
   ·rename_i heq;cases heq
   ·rename_i f' as' ts' heq;cases heq;cases hg;split at gg
    ·rename_i c hc;simp only[uJ,wV,vB]at gg;exact⟨c,hc,gg.1,gg.2.imp id isEmpty_nil⟩
    ·cases gg
   ·rename_i h1 h2 h3;simp only[nG]at gg;split at gg<;>simp_all
  ·rename_i f fs hg;obtain⟨hb,h⟩:=Aj h;simp only[uJ]at hb;refine iP hT hI hr hg hd hb.2 h (λgg=>?_);unfold SR at gg;split at gg
   ·rename_i heq;cases heq
   ·rename_i heq;cases heq
   ·rename_i f' as' ts' heq;cases heq;cases hg
   ·rename_i h1 h2 h3;simp only[nG]at gg;split at gg<;>simp_all
  ·cases h
 ·exact fZ hr hd h (λg=>g)
 ·exact eX hr hd h
 ·cases h
end Go.Rx
namespace Go.Rx
open Go Go.Lv
variable {P:Program} {w w':World} {L:List MD} {s:S} {σs:List Env} {σ:Env} {Z:Fix} {A:Reg}
theorem Us{α:Type 1}{c:Bool}{x:Option α}{y:α}(h:(Bf (c) (x)<|none)=some y):c=true/\x=some y:=by cases c<;>simp_all
theorem aX{o:Op}{b:BV}{x:b.X}(hr:Rel Z s σs A L σ w)(h:iC P s o=some b)(hx:b.E=some x):(b.v x).isV=true/\∃val,(∀w',XO P σ w' o val)/\Bw (λb=>A b/\Z.R b) w L (b.v x) val:=by
 have hm:=hr.mem;unfold iC at h;split at h
 ·
  rename_i o t x y t';split at h
  ·rename_i a u b v hx' hy;split at h
   ·rename_i c q hc hq;cases h;have:=Ie hx;subst this;obtain⟨hv,val,hb,jZ⟩:=MX (P:=P) (w:=w) (L:=L) (B:=λb=>A b/\Z.R b) (t:=t) hq hc;exact⟨hv,val,λw'=>X.bin (Js hm.sl hx') (Js hm.sl hy) hb,jZ⟩
   ·cases h
  ·rename_i u v hx' hy;split at h
   ·cases h;exact⟨rfl,_,λw'=>X.iR (Gw hm.sl hx') (Gw hm.sl hy) hx,rfl⟩
   ·cases h
  ·cases h
 ·
  split at h
  ·rename_i j l hj hx' ht;cases h;obtain⟨q,hix⟩:=Mw hj (Fw hm.sl _ (Rz hj));exact⟨rfl,_,λw'=>X.gS ht (Gw hm.sl hx') hix hx,rfl⟩
  ·cases h
 ·
  split at h
  ·rename_i ht;split at h
   ·rename_i l hx';split at h
    ·rename_i a b ha hb;cases h;exact⟨rfl,_,λw'=>X.pZ ht (Gw hm.sl hx') hx (Ej hm.sl ha) (Ej hm.sl hb),rfl⟩
    ·cases h
   ·cases h
  ·rename_i et ht;split at h
   ·rename_i e0 l0 hx';split at h
    ·rename_i e l;split at h
     ·rename_i inf He;obtain⟨hb,h⟩:=Us h;simp only[uJ]at hb;split at h
      ·rename_i a b ha hb';cases h;obtain⟨h1,h2,h3,h4,h5'⟩:=Pb hx;obtain⟨c0,h5,h6⟩:=Kj (Bg hm.sl hx' rfl);have hlen:=h6.len λx c h=>Ak.len h;obtain⟨p',l',c',h7,h8⟩:=X.ZO (P:=P) (l:=a.toNat) (k:=b.toNat) (m:=l.length) ht (Cc He hb.1) (St.jF hr h5) (j:=0) rfl hlen (XD hb.2) h3 h4;refine⟨rfl, .slice p' l' c',λw'=>h7 σ w' _ _ _ rfl (by rcases Ej hm.sl ha with h|⟨h,h'⟩;exact .inl (by rw[<-h1];exact h);exact .inr ⟨h,A7⟩)
        (by rcases Ej hm.sl hb' with h|⟨h,h'⟩;exact .inl (by rw[<-h2];exact h);exact .inr ⟨h,by rw[h'];simp[Aa]⟩),?_⟩
       rw[h5'];exact BM (h8.fact 0 rfl) (Az.drop (λx c h=>Ak.len h) _ (Az.take (λx c h=>Ak.len h) _ h6))
      ·cases h
     ·cases h
    ·cases h
   ·cases h
  ·cases h
 ·
  split at h
  ·cases h
  ·rename_i j hj;obtain⟨q,hix⟩:=Mw hj (Fw hm.sl _ (Rz hj));split at h
   ·rename_i et ht;split at h
    ·cases h
    ·rename_i inf He;split at h
     ·rename_i e0 l0 hx';split at h
      ·rename_i e l;obtain⟨hb,h⟩:=Us h;cases h;simp only[uJ]at hb;obtain⟨hj0,hj1,hj2⟩:=Dk hx;obtain⟨c0,h1,h2⟩:=Kj (Bg hm.sl hx' rfl);obtain⟨p,len,cap,h3,h4,h5,h6,h7⟩:=h1;have hlen:=h2.len λx c h=>Ak.len h;have hz:0<e.size:=by have:=uZ hb.2;omega
       have hl:len=l.length:=uQ hz (h4.symm.trans hlen);subst hl;obtain⟨b,off,arr,T,fr,rfl,hB,hbl,hcap,hc⟩:=h7 A7;obtain⟨c1,c2,c3,he,h8,h9,_⟩:=Az.get (λx c h=>Ak.len h) h2 hj2;have h10:c2.length=e.size:=h9.len;have h11:(j.toNat+1)*e.size<=l.length*e.size:=uM _ hj1;rw[wP]at h11;have hp:UT (λb=>A b/\Z.R b) w (.pointer (some ⟨b,off+j.toNat*e.size,none⟩)) c2:=by
        refine⟨b,off+j.toNat*e.size,arr,T,fr,rfl,hB,hbl,λq hq=>?_⟩;rw[vH,hc _ A7,he,uU A7,h8,show j.toNat*e.size+q-j.toNat*e.size=q by omega,uO hq]
       have jZ:Bw (λb=>A b/\Z.R b) w L (.rptr (e.pv x)) (.pointer (some ⟨b,off+j.toNat*e.size,none⟩)):=⟨_,c2,rfl,hp,Tn.2 h9⟩;exact⟨rfl,_,λw'=>Hh ht (Cc He hb.1) h3 hix A7 A7 w',jZ⟩
      ·cases h
     ·rename_i i hx';split at h
      ·rename_i E e l hi;obtain⟨hb,h⟩:=Us h;cases h;simp only[uJ]at hb;obtain⟨hj0,hj1,hj2⟩:=Dk hx;obtain⟨v,cs,h1,h2⟩:=hm.arr hi;obtain⟨z',E',c',h3⟩:=Nj (Bg hm.sl hx' rfl);rw[h1]at h3;cases h3;have hlen:=h2.len λx c h=>Ak.len h;have hz:0<e.size:=by have:=uZ hb.2;omega
       have hpos:0<cs.length:=by rw[hlen];exact zE A7 hz
       obtain⟨b,len,cap,h4,h5⟩:=hr.base h1 hpos;have hl:len=l.length:=uQ hz (h5.symm.trans hlen);subst hl;refine⟨rfl,_,λw'=>Hh ht (Cc He hb.1) h4 hix A7 A7 w',?_⟩;rw[show(0:Nat)+j.toNat*e.size=Ah [.idx j e.size] by simp[Ah,BD]];refine Nh h1 ?_;rw[h4];rfl
      ·cases h
     ·rename_i o i p e lo n' hx';obtain⟨hb,h⟩:=Us h;cases h;simp only[uJ]at hb;have hj':0<=j/\j<n':=vU (Ie hx);obtain⟨md,v1,h3,h4,k1,k2,⟨pt,cap,k3,k4,k5,k6⟩,_⟩:=Bg hm.sl hx' rfl;have h6:=List.cons.inj h4;obtain⟨b,e1,rfl⟩:=k6 A7;refine⟨rfl,_,λw'=>Hh ht (Cc He hb.1) (h6.1.trans k3) hix hj'.1 A7 w',?_⟩;rw[show Ah p+lo.toNat*e.size+j.toNat*e.size=Ah (p++[.idx (lo+j) e.size]) by
       rw[Vz,vH,<-vA]
       show _=Ah p+(lo+j).toNat*e.size;rw[Int.toNat_add k1 hj'.1]]
      exact Nh h3 e1
     ·cases h
   ·rename_i m et ht;split at h
    ·cases h
    ·rename_i inf He;split at h
     ·rename_i i p hx';split at h
      ·rename_i T v hi;split at h
       ·rename_i e0 l0 hg;split at h
        ·rename_i m' e l;obtain⟨hb,h⟩:=Us h;cases h;simp only[uJ]at hb;obtain⟨hj0,hj1,hj2⟩:=Dk hx;obtain⟨md,b,h1,h2,h3⟩:=Je (Bg hm.sl hx' rfl);obtain⟨b',cells,h4,h5⟩:=hm.box hi;rw[h4]at h1;cases h1;cases h2;obtain⟨c1,c2,c3,he,h6,h7,h8⟩:=Wk hg h5;have hmm:=Bc hb.2;subst hmm;have hl:l.length=m':=h7;refine⟨rfl,_,λw'=>Ti ht (Cc He hb.1.1) h3 hix A7 A7 w',?_⟩;rw[show Ah p+j.toNat*e.size=Ah (p++[.idx j e.size]) by simp[Qq,Ah,BD]];exact Nh h4 rfl
        ·cases h
       ·cases h
      ·cases h
     ·cases h
   ·cases h
 ·cases h
end Go.Rx
namespace Go.Rx
open Go Go.Lv
variable{want b:Bool}{v:PV}{G:Prop}
variable {P:Program} {B B':Reg} {w w':World} {L L':List MD} {s:S} {σs:List Env} {σ:Env} {Z:Fix} {A A':Reg} {n:Nat} {ops:Array Oper}
variable {R:Type} {k:S->Option R} {r:R} {d:Option Nat} {ty:TypeId} {pos:String} {after:Array Edge} {T:Tab} {inl:HW R}
theorem gZ{o:Oper}(hT:Xt P T Z)(hI:Kl P T.gl inl)(hr:Rel Z s σs A L σ w)(hd:Dt n o=true)(h:pJ P T inl o s k=some r):
  Ju P n ops {o with guard:=none} Z s σs k r (SR T s o=true) A L σ w:=by
 obtain⟨d,op,ty,pos,after,g⟩:=o;have hd':Dt n ⟨d,op,ty,pos,after,none⟩=true:=hd;unfold pJ at h;split at h
 ·rename_i v hv;obtain⟨h1,val,h2,h3⟩:=VK (P:=P) (B:=λb=>A b/\Z.R b) (w:=w) (L:=L) (λ_=>True) hr.mem.sl hv;exact Bp hr hd' (h2 w trivial) h1 h3 h
 ·split at h
  ·rename_i v hv;obtain⟨h1,val,h2,h3⟩:=bM (P:=P) hr hv;exact Bp hr hd' (h2 w (.refl hr)) h1 h3 h
  ·cases d with
   |some dn=>exact oH hT hI hr hd' h
   |none=>
    simp only at h;split at h
    ·rename_i t a x;refine Oy (jB hr h) ?_;rintro σ' w' ⟨s',A',L',g1,g2,g3⟩;exact⟨s',A',L',g1,g2,λg=>by simp[SR,nG]at g⟩
    ·rename_i as ts;split at h
     ·rename_i x y t t2 has hts;have h1:=Lj has;have h2:=Lj hts;subst h1 h2;refine Oy (dO hr hd' h) ?_;rintro σ' w' ⟨s',A',L',g1,g2,g3⟩;exact⟨s',A',L',g1,g2,λg=>by simp[SR,nG]at g⟩
     ·cases h
    ·cases h
theorem WL.pQ{rest:List Oper}{K:Env->World->Prop}{o:Oper}{j t:Nat}(hg:o.guard=some (j,want))(hj:(ops[j]?).bind (·.dst)=some t)(hb:σ t= .bool b)(hne:(b==want)=false)
  (hdn:Dt n o=true) (h:WL P n ops rest K (fO σ o.dst Go.undef) w):WL P n ops (o::rest) K σ w:=by
 intro ds a ha;refine zB λK' hK'=>?_;have hw:Region.wanted o (yielded ops a.tmps)=false:=by
  simp only[Region.wanted,hg,Rb ha hj hb];cases b<;>cases want<;>simp_all
 rw[vL (by rw[hw];simp)];refine hK' _ _ ?_;cases hd:o.dst with
 |none=>rw[hd]at h;exact h _ _ (ha.QA _)
 |some d=>rw[hd]at h;unfold Dt at hdn;rw[hd]at hdn;exact h _ _ (ha.put hdn _)
theorem WL.qB{rest:List Oper}{K:Env->World->Prop}{o:Oper}{j t:Nat}(hg:o.guard=some (j,want))(hj:(ops[j]?).bind (·.dst)=some t)(hb:σ t=Go.undef)
  (hdn:Dt n o=true) (h:WL P n ops rest K (fO σ o.dst Go.undef) w):WL P n ops (o::rest) K σ w:=by
 intro ds a ha;refine zB λK' hK'=>?_;have hy:yielded ops a.tmps j=none:=by
  unfold yielded;rw[hj];have h1:=ha.get t;rw[hb]at h1;cases h:a.tmps[t]? with
  |none=>simp[h]
  |some v=>
   rw[vC,h]at h1;simp at h1;subst h1;simp[h,undef]
 have hw:Region.wanted o (yielded ops a.tmps)=false:=by
  simp only[Region.wanted,hg,hy];cases want<;>rfl
 rw[vL (by rw[hw];simp)];refine hK' _ _ ?_;cases hd:o.dst with
 |none=>rw[hd]at h;exact h _ _ (ha.QA _)
 |some d=>rw[hd]at h;unfold Dt at hdn;rw[hd]at hdn;exact h _ _ (ha.put hdn _)
theorem YG{o:Oper}(hr:Rel Z s σs A L σ w)(h:k (s.Cl o.dst .off)=some r):WL P n ops [] (SO Z σs k r G A L s.it w) (fO σ o.dst Go.undef) w:=by
 refine WL.nil ⟨_,A,L,h,hr.kI,λ_=>?_⟩;have:(s.Cl o.dst .off).it=s.it:=by cases o.dst<;>rfl
 rw[this];exact .refl
theorem Vy{a:Bool}:CX a b=(b==a):=by cases a<;>cases b<;>rfl
theorem aV{G':Prop}{σ':Env}{it:List Item}(hp:SO Z σs k r G A L it w σ' w')(h:G'->G):SO Z σs k r G' A L it w σ' w':=by
 obtain⟨s',A',L',h1,h2,h3⟩:=hp;exact⟨s',A',L',h1,h2,λg=>h3 (h g)⟩
theorem NB{t dn:Nat}{val:Value}(ht:σ t= .bool b)(hne:Nat.beq dn t=false)(h1:b=want->Bw B w L v val)(h2:b≠want->val=Go.undef):Cw B w L (Hi σ dn val) dn (.gd t want v):=by
 have htd:t≠dn:=by intro e;subst e;simp at hne
 exact⟨b,by rw[Wi _ _ htd];exact ht,λe=>by rw[Jq];exact h1 e,λe=>by rw[Jq];exact h2 e⟩
theorem dB{o:Oper}{j t dn:Nat}(hr:Rel Z s σs A L σ w)(hg:o.guard=some (j,want))(hj:(ops[j]?).bind (·.dst)=some t)(ht:σ t= .bool b)(hdn:Dt n o=true)(hd:o.dst=some dn)
  (hne:Nat.beq dn t=false) (hv:b=want->v.isV=true/\∃val,XO P σ w o.op val/\Bw (λb=>A b/\Z.R b) w L v val) (hk:k (s.set dn (.gd t want v))=some r):Ju P n ops o Z s σs k r G A L σ w:=by
 by_cases hbw:b=want
 ·obtain⟨h1,val,h2,h3⟩:=hv hbw;refine WL.on hg hj ht (by simpa using hbw) (WL.bS rfl (by simpa [Dt]using hdn) (h2 _ _ _ _ _) (WL.nil ⟨_,A,L,hk,?_,λ_=> .refl⟩));simp only[hd];exact hr.set (NB ht hne (λ_=>h3) (λe=>absurd hbw e))
 ·refine WL.pQ hg hj ht (by simpa using hbw) hdn (WL.nil ⟨_,A,L,hk,?_,λ_=> .refl⟩);rw[hd];exact hr.set (NB ht hne (λe=>absurd e hbw) (λ_=>rfl))
theorem Pc{t:Nat}(hm:Cj B w L σ s.sl)(h:Ky s.sl t= .val .bool b):σ t= .bool b:=by
 have h1:=Gb (t:=t) hm;rw[h]at h1;exact Ml h1
theorem GN{t:Nat}(hm:Cj B w L σ s.sl)(h:Ky s.sl t= .cst (.bool b)):σ t= .bool b:=by
 have h1:=Gb (t:=t) hm;rw[h]at h1;have: [σ t]=[Value.bool b]:=h1.1;simpa using this
theorem oD{o:Oper}{j t:Nat}(hT:Xt P T Z)(hI:Kl P T.gl inl)(hr:Rel Z s σs A L σ w)(hd:Dt n o=true)(hg:o.guard=some (j,want))(hj:(ops[j]?).bind (·.dst)=some t)
  (h:pI P T inl o t want s k=some r):Ju P n ops o Z s σs k r (SR T s o=true/\∃b,Ky s.sl t= .cst (.bool b)) A L σ w:=by
 have hm:=hr.mem;have lit:∀(G:Prop) (s1:S) (b:Bool),(G->SR T s1 o=true)->Rel Z s1 σs A L σ w->s1.it=s.it->σ t= .bool b-> (Bf (CX want b) (pJ P T inl o s1 k)<|k (s1.Cl o.dst .off))=some r->Ju P n ops o Z s σs k r G A L σ w:=by
  intro G s1 b hG hr1 hit ht h;cases hb:CX want b with
  |true=>
   rw[hb]at h;refine WL.on hg hj ht (by rw[<-Vy];exact hb) (Oy (gZ hT hI hr1 hd h) λσ' w' hp=>?_);rw[<-hit];exact aV hp hG
  |false=>
   rw[hb]at h;refine WL.pQ hg hj ht (by rw[<-Vy];exact hb) hd ?_;rw[<-hit];exact YG hr1 h
 unfold pI at h;simp only at h;split at h
 ·rename_i b hb;exact lit _ s b (λg=>g.1) hr rfl (GN hm.sl hb) h
 ·rename_i hb;have h1:=Gb (t:=t) hm.sl;rw[hb]at h1;exact WL.qB hg hj h1 hd (YG hr h)
 ·rename_i b hb;have ht:=Pc hm.sl hb;have rB:∀{X:Prop},(∃b,Ky s.sl t= .cst (.bool b))->X:=λ⟨_,g⟩=>by rw[hb]at g;cases g
  split at h
  ·rename_i dn v hdn hv;cases hne:Nat.beq dn t with
   |true=>rw[hne]at h;cases h
   |false=>
    rw[hne]at h;refine dB hr hg hj ht hd hdn hne (λhbw=>?_) h;subst hbw;obtain⟨h1,val,h2,h3⟩:=VK (P:=P) (λ_=>True) (hr.res ht).mem.sl hv;exact⟨h1,val,h2 w trivial,h3⟩
  ·rename_i dn v hdn hv0 hv;cases hne:Nat.beq dn t with
   |true=>rw[hne]at h;cases h
   |false=>
    rw[hne]at h;refine dB hr hg hj ht hd hdn hne (λhbw=>?_) h;subst hbw;obtain⟨h1,val,h2,h3⟩:=bM (P:=P) (hr.res ht) hv;exact⟨h1,val,h2 w (.refl (hr.res ht)),h3⟩
  ·cases b with
   |true=>exact lit _ (s.res t true) true (λg=>rB g.2) (hr.res ht) rfl ht (by simpa using h)
   |false=>exact lit _ (s.res t false) false (λg=>rB g.2) (hr.res ht) rfl ht (by simpa using h)
 ·cases h
theorem dL{o:Oper}(hT:Xt P T Z)(hI:Kl P T.gl inl)(hr:Rel Z s σs A L σ w)(h:DT P T inl n ops o s k=some r):Ju P n ops o Z s σs k r (SR T s o=true/\bT ops s o=true) A L σ w:=by
 have hm:=hr.mem;unfold DT at h;cases hd:Dt n o with
 |false=>rw[hd]at h;cases h
 |true=>
  rw[hd]at h;simp only[wX,xL]at h;try dsimp only[Bf]at h
  split at h
  ·rename_i hg;have:({o with guard:=none}:Oper)=o:=by cases o;simp only at hg;subst hg;rfl
   rw[<-this];refine Oy (gZ hT hI hr hd h) λσ' w' hp=>aV hp ?_;rintro⟨g,_⟩;rw[this]at g;exact g
  ·rename_i j want hg;split at h
   ·cases h
   ·rename_i t hj;have fin:∀s1:S,(bT ops s o=true->s1=s)->Rel Z s1 σs A L σ w->s1.it=s.it->pI P T inl o t want s1 k=some r->Ju P n ops o Z s σs k r (SR T s o=true/\bT ops s o=true) A L σ w:=by
     intro s1 hs hr1 hit h;refine Oy (oD hT hI hr1 hd hg hj h) λσ' w' hp=>?_;rw[<-hit];refine aV hp (λg=>?_);have:=hs g.2;subst this;refine⟨g.1,?_⟩;have h2:=g.2;unfold bT at h2;simp only[hg,hj]at h2;split at h2
     ·exact⟨_,by assumption⟩
     ·cases h2
    split at h
    ·rename_i t2 w2 v hv;have rB:∀{X:Prop},bT ops s o=true->X:=λg=>by
      unfold bT at g;simp only[hg,hj,hv]at g;cases g
     split at h
     ·rename_i b hb;have ht:=Pc hm.sl hb;cases b with
      |true=>exact fin _ rB (hr.res ht) rfl (by simpa using h)
      |false=>exact fin _ rB (hr.res ht) rfl (by simpa using h)
     ·cases h
    ·exact fin s (λ_=>rfl) hr rfl h
theorem Rel.qO{rr:Nat}(hr:Rel Z s σs A L σ w)(hl:rr<w.heap.size)(hm:Bi w (λb=>A b\/b=rr) (L.map MD.Cx)):Rel Z s σs (λb=>A b\/b=rr) L σ w:=
 ⟨λb hb=>hb.elim (hr.lt b) (λe=>e▸hl),λf hf=>f.step (hr.facts f hf) (λ_ h=> .inl h) (λ_ _=>rfl) (.refl _),hm⟩
theorem Rel.world{w':World}(hr:Rel Z s σs A L σ w)(hs:Same A w w')(hg:Gr w w')(hm:Bi w' A (L.map MD.Cx)):Rel Z s σs A L σ w':=
 ⟨λb hb=>vE (hr.lt b hb) hg.le,λf hf=>f.step (hr.facts f hf) (λ_ h=>h) hs hg,hm⟩
def iG(P:Program)(Z:Fix)(d t:Nat)(ks:List UInt8)(vs:List PV)(A:Reg)(L:List MD)(σ:Env)(w:World):Prop:=
 ∃rr es c kt et,P.underlying t=some (.map kt et)/\P.underlying kt=some (.int .u8)/\σ d= .map (some rr)/\w.heap[rr]? =some (.map es c)/\Z.w0.heap.size<=rr/\ ¬A rr/\Bi w (λb=>A b\/b=rr) (L.map MD.Cx)/\
  es.toList.map (·.key)=ks.map (λk=>iv (T:=UInt8) (k:= .u8) k)/\By (λb=>A b/\Z.R b) w L vs (es.toList.map (·.val))
theorem iG.close{d t:Nat}{ks:List UInt8}{vs:List PV}(hr:Rel Z s σs A L σ w)(h:iG P Z d t ks vs A L σ w):∃A',Rel Z (s.set d (.mp ks vs)) σs A' L σ w:=by
 obtain⟨rr,es,c,kt,et,_,_,h3,h4,h5,h6,h7,h8,h9⟩:=h;have hr1:=hr.qO (lt_of_heap h4) h7;have hσ:Hi σ d (.map (some rr))=σ:=by
  rw[<-h3];funext q;by_cases hq:q=d
  ·rw[hq,Jq]
  ·rw[Wi _ _ hq]
 refine⟨λb=>A b\/b=rr,?_⟩;rw[<-hσ];refine hr1.set ?_;rw[hσ];have hv:Am (λb=>(A b\/b=rr)/\Z.R b) w L (.mp ks vs) [.map (some rr)]:=⟨rr,es,c,rfl,⟨.inr rfl,Z.new _ h5⟩,h4,h8,Am.KU (λb hb=>⟨.inl hb.1,hb.2⟩) (λ_ _=>rfl) (.refl L) h9⟩
 show Am _ w L (.mp ks vs) [σ d];rw[h3];exact hv
theorem cQ{u:UInt8}:∀{es:List MapEntry} {ks:List UInt8} (i:Nat),es.map (·.key)=ks.map (λk=>iv (T:=UInt8) (k:= .u8) k)->eF u ks=false->Instr.findNow (.int .u8) (iv (T:=UInt8) (k:= .u8) u) es i=some none
 |[],_,_,_,_=>rfl
 |e::es,[],_,h,_=>by cases h
 |e::es,q::ks,i,h,hu=>by
  simp only[vN,xG]at h;simp only[eF,wI]at hu;have hs:Instr.sameNow (.int .u8) (iv (T:=UInt8) (k:= .u8) u) e.key=some (geq u q):=by rw[h.1];rfl
  simp only[Instr.findNow,hs,hu.1];exact cQ (i+1) h.2 hu.2
theorem By.push{B:Reg}{p:PV}{v:Value}(h:cP p.isA (Am B w L p) v):∀{vs:List PV} {us:List Value},By B w L vs us->By B w L (vs++[p]) (us++[v])
 |[],us,e=>by
  rw[show us=[]from e];exact⟨v,[],rfl,h,rfl⟩
 |a::vs,us,⟨x,us',e,h1,h2⟩=>⟨x,us'++[v],by rw[e];rfl,h1,By.push h h2⟩
theorem gV{d t:Nat}{o:Op}{u:UInt8}{x:Operand}(h:jK d t o=some (u,x)):o= .insert t (.tmp d) (.const (iv (T:=UInt8) (k:= .u8) u)) x:=by
 unfold jK at h;split at h
 ·rename_i t' q m x';obtain⟨hb,h⟩:=Aj h;simp only[uJ]at hb;cases h;rw[Bc hb.1.1,Bc hb.1.2];have:=vU hb.2
  show Op.insert t (.tmp d) (.const (.int .u8 m)) x= .insert t (.tmp d) (.const (.int .u8 (((GI.ofZ m:UInt8).toNat:Nat):Int))) x;rw[this]
 ·cases h
theorem mN{o:Oper}{d t:Nat}(h:oR P n o=some (d,t)):o.op= .makeMap t none/\o.dst=some d/\o.guard=none/\Nat.blt d n=true/\∃kt et,P.underlying t=some (.map kt et)/\P.underlying kt=some (.int .u8):=by
 unfold oR at h;split at h
 ·rename_i t' ho;split at h
  ·rename_i d' kt et hd hg ht;split at h
   ·rename_i hk;obtain⟨hb,h⟩:=Aj h;cases h;exact⟨ho,hd,hg,hb,kt,et,ht,hk⟩
   ·cases h
  ·cases h
 ·cases h
def rM(P:Program)(Z:Fix)(σs:List Env)(m:Option (Nat×Nat×List UInt8×List PV))(A:Reg)(L:List MD)(σ:Env)(w:World):Prop:=match m with|none=>True|some (d,t,ks,vs)=>iG P Z d t ks vs A L σ w
theorem Ux(hT:Xt P T Z)(hI:Kl P T.gl inl):∀{l:List Oper} {m:Option (Nat×Nat×List UInt8×List PV)} {s:S} {A:Reg} {L:List MD} {σ:Env} {w:World},Rel Z s σs A L σ w->rM P Z σs m A L σ w->Nw P T inl n ops l m s k=some r->
  WL P n ops l (λσ' w'=>∃s' A' L',k s'=some r/\Rel Z s' σs A' L' σ' w') σ w
 |[],m,s,A,L,σ,w,hr,hm,h=>by
  unfold Nw at h;cases m with
  |none=>exact WL.nil ⟨s,A,L,h,hr⟩
  |some q=>
   obtain⟨d,t,ks,vs⟩:=q;obtain⟨A',hr'⟩:=iG.close hr hm;exact WL.nil ⟨_,A',L,h,hr'⟩
 |o::l,m,s,A,L,σ,w,hr,hm,h=>by
  have op:∀{s:S} {A:Reg},Rel Z s σs A L σ w-> (DT P T inl n ops o s λs'=>Nw P T inl n ops l none s' k)=some r->WL P n ops (o::l) (λσ' w'=>∃s' A' L',k s'=some r/\Rel Z s' σs A' L' σ' w') σ w:=by
   intro s A hr h;have h1:=dL (ops:=ops) hT hI hr h;refine WL.cut _ [o] h1 ?_;rintro σ' w' ⟨s',A',L',g1,g2,_⟩;exact Ux (m:=none) hT hI g2 trivial g1
  unfold Nw at h;cases m with
  |none=>
   simp only at h;split at h
   ·exact op hr h
   ·rename_i d t hmk;obtain⟨h1,h2,h3,h4,kt,et,h5,h6⟩:=mN hmk;have hsz:(w.alloc (.map #[] 0)).heap.size=w.heap.size+1:=Yw w _;have hkeep:Keep w (w.alloc (.map #[] 0)):=KF w _;have hr1:Rel Z s σs A L σ (w.alloc (.map #[] 0)):=St.keep hr hkeep;have hr2:Rel Z (s.set d .undef) σs A L (Hi σ d (.map (some w.heap.size))) (w.alloc (.map #[] 0)):=hr1.set trivial;have BU:Bi (w.alloc (.map #[] 0)) (λb=>A b\/b=w.heap.size) (L.map MD.Cx):=
     (Bi.step (by rw[hsz];omega) (St.mobs hr).lt λb hb _=>hkeep.same b hb).Jg λb hb=>hb.imp id λe=>xZ e.symm
    have hx:(execOp (ev σ) o).run P w= .ok (.value (.map (some w.heap.size))) (w.alloc (.map #[] 0)):=by
     obtain⟨_,_,_,_,_,_⟩:=o;simp only at h1;subst h1;simp[execOp,Instr.makeMap,Result.andThen]
    refine WL.val h3 h2 h4 hx (Ux hT hI hr2 ?_ h);exact⟨w.heap.size, #[],0,kt,et,h5,h6,Jq _ _ _,Hy w _,(hr.fact 1 (f:= .old Z.M Z.w0) rfl).1.le,λhA=>absurd (hr.lt _ hA) A7,BU,rfl,rfl⟩
  |some q=>
   obtain⟨d,t,ks,vs⟩:=q;simp only at h;have cl:∀{s':S},s'=s.set d (.mp ks vs)-> (DT P T inl n ops o s' λs'=>Nw P T inl n ops l none s' k)=some r->WL P n ops (o::l) (λσ' w'=>∃s' A' L',k s'=some r/\Rel Z s' σs A' L' σ' w') σ w:=by
    intro s' hs' h;subst hs';obtain⟨A',hr'⟩:=iG.close hr hm;exact op hr' h
   split at h
   ·rename_i q hg hq;split at h
    ·rename_i v hv;obtain⟨hb,hv⟩:=Aj hv;simp only[uJ,vB]at hb;obtain⟨h1,val,h2,h3⟩:=VK (P:=P) (B:=λb=>A b/\Z.R b) (w:=w) (L:=L) (λ_=>True) hr.mem.sl hv;have hne:d≠q:=λe=>by rw[e]at hb;simp at hb
     have hx:(execOp (ev σ) o).run P w= .ok (.value val) w:=by
      obtain⟨d0,oJ,tQ,sF,tR,g0⟩:=o;exact h2 w trivial d0 tQ sF tR g0
     refine WL.val hg hq hb.1 hx (Ux hT hI (hr.set (Cw.put h1 h3)) ?_ h);obtain⟨rr,es,c,kt,et,g1,g2,g3,g4⟩:=hm;exact⟨rr,es,c,kt,et,g1,g2,by rw[Wi _ _ hne];exact g3,g4⟩
    ·exact cl rfl h
   ·rename_i hg hq;split at h
    ·rename_i u x hins;have ho:=gV hins;obtain⟨hb,h⟩:=Aj h;simp only[uJ,vB]at hb;obtain⟨rr,es,c,kt,et,g1,g2,g3,g4,g5,g6,g7,g8,g9⟩:=hm;have hxv:Dg (λb=>A b/\Z.R b) w L (Bs s.sl x) (ev σ x):=by
      refine Ph hr.mem.sl ?_;cases hp:Bs s.sl x<;>rw[hp]at hb<;>first|rfl|exact absurd hb.1 (by simp[qD])
     have hlt:=lt_of_heap g4
     let o':Obj:= .map (es.push {key:=iv (T:=UInt8) (k:= .u8) u,val:=ev σ x,born:=c}) (c+1)
     let w':World:={w with heap:=w.heap.setIfInBounds rr o'}
     have hheap:∀b,b≠rr->w'.heap[b]? =w.heap[b]? :=λb hb=>by simp[w',vO (xE hb)]
     have hnew:w'.heap[rr]? =some o':=by simp[w',hlt]
     have hgr:Gr w w':=⟨by simp[w'],rfl,rfl,rfl⟩;have hsame:Same A w w':=λb hb=>hheap b λe=>g6 (e▸hb);have BU:Bi w' (λb=>A b\/b=rr) (L.map MD.Cx):=Bi.step hgr.le g7 λb _ hb=>hheap b λe=>hb (.inr e);have hck:(Instr.checkKey false 10000 kt (iv (T:=UInt8) (k:= .u8) u)).run P w= .ok () w:=yU g2 (show MapKept.IsKey (.int .u8) (.int .u8 _)from rfl) _ 9999;have rH:=MapKept.run_findKey (P:=P) (w:=w) g2 (cQ 0 g8 hb.2);have hx:(execOp (ev σ) o).run P w= .ok .skip w':=by
      obtain⟨_,_,_,_,_,_⟩:=o;simp only at ho;subst ho;have e1:ev σ (.tmp d)= .map (some rr):=g3;have e2:ev σ (.const (iv (T:=UInt8) (k:= .u8) u))=iv (T:=UInt8) (k:= .u8) u:=rfl;simp[execOp,e1,e2,Instr.mapUpdate,uL g1,yM g4,hck,rH,MapKept.run_setObj_map _ g4,Result.andThen,w',o']
     refine WL.unit hg hq hx (Ux hT hI (hr.world hsame hgr (BU.Jg λb hb=> .inl hb)) ?_ h);refine⟨rr,_,_,kt,et,g1,g2,g3,hnew,g5,g6,BU,?_,?_⟩
     ·simp only[Array.toList_push,wW,g8,vN,xO]
     ·simp only[Array.toList_push,wW,vN,xO];exact Am.KU (λ_ h=>h) (λb hb=>hsame b hb.1) (.refl L) (By.push hxv g9)
    ·exact cl rfl h
   ·cases h
theorem YH(hT:Xt P T Z)(hI:Kl P T.gl inl){l:List Oper}{s:S}{A:Reg}{L:List MD}{σ:Env}{w:World}(hr:Rel Z s σs A L σ w)(h:FT P T inl n ops l s k=some r):
  WL P n ops l (λσ' w'=>∃s' A' L',k s'=some r/\Rel Z s' σs A' L' σ' w') σ w:=Ux (m:=none) hT hI hr trivial h
end Go.Rx
namespace Go.Rx
open Go Go.Lv
variable{b:BV}{o:Op}{v:PV}
variable {P:Program} {B B':Reg} {w w':World} {L L':List MD} {s:S} {σs:List Env} {σ:Env} {Z:Fix} {A A':Reg} {n:Nat} {ops:Array Oper}
variable {R:Type} {k:S->Option R} {r:R} {d:Option Nat} {ty:TypeId} {pos:String} {after:Array Edge} {T:Tab} {inl:HW R} {mem:Bool} {listed:Array Bool}
def IY(Z:Fix)(σs:List Env)(A:Reg)(L:List MD)(it:List Item)(w w':World):Prop:=∃s2 σ2 A' L',Rel Z s2 σs A' L' σ2 w'/\Grow A L it w A' L' s2.it w'
theorem IY.refl(hr:Rel Z s σs A L σ w):IY Z σs A L s.it w w:=⟨s,σ,A,L,hr, .refl⟩
theorem IY.ext(hr:Rel Z s σs A L σ w)(h:IY Z σs A L s.it w w'):Ext Z s σs A L σ w w':=by
 obtain⟨s2,σ2,A',L',h1,h2⟩:=h;exact h2.ext hr h1
theorem Wd{z:Array Bool}:∀{is:List Nat} {i d:Nat} {v:PV},Ih P T n mem ops z listed s is=some (i,d,v)->∃o,ops[i]? =some o/\Iq ops (tw z) listed i=true/\WT P T n mem ops o s=some (d,v)
 |[],_,_,_,h=>by simp[Ih]at h
 |j::is,i,d,v,h=>by
  simp only[Ih]at h;split at h
  ·cases h
  ·rename_i o ho;split at h
   ·rename_i d' v' hp;cases ht:Iq ops (tw z) listed j with
    |true=>rw[ht,Ug]at h;cases h;exact⟨o,ho,ht,hp⟩
    |false=>rw[ht,Uk]at h;exact Wd h
   ·exact Wd h
def GS(Z:Fix)(σs:List Env)(w':World):Prop:=∃s2 σ2 A2 L2,Rel Z s2 σs A2 L2 σ2 w'
theorem Ext.gs(h:Ext Z s σs A L σ w w'):GS Z σs w':=by
 obtain⟨⟨A',L',it',_,hr⟩,_⟩:=h;exact⟨_,_,_,_,hr⟩
theorem fK{g:Nat}{t:TypeId}(hT:Xt P T Z)(h:T.nM P g t=some v):∃cs,(∀w',GS Z σs w'->∃T1 fr,w'.heap[g]? =some (.cells cs.toArray T1 fr))/\∀(B:Reg) (w:World) (L:List MD),Am B w L v cs:=by
 unfold Tab.nM at h;split at h
 ·rename_i cs hg;split at h
  ·rename_i v' hp;cases h;refine⟨cs,λw' hw=>?_,λB w L=>?_⟩
   ·obtain⟨s2,σ2,A2,L2,hr⟩:=hw;obtain⟨_,T1,fr,h2⟩:=hr.bB (p:=(g,cs)) (by rw[hT.2];exact NN hg);exact⟨T1,fr,h2⟩
   ·obtain⟨c,e1,h3⟩:=Uh (B:=B) (w:=w) (L:=L) Q hp;rw[vK]at e1;subst e1;exact h3
  ·cases h
 ·cases h
theorem kY(hT:Xt P T Z)(h:oY P T o=some v):v.isV=true/\∃val,(∀w',GS Z σs w'->XO P σ w' o val)/\Bw (λb=>A b/\Z.R b) w L v val:=by
 unfold oY at h;split at h
 ·rename_i t g;split at h
  ·rename_i u hv;obtain⟨hb,hk⟩:=Aj h;cases hk;obtain⟨cs,h1,h3⟩:=fK (σs:=σs) hT hv;obtain⟨val,h7,h8⟩:=Ym (P:=P) (σ:=σ) (x:= .global g) (b:=g) (off:=0) (Fz hb) (h3 (λb=>A b/\Z.R b) w L) rfl;obtain⟨hv1,hv2⟩:=Dp h7;refine⟨hv1,val,λw' hw=>h8 w' λj hj=>?_,hv2⟩;obtain⟨T1,fr,h4⟩:=h1 w' hw;rw[cell_of h4];simp
  ·cases h
 ·cases h
theorem OQ{S:World->Prop}(hT:Xt P T Z)(hr:Rel Z s σs A L σ w)(h:KE P T mem s o=some v)(hS:mem=true->∀w',S w'->Ext Z s σs A L σ w w')(hG:∀w',S w'->GS Z σs w'):v.isV=true/\∃val,(∀w',S w'->XO P σ w' o val)/\Bw (λb=>A b/\Z.R b) w L v val:=by
 unfold KE at h;split at h
 ·rename_i u hu;cases h;exact VK (P:=P) S hr.mem.sl hu
 ·split at h
  ·rename_i u hu;cases h;cases mem with
   |true=>
    obtain⟨h1,val,h2,h3⟩:=bM (P:=P) hr hu;exact⟨h1,val,λw' hw=>h2 w' (hS rfl w' hw),h3⟩
   |false=>cases hu
  ·obtain⟨h1,val,h2,h3⟩:=kY (σs:=σs) (σ:=σ) (A:=A) (w:=w) (L:=L) hT h;exact⟨h1,val,λw' hw=>h2 w' (hG w' hw),h3⟩
theorem lZ{t:Nat}{b:Bool}{w':World}(h:Ext Z s σs A L σ w w')(ht:σ t= .bool b):Ext Z (s.res t b) σs A L σ w w':=by
 obtain⟨⟨A',L',it',h1,h2⟩,h3⟩:=h;exact⟨⟨A',L',it',h1,Rel.res (s:=⟨s.sl,s.it++it',s.st⟩) h2 ht⟩,h3⟩
theorem WD.tG{op:Op}{d j t:Nat}{ty:TypeId}{pos:String}{after:Array Edge}{want:Bool}{S:World->Prop}{TT:Nat->Bool}{fuel:Nat}{K:Env->World->Prop}(i:Nat)(hi:ops[i]? =some ⟨some d,op,ty,pos,after,some (j,want)⟩)(hB:Iq ops TT listed i=true)(hdn:Nat.blt d n=true)
  (hj:(ops[j]?).bind (·.dst)=some t) (hb:σ t=Go.undef) (hS:S w)
  (h:WD P n ops S TT fuel (listed.setIfInBounds i true) K (Hi σ d Go.undef) w):WD P n ops S TT (fuel+1) listed K σ w:=by
 intro ds a ha;obtain⟨B,hblk,hcl⟩:=EN hi hB;simp only[Iq,uJ]at hB;refine Wh (v:=Go.undef) hi (xT hB.1) (λc a w h=>absurd h.1 A9) fuel listed a w hblk (Kq hcl).1 (Kq hcl).2 (by simpa using hB.2.1) ?_ hS (h _ _ (ha.put hdn _));refine .inr ⟨?_,rfl⟩;have hy:yielded ops a.tmps j=none:=by
  unfold yielded;rw[hj];have h1:=ha.get t;rw[hb]at h1;cases h:a.tmps[t]? with
  |none=>simp[h]
  |some v=>
   rw[vC,h]at h1;simp at h1;subst h1;simp[h,Go.undef]
 simp only[Region.wanted,hy];cases want<;>rfl
theorem dQ{S:World->Prop}{z:Array Bool}{fuel i dn:Nat}{o:Oper}{K:Env->World->Prop}(hT:Xt P T Z)(hr:Rel Z s σs A L σ w)(hi:ops[i]? =some o)(hB:Iq ops (tw z) listed i=true)(hp:WT P T n mem ops o s=some (dn,v))(hSw:S w)
  (hS:mem=true->∀w',S w'->Ext Z s σs A L σ w w') (hG:∀w',S w'->GS Z σs w') (h:∀σ',Rel Z (s.set dn v) σs A L σ' w->WD P n ops S (tw z) fuel (listed.setIfInBounds i true) K σ' w):WD P n ops S (tw z) (fuel+1) listed K σ w:=by
 obtain⟨d,op,ty,pos,after,g⟩:=o;have hm:=hr.mem;unfold WT at hp;simp only at hp;split at hp
 ·cases hp
 ·rename_i d';cases hn:Nat.blt d' n with
  |false=>rw[hn]at hp;cases hp
  |true=>
   rw[hn]at hp;simp only[wX,xL]at hp;try dsimp only[Bf]at hp
   split at hp
   ·
    cases hv:KE P T mem s op with
    |none=>rw[hv]at hp;cases hp
    |some u=>
     rw[hv]at hp;cases hp;obtain⟨h1,val,h2,h3⟩:=OQ hT hr hv hS hG;exact WD.x i hi hB hn hSw h2 (h _ (hr.set (.put h1 h3)))
   ·rename_i j want;split at hp
    ·cases hp
    ·rename_i t hj;split at hp
     ·rename_i b hb;have ht:=GN hm.sl hb;cases hw:CX want b with
      |true=>
       rw[hw]at hp;dsimp only[Bf,cond]at hp;cases hv:KE P T mem s op with
       |none=>rw[hv]at hp;cases hp
       |some u=>
        rw[hv]at hp;cases hp;obtain⟨h1,val,h2,h3⟩:=OQ hT hr hv hS hG;have hbw:(b==want)=true:=by rw[<-Vy];exact hw
        refine WD.gx (v:=val) i hi hB hn hj ht hSw (λ_=>h2) (h _ ?_);rw[OA hbw];exact hr.set (.put h1 h3)
      |false=>
       rw[hw]at hp;cases hp;have hbw:(b==want)=false:=by rw[<-Vy];exact hw
       refine WD.gx (v:=Go.undef) i hi hB hn hj ht hSw (λhg=>by rw[hbw]at hg;cases hg) (h _ ?_);rw[bD hbw];exact hr.set (show Hi σ dn Go.undef dn=Go.undef from Jq _ _ _)
     ·rename_i hb;cases hp;have h1:=Gb (t:=t) hm.sl;rw[hb]at h1;exact WD.tG i hi hB hn hj h1 hSw (h _ (hr.set (show Hi σ dn Go.undef dn=Go.undef from Jq _ _ _)))
     ·rename_i b hb;have ht:=Pc hm.sl hb;cases hne:Nat.beq d' t with
      |true=>rw[hne]at hp;cases hp
      |false=>
       rw[hne]at hp;dsimp only[Bf,cond]at hp;cases hv:KE P T mem (s.res t want) op with
       |none=>rw[hv]at hp;cases hp
       |some u=>
        rw[hv]at hp;cases hp;by_cases hbw:b=want
        ·subst hbw;obtain⟨h1,val,h2,h3⟩:=OQ hT (hr.res ht) hv (λhm w' hw=>lZ (hS hm w' hw) ht) hG;refine WD.gx (v:=val) i hi hB hn hj ht hSw (λ_=>h2) (h _ ?_);rw[OA A9];exact hr.set (NB ht hne (λ_=>h3) (λe=>absurd rfl e))
        ·refine WD.gx (v:=Go.undef) i hi hB hn hj ht hSw (λhg=>absurd (by simpa using hg) hbw) (h _ ?_);rw[bD (by simpa using hbw)];exact hr.set (NB ht hne (λe=>absurd e hbw) (λ_=>rfl))
     ·cases hp
theorem Rp{z:Array Bool}:∀{is:List Nat} {i d:Nat} {v:BG},Lf P n ops z listed s is=some (i,d,v)->∃o,ops[i]? =some o/\Iq ops (tw z) listed i=true/\TP P n ops o s=some (d,v)
 |[],_,_,_,h=>by simp[Lf]at h
 |j::is,i,d,v,h=>by
  simp only[Lf]at h;split at h
  ·cases h
  ·rename_i o ho;split at h
   ·rename_i d' v' hp;cases ht:Iq ops (tw z) listed j with
    |true=>rw[ht,Ug]at h;cases h;exact⟨o,ho,ht,hp⟩
    |false=>rw[ht,Uk]at h;exact Rp h
   ·exact Rp h
theorem jV{S:World->Prop}{z:Array Bool}{fuel i dn:Nat}{o:Oper}{x:b.X}{K:Env->World->Prop}(hr:Rel Z s σs A L σ w)(hi:ops[i]? =some o)(hB:Iq ops (tw z) listed i=true)(hp:TP P n ops o s=some (dn, .on b))(hx:b.E=some x)(hSw:S w)
  (h:∀σ',Rel Z (s.set dn (b.v x)) σs A L σ' w->WD P n ops S (tw z) fuel (listed.setIfInBounds i true) K σ' w):WD P n ops S (tw z) (fuel+1) listed K σ w:=by
 obtain⟨d,op,ty,pos,after,g⟩:=o;have hm:=hr.mem;unfold TP at hp;simp only at hp;split at hp
 ·cases hp
 ·rename_i d';cases hn:Nat.blt d' n with
  |false=>rw[hn]at hp;cases hp
  |true=>
   rw[hn]at hp;simp only[wX,xL]at hp;try dsimp only[Bf]at hp
   split at hp
   ·cases hv:iC P s op with
    |none=>rw[hv]at hp;cases hp
    |some u=>
     rw[hv]at hp;cases hp;obtain⟨h1,val,h2,h3⟩:=aX hr hv hx;exact WD.x i hi hB hn hSw (λw' _=>h2 w') (h _ (hr.set (.put h1 h3)))
   ·rename_i j want;split at hp
    ·cases hp
    ·rename_i t hj;split at hp
     ·rename_i c hb;have ht:=GN hm.sl hb;cases hw:CX want c with
      |true=>
       rw[hw]at hp;dsimp only[Bf,cond]at hp;cases hv:iC P s op with
       |none=>rw[hv]at hp;cases hp
       |some u=>
        rw[hv]at hp;cases hp;obtain⟨h1,val,h2,h3⟩:=aX hr hv hx;have hbw:(c==want)=true:=by rw[<-Vy];exact hw
        refine WD.gx (v:=val) i hi hB hn hj ht hSw (λ_ w' _=>h2 w') (h _ ?_);rw[OA hbw];exact hr.set (.put h1 h3)
      |false=>rw[hw]at hp;cases hp
     ·rename_i c hb;cases hne:Nat.beq d' t with
      |true=>rw[hne]at hp;cases hp
      |false=>
       rw[hne]at hp;dsimp only[Bf,cond]at hp;cases hv:iC P (s.res t want) op with
       |none=>rw[hv]at hp;cases hp
       |some u=>rw[hv]at hp;cases hp
     ·cases hp
theorem dW{S:World->Prop}{z:Array Bool}{fuel i dn t:Nat}{want bv:Bool}{o:Oper}{K:Env->World->Prop}{X:Go.Rx.S->Option R}(hr:Rel Z s σs A L σ w)(hi:ops[i]? =some o)(hB:Iq ops (tw z) listed i=true)(hp:TP P n ops o s=some (dn, .ask t want bv b))(hSw:S w)
  (hx:(Bf (CX want bv) (Option.bind b.E λx=>X ((s.res t bv).set dn (b.v x)))<|X ((s.res t bv).set dn .off))=some r)
  (h:∀s',s'.it=s.it->∀σ',Rel Z s' σs A L σ' w->X s'=some r->WD P n ops S (tw z) fuel (listed.setIfInBounds i true) K σ' w):WD P n ops S (tw z) (fuel+1) listed K σ w:=by
 obtain⟨d,op,ty,pos,after,g⟩:=o;have hm:=hr.mem;unfold TP at hp;simp only at hp;split at hp
 ·cases hp
 ·rename_i d';cases hn:Nat.blt d' n with
  |false=>rw[hn]at hp;cases hp
  |true=>
   rw[hn]at hp;simp only[wX,xL]at hp;try dsimp only[Bf]at hp
   split at hp
   ·cases hv:iC P s op with
    |none=>rw[hv]at hp;cases hp
    |some u=>rw[hv]at hp;cases hp
   ·rename_i j want';split at hp
    ·cases hp
    ·rename_i t' hj;split at hp
     ·rename_i c hb;cases hw:CX want' c with
      |true=>
       rw[hw]at hp;dsimp only[Bf,cond]at hp;cases hv:iC P s op with
       |none=>rw[hv]at hp;cases hp
       |some u=>rw[hv]at hp;cases hp
      |false=>rw[hw]at hp;cases hp
     ·rename_i c hb;have ht:=Pc hm.sl hb;cases hne:Nat.beq d' t' with
      |true=>rw[hne]at hp;cases hp
      |false=>
       rw[hne]at hp;dsimp only[Bf,cond]at hp;cases hv:iC P (s.res t' want') op with
       |none=>rw[hv]at hp;cases hp
       |some u=>
        rw[hv]at hp;cases hp;cases hw:CX want bv with
        |true=>
         rw[hw]at hx;dsimp only[Bf,cond]at hx;obtain⟨x,hx,hk⟩:=bind_some hx;have hbw:bv=want:=by cases want<;>cases bv<;>simp_all [CX]
         subst hbw;obtain⟨h1,val,h2,h3⟩:=aX (hr.res ht) hv hx;refine WD.gx (v:=val) i hi hB hn hj ht hSw (λ_ w' _=>h2 w') (h ((s.res t bv).set dn (b.v x)) rfl _ ?_ hk);rw[OA A9];exact(hr.res ht).set (.put h1 h3)
        |false=>
         rw[hw]at hx;dsimp only[Bf,cond]at hx;have hbw:(bv==want)=false:=by rw[<-Vy];exact hw
         refine WD.gx (v:=Go.undef) i hi hB hn hj ht hSw (λhg=>by rw[hbw]at hg;cases hg) (h ((s.res t bv).set dn .off) rfl _ ?_ hx);rw[bD hbw];exact(hr.res ht).set (show Hi σ dn Go.undef dn=Go.undef from Jq _ _ _)
     ·cases hp
theorem DP{z:Array Bool}:∀{is:List Nat} {i:Nat} {v:Nat×TypeId×Nat×List Step},On n ops z listed s is=some (i,v)->∃o,ops[i]? =some o/\Iq ops (tw z) listed i=true/\mO n ops o s=some v
 |[],_,_,h=>by simp[On]at h
 |j::is,i,v,h=>by
  simp only[On]at h;split at h
  ·cases h
  ·rename_i o ho;split at h
   ·rename_i v' hp;cases ht:Iq ops (tw z) listed j with
    |true=>rw[ht,Ug]at h;cases h;exact⟨o,ho,ht,hp⟩
    |false=>rw[ht,Uk]at h;exact DP h
   ·exact DP h
theorem nB{d dn:Nat}{t:TypeId}{j:Nat}{p:List Step}{u:PV}{kk:PV->Option R}(hr:Rel Z s σs A L σ w)(hp:lQ s d o=some (dn,t,j,p))(h:getRoot (Bd s.it j) p kk=some r):
  d=dn/\∃u,kk u=some r/\ (Ff P t u=true->u.isV=true/\∃val,(∀w',Ext Z s σs A L σ w w'->XO P σ w' o val)/\Bw (λb=>A b/\Z.R b) w L u val):=by
 have hm:=hr.mem;unfold lQ at hp;split at hp
 ·rename_i t' x;split at hp
  ·rename_i i p' hx;split at hp
   ·cases hp
   ·rename_i hne;cases hp;obtain⟨md,b,h1,h2,h3⟩:=Je (Bg hm.sl hx rfl);obtain⟨h4,_⟩:=hm.root h1 (λe=>hne e);obtain⟨u,c1,c2,c3,hk,he,h5,h6⟩:=RT h h4;refine⟨rfl,u,hk,λhb=>?_⟩;obtain⟨val,h7,h8⟩:=Ym (P:=P) (σ:=σ) (x:=x) (b:=b) (off:=Ah p) (Fz hb) h6 h3;obtain⟨hv,hv'⟩:=Dp h7;refine⟨hv,val,λw' hext=>h8 w' λq hq=>?_,hv'⟩;obtain⟨A',L',it',ha,hr'⟩:=hext.ex;have h10:(L++L')[j]? =some md:=by rw[uO (List.getElem?_eq_some_iff.1 h1).1];exact h1
    rw[hr'.cells h10 h2 _ (by rw[he];simp;omega),he,uU A7,h5,show Ah p+q-Ah p=q by omega,uO hq]
  ·cases hp
 ·cases hp
theorem qP{S:World->Prop}{z:Array Bool}{fuel i dn j:Nat}{t:TypeId}{p:List Step}{o:Oper}{kk:PV->Option R}{K:Env->World->Prop}(hr:Rel Z s σs A L σ w)(hi:ops[i]? =some o)(hB:Iq ops (tw z) listed i=true)(hp:mO n ops o s=some (dn,t,j,p))(hg:getRoot (Bd s.it j) p kk=some r)(hSw:S w)
  (hS:∀w',S w'->Ext Z s σs A L σ w w') (hkk:∀u,kk u=some r->Ff P t u=true)
  (h:∀u σ',kk u=some r->Rel Z (s.set dn u) σs A L σ' w->WD P n ops S (tw z) fuel (listed.setIfInBounds i true) K σ' w):WD P n ops S (tw z) (fuel+1) listed K σ w:=by
 obtain⟨d,op,ty,pos,after,g⟩:=o;have hm:=hr.mem;unfold mO at hp;simp only at hp;split at hp
 ·cases hp
 ·rename_i d';cases hn:Nat.blt d' n with
  |false=>rw[hn]at hp;cases hp
  |true=>
   rw[hn]at hp;simp only[wX,xL]at hp;try dsimp only[Bf]at hp
   split at hp
   ·obtain⟨rfl,u,hk,hu⟩:=nB (P:=P) (u:= .undef) hr hp hg;obtain⟨h1,val,h2,h3⟩:=hu (hkk u hk);exact WD.x i hi hB hn hSw (λw' hw=>h2 w' (hS w' hw)) (h u _ hk (hr.set (.put h1 h3)))
   ·rename_i q want;split at hp
    ·cases hp
    ·rename_i t' hj;split at hp
     ·rename_i c hb;have ht:=GN hm.sl hb;cases hw:CX want c with
      |true=>
       rw[hw]at hp;dsimp only[Bf,cond]at hp;obtain⟨rfl,u,hk,hu⟩:=nB (P:=P) (u:= .undef) hr hp hg;obtain⟨h1,val,h2,h3⟩:=hu (hkk u hk);have hbw:(c==want)=true:=by rw[<-Vy];exact hw
       refine WD.gx (v:=val) i hi hB hn hj ht hSw (λ_ w' hw=>h2 w' (hS w' hw)) (h u _ hk ?_);rw[OA hbw];exact hr.set (.put h1 h3)
      |false=>rw[hw]at hp;cases hp
     ·cases hp
theorem fL{i t:Nat}{b:Bool}(hr:Rel Z s σs A L σ w)(h:aY ops s i=some (t,b)):σ t= .bool b:=by
 unfold aY at h;split at h
 ·cases h
 ·split at h
  ·cases h
  ·split at h
   ·cases h
   ·split at h
    ·rename_i hb;cases h;exact Pc hr.mem.sl hb
    ·split at h
     ·rename_i hb;cases h;exact Pc hr.mem.sl hb
     ·cases h
    ·cases h
theorem BK{fin:S->Option R}:∀{l:List Nat} {s:Go.Rx.S},Rel Z s σs A L σ w->Vo ops l s fin=some r->∃s',Rel Z s' σs A L σ w/\s'.it=s.it/\fin s'=some r
 |[],s,hr,h=>⟨s,hr,rfl,h⟩
 |i::l,s,hr,h=>by
  rw[Vo]at h;split at h
  ·rename_i t b hg;have ht:=fL hr hg;cases b with
   |true=>
    obtain⟨s',h1,h2,h3⟩:=BK (l:=l) (hr.res ht) (by simpa using h);exact⟨s',h1,h2,h3⟩
   |false=>
    obtain⟨s',h1,h2,h3⟩:=BK (l:=l) (hr.res ht) (by simpa using h);exact⟨s',h1,h2,h3⟩
  ·exact BK (l:=l) hr h
theorem nY(hT:Xt P T Z)(hI:Kl P T.gl inl):∀{fuel:Nat} {z0:Array Bool} {listed:Array Bool} {s:S} {A:Reg} {L:List MD} {σ:Env} {w:World} {S:World->Prop},Rel Z s σs A L σ w->Rw P T inl n mem ops fuel z0 listed s k=some r->
  (mem=true->Ql (tw z0) listed=true\/∀w',IY Z σs A L s.it w w'->S w')-> (mem=false->∀w',GS Z σs w'->S w')->
  WD P n ops S (tw z0) fuel listed (λσ' w'=>∃s' A' L',k s'=some r/\Rel Z s' σs A' L' σ' w') σ w:=by
 intro fuel
 induction fuel with
 |zero=>
  intro z0 listed s A L σ w S hr h hI1 hI2;unfold Rw at h;rw[jT]at h;split at h
  ·rename_i hrd;exact WD.done hrd ⟨s,A,L,h,hr⟩
  ·cases h
 |succ fuel ih=>
  intro z0 listed s A L σ w S hr h hI1 hI2;unfold Rw at h;rw[jT]at h;split at h
  ·rename_i hrd;exact WD.done hrd ⟨s,A,L,h,hr⟩
  ·rename_i i is hrd;simp only at h;have rest:∀(z:Array Bool) (S:World->Prop) (s:Go.Rx.S),Rel Z s σs A L σ w-> (mem=true->∀w',IY Z σs A L s.it w w'->S w')-> (mem=false->∀w',GS Z σs w'->S w')->
     both (match ops[i]? with
        |some o=>Bf (mem&& !((SR T s o&&bT ops s o)||(!tw z i&&Ql (tw z) (listed.setIfInBounds i true)))) (none)<|
         DT P T inl n ops o s λs'=>Rw P T inl n mem ops fuel z (listed.setIfInBounds i true) s' k
        |none=>none) (is.map λi=>match ops[i]? with
        |some o=>Bf (mem&& !((SR T s o&&bT ops s o)||(!tw z i&&Ql (tw z) (listed.setIfInBounds i true)))) (none)<|
         DT P T inl n ops o s λs'=>Rw P T inl n mem ops fuel z (listed.setIfInBounds i true) s' k
        |none=>none)=some r->WD P n ops S (tw z) (fuel+1) listed (λσ' w'=>∃s' A' L',k s'=some r/\Rel Z s' σs A' L' σ' w') σ w:=by
    intro z S s hr hS1 hS2 h;obtain⟨h1,h2⟩:=WI h;refine WD.steps hrd rfl ?_;intro q hq;have hone:(match ops[q]? with
       |some o=>Bf (mem&& !((SR T s o&&bT ops s o)||(!tw z q&&Ql (tw z) (listed.setIfInBounds q true)))) (none)<|
        DT P T inl n ops o s λs'=>Rw P T inl n mem ops fuel z (listed.setIfInBounds q true) s' k
       |none=>none)=some r:=by
     rcases List.mem_cons.1 hq with rfl|hq
     ·exact h1
     ·exact h2 _ (List.mem_map_of_mem hq)
    split at hone
    ·rename_i o ho;refine⟨o,ho,?_⟩;cases hc:(mem&& !((SR T s o&&bT ops s o)||(!tw z q&&Ql (tw z) (listed.setIfInBounds q true))))with
     |true=>rw[hc]at hone;cases hone
     |false=>
      rw[hc]at hone;dsimp only[Bf,cond]at hone;refine Oy (dL hT hI hr hone) ?_;rintro σ' w' ⟨s',A',L',g1,g2,g3⟩;cases hmem:mem with
      |true=>
       subst hmem;simp only[xF,xH,wV,uJ,vB]at hc;rcases hc with hc|⟨hc1,hc2⟩
       ·have g4:=g3 hc;refine⟨λ_=>hS1 rfl _ ⟨s',σ',A',L',g2,g4⟩,ih g2 g1 (λ_=> .inr λw'' hw=>?_) (λe=>by cases e)⟩;obtain⟨s2,σ2,A2,L2,h5,h6⟩:=hw;exact hS1 rfl _ ⟨s2,σ2,A2,L2,h5,g4.trans h6⟩
       ·refine⟨λhlt=>?_,ih g2 g1 (λ_=> .inl hc2) (λe=>by cases e)⟩;rw[hlt]at hc1;cases hc1
      |false=>
       subst hmem;exact⟨λ_=>hS2 rfl _ ⟨_,_,_,_,g2⟩,ih g2 g1 (λe=>by cases e) hS2⟩
    ·cases hone
   have main:∀(z:Array Bool) (S:World->Prop) (s:Go.Rx.S) (F:Option R),Rel Z s σs A L σ w-> (mem=true->∀w',IY Z σs A L s.it w w'->S w')-> (mem=false->∀w',GS Z σs w'->S w')-> (F=some r->WD P n ops S (tw z) (fuel+1) listed (λσ' w'=>∃s' A' L',k s'=some r/\Rel Z s' σs A' L' σ' w') σ w)->
     (match Ih P T n mem ops z listed s (i::is)with
      |some (i,d,v)=>Rw P T inl n mem ops fuel z (listed.setIfInBounds i true) (s.set d v) k
      |none=>match Lf P n ops z listed s (i::is)with
       |some (i,d, .on b)=>Option.bind b.E λx=>Rw P T inl n mem ops fuel z (listed.setIfInBounds i true) (s.set d (b.v x)) k
       |some (i,d, .ask t want bv b)=>if bv=true then
         (Bf (CX want true) (Option.bind b.E λx=>Rw P T inl n mem ops fuel z (listed.setIfInBounds i true) ((s.res t true).set d (b.v x)) k)<|Rw P T inl n mem ops fuel z (listed.setIfInBounds i true) ((s.res t true).set d .off) k)
         else(Bf (CX want false) (Option.bind b.E λx=>Rw P T inl n mem ops fuel z (listed.setIfInBounds i true) ((s.res t false).set d (b.v x)) k)<|Rw P T inl n mem ops fuel z (listed.setIfInBounds i true) ((s.res t false).set d .off) k)
       |none=>match(Bf (mem) (On n ops z listed s (i::is))<|none)with
       |some (i,d,t,j,p)=>getRoot (Bd s.it j) p λu=>Bf (Ff P t u) (Rw P T inl n mem ops fuel z (listed.setIfInBounds i true) (s.set d u) k)<|none
       |none=>F)=some r->WD P n ops S (tw z) (fuel+1) listed (λσ' w'=>∃s' A' L',k s'=some r/\Rel Z s' σs A' L' σ' w') σ w:=by
    intro z S s F hr hS1 hS2 hfin h;split at h
    ·rename_i i' d v hp;obtain⟨o,ho,hB,hp⟩:=Wd hp;cases hmem:mem with
     |true=>
      subst hmem;refine WD.PX (S':=IY Z σs A L s.it w) (hS1 rfl) (dQ hT hr ho hB hp (.refl hr) (λ_ w' hw=>hw.ext hr) (λw' hw=>(hw.ext hr).gs) λσ' hr'=>?_);exact ih hr' h (λ_=> .inr λw' hw=>hw) (λe=>by cases e)
     |false=>
      subst hmem;refine WD.PX (S':=GS Z σs) (hS2 rfl) (dQ hT hr ho hB hp ⟨_,_,_,_,hr⟩ (λe=>by cases e) (λw' hw=>hw) λσ' hr'=>?_);exact ih hr' h (λe=>by cases e) (λ_ w' hw=>hw)
    ·split at h
     ·rename_i i' d b hp;obtain⟨o,ho,hB,hp⟩:=Rp hp;obtain⟨x,hx,h⟩:=bind_some h;cases hmem:mem with
      |true=>
       subst hmem;refine WD.PX (S':=IY Z σs A L s.it w) (hS1 rfl) (jV hr ho hB hp hx (.refl hr) λσ' hr'=>?_);exact ih hr' h (λ_=> .inr λw' hw=>hw) (λe=>by cases e)
      |false=>
       subst hmem;refine jV hr ho hB hp hx (hS2 rfl _ ⟨_,_,_,_,hr⟩) λσ' hr'=>?_;exact ih hr' h (λe=>by cases e) hS2
     ·rename_i i' d t want bv b hp;obtain⟨o,ho,hB,hp⟩:=Rp hp;have h:(Bf (CX want bv) (Option.bind b.E λx=>Rw P T inl n mem ops fuel z (listed.setIfInBounds i' true) ((s.res t bv).set d (b.v x)) k)<|Rw P T inl n mem ops fuel z (listed.setIfInBounds i' true) ((s.res t bv).set d .off) k)=some r:=by
       cases bv with
       |true=>simpa using h
       |false=>simpa using h
      cases hmem:mem with
      |true=>
       subst hmem;refine WD.PX (S':=IY Z σs A L s.it w) (hS1 rfl) (dW (X:=λs'=>Rw P T inl n true ops fuel z (listed.setIfInBounds i' true) s' k) hr ho hB hp (.refl hr) h λs' hs' σ' hr' h=>?_);exact ih hr' h (λ_=> .inr λw' hw=>hs'▸hw) (λe=>by cases e)
      |false=>
       subst hmem;refine dW (X:=λs'=>Rw P T inl n false ops fuel z (listed.setIfInBounds i' true) s' k) hr ho hB hp (hS2 rfl _ ⟨_,_,_,_,hr⟩) h λs' hs' σ' hr' h=>?_;exact ih hr' h (λe=>by cases e) hS2
     ·split at h
      ·rename_i i' d t j p hp;cases hmem:mem with
       |false=>rw[hmem]at hp;cases hp
       |true=>
        subst hmem;dsimp only[Bf,cond]at hp;obtain⟨o,ho,hB,hp⟩:=DP hp;refine WD.PX (S':=IY Z σs A L s.it w) (hS1 rfl) (qP (P:=P) hr ho hB hp h (.refl hr) (λw' hw=>hw.ext hr) (λu hu=>(Aj hu).1) λu σ' hu hr'=>?_);exact ih hr' (Aj hu).2 (λ_=> .inr λw' hw=>hw) (λe=>by cases e)
      exact hfin h
   have all:∀(z:Array Bool) (S:World->Prop),(mem=true->∀w',IY Z σs A L s.it w w'->S w')-> (mem=false->∀w',GS Z σs w'->S w')->
     (match Ih P T n mem ops z listed s (i::is)with
      |some (i,d,v)=>Rw P T inl n mem ops fuel z (listed.setIfInBounds i true) (s.set d v) k
      |none=>match Lf P n ops z listed s (i::is)with
       |some (i,d, .on b)=>Option.bind b.E λx=>Rw P T inl n mem ops fuel z (listed.setIfInBounds i true) (s.set d (b.v x)) k
       |some (i,d, .ask t want bv b)=>if bv=true then
         (Bf (CX want true) (Option.bind b.E λx=>Rw P T inl n mem ops fuel z (listed.setIfInBounds i true) ((s.res t true).set d (b.v x)) k)<|Rw P T inl n mem ops fuel z (listed.setIfInBounds i true) ((s.res t true).set d .off) k)
         else(Bf (CX want false) (Option.bind b.E λx=>Rw P T inl n mem ops fuel z (listed.setIfInBounds i true) ((s.res t false).set d (b.v x)) k)<|Rw P T inl n mem ops fuel z (listed.setIfInBounds i true) ((s.res t false).set d .off) k)
       |none=>match(Bf (mem) (On n ops z listed s (i::is))<|none)with
       |some (i,d,t,j,p)=>getRoot (Bd s.it j) p λu=>Bf (Ff P t u) (Rw P T inl n mem ops fuel z (listed.setIfInBounds i true) (s.set d u) k)<|none
       |none=>(λs=>Bf mem (Vo ops ((i::is)++(i::is)) s λs=>(match Ih P T n mem ops z listed s (i::is)with
      |some (i,d,v)=>Rw P T inl n mem ops fuel z (listed.setIfInBounds i true) (s.set d v) k
      |none=>match Lf P n ops z listed s (i::is)with
       |some (i,d, .on b)=>Option.bind b.E λx=>Rw P T inl n mem ops fuel z (listed.setIfInBounds i true) (s.set d (b.v x)) k
       |some (i,d, .ask t want bv b)=>if bv=true then
         (Bf (CX want true) (Option.bind b.E λx=>Rw P T inl n mem ops fuel z (listed.setIfInBounds i true) ((s.res t true).set d (b.v x)) k)<|Rw P T inl n mem ops fuel z (listed.setIfInBounds i true) ((s.res t true).set d .off) k)
         else(Bf (CX want false) (Option.bind b.E λx=>Rw P T inl n mem ops fuel z (listed.setIfInBounds i true) ((s.res t false).set d (b.v x)) k)<|Rw P T inl n mem ops fuel z (listed.setIfInBounds i true) ((s.res t false).set d .off) k)
       |none=>match(Bf (mem) (On n ops z listed s (i::is))<|none)with
       |some (i,d,t,j,p)=>getRoot (Bd s.it j) p λu=>Bf (Ff P t u) (Rw P T inl n mem ops fuel z (listed.setIfInBounds i true) (s.set d u) k)<|none
       |none=>both (match ops[i]? with
        |some o=>Bf (mem&& !((SR T s o&&bT ops s o)||(!tw z i&&Ql (tw z) (listed.setIfInBounds i true)))) (none)<|
         DT P T inl n ops o s λs'=>Rw P T inl n mem ops fuel z (listed.setIfInBounds i true) s' k
        |none=>none) (is.map λi=>match ops[i]? with
        |some o=>Bf (mem&& !((SR T s o&&bT ops s o)||(!tw z i&&Ql (tw z) (listed.setIfInBounds i true)))) (none)<|
         DT P T inl n ops o s λs'=>Rw P T inl n mem ops fuel z (listed.setIfInBounds i true) s' k
        |none=>none)))<|both (match ops[i]? with
        |some o=>Bf (mem&& !((SR T s o&&bT ops s o)||(!tw z i&&Ql (tw z) (listed.setIfInBounds i true)))) (none)<|
         DT P T inl n ops o s λs'=>Rw P T inl n mem ops fuel z (listed.setIfInBounds i true) s' k
        |none=>none) (is.map λi=>match ops[i]? with
        |some o=>Bf (mem&& !((SR T s o&&bT ops s o)||(!tw z i&&Ql (tw z) (listed.setIfInBounds i true)))) (none)<|
         DT P T inl n ops o s λs'=>Rw P T inl n mem ops fuel z (listed.setIfInBounds i true) s' k
        |none=>none)) s)=some r->WD P n ops S (tw z) (fuel+1) listed (λσ' w'=>∃s' A' L',k s'=some r/\Rel Z s' σs A' L' σ' w') σ w:=by
    intro z S hS1 hS2 h;refine main z S s _ hr hS1 hS2 (λhF=>?_) h;clear h;cases hmem:mem with
    |false=>
     simp only[hmem,Bf]at hF;subst hmem;exact rest z S s hr hS1 hS2 hF
    |true=>
     simp only[hmem,Bf]at hF;subst hmem;obtain⟨s',hr',hit,h'⟩:=BK hr hF;refine main z S s' _ hr' (by rw[hit];exact hS1) hS2 (λhG=>?_) h';exact rest z S s' hr' (by rw[hit];exact hS1) hS2 hG
   cases hz:(mem&&Ql (tw z0) listed)with
   |true=>
    rw[hz]at h;simp only[uJ]at hz;obtain⟨hm,hov⟩:=hz;subst hm;exact WD.next (S':=IY Z σs A L s.it w) _ hov (all _ _ (λ_ w' hw=>hw) (λe=>by cases e) h)
   |false=>
    rw[hz]at h;refine all _ _ (λhm=>?_) hI2 h;subst hm;rcases hI1 rfl with h1|h1
    ·rw[h1]at hz;cases hz
    ·exact h1
end Go.Rx
namespace Go.Rx
open Go Go.Lv
variable{p:PV}
variable {P:Program} {B B':Reg} {w w':World} {L L':List MD} {s:S} {σs:List Env} {σ:Env} {Z:Fix} {A A':Reg} {n:Nat} {ops:Array Oper}
variable {R:Type} {k:S->Option R} {r:R}
def nH(w:World)(A:Reg)(L:List Mob)(os:Nat->Option Nat):Prop:=
 (∀(i:Nat) (m:Mob),L[i]? =some m->m.holds (os i) w/\∀b,os i=some b-> ¬A b/\b<w.heap.size)/\∀i j b,i<L.length->j<L.length->i≠j->os i=some b->os j≠some b
theorem Bi.sQ:∀{L:List Mob} {A:Reg},Bi w A L->∃os,nH w A L os
 |[],A,_=>⟨λ_=>none,λi m h=>by simp at h,λi j b h=>by simp at h⟩
 |m::L,A,⟨o,h1,h2,h3⟩=>by
  obtain⟨os,g1,g2⟩:=Bi.sQ h3;refine⟨λi=>match i with|0=>o|i+1=>os i,λi m' h=>?_,λi j b hi hj hij h=>?_⟩
  ·cases i with
   |zero=>simp at h;subst h;exact⟨h1,h2⟩
   |succ i=>
    obtain⟨g3,g4⟩:=g1 i m' (by simpa using h);exact⟨g3,λb hb=>⟨λhA=>(g4 b hb).1 (.inl hA),(g4 b hb).2⟩⟩
  ·have key:∀q,q<L.length->∀b,os q=some b->o≠some b:=λq hq b hb ho=>by
    exact((g1 q L[q] (by simp[hq])).2 b hb).1 (.inr ho)
   cases i with
   |zero=>
    cases j with
    |zero=>exact absurd rfl hij
    |succ j=>intro hb;exact key j (by simpa using hj) b hb h
   |succ i=>
    cases j with
    |zero=>exact key i (by simpa using hi) b h
    |succ j=>exact g2 i j b (by simpa using hi) (by simpa using hj) A7 h
theorem Bi.sP:∀{L:List Mob} {A:Reg} {os:Nat->Option Nat},nH w A L os->Bi w A L
 |[],_,_,_=>trivial
 |m::L,A,os,⟨g1,g2⟩=>by
  obtain⟨h1,h2⟩:=g1 0 m rfl;refine⟨os 0,h1,h2,Bi.sP (os:=λi=>os (i+1)) ⟨λi m' h=>?_,λi j b hi hj hij h=>?_⟩⟩
  ·obtain⟨g3,g4⟩:=g1 (i+1) m' (by simpa using h);refine⟨g3,λb hb=>⟨λhA=>?_,(g4 b hb).2⟩⟩;rcases hA with hA|hA
   ·exact(g4 b hb).1 hA
   ·have hlt:i<L.length:=(List.getElem?_eq_some_iff.1 h).1;exact g2 0 (i+1) b A9 (by simpa using hlt) A7 hA hb
  ·exact g2 (i+1) (j+1) b (by simpa using hi) (by simpa using hj) A7 h
def distinct:List Nat->Bool|[]=>true|i::r=>!Jh i r&&distinct r
theorem GQ:∀{l:List Nat} {i j q:Nat},distinct l=true->l[i]? =some q->l[j]? =some q->i=j
 |[],_,_,_,_,h,_=>by simp at h
 |a::l,i,j,q,hd,hi,hj=>by
  simp only[distinct,uJ,vB]at hd;have hn:a∉l:=λh=>by have:=Kk.2 h;rw[hd.1]at this;cases this
  cases i with
  |zero=>
   cases j with
   |zero=>rfl
   |succ j=>simp at hi hj;subst hi;exact absurd (vW hj) hn
  |succ i=>
   cases j with
   |zero=>simp at hi hj;subst hj;exact absurd (vW hi) hn
   |succ j=>exact congrArg (· +1) (GQ (q:=q) hd.2 (by simpa using hi) (by simpa using hj))
theorem PB{w:World}:MD.dead.Cx.holds none w:=⟨none,0,0,rfl,A9,vD _,λ_=>rfl,λ_=>rfl,λb h=>by cases h⟩
theorem getD_some{i:Nat}{md:MD}(h:L[i]? =some md):L.getD i .dead=md:=by simp[uS,h]
theorem getD_none{i:Nat}(h:L[i]? =none):L.getD i .dead= .dead:=by simp[uS,h]
def aM(o:List Nat)(L:List MD)(os:Nat->Option Nat)(j:Nat):Option Nat:=match o[j]? with|some i=>(match L[i]? with|some _=>os i|none=>none)|none=>none
theorem DG{o:List Nat}{os:Nat->Option Nat}{i j:Nat}{md:MD}(h:o[j]? =some i)(hL:L[i]? =some md):aM o L os j=os i:=by unfold aM;rw[h];simp only[hL]
theorem EY{o:List Nat}{os:Nat->Option Nat}{i j:Nat}(h:o[j]? =some i)(hL:L[i]? =none):aM o L os j=none:=by unfold aM;rw[h];simp only[hL]
theorem TL{o:List Nat}(h:Bi w A (L.map MD.Cx))(hd:distinct o=true):Bi w A ((o.map λi=>L.getD i .dead).map MD.Cx):=by
 obtain⟨os,g1,g2⟩:=Bi.sQ h;refine Bi.sP (os:=aM o L os) ⟨λj m hm=>?_,λi j b hi hj hij hb=>?_⟩
 ·simp only[List.map_map,vZ,vY,Function.comp]at hm;obtain⟨i,hi,rfl⟩:=hm;cases hL:L[i]? with
  |none=>rw[getD_none hL,EY hi hL];exact⟨PB,λb hb=>by cases hb⟩
  |some md=>rw[getD_some hL,DG hi hL];exact g1 i md.Cx (by simp[hL])
 ·simp only[List.length_map]at hi hj;have e1:o[i]? =some o[i]:=by simp[hi]
  have e2:o[j]? =some o[j]:=by simp[hj]
  have hne:o[i]≠o[j]:=λe=>hij (GQ hd e1 (by rw[e2,e]));cases hL1:L[o[i]]? with
  |none=>rw[EY e1 hL1]at hb;cases hb
  |some m1=>
   rw[DG e1 hL1]at hb;cases hL2:L[o[j]]? with
   |none=>rw[EY e2 hL2];simp
   |some m2=>
    rw[DG e2 hL2];exact g2 _ _ b (by simpa using(List.getElem?_eq_some_iff.1 hL1).1) (by simpa using(List.getElem?_eq_some_iff.1 hL2).1) hne hb
theorem aJ{i:Nat}:∀{o:List Nat} {m j:Nat},posOf i o m=some j->∃q,j=m+q/\o[q]? =some i
 |[],_,_,h=>by simp[posOf]at h
 |a::o,m,j,h=>by
  simp only[posOf]at h;cases hb:Nat.beq i a with
  |true=>rw[hb]at h;cases h;exact⟨0,rfl,by simp[Bc hb]⟩
  |false=>
   rw[hb]at h;obtain⟨q,h1,h2⟩:=aJ (o:=o) h;exact⟨q+1,A7,by simpa using h2⟩
theorem JO{o:List Nat}{i j:Nat}{md:MD}(h:posOf i o 0=some j)(hL:L[i]? =some md):(o.map λi=>L.getD i .dead)[j]? =some md:=by
 obtain⟨q,h1,h2⟩:=aJ h;rw[wO]at h1;subst h1;simp[h2,uS,hL]
theorem dH{o:List Nat}:(RF o p).isA=p.isA:=by
 cases p<;>try rfl
 ·simp only[RF];split<;>rfl
 ·simp only[RF];split<;>rfl
 ·simp only[RF];split<;>rfl
abbrev BR(L:List MD):Prop:=L.all (λm=>match m with| .own _ _ v _=>v.oneCell'|_=>true)=true
mutual
theorem GF{o:List Nat}(h1:BR L):∀{p:PV} {cs:List Value},Am B w L p cs->Am B w (o.map λi=>L.getD i .dead) (RF o p) cs
 | .val _ x,cs,h=>h
 | .agg q,cs,h=>aH h1 (show Am.go B w L q cs from h)
 | .tup _,_,h=>h.elim
 | .nils,cs,h=>h
 | .own j,cs,⟨z,E,v,c,g1,g2⟩=>by
  simp only[RF];split
  ·rename_i j' hj;exact⟨z,E,v,c,JO hj g1,g2⟩
  ·exact⟨v,g2,List.all_eq_true.1 h1 _ (vW g1)⟩
 | .ptr j q,cs,⟨md,b,g1,g2,g3⟩=>by
  simp only[RF];split
  ·rename_i j' hj;exact⟨md,b,JO hj g1,g2,g3⟩
  ·exact⟨_,g3,rfl⟩
 | .view u j p e lo n,cs,⟨md,v,g1,g2,g3⟩=>by
  simp only[RF];split
  ·rename_i j' hj;exact⟨md,v,JO hj g1,g2,g3⟩
  ·obtain⟨_,_,⟨pt,cap,e',_⟩,_⟩:=g3;exact⟨v,g2,by rw[e'];rfl⟩
 | .rptr v,cs,⟨pv,c0,g1,g2,g3⟩=>⟨pv,c0,g1,g2,GF h1 g3⟩
 | .fn f caps,cs,⟨vs,g1,g2⟩=>⟨vs,g1,Xy h1 g2⟩
 | .cap _ _ _,cs,h=>h
 | .bfn f fs,cs,⟨vs,g1,g2⟩=>⟨vs,g1,Xy h1 g2⟩
 | .mp ks l,cs,⟨r,es,n,g1,g2,g3,g4,g5⟩=>⟨r,es,n,g1,g2,g3,g4,Xy h1 g5⟩
 | .cst v,cs,h=>h
 | .any,cs,h=>h
 | .gd _ _ _,_,h=>h.elim
 | .off,_,h=>h.elim
 | .undef,_,h=>h.elim
theorem aH{o:List Nat}(h1:BR L):∀{q:List PV} {cs:List Value},Am.go B w L q cs->Am.go B w (o.map λi=>L.getD i .dead) (RF.go o q) cs
 |[],cs,h=>h
 |a::q,cs,⟨c1,c2,e',g1,g2⟩=>⟨c1,c2,e',GF h1 g1,aH h1 g2⟩
theorem Xy{o:List Nat}(h1:BR L):∀{q:List PV} {vs:List Value},By B w L q vs->By B w (o.map λi=>L.getD i .dead) (RF.go o q) vs
 |[],vs,h=>h
 |a::q,vs,⟨v,vs',e',g1,g2⟩=>⟨v,vs',e',by rw[dH];exact g1.mono λc h=>GF h1 h,Xy h1 g2⟩
end
theorem ZY{o:List Nat}(h1:BR L){v:Value}(h:Bw B w L p v):Bw B w (o.map λi=>L.getD i .dead) (RF o p) v:=by
 cases hp:p.WY with
 |true=>
  have h2:Dg B w (o.map λi=>L.getD i .dead) (RF o p) v:=by
   unfold Dg;rw[dH];exact cP.mono (λc h=>GF h1 h) ((Vn hp).1 h)
  exact(Dp h2).2
 |false=>
  cases p
  case tup q=>obtain⟨vs,g1,g2⟩:=h;exact⟨vs,g1,Xy h1 g2⟩
  case undef=>exact(show False from h).elim
  case off=>exact(show False from h).elim
  case gd=>exact(show False from h).elim
  all_goals cases hp
theorem fE{o:List Nat}(h1:BR L){t:Nat}(h:Cw B w L σ t p):Cw B w (o.map λi=>L.getD i .dead) σ t (RF o p):=by
 cases hv:p.isV with
 |true=>
  have g1:=ZY (o:=o) h1 ((Cw.iff hv).1 h);have g2:(RF o p).isV=true:=by
   cases p<;>first|rfl|cases hv|skip
   ·simp only[RF];split<;>rfl
   ·simp only[RF];split<;>rfl
   ·simp only[RF];split<;>rfl
  exact(Cw.iff g2).2 g1
 |false=>
  rcases Ig hv with rfl|rfl|⟨j,u,q,rfl⟩
  ·exact trivial
  ·exact h
  ·obtain⟨b,g1,g2,g3⟩:=h;exact⟨b,g1,λe=>ZY h1 (g2 e),g3⟩
theorem QT{o:List Nat}(h1:BR L){sl:Slots}(h:Cj B w L σ sl):Cj B w (o.map λi=>L.getD i .dead) σ (eM o sl):=by
 intro p hp;obtain⟨q,hq,rfl⟩:=List.mem_map.1 hp;exact fE h1 (h q hq)
theorem RC{o:List Nat}(h1:BR L):∀{σs:List Env} {st:List Slots},Vh B w L σs st->Vh B w (o.map λi=>L.getD i .dead) σs (st.map (eM o))
 |[],[],h=>h
 |_::_,_::_,⟨g1,g2⟩=>⟨QT h1 g1,RC h1 g2⟩
theorem UD{o:List Nat}(h1:BR L){a:Item}{md:MD}(h:Jk B w L a md):Jk B w (o.map λi=>L.getD i .dead) (nA o a) md:=by
 cases a<;>cases md<;>first
  |exact h
  |exact⟨h.1,GF h1 h.2⟩
theorem Ut{sl:Slots}(h:Cj B w L σ sl):∀(lv:List Nat),Cj B w L σ (CT sl lv)
 |[]=>λp hp=>by simp[CT]at hp
 |t::lv=>by
  intro p hp;simp only[CT]at hp;split at hp
  ·exact Ut h lv p hp
  ·exact Ut h lv p hp
  ·exact Ut h lv p hp
  ·rcases List.mem_cons.1 hp with rfl|hp
   ·exact Gb (s:=⟨sl,[],[]⟩) (t:=t) h
   ·exact Ut h lv p hp
theorem CQ:∀{l:List Nat} {i:Nat},distinct l=true->Jh i l=false->distinct (l++[i])=true
 |[],_,_,_=>rfl
 |a::l,i,hd,hi=>by
  simp only[distinct,uJ,vB]at hd;simp only[Jh,wI]at hi;simp only[xA,distinct,uJ,vB];refine⟨?_,CQ hd.2 hi.2⟩;cases hx:Jh a (l++[i])with
  |false=>rfl
  |true=>
   rcases List.mem_append.1 (Kk.1 hx)with h|h
   ·have:=Kk.2 h;rw[hd.1]at this;cases this
   ·simp at h;subst h;simp at hi
theorem Pv{it:List Item}:∀(q:Nat) (todo seen:List Nat),distinct seen=true->distinct (reach it q todo seen)=true
 |0,_,_,h=>h
 |_+1,[],_,h=>h
 |q+1,i::todo,seen,h=>by
  simp only[reach];cases he:Jh i seen with
  |true=>exact Pv q _ _ h
  |false=>exact Pv q _ _ (CQ h he)
theorem jM(hr:Rel Z s σs A L σ w)(lv:List Nat):∃L',Rel Z (s.canon lv) σs A L' σ w:=by
 have hm:=hr.mem;have h1:BR L:=hr.BR;unfold S.canon;simp only;generalize ho:reach s.it 200 (XG (CT s.sl lv)++(s.st.map XG).flatten) []=o;have hd:distinct o=true:=by rw[<-ho];exact Pv _ _ _ rfl
 refine⟨o.map λi=>L.getD i .dead,?_⟩;have hst:St A w [IB Z.R L s σs σ, .old Z.M Z.w0] ((o.map λi=>L.getD i .dead).map MD.Cx):=⟨St.lt hr,St.facts hr,TL (St.mobs hr) hd⟩;refine Rel.as hst (i:=1) rfl ⟨⟨A9,λj a m g1 g2=>?_⟩,QT h1 (Ut hm.sl lv),RC h1 hm.stk⟩ rfl;simp only[vZ,vY]at g1 g2;obtain⟨i,g3,rfl⟩:=g1;obtain⟨i',g4,rfl⟩:=g2;rw[g3]at g4;cases g4;cases hi:Bd s.it i with
 |dead=>exact trivial
 |box T v=>
  obtain⟨md,g5,g6⟩:=hm.item hi (by intro e;cases e);rw[getD_some g5];exact UD h1 g6
 |arr E e l=>
  obtain⟨md,g5,g6⟩:=hm.item hi (by intro e;cases e);rw[getD_some g5];exact UD h1 g6
theorem OJ:∀{p:List Nat} {v u:PV} {cs:List Value},nK v p=some u->Am B w L v cs-> (∃c,Am B w L u c)/\∀(B':Reg) (w':World) (L':List MD) (m v':PV),(∀q c,Am B w L q c->Am B' w' L' q c)-> (∀c,Am B w L u c->Am B' w' L' m c)->m.isA=u.isA->bV m v p=some v'->Am B' w' L' v' cs/\v'.isA=v.isA
 |[],v,u,cs,h,hv=>by
  simp only[nK,uN]at h;subst h;refine⟨⟨cs,hv⟩,λB' w' L' m v' _ hm hA hp=>?_⟩;simp only[bV,uN]at hp;subst hp;exact⟨hm _ hv,hA⟩
 |i::p,v,u,cs,h,hv=>by
  cases v<;>simp only[nK,reduceCtorEq]at h;rename_i l;split at h
  ·rename_i f hf;obtain⟨c1,c2,c3,e,h1,h2,h3⟩:=Am.field (show Am.go B w L l cs from hv) hf;obtain⟨g1,g2⟩:=OJ h h2;refine⟨g1,λB' w' L' m v' hq hm hA hp=>?_⟩;simp only[bV,hf]at hp;split at hp
   ·rename_i f' hf';cases hp;obtain⟨g3,_⟩:=g2 B' w' L' m f' hq hm hA hf';refine⟨?_,rfl⟩;have hl:Am.go B' w' L' l cs:=show Am B' w' L' (.agg l) cs from hq _ _ hv;obtain⟨d1,d2,d3,e',k1,k2,k3⟩:=Am.field hl hf;have:d2=c2:=by
     have l1:d1.length=c1.length:=k1.trans h1.symm;have l2:d2.length=c2.length:=k2.len.trans h2.len.symm;rw[e]at e';obtain⟨e1,e2⟩:=List.append_inj e' l1.symm;obtain⟨e3,_⟩:=List.append_inj e2 l2.symm;exact e3.symm
    rw[e'];exact k3 _ _ (by rw[this];exact g3)
   ·cases hp
  ·cases h
theorem XR(hr:Rel Z s σs A L σ w)(E:TypeId)(e:ET):Rel Z (s.add (.arr E e [])) σs A (L++[.own e.size E (.slice none 0 0) []]) σ w:=
 Rel.push (a:= .arr E e []) (md:= .own e.size E (.slice none 0 0) []) (St.QR hr e.size E) ⟨rfl,rfl,rfl⟩
theorem QM{i b:Nat}{T:TypeId}{v':PV}{cells:List Value}(hr:Rel Z s σs A L σ w)(hL:L[i]? =some (.box b cells T))(hv:Am (λb=>A b/\Z.R b) w L v' cells):Rel Z (s.Hi i (.box T v')) σs A L σ w:=by
 have hm:=hr.mem;refine Rel.as hr (i:=1) rfl ⟨⟨by simp[S.Hi,BH,hm.it.1],λj a m h1 h2=>?_⟩,hm.sl,hm.stk⟩ rfl;simp only[S.Hi]at h1;rcases BF h1 with⟨rfl,rfl⟩|⟨_,h4⟩
 ·rw[hL]at h2;cases h2;exact⟨rfl,hv⟩
 ·exact hm.it.2 j a m h4 h2
theorem YE{t:Nat}{m:PV}:∀{sl:Slots} {q:Nat} {v:PV},(q,v)∈bX t m sl-> (q,v)∈sl\/ (q=t/\v=m)
 |[],_,_,h=>by simp[bX]at h
 |(q',v')::r,q,v,h=>by
  simp only[bX]at h;cases hb:Nat.beq q' t with
  |true=>
   rw[hb]at h;rcases List.mem_cons.1 h with h|h
   ·cases h;exact .inr ⟨Bc hb,rfl⟩
   ·exact .inl (.tail _ h)
  |false=>
   rw[hb]at h;rcases List.mem_cons.1 h with h|h
   ·cases h;exact .inl (.head _)
   ·exact(YE h).imp (.tail _) id
theorem QF{t:Nat}{m:PV}(hr:Rel Z s σs A L σ w)(hm:Cw (λb=>A b/\Z.R b) w L σ t m):Rel Z ⟨bX t m s.sl,s.it,s.st⟩ σs A L σ w:=by
 refine hr.YF rfl rfl ?_;rintro⟨q,v⟩ hp;rcases YE hp with h|⟨rfl,rfl⟩
 ·exact hr.mem.sl _ h
 ·exact hm
theorem aB{e:ET}{c:List Value}(h:Am B w L .nils c):Am B w L (.val (.list e) []) c:=⟨_,[],show c=_ from h,Rd.nil,rfl⟩
theorem kZ{a:At}{s':S}(hr:Rel Z s σs A L σ w)(h:pA s a=some s'):∃A' L',Rel Z s' σs A' L' σ w:=by
 have hm:=hr.mem;unfold pA at h;simp only at h;split at h
 ·
  rename_i i q hsl;split at h
  ·rename_i T v hi;split at h
   ·rename_i u hu;obtain⟨b,cells,hL,hv⟩:=hm.box hi;split at h
    ·rename_i E e _;split at h
     ·rename_i v' hv';cases h;obtain⟨_,g⟩:=OJ hu hv;have hr2:=XR hr E e;have hL2:(L++[.own e.size E (.slice none 0 0) []])[i]? =some (.box b cells T):=by rw[uO (List.getElem?_eq_some_iff.1 hL).1];exact hL
      obtain⟨g1,_⟩:=g (λb=>A b/\Z.R b) w (L++[.own e.size E (.slice none 0 0) []]) (.own s.new) v' (λq c h=>Am.step (λ_ h=>h) (λ_ _=>rfl) (Xs.append _ _) h)
       (λc hc=>⟨e.size,E,_,[],by rw[S.new,hr.len];simp,hc⟩) rfl hv'
      exact⟨_,_,QM hr2 hL2 g1⟩
     ·cases h
    ·cases h;exact⟨A,L,hr⟩
    ·rename_i e _;split at h
     ·rename_i v' hv';cases h;obtain⟨_,g⟩:=OJ hu hv;obtain⟨g1,_⟩:=g (λb=>A b/\Z.R b) w L (.val (.list e) []) v' (λq c h=>h) (λc hc=>aB hc) rfl hv';exact⟨_,_,QM hr hL g1⟩
     ·cases h
    ·obtain⟨A',h1,_⟩:=DN hr h;exact⟨A',_,h1⟩
    ·cases h;exact⟨A,L,hr⟩
    ·cases h
   ·cases h
  ·cases h
 split at h
 ·
  rename_i o i p e1 lo n hsl;split at h
  ·rename_i E e _ _;obtain⟨hb,h⟩:=Aj h;split at h
   ·rename_i s1 j h1;cases h;have hx:Bs s.sl (.tmp a.t)= .view o i p e1 lo n:=by simp only[Bs,hsl]
    obtain⟨L1,hr1,c0,hL⟩:=ZR (x:= .tmp a.t) hr (by simpa [Nat.blt_eq]using hb) (by rw[hx];rfl) (by rw[hx];exact h1);exact⟨_,_,QF hr1 ⟨_,_,_,_,hL,rfl⟩⟩
   ·cases h
  ·cases h
 ·
  split at h
  ·rename_i u hu;have hsl:=Gb (t:=a.t) hm.sl;have nR:∀(B':Reg) (L':List MD) (m v':PV),(∀q c,Am (λb=>A b/\Z.R b) w L q c->Am B' w L' q c)-> (∀c,Am (λb=>A b/\Z.R b) w L u c->Am B' w L' m c)->m.isA=u.isA->u= .nils->bV m (Ky s.sl a.t) a.p=some v'->Cw B' w L' σ a.t v':=by
    intro B' L' m v' hq hmu hA hun hp;have hP:(Ky s.sl a.t).WY=true:=by
     revert hu
     generalize Ky s.sl a.t=x;generalize a.p=pp;intro hu;cases pp with
     |nil=>simp only[nK,uN]at hu;rw[hu,hun];rfl
     |cons _ _=>cases x<;>first|rfl|simp[nK]at hu
    have hE:Dg (λb=>A b/\Z.R b) w L (Ky s.sl a.t) (σ a.t):=(Vn hP).1 ((Cw.iff (PV.TV hP)).1 hsl);have key:Dg B' w L' v' (σ a.t):=by
     unfold Dg cP at hE;split at hE
     ·rename_i hA';obtain⟨cs,e1,hc⟩:=hE;obtain⟨_,g⟩:=OJ hu hc;obtain⟨g1,g2⟩:=g B' w L' m v' hq hmu hA hp;unfold Dg;rw[g2,hA'];exact⟨cs,e1,g1⟩
     ·rename_i hA';obtain⟨_,g⟩:=OJ hu hE;obtain⟨g1,g2⟩:=g B' w L' m v' hq hmu hA hp;unfold Dg;rw[g2,hA'];exact g1
    obtain⟨k1,k2⟩:=Dp key;exact(Cw.iff k1).2 k2
   split at h
   ·rename_i E e _;split at h
    ·rename_i v' hv';cases h;have hr2:=XR hr E e;exact⟨_,_,QF (s:=s.add (.arr E e [])) hr2 (nR _ _ (.own s.new) v' (λq c h=>Am.step (λ_ h=>h) (λ_ _=>rfl) (Xs.append _ _) h) (λc hc=>⟨e.size,E,_,[],by rw[S.new,hr.len];simp,hc⟩) rfl rfl hv')⟩
    ·cases h
   ·cases h;exact⟨A,L,hr⟩
   ·rename_i e _;split at h
    ·rename_i v' hv';cases h;exact⟨_,_,QF hr (nR _ _ (.val (.list e) []) v' (λq c h=>h) (λc hc=>aB hc) rfl rfl hv')⟩
    ·cases h
   ·obtain⟨A',h1,_⟩:=DN hr h;exact⟨A',_,h1⟩
   ·cases h;exact⟨A,L,hr⟩
   ·cases h
  ·cases h
theorem dM:∀{l:List At} {s s':S} {A:Reg} {L:List MD},Rel Z s σs A L σ w->gX s l=some s'->∃A' L',Rel Z s' σs A' L' σ w
 |[],s,s',A,L,hr,h=>by simp only[gX,uN]at h;subst h;exact⟨A,L,hr⟩
 |a::l,s,s',A,L,hr,h=>by
  simp only[gX]at h;split at h
  ·rename_i s1 h1;obtain⟨A1,L1,hr1⟩:=kZ hr h1;exact dM hr1 h
  ·cases h
theorem KJ{lv:List Nat}{co:List At}{s':S}(hr:Rel Z s σs A L σ w)(h:s.cn lv co=some s'):∃A' L',Rel Z s' σs A' L' σ w:=by
 unfold S.cn at h;split at h
 ·rename_i s1 h1;cases h;obtain⟨A1,L1,hr1⟩:=dM hr h1;obtain⟨L',hr2⟩:=jM hr1 lv;exact⟨A1,L',hr2⟩
 ·cases h
end Go.Rx
namespace Go.Rx
open Go Go.Lv
variable {P:Program} {B B':Reg} {w w':World} {L L':List MD} {s:S} {σs:List Env} {σ:Env} {Z:Fix} {A A':Reg} {n:Nat} {ops:Array Oper}
variable {R:Type} {r:R} {T:Tab} {inl:HW R}
def qT(k:K R):Exit->S->Option R
 | .normal=>k.n| .exit id=>k.x id| .ret=>k.r|_=>λ_=>none
def QK(Z:Fix)(σs:List Env)(k:K R)(r:R)(e:Exit)(σ':Env)(w':World):Prop:=∃s' A' L',qT k e s'=some r/\Rel Z s' σs A' L' σ' w'
theorem dF(an:An){gl:List (Nat×List Value)}(hI:Kl P gl inl):Kl P gl (WZ an inl):=by
 unfold WZ;split
 ·intro Z hZ f as s k r σs A L σ w vs h hr ha;exact hI Z hZ f as _ k r σs A L σ w vs h (hr.YF rfl rfl (Ut hr.mem.sl _)) ha
 ·exact hI
theorem KP(Rm:P.follows .mixedOrders=true)(hT:Xt P T Z)(hI:Kl P T.gl inl):∀(c:Code) {an:An} {k:K R} {s:S} {A:Reg} {L:List MD} {σ:Env} {w:World},ex P T inl n c an k s=some r->Rel Z s σs A L σ w->W P n c (QK Z σs k r) σ w:=by
 intro c
 induction c with
 |skip=>intro an k s A L σ w h hr;exact W.skip ⟨s,A,L,h,hr⟩
 |ret=>intro an k s A L σ w h hr;exact W.ret ⟨s,A,L,h,hr⟩
 |exit id=>intro an k s A L σ w h hr;exact W.exit ⟨s,A,L,h,hr⟩
 |seq a b iha ihb=>
  intro an k s A L σ w h hr;refine W.seq (W.mono (iha (an:=an.l) (k:={k with n:=RJ an λs'=>ex P T inl n b an.r k s'}) h hr) ?_);rintro e σ' w' ⟨s',A',L',h1,hr'⟩;cases e with
  |normal=>
   have h2:RJ an (λs'=>ex P T inl n b an.r k s') s'=some r:=h1;unfold RJ at h2;split at h2
   ·split at h2
    ·rename_i s2 hs2;obtain⟨A2,L2,hr2⟩:=KJ hr' hs2;exact ihb h2 hr2
    ·cases h2
   ·exact ihb h2 hr'
  |exit id=>exact⟨s',A',L',h1,hr'⟩
  |ret=>exact⟨s',A',L',h1,hr'⟩
  |goto l=>exact⟨s',A',L',h1,hr'⟩
  |panic c=>exact⟨s',A',L',h1,hr'⟩
  |outgrown=>exact⟨s',A',L',h1,hr'⟩
 |cond c a b iha ihb=>
  intro an k s A L σ w h hr;simp only[ex]at h;split at h
  ·rename_i t hc;refine W.cond (HD hr.mem.sl hc) (λht=>?_) (λht=>?_)
   ·subst ht;exact iha (by simpa using h) hr
   ·subst ht;exact ihb (by simpa using h) hr
  ·cases h
 |block id a iha=>
  intro an k s A L σ w h hr;refine W.block (W.mono (iha (an:=an.l) (k:={k with x:=λid' s'=>Bf (Nat.beq id' id) (k.n s')<|k.x id' s'}) h hr) ?_);rintro e σ' w' ⟨s',A',L',h1,hr'⟩;cases e with
  |exit id'=>
   have h2:(Bf (Nat.beq id' id) (k.n s')<|k.x id' s')=some r:=h1;simp only[VL];by_cases hid:id'=id
   ·rw[vP hid];subst hid;simp at h2;exact⟨s',A',L',h2,hr'⟩
   ·rw[vL hid];have hb:Nat.beq id' id=false:=by
     cases hb:Nat.beq id' id with
     |false=>rfl
     |true=>exact absurd (Bc hb) hid
    rw[hb]at h2;exact⟨s',A',L',h2,hr'⟩
  |normal=>exact⟨s',A',L',h1,hr'⟩
  |ret=>exact⟨s',A',L',h1,hr'⟩
  |goto l=>exact⟨s',A',L',h1,hr'⟩
  |panic c=>exact⟨s',A',L',h1,hr'⟩
  |outgrown=>exact⟨s',A',L',h1,hr'⟩
 |loop a iha=>
  intro an k s A L σ w h hr;have head:∀(q:Nat) (s:S) (A:Reg) (L:List MD) (σ:Env) (w:World),Se an (iter an (λkn s'=>ex P T inl n a an.l {k with n:=kn} s') q) s=some r->Rel Z s σs A L σ w->
    ∃s' A' L',iter an (λkn s'=>ex P T inl n a an.l {k with n:=kn} s') q s'=some r/\Rel Z s' σs A' L' σ w:=by
   intro q s A L σ w h hr;unfold Se at h;split at h
   ·split at h
    ·rename_i s2 hs2;obtain⟨A2,L2,hr2⟩:=KJ hr hs2;exact⟨s2,A2,L2,h,hr2⟩
    ·cases h
   ·cases h
  refine W.loop (λq σ w=>∃s A L,iter an (λkn s'=>ex P T inl n a an.l {k with n:=kn} s') q s=some r/\Rel Z s σs A L σ w) Bo (head _ _ _ _ _ _ h hr) ?_;rintro q σ w ⟨s,A,L,h,hr⟩;cases q with
  |zero=>cases h
  |succ q=>
   refine W.mono (iha (k:={k with n:=Se an (iter an (λkn s'=>ex P T inl n a an.l {k with n:=kn} s') q)}) h hr) ?_;rintro e σ' w' ⟨s',A',L',h1,hr'⟩;cases e with
   |normal=>exact⟨q,Nat.lt_succ_self _,head q s' A' L' σ' w' h1 hr'⟩
   |exit id=>exact⟨s',A',L',h1,hr'⟩
   |ret=>exact⟨s',A',L',h1,hr'⟩
   |goto l=>exact⟨s',A',L',h1,hr'⟩
   |panic c=>exact⟨s',A',L',h1,hr'⟩
   |outgrown=>exact⟨s',A',L',h1,hr'⟩
 |region id ops draw=>
  intro an k s A L σ w h hr;cases draw with
  |false=>
   obtain⟨hd,h⟩:=Aj (show(Bf (CU ops.toList) (FT P T (WZ an inl) n ops ops.toList s k.n)<|none)=some r from h);have h1:=YH (ops:=ops) hT (dF an hI) hr (show FT P T (WZ an inl) n ops ops.toList s k.n=some r from h);have hops:ops=ops.toList.toArray:=by simp
   rw[hops];exact W.region hd (by rw[<-hops];exact h1)
  |true=>
   obtain⟨hd,h⟩:=Aj (show(Bf (CU ops.toList) (Rw P T (WZ an inl) n (IP an) ops ops.size (Bf (IP an) (#[])<|Array.replicate ops.size true) (Array.replicate ops.size false) s k.n)<|none)=some r from h);refine W.lX hd Rm (λ_=>True) (tw (Bf (IP an) (#[])<|Array.replicate ops.size true)) (λw' hw hg=>?_);have hr':Rel Z s σs A L σ w':=St.iO hr hw hg;refine nY hT (dF an hI) hr' h (λhm=> .inl ?_) (λ_ _ _=>trivial);rw[hm];simp[Ql,tw]
 |rangeFunc=>intro an k s A L σ w h hr;cases h
 |scope=>intro an k s A L σ w h hr;cases h
 |label=>intro an k s A L σ w h hr;cases h
 |goto=>intro an k s A L σ w h hr;cases h
 |refuse=>intro an k s A L σ w h hr;cases h
theorem fG(hr:Rel Z s σs A L σ w){v:ResultVar}{p:PV}(h:bQ P s v=some p):∃u,So P σ w v u/\Dg (λb=>A b/\Z.R b) w L p u:=by
 have hm:=hr.mem;cases v with
 |tmp t=>
  obtain⟨hp,h⟩:=Aj h;cases h;exact⟨σ t,rfl,Ph hm.sl hp⟩
 |cell a t=>
  simp only[bQ]at h;split at h
  ·rename_i i p' hsl;split at h
   ·rename_i T v0 hi;split at h
    ·rename_i u hu;obtain⟨hk,h⟩:=Aj h;cases h;have hs1:=Gb (t:=a) hm.sl;rw[hsl]at hs1;obtain⟨md,b,h1,h2,h3⟩:=Je hs1;obtain⟨b',cells,h4,h5⟩:=hm.box hi;rw[h4]at h1;cases h1;cases h2;obtain⟨c1,c2,c3,e,h6,h7⟩:=Wk hu h5;have hok:=Fz hk;obtain⟨d,hd,ha⟩:=hok.agg;have hlen:=h7.len;cases hA:p.isA with
     |true=>
      refine⟨.agg c2.toArray,So.cells hr (hr.Cx h4) ⟨d,hd,ha.trans hA⟩ hok.size h3 ?_ hlen,by unfold Dg;rw[hA];exact⟨c2,rfl,h7⟩⟩;rw[e,<-h6,<-hlen];exact dU rfl
     |false=>
      rw[hok.one hA]at hlen
      match c2,hlen with
      |[u],_=>exact⟨u,So.cell hr (hr.Cx h4) ⟨d,hd,ha.trans hA⟩ h3 (by rw[e,<-h6];simp),by unfold Dg;rw[hA];exact h7⟩
    ·cases h
   ·cases h
  ·cases h
theorem IM(hr:Rel Z s σs A L σ w):∀{vs:List ResultVar} {ps:List PV},JT P s vs=some ps->∃us,AX P σ w vs us/\By (λb=>A b/\Z.R b) w L ps us
 |[],ps,h=>by simp only[JT,uN]at h;subst h;exact⟨[],trivial,rfl⟩
 |v::vs,ps,h=>by
  simp only[JT]at h;split at h
  ·rename_i p ps' hp hps;cases h;obtain⟨u,h1,h2⟩:=fG hr hp;obtain⟨us,h3,h4⟩:=IM hr hps;exact⟨u::us,⟨h1,h3⟩,u,us,rfl,h2,h4⟩
  ·cases h
theorem Ye:∀{as:List PV} {vs:List Value} {m:Nat} {f:Nat->Value},By B w L as vs-> (∀i v,vs[i]? =some v->f (m+i)=v)->∀p∈Jc m as,Cw B w L f p.1 p.2
 |[],vs,m,f,_,_,p,hp=>by simp[Jc]at hp
 |a::as,vs,m,f,⟨v,vs',e,h1,h2⟩,hf,p,hp=>by
  subst e;simp only[Jc]at hp;rcases List.mem_cons.1 hp with rfl|hp
  ·obtain⟨k1,k2⟩:=Dp (show Dg B w L a v from h1);refine(Cw.iff k1).2 ?_;have:=hf 0 v rfl;rw[xY]at this;rw[this];exact k2
  ·exact Ye h2 (λi v hi=>by have:=hf (i+1) v (by simpa using hi);rw[<-this];congr 1;omega) p hp
theorem TS{vs:List Value}{i:Nat}{v:Value}(h:vs[i]? =some v):BZ vs i=v:=by simp[BZ,uS,h]
theorem By.length:∀{as:List PV} {vs:List Value},By B w L as vs->vs.length=as.length
 |[],vs,h=>by rw[show vs=[]from h];rfl
 |a::as,vs,⟨v,vs',e,h1,h2⟩=>by rw[e,wE,By.length h2];rfl
theorem UJ{f:Nat}{an:An}:∀{ans:List (Nat×An)},Mc.SB ans f=some an->∃a,(f,a)∈ans
 |[],h=>by simp[Mc.SB]at h
 |(g,a)::ans,h=>by
  simp only[Mc.SB]at h;cases hb:Nat.beq g f with
  |true=>have:=Bc hb;subst this;exact⟨a, .head _⟩
  |false=>rw[hb]at h;obtain⟨a',h1⟩:=UJ h;exact⟨a', .tail _ h1⟩
theorem GD(Rm:P.follows .mixedOrders=true)(hT:Lt P T){ans:List (Nat×An)}(hA:∀p∈ans,Ent P p.1):∀(q:Nat),Kl (R:=R) P T.gl (Mc P T q ans)
 |0=>λZ hZ f as s k r σs A L σ w vs h hr ha=>by cases h
 |q+1=>λZ hZ f as s k r σs A L σ w vs h hr ha=>by
  have hI:=GD Rm hT hA q;unfold Mc at h;split at h
  ·rename_i an fn han hfn;obtain⟨a,hmem⟩:=UJ han;split at h
   ·cases h
   ·rename_i c hc;obtain⟨hle,h⟩:=Aj h;refine⟨hA _ hmem,?_⟩;have hr1:Rel Z ⟨Jc 0 as,s.it,s.sl::s.st⟩ (σ::σs) A L (BZ vs) w:=
     Rel.as hr (i:=1) rfl ⟨hr.mem.it,Ye ha (λi v hi=>by rw[wO];exact TS hi),hr.mem.sl,hr.mem.stk⟩ rfl
    refine RY (rs:=fn.results.toList) hfn hc rfl A9 (by rw[ha.length];exact hle) (W.mono (KP Rm ⟨hT,hZ⟩ hI c h hr1) ?_);rintro e σ' w' ⟨s',A',L',h1,hr'⟩;have fin:Mc.gJ P fn.results.toList k s'=some r->∃us,AX P σ' w' fn.results.toList us/\∃v p s'' A'' L'',Ending.returned (Om us)= .returned v/\k s'' p=some r/\Rel Z s'' σs A'' L'' σ w'/\p.isV=true/\Bw (λb=>A'' b/\Z.R b) w' L'' p v:=by
     intro h1;unfold Mc.gJ at h1;split at h1
     ·rename_i ps sl st hps hst;obtain⟨us,h2,h3⟩:=IM hr' hps;obtain⟨h4,h5⟩:=ZT h3;have cI:=hr'.mem.stk;rw[hst]at cI;exact⟨us,h2,_,_,_,A',L',rfl,h1,Rel.as hr' (i:=1) rfl ⟨hr'.mem.it,cI.1,cI.2⟩ rfl,h4,h5⟩
     ·cases h1
    cases e with
    |normal=>exact⟨.inr rfl,fin h1⟩
    |ret=>exact⟨.inl rfl,fin h1⟩
    |exit id=>cases h1
    |goto l=>cases h1
    |panic c=>cases h1
    |outgrown=>cases h1
  ·cases h
end Go.Rx
namespace Go.Rx
open Go Go.Lv
variable{e:ET}{fn:Func}{o:Option TypeId}
variable {P:Program} {B B':Reg} {w w':World} {L L':List MD} {s:S} {σs:List Env} {σ:Env} {Z:Fix} {A A':Reg} {n:Nat} {ops:Array Oper}
variable {R:Type} {r:R} {T:Tab} {inl:HW R}
abbrev LS:=List (ET×Option TypeId)
def Cv:LS->List PV->Nat->List Nat
 |p::r,v::vs,c=>match p.2 with
  |none=>Cv r vs c
  |some _=>(match v with| .own i=>i|_=>c)::Cv r vs (c+1)
 |_,_,_=>[]
def Tq:LS->List MD
 |p::r=>match p.2 with
  |none=>Tq r
  |some E=>(match p.1 with| .list a=> .own a.size E (.slice none 0 0) []|_=> .dead)::Tq r
 |[]=>[]
theorem iL(h:Bi w A (L.map MD.Cx)):∀(ls:LS),Bi w A ((L++Tq ls).map MD.Cx):=by
 have one:∀(m:MD) (ms:List MD),m.Cx.holds none w->Bi w A ((L++ms).map MD.Cx)->Bi w A ((L++m::ms).map MD.Cx):=by
  intro m ms hm h;have:Bi w A (m.Cx::(L++ms).map MD.Cx):=⟨none,hm,λb hb=>(by cases hb),h.Jg λb hb=>hb.elim id (λh=>by cases h)⟩;refine this.perm ?_;rw[wW,wW,vN];exact(List.perm_middle).symm
 intro ls
 induction ls with
 |nil=>simpa [Tq]using h
 |cons p ls ih=>
  obtain⟨e,o⟩:=p;cases o with
  |none=>exact ih
  |some E=>cases e<;>exact one _ _ (by first|exact PB|exact⟨none,0,0,rfl,A9,vD _,λ_=>rfl,λ_=>rfl,λb h=>by cases h⟩) ih
theorem BL:∀{ls:LS} {vs:List PV} {seen:List Nat} {c:Nat},Ua s ls vs seen=true->s.it.length<=c->distinct (Cv ls vs c)=true/\∀i∈Cv ls vs c,(i<s.it.length/\i∉seen)\/c<=i
 |[],[],_,_,_,_=>⟨rfl,by simp[Cv]⟩
 |[],_::_,_,_,h,_=>by simp[Ua]at h
 |_::_,[],_,_,h,_=>by simp[Ua]at h
 |(e,none)::ls,v::vs,seen,c,h,hc=>by
  simp only[Ua,uJ]at h;exact BL (ls:=ls) (vs:=vs) (seen:=seen) (c:=c) h.2 hc
 |(e,some E)::ls,v::vs,seen,c,h,hc=>by
  simp only[Ua]at h;split at h
  ·obtain⟨h1,h2⟩:=BL h (c:=c+1) A7;refine⟨?_,λi hi=>?_⟩
   ·simp only[Cv,distinct,uJ,vB];refine⟨?_,h1⟩;cases hx:Jh c (Cv ls vs (c+1))with
    |false=>rfl
    |true=>rcases h2 c (Kk.1 hx)with⟨h3,_⟩|h3<;>omega
   ·simp only[Cv,yJ]at hi;rcases hi with rfl|hi
    ·exact .inr (vD _)
    ·rcases h2 i hi with h3|h3
     ·exact .inl h3
     ·exact .inr A7
  ·rename_i a i;simp only[uJ,vB]at h;obtain⟨⟨h0,hit⟩,h⟩:=h;have hlt:i<s.it.length:=by
    split at hit
    ·rename_i E' a' l hi;exact(List.getElem?_eq_some_iff.1 (EU hi (by intro e;cases e))).1
    ·cases hit
   obtain⟨h1,h2⟩:=BL h (c:=c+1) A7;refine⟨?_,λj hj=>?_⟩
   ·simp only[Cv,distinct,uJ,vB];refine⟨?_,h1⟩;cases hx:Jh i (Cv ls vs (c+1))with
    |false=>rfl
    |true=>
     rcases h2 i (Kk.1 hx)with⟨_,h3⟩|h3
     ·exact absurd (List.mem_cons_self) h3
     ·omega
   ·simp only[Cv,yJ]at hj;rcases hj with rfl|hj
    ·exact .inl ⟨hlt,λhm=>by have:=Kk.2 hm;rw[h0]at this;cases this⟩
    ·rcases h2 j hj with⟨h3,h4⟩|h3
     ·exact .inl ⟨h3,λhm=>h4 (wY _ hm)⟩
     ·exact .inr A7
  ·cases h
theorem kL{q:PV}{x:e.T}(hr:Rel Z s σs A L σ w)(h:AW s e q=some x)(ho:owns q=[])(hb:e.RN=true->∀b,A b/\Z.R b->B' b){L':List MD}:Wz (λb=>A b/\Z.R b) w L B' w L' q (.val e x):=by
 obtain⟨h1,h2⟩:=ZN (L':=L') hr h (B':=λb=>A b/\Z.R b) (λ_ h=>h) (λi hi=>by rw[ho]at hi;cases hi);refine⟨h1,λcs hcs=>?_⟩;have h3:Ak (λb=>A b/\Z.R b) w e x cs:=h2 cs hcs;cases hl:e.RN with
 |true=>exact Ak.step (hb hl) (λ_ _=>rfl) h3
 |false=>exact Ak.qK hl h3
theorem kS{l:List e.T}{cs:List Value}(hb:e.RN=true->∀b,B b->B' b)(h:Az (Ak B w e) l cs):Az (Ak B' w e) l cs:=by
 cases hl:e.RN with
 |true=>exact h.mono λx c hx=>Ak.step (hb hl) (λ_ _=>rfl) hx
 |false=>exact h.mono λx c hx=>Ak.qK hl hx
theorem QL(hr:Rel Z s σs A L σ w){LP:List MD}(hP:∀(i:Nat) (m:MD),L[i]? =some m->LP[i]? =some m):∀(ls:LS) (vs:List PV) (y:Lg ls) (seen:List Nat) (c:Nat) (s0:S) (Lx LF:List MD),
  Ua s ls vs seen=true->Qc s ls vs=some y-> (∀p∈ls,iQ p=true->∀b,A b/\Z.R b->B' b)-> (∀i m,(Tq ls)[i]? =some m->LP[c+i]? =some m)->Lx.length=s0.it.length->LF=Lx++(Cv ls vs c).map (λi=>LP.getD i .dead)->
  ∃its,(Ce ls y s0).2=⟨s0.sl,s0.it++its,s0.st⟩/\its.length=(Cv ls vs c).length/\All2 (Wz (λb=>A b/\Z.R b) w L B' w LF) vs (Ce ls y s0).1/\
   ∀(i:Nat) (a:Item) (m:MD),its[i]? =some a-> ((Cv ls vs c).map (λi=>LP.getD i .dead))[i]? =some m->Jk B' w LF a m
 |[],vs,y,seen,c,s0,Lx,LF,ho,hp,_,_,_,_=>by
  rw[ZH hp];refine⟨[],?_,rfl,All2.nil,λi a m h=>by simp at h⟩;rw[NO];simp
 |p::ls,vs,y,seen,c,s0,Lx,LF,ho,hp,hb,hn,hlen,aN=>by
  have main:∀(v:PV) (vs':List PV) (x:p.1.T) (rest:S->List PV×S),vs=v::vs'->AW s p.1 v=some x->
    (Ce (p::ls) y s0=((Cb p.1 p.2 x s0).1::(rest (Cb p.1 p.2 x s0).2).1,(rest (Cb p.1 p.2 x s0).2).2))->
    (∀(seen:List Nat) (c:Nat) (s1:S) (Lx:List MD),Ua s ls vs' seen=true-> (∀i m,(Tq ls)[i]? =some m->LP[c+i]? =some m)->Lx.length=s1.it.length->LF=Lx++(Cv ls vs' c).map (λi=>LP.getD i .dead)->
     ∃its,(rest s1).2=⟨s1.sl,s1.it++its,s1.st⟩/\its.length=(Cv ls vs' c).length/\All2 (Wz (λb=>A b/\Z.R b) w L B' w LF) vs' (rest s1).1/\
      ∀(i:Nat) (a:Item) (m:MD),its[i]? =some a-> ((Cv ls vs' c).map (λi=>LP.getD i .dead))[i]? =some m->Jk B' w LF a m)->
    ∃its,(Ce (p::ls) y s0).2=⟨s0.sl,s0.it++its,s0.st⟩/\its.length=(Cv (p::ls) vs c).length/\All2 (Wz (λb=>A b/\Z.R b) w L B' w LF) vs (Ce (p::ls) y s0).1/\
     ∀(i:Nat) (a:Item) (m:MD),its[i]? =some a-> ((Cv (p::ls) vs c).map (λi=>LP.getD i .dead))[i]? =some m->Jk B' w LF a m:=by
   intro v vs' x rest hvs hx hu hrest;subst hvs;rw[hu];have hbp:=hb p (.head _);obtain⟨e,o⟩:=p;cases o with
   |none=>
    simp only[Ua,uJ]at ho;have e1:Cb e none x s0=(.val e x,s0):=dP;simp only[e1];obtain⟨its,h1,h2,h3,h4⟩:=hrest seen c s0 Lx ho.2 hn hlen aN;refine⟨its,h1,h2, .cons (kL hr hx (isEmpty_nil ho.1) (λhl=>hbp ?_)) h3,h4⟩;cases e<;>first|exact hl|cases hl
   |some E=>
    simp only[Ua]at ho;split at ho
    ·
     rename_i a;have hx':x=[]:=by
      have:elems s a .nils=some x:=hx;simpa [elems]using this.symm
     subst hx';have hc:LP[c]? =some (.own a.size E (.slice none 0 0) []):=hn 0 _ rfl;have e1:Cb (.list a) (some E) [] s0=(.own s0.new,s0.add (.arr E a [])):=rfl;simp only[e1];obtain⟨its,h1,h2,h3,h4⟩:=hrest seen (c+1) (s0.add (.arr E a [])) (Lx++[.own a.size E (.slice none 0 0) []]) ho (λi m hi=>by rw[vH,yZ 1 i];exact hn (i+1) m (by simpa [Tq]using hi))
      (by simp[S.add,hlen]) (by rw[aN];simp[Cv,uS,hc])
     refine⟨.arr E a []::its,by rw[h1];simp[S.add],by simp[Cv,h2], .cons ⟨rfl,λcs hcs=>?_⟩ h3,λi b m hi hm=>?_⟩
     ·refine⟨a.size,E, .slice none 0 0,[],?_,hcs⟩;rw[aN,S.new,<-hlen];simp[Cv,uS,hc]
     ·cases i with
      |zero=>
       simp[Cv,uS,hc]at hi hm;subst hi hm;exact⟨rfl,rfl,rfl⟩
      |succ i=>exact h4 i b m (by simpa using hi) (by simpa [Cv]using hm)
    ·
     rename_i a i;simp only[uJ,vB]at ho;obtain⟨⟨h0,hit⟩,ho⟩:=ho;split at hit
     ·rename_i E' a' l hi;simp only[uJ,wN]at hit;obtain⟨hE,rfl⟩:=hit;have:=Bc hE;subst this;obtain⟨u,cs0,g1,g2⟩:=hr.mem.arr hi;have hx':x=l:=by
       have:elems s a' (.own i)=some x:=hx;simp[elems,hi]at this;exact this.symm
      subst hx';have hc:LP[i]? =some (.own a'.size E' u cs0):=hP i _ g1;have e1:Cb (.list a') (some E') x s0=(.own s0.new,s0.add (.arr E' a' x)):=rfl;simp only[e1];obtain⟨its,h1,h2,h3,h4⟩:=hrest (i::seen) (c+1) (s0.add (.arr E' a' x)) (Lx++[.own a'.size E' u cs0]) ho (λi m hi=>by rw[vH,yZ 1 i];exact hn (i+1) m (by simpa [Tq]using hi))
       (by simp[S.add,hlen]) (by rw[aN];simp[Cv,uS,hc])
      refine⟨.arr E' a' x::its,by rw[h1];simp[S.add],by simp[Cv,h2], .cons ⟨rfl,λcs hcs=>?_⟩ h3,λq b m hq hm=>?_⟩
      ·obtain⟨z,E2,v2,c2,k1,k2⟩:=hcs;rw[g1]at k1;cases k1;refine⟨a'.size,E',u,cs0,?_,k2⟩;rw[aN,S.new,<-hlen];simp[Cv,uS,hc]
      ·cases q with
       |zero=>
        simp[Cv,uS,hc]at hq hm;subst hq hm;exact⟨rfl,rfl,kS hbp g2⟩
       |succ q=>exact h4 q b m (by simpa using hq) (by simpa [Cv]using hm)
     ·cases hit
    ·cases ho
  cases ls with
  |nil=>
   obtain⟨v,rfl,hx⟩:=YO hp;exact main v [] y (λs1=>([],s1)) rfl hx (Vf p y s0) (λseen c s1 Lx _ _ hlen aN=>⟨[],A9,rfl,All2.nil,λi a m h=>by simp at h⟩)
  |cons q r=>
   obtain⟨v,vs',x,y',rfl,rfl,hx,hy⟩:=TZ hp;exact main v vs' x (λs1=>Ce (q::r) y' s1) rfl hx (Ru p q r x y' s0)
    (λseen c s1 Lx ho hn hlen aN=>QL hr hP (q::r) vs' y' seen c s1 Lx LF ho hy (λp hp=>hb p (.tail _ hp)) hn hlen aN)
theorem Jz{e:ET}{x:e.T}{cs:List Value}(h:Ak B w e x cs):Ak (λb=>b<w.heap.size/\B b) w e x cs:=
 match e,x,h with
 | .int _,_,h=>h
 | .bool,_,h=>h
 | .str,_,h=>h
 | .list _,_,⟨v,c0,h1,h2,h3⟩=>⟨v,c0,h1,h2.start,h3.mono λ_ _ h=>Jz h⟩
 | .vec _ _,_,⟨h1,h2⟩=>⟨h1,h2.mono λ_ _ h=>Jz h⟩
 | .cons _ _,_,⟨c1,c2,e,h1,h2⟩=>⟨c1,c2,e,Jz h1,Jz h2⟩
 | .nil,_,h=>h
def Tg:PV->Bool
 | .val _ _=>true
 | .own _=>true
 | .agg l=>go l
 |_=>false
where go:List PV->Bool
 |[]=>true
 |a::r=>Tg a&&go r
mutual
theorem TN:∀{p:PV} {cs:List Value},Tg p=true->Am B w L p cs->Am (λb=>b<w.heap.size/\B b) w L p cs
 | .val e x,cs,_,h=>Jz (show Ak B w e x cs from h)
 | .own i,cs,_,h=>h
 | .agg l,cs,hv,h=>QW hv (show Am.go B w L l cs from h)
 | .tup _,_,hv,_=>by cases hv
 | .nils,_,hv,_=>by cases hv
 | .ptr _ _,_,hv,_=>by cases hv
 | .view _ _ _ _ _ _,_,hv,_=>by cases hv
 | .rptr _,_,hv,_=>by cases hv
 | .fn _ _,_,hv,_=>by cases hv
 | .cap _ _ _,_,hv,_=>by cases hv
 | .mp _ _,_,hv,_=>by cases hv
 | .bfn _ _,_,hv,_=>by cases hv
 | .cst _,_,hv,_=>by cases hv
 | .any,_,hv,_=>by cases hv
 | .gd _ _ _,_,hv,_=>by cases hv
 | .off,_,hv,_=>by cases hv
 | .undef,_,hv,_=>by cases hv
theorem QW:∀{l:List PV} {cs:List Value},Tg.go l=true->Am.go B w L l cs->Am.go (λb=>b<w.heap.size/\B b) w L l cs
 |[],cs,_,h=>h
 |a::l,cs,hv,⟨c1,c2,e,h1,h2⟩=>by
  simp only[Tg.go,uJ]at hv;exact⟨c1,c2,e,TN hv.1 h1,QW hv.2 h2⟩
end
theorem NH:∀{l:List PV} {vs:List Value},Tg.go l=true->By B w L l vs->By (λb=>b<w.heap.size/\B b) w L l vs
 |[],vs,_,h=>h
 |a::l,vs,hv,⟨v,vs',e,h1,h2⟩=>by
  simp only[Tg.go,uJ]at hv;exact⟨v,vs',e,h1.mono λc h=>TN hv.1 h,NH hv.2 h2⟩
theorem LH{x:e.T}{s0:S}:Tg (Cb e o x s0).1=true:=by
 unfold Cb;split<;>rfl
theorem JX{x:e.T}{s0:S}(h:∀a∈s0.it,∃E e' l,a= .arr E e' l):∀a∈(Cb e o x s0).2.it,∃E e' l,a= .arr E e' l:=by
 unfold Cb;split
 ·intro a ha;simp only[S.add,List.mem_append,List.mem_singleton]at ha;rcases ha with ha|ha
  ·exact h a ha
  ·exact⟨_,_,_,ha⟩
 ·exact h
theorem RS:∀(ls:LS) (x:Lg ls) (s0:S),Tg.go (Ce ls x s0).1=true
 |[],x,s0=>rfl
 |[p],x,s0=>by
  rw[Vf];have h1:Tg (Cb p.1 p.2 x s0).1=true:=LH;simp only[Tg.go,h1];rfl
 |p::q::r,(x,y),s0=>by
  rw[Ru];have h1:Tg (Cb p.1 p.2 x s0).1=true:=LH;simp only[Tg.go,h1,RS (q::r) y _];rfl
theorem RV:∀(ls:LS) (x:Lg ls) (s0:S),(∀a∈s0.it,∃E e' l,a= .arr E e' l)->∀a∈(Ce ls x s0).2.it,∃E e' l,a= .arr E e' l
 |[],x,s0,h=>h
 |[p],x,s0,h=>by rw[Vf];exact JX h
 |p::q::r,(x,y),s0,h=>by rw[Ru];exact RV (q::r) y _ (JX h)
mutual
theorem fJ:∀{sh:Sh} {vs r:List PV} {u:PV},Ha sh vs=some (u,r)->Tg.go vs=true->Tg u=true/\Tg.go r=true
 | .lf e o,v::vs,r,u,h,hv=>by
  simp only[Ha,uN,wF]at h;obtain⟨rfl,rfl⟩:=h;simpa [Tg.go]using hv
 | .lf e o,[],r,u,h,hv=>by simp[Ha]at h
 | .agg l,vs,r,u,h,hv=>by
  simp only[Ha]at h;split at h
  ·rename_i us r' h1;cases h;exact EO h1 hv
  ·cases h
theorem EO:∀{l:List Sh} {vs r us:List PV},Ha.go l vs=some (us,r)->Tg.go vs=true->Tg.go us=true/\Tg.go r=true
 |[],vs,r,us,h,hv=>by
  simp only[Ha.go,uN,wF]at h;obtain⟨rfl,rfl⟩:=h;exact⟨rfl,hv⟩
 |a::l,vs,r,us,h,hv=>by
  simp only[Ha.go]at h;split at h
  ·rename_i u vs' h1;split at h
   ·rename_i us' vs'' h2;cases h;obtain⟨g1,g2⟩:=fJ h1 hv;obtain⟨g3,g4⟩:=EO h2 g2;exact⟨by simp[Tg.go,g1,g3],g4⟩
   ·cases h
  ·cases h
end
theorem jQ{rs:List Sh}{p:ET×Option TypeId}(hp:p∈Hj rs)(h:iQ p=true):mR rs=true:=by
 unfold mR;exact List.any_eq_true.2 ⟨p,hp,h⟩
theorem Oo{f:Nat}{ps rs:List Sh}{F:Lg (Hj ps)->Option (Lg (Hj rs))}{RUN:S->Option (Lg (Hj rs))}(hE:Ent P f)
  (hrun:∀x y pvs,args ps x=some pvs->F x=some y->RUN ⟨Jc 0 pvs,XH ps x,[]⟩=some y)
  (pC:∀(Z:Fix) (A:Reg) (L:List MD) (w:World) (s:S) (y:Lg (Hj rs)) (vs:List Value) (Q:Ending->World->Prop),Z.gl=T.gl->Rel Z s [] A L (BZ vs) w->vs.length=ps.length->RUN s=some y->
   (∀s' A' L' σ' w',BO P rs fn.results.toList s'=some y->Rel Z s' [] A' L' σ' w'->∃us,AX P σ' w' fn.results.toList us/\Q (.returned (Om us)) w')->Calls P f vs.toArray w Q):ConOk P T.gl f ⟨ps,rs,F⟩:=by
 refine⟨hE,λR N w L0 vs pvs x y hx rC mY rD hvs hgl hy=>?_⟩;have hx':args ps x=some pvs:=hx;have hy':=hrun x y pvs hx' hy
 ·let Z:Fix:=⟨λb=>((R b/\N b)\/∃p∈T.gl,p.1=b)\/ ¬N b\/w.heap.size<=b,λb=>¬N b,w,λb hb=> .inr (.inr hb),λb hb=> .inr (.inl hb),T.gl,λp hp=>⟨.inl (.inr ⟨p,hp,rfl⟩),λh=>h (hgl p hp).2.1,(hgl p hp).1,(hgl p hp).2.2⟩⟩
  have hval:Tg.go pvs=true:=by
   unfold args Yu at hx';split at hx'
   ·rename_i us hs;cases hx';exact(EO hs (RS _ _ _)).1
   ·cases hx'
  have sG:By (λb=>(b<w.heap.size/\N b)/\Z.R b) w L0 pvs vs:=By.step (λb hb=>⟨⟨hb.1,hb.2.2⟩, .inl (.inl hb.2)⟩) (λ_ _=>rfl) (.refl L0) (NH hval hvs);have hst:St (λb=>b<w.heap.size/\N b) w [.old Z.M Z.w0] (L0.map MD.Cx):=by
   refine⟨λb hb=>hb.1,λf hf=>?_,rD.Jg λb hb=>hb.2⟩;cases hf with
   |head=>exact⟨.refl _,λb hb hM=>⟨⟨hb,Classical.not_not.1 hM⟩,rfl⟩⟩
   |tail _ h=>cases h
  have hr:Rel Z ⟨Jc 0 pvs,XH ps x,[]⟩ [] (λb=>b<w.heap.size/\N b) L0 (BZ vs) w:=
   Rel.as (L:=L0) hst (i:=0) rfl ⟨⟨rC,λi a m h1 h2=>by
    have h3:=mY i a m h1 h2;obtain⟨E,e',l,rfl⟩:=RV (Hj ps) x ⟨[],[],[]⟩ A9 a (vW h1);cases m with
    |dead=>exact h3
    |box _ _ _=>exact h3
    |own z E2 v2 c2=>exact⟨h3.1,h3.2.1,h3.2.2.mono λx c h=>Ak.step (λb hb=>⟨⟨hb.1,hb.2.2⟩, .inl (.inl hb.2)⟩) (λ_ _=>rfl) (Jz h)⟩⟩,
    Ye sG (λi v hi=>by rw[wO];exact TS hi),trivial⟩ rfl
  have hlen:vs.length=pvs.length:=hvs.length;have hpl:pvs.length=ps.length:=by
   unfold args Yu at hx';split at hx'
   ·rename_i us hs;cases hx';have key:∀(l:List Sh) (vs r us:List PV),Ha.go l vs=some (us,r)->us.length=l.length:=by
     intro l
     induction l with
     |nil=>intro vs r us h;simp only[Ha.go,uN,wF]at h;obtain⟨rfl,_⟩:=h;rfl
     |cons a l ih=>
      intro vs r us h;simp only[Ha.go]at h;split at h
      ·split at h
       ·rename_i h2;cases h;simp[ih _ _ _ h2]
       ·cases h
      ·cases h
    exact key _ _ _ _ hs
   ·cases hx'
  refine pC Z _ _ w _ y vs _ rfl hr (hlen.trans hpl) hy' ?_;intro s' A' L' σ' w' h1 hr';have fin:BO P rs fn.results.toList s'=some y->∃us,AX P σ' w' fn.results.toList us/\∃us',Ending.returned (Om us)= .returned (Om us')/\nI T.gl R N w w' rs y us':=by
   intro h1;unfold BO at h1;split at h1
   ·cases h1
   ·rename_i qW qY;split at h1
    ·cases h1
    ·rename_i s1 hs1;obtain⟨A1,L1,hr1,_⟩:=Gf hr' hs1;split at h1
     ·rename_i ls hls;obtain⟨ho,h1⟩:=Aj h1;unfold oV at hls;split at hls
      ·rename_i vs1 sH;obtain⟨us,tS,huv⟩:=IM hr1 sH;refine⟨us,tS,us,rfl,?_⟩;have hold:=hr1.fact 1 (f:= .old Z.M Z.w0) rfl;have hA:∀b,b<w.heap.size->N b->A1 b:=λb hb hN=>(hold.2 b hb (λh=>h hN)).1;have hkeep:KeepN N w w':=⟨λb hb hN=>(hold.2 b hb (λh=>h hN)).2,hold.1⟩;have BU:=iL (St.mobs hr1) (Hj rs);obtain⟨hd,hidx⟩:=BL (s:=s1) (c:=L1.length) ho (by rw[hr1.len];exact vD _);refine⟨hkeep,λb=>A1 b/\ (¬N b\/w.heap.size<=b),(Cv (Hj rs) ls L1.length).map (λi=>(L1++Tq (Hj rs)).getD i .dead),λb hb=>⟨hb.2,St.lt hr1 b hb.1⟩,?_,?_⟩
       ·refine(TL BU hd).Jg ?_;rintro b (hb|hb)
        ·exact hb.1
        ·exact hA b hb.1 hb.2
       ·intro s0 L0 B' hL0 hB1 hB2;obtain⟨its,g1,g2,g3,g4⟩:=QL hr1 (B':=B') (LP:=L1++Tq (Hj rs)) (λi m hi=>by rw[uO (List.getElem?_eq_some_iff.1 hi).1];exact hi) (Hj rs) ls y [] L1.length s0 L0 _ ho h1
         (λp hp hl b hb=>by
          rcases hb.2 with hR|hN
          ·exact hB2 (jQ hp hl) b hR
          ·exact hB1 b ⟨hb.1,hN⟩)
         (λi m hi=>by rw[uU A7,Nat.add_sub_cancel_left];exact hi) hL0 rfl
        obtain⟨ps',g5,g6⟩:=HL hls huv g3;exact⟨ps',its,g1,g5,g6,by rw[g2];simp,g4⟩
      ·cases hls
     ·cases h1
  obtain⟨us,k1,us',k2,k3⟩:=fin h1;exact⟨us,k1,us',k2,k3⟩
theorem aU(Rm:P.follows .mixedOrders=true){f:Nat}{ans:List (Nat×An)}{an:An}{ps rs:List Sh}{F:Lg (Hj ps)->Option (Lg (Hj rs))}(hf:P.funcs[f]? =some fn)(hE:Ent P f)(hT:Lt P T)(hA:∀p∈ans,Ent P p.1)
  (hle:Nat.ble ps.length fn.ntmps=true) (h:∀x,run P T ans fn an ps rs x=F x):ConOk P T.gl f ⟨ps,rs,F⟩:=by
 cases hc:fn.body with
 |none=>
  refine Oo (RUN:=λ_=>none) (fn:=fn) hE (λx y pvs hx hy=>?_) (λ_ _ _ _ _ _ _ _ _ _ _ h=>by cases h);rw[<-h x]at hy;unfold run at hy;rw[hc]at hy;exact hy
 |some c=>
  refine Oo (T:=T) (fn:=fn) (RUN:=ex P T (Mc P T 8 ans) fn.ntmps c an {n:=BO P rs fn.results.toList,x:=λ_ _=>none,r:=BO P rs fn.results.toList}) hE (λx y pvs hx hy=>?_) ?_
  ·rw[<-h x]at hy;unfold run at hy;rw[hc,hx]at hy;exact hy
  ·intro Z A L w s y vs Q hZ hr hl hy fin;refine RY (rs:=fn.results.toList) hf hc rfl A9 (by rw[hl];exact hle) (W.mono (KP Rm ⟨hT,hZ⟩ (GD Rm hT hA 8) c hy hr) ?_);rintro e σ' w' ⟨s',A',L',h1,hr'⟩;cases e with
   |normal=>exact⟨.inr rfl,fin s' A' L' σ' w' h1 hr'⟩
   |ret=>exact⟨.inl rfl,fin s' A' L' σ' w' h1 hr'⟩
   |exit id=>cases h1
   |goto l=>cases h1
   |panic c=>cases h1
   |outgrown=>cases h1
end Go.Rx
namespace Go.Rx
open Go Go.Lv
structure Pt (R:Type)where
 q:Nat
 n:Nat
 c:Code
 an:An
 k:K R
inductive PS (R:Type)|l|r|d|lp (kn:S->Option R)|call (i f:Nat)|dcall (i f fuel:Nat) (z listed:Array Bool)
def aZ(f:Func):Code:=match f.body with|some c=>c|none=> .skip
variable {R:Type}
noncomputable def Pt.e(P:Program)(T:Tab)(ans:List (Nat×An))(p:Pt R)(s:S):Option R:=match p.c with
 | .loop _=>ex P T (Mc P T p.q ans) p.n p.c p.an p.k s
 |_=>hold (λs=>ex P T (Mc P T p.q ans) p.n p.c p.an p.k s) s
noncomputable def Pt.it(P:Program)(T:Tab)(ans:List (Nat×An))(p:Pt R)(q:Nat)(s:S):Option R:=match p.c with
 | .loop a=>iter p.an (λkn s'=>ex P T (Mc P T p.q ans) p.n a p.an.l {p.k with n:=kn} s') q s
 |_=>none
noncomputable def Pt.step(P:Program)(T:Tab)(ans:List (Nat×An))(p:Pt R):PS R->Pt R
 | .l=>match p.c with
  | .seq a b=>⟨p.q,p.n,a,p.an.l,{p.k with n:=RJ p.an λs'=>ex P T (Mc P T p.q ans) p.n b p.an.r p.k s'}⟩
  | .cond _ a _=>⟨p.q,p.n,a,p.an.l,p.k⟩
  |_=>p
 | .r=>match p.c with
  | .seq _ b=>⟨p.q,p.n,b,p.an.r,p.k⟩
  | .cond _ _ b=>⟨p.q,p.n,b,p.an.r,p.k⟩
  |_=>p
 | .d=>match p.c with
  | .block id a=>⟨p.q,p.n,a,p.an.l,{p.k with x:=λid' s'=>Bf (Nat.beq id' id) (p.k.n s')<|p.k.x id' s'}⟩
  |_=>p
 | .lp kn=>match p.c with
  | .loop a=>⟨p.q,p.n,a,p.an.l,{p.k with n:=Se p.an kn}⟩
  |_=>p
 | .call i f=>match p.c,p.q,P.funcs[f]?,Mc.SB ans f with
  | .region _ ops false,q+1,some fn,some an=>
   let fin:=Mc.gJ P fn.results.toList λs v=>FT P T (WZ p.an (Mc P T (q+1) ans)) p.n ops (ops.toList.drop (i+1)) (s.Cl ((ops[i]?).bind (·.dst)) v) p.k.n
   ⟨q,fn.ntmps,aZ fn,an,{n:=fin,x:=λ_ _=>none,r:=fin}⟩
  |_,_,_,_=>p
 | .dcall i f fuel z listed=>match p.c,p.q,P.funcs[f]?,Mc.SB ans f with
  | .region _ ops true,q+1,some fn,some an=>
   let fin:=Mc.gJ P fn.results.toList λs v=>Rw P T (WZ p.an (Mc P T (q+1) ans)) p.n (IP p.an) ops fuel z listed (s.Cl ((ops[i]?).bind (·.dst)) v) p.k.n
   ⟨q,fn.ntmps,aZ fn,an,{n:=fin,x:=λ_ _=>none,r:=fin}⟩
  |_,_,_,_=>p
noncomputable def Pt.at(P:Program)(T:Tab)(ans:List (Nat×An)):Pt R->List (PS R)->Pt R
 |p,[]=>p
 |p,x::l=>Pt.at P T ans (p.step P T ans x) l
noncomputable def Pt.root(P:Program)(fn:Func)(an:An)(rs:List Sh):Pt (Lg (Hj rs)):=
 ⟨8,fn.ntmps,aZ fn,an,{n:=BO P rs fn.results.toList,x:=λ_ _=>none,r:=BO P rs fn.results.toList}⟩
noncomputable def PE(P:Program)(T:Tab)(ans:List (Nat×An))(fn:Func)(an:An)(rs:List Sh)(l:List (PS (Lg (Hj rs))))(s:S):Option (Lg (Hj rs)):=(Pt.at P T ans (Pt.root P fn an rs) l).e P T ans s
noncomputable def PI(P:Program)(T:Tab)(ans:List (Nat×An))(fn:Func)(an:An)(rs:List Sh)(l:List (PS (Lg (Hj rs))))(q:Nat)(s:S):Option (Lg (Hj rs)):=(Pt.at P T ans (Pt.root P fn an rs) l).it P T ans q s
theorem RL(a:Option R):both a [a,a]=a:=by simp[both]
theorem PJ(a:Option R):both a [a,a,a]=a:=by simp[both]
end Go.Rx
namespace Go.Rx
open Go Go.Lv
variable{vw cp:Bool}{g:Nat}{P:Program}
theorem ConOk.mono{P:Program}{gl gl':List (Nat×List Value)}{f:Nat}{c:Con}(h:ConOk P gl f c)(hs:gl.Sublist gl'):ConOk P gl' f c:=by
 refine⟨h.ent,λR N w L0 vs ps x y h1 h2 h3 h4 h5 h6 h7=>(h.ok R N w L0 vs ps x y h1 h2 h3 h4 h5 (λp hp=>h6 p (hs.subset hp)) h7).mono ?_⟩;rintro e w' ⟨us,he,hk,A1,L1,g1,g2,g3⟩;exact⟨us,he,hk,A1,L1,g1,g2,λs L B' k1 k2 k3=>g3 s L B' k1 k2 λhr b hb=>k3 hr b (hb.imp id λ⟨p,hp,he⟩=>⟨p,hs.subset hp,he⟩)⟩
theorem Lt.nil{gl:List (Nat×List Value)}:Lt P ⟨[],gl,vw,cp⟩:=λf c h=>by cases h
theorem Lt.cons{c:Con}{r:List (Nat×Con)}{gl:List (Nat×List Value)}(h:ConOk P gl g c)(hr:Lt P ⟨r,gl,vw,cp⟩):Lt P ⟨(g,c)::r,gl,vw,cp⟩:=λf c' h'=>by
 simp only[Tab.get,nV]at h';cases hb:Nat.beq g f with
 |true=>
  rw[hb]at h';have:=Bc hb;subst this;cases h';exact h
 |false=>rw[hb]at h';exact hr f c' h'
theorem aO.nil:∀p∈([]:List (Nat×An)),Ent P p.1:=by simp
theorem aO.cons{a:An}{r:List (Nat×An)}(h:Ent P g)(hr:∀p∈r,Ent P p.1):∀p∈(g,a)::r,Ent P p.1:=by
 intro p hp;rcases List.mem_cons.1 hp with rfl|hp
 ·exact h
 ·exact hr p hp
end Go.Rx
namespace Go.Rx
variable {R α:Type}
theorem Da{a b c:Option R}(h:a=c)(h1:b=c):both a [b]=c:=by subst h;subst h1;exact IF _
theorem Cy{a b d c:Option R}(h:a=c)(h1:b=c)(h2:d=c):both a [b,d]=c:=by subst h;subst h1;subst h2;exact RL _
theorem Db{a b d e c:Option R}(h:a=c)(h1:b=c)(h2:d=c)(h3:e=c):both a [b,d,e]=c:=by subst h;subst h1;subst h2;subst h3;exact PJ _
theorem En{l:List α}{a b c:Option R}(h:l=[]->a=c)(h1:b=c):NG l a b=c:=by subst h1;exact mU h
theorem Ek{o:Option α}{f g:α->Option R}(h:∀x,f x=g x):Option.bind o f=Option.bind o g:=by rw[funext h]
theorem Bt{o:Option α}{f:α->Option R}{t:Option R}(h:o=none->none=t)(h1:∀x,o=some x->f x=t):Option.bind o f=t:=by
 cases o with
 |none=>exact h rfl
 |some x=>exact h1 x rfl
theorem Em(f:α->Option R):Option.bind none f=none:=rfl
theorem Bk(x:α)(f:α->Option R):Option.bind (some x) f=f x:=rfl
theorem Bh(o:Option α):Option.bind o (λ_=>(none:Option R))=none:=by cases o<;>rfl
theorem Gv{c:Prop} [Decidable c]{a b a' b':Option R}(h:c->a=a')(h1:¬c->b=b'):(if c then a else b)=if c then a' else b':=by
 by_cases hc:c
 ·rw[vP hc,vP hc];exact h hc
 ·rw[vL hc,vL hc];exact h1 hc
theorem Ck{c:Prop} [Decidable c]{a b t:Option R}(h:c->a=t)(h1:¬c->b=t):(if c then a else b)=t:=by
 by_cases hc:c
 ·rw[vP hc];exact h hc
 ·rw[vL hc];exact h1 hc
abbrev vi(x:Int):PV:= .val (.int .i64) x
abbrev vc(x:UInt8):PV:= .val (.int .u8) x
abbrev vu(x:UInt32):PV:= .val (.int .u32) x
abbrev vq(x:UInt64):PV:= .val (.int .u64) x
abbrev vx(x:Int32):PV:= .val (.int .i32) x
abbrev vt(x:Bool):PV:= .val .bool x
abbrev vs(x:List UInt8):PV:= .val .str x
abbrev vb(x:List UInt8):PV:= .val (.list (.int .u8)) x
abbrev vl(x:List Int):PV:= .val (.list (.int .i64)) x
abbrev vw(x:List Int32):PV:= .val (.list (.int .i32)) x
abbrev vv(x:List UInt32):PV:= .val (.list (.int .u32)) x
end Go.Rx
namespace Go.Rx
open Go Go.Lv
variable{f:Nat}{P:Program}
structure Hd where
 p:List Sh
 r:List Sh
 a:An
 T:Tab
 s:List (Nat×An)
 f:Func
noncomputable def Hd.e(P:Program)(H:Hd):List (PS (Lg (Hj H.r)))->S->Option (Lg (Hj H.r)):=PE P H.T H.s H.f H.a H.r
noncomputable def Hd.i(P:Program)(H:Hd):List (PS (Lg (Hj H.r)))->Nat->S->Option (Lg (Hj H.r)):=PI P H.T H.s H.f H.a H.r
noncomputable def Hd.u(P:Program)(H:Hd)(x:Lg (Hj H.p)):Option (Lg (Hj H.r)):=run P H.T H.s H.f H.a H.p H.r x
def rO(H:Hd):Bool:=(!(H.f.name== "runtime.NumGoroutine")&&H.f.body.isSome)&&Nat.ble H.p.length H.f.ntmps
theorem Hd.sY(hM:P.follows .mixedOrders=true)(H:Hd){F:Lg (Hj H.p)->Option (Lg (Hj H.r))}(hf:P.funcs[f]? =some H.f)(hT:Lt P H.T)(hA:∀p∈H.s,Ent P p.1)
  (hb:rO H=true) (h:∀x,H.u P x=F x):ConOk P H.T.gl f ⟨H.p,H.r,F⟩:=by
 simp only[rO,uJ,vB]at hb;obtain⟨c,hc⟩:=Option.isSome_iff_exists.1 hb.1.2;exact aU (T:=H.T) hM hf (Ent.mk hf hb.1.1 hc) hT hA hb.2 h
def nU(P:Program)(f:Nat):Bool:=match P.funcs[f]? with|some fn=>!(fn.name== "runtime.NumGoroutine")&&fn.body.isSome|none=>false
theorem oO(h:nU P f=true):Ent P f:=by
 unfold nU at h;split at h
 ·rename_i fn hf;simp only[uJ,vB]at h;obtain⟨c,hc⟩:=Option.isSome_iff_exists.1 h.2;exact Ent.mk hf h.1 hc
 ·cases h
def rL(P:Program)(H:Hd):Bool:=(H.s.all λp=>nU P p.1)&&rO H
theorem Hd.cn(hM:P.follows .mixedOrders=true)(H:Hd){F:Lg (Hj H.p)->Option (Lg (Hj H.r))}(hf:P.funcs[f]? =some H.f)(hT:Lt P H.T)
  (hb:rL P H=true) (h:∀x,H.u P x=F x):ConOk P H.T.gl f ⟨H.p,H.r,F⟩:=by
 simp only[rL,uJ,xR]at hb;exact Hd.sY hM H hf hT (λp hp=>oO (hb.1 p hp)) hb.2 h
abbrev Kc(P:Program)(gl:List (Nat×List Value)):={p:Nat×Con//ConOk P gl p.1 p.2}
def pO{P:Program}{gl:List (Nat×List Value)}(l:List (Kc P gl))(v c:Bool):Tab:=⟨l.map (·.1),gl,v,c⟩
theorem eG{P:Program}{gl:List (Nat×List Value)}:∀(l:List (Kc P gl)) (v c:Bool),Lt P (pO l v c)
 |[],_,_=> .nil
 |a::l,v,c=> .cons a.2 (eG l v c)
theorem ind{p:Nat->Prop}(h:p 0)(hs:∀q,p q->p (q+1)):∀q,p q:=λq=>Nat.rec h hs q
variable {R α:Type}
noncomputable abbrev bo(a:Option R):Option R:=both a [a]
noncomputable abbrev sM(a:Option R):Option R:=both a [a,a]
theorem Oi(a:Option R):both a [a]=a:=IF a
theorem It(a:Option R):both a [a,a]=a:=RL a
theorem Iy(a:Option R):both a [a,a,a]=a:=PJ a
abbrev Si:Sh:= .lf (.int .i64) none
abbrev Su:Sh:= .lf (.int .u32) none
abbrev Sq:Sh:= .lf (.int .u64) none
abbrev Sx:Sh:= .lf (.int .i32) none
abbrev Sz:Sh:= .lf .bool none
abbrev Ss:Sh:= .lf .str none
abbrev Sb:Sh:= .lf (.list (.int .u8)) none
abbrev Sl:Sh:= .lf (.list (.int .i64)) none
abbrev Sw:Sh:= .lf (.list (.int .i32)) none
abbrev Sv:Sh:= .lf (.list (.int .u32)) none
abbrev Ob(e:Nat):Sh:= .lf (.list (.int .u8)) (some e)
abbrev Ol(e:Nat):Sh:= .lf (.list (.int .i64)) (some e)
abbrev Ow(e:Nat):Sh:= .lf (.list (.int .i32)) (some e)
abbrev Ov(e:Nat):Sh:= .lf (.list (.int .u32)) (some e)
abbrev Ai(e:Nat)(l:List Int):Item:= .arr e (.int .i64) l
abbrev Ab(e:Nat)(l:List UInt8):Item:= .arr e (.int .u8) l
abbrev Aw(e:Nat)(l:List Int32):Item:= .arr e (.int .i32) l
abbrev Av(e:Nat)(l:List UInt32):Item:= .arr e (.int .u32) l
abbrev An.q(a:An):An:= .seq .d a
end Go.Rx
namespace Go.Rx
open Go Go.Lv Go.RowKit
variable{cs:List Value}{B:Reg}{w:World}
variable {P:Program}
theorem Px{B:Reg}{w:World}{k:Kd}:∀(l:List k.T),Az (Ak B w (.int k)) l (Go.Lv.Nx (k:=k.k) l)
 |[]=>rfl
 |x::l=>⟨[iv (T:=k.T) (k:=k.k) x],Go.Lv.Nx (k:=k.k) l,rfl,rfl,Px l⟩
theorem Rd.Jg{A:Reg}{s:Nat}{v:Value}(h:Rd A w s v cs)(ha:∀b,A b->B b):Rd B w s v cs:=h.step ha λ_ _=>rfl
theorem encs_nil:By B w [] [] []:=rfl
theorem row_true{gl:List (Nat×List Value)}{f:Nat}{ps:List Sh}{F:Lg (Hj ps)->Option Bool}(hC:ConOk P gl f ⟨ps,[.lf .bool none],F⟩){x:Lg (Hj ps)}{pvs:List PV}{vs:List Value}(ha:args ps x=some pvs)(hi:XH ps x=[])
  (hv:By (λ_=>True/\True) w [] pvs vs) (hg:GlOk gl (λ_=>True) w) (hF:F x=some true):Calls P f vs.toArray w λe w'=>e= .returned (.bool true)/\Below w.heap.size w w':=by
 refine(hC.ok (λ_=>True) (λ_=>True) w [] vs pvs x true ha (by rw[hi];rfl) (λi a m h=>by rw[hi]at h;simp at h) trivial hv hg hF).mono ?_;rintro e w' ⟨us,rfl,hk,A1,L1,g1,g2,g3⟩;obtain⟨qs,its,k1,k2,k3,k4,k5⟩:=g3 ⟨[],[],[]⟩ [] (λ_=>True) rfl (λ_ _=>trivial) (λ_ _ _=>trivial);refine⟨?_,⟨hk.gr.os,hk.gr.tape,hk.gr.output,hk.gr.le,λb hb=>hk.same b hb trivial⟩⟩;obtain rfl:=xU (show some [PV.val .bool true]=some qs from k2);obtain⟨_,_,rfl,e1,rfl⟩:=k3;cases(show [_]=[Value.bool true]from e1);rfl
theorem laid_ints{H:Type}{enc:TypeId×Value->H}{fuel:Nat}{t e n:Nat}{k:IntKind}{zs:List Int}{p:List MemPlace}(hu:P.underlying t=some (.array n e))(he:P.underlying e=some (.int k))(hc:P.cellsOf e=1)(ht:P.cellsOf t=n)
  (h:DataW.trod enc P w 0 (λ_=>true) false fuel t cs=some (.agg (zs.map λz=> .lit (.int k z)),p)):cs=zs.map λz=>Value.int k z:=by
 obtain⟨xs,m,rfl,hx,hlen,hn,hel⟩:=DataW.trod_array hu h;simp only[wF,DataW.agg.injEq]at hx;rw[ht]at hlen;have hz:zs.length=n:=by
  have:=congrArg List.length hx.1;simpa [hn]using this
 apply wJ;intro i;by_cases hi:i<n
 ·have h0:=hel i hi;rw[hc,Nat.mul_one]at h0;have hxi:xs[i]? =some xs[i]:=uX A7;rw[hxi]at h0;obtain⟨q,e1,e2,_⟩:=DataW.trod_int he h0;have e3:(cs.drop i).take 1=[cs[i]' A7]:=by
   rw[yE A7];rfl
  rw[e3]at e1;have e4:(xs.map (·.1))[i]? =(zs.map λz=>(DataW.lit (.int k z):DataW H))[i]? :=by rw[<-hx.1]
  rw[vZ,vZ,hxi,uX A7,e2]at e4;simp only[wL,uN,DataW.lit.injEq,Lit.int.injEq,true_and]at e4;rw[vZ,uX A7,uX A7];simp only[xG,zG]at e1;rw[e1,e4];rfl
 ·rw[wC A7,wC A8]
theorem glOk_cons{n:String}{g:Nat}{cs:Array Value}{l:List Value}{gl:List (Nat×List Value)}(hg:P.globalNamed n=some g)(hv:w.var? P n=some cs)(hl:cs.toList=l)(h:GlOk gl (λ_=>True) w):GlOk ((g,l)::gl) (λ_=>True) w:=by
 intro p hp;rcases List.mem_cons.1 hp with rfl|hp
 ·simp only[World.var?,hg,Option.bind_some]at hv;split at hv
  ·rename_i cs' T fr hh;cases hv;refine⟨(Array.getElem?_eq_some_iff.1 hh).1,trivial,T,fr,?_⟩;rw[hh,<-hl]
  ·cases hv
 ·exact h p hp
theorem glOk_nil{N:Reg}:GlOk [] N w:=λp hp=>by simp at hp
end Go.Rx
namespace Go.Rx
open Go Go.Lv Go.RowKit Go.ChangeShapes Go.WideShapes
variable{cs:List Value}{fuel:Nat}{H:Type}{t:TypeId}{w:World}
variable {P:Program}
theorem laid_bool_int{enc:TypeId×Value->H}{f0 f1:Field}{k:IntKind}{b:Bool}{z:Int}{p:List MemPlace}(hu:P.underlying t=some (.struct #[f0,f1]))
  (h0:P.underlying f0.type=some .bool) (h1:P.underlying f1.type=some (.int k)) (o0:f0.offset=0) (o1:f1.offset=1) (c0:P.cellsOf f0.type=1) (c1:P.cellsOf f1.type=1) (ct:P.cellsOf t=2)
  (h:DataW.trod enc P w 0 (λ_=>true) false fuel t cs=some (.agg [.lit (.bool b), .lit (.int k z)],p)):cs=[.bool b, .int k z]:=by
 obtain⟨xs,m,rfl,hx,hlen,hn,hel⟩:=DataW.trod_struct hu h;rw[ct]at hlen
 match cs,hlen with
 |[a,c],_=>
  match xs,hn with
  |[y0,y1],_=>
   simp only[wF,DataW.agg.injEq,vN,xO,xG,zG]at hx;have e0:=hel 0 f0 rfl;have e1:=hel 1 f1 rfl;rw[o0,c0]at e0;rw[o1,c1]at e1;obtain⟨b',q0,r0⟩:=DataW.trod_bool h0 e0;obtain⟨z',q1,r1,_⟩:=DataW.trod_int h1 e1;simp at q0 q1;rw[r0,r1]at hx;simp at hx;rw[q0,q1,hx.1.1,hx.1.2]
theorem fld{enc:TypeId×Value->H}{base:Nat}{spare:Nat->Bool}{held:Bool}{fs:Array Field}{x:DataW H×List MemPlace}(ht:P.underlying t=some (.struct fs))(h:DataW.trod enc P w base spare held fuel t cs=some x)
  (i:Nat) {ft:TypeId} {off k:Nat} {part:List Value} (hf:(fs[i]?).map (λf=>(f.type,f.offset))=some (ft,off)) (hc:P.cellsOf ft=k) (hd:(cs.drop off).take k=part):∃n y,DataW.trod enc P w base spare held n ft part=some y:=by
 obtain⟨xs,n,_,_,_,hn,hel⟩:=DataW.trod_struct ht h;cases hi:fs[i]? with
 |none=>rw[hi]at hf;cases hf
 |some f=>
  rw[hi]at hf;cases hf;have g:=hel i f hi;rw[hc,hd,uX (by rw[hn];exact(Array.getElem?_eq_some_iff.1 hi).1)]at g;exact⟨n,_,g⟩
end Go.Rx
namespace Go.Rx
open Go Go.Lv Go.RowKit Go.ChangeShapes Go.WideShapes
variable {P:Program}
end Go.Rx
namespace Go.Rx
open Go Go.Lv Go.RowKit
variable{an:An}{ps:Array Tmp}{assign body:Code}{fn:Func}{g:Operand}
def qQ(P:Program)(m:Nat)(gf:Nat)(lb:Array Value)(N:Nat)(E:Nat->Reg->World->Value->Prop)(V0:Reg)(w:World):Prop:=
 ∀(l:Nat) (J:Nat->Reg->World->Prop) (Jx:World->Prop) (W:World),KeepN (λ_=>True) w W->
  (∀i V X Y,J i V X->KeepN (λ_=>True) X Y->J i (λb=>V b\/ (X.heap.size<=b/\b<Y.heap.size)) Y)->
  (∀X Y,Jx X->KeepN (λ_=>True) X Y->Jx Y)->
  (∀i V W1 v,i<N->J i V W1->E i V W1 v->YieldAt (wr none) (m-1) P l #[v] W1 λe W'=>
   (e= .returned (.bool true)/\J (i+1) V W'/\Gr W1 W'/\∀b,V b->W'.heap[b]? =W1.heap[b]?)\/ (e= .returned (.bool false)/\Jx W'))->
  J 0 V0 W->
  CallsIn (wr none) m P gf (#[.func (.yield l) #[] #[]]++lb) W λe W'=>(∃v,e= .returned v)/\ ((∃V,J N V W')\/Jx W')
def oT(B:Nat)(I:Reg->World->Prop)(Ix:Code->World->Prop)(V:Reg)(W:World):Exit->Act->World->Prop
 | .normal,_,W'=>(∀b,(b=B\/b=B+1\/V b)->W'.heap[b]? =W.heap[b]?)/\Gr W W'/\I V W'
 | .ret,_,W'=>(∀b,(b=B\/b=B+1)->W'.heap[b]? =W.heap[b]?)/\Gr W W'/\Ix .ret W'
 | .exit id,_,W'=>(∀b,(b=B\/b=B+1)->W'.heap[b]? =W.heap[b]?)/\Gr W W'/\Ix (.exit id) W'
 |_,_,_=>False
theorem JS(W:World)(l:Nat)(o:Obj):Gr W (W.putObj l o):=by
 have h:=grownBy_putObj' W l o;exact⟨h.size,h.os,h.tape,h.output⟩
theorem ZG(W:World)(o:Obj):Gr W (W.alloc o):=by
 have h:=World.grownBy_alloc W o none;exact⟨h.size,h.os,h.tape,h.output⟩
theorem kW{P:Program}{n:Nat}{Q:Exit->Act->World->Prop}{a:Act}{w:World}
  {gf:Nat} {lb:Array Value} (hg:a.eval g= .func (.func gf) #[] lb) (eg:Ent P gf) {N:Nat} {E:Nat->Reg->World->Value->Prop} {V0:Reg} (hseq:qQ P (n-1) gf lb N E V0 w) (hps:ps.size=1)
  (I:Nat->Reg->World->Prop) (Ix:Code->World->Prop)
  (hI:∀i V X Y,I i V X->w.heap.size+1<X.heap.size->KeepN (λ_=>True) X Y->I i (λb=>V b\/ (X.heap.size<=b/\b<Y.heap.size)) Y)
  (hIx:∀c X Y,Ix c X->KeepN (λ_=>True) X Y->Ix c Y)
  (rI:∀i V X (r r':Loop),I i V X->X.heap[w.heap.size+1]? =some (.loop r)->I i V (X.putObj (w.heap.size+1) (.loop r')))
  (kB:∀c X (r r':Loop),Ix c X->X.heap[w.heap.size+1]? =some (.loop r)->Ix c (X.putObj (w.heap.size+1) (.loop r')))
  (hV:∀i V W,I i V W-> ¬V (w.heap.size+1))
  (h0:∀W,KeepN (λ_=>True) w W->I 0 V0 W)
  (cJ:∀i V W v (r:Loop),i<N->I i V W->E i V W v->W.heap[w.heap.size+1]? =some (.loop r)->W.heap[w.heap.size]? =some (.deferred (some []))->
   assign.wpIn (wr (some (w.heap.size+1))) (n-1-1) P (Exit.then (λa' W'=>(∀b,(b=w.heap.size\/b=w.heap.size+1\/V b)->W'.heap[b]? =W.heap[b]?)/\Gr W W'/\
    ∀r',body.wpIn (wr (some (w.heap.size+1))) (n-1-1) P (oT w.heap.size (I (i+1)) Ix V (W'.putObj (w.heap.size+1) (.loop r'))) a' (W'.putObj (w.heap.size+1) (.loop r'))) (λ_ _ _=>False))
    {tmps:=(ps.zip #[v]).foldl (λt (p,v)=>t.setIfInBounds p v) a.tmps,defers:=[]} W)
  (hdone:∀V W,I N V W->W.heap[w.heap.size]? =some (.deferred (some []))->Q .normal {a with defers:={target:= .collected w.heap.size,args:= #[]}::a.defers} W)
  (hstop:∀c W,Ix c W->W.heap[w.heap.size]? =some (.deferred (some []))->c.wpIn (wr none) n P Q {a with defers:={target:= .collected w.heap.size,args:= #[]}::a.defers} W):
  (Code.rangeFunc g ps assign body).wpIn (wr none) n P Q a w:=by
 refine wpIn_rangeFunc ?_;intro fn hfn;obtain⟨rec,hrec⟩:∃rec:LoopState->Option Code->Loop,rec=λst pe=>{state:=st,pending:=pe,fn,tmps:=a.tmps,params:=ps,assign,body,defers:=w.heap.size}:=⟨_,rfl⟩;obtain⟨W1,hW1⟩:∃W1,(w.alloc (.deferred (some []))).alloc (.loop (rec .ready none))=W1:=⟨_,rfl⟩;have hL1:W1.heap[w.heap.size+1]? =some (.loop (rec .ready none)):=by
  rw[<-hW1];have:=yV (w.alloc (.deferred (some []))) (.loop (rec .ready none));rwa [World.size_alloc]at this
 have hK1:W1.heap[w.heap.size]? =some (.deferred (some [])):=by
  rw[<-hW1];exact(Below.heap_alloc _ _ _ A9).trans (yV w _)
 have hk1:KeepN (λ_=>True) w W1:=by
  rw[<-hW1];refine⟨λb hb _=>?_,(ZG _ _).trans (ZG _ _)⟩;exact(Below.heap_alloc _ _ _ A8).trans (Below.heap_alloc _ _ _ hb)
 refine⟨w.heap.size+1,[{target:= .collected w.heap.size,args:= #[]}],W1,{target:= .fn (.func gf) lb,args:= #[.func (.yield (w.heap.size+1)) #[] #[]]},W1,gf,
  #[.func (.yield (w.heap.size + 1)) #[] #[]] ++ lb, W1, ?_, ?_, ?_, ?_, (λh => by simp [wr, Fence.wide] at h), ?_⟩
 ·rw[<-hW1,hrec];exact run_enterLoop_outer _ _ _ _ _
 ·simp only[resolve,hg];simp[go_sem]
 ·intro f' hf';trivial
 ·simp[invoke,go_sem,eg _ _]
 ·refine(hseq (w.heap.size+1)
   (λi V W=>I i V W/\W.heap[w.heap.size+1]? =some (.loop (rec .ready none))/\W.heap[w.heap.size]? =some (.deferred (some [])))
   (λW=>∃c,Ix c W/\W.heap[w.heap.size+1]? =some (.loop (rec .done (some c)))/\W.heap[w.heap.size]? =some (.deferred (some [])))
   W1 hk1 ?_ ?_ ?_ ⟨h0 _ hk1,hL1,hK1⟩).mono ?_
  ·rintro i V X Y ⟨h1,h2,h3⟩ hk;exact⟨hI i V X Y h1 (lt_of_heap h2) hk,(hk.same _ (lt_of_heap h2) trivial).trans h2,(hk.same _ (lt_of_heap h3) trivial).trans h3⟩
  ·rintro X Y ⟨c,h1,h2,h3⟩ hk;exact⟨c,hIx c X Y h1 hk,(hk.same _ (lt_of_heap h2) trivial).trans h2,(hk.same _ (lt_of_heap h3) trivial).trans h3⟩
  ·
   rintro i V W v hlen ⟨hi,hl,hk⟩ hE;have hy:=run_yield (P:=P) (args:= #[v]) hl (by rw[hrec];exact hps.symm);rw[hrec]at hy;have tT:=hV i V W hi;refine⟨fn,_,assign,body,hy,roundIn_of_wpIn hfn (vX (cJ i V W v _ hlen hi hE hl hk) ?_)⟩;clear hy;rintro e a' W2 hh;cases e with
   |normal=>
    obtain⟨hs,hgr,hb⟩:=hh;have hl2:=(hs _ (.inr (.inl rfl))).trans hl;have hk2:=(hs _ (.inl rfl)).trans hk;refine⟨_,run_beginRound hl2 (by rw[hrec]),?_⟩;refine vX (hb _) ?_;have hlt:=lt_of_heap hl2;have hl3:(W2.putObj (w.heap.size+1) (.loop {rec .ready none with state:= .busy})).heap[w.heap.size+1]? =some (.loop {rec .ready none with state:= .busy}):=xK hlt;have hk3:(W2.putObj (w.heap.size+1) (.loop {rec .ready none with state:= .busy})).heap[w.heap.size]? =some (.deferred (some [])):=(vR A7).trans hk2;have fin:∀(jump:Option Code) (W3:World),(∀b,(b=w.heap.size\/b=w.heap.size+1)->W3.heap[b]? =(W2.putObj (w.heap.size+1) (.loop {rec .ready none with state:= .busy})).heap[b]?)->
      (Instr.endRound (w.heap.size+1) jump).run P W3= .ok (.bool jump.isNone) (W3.putObj (w.heap.size+1) (.loop (rec (if jump.isNone then .ready else .done) jump)))/\
      W3.heap[w.heap.size+1]? =some (.loop {rec .ready none with state:= .busy})/\
      (W3.putObj (w.heap.size+1) (.loop (rec (if jump.isNone then .ready else .done) jump))).heap[w.heap.size+1]? =some (.loop (rec (if jump.isNone then .ready else .done) jump))/\
      (W3.putObj (w.heap.size+1) (.loop (rec (if jump.isNone then .ready else .done) jump))).heap[w.heap.size]? =some (.deferred (some [])):=λjump W3 hs3=>by
     have hl4:=(hs3 _ (.inr rfl)).trans hl3;have:=run_endRound (P:=P) jump hl4;rw[hrec]at this⊢;exact⟨this,by rw[hrec]at hl4;exact hl4,xK (lt_of_heap hl4),(vR A7).trans ((hs3 _ (.inl rfl)).trans hk3)⟩
    rintro e a3 W3 hp;cases e with
    |normal=>
     obtain⟨hs3,hg3,hi3⟩:=hp;obtain⟨hr,hl4,hl5,hk5⟩:=fin none W3 (λb hb=>hs3 b (hb.elim .inl λh=> .inr (.inl h)));refine⟨_,_,hr, .inl ⟨rfl,⟨rI _ _ _ _ _ hi3 hl4,hl5,hk5⟩,hgr.trans ((JS _ _ _).trans (hg3.trans (JS _ _ _))),λb hb=>?_⟩⟩;have hne:b≠w.heap.size+1:=λe=>tT (e▸hb);exact(vR hne).trans ((hs3 b (.inr (.inr hb))).trans ((vR hne).trans (hs b (.inr (.inr hb)))))
    |ret=>
     obtain⟨hs3,hg3,hi3⟩:=hp;obtain⟨hr,hl4,hl5,hk5⟩:=fin (some .ret) W3 hs3;exact⟨_,_,hr, .inr ⟨rfl, .ret,kB _ _ _ _ hi3 hl4,hl5,hk5⟩⟩
    |exit id=>
     obtain⟨hs3,hg3,hi3⟩:=hp;obtain⟨hr,hl4,hl5,hk5⟩:=fin (some (.exit id)) W3 hs3;exact⟨_,_,hr, .inr ⟨rfl, .exit id,kB _ _ _ _ hi3 hl4,hl5,hk5⟩⟩
    |goto t=>exact hp.elim
    |panic ch=>exact hp.elim
    |outgrown=>exact hp.elim
   |_=>exact hh.elim
  ·rintro e W2 ⟨⟨v,rfl⟩,(⟨V,hi,hl,hk⟩|⟨c,hi,hl,hk⟩)⟩
   ·exact⟨none,_,by have:=run_endLoop (P:=P) hl (by rw[hrec];simp);rw[hrec]at this;exact this,hdone _ _ (rI _ _ _ _ _ hi hl) ((vR A7).trans hk)⟩
   ·exact⟨some c,_,by have:=run_endLoop (P:=P) hl (by rw[hrec];simp);rw[hrec]at this;exact this,hstop c _ (kB _ _ _ _ hi hl) ((vR A7).trans hk)⟩
variable {P:Program} {B:Reg} {w w':World} {L L':List MD} {s s':S} {σs σs':List Env} {σ σ':Env} {Z:Fix} {A A':Reg} {n:Nat}
theorem eW{md:MD}{b:Nat}(h:md.Cx.holds (some b) w):∃arr T fr,w.heap[b]? =some (.cells arr T fr):=by
 cases md with
 |dead=>
  obtain⟨p,len,cap,h1,h2,h3,h4,h5,h6⟩:=h;obtain⟨arr,fr,e1,e2,_⟩:=h6 b rfl;exact⟨_,_,_,e2⟩
 |box b' c T=>obtain⟨h1,h2⟩:=h;cases h1;exact⟨_,_,_,h2⟩
 |own z E v cs=>
  obtain⟨p,len,cap,h1,h2,h3,h4,h5,h6⟩:=h;obtain⟨arr,fr,e1,e2,_⟩:=h6 b rfl;exact⟨_,_,_,e2⟩
theorem IE:∀{L:List MD} {A:Reg},Bi w A (L.map MD.Cx)->∃O:Reg,(∀b,O b-> ¬A b/\b<w.heap.size/\∃arr T fr,w.heap[b]? =some (.cells arr T fr))/\Bi w (λb=>¬O b) (L.map MD.Cx)
 |[],A,_=>⟨λ_=>False,λb h=>h.elim,trivial⟩
 |md::L,A,⟨o,h1,h2,h3⟩=>by
  obtain⟨O,g1,g2⟩:=IE h3;refine⟨λb=>O b\/o=some b,λb hb=>?_,o,h1,λb hb=>⟨λh=>h (.inr hb),(h2 b hb).2⟩,g2.Jg λb hb=>?_⟩
  ·rcases hb with hb|hb
   ·exact⟨λh=>(g1 b hb).1 (.inl h),(g1 b hb).2⟩
   ·subst hb;exact⟨(h2 b rfl).1,(h2 b rfl).2,eW h1⟩
  ·rcases hb with hb|hb
   ·exact λh=>hb (.inl h)
   ·exact λh=>(g1 b h).1 (.inr hb)
theorem Rel.gP(hr:Rel Z s σs A L σ w):Gr Z.w0 w:=(hr.fact 1 (f:= .old Z.M Z.w0) rfl).1
theorem Rel.old(hr:Rel Z s σs A L σ w){b:Nat}(h1:b<Z.w0.heap.size)(h2:¬Z.M b):A b/\w.heap[b]? =Z.w0.heap[b]? :=(hr.fact 1 (f:= .old Z.M Z.w0) rfl).2 b h1 h2
theorem Rel.qA{Z:Fix}(h1:∀b,A b->b<w.heap.size)(h2:MemR (λb=>A b/\Z.R b) w L s σs σ)(h3:Gr Z.w0 w)(h4:∀b,b<Z.w0.heap.size-> ¬Z.M b->A b/\w.heap[b]? =Z.w0.heap[b]?)(h5:Bi w A (L.map MD.Cx)):Rel Z s σs A L σ w:=
by
 refine⟨h1,λf hf=>?_,h5⟩;cases hf with
 |head=>exact h2
 |tail _ hf=>
  cases hf with
  |head=>exact⟨h3,h4⟩
  |tail _ hf=>cases hf
theorem Rel.grow(hr:Rel Z s σs A L σ w)(hk:KeepN (λ_=>True) w w')(h1:∀b,A b->A' b)(h2:∀b,A' b->A b\/ (w.heap.size<=b/\b<w'.heap.size)):Rel Z s σs A' L σ w':=by
 have same:∀b,b<w.heap.size->w'.heap[b]? =w.heap[b]? :=λb hb=>hk.same b hb trivial;refine Rel.qA (λb hb=>?_) (hr.mem.step (λb hb=>⟨h1 b hb.1,hb.2⟩) (λb hb=>same b (St.lt hr b hb.1))) (hr.gP.trans hk.gr) (λb hb hM=>?_) ?_
 ·rcases h2 b hb with h|h
  ·exact vE (St.lt hr b h) hk.gr.le
  ·exact h.2
 ·obtain⟨g1,g2⟩:=hr.old hb hM;exact⟨h1 b g1,(same b (St.lt hr b g1)).trans g2⟩
 ·exact((St.mobs hr).lt.step hk.gr.le λb hb _=>same b hb).Jg λb hb=>(h2 b hb).imp id And.left
theorem Rel.row(hr:Rel Z s σs A L σ w){l:Nat}{o o':Obj}(hA:¬A l)(hl:w.heap[l]? =some o)(ho:o.isCells=false):Rel Z s σs A L σ (w.putObj l o'):=by
 have hne:∀b,A b->b≠l:=λb hb e=>hA (e▸hb);have hg:=JS w l o';have same:∀b,b≠l-> (w.putObj l o').heap[b]? =w.heap[b]? :=λb hb=>vR hb;refine Rel.qA (λb hb=>vE (St.lt hr b hb) hg.le) (hr.mem.step (λb hb=>hb) (λb hb=>same b (hne b hb.1))) (hr.gP.trans hg) (λb hb hM=>?_) ?_
 ·obtain⟨g1,g2⟩:=hr.old hb hM;exact⟨g1,(same b (hne b g1)).trans g2⟩
 ·obtain⟨O,g1,g2⟩:=IE (St.mobs hr);refine(g2.step hg.le λb hb hO=>same b λe=>?_).Jg λb hb hO=>(g1 b hO).1 hb;subst e;obtain⟨_,_,arr,T,fr,e⟩:=g1 b (Classical.not_not.1 hO);rw[hl]at e;cases e;cases ho
structure Rows (Z:Fix) (A:Reg) (w:World) (X:Reg):Prop where
 out:∀b,X b-> ¬A b
 new:∀b,X b->Z.w0.heap.size<=b
 row:∀b,X b->∃o,w.heap[b]? =some o/\o.isCells=false
def Fix.sub(Z:Fix)(hr:Rel Z s σs A L σ w)(X:Reg)(hX:Rows Z A w X):Fix where
 R b:=Z.R b/\ ¬X b
 M b:=b<w.heap.size/\ ¬A b/\ ¬X b
 w0:=w
 new b hb:=⟨Z.new b (yO hr.gP.le hb),λh=>by obtain⟨o,ho,_⟩:=hX.row b h;have:=lt_of_heap ho;omega⟩
 mod b hb:=⟨by
  rcases wG b Z.w0.heap.size with h|h
  ·exact Z.mod b (wB λhM=>hb.2.1 (hr.old h hM).1)
  ·exact Z.new b h,hb.2.2⟩
 gl:=Z.gl
 glok p hp:=by
  obtain⟨⟨h1,h2⟩,T,fr,h3⟩:=hr.bB hp;exact⟨⟨h2,λh=>hX.out _ h h1⟩,λh=>h.2.1 h1,lt_of_heap h3,T,fr,h3⟩
theorem QN(hr:Rel Z s σs A L σ w){X:Reg}(hX:Rows Z A w X):Rel (Z.sub hr X hX) s σs (λb=>A b\/X b) L σ w:=by
 refine Rel.qA (λb hb=>?_) (hr.mem.step (λb hb=>⟨.inl hb.1,hb.2,λh=>hX.out b h hb.1⟩) (λ_ _=>rfl)) (.refl _) (λb hb hM=>⟨?_,rfl⟩) ?_
 ·rcases hb with h|h
  ·exact St.lt hr b h
  ·obtain⟨o,ho,_⟩:=hX.row b h;exact lt_of_heap ho
 ·exact wB λh=>hM ⟨hb,λg=>h (.inl g),λg=>h (.inr g)⟩
 ·obtain⟨O,g1,g2⟩:=IE (St.mobs hr);refine g2.Jg λb hb hO=>?_;rcases hb with h|h
  ·exact(g1 b hO).1 h
  ·obtain⟨o,ho,hc⟩:=hX.row b h;obtain⟨_,_,arr,T,fr,e⟩:=g1 b hO;rw[ho]at e;cases e;cases hc
theorem HQ(hr:Rel Z s σs A L σ w){X:Reg}(hX:Rows Z A w X){L2:List MD}{A2:Reg}(h:Rel (Z.sub hr X hX) s' σs' A2 L2 σ' w'):
  Rel Z s' σs' (λb=>A2 b/\ ¬X b) L2 σ' w'/\ (∀b,A b->A2 b/\ ¬X b)/\ (∀b,(X b\/A b)->w'.heap[b]? =w.heap[b]?)/\Gr w w':=by
 have hold:∀b,(X b\/A b)->A2 b/\w'.heap[b]? =w.heap[b]? :=λb hb=>by
  have hlt:b<w.heap.size:=by
   rcases hb with h|h
   ·obtain⟨o,ho,_⟩:=hX.row b h;exact lt_of_heap ho
   ·exact St.lt hr b h
  exact h.old (Z:=Z.sub hr X hX) hlt λhM=>hb.elim hM.2.2 hM.2.1
 have hg:Gr w w':=h.gP (Z:=Z.sub hr X hX);refine⟨Rel.qA (λb hb=>St.lt h b hb.1) (h.mem.step (λb hb=>⟨⟨hb.1,hb.2.2⟩,hb.2.1⟩) (λ_ _=>rfl)) (hr.gP.trans hg) (λb hb hM=>?_) ((St.mobs h).Jg λb hb=>hb.1),
  λb hb=>⟨(hold b (.inr hb)).1,λhx=>hX.out b hx hb⟩,λb hb=>(hold b hb).2,hg⟩
 obtain⟨g1,g2⟩:=hr.old hb hM;obtain⟨g3,g4⟩:=hold b (.inr g1);exact⟨⟨g3,λhx=>by have:=hX.new b hx;omega⟩,g4.trans g2⟩
def DO:PV->Bool
 | .val _ _=>true
 | .agg l=>go l
 |_=>false
where go:List PV->Bool
 |[]=>true
 |a::r=>DO a&&go r
mutual
theorem TY:∀{p:PV} {cs:List Value},DO p=true->Am B w L p cs->Am B w L' p cs
 | .val e x,cs,_,h=>h
 | .agg l,cs,hv,h=>OD hv (show Am.go B w L l cs from h)
 | .tup _,_,hv,_=>by cases hv
 | .nils,_,hv,_=>by cases hv
 | .own _,_,hv,_=>by cases hv
 | .ptr _ _,_,hv,_=>by cases hv
 | .view _ _ _ _ _ _,_,hv,_=>by cases hv
 | .rptr _,_,hv,_=>by cases hv
 | .fn _ _,_,hv,_=>by cases hv
 | .cap _ _ _,_,hv,_=>by cases hv
 | .mp _ _,_,hv,_=>by cases hv
 | .bfn _ _,_,hv,_=>by cases hv
 | .cst _,_,hv,_=>by cases hv
 | .any,_,hv,_=>by cases hv
 | .gd _ _ _,_,hv,_=>by cases hv
 | .off,_,hv,_=>by cases hv
 | .undef,_,hv,_=>by cases hv
theorem OD:∀{l:List PV} {cs:List Value},DO.go l=true->Am.go B w L l cs->Am.go B w L' l cs
 |[],cs,_,h=>h
 |a::l,cs,hv,⟨c1,c2,e,h1,h2⟩=>by
  simp only[DO.go,uJ]at hv;exact⟨c1,c2,e,TY hv.1 h1,OD hv.2 h2⟩
end
theorem bJ(hr:Rel Z s σs A L σ w){i:Nat}{T:TypeId}{v:PV}(hi:Bd s.it i= .box T v)(hv:DO v=true):
  ∃b cells A',L[i]? =some (.box b cells T)/\Rel Z ((s.Hi i .dead).sub i .any) σs A' (L.set i .dead) σ w/\A' b/\Z.R b/\w.heap[b]? =some (.cells cells.toArray T (0,0))/\Am (λb=>A' b/\Z.R b) w [] v cells:=by
 have hm:=hr.mem;obtain⟨b,cells,h1,h2⟩:=hm.box hi;obtain⟨o,ho,h3,h4⟩:=(St.front hr (hr.Cx h1)).mobs;obtain⟨rfl,hb⟩:=ho;have hR:Z.R b:=by
  rcases wG b Z.w0.heap.size with hlt|hge
  ·exact Z.mod b (wB λhM=>(h3 b rfl).1 (hr.old hlt hM).1)
  ·exact Z.new b hge
 have hs:St (λk=>A k\/some b=some k) w [IB Z.R L s σs σ, .old Z.M Z.w0] ((L.map MD.Cx).eraseIdx i):=by
  refine⟨λk hk=>hk.elim (St.lt hr k) λe=>(h3 k e).2,λf hf=>f.step (St.facts hr f hf) (λ_ h=> .inl h) (λ_ _=>rfl) (.refl _),h4⟩
 have hs2:=Bi.Wj (hs.QR 1 0) (Qm (m':=MD.dead.Cx) (hr.Cx h1));have hm2:MemR (λk=>(A k\/some b=some k)/\Z.R k) w L s σs σ:=hs2.fact 0 rfl;have hf:Frz (λk=>(A k\/some b=some k)/\Z.R k) w L i .any:=⟨(λz E' v' c' h=>by rw[h1]at h;cases h),rfl,rfl⟩;refine⟨b,cells,λk=>A k\/some b=some k,h1,Rel.as hs2 (i:=1) rfl (hm2.subst hf) (by rw[xD]), .inr rfl,hR,hb,TY hv (Am.step (λb hb=>⟨.inl hb.1,hb.2⟩) (λ_ _=>rfl) (.refl L) h2)⟩
structure ItC where
 T:TypeId
 e:ET
 F:PV->Option (List e.T)
structure ItOk (P:Program) (gl:List (Nat×List Value)) (gf:Nat) (c:ItC):Prop where
 ent:Ent P gf
 ok:∀(m:Nat) (B:Reg) (w:World) (b:Nat) (v:PV) (cells:List Value) (xs:List c.e.T),(∀k,B k->k<w.heap.size)->B b->w.heap[b]? =some (.cells cells.toArray c.T (0,0))->Am B w [] v cells->GlOk gl B w->c.F v=some xs->
  qQ P m gf #[.pointer (some ⟨b,0,none⟩)] xs.length (λi V W v=>∀x,xs[i]? =some x->Dg V W [] (.val c.e x) v) B w
def YR:Code->Bool
 | .rangeFunc _ _ _ _=>false
 | .seq a b=>YR a&&YR b
 | .cond _ a b=>YR a&&YR b
 | .block _ a=>YR a
 | .loop a=>YR a
 | .scope a=>YR a
 |_=>true
def oF{R α:Type}(an:An)(body:(S->Option R)->α->S->Option R)(kn:S->Option R):List α->S->Option R
 |[],s=>kn s
 |x::xs,s=>body (Se an (oF an body kn xs)) x s
def YZ{R:Type}(k:S->Option R)(s:S):Option R:=match s.st with|sl::st=>k ⟨sl,s.it,st⟩|[]=>none
def Ag:List (Nat×ItC)->Nat->Option ItC|[],_=>none|(g,c)::r,f=>Bf (Nat.beq g f) (some c)<|Ag r f
noncomputable def AM{R:Type}(P:Program)(T:Tab)(inl:HW R)(n:Nat)(p:Nat)(assign body:Code)(an:An)(k:K R)(e:ET)(kn:S->Option R)(x:e.T)(s:S):Option R:=
 ex P T inl n assign an.r {n:=λs2=>ex P T inl n body an.l ⟨YZ kn,λid=>YZ (k.x id),YZ k.r⟩ s2,x:=λ_ _=>none,r:=λ_=>none} ⟨fH s.sl p (.val e x),s.it,s.sl::s.st⟩
noncomputable def kV{R:Type}(P:Program)(T:Tab)(inl:HW R)(n:Nat)(its:List (Nat×ItC))(g:Operand)(ps:Array Tmp)(assign body:Code)(an:An)(k:K R)(s:S):Option R:=
 match Bs s.sl g with
 | .fn gf caps=>match caps with
  |[.ptr i []]=>match ps.toList with
   |[p]=>match Bd s.it i with
    | .box T' v=>match Ag its gf with
     |some c=>Bf (Nat.beq T' c.T&&DO v&&Nat.blt p n) (Option.bind (c.F v) λxs=>Se an (oF an (AM P T inl n p assign body an k c.e) k.n xs) ((s.Hi i .dead).sub i .any)) none
     |none=>none
    |_=>none
   |_=>none
  |_=>none
 |_=>none
noncomputable def lJ{R:Type}(P:Program)(T:Tab)(inl:HW R)(n:Nat)(its:List (Nat×ItC)):Code->An->K R->S->Option R
 | .seq a b,an,k,s=>match YR a with
  |true=>ex P T inl n a an.l {k with n:=RJ an λs'=>lJ P T inl n its b an.r k s'} s
  |false=>lJ P T inl n its a an.l {k with n:=RJ an λs'=>ex P T inl n b an.r k s'} s
 | .block id a,an,k,s=>lJ P T inl n its a an.l {k with x:=λid' s'=>Bf (Nat.beq id' id) (k.n s')<|k.x id' s'} s
 | .rangeFunc g ps assign body,an,k,s=>kV P T inl n its g ps assign body an k s
 |c,an,k,s=>ex P T inl n c an k s
def mark(D:Nat):Deferred:={target:= .collected D,args:= #[]}
def fN:Option Nat->List Deferred|none=>[]|some D=>[mark D]
def W2(P:Program)(n:Nat)(c:Code)(Q:Exit->Env->World->Option Nat->Prop)(σ:Env)(w:World):Prop:=
 ∀(m:Nat) (a:Act),Fits [] n a σ->c.wpIn (wr none) m P (λe a' w'=>∃σ' D,Fits (fN D) n a' σ'/\Q e σ' w' D) a w
variable {R:Type} {r:R} {T:Tab} {inl:HW R}
def nD(Z:Fix)(σs:List Env)(k:K R)(r:R)(e:Exit)(σ':Env)(w':World)(D:Option Nat):Prop:=
 ∃s' A' L',qT k e s'=some r/\Rel Z s' σs A' L' σ' w'/\∀d,D=some d->w'.heap[d]? =some (.deferred (some []))/\ ¬A' d/\Z.w0.heap.size<=d
def kx(k:K R):Code->S->Option R| .ret=>k.r| .exit id=>k.x id|_=>λ_=>none
theorem YN{f:Nat}{c:ItC}:∀{its:List (Nat×ItC)},Ag its f=some c-> (f,c)∈its
 |[],h=>by simp[Ag]at h
 |(g,a)::its,h=>by
  simp only[Ag]at h;cases hb:Nat.beq g f with
  |true=>have:=Bc hb;subst this;rw[hb]at h;cases h;exact .head _
  |false=>rw[hb]at h;exact .tail _ (YN h)
theorem PO{k:S->Option R}(h:Se an k s=some r):∃lv co s',s.cn lv co=some s'/\k s'=some r:=by
 unfold Se at h;split at h
 ·split at h
  ·rename_i s2 hs2;exact⟨_,_,s2,hs2,h⟩
  ·cases h
 ·cases h
theorem iA{its:List (Nat×ItC)}{k:K R}(h:kV P T inl n its g ps assign body an k s=some r):
  ∃gf i p v c xs,Bs s.sl g= .fn gf [.ptr i []]/\ps.toList=[p]/\Bd s.it i= .box c.T v/\Ag its gf=some c/\DO v=true/\Nat.blt p n=true/\c.F v=some xs/\
   Se an (oF an (AM P T inl n p assign body an k c.e) k.n xs) ((s.Hi i .dead).sub i .any)=some r:=by
 unfold kV at h;split at h
 ·rename_i gf caps hg;split at h
  ·rename_i i;split at h
   ·rename_i p hps;split at h
    ·rename_i T' v hi;split at h
     ·rename_i c hc;obtain⟨hcond,h'⟩:=Aj h;simp only[uJ]at hcond;obtain⟨⟨hT',hpl⟩,hpn⟩:=hcond;obtain⟨xs,hF,h2⟩:=Go.Lv.bind_some h';exact⟨gf,i,p,v,c,xs,hg,hps,by rw[hi,Bc hT'],hc,hpl,hpn,hF,h2⟩
     ·cases h
    ·cases h
   ·cases h
  ·cases h
 ·cases h
theorem kM(Rm:P.follows .mixedOrders=true)(hT:Xt P T Z)(hI:Kl P T.gl inl){its:List (Nat×ItC)}(hits:∀p∈its,ItOk P T.gl p.1 p.2){k:K R}
  (h:kV P T inl n its g ps assign body an k s=some r) (hr:Rel Z s σs A L σ w):W2 P n (.rangeFunc g ps assign body) (nD Z σs k r) σ w:=by
 intro m a ha;obtain⟨gf,i,p,v,c,xs,hg,hps,hi,hc,hpl,hpn,hF,hrun⟩:=iA h;clear h;have hit:=hits _ (YN hc);have hg1:=cX (by rw[<-hg];exact Fw hr.mem.sl g (by rw[hg];rfl));obtain⟨us,hgv,v0,_,rfl,hp0,rfl⟩:=hg1;obtain⟨b,cells,A1,tU,hr1,hA1b,hRb,hcell,henc⟩:=bJ hr hi hpl;have hv0:v0= .pointer (some ⟨b,0,none⟩):=by
  obtain⟨md,b',e1,e2,e3⟩:=(show Am (λb=>A b/\Z.R b) w L (.ptr i []) [v0]from hp0);rw[tU]at e1;cases e1;cases e2;simpa [Ah]using e3
 subst hv0;have hB1:∀k,(A1 k/\Z.R k)->k<w.heap.size:=λk hk=>St.lt hr1 k hk.1;have hseq:=hit.ok (m-1) (λk=>A1 k/\Z.R k) w b v cells xs hB1 ⟨hA1b,hRb⟩ hcell henc
  (λq hq=>by rw[<-hT.2]at hq;obtain⟨g1,T1,fr,g2⟩:=hr1.bB hq;exact⟨lt_of_heap g2,g1,T1,fr,g2⟩) hF
 have hps':ps= #[p]:=by rw[<-yT (xs:=ps),hps]
 subst hps';have hrow2:∀(A:Reg) (W:World) (o o':Obj),¬A w.heap.size-> ¬A (w.heap.size+1)->W.heap[w.heap.size]? =some o->o.isCells=false->W.heap[w.heap.size+1]? =some o'->o'.isCells=false->Rows Z A W (λk=>k=w.heap.size\/k=w.heap.size+1):=λA W o o' h1 h2 h3 h4 h5 h6=>
  ⟨λk hk=>by rcases hk with rfl|rfl<;>assumption,λk hk=>by have:=hr.gP.le;rcases hk with rfl|rfl<;>omega,λk hk=>by rcases hk with rfl|rfl<;>exact⟨_,by assumption,by assumption⟩⟩
 refine kW (gf:=gf) (lb:= #[.pointer (some ⟨b,0,none⟩)]) (by rw[ha.eval];exact hgv) hit.ent hseq rfl
  (λi V W=>∃s A L,Se an (oF an (AM P T inl n p assign body an k c.e) k.n (xs.drop i)) s=some r/\Rel Z s σs A L σ W/\ (∀b,V b->A b/\Z.R b)/\ ¬A w.heap.size/\ ¬A (w.heap.size+1))
  (λc W=>∃s A L,kx k c s=some r/\Rel Z s σs A L σ W/\ ¬A w.heap.size/\ ¬A (w.heap.size+1))
  ?hI ?hIx ?rI ?kB ?hV ?h0 ?cJ ?hdone ?hstop
 case hI=>
  rintro i V X Y ⟨s',A',L',h1,h2,h3,h4,h5⟩ hX hk;refine⟨s',λb=>A' b\/ (X.heap.size<=b/\b<Y.heap.size),L',h1,h2.grow hk (λ_ h=> .inl h) (λ_ h=>h),λb hb=>?_,?_,?_⟩
  ·rcases hb with h|h
   ·exact⟨.inl (h3 b h).1,(h3 b h).2⟩
   ·exact⟨.inr h,Z.new b (yO h2.gP.le h.1)⟩
  ·rintro(h|h)
   ·exact h4 h
   ·omega
  ·rintro(h|h)
   ·exact h5 h
   ·omega
 case hIx=>
  rintro c X Y ⟨s',A',L',h1,h2,h3,h4⟩ hk;exact⟨s',A',L',h1,h2.grow hk (λ_ h=>h) (λ_ h=> .inl h),h3,h4⟩
 case rI=>
  rintro i V X rr rr' ⟨s',A',L',h1,h2,h3,h4,h5⟩ hX;exact⟨s',A',L',h1,h2.row h5 hX rfl,h3,h4,h5⟩
 case kB=>
  rintro c X rr rr' ⟨s',A',L',h1,h2,h3,h4⟩ hX;exact⟨s',A',L',h1,h2.row h4 hX rfl,h3,h4⟩
 case hV=>
  rintro i V W ⟨s',A',L',h1,h2,h3,h4,h5⟩ hV;exact h5 (h3 _ hV).1
 case h0=>
  intro W hk;refine⟨_,A1,_,hrun,hr1.grow hk (λ_ h=>h) (λ_ h=> .inl h),λb hb=>hb,λh=>?_,λh=>?_⟩
  ·have:=St.lt hr1 _ h;omega
  ·have:=St.lt hr1 _ h;omega
 case hdone=>
  rintro V W ⟨s',A',L',h1,h2,h3,h4,h5⟩ hD;rw[List.drop_length]at h1;obtain⟨lv,co,s2,hcn,h1⟩:=PO h1;have hX:Rows Z A' W (λk=>k=w.heap.size):=⟨λk hk=>by subst hk;exact h4,λk hk=>by subst hk;exact hr.gP.le,λk hk=>by subst hk;exact⟨_,hD,rfl⟩⟩;obtain⟨A2,L2,hr2⟩:=KJ (QN h2 hX) hcn;obtain⟨g1,g2,g3,g4⟩:=HQ h2 hX hr2;exact⟨σ,some w.heap.size,⟨ha.size,by simp[fN,mark,ha.defers],ha.get⟩,s2,_,L2,h1,g1,λd hd=>by cases hd;exact⟨hD,λh=>h.2 rfl,hr.gP.le⟩⟩
 case hstop=>
  rintro c W ⟨s',A',L',h1,h2,h3,h4⟩ hD;have key:∀e,qT k e s'=some r->∃σ' D,Fits (fN D) n {a with defers:={target:= .collected w.heap.size,args:= #[]}::a.defers} σ'/\nD Z σs k r e σ' W D:=λe he=>
   ⟨σ,some w.heap.size,⟨ha.size,by simp[fN,mark,ha.defers],ha.get⟩,s',A',L',he,h2,λd hd=>by cases hd;exact⟨hD,h3,hr.gP.le⟩⟩
  cases c<;>first
   |exact wpIn_ret (key .ret h1)
   |exact wpIn_exit (key (.exit _) h1)
   |cases h1
 case cJ=>
  rintro i V W v rr hi ⟨s',A',L',h1,h2,h3,h4,h5⟩ hE hl hD;have hX:=hrow2 A' W _ _ h4 h5 hD rfl hl rfl;have hin:=QN h2 hX;obtain⟨lv,co,s2,hcn,h1⟩:=PO h1;obtain⟨A2,L2,hr2⟩:=KJ hin hcn;obtain⟨x,hx⟩:∃x,xs[i]? =some x:=⟨_,uX hi⟩;have hdrop:xs.drop i=x::xs.drop (i+1):=by rw[yE hi];congr 1;rw[uX hi]at hx;exact xU hx
  rw[hdrop]at h1;have h1':AM P T inl n p assign body an k c.e (Se an (oF an (AM P T inl n p assign body an k c.e) k.n (xs.drop (i+1)))) x s2=some r:=h1;unfold AM at h1';have hlt:=lt_of_heap hl;have hA2:∀b,A' b->A2 b:=λb hb=>(hr2.old (Z:=Z.sub h2 _ hX) (St.lt h2 b hb) (λhM=>hM.2.1 hb)).1;have hval:Bw (λb=>A2 b/\ (Z.sub h2 _ hX).R b) W L2 (.val c.e x) v:=by
   refine(Dp (Dg.step (B:=V) (w:=W) (L:=[]) (λb hb=>⟨hA2 b (h3 b hb).1,(h3 b hb).2,λh=>?_⟩) (λb hb=>rfl) (by have:=Xs.append [] L2;rwa [wS]at this) (hE x hx))).2;rcases h with rfl|rfl
   ·exact h4 (h3 _ hb).1
   ·exact h5 (h3 _ hb).1
  have hr3:Rel (Z.sub h2 _ hX) ⟨fH s2.sl p (.val c.e x),s2.it,s2.sl::s2.st⟩ (σ::σs) A2 L2 (Hi σ p v) W:=
   Rel.as hr2 (i:=1) rfl ⟨hr2.mem.it,hr2.mem.sl.set (Cw.put rfl hval),hr2.mem.sl,hr2.mem.stk⟩ rfl
  have hfit:Fits [] n ({tmps:=((#[p]:Array Tmp).zip #[v]).foldl (λt (p,v)=>t.setIfInBounds p v) a.tmps,defers:=[]}:Act) (Hi σ p v):=by
   have hp:=ha.put hpn v;exact⟨by simpa [Act.put]using hp.size,rfl,by simpa [Act.put]using hp.get⟩
  refine vX (KP (Z:=Z.sub h2 _ hX) Rm ⟨hT.1,hT.2⟩ hI assign h1' hr3 (some (w.heap.size+1)) (m-1-1) [] _ hfit) ?_;rintro e a2 W2 ⟨σ2,hf2,s3,A3,L3,hk3,hr3'⟩;cases e with
  |normal=>
   have hk3':ex P T inl n body an.l ⟨YZ (Se an (oF an (AM P T inl n p assign body an k c.e) k.n (xs.drop (i+1)))),λid=>YZ (k.x id),YZ k.r⟩ s3=some r:=hk3;obtain⟨g1,g2,g3,g4⟩:=HQ h2 hX hr3';refine⟨λb hb=>g3 b (by rcases hb with h|h|h;exact .inl (.inl h);exact .inl (.inr h);exact .inr (h3 b h).1),g4,λr'=>?_⟩;have hl2:W2.heap[w.heap.size+1]? =some (.loop rr):=(g3 _ (.inl (.inr rfl))).trans hl;have hD2:W2.heap[w.heap.size]? =some (.deferred (some [])):=(g3 _ (.inl (.inl rfl))).trans hD;have hnl:¬(A3 (w.heap.size+1)/\ ¬(w.heap.size+1=w.heap.size\/w.heap.size+1=w.heap.size+1)):=λh=>h.2 (.inr rfl);have hnD:¬(A3 w.heap.size/\ ¬(w.heap.size=w.heap.size\/w.heap.size=w.heap.size+1)):=λh=>h.2 (.inl rfl);have hr4:=Rel.row (o':= .loop r') g1 hnl hl2 rfl;have hl3:(W2.putObj (w.heap.size+1) (.loop r')).heap[w.heap.size+1]? =some (.loop r'):=xK (lt_of_heap hl2);have hD3:(W2.putObj (w.heap.size+1) (.loop r')).heap[w.heap.size]? =some (.deferred (some [])):=(vR A7).trans hD2;have rE:=hrow2 (λb=>A3 b/\ ¬(b=w.heap.size\/b=w.heap.size+1)) _ _ _ hnD hnl hD3 rfl hl3 rfl;refine vX (KP (Z:=Z.sub hr4 _ rE) Rm ⟨hT.1,hT.2⟩ hI body hk3' (QN hr4 rE) (some (w.heap.size+1)) (m-1-1) [] a2 hf2) ?_;rintro e a5 W5 ⟨σ5,uI,s5,A5,L5,hk5,rJ⟩;have pop:∀(kk:S->Option R),YZ kk s5=some r->∃s6 A6,kk s6=some r/\Rel Z s6 σs A6 L5 σ W5/\ (∀b,A3 b/\ ¬(b=w.heap.size\/b=w.heap.size+1)->A6 b)/\ ¬A6 w.heap.size/\ ¬A6 (w.heap.size+1):=by
    intro kk hkk;unfold YZ at hkk;split at hkk
    ·rename_i sl st hst;have cI:=rJ.mem.stk;rw[hst]at cI;have tV:Rel (Z.sub hr4 _ rE) ⟨sl,s5.it,st⟩ σs A5 L5 σ W5:=Rel.as rJ (i:=1) rfl ⟨rJ.mem.it,cI.1,cI.2⟩ rfl;obtain⟨q1,q2,q3,q4⟩:=HQ hr4 rE tV;exact⟨_,_,hkk,q1,q2,λh=>h.2 (.inl rfl),λh=>h.2 (.inr rfl)⟩
    ·cases hkk
   obtain⟨_,_,q3,q4⟩:=HQ hr4 rE rJ;cases e with
   |normal=>
    obtain⟨s6,A6,p1,p2,p3,p4,p5⟩:=pop _ hk5;refine⟨λb hb=>q3 b ?_,q4,s6,A6,L5,p1,p2,λb hb=>⟨p3 b (g2 b (h3 b hb).1),(h3 b hb).2⟩,p4,p5⟩;rcases hb with h|h|h
    ·exact .inl (.inl h)
    ·exact .inl (.inr h)
    ·exact .inr (g2 b (h3 b h).1)
   |ret=>
    obtain⟨s6,A6,p1,p2,p3,p4,p5⟩:=pop _ hk5;exact⟨λb hb=>q3 b (.inl hb),q4,s6,A6,L5,p1,p2,p4,p5⟩
   |exit id=>
    obtain⟨s6,A6,p1,p2,p3,p4,p5⟩:=pop _ hk5;exact⟨λb hb=>q3 b (.inl hb),q4,s6,A6,L5,p1,p2,p4,p5⟩
   |goto t=>cases hk5
   |panic ch=>cases hk5
   |outgrown=>cases hk5
  |ret=>cases hk3
  |exit id=>cases hk3
  |goto t=>cases hk3
  |panic ch=>cases hk3
  |outgrown=>cases hk3
theorem nD.exit{e:Exit}{k k':K R}{σ':Env}{w':World}{D:Option Nat}(h:nD Z σs k r e σ' w' D)(he:∀s,qT k e s=some r->qT k' e s=some r):nD Z σs k' r e σ' w' D:=by
 obtain⟨s',A',L',h1,h2⟩:=h;exact⟨s',A',L',he _ h1,h2⟩
theorem nX(Rm:P.follows .mixedOrders=true)(hT:Xt P T Z)(hI:Kl P T.gl inl){its:List (Nat×ItC)}(hits:∀p∈its,ItOk P T.gl p.1 p.2):∀(c:Code) {an:An} {k:K R} {s:S} {A:Reg} {L:List MD} {σ:Env} {w:World},
  lJ P T inl n its c an k s=some r->Rel Z s σs A L σ w->W2 P n c (nD Z σs k r) σ w:=by
 have dflt:∀(c:Code) {an:An} {k:K R} {s:S} {A:Reg} {L:List MD} {σ:Env} {w:World},ex P T inl n c an k s=some r->Rel Z s σs A L σ w->W2 P n c (nD Z σs k r) σ w:=by
  intro c an k s A L σ w h hr m a ha;refine vX (KP Rm hT hI c h hr none m [] a ha) ?_;rintro e a' w' ⟨σ',hf,s',A',L',h1,h2⟩;exact⟨σ',none,hf,s',A',L',h1,h2,λd hd=>by cases hd⟩
 intro c
 induction c with
 |seq a b iha ihb=>
  intro an k s A L σ w h hr m act ha;simp only[lJ]at h;split at h
  ·refine zF (vX (KP Rm hT hI a h hr none m [] act ha) ?_);rintro e a' w' ⟨σ',hf,s',A',L',h1,hr'⟩;cases e with
   |normal=>
    have h2:RJ an (λs'=>lJ P T inl n its b an.r k s') s'=some r:=h1;unfold RJ at h2;split at h2
    ·split at h2
     ·rename_i s2 hs2;obtain⟨A2,L2,hr2⟩:=KJ hr' hs2;exact ihb h2 hr2 m a' hf
     ·cases h2
    ·exact ihb h2 hr' m a' hf
   |_=>exact⟨σ',none,hf,s',A',L',h1,hr',λd hd=>by cases hd⟩
  ·refine zF (vX (iha h hr m act ha) ?_);rintro e a' w' ⟨σ',D,hf,s',A',L',h1,hr',hD⟩;cases e with
   |normal=>
    have h2:RJ an (λs'=>ex P T inl n b an.r k s') s'=some r:=h1;have hX:Rows Z A' w' (λk=>D=some k):=⟨λk hk=>(hD k hk).2.1,λk hk=>(hD k hk).2.2,λk hk=>⟨_,(hD k hk).1,rfl⟩⟩;have fin:∀{s2:S} {A2:Reg} {L2:List MD},ex P T inl n b an.r k s2=some r->Rel (Z.sub hr' _ hX) s2 σs A2 L2 σ' w'->b.wpIn (wr none) m P (λe a' w'=>∃σ' D,Fits (fN D) n a' σ'/\nD Z σs k r e σ' w' D) a' w':=by
     intro s2 A2 L2 h3 hr2;refine vX (KP (Z:=Z.sub hr' _ hX) Rm ⟨hT.1,hT.2⟩ hI b h3 hr2 none m (fN D) a' hf) ?_;rintro e a'' w'' ⟨σ'',hf',s3,A3,L3,h4,hr3⟩;obtain⟨g1,g2,g3,g4⟩:=HQ hr' hX hr3;exact⟨σ'',D,hf',s3,_,L3,h4,g1,λd hd=>⟨(g3 d (.inl hd)).trans (hD d hd).1,λh=>h.2 hd,(hD d hd).2.2⟩⟩
    unfold RJ at h2;split at h2
    ·split at h2
     ·rename_i s2 hs2;obtain⟨A2,L2,hr2⟩:=KJ (QN hr' hX) hs2;exact fin h2 hr2
     ·cases h2
    ·exact fin h2 (QN hr' hX)
   |_=>exact⟨σ',D,hf,s',A',L',h1,hr',hD⟩
 |block id a iha=>
  intro an k s A L σ w h hr m act ha;refine wpIn_block (vX (iha (an:=an.l) (k:={k with x:=λid' s'=>Bf (Nat.beq id' id) (k.n s')<|k.x id' s'}) h hr m act ha) ?_);rintro e a' w' ⟨σ',D,hf,hq⟩;cases e with
  |exit id'=>
   simp only[Exit.inBlock];obtain⟨s',A',L',h1,hr'⟩:=hq;have h2:(Bf (Nat.beq id' id) (k.n s')<|k.x id' s')=some r:=h1;by_cases hid:id'=id
   ·rw[vP hid];subst hid;simp at h2;exact⟨σ',D,hf,s',A',L',h2,hr'⟩
   ·rw[vL hid];have hb:Nat.beq id' id=false:=by
     cases hb:Nat.beq id' id with
     |false=>rfl
     |true=>exact absurd (Bc hb) hid
    rw[hb]at h2;exact⟨σ',D,hf,s',A',L',h2,hr'⟩
  |_=>exact⟨σ',D,hf,hq⟩
 |rangeFunc g ps assign body _ _=>intro an k s A L σ w h hr;exact kM Rm hT hI hits h hr
 |_=>intro an k s A L σ w h hr;exact dflt _ (by simpa only[lJ]using h) hr
theorem PA{vs:List Value}(hle:Nat.ble vs.length fn.ntmps=true):Fits [] fn.ntmps {tmps:=vs.toArray++Array.replicate (fn.ntmps-vs.toArray.size) undef,defers:=[]} (BZ vs):=by
 have hle':vs.length<=fn.ntmps:=by simpa using hle
 refine⟨by simp;omega,rfl,λt=>?_⟩;simp only[BZ,vC,uS,yP,vI,vQ];by_cases ht:t<vs.length
 ·simp[ht]
 ·rw[vL ht,wC A7];by_cases h2:t-vs.length<fn.ntmps-vs.length
  ·simp[wM,h2]
  ·simp[wM,h2]
noncomputable def lU(P:Program)(T:Tab)(ans:List (Nat×An))(its:List (Nat×ItC))(f:Func)(an:An)(ps rs:List Sh)(x:Lg (Hj ps)):Option (Lg (Hj rs)):=
 match f.body,args ps x with
 |some c,some vs=>lJ P T (Mc P T 8 ans) f.ntmps its c an {n:=BO P rs f.results.toList,x:=λ_ _=>none,r:=BO P rs f.results.toList} ⟨Jc 0 vs,XH ps x,[]⟩
 |_,_=>none
theorem YP(Rm:P.follows .mixedOrders=true){f:Nat}{ans:List (Nat×An)}{its:List (Nat×ItC)}{ps rs:List Sh}{F:Lg (Hj ps)->Option (Lg (Hj rs))}(hf:P.funcs[f]? =some fn)(hE:Ent P f)(hT:Lt P T)(hA:∀p∈ans,Ent P p.1)
  (hits:∀p∈its,ItOk P T.gl p.1 p.2) (hle:Nat.ble ps.length fn.ntmps=true) (h:∀x,lU P T ans its fn an ps rs x=F x):ConOk P T.gl f ⟨ps,rs,F⟩:=by
 cases hc:fn.body with
 |none=>
  refine Oo (RUN:=λ_=>none) (fn:=fn) hE (λx y pvs hx hy=>?_) (λ_ _ _ _ _ _ _ _ _ _ _ h=>by cases h);rw[<-h x]at hy;unfold lU at hy;rw[hc]at hy;exact hy
 |some c=>
  refine Oo (T:=T) (fn:=fn) (RUN:=lJ P T (Mc P T 8 ans) fn.ntmps its c an {n:=BO P rs fn.results.toList,x:=λ_ _=>none,r:=BO P rs fn.results.toList}) hE (λx y pvs hx hy=>?_) ?_
  ·rw[<-h x]at hy;unfold lU at hy;rw[hc,hx]at hy;exact hy
  ·intro Z A L w s y vs Q hZ hr hl hy fin;refine(callsIn_wide (n:=4)).1 (callsIn_of_wp_marks hf hc trivial (vX (nX Rm ⟨hT,hZ⟩ (GD Rm hT hA 8) hits c hy hr 4 _ (PA (by rw[hl];exact hle))) ?_) rfl);rintro e a' w' ⟨σ',D,hf',s',A',L',h1,hr',hD⟩;have key:BO P rs fn.results.toList s'=some y->LeavesInM (wr none) 4 P fn a'.tmps Q a'.defers .returning w':=by
    intro h1;rw[hf'.defers];cases D with
    |none=>
     obtain⟨us,h2,h3⟩:=fin s' A' L' σ' w' h1 hr';exact⟨_,Ro A9 hf' h2,h3⟩
    |some d=>
     obtain⟨g1,g2,g3⟩:=hD d rfl;obtain⟨us,h2,h3⟩:=fin s' A' L' σ' _ h1 (hr'.row (o':= .deferred none) g2 g1 rfl);exact⟨A9, .inl ⟨d,_,rfl,run_takeDeferred g1,_,Ro A9 hf' h2,h3⟩⟩
   cases e with
   |normal=>exact key h1
   |ret=>exact key h1
   |exit id=>cases h1
   |goto l=>cases h1
   |panic c=>cases h1
   |outgrown=>cases h1
end Go.Rx
namespace Go.Rx
open Go Go.Lv Go.RowKit
variable{a:Act}{ops:Array Oper}{o:Oper}{v:Value}
variable {P:Program} {B:Reg} {w w':World} {L L':List MD} {s s':S} {σs σs':List Env} {σ σ':Env} {Z:Fix} {A A':Reg} {n:Nat}
variable {R:Type} {r:R} {T:Tab}
def EG:Exit->Option Nat| .normal=>some 0| .exit id=>some (id+2)| .ret=>some 1|_=>none
structure MemI (gl:List (Nat×List Value)) (V:Reg) (w:World) (s:S) (σ:Env):Prop where
 lt:∀b,V b->b<w.heap.size
 it:s.it=[]
 st:s.st=[]
 sl:Cj V w [] σ s.sl
 gl:GlOk gl V w
theorem GlOk.keep{gl:List (Nat×List Value)}{V V':Reg}(h:GlOk gl V w)(hV:∀b,V b->V' b)(hs:Same V w w')(hg:Gr w w'):GlOk gl V' w':=λp hp=>
 let⟨h1,h2,T,fr,h3⟩:=h p hp
 ⟨vE h1 hg.le,hV _ h2,T,fr,(hs _ h2).trans h3⟩
theorem MemI.keep{gl:List (Nat×List Value)}{V V':Reg}(h:MemI gl V w s σ)(hV:∀b,V b->V' b)(hl:∀b,V' b->b<w'.heap.size)(hs:Same V w w')(hg:Gr w w'):MemI gl V' w' s σ:=
 ⟨hl,h.it,h.st,h.sl.step hV hs (.refl []),h.gl.keep hV hs hg⟩
theorem MemI.YF{gl:List (Nat×List Value)}{V:Reg}(h:MemI gl V w s σ){sl:Slots}(hs:∀p∈sl,p∈s.sl):MemI gl V w ⟨sl,[],[]⟩ σ:=
 ⟨h.lt,rfl,rfl,λp hp=>h.sl p (hs p hp),h.gl⟩
def eV(gl:List (Nat×List Value))(V:Reg)(w:World)(h:GlOk gl V w):Fix where
 R b:=V b\/w.heap.size<=b
 M _:=False
 w0:=w
 new _ hb:= .inr hb
 mod _ h:=h.elim
 gl:=gl
 glok p hp:=let⟨h1,h2,h3⟩:=h p hp;⟨.inl h2,id,h1,h3⟩
theorem MemI.rel{gl:List (Nat×List Value)}{V:Reg}(h:MemI gl V w s σ):Rel (eV gl V w h.gl) s [] (λb=>b<w.heap.size) [] σ w:=by
 refine Rel.qA (λb hb=>hb) ⟨⟨by rw[h.it];rfl,λi a m h1=>by rw[h.it]at h1;simp at h1⟩,h.sl.step (λb hb=>⟨h.lt b hb, .inl hb⟩) (λ_ _=>rfl) (.refl []),?_⟩ (.refl _) (λb hb _=>⟨hb,rfl⟩) trivial;rw[h.st];trivial
def grown(V:Reg)(w w':World):Reg:=λb=>V b\/ (w.heap.size<=b/\b<w'.heap.size)
theorem MemI.back{gl:List (Nat×List Value)}{V:Reg}(h:MemI gl V w s σ){A':Reg}{L':List MD}(hr:Rel (eV gl V w h.gl) s' [] A' L' σ' w')(h1:s'.it=[]):
  KeepN (λ_=>True) w w'/\MemI gl (grown V w w') w' s' σ':=by
 have hk:KeepN (λ_=>True) w w':=⟨λb hb _=>(hr.old (Z:=eV gl V w h.gl) hb id).2,hr.gP (Z:=eV gl V w h.gl)⟩;have hL:L'=[]:=by
  have:=hr.mem.it.1;rw[h1]at this;exact vS this.symm
 subst hL;refine⟨hk,λb hb=>hb.elim (λh'=>vE (h.lt b h') hk.gr.le) And.right,h1,?_,hr.mem.sl.step (λb hb=>hb.2.elim .inl λh=> .inr ⟨h,St.lt hr b hb.1⟩) (λ_ _=>rfl) (.refl []),?_⟩
 ·have:=hr.mem.stk;cases hst:s'.st with
  |nil=>rfl
  |cons a l=>rw[hst]at this;exact this.elim
 ·exact h.gl.keep (λb hb=> .inl hb) (λb hb=>hk.same b (h.lt b hb) trivial) hk.gr
theorem jC{m:Nat}{next next':Act->World->Prop}{Y:Act->World->Prop}{Q:Exit->Act->World->Prop}{x:Result Next}(hn:∀a w,next a w->next' a w)
  (h:o.uponIn (wr none) m P a next (jS Y) x):o.uponIn (wr none) m P a next' Q x:=by
 cases x with
 |ok x w'=>
  cases x with
  |value v=>exact hn _ _ h
  |skip=>exact hn _ _ h
  |defer d=>exact hn _ _ h
  |enter f args=>
   refine⟨h.1,h.2.mono ?_⟩;intro e w'' hh;cases e with
   |returned v=>exact hn _ _ hh
   |panicked c=>exact absurd hh.1 A9
   |outgrown=>exact(XC hh).elim
  |row row args=>exact⟨h.1,h.2.mono λv w'' hh=>hn _ _ hh⟩
  |round l f t b c=>
   refine⟨h.1,h.2.mono ?_⟩;intro e w'' hh;cases e with
   |returned v=>exact hn _ _ hh
   |panicked c=>exact absurd hh.1 A9
   |outgrown=>exact(XC hh).elim
  |_=>exact h.elim
 |halt x w'=>
  cases x with
  |panic v=>exact absurd h.1 A9
  |_=>exact h.elim
theorem Vl{m:Nat}{ops:Array Oper}{Y:Act->World->Prop}{Q:Exit->Act->World->Prop}{l2:List Oper}(h2:∀a w,Y a w->wpListIn (wr none) m P ops Q l2 a w):∀{l1:List Oper} {a:Act} {w:World},
  wpListIn (wr none) m P ops (jS Y) l1 a w->wpListIn (wr none) m P ops Q (l1++l2) a w
 |[],a,w,h=>h2 a w h.2
 |o::l1,a,w,h=>by
  simp only[wpListIn,xA]at h⊢;split
  ·rename_i hw;rw[vP hw]at h;exact⟨h.1,jC (λa w h=>Vl h2 h) h.2⟩
  ·rename_i hw;rw[vL hw]at h;exact⟨h.1,Vl h2 h.2⟩
theorem iU{m:Nat}{Q:Exit->Act->World->Prop}{rest:List Oper}{d:Nat}(hg:o.guard=none)(hd:o.dst=some d)(hdn:Nat.blt d n=true)(hne:∀c,o.op≠ .defer c){l:Nat}
  (hx:(execOp (ev σ) o).run P w=(Instr.yield l #[v]).run P w) {RR:Ending->World->Prop} (hy:YieldAt (wr none) (m-1) P l #[v] w RR)
  (hR:∀e w',RR e w'->∃u,e= .returned u/\∀a',Fits [] n a' (Hi σ d u)->wpListIn (wr none) m P ops Q rest a' w') {a:Act} (ha:Fits [] n a σ):wpListIn (wr none) m P ops Q (o::rest) a w:=by
 obtain⟨fn,tmps,assign,body,hy1,hr⟩:=hy;simp only[wpListIn];have hw:Region.wanted o (yielded ops a.tmps)=true:=by simp only[Region.wanted,hg]
 rw[vP hw];refine⟨λ_ _=>trivial,?_⟩;rw[Oper.semAt_eq _ _ _ hne,ha.eval,hx,hy1];refine⟨(λh=>by simp[wr,Fence.wide]at h),hr.mono ?_⟩;intro e w' he;obtain⟨u,rfl,h⟩:=hR e w' he;exact h _ (by rw[hd];exact ha.put hdn u)
def kR(lv:List Nat)(co:List At)(q:Nat)(s:S):Option (Nat×S):=match s.cn lv co with|some s'=>some (q,s')|none=>none
def kC(lv:List Nat)(co:List At):K (Nat×S):=⟨kR lv co 0,λid=>kR lv co (id+2),kR lv co 1⟩
theorem FQ{lv:List Nat}{co:List At}{q q':Nat}(h:kR lv co q s=some (q',s')):q'=q/\s.cn lv co=some s':=by
 unfold kR at h;split at h
 ·rename_i s2 hs;cases h;exact⟨rfl,hs⟩
 ·cases h
theorem BB{inl:HW (Nat×S)}(Rm:P.follows .mixedOrders=true)(hT:Lt P T)(hI:Kl P T.gl inl){J:Reg->World->Prop}(hJ:∀V X Y,J V X->KeepN (λ_=>True) X Y->J (grown V X Y) Y)
  {c:Code} {an:An} {lv:List Nat} {co:List At} {q:Nat} (h:ex P T inl n c an (kC lv co) s=some (q,s')) (h1:s'.it=[]) {V:Reg} (hm:MemI T.gl V w s σ) (hj:J V w) {m:Nat} {a:Act} (ha:Fits [] n a σ):
  c.wpIn (wr none) m P (λe a' w'=>EG e=some q/\∃σ' V',Fits [] n a' σ'/\J V' w'/\MemI T.gl V' w' s' σ') a w:=by
 refine vX (KP (Z:=eV T.gl V w hm.gl) Rm ⟨hT,rfl⟩ hI c h hm.rel none m [] a ha) ?_;rintro e a' w' ⟨σ',hf,s2,A',L',h2,hr⟩;have key:EG e=some q/\s2.cn lv co=some s':=by
  cases e with
  |normal=>obtain⟨rfl,h3⟩:=FQ h2;exact⟨rfl,h3⟩
  |ret=>obtain⟨rfl,h3⟩:=FQ h2;exact⟨rfl,h3⟩
  |exit id=>obtain⟨rfl,h3⟩:=FQ h2;exact⟨rfl,h3⟩
  |goto l=>cases h2
  |panic c=>cases h2
  |outgrown=>cases h2
 obtain⟨h3,h4⟩:=key;obtain⟨A2,L2,hr2⟩:=KJ hr h4;obtain⟨g1,g2⟩:=hm.back hr2 h1;exact⟨h3,σ',_,hf,hJ _ _ _ hj g1,g2⟩
theorem EF{inl:HW (Nat×S)}(Rm:P.follows .mixedOrders=true)(hT:Lt P T)(hI:Kl P T.gl inl){J:Reg->World->Prop}(hJ:∀V X Y,J V X->KeepN (λ_=>True) X Y->J (grown V X Y) Y)
  {c d:Code} (an:An) (lv:List Nat) (co:List At) (h:ex P T inl n c an (kC lv co) s=some (0,s')) (h1:s'.it=[]) {V:Reg} (hm:MemI T.gl V w s σ) (hj:J V w) {m:Nat} {a:Act} (ha:Fits [] n a σ) {Q:Exit->Act->World->Prop}
  (hk:∀σ' V' w' a',Fits [] n a' σ'->J V' w'->MemI T.gl V' w' s' σ'->d.wpIn (wr none) m P Q a' w'):(Code.seq c d).wpIn (wr none) m P Q a w:=by
 refine zF (vX (BB Rm hT hI hJ h h1 hm hj ha) ?_);rintro e a' w' ⟨he,σ',V',h2,h3,h4⟩;cases e with
 |normal=>exact hk σ' V' w' a' h2 h3 h4
 |ret=>simp[EG]at he
 |exit id=>simp[EG]at he
 |goto l=>cases he
 |panic c=>cases he
 |outgrown=>cases he
theorem UZ{inl:HW (Nat×S)}(hT:Lt P T)(hI:Kl P T.gl inl){J:Reg->World->Prop}(hJ:∀V X Y,J V X->KeepN (λ_=>True) X Y->J (grown V X Y) Y){l l2:List Oper}(lv:List Nat)(hd:CU l=true)
  (h:FT P T inl n ops l s (kR lv [] 0)=some (0,s')) (h1:s'.it=[]) {V:Reg} (hm:MemI T.gl V w s σ) (hj:J V w) {m:Nat} {a:Act} (ha:Fits [] n a σ) {Q:Exit->Act->World->Prop}
  (hk:∀σ' V' w' a',Fits [] n a' σ'->J V' w'->MemI T.gl V' w' s' σ'->wpListIn (wr none) m P ops Q l2 a' w'):wpListIn (wr none) m P ops Q (l++l2) a w:=by
 have h2:=YH (Z:=eV T.gl V w hm.gl) (ops:=ops) ⟨hT,rfl⟩ hI hm.rel h;have h3:WL P n ops l (λσ' w'=>∃V',J V' w'/\MemI T.gl V' w' s' σ') σ w:=by
  refine Oy h2 ?_;rintro σ' w' ⟨s2,A',L',g1,hr⟩;obtain⟨_,g2⟩:=FQ g1;obtain⟨A2,L2,hr2⟩:=KJ hr g2;obtain⟨g3,g4⟩:=hm.back hr2 h1;exact⟨_,hJ _ _ _ hj g3,g4⟩
 exact Vl (Y:=λa' w'=>∃σ',Fits [] n a' σ'/\∃V',J V' w'/\MemI T.gl V' w' s' σ') (λa' w' ⟨σ',g1,V',g2,g3⟩=>hk σ' V' w' a' g1 g2 g3) (IH (NP hd) (h3 [] a ha))
theorem MemI.set{gl:List (Nat×List Value)}{V:Reg}(h:MemI gl V w s σ){d:Nat}{p:PV}{v:Value}(hv:p.isV=true)(hp:Bw V w [] p v):MemI gl V w ⟨fH s.sl d p,[],[]⟩ (Hi σ d v):=
 ⟨h.lt,rfl,rfl,h.sl.set (.put hv hp),h.gl⟩
theorem MemI.round{gl:List (Nat×List Value)}{V:Reg}(h:MemI gl V w s σ)(hg:Gr w w')(hs:∀b,V b->w'.heap[b]? =w.heap[b]?):MemI gl V w' s σ:=
 h.keep (λ_ h=>h) (λb hb=>vE (h.lt b hb) hg.le) hs hg
theorem MemI.val{gl:List (Nat×List Value)}{V:Reg}(h:MemI gl V w s σ){t:Nat}{p:PV}(hp:(t,p)∈s.sl)(hv:p.isV=true):Bw V w [] p (σ t):=(Cw.iff hv).1 (h.sl _ hp)
theorem YX{g x:Operand}{ts:Array TypeId}(ho:o.op= .call ⟨.value g, #[x],ts⟩) {l:Nat} (hg:ev σ g= .func (.yield l) #[] #[]) (hx:ev σ x=v):
  (execOp (ev σ) o).run P w=(Instr.yield l #[v]).run P w:=by
 obtain⟨d,op,ty,pos,after,gd⟩:=o;simp only at ho;subst ho;simp[execOp,resolve,invoke,hg,hx,go_sem]
theorem fU{F:Fence}{n:Nat}{P:Program}{Q:Exit->Act->World->Prop}{w:World}{c:Code}(m:Nat)(I:Nat->Act->World->Prop)(h0:∀a w,¬I 0 a w)
  (hs:∀q a w,I (q+1) a w->c.wpIn F n P (Exit.then (I q) Q) a w) (h:I m a w):(Code.loop c).wpIn F n P Q a w:=by
 refine wpIn_loop_rounds m ?_
 induction m generalizing a w with
 |zero=>exact absurd h (h0 a w)
 |succ m ih=>
  rw[roundsIn_succ];refine vX (hs m a w h) λe a' w' hh=>?_;cases e<;>first|exact ih hh|exact hh
def cA:Code->Code| .seq a _=>a| .cond _ a _=>a| .block _ a=>a| .loop a=>a|c=>c
def cB:Code->Code| .seq _ b=>b| .cond _ _ b=>b|c=>c
def cO:Code->List Oper| .region _ ops _=>ops.toList|_=>[]
def fB(f:Func):Code:=match f.body with|some c=>c|none=> .skip
def rN:List Oper->Nat->Oper
 |[],_=>⟨none, .move (.tmp 0),0, "", #[],none⟩
 |o::_,0=>o
 |_::l,q+1=>rN l q
end Go.Rx
