/- A part of a proof (see the text that ends in Proof). No conditions. -/
import Derived.Test.YtmnpghdjdepelaaGreatDoorPyBA
import Derived.MapKept
import Derived.ProofKit
import Derived.LaidMore
import Derived.DataReads
import Derived.RangeFuncNested
import Derived.RangeFuncLeaves
import Derived.LoopIn
set_option linter.unusedVariables false
set_option linter.unusedSimpArgs false
namespace Go.Rx
open Go Go.Lv
variable{a x:Operand}{m p:PV}{v:Value}
variable {P:Program} {B:Reg} {w w':World} {L L':List MD} {s:S} {σs:List Env} {σ:Env} {Z:Fix} {A A':Reg} {n:Nat} {ops:Array Oper} {rest:List Oper} {K:Env->World->Prop}
variable {R:Type} {k:S->Option R} {r:R} {d:Option Nat} {ty:TypeId} {pos:String} {after:Array Edge}
structure Frz (B:Reg) (w:World) (L:List MD) (i:Nat) (m:PV):Prop where
 enc:∀z E v c,L[i]? =some (.own z E v c)->Aj B w (L.set i .dead) m [v]
 isA:m.isA=false
 isV:m.isV=true
theorem SX{i:Nat}(hm:m.isA=false):(subst i m p).isA=p.isA:=by
 cases p<;>try rfl
 ·rename_i j;simp only[subst];cases hb:Nat.beq i j with
  |true=>exact hm
  |false=>rfl
 ·rename_i j q;simp only[subst];cases hb:Nat.beq i j<;>rfl
 ·rename_i o j q e lo n;simp only[subst];cases hb:Nat.beq i j<;>rfl
theorem Yo{i j:Nat}(h:Nat.beq i j=false):(L.set i .dead)[j]? =L[j]? :=by
 rw[List.getElem?_set_ne];intro e;subst e;simp at h
mutual
theorem Rz{i:Nat}{m:PV}(hf:Frz B w L i m):∀{p:PV} {cs:List Value},Aj B w L p cs->Aj B w (L.set i .dead) (subst i m p) cs
 | .val _ x,cs,h=>h
 | .agg q,cs,h=>MO hf (show Aj.go B w L q cs from h)
 | .tup _,_,h=>h.elim
 | .nils,cs,h=>h
 | .own j,cs,⟨z,E,v,c,h1,h2⟩=>by
  simp only[subst];cases hb:Nat.beq i j with
  |true=>
   have:=Bc hb;subst this;rw[h2];exact hf.enc _ _ _ _ h1
  |false=>exact⟨z,E,v,c,by rw[Yo hb];exact h1,h2⟩
 | .ptr j q,cs,⟨md,b,h1,h2,h3⟩=>by
  simp only[subst];cases hb:Nat.beq i j with
  |true=>exact⟨_,h3,rfl⟩
  |false=>exact⟨md,b,by rw[Yo hb];exact h1,h2,h3⟩
 | .view o j q e lo n,cs,⟨md,v,h1,h2,h3⟩=>by
  simp only[subst];cases hb:Nat.beq i j with
  |true=>
   obtain⟨_,_,⟨pt,cap,e',_⟩,_⟩:=h3;exact⟨v,h2,by rw[e'];rfl⟩
  |false=>exact⟨md,v,by rw[Yo hb];exact h1,h2,h3⟩
 | .rptr v,cs,⟨pv,c0,h1,h2,h3⟩=>by
  exact⟨pv,c0,h1,h2,Rz hf h3⟩
 | .fn f caps,cs,⟨vs,h1,h2⟩=>⟨vs,h1,Od hf h2⟩
 | .cap _ _ _,cs,h=>h
 | .bfn f fs,cs,⟨vs,h1,h2⟩=>⟨vs,h1,Od hf h2⟩
 | .mp ks l,cs,⟨r,es,n,h1,h2,h3,h4,h5⟩=>⟨r,es,n,h1,h2,h3,h4,Od hf h5⟩
 | .cst v,cs,h=>h
 | .any,cs,h=>h
 | .gd _ _ _,_,h=>h.elim
 | .off,_,h=>h.elim
 | .undef,_,h=>h.elim
theorem MO{i:Nat}{m:PV}(hf:Frz B w L i m):∀{q:List PV} {cs:List Value},Aj.go B w L q cs->Aj.go B w (L.set i .dead) (subst.go i m q) cs
 |[],cs,h=>h
 |a::q,cs,⟨c1,c2,e',h1,h2⟩=>⟨c1,c2,e',Rz hf h1,MO hf h2⟩
theorem Od{i:Nat}{m:PV}(hf:Frz B w L i m):∀{q:List PV} {vs:List Value},Bs B w L q vs->Bs B w (L.set i .dead) (subst.go i m q) vs
 |[],vs,h=>h
 |a::q,vs,⟨v,vs',e',h1,h2⟩=>⟨v,vs',e',by rw[SX hf.isA];exact h1.mono λc h=>Rz hf h,Od hf h2⟩
end
theorem ZB{i:Nat}(hf:Frz B w L i m)(h:Cz B w L p v):Cz B w (L.set i .dead) (subst i m p) v:=by
 unfold Cz;rw[SX hf.isA];exact bS.mono (λc h=>Rz hf h) h
theorem RD{i:Nat}(hf:Frz B w L i m)(h:Br B w L p v):Br B w (L.set i .dead) (subst i m p) v:=by
 cases hp:p.WC with
 |true=>exact(Df (ZB hf ((To hp).1 h))).2
 |false=>
  cases p
  case tup q=>obtain⟨vs,h1,h2⟩:=h;exact⟨vs,h1,Od hf h2⟩
  case undef=>exact(show False from h).elim
  case off=>exact(show False from h).elim
  case gd=>exact(show False from h).elim
  all_goals cases hp
theorem YH{i:Nat}(hf:Frz B w L i m){t:Nat}(h:Cr B w L σ t p):Cr B w (L.set i .dead) σ t (subst i m p):=by
 cases hv:p.isV with
 |true=>
  have h1:=RD hf ((Cr.iff hv).1 h);have h2:(subst i m p).isV=true:=by
   cases p<;>first|rfl|cases hv|skip
   ·rename_i j;simp only[subst];cases Nat.beq i j;rfl;exact hf.isV
   ·rename_i j q;simp only[subst];cases Nat.beq i j<;>rfl
   ·rename_i o j q e lo n;simp only[subst];cases Nat.beq i j<;>rfl
  exact(Cr.iff h2).2 h1
 |false=>
  rcases Gu hv with rfl|rfl|⟨j,u,q,rfl⟩
  ·exact trivial
  ·exact h
  ·obtain⟨b,h1,h2,h3⟩:=h;exact⟨b,h1,λe=>RD hf (h2 e),h3⟩
theorem EV{i:Nat}(hf:Frz B w L i m){sl:Slots}(h:Cf B w L σ sl):Cf B w (L.set i .dead) σ (cY i m sl):=by
 intro p hp;obtain⟨q,hq,rfl⟩:=List.mem_map.1 hp;exact YH hf (h q hq)
theorem FG{i:Nat}{m:PV}(hf:Frz B w L i m):∀{σs:List Env} {st:List Slots},Tj B w L σs st->Tj B w (L.set i .dead) σs (st.map (cY i m))
 |[],[],h=>h
 |_::_,_::_,⟨h1,h2⟩=>⟨EV hf h1,FG hf h2⟩
theorem ZH{i:Nat}(hf:Frz B w L i m){a:Item}{md:MD}(h:Ht B w L a md):Ht B w (L.set i .dead) (cE i m a) md:=by
 cases a<;>cases md<;>first
  |exact h
  |exact⟨h.1,Rz hf h.2⟩
theorem MemR.subst(hm:MemR B w L s σs σ){i:Nat}(hf:Frz B w L i m):MemR B w (L.set i .dead) ((s.Fy i .dead).sub i m) σs σ:=by
 refine⟨⟨?_,?_⟩,EV hf hm.sl,FG hf hm.stk⟩
 ·simp[S.sub,S.Fy,Zn,hm.it.1]
 ·intro j a md g1 g2;simp only[S.sub,S.Fy,List.getElem?_map,uN]at g1;obtain⟨a0,g3,rfl⟩:=g1;rcases Zm g3 with⟨rfl,rfl⟩|⟨g4,g5⟩
  ·trivial
  ·rw[List.getElem?_set_ne (vN g4)]at g2;exact ZH hf (hm.it.2 j a0 md g5 g2)
theorem CA(hr:Rel Z s σs A L σ w){i:Nat}{s':S}(h:s.freeze i=some s'):∃A',Rel Z s' σs A' (L.set i .dead) σ w/\∃E e l,Bd s.it i= .arr E e l/\s'=(s.Fy i .dead).sub i (.val (.list e) l):=by
 unfold S.freeze at h;split at h
 ·rename_i E e l hi;cases h;have hm:=hr.mem;obtain⟨v,cs,h1,h2⟩:=hm.arr hi;have hR:∀b,¬A b->Z.R b:=λb hb=>by
   rcases uS b Z.w0.heap.size with hlt|hge
   ·have hold:=(hr.fact 1 (f:= .old Z.M Z.w0) rfl).2 b hlt;exact Z.mod b (uP λhM=>hb (hold hM).1)
   ·exact Z.new b hge
  obtain⟨A',hA,hs'⟩:=St.freeze hr (hr.Cs h1) rfl Z.R hR;have hs2:=Bg.Ui (hs'.PT 1 0) (Nx (m':=MD.dead.Cs) (hr.Cs h1));have hm2:MemR (λb=>A' b/\Z.R b) w L s σs σ:=hs2.fact 1 rfl;have hrd:Rd (λb=>A' b/\Z.R b) w e.size v cs:=hs2.fact 0 (f:= .rd Z.R e.size v cs) rfl;have hall:=h2.mono (g:=Af (λb=>A' b/\Z.R b) w e) λx c h=>Af.step (λb hb=>⟨hA b hb.1,hb.2⟩) (λ_ _=>rfl) h;have hf:Frz (λb=>A' b/\Z.R b) w L i (.val (.list e) l):=⟨λz E' v' c' h=>by rw[h1]at h;cases h;exact⟨v,cs,rfl,hrd,hall⟩,rfl,rfl⟩;exact⟨A',Rel.as hs2 (i:=2) rfl (hm2.subst hf) (by rw[vM]),E,e,l,hi,rfl⟩
 ·cases h
theorem Fa:∀{is:List Nat} {s s':S} {A:Reg} {L:List MD},Rel Z s σs A L σ w->s.Jp is=some s'->∃A' L',Rel Z s' σs A' L' σ w/\ (is=[]->s'=s/\A'=A/\L'=L)
 |[],s,s',A,L,hr,h=>by simp only[S.Jp,tO]at h;subst h;exact⟨A,L,hr,λ_=>⟨rfl,rfl,rfl⟩⟩
 |i::is,s,s',A,L,hr,h=>by
  simp only[S.Jp]at h;split at h
  ·obtain⟨A',L',h1,_⟩:=Fa hr h;exact⟨A',L',h1,λe=>by cases e⟩
  ·cases h
  ·split at h
   ·rename_i s1 h1;obtain⟨A1,h2,_⟩:=CA hr h1;obtain⟨A',L',h3,_⟩:=Fa h2 h;exact⟨A',L',h3,λe=>by cases e⟩
   ·cases h
theorem TR(h:LH p=true):p.WC=true:=by cases p<;>first|rfl|cases h
theorem Mn{B:Reg}(hm:Cf B w L σ s.sl)(h:(Bo s.sl x).WC=true):Cz B w L (Bo s.sl x) (ev σ x):=(To h).1 (Et hm x (PV.TB h))
theorem YZ{s':S}(hr:Rel Z s σs A L σ w)(h:RE s a x=some s'):∃A' L',Rel Z s' σs A' L' σ w:=by
 unfold RE at h;split at h
 ·split at h
  ·obtain⟨A',L',h1,_⟩:=Fa hr h;exact⟨A',L',h1⟩
  ·cases h;exact⟨A,L,hr⟩
 ·cases h
theorem BJ.step{B B':Reg}{w w':World}(hb:∀b,B b->B' b)(hs:Same B w w')(hl:Vo L L'){a:Item}{cs:List Value}(h:BJ B w L a cs):BJ B' w' L' a cs:=by
 cases a with
 |dead=>exact h
 |box T v=>exact Aj.step hb hs hl h
 |arr E e l=>exact Az.mono (λx c h=>Af.step hb hs h) h
def MK(R:Reg)(L:List MD)(a:Item)(cs:List Value):Fact where
 holds A w:=BJ (λb=>A b/\R b) w L a cs
 step h ha hs _:=h.step (λb ⟨h1,h2⟩=>⟨ha b h1,h2⟩) (λb ⟨h1,_⟩=>hs b h1) (.refl L)
theorem iH{t:TypeId}(hr:Rel Z s σs A L σ w)(h:UQ P s t a x k=some r):
  Ia P n ops ⟨none, .store t a x,ty,pos,after,none⟩ Z s σs k r False A L σ w:=by
 unfold UQ at h;split at h
 ·cases h
 ·rename_i s1 hs1;obtain⟨A1,L1,hr1⟩:=YZ hr hs1;have hm:=hr1.mem;split at h
  ·rename_i i p ha;split at h
   ·rename_i inf Fj;obtain⟨hb,h⟩:=Ae h;simp only[tK]at hb;obtain⟨md,b,h1,h2,h3⟩:=Hn (Bf hm.sl ha rfl);obtain⟨ns,h4,h5⟩:=Nk hr1 (Mn hm.sl (TR hb.1.1));have hne:Bd s1.it i≠ .dead:=by intro e;rw[e]at h;simp[LC]at h
    obtain⟨h6,h7⟩:=hm.root h1 hne;obtain⟨a',hk,h8,h9,h10⟩:=aW h5 h h6;have hlen:=h5.len;have hz:=Bc hb.1.2;have hz0:0<inf.size:=by simpa [Nat.blt_eq]using hb.2
    have sN:=St.FD (f:=MK Z.R L1 a' (Ao md.cells (Ad p) ns)) hr1 h9;refine fF sN h1 h2 ⟨inf,Fj,rfl⟩ h3 rfl h4 (hlen.trans hz.symm) (List.all_eq_true.2 (h5.one hr1.Zx)) (by rw[hz,<-hlen];exact h8) hz0 (λw' md' hs' hmd=>?_);have h11:BJ (λb=>A1 b/\Z.R b) w' L1 a' (Ao md.cells (Ad p) ns):=hs'.fact 0 rfl;have hs2:=hs'.IW
    revert h7 h10
    cases hi:Bd s1.it i with
    |dead=>exact absurd hi hne
    |box T v0=>
     rintro⟨b0,c0,rfl⟩ h10;simp only[Hj]at hmd;subst hmd;have key:=Vo.box (cs':=Ao (MD.box b0 c0 T).cells (Ad p) ns) h1;refine⟨_,A1,_,hk,Rel.change hs2 h1 key ?_,λh=>h.elim⟩;cases a' with
     |box T' v'=>simp only[sameKind]at h10;subst h10;exact⟨rfl,Aj.step (λ_ h=>h) (λ_ _=>rfl) key h11⟩
     |dead=>exact h11.elim
     |arr _ _ _=>exact h10.elim
    |arr E e l=>
     rintro⟨v0,c0,rfl⟩ h10;simp only[Hj]at hmd;subst hmd;have key:=Vo.own (cs':=Ao (MD.own e.size E v0 c0).cells (Ad p) ns) h1;refine⟨_,A1,_,hk,Rel.change hs2 h1 key ?_,λh=>h.elim⟩;cases a' with
     |arr E' e' l'=>obtain⟨rfl,rfl⟩:=h10;exact⟨rfl,rfl,h11⟩
     |dead=>exact h11.elim
     |box _ _=>exact h10.elim
   ·cases h
  ·cases h
end Go.Rx
namespace Go.Rx
open Go Go.Lv
variable{x:Operand}{p:PV}{v:Value}
variable {P:Program} {B:Reg} {w w':World} {L L':List MD} {s:S} {σs:List Env} {σ:Env} {Z:Fix} {A A':Reg} {n:Nat} {ops:Array Oper} {rest:List Oper} {K:Env->World->Prop}
variable {R:Type} {k:S->Option R} {r:R} {d:Option Nat} {ty:TypeId} {pos:String} {after:Array Edge}
theorem Oe{t:TypeId}(h:zeroOf P t=some p):∃z,(∃i,P.info? t=some i/\i.zero=some z)/\∀(B:Reg) (w:World) (L:List MD),Aj B w L p z.cells.toList:=by
 unfold zeroOf at h;split at h
 ·rename_i i hi;split at h
  ·rename_i z hz;exact⟨z,⟨i,hi,hz⟩,λB w L=>BS h⟩
  ·cases h
 ·cases h
theorem cP{md:MD}{b:Nat}(hb:md.base=some b){B:Reg}:Br B w (L++[md]) (.ptr L.length []) (.pointer (some ⟨b,0,none⟩)):=⟨md,b,A9,hb,rfl⟩
theorem DT{z:Nat}{E:TypeId}{c:List Value}{B:Reg}:Br B w (L++[.own z E v c]) (.own L.length) v:=⟨z,E,v,c,A9,rfl⟩
theorem Rel.len(hr:Rel Z s σs A L σ w):s.it.length=L.length:=hr.mem.it.1
theorem Rel.lt(hr:Rel Z s σs A L σ w):∀b,A b->b<w.heap.size:=St.lt hr
def iM(A0:Reg)(w0:World):Fact where
 holds A w:=(∀b,A0 b->A b)/\Same A0 w0 w
 step h ha hs _:=⟨λb hb=>ha b (h.1 b hb),λb hb=>(hs b (h.1 b hb)).trans (h.2 b hb)⟩
theorem Rel.same(hr:Rel Z s σs A L σ w):St A w [iM A w,GH Z.R L s σs σ, .old Z.M Z.w0] (L.map MD.Cs):=St.FD (f:=iM A w) hr ⟨λ_ h=>h,λ_ _=>rfl⟩
theorem Sn{w':World}{A':Reg}{a:Item}{md:MD}{dn:Nat}{G:Prop}(hr:Rel Z s σs A L σ w)(hs:St A' w' [iM A w,GH Z.R L s σs σ, .old Z.M Z.w0] (md.Cs::L.map MD.Cs))
  (ha:Ht (λb=>A' b/\Z.R b) w' (L++[md]) a md) (hv:p.isV=true) (hp:∀B,Br B w' (L++[md]) p v) (hk:k ((s.add a).Cg (some dn) p)=some r):
  RW Z σs k r G A L s.it w (Fy σ dn v) w':=by
 obtain⟨h1,h2⟩:(∀b,A b->A' b)/\Same A w w':=hs.fact 0 rfl;have hr':=Rel.push hs.IW ha;exact⟨_,A',L++[md],hk,hr'.Cg (d:=some dn) hv (hp _),λ_=>⟨h1,h2,⟨[md],rfl⟩,⟨[a],rfl⟩⟩⟩
theorem Oq{o:Op}{dn:Nat}(h:Di n ⟨some dn,o,ty,pos,after,none⟩=true):Nat.blt dn n=true:=h
theorem gB{t:TypeId}{v:PV}{dn:Nat}{G:Prop}(hr:Rel Z s σs A L σ w)(hd:Di n ⟨some dn, .alloc t,ty,pos,after,none⟩=true)(hz:zeroOf P t=some v)
  (hk:k ((s.add (.box t v)).Cg (some dn) (.ptr s.new []))=some r):Ia P n ops ⟨some dn, .alloc t,ty,pos,after,none⟩ Z s σs k r G A L σ w:=by
 obtain⟨z,h1,h2⟩:=Oe hz;refine WL.alloc (cells:=z.cells.toList) hr.same (Oq hd) h1 A9 (λb w' hs'=>WL.nil ?_);refine Sn (a:= .box t v) (md:= .box b z.cells.toList t) hr hs' ⟨rfl,h2 _ _ _⟩ rfl (λB=>?_) hk;rw[S.new,hr.len];exact cP rfl
theorem mZ{t:TypeId}{dn:Nat}{G:Prop}(hr:Rel Z s σs A L σ w)(hd:Di n ⟨some dn, .box t x,ty,pos,after,none⟩=true)(hx:LH (Bo s.sl x)=true)
  (hk:k ((s.add (.box t (Bo s.sl x))).Cg (some dn) (.ptr s.new []))=some r):Ia P n ops ⟨some dn, .box t x,ty,pos,after,none⟩ Z s σs k r G A L σ w:=by
 obtain⟨cs,h1,h2⟩:=Nk hr (Mn hr.mem.sl (TR hx));have hF:=St.FD (f:=MK Z.R L (.box t (Bo s.sl x)) cs) hr.same h2;refine WL.box hF (Oq hd) rfl h1 (λb w' hs'=>WL.nil ?_);have h3:BJ (λb=>A b/\Z.R b) w' L (.box t (Bo s.sl x)) cs:=hs'.fact 0 rfl;refine Sn (a:= .box t (Bo s.sl x)) (md:= .box b cs t) hr hs'.IW ⟨rfl,Aj.step (λ_ h=>h) (λ_ _=>rfl) (Vo.append _ _) h3⟩ rfl (λB=>?_) hk;rw[S.new,hr.len];exact cP rfl
theorem UH{a t e:TypeId}{l:List UInt8}{dn:Nat}{G:Prop}(hr:Rel Z s σs A L σ w)(hd:Di n ⟨some dn, .convert a t x,ty,pos,after,none⟩=true)(ha:P.underlying a=some .string)(ht:P.underlying t=some (.slice e))
  (he:P.underlying e=some (.int .u8)) (hx:Bo s.sl x= .val .str l) (hk:k ((s.add (.arr e (.int .u8) l)).Cg (some dn) (.own s.new))=some r):Ia P n ops ⟨some dn, .convert a t x,ty,pos,after,none⟩ Z s σs k r G A L σ w:=by
 refine WL.sA ha ht he hr.same (Oq hd) (Fc hr.mem.sl hx) (λp m c w' hs'=>WL.nil ?_);refine Sn (a:= .arr e (.int .u8) l) (md:= .own 1 e (.slice p m c) (Lm l)) hr hs' ⟨rfl,rfl,Ng⟩ rfl (λB=>?_) hk;rw[S.new,hr.len];exact DT
where Ng:∀{B:Reg} {w:World} {l:List UInt8},Az (Af B w (.int .u8)) l (Lm l)
 |_,_,[]=>rfl
 |_,_,x::l=>⟨[iv x],Lm l,rfl,rfl,Ng⟩
theorem jO{t e E:TypeId}{i:Nat}{y:UInt8}{ys:List UInt8}{dn:Nat}{G:Prop}(hr:Rel Z s σs A L σ w)(hd:Di n ⟨some dn, .convert t t x,ty,pos,after,none⟩=true)(ht:P.underlying t=some (.slice e))
  (he:P.underlying e=some (.int .u8)) (hx:Bo s.sl x= .own i) (hi:Bd s.it i= .arr E (.int .u8) (y::ys)) (hk:k (s.Cg (some dn) (.own i))=some r):Ia P n ops ⟨some dn, .convert t t x,ty,pos,after,none⟩ Z s σs k r G A L σ w:=by
 obtain⟨v,cs,h1,h2⟩:=hr.mem.arr hi;have hne:0<cs.length:=by
  obtain⟨c,c',e1,e2,_⟩:=h2;rw[e1,tR];have:c.length=(ET.int .u8).size:=Af.len e2;rw[this];have:(ET.int Kd.u8).size=1:=rfl;omega
 have jF:Br (λb=>A b/\Z.R b) w L (.own i) (ev σ x):=by
  have:=Bf hr.mem.sl hx rfl;exact this
 have hev:ev σ x=v:=by
  obtain⟨z,E',v',c,g1,g2⟩:=jF;rw[h1]at g1;cases g1;simpa using g2
 have hL:(L.map MD.Cs)[i]? =some (.own 1 E v cs):=by rw[List.getElem?_map,h1];rfl
 refine WL.pS ht he hr.same hL hne (Oq hd) hev (λw' hs'=>WL.nil ?_);obtain⟨g1,g2⟩:(∀b,A b->A b)/\Same A w w':=hs'.fact 0 rfl;have hr':Rel Z s σs A L σ w':=hs'.IW;exact⟨_,A,L,hk,hr'.Cg (d:=some dn) (p:= .own i) rfl ⟨_,_,_,_,h1,rfl⟩,λ_=>⟨g1,g2,⟨[],A9⟩,⟨[],by simp[S.Cg,S.set]⟩⟩⟩
theorem HJ{t:TypeId}{e:ET}(h:PF P t e=true):ElemOk P t e.size:=by
 unfold PF at h;split at h
 ·rename_i i hi;simp only[tK]at h;obtain⟨⟨⟨h1,h2⟩,h3⟩,h4⟩:=h;split at h3
  ·rename_i z hz;exact⟨⟨i,z,hi,Bc h1,hz,Bc h3,tV h2⟩,by have:=tV h4;omega⟩
  ·cases h3
 ·cases h
theorem Sc{t E:TypeId}(h:HN P t=some E):P.underlying t=some (.slice E):=by
 unfold HN at h;split at h
 ·rename_i e he;cases h;exact he
 ·cases h
theorem UM{e:ET}{x:e.T}{c:List Value}(h:Af B w e x c):∀m,Az (Af B w e) (List.replicate m x) (List.replicate m c).flatten
 |0=>rfl
 |m+1=>⟨c,(List.replicate m c).flatten,rfl,h,UM h m⟩
theorem lB{t:TypeId}{a b:Operand}{dn:Nat}{G:Prop}(hr:Rel Z s σs A L σ w)(hd:Di n ⟨some dn, .makeSlice t a b,ty,pos,after,none⟩=true)(h:aD P s (some dn) t a b k=some r):
  Ia P n ops ⟨some dn, .makeSlice t a b,ty,pos,after,none⟩ Z s σs k r G A L σ w:=by
 unfold aD at h;split at h
 ·cases h
 ·rename_i E hE;split at h
  ·cases h
  ·rename_i e he;obtain⟨hb,h⟩:=Ae h;split at h
   ·rename_i m m' z hm hm' hz;split at h
    ·rename_i x hx;obtain⟨l,hl,h⟩:=bind_some h;obtain⟨_,hq,h⟩:=bind_some h;obtain⟨h1,h2,rfl⟩:=XZ hl;have h3:m'=m:=by have:=Gq hq;simpa [geq,GI.toZ]using this
     subst h3;obtain⟨zv,hz1,hz2⟩:=Oe hz;have ea:=MG hm (Et hr.mem.sl a (UW hm));have eb:=MG hm' (Et hr.mem.sl b (UW hm'));refine WL.makeSlice (Sc hE) (HJ hb) hz1 (zs:=zv.cells.toList) A9 hr.same (Oq hd) (m:=m'.toNat) (by rw[<-h1];exact ea) (by rw[<-h1];exact eb) h2 (λp q c w' hs'=>WL.nil ?_);refine Sn (a:= .arr E e (List.replicate m'.toNat x)) (md:= .own e.size E (.slice p q c) (List.replicate m'.toNat zv.cells.toList).flatten) hr hs' ⟨rfl,rfl,UM (Oa hx (hz2 _ _ (L++[]))) _⟩ rfl (λB=>?_) h;rw[S.new,hr.len];exact DT
    ·cases h
   ·cases h
end Go.Rx
namespace Go.Rx
open Go Go.Lv
variable{vw:Bool}{e:ET}{x y:Operand}{p:PV}{v:Value}
variable {P:Program} {B:Reg} {w w':World} {L L':List MD} {s:S} {σs:List Env} {σ:Env} {Z:Fix} {A A':Reg} {n:Nat} {ops:Array Oper} {rest:List Oper} {K:Env->World->Prop}
variable {R:Type} {k:S->Option R} {r:R} {d:Option Nat} {ty:TypeId} {pos:String} {after:Array Edge}
theorem RW.of{G:Prop}{s1:S}{A1:Reg}{L1:List MD}{σ':Env}(h:G->s1=s/\A1=A/\L1=L)(hp:RW Z σs k r G A1 L1 s1.it w σ' w'):RW Z σs k r G A L s.it w σ' w':=by
 obtain⟨s',A',L',h1,h2,h3⟩:=hp;refine⟨s',A',L',h1,h2,λg=>?_⟩;obtain⟨e1,e2,e3⟩:=h g;subst e1 e2 e3;exact h3 g
theorem isEmpty_nil{α:Type}{l:List α}(h:l.isEmpty=true):l=[]:=by cases l<;>simp_all
theorem WJ{z:Nat}(h:Nat.ble 1 z=true):0<z:=by have:=tV h;omega
theorem Rel.nR(hr:Rel Z s σs A L σ w){i z:Nat}{E:TypeId}{cs:List Value}(h:L[i]? =some (.own z E v cs)):
  ∃q len cap,v= .slice q len cap/\cs.length=len*z/\len<=cap/\ (q=none->cap=0)/\ (0<cap->∃b,q=some ⟨b,0,none⟩/\ (MD.own z E v cs).base=some b):=by
 obtain⟨o,q,len,cap,h1,h2,h3,h4,h5,h6⟩:=Bg.mem (A:=A) (St.mobs hr) (hr.Cs h);refine⟨q,len,cap,h1,h2,h3,h4,λhc=>?_⟩;cases o with
 |none=>have:=h5 rfl;omega
 |some b=>
  obtain⟨arr,fr,e1,_⟩:=h6 b rfl;subst h1 e1;exact⟨b,rfl,rfl⟩
theorem X.GJ{t e:TypeId}{z len cap a b:Nat}{p:Option Addr}{lo hi:Option Operand}(ht:P.underlying t=some (.slice e))(hsz:Da P e z)(h1:a<=b)(h2:b<=len)(h3:len<=cap)(hx:ev σ x= .slice p len cap)
  (hlo:(∃q,lo.map (ev σ)=some (.int q (a:Int)))\/ (lo=none/\a=0)) (hhi:(∃q,hi.map (ev σ)=some (.int q (b:Int)))\/ (hi=none/\b=len)):
  XO P σ w (.slice t x lo hi none) (.slice (if cap=a then p else p.map (·.add (a*z))) (b-a) (cap-a)):=λ_ _ _ _ _=>by
 have hr:=TG (P:=P) (w:=w) (p:=p) (fN:=lo.map (ev σ)) (mU:=hi.map (ev σ)) ht hsz h1 h2 h3 (by rcases hlo with h|⟨h,h'⟩;exact .inl h;exact .inr ⟨by rw[h];rfl,h'⟩)
   (by rcases hhi with h|⟨h,h'⟩;exact .inl h;exact .inr ⟨by rw[h];rfl,h'⟩)
 simp only[execOp,hx,Instr.sliceAt,tP,tM ht,tL,uV,hr,tS]
theorem X.TM{t u e:TypeId}{z m a b:Nat}{ad:Addr}{lo hi:Option Operand}(ht:cQ P t=some (u,m,e))(hsz:Da P e z)(h1:a<=b)(h2:b<=m)(hx:ev σ x= .pointer (some ad))
  (hlo:(∃q,lo.map (ev σ)=some (.int q (a:Int)))\/ (lo=none/\a=0)) (hhi:(∃q,hi.map (ev σ)=some (.int q (b:Int)))\/ (hi=none/\b=m)):
  XO P σ w (.slice t x lo hi none) (.slice (some (if m=a then ad else ad.add (a*z))) (b-a) (m-a)):=λ_ _ _ _ _=>by
 have hlo':(∃q,lo.map (ev σ)=some (.int q (a:Int)))\/ (lo.map (ev σ)=none/\a=0):=hlo.imp id λh=>⟨by rw[h.1];rfl,h.2⟩;have hhi':(∃q,hi.map (ev σ)=some (.int q (b:Int)))\/ (hi.map (ev σ)=none/\b=m):=hhi.imp id λh=>⟨by rw[h.1];rfl,h.2⟩;unfold cQ at ht;split at ht
 ·rename_i m' et hu;cases ht;simp only[execOp,hx,Instr.sliceAt,tP,tM hu,tL,uV];generalize lo.map (ev σ)=fN at hlo'⊢;generalize hi.map (ev σ)=mU at hhi'⊢;clear hlo hhi;rcases hlo' with⟨q,rfl⟩|⟨rfl,rfl⟩<;>rcases hhi' with⟨q',rfl⟩|⟨rfl,rfl⟩<;>
   simp[Instr.sureAddr,Instr.sliceBounds,Instr.sliceBound,asIntOf,Ar hsz,h1,h2]
 ·rename_i u' hp;split at ht
  ·rename_i m' et hu;cases ht;simp only[execOp,hx,Instr.sliceAt,tP,tM hp,tL,uV];generalize lo.map (ev σ)=fN at hlo'⊢;generalize hi.map (ev σ)=mU at hhi'⊢;clear hlo hhi;rcases hlo' with⟨q,rfl⟩|⟨rfl,rfl⟩<;>rcases hhi' with⟨q',rfl⟩|⟨rfl,rfl⟩<;>
    simp[Instr.slice,tM hp,tM hu,Instr.sliceBounds,Instr.sliceBound,asIntOf,Ar hsz,h1,h2,asAddr]
  ·cases ht
 ·cases ht
theorem kY{t et:TypeId}{lo hi:Option Operand}{G:Prop}(hr:Rel Z s σs A L σ w)(hd:Di n ⟨d, .slice t x lo hi none,ty,pos,after,none⟩=true)(ht:P.underlying t=some (.slice et))(h:bG P s d et (Bo s.sl x) lo hi k=some r):
  Ia P n ops ⟨d, .slice t x lo hi none,ty,pos,after,none⟩ Z s σs k r G A L σ w:=by
 have hm:=hr.mem;unfold bG at h;split at h
 ·cases h
 ·rename_i inf Fj;split at h
  ·rename_i i hx;split at h
   ·rename_i E e l hi';obtain⟨hb,h⟩:=Ae h;simp only[tK]at hb;split at h
    ·rename_i a b ha hb';obtain⟨_,hok,h⟩:=bind_some h;have hab:0<=a/\a<=b/\b<=Ac l:=uL (Gq hok);obtain⟨u,cs,h1,h2⟩:=hm.arr hi';obtain⟨z',E',c',h3⟩:=Ld (Bf hm.sl hx rfl);rw[h1]at h3;have h3':=h3;cases h3;obtain⟨q,len,cap,g1,g2,g3,g4,g5⟩:=hr.nR h1;have hz:0<e.size:=by have:=tV hb.2;omega
     have hl:len=l.length:=tQ hz (g2.symm.trans (h2.len λx c h=>Af.len h));obtain⟨a1,ha1⟩:=tU hab.1;obtain⟨b1,hb1⟩:=tU (show 0<=b by omega);subst ha1 hb1;have hbl:b1<=len:=by rw[hl];have:=hab.2.2;unfold Ac at this;omega
     have hxo:=X.GJ (P:=P) (σ:=σ) (w:=w) (x:=x) (lo:=lo) (hi:=hi) (a:=a1) (b:=b1) ht (By Fj hb.1) A7 hbl g3 g1
      (by rcases Dt hm.sl ha with h|⟨h,h'⟩;exact .inl h;exact .inr ⟨h,A7⟩) (by rcases Dt hm.sl hb' with h|⟨h,h'⟩;exact .inl h;exact .inr ⟨h,by unfold Ac at h';omega⟩)
     rw[g1]at h1;refine Bn (p:= .view true i [] e a1 (b1-a1)) hr hd hxo rfl ⟨_,_,h1,rfl,A7,A7,⟨_,_,by rw[show((b1:Int)-a1).toNat=b1-a1 by omega],A7,λhn=>?_,λhc=>?_⟩,
      (λ_=>⟨_,_,q,len,cap,cs,rfl,rfl,A7,λpt m c' hv=>?_,λh0=>?_⟩),(λh=>by cases h)⟩ h
     ·split at hn
      ·omega
      ·have:q=none:=by simpa using hn
       have:=g4 this;omega
     ·obtain⟨bb,e1,e2⟩:=g5 A7;rw[g1]at e2;refine⟨bb,e2,?_⟩;rw[uF A7,e1];simp[Eh,Ad]
     ·cases hv;simp only[uO];omega
     ·have ha0:a1=0:=A7
      subst ha0;rw[show((b1:Int)-(0:Nat)).toNat=b1 by omega];simp only[Nat.sub_zero];congr 1;split
      ·rfl
      ·by_cases hc:0<cap
       ·obtain⟨bb,e1,_⟩:=g5 hc;rw[e1];simp[Eh]
       ·omega
    ·cases h
   ·cases h
  ·rename_i o i p e l0 n' hx;obtain⟨hb,h⟩:=Ae h;simp only[tK]at hb;split at h
   ·rename_i a b ha hb';obtain⟨_,hok,hk⟩:=bind_some h;have hab:0<=a/\a<=b/\b<=n':=uL (Gq hok);obtain⟨md,v1,h3,h4,k1,k2,⟨pt,cap,k3,k4,k5,k6⟩,k7,k8⟩:=Bf hm.sl hx rfl;have h6:ev σ x=v1:=by simpa using h4
    obtain⟨a1,ha1⟩:=tU hab.1;obtain⟨b1,hb1⟩:=tU (show 0<=b by omega);obtain⟨l1,hl1⟩:=tU k1;obtain⟨n1,hn1⟩:=tU k2;subst ha1 hb1 hl1 hn1;simp only[uO]at k3 k4 k6 k7;have hxo:=X.GJ (P:=P) (σ:=σ) (w:=w) (x:=x) (lo:=lo) (hi:=hi) (a:=a1) (b:=b1) ht (By Fj hb.1) A7 A7 k4 (h6.trans k3)
     (by rcases Dt hm.sl ha with h|⟨h,h'⟩;exact .inl h;exact .inr ⟨h,A7⟩) (by rcases Dt hm.sl hb' with h|⟨h,h'⟩;exact .inl h;exact .inr ⟨h,A7⟩)
    have e0:((l1:Int)+a1).toNat=l1+a1:=A7
    refine Bn (p:= .view o i p e (l1+a1) (b1-a1)) hr hd hxo rfl ⟨md,_,h3,rfl,A7,A7,⟨_,_,by rw[show((b1:Int)-a1).toNat=b1-a1 by omega],A7,λhn=>?_,λhc=>?_⟩,(λho=>?_),k8⟩ hk
    ·split at hn
     ·omega
     ·have:pt=none:=by simpa using hn
      have:=k5 this;omega
    ·obtain⟨bb,e1,e2⟩:=k6 A7;refine⟨bb,e1,?_⟩;rw[uF A7,e2,e0];simp[Eh,tW,uC]
    ·obtain⟨s',E',q,len,cap0,c0,e1,e2,e3,e4,e5⟩:=k7 ho;have e6:=e4 _ _ _ k3;refine⟨s',E',q,len,cap0,c0,e1,e2,A7,λpt' m c' hv=>?_,λh0=>?_⟩
     ·cases hv;omega
     ·have h00:l1=0/\a1=0:=A7
      obtain⟨rfl,rfl⟩:=h00;have e7:=e5 rfl;rw[k3]at e7;cases e7;rw[show((b1:Int)-(0:Nat)).toNat=b1 by omega];simp only[Nat.sub_zero];congr 1;split
      ·rfl
      ·by_cases hc:0<cap
       ·obtain⟨bb,_,e8⟩:=k6 hc;rw[e8];simp[Eh]
       ·omega
   ·cases h
  ·cases h
theorem gH{t:TypeId}{lo hi:Option Operand}{G:Prop}(hr0:Rel Z s σs A L σ w)(hd:Di n ⟨d, .slice t x lo hi none,ty,pos,after,none⟩=true)(h:UJ vw s d t x lo hi k P=some r)(hG:G-> (owns (Bo s.sl x)).isEmpty=true):
  Ia P n ops ⟨d, .slice t x lo hi none,ty,pos,after,none⟩ Z s σs k r G A L σ w:=by
 unfold UJ at h;split at h
 ·rename_i ht;split at h
  ·rename_i l hx;split at h
   ·rename_i a b ha hb;obtain⟨y,hy,h⟩:=bind_some h;exact Bn (p:= .val .str y) hr0 hd (X.pG ht (Fc hr0.mem.sl hx) hy (Dt hr0.mem.sl ha) (Dt hr0.mem.sl hb)) rfl rfl h
   ·cases h
  ·cases h
 ·rename_i et ht;cases hvw:(vw&&YM (Bo s.sl x))with
  |true=>
   rw[hvw]at h;exact kY hr0 hd ht h
  |false=>
  rw[hvw]at h;dsimp only[Be,cond]at h;split at h
  ·cases h
  ·rename_i s1 hs1;obtain⟨A1,L1,hr,hsame⟩:=Fa hr0 hs1;have hm:=hr.mem;split at h
   ·rename_i e0 l0 hx;split at h
    ·rename_i e l;split at h
     ·rename_i inf Fj;obtain⟨hb,h⟩:=Ae h;simp only[tK]at hb;split at h
      ·rename_i a b ha hb';obtain⟨y,hy,h⟩:=bind_some h;obtain⟨h1,h2,h3,h4,rfl⟩:=Mh hy;obtain⟨c0,h5,h6⟩:=Ip (Bf hm.sl hx rfl);have hlen:=h6.len λx c h=>Af.len h;obtain⟨p',l',c',h7,h8⟩:=X.YV (P:=P) (l:=a.toNat) (k:=b.toNat) (m:=l.length) ht (By Fj hb.1) (St.iL hr h5) (j:=0) rfl hlen (WJ hb.2) h3 h4;have hxo:=h7 σ w x lo hi rfl (by rcases Dt hm.sl ha with h|⟨h,h'⟩;exact .inl (by rw[<-h1];exact h);exact .inr ⟨h,A7⟩)
        (by rcases Dt hm.sl hb' with h|⟨h,h'⟩;exact .inl (by rw[<-h2];exact h);exact .inr ⟨h,by rw[h'];simp[Ac]⟩)
       have hv:Br (λb=>A1 b/\Z.R b) w L1 (.val (.list e) ((l.take b.toNat).drop a.toNat)) (.slice p' l' c'):=
        Zs (h8.fact 0 rfl) (Az.drop (λx c h=>Af.len h) _ (Az.take (λx c h=>Af.len h) _ h6))
       refine WL.aZ rfl hd (hxo _ _ _ _ _) (WL.nil ⟨_,A1,L1,h,hr.Cg rfl hv,λg=>?_⟩);obtain⟨e1,e2,e3⟩:=hsame (isEmpty_nil (hG g));subst e1 e2 e3;have:(s1.Cg d (.val (.list e) ((l.take b.toNat).drop a.toNat))).it=s1.it:=by cases d<;>rfl
       rw[this];exact .refl
      ·cases h
     ·cases h
    ·cases h
   ·rename_i hx;split at h
    ·rename_i inf a b Fj ha hb';obtain⟨_,hok,hk⟩:=bind_some h;have hab:0<=a/\a<=b/\b<=0:=uL (Gq hok);have ha0:a=0:=A7
     have hb0:b=0:=A7
     subst ha0 hb0;have hv:=Jz (Bf hm.sl hx rfl);have hxo:=X.GJ (P:=P) (σ:=σ) (w:=w) (x:=x) (lo:=lo) (hi:=hi) (a:=0) (b:=0) (z:=inf.size) ht ⟨inf,Fj,rfl⟩ (tY _) (tY _) (tY _) hv
      (by rcases Dt hm.sl ha with h|⟨h,h'⟩;exact .inl h;exact .inr ⟨h,rfl⟩) (by rcases Dt hm.sl hb' with h|⟨h,h'⟩;exact .inl h;exact .inr ⟨h,rfl⟩)
     refine WL.aZ rfl hd (hxo _ _ _ _ _) (WL.nil ⟨_,A1,L1,hk,hr.Cg rfl rfl,λg=>?_⟩);obtain⟨e1,e2,e3⟩:=hsame (isEmpty_nil (hG g));subst e1 e2 e3;have:(s1.Cg d .nils).it=s1.it:=by cases d<;>rfl
     rw[this];exact .refl
    ·cases h
   ·cases h
 ·split at h
  ·rename_i u m et hat;split at h
   ·cases h
   ·rename_i inf Fj;split at h
    ·rename_i i p hx;split at h
     ·rename_i T v hit;split at h
      ·rename_i e0 l0 hg;split at h
       ·rename_i m' e l;obtain⟨hb,h⟩:=Ae h;simp only[tK]at hb;split at h
        ·rename_i a b ha hb';obtain⟨_,hok,hk⟩:=bind_some h;have hab:0<=a/\a<=b/\b<=m:=uL (Gq hok);have hm:=hr0.mem;obtain⟨md,bb,h1,h2,h3⟩:=Hn (Bf hm.sl hx rfl);obtain⟨a1,ha1⟩:=tU hab.1;obtain⟨b1,hb1⟩:=tU (show 0<=b by omega);subst ha1 hb1;have hxo:=X.TM (P:=P) (σ:=σ) (w:=w) (x:=x) (lo:=lo) (hi:=hi) (a:=a1) (b:=b1) hat (By Fj hb.1.2) A7 A7 h3
          (by rcases Dt hm.sl ha with h|⟨h,h'⟩;exact .inl h;exact .inr ⟨h,A7⟩) (by rcases Dt hm.sl hb' with h|⟨h,h'⟩;exact .inl h;exact .inr ⟨h,A7⟩)
         refine Bn (p:= .view false i p e a1 (b1-a1)) hr0 hd hxo rfl ⟨md,_,h1,rfl,A7,A7,⟨_,_,(by rw[show((b1:Int)-a1).toNat=b1-a1 by omega]),A7,(λh=>by cases h),λhc=>⟨bb,h2,?_⟩⟩,(λh=>by cases h),λ_=>⟨bb,h2⟩⟩ hk;rw[uF A7,Eh];rfl
        ·cases h
       ·cases h
      ·cases h
     ·cases h
    ·cases h
  ·cases h
theorem fE{t:TypeId}{hi mx:Operand}{lo:Option Operand}{G:Prop}(hr0:Rel Z s σs A L σ w)(hd:Di n ⟨d, .slice t x lo (some hi) (some mx),ty,pos,after,none⟩=true)(h:OA vw s d t x lo hi mx k P=some r)(hG:G-> (owns (Bo s.sl x)).isEmpty=true):
  Ia P n ops ⟨d, .slice t x lo (some hi) (some mx),ty,pos,after,none⟩ Z s σs k r G A L σ w:=by
 unfold OA at h;split at h
 ·rename_i et ht;split at h
  ·cases h
  ·rename_i s1 hs1;obtain⟨A1,L1,hr,hsame⟩:=Fa hr0 hs1;have hm:=hr.mem;split at h
   ·rename_i e0 l0 hx;split at h
    ·rename_i e l;split at h
     ·rename_i inf Fj;obtain⟨hb,h⟩:=Ae h;simp only[tK]at hb;split at h
      ·rename_i a b c ha hb' hc';obtain⟨_,hok,h⟩:=bind_some h;have hbc:b<=c/\c<=Ac l:=uL (Gq hok);obtain⟨y,hy,h⟩:=bind_some h;obtain⟨h1,h2,h3,h4,rfl⟩:=Mh hy;obtain⟨c0,h5,h6⟩:=Ip (Bf hm.sl hx rfl);have hlen:=h6.len λx c h=>Af.len h;obtain⟨q1,hq1⟩:=Ks hb' (Et hm.sl hi (Ps hb'));obtain⟨q2,hq2⟩:=Ks hc' (Et hm.sl mx (Ps hc'));unfold Ac at hbc;obtain⟨p',l',c',h7,h8,sO⟩:=X.eH (P:=P) (l:=a.toNat) (k:=b.toNat) (c:=c.toNat) (m:=l.length) ht (By Fj hb.1) (St.iL hr h5) (j:=0) rfl hlen (WJ hb.2) h3 A7 A7;have hxo:=h7 σ w x lo hi mx rfl (by rcases Dt hm.sl ha with h|⟨h,h'⟩;exact .inl (by rw[<-h1];exact h);exact .inr ⟨h,A7⟩)
        ⟨q1,by rw[hq1,<-h2]⟩ ⟨q2,by rw[hq2,show((c.toNat:Nat):Int)=c by omega]⟩
       have hall:Az (Af (λb=>A1 b/\Z.R b) w e) ((l.take b.toNat).drop a.toNat) ((c0.take (b.toNat*e.size)).drop (a.toNat*e.size)):=Az.drop (λx c h=>Af.len h) _ (Az.take (λx c h=>Af.len h) _ h6);have hv:Br (λb=>A1 b/\Z.R b) w L1 (Be vw (.cap e ((l.take b.toNat).drop a.toNat) (c-a))<| .val (.list e) ((l.take b.toNat).drop a.toNat)) (.slice p' l' c'):=by
        cases vw with
        |true=>exact⟨_,_,rfl,h8.fact 0 rfl,hall,A7,p',l',by rw[sO];congr 1;omega⟩
        |false=>exact Zs (h8.fact 0 rfl) hall
       have hV:(Be vw (PV.cap e ((l.take b.toNat).drop a.toNat) (c-a))<| .val (.list e) ((l.take b.toNat).drop a.toNat)).isV=true:=by cases vw<;>rfl
       refine WL.aZ rfl hd (hxo _ _ _ _ _) (WL.nil ⟨_,A1,L1,h,hr.Cg hV hv,λg=>?_⟩);obtain⟨e1,e2,e3⟩:=hsame (isEmpty_nil (hG g));subst e1 e2 e3;have:∀q,(s1.Cg d q).it=s1.it:=λq=>by cases d<;>rfl
       rw[this];exact .refl
      ·cases h
     ·cases h
    ·cases h
   ·cases h
 ·cases h
theorem pX{x:e.T}(h:e.of p=some x):p.WC=true:=by
 unfold ET.of YW at h;split at h
 ·rfl
 ·rfl
 ·rfl
 ·cases h
theorem TK{e:ET}(hr:Rel Z s σs A L σ w):∀{xs:List Operand} {l:List e.T},SP e (xs.map (Bo s.sl))=some l->
  Az (Af (λb=>A b/\Z.R b) w e) l ((xs.map (ev σ)).map λv:Value=>v.cells.toList).flatten/\l.length=xs.length/\∀v∈xs.map (ev σ),v.cells.size=e.size
 |[],l,h=>by simp only[List.map_nil,SP,tO]at h;subst h;exact⟨rfl,rfl,A9⟩
 |x::xs,l,h=>by
  simp only[uH,SP]at h;split at h
  ·rename_i y ys hy hys;cases h;obtain⟨h1,h2,h3⟩:=TK hr hys;obtain⟨cs,h4,h5⟩:=Nk hr (Mn hr.mem.sl (x:=x) (pX hy));have h6:=Oa hy h5;refine⟨⟨cs,_,by simp[h4],h6,h1⟩,by simp[h2],λv hv=>?_⟩;simp only[uH,List.mem_cons]at hv;rcases hv with rfl|hv
   ·rw[h4];simpa using h6.len
   ·exact h3 v hv
  ·cases h
theorem ZD:∀{ps:List (Nat×Operand)} {m:Nat},cN m ps=true-> (ps.map λp=>(p.1,ev σ p.2))=(((ps.map Prod.snd).map (ev σ)).zipIdx m).map λp=>(p.2,p.1)
 |[],_,_=>rfl
 |(i,x)::ps,m,h=>by
  simp only[cN,tK]at h;simp only[uH,List.zipIdx_cons,ZD h.2,Bc h.1]
theorem RS{t:TypeId}{len:Nat}{ps:Array (Nat×Operand)}{dn:Nat}{G:Prop}(hr0:Rel Z s σs A L σ w)(hd:Di n ⟨some dn, .buildSlice t len ps,ty,pos,after,none⟩=true)
  (h:Ud P s (some dn) t len ps.toList k=some r) (hG:G-> (owns.go (ps.toList.map λp=>Bo s.sl p.2)).isEmpty=true):Ia P n ops ⟨some dn, .buildSlice t len ps,ty,pos,after,none⟩ Z s σs k r G A L σ w:=by
 unfold Ud at h;split at h
 ·cases h
 ·rename_i E hE;split at h
  ·cases h
  ·rename_i e he;obtain⟨hb,h⟩:=Ae h;simp only[tK]at hb;obtain⟨⟨⟨hb1,hb2⟩,hb3⟩,hb4⟩:=hb;split at h
   ·cases h
   ·rename_i s1 hs1;obtain⟨A1,L1,hr,hsame⟩:=Fa hr0 hs1;split at h
    ·rename_i l hl;have hl':SP e ((ps.toList.map Prod.snd).map (Bo s1.sl))=some l:=by rw[List.map_map];exact hl
     obtain⟨h1,h2,h3⟩:=TK hr hl';have hps:ps=ps.toList.toArray:=by simp
     rw[show(⟨some dn, .buildSlice t len ps,ty,pos,after,none⟩:Oper)=⟨some dn, .buildSlice t len ps.toList.toArray,ty,pos,after,none⟩ by rw[<-hps]];have hlen:((ps.toList.map Prod.snd).map (ev σ)).length=len:=by simpa using Bc hb3
     have hF:=St.FD (f:=MK Z.R L1 (.arr E e l) (((ps.toList.map Prod.snd).map (ev σ)).map λv:Value=>v.cells.toList).flatten) hr.same h1;refine WL.buildSlice (vs:=(ps.toList.map Prod.snd).map (ev σ)) (Sc hE) (HJ hb1) hF (Oq (o:= .buildSlice t len ps) hd) (ZD hb2) hlen hb4 h3 rfl (λp q c w' hs'=>WL.nil ?_);have h4:Az (Af (λb=>A1 b/\Z.R b) w' e) l (((ps.toList.map Prod.snd).map (ev σ)).map λv:Value=>v.cells.toList).flatten:=hs'.fact 0 rfl;refine RW.of (λg=>hsame (isEmpty_nil (hG g))) (Sn (a:= .arr E e l) (md:= .own e.size E (.slice p q c) _) hr hs'.IW ⟨rfl,rfl,h4⟩ rfl (λB=>?_) h);rw[S.new,hr.len];exact DT
    ·cases h
theorem fD{E:TypeId}{i len cap m:Nat}{q:Option Addr}{cs:List Value}{l:List e.T}(hr:Rel Z s σs A L σ w)(hi:L[i]? =some (.own e.size E (.slice q len cap) cs))(hm:m<=len)(hl:Az (Af (λb=>A b/\Z.R b) w e) l (cs.take (m*e.size))):
  Rel Z (((s.Fy i .dead).sub i .any).add (.arr E e l)) σs A (L.set i .dead++[.own e.size E (.slice q m cap) (cs.take (m*e.size))]) σ w:=by
 have hf:Frz (λb=>A b/\Z.R b) w L i .any:=⟨λz E' u c h=>⟨u,rfl,by rw[hi]at h;cases h;rfl⟩,rfl,rfl⟩;have hm2:=hr.mem.subst hf;have AB:(L.map MD.Cs)[i]? =some (Mob.own e.size E (.slice q len cap) cs):=hr.Cs hi;obtain⟨o,h1,h2,h3⟩:=(St.mobs hr).perm (CV AB).symm;have h4:(Mob.own e.size E (.slice q m cap) (cs.take (m*e.size))).holds o w:=by
  obtain⟨q',len',cap',g1,g2,g3,g4,g5,g6⟩:=h1;cases g1;have e5:m*e.size<=len*e.size:=tN _ hm;refine⟨q,m,cap,rfl,by rw[uB];omega,A7,g4,g5,λb hb=>?_⟩;obtain⟨arr,fr,k1,k2,k3,k4,k5⟩:=g6 b hb;exact⟨arr,fr,k1,k2,k3,k4,λj hj=>by rw[k5 j A7,List.getElem?_take,uG hj]⟩
 have h5:Bg w A (Mob.own e.size E (.slice q m cap) (cs.take (m*e.size))::(L.map MD.Cs).eraseIdx i):=⟨o,h4,h2,h3⟩;have h6:Bg w A (MD.dead.Cs::Mob.own e.size E (.slice q m cap) (cs.take (m*e.size))::(L.map MD.Cs).eraseIdx i):=⟨none,⟨none,0,0,rfl,A9,tY _,λ_=>rfl,λ_=>rfl,λb h=>by cases h⟩,λb hb=>(by cases hb),h5.Hp λb hb=>hb.elim id λh=>by cases h⟩;have h7:Bg w A ((MD.own e.size E (.slice q m cap) (cs.take (m*e.size))).Cs::(L.set i .dead).map MD.Cs):=by
  rw[vM];exact h6.perm ((List.Perm.swap _ _ _).trans ((Nx (m':=MD.dead.Cs) AB).cons _))
 have h8:St A w [GH Z.R (L.set i .dead) ((s.Fy i .dead).sub i .any) σs σ, .old Z.M Z.w0] ((MD.own e.size E (.slice q m cap) (cs.take (m*e.size))).Cs::(L.set i .dead).map MD.Cs):=by
  refine⟨St.lt hr,λf hf=>?_,h7⟩;cases hf with
  |head=>exact hm2
  |tail _ hf=>exact hr.facts f (.tail _ hf)
 exact Rel.push (a:= .arr E e l) h8 ⟨rfl,rfl,hl⟩
theorem YY{E:TypeId}{s1:S}{i:Nat}(hr:Rel Z s σs A L σ w)(hz:0<e.size)(hx:(Bo s.sl x).WC=true)(h:cJ s E e (Bo s.sl x)=some (s1,i)):
  ∃L1,Rel Z s1 σs A L1 σ w/\∃c0,L1[i]? =some (.own e.size E (ev σ x) c0):=by
 have hv:=Et hr.mem.sl x (PV.TB hx);unfold cJ at h;split at h
 ·rename_i hp;cases h;rw[hp]at hv;have hev:=Jz hv;have hr':=Rel.push (a:= .arr E e []) (md:= .own e.size E (.slice none 0 0) []) (St.PT hr e.size E) ⟨rfl,rfl,rfl⟩;refine⟨_,hr',[],?_⟩;rw[S.new,hr.len,hev];simp
 ·rename_i j hp;rw[hp]at hv;split at h
  ·rename_i E' e' l hj;obtain⟨hb,h⟩:=Ae h;split at h
   ·rename_i he;cases h;subst he;have:=Bc hb;subst this;obtain⟨v,cs,h1,h2⟩:=hr.mem.arr hj;obtain⟨z,E',c,h3⟩:=Ld hv;rw[h1]at h3;cases h3;exact⟨L,hr,cs,h1⟩
   ·cases h
  ·cases h
 ·rename_i j p e1 lo n' hp;rw[hp]at hv;split at h
  ·rename_i E' e' l hj;obtain⟨hb,h⟩:=Ae h;simp only[tK,uX]at hb;obtain⟨⟨hE,h0⟩,he1⟩:=hb;split at h
   ·rename_i he;cases h;subst he he1;have:=Bc hE;subst this;subst h0;obtain⟨u,cs,h1,h2⟩:=hr.mem.arr hj;obtain⟨md,v1,h3,h4,k1,k2,_,k7,_⟩:=hv;rw[h1]at h3;cases h3;have h6:ev σ x=v1:=by simpa using h4
    obtain⟨s',E2,q,len,cap,c0,e1,e2,e3,_,e5⟩:=k7 rfl;cases e1;have e7:=e5 rfl;have hl:Az (Af (λb=>A b/\Z.R b) w e1) (Pc l 0 n') (cs.take (n'.toNat*e1.size)):=by
     have:=Az.take (λx c h=>Af.len h) n'.toNat h2;simpa [Pc]using this
    have hr':=fD hr h1 (m:=n'.toNat) (by simpa using e3) hl;refine⟨_,hr',cs.take (n'.toNat*e1.size),?_⟩;rw[h6,e7,S.new,hr.len];have:L.length=(L.set j .dead).length:=by simp
    rw[this,List.getElem?_append_right (tY _)];simp
   ·cases h
  ·cases h
 ·cases h
theorem jY{a:Item}{l:List e.T}(h:nJ e a=some l):∃E,a= .arr E e l:=by
 unfold nJ at h;split at h
 ·rename_i E e' l';split at h
  ·rename_i he;subst he;cases h;exact⟨E,rfl⟩
  ·cases h
 ·cases h
theorem ZG{E:TypeId}{i dn:Nat}{l m:List e.T}{cs ys:List Value}{v':Value}{w':World}{s0:S}{A0:Reg}{L0:List MD}{w0:World}(hr:Rel Z s σs A L σ w)(hi:L[i]? =some (.own e.size E v cs))(hl:Az (Af (λb=>A b/\Z.R b) w e) (l++m) (cs++ys))
  (hs:St A w' [MK Z.R L (.arr E e (l++m)) (cs++ys),GH Z.R L s σs σ, .old Z.M Z.w0] ((L.map MD.Cs).set i (.own e.size E v' (cs++ys))))
  (hk:k ((((s.Fy i .dead).sub i .any).add (.arr E e (l++m))).Cg (some dn) (.own s.new))=some r):RW Z σs k r False A0 L0 s0.it w0 (Fy σ dn v') w':=by
 have h1:Az (Af (λb=>A b/\Z.R b) w' e) (l++m) (cs++ys):=hs.fact 0 rfl;have hone:v.oneCell'=true:=by obtain⟨p,len,cap,rfl,_⟩:=hr.Fp hi;rfl
 have hs1:=hs.IW;have hm:MemR (λb=>A b/\Z.R b) w' L s σs σ:=hs1.fact 0 rfl;have hf:Frz (λb=>A b/\Z.R b) w' L i .any:=⟨λz E' u c h=>⟨u,rfl,by rw[hi]at h;cases h;exact hone⟩,rfl,rfl⟩;have hm2:=hm.subst hf;have AB:(L.map MD.Cs)[i]? =some (Mob.own e.size E v cs):=hr.Cs hi;have hs2:=Bg.Ui hs1 (Nx (m':=Mob.own e.size E v' (cs++ys)) AB).symm;have hs3:=Bg.Ui (hs2.PT 1 0) (List.Perm.swap _ _ _);have hs4:=Bg.Ui hs3 ((Nx (m':=MD.dead.Cs) AB).cons _);have hs5:St A w' [GH Z.R (L.set i .dead) ((s.Fy i .dead).sub i .any) σs σ, .old Z.M Z.w0] ((MD.own e.size E v' (cs++ys)).Cs::(L.set i .dead).map MD.Cs):=by
  rw[vM];exact(hs4.rT.FD (f:= .old Z.M Z.w0) (hs4.fact 1 rfl)).FD (f:=GH Z.R (L.set i .dead) ((s.Fy i .dead).sub i .any) σs σ) hm2
 have hr2:=Rel.push (a:= .arr E e (l++m)) hs5 ⟨rfl,rfl,h1⟩;have hnew:s.new=(L.set i .dead).length:=by rw[List.length_set,<-hr.len];rfl
 refine⟨_,A,_,hk,hr2.Cg (d:=some dn) rfl ?_,λg=>g.elim⟩;rw[hnew];exact DT
theorem iD(z:Array Value)(hz:0<z.size)(m:Nat):((List.replicate m z.toList).flatten).toArray=Builtin.zeroCells z m:=by
 apply Array.ext
 ·simp[Builtin.zeroCells]
 ·intro j h1 h2;simp only[Builtin.zeroCells,Array.getElem_map,Array.getElem_range];have h3:j<m*z.size:=by simpa [Builtin.zeroCells]using h2
  have h4:=OJ z.toList z.size A9 hz m j h3;have h5:j %z.size<z.size:=Nat.mod_lt _ hz;simp only[List.getElem_toArray];rw[List.getElem?_eq_getElem (by simpa using h1)]at h4;simp[h5]at h4;simp[h4,h5]
theorem kN{E t t2:TypeId}{kk:List e.T->Option R}(hr:Rel Z s σs A L σ w)(ht:P.underlying t=some (.slice E))(hel:ElemOk P E e.size)(h:nI P s E e t2 y kk=some r):
  ∃m ys,kk m=some r/\Az (Af (λb=>A b/\Z.R b) w e) m ys/\∀(A1:Reg) (F:List Fact) (LL:List Mob) (i ll:Nat) (vx:Value) (cs:List Value),St A1 w F LL->LL[i]? =some (.own e.size E vx cs)->cs.length=ll*e.size->ll+m.length<=WU->
   ∃v' w',(Builtin.append_ #[t,t2] ty #[vx,ev σ y]).run P w= .ok v' w'/\St A1 w' F (LL.set i (.own e.size E v' (cs++ys))):=by
 unfold nI at h;split at h
 ·rename_i ht2;split at h
  ·rename_i m0 hy;split at h
   ·rename_i m hm;unfold Tc at hm;split at hm
    ·rename_i he;cases he;cases hm;refine⟨m0,Lm m0,h,UH.Ng,λA1 F LL i ll vx cs hs hL hlen hlim=>?_⟩;rw[Fc hr.mem.sl hy];exact CU (x:=y) (y:=y) ht hel hs hL (Src.string ht2) (kK m0) hlen (by simp[Lm,ET.size]) hlim
    ·cases hm
   ·cases h
  ·cases h
 ·rename_i sP ht2;split at h
  ·rename_i m hm;have hV:(Bo s.sl y).isV=true:=by
    cases hq:(Bo s.sl y).isV with
    |true=>rfl
    |false=>rcases Gu hq with h|h|⟨_,_,_,h⟩<;>rw[h]at hm<;>cases hm
   obtain⟨c0,h1,h2⟩:=Xh hr.mem hm (Et hr.mem.sl y hV);have hrd:Rd (λ_=>True) w e.size (ev σ y) c0:=by
    rcases h2 with h2|⟨j,E',u,cs',_,h2,hpart⟩
    ·exact h2.step (λ_ _=>trivial) (λ_ _=>rfl)
    ·exact hpart _ _ (hr.Fp h2)
   have SM:=h1.len λx c h=>Af.len h;exact⟨m,c0,h,h1,λA1 F LL i ll vx cs hs hL hlen hlim=>CU (x:=y) (y:=y) ht hel hs hL (Src.slice ⟨_,ht2⟩ hrd SM hel.pos) h1.VM hlen SM hlim⟩
  ·cases h
 ·rename_i tH ht2;split at h
  ·rename_i q z hq hz;split at h
   ·rename_i x0 hx0;obtain⟨m,hm,h⟩:=bind_some h;obtain⟨h1,h2,rfl⟩:=XZ hm;obtain⟨zv,⟨i0,hi0,hz0⟩,hz2⟩:=Oe hz;have hx1:=Oa hx0 (hz2 (λb=>A b/\Z.R b) w L);have hall:=UM hx1 q.toNat;refine⟨_,_,h,hall,λA1 F LL i ll vx cs hs hL hlen hlim=>?_⟩;rw[MG hq (Et hr.mem.sl y (UW hq)),h1];have hzs:zv.cells.size=e.size:=by have:=hx1.len;simpa using this
    rw[List.length_replicate]at hlim;exact WG (x:=y) (y:=y) (ly:=q.toNat) ht hel hs hL ⟨_,ht2⟩ (λi z' hi hz'=>by rw[hi0]at hi;cases hi;rw[hz0]at hz';cases hz';exact iD zv.cells (by rw[hzs];exact hel.pos) _)
     hall.VM hlen ((hall.len λx c h=>Af.len h).trans A9) hlim
   ·cases h
  ·cases h
 ·cases h
theorem kJ{t2:TypeId}{m:List e.T}(hr:Rel Z s σs A L σ w)(hz:0<e.size)(h:nZ P s e t2 y=some m):∃ys,Az (Af (λb=>A b/\Z.R b) w e) m ys/\Src P w t2 (ev σ y) e.size m.length ys:=by
 unfold nZ at h;split at h
 ·rename_i ht2;split at h
  ·rename_i m0 hy;unfold Tc at h;split at h
   ·rename_i he;cases he;cases h;refine⟨Lm m0,UH.Ng,?_⟩;rw[Fc hr.mem.sl hy];exact Src.string ht2
   ·cases h
  ·cases h
 ·rename_i sP ht2;have hV:(Bo s.sl y).isV=true:=by
   cases hq:(Bo s.sl y).isV with
   |true=>rfl
   |false=>rcases Gu hq with h'|h'|⟨_,_,_,h'⟩<;>rw[h']at h<;>cases h
  obtain⟨c0,h1,h2⟩:=Xh hr.mem h (Et hr.mem.sl y hV);have hrd:Rd (λ_=>True) w e.size (ev σ y) c0:=by
   rcases h2 with h2|⟨j,E',u,cs',_,h2,hpart⟩
   ·exact h2.step (λ_ _=>trivial) (λ_ _=>rfl)
   ·exact hpart _ _ (hr.Fp h2)
  exact⟨c0,h1,Src.slice ⟨_,ht2⟩ hrd (h1.len λx c h=>Af.len h) hz⟩
 ·cases h
theorem lM{l:List e.T}{c:Int}(h:nW e p=some (l,c)):p= .cap e l c:=by
 unfold nW at h;split at h
 ·split at h
  ·rename_i he;subst he;cases h;rfl
  ·cases h
 ·cases h
theorem fK{t t2:TypeId}{dn:Nat}(hr0:Rel Z s σs A L σ w)(hd:Di n ⟨some dn, .call ⟨.builtin .append, #[x,y], #[t,t2]⟩,ty,pos,after,none⟩=true)
  (h:MS P s (some dn) x y t t2 k=some r):Ia P n ops ⟨some dn, .call ⟨.builtin .append, #[x,y], #[t,t2]⟩,ty,pos,after,none⟩ Z s σs k r False A L σ w:=by
 unfold MS at h;split at h
 ·cases h
 ·rename_i E hE;split at h
  ·cases h
  ·rename_i e he;obtain⟨hb,h⟩:=Ae h;simp only[tK]at hb;have hel:=HJ hb.1;split at h
   ·rename_i l c hcap;split at h
    ·rename_i m hm;obtain⟨r',ha,hk⟩:=bind_some h;obtain⟨h3,rfl⟩:=GU ha;obtain⟨_,hok,hk⟩:=bind_some hk;have hlt:c<Ac (l++m):=uL (Gq hok);obtain⟨ys,hy1,hy2⟩:=kJ hr0 hel.pos hm;obtain⟨v0,c0,g1,g2,g3,g4,p,len,g5⟩:=Bf hr0.mem.sl (lM hcap) rfl;cases g1;have hlen:=g3.len λx c h=>Af.len h;have SM:=hy1.len λx c h=>Af.len h;unfold Ac at hlt;rw[tR]at hlt;obtain⟨v',w',h4,h5⟩:=YC (ty:=ty) (Sc hE) hel hr0.same (g2.step (A':=λ_=>True) (λ_ _=>trivial) (λ_ _=>rfl)) g5 A7 hy2 hlen SM h3;refine WL.val (v:=v') (w':=w') rfl rfl (Oq hd) ?_ (WL.nil (Sn (a:= .arr E e (l++m)) (md:= .own e.size E v' (c0++ys)) hr0 h5 ⟨rfl,rfl,?_⟩ rfl (λB=>?_) hk))
     ·simp[execOp,resolve,invoke,builtin,h4]
     ·obtain⟨k1,k2⟩:(∀b,A b->A b)/\Same A w w':=h5.fact 0 rfl;exact(g3.append hy1).mono λx c h=>Af.step (λ_ h=>h) (λb hb=>k2 b hb.1) h
     ·rw[S.new,hr0.len];exact DT
    ·cases h
   split at h
   ·cases h
   ·rename_i s1 i hown;obtain⟨L1,hr,cs,hi⟩:=YY hr0 hel.pos hb.2 hown;split at h
    ·cases h
    ·rename_i l hl;obtain⟨E',hit⟩:=jY hl;obtain⟨v1,cs1,h1,h2⟩:=hr.mem.arr hit;rw[hi]at h1;cases h1;have hlen:=h2.len λx c h=>Af.len h;obtain⟨m,ys,hk,hm,hrun⟩:=kN (ty:=ty) hr0 (Sc hE) hel h;obtain⟨r',ha,hk⟩:=bind_some hk;obtain⟨h3,rfl⟩:=GU ha;have hF:=St.FD (f:=MK Z.R L1 (.arr E e (l++m)) (cs++ys)) hr (h2.append hm);obtain⟨v',w',h4,h5⟩:=hrun A _ _ i l.length (ev σ x) cs hF (hr.Cs hi) hlen h3;refine WL.val (v:=v') (w':=w') rfl rfl (Oq hd) ?_ (WL.nil (ZG hr hi (h2.append hm) h5 hk));simp[execOp,resolve,invoke,builtin,h4]
end Go.Rx
namespace Go.Rx
open Go Go.Lv
variable {P:Program} {B:Reg} {w w':World} {L L':List MD} {s:S} {σs:List Env} {σ:Env} {Z:Fix} {A A':Reg} {n:Nat} {ops:Array Oper} {rest:List Oper} {K:Env->World->Prop}
variable {R:Type} {k:S->Option R} {r:R} {d:Option Nat} {ty:TypeId} {pos:String} {after:Array Edge}
theorem TI{place:Nat->Option (Nat×Nat)}{acc ns:List Value}{i off z:Nat}{v:Value}{rest:List (Nat×Value)}(hp:place i=some (off,z))(hv:v.cells=ns.toArray)(hz:ns.length=z)(hl:off+z<=acc.length):
  Instr.fill place acc.toArray ((i,v)::rest)=Instr.fill place (Ao acc off ns).toArray rest:=by
 have hf:=Xi off ns 0 acc A7;have jC:v.cells.zipIdx.foldl (λcs (x:Value×Nat)=>cs.setIfInBounds (off+x.2) x.1) acc.toArray=(Ao acc off ns).toArray:=by
  rw[hv,<-Array.foldl_toList,Array.toList_zipIdx];simpa using hf
 simp only[Instr.fill,hp];have hc:(decide (v.cells.size≠z)||decide (off+v.cells.size>acc.toArray.size))=false:=by rw[hv];simp;omega
 rw[uF (by rw[hc];simp)]
 show Instr.fill _ (v.cells.zipIdx.foldl (λcs (x:Value×Nat)=>cs.setIfInBounds (off+x.2) x.1) acc.toArray) _=_;rw[jC]
def places:List PV->Nat->List (Nat×Nat)
 |[],_=>[]
 |v::vs,off=>(off,v.size)::places vs (off+v.size)
theorem NI:∀{l:List PV} {i off:Nat} {u:PV},l[i]? =some u-> (places l off)[i]? =some (off+MN l i,u.size)
 |[],_,_,_,h=>by simp at h
 |a::l,0,off,u,h=>by simp at h;subst h;rfl
 |a::l,i+1,off,u,h=>by
  have:=NI (l:=l) (i:=i) (off:=off+a.size) (by simpa using h);simpa [places,MN,uC]using this
theorem MQ:∀{l:List PV} {i off:Nat} {u v:PV},l[i]? =some u->u.size=v.size->places (l.set i v) off=places l off
 |[],_,_,_,_,h,_=>by simp at h
 |a::l,0,off,u,v,h,hs=>by simp at h;subst h;simp[places,hs]
 |a::l,i+1,off,u,v,h,hs=>by simp[places,MQ (l:=l) (i:=i) (by simpa using h) hs]
theorem JR:∀{fs:List Field} {vs:List PV} {off:Nat},Rr P fs vs off=true-> (fs.map λf=>(f.offset,(P.info? f.type).map (·.size)))=(places vs off).map λp=>(p.1,some p.2)
 |[],[],_,_=>rfl
 |[],_::_,_,h=>by simp[Rr]at h
 |_::_,[],_,h=>by simp[Rr]at h
 |f::fs,v::vs,off,h=>by
  simp only[Rr,tK]at h;obtain⟨⟨h1,h2⟩,h3⟩:=h;split at h2
  ·rename_i i hi;simp[places,JR h3,hi,Bc h1,Bc h2]
  ·cases h2
theorem JC(hr:Rel Z s σs A L σ w){pl:List (Nat×Nat)}:∀{parts:List (Nat×Operand)} {zs l:List PV} {acc:List Value},Yx (parts.map λp=>(p.1,Bo s.sl p.2)) zs=some l->
  places zs 0=pl->Aj.go (λb=>A b/\Z.R b) w L zs acc->∃cells,Instr.fill (pl[·]?) acc.toArray (parts.map λp=>(p.1,ev σ p.2))=some cells.toArray/\Aj.go (λb=>A b/\Z.R b) w L l cells
 |[],zs,l,acc,h,_,ha=>by simp only[List.map_nil,Yx,tO]at h;subst h;exact⟨acc,rfl,ha⟩
 |(i,x)::ps,zs,l,acc,h,hpl,ha=>by
  subst hpl;simp only[uH,Yx]at h;split at h
  ·rename_i u hu;obtain⟨hb,h⟩:=Ae h;simp only[tK]at hb;have hsz:=Bc hb.1;obtain⟨ns,h1,h2⟩:=Nk hr (Mn hr.mem.sl (x:=x) hb.2);obtain⟨c1,c2,c3,e,h3,h4,h5⟩:=Aj.field ha hu;have hlen:=h2.len;have BP:=h4.len;obtain⟨cells,h6,h7⟩:=JC hr (zs:=zs.set i (Bo s.sl x)) (acc:=c1++(ns++c3)) h (by rw[MQ hu hsz]) (h5 _ _ h2);refine⟨cells,?_,h7⟩;rw[uH,TI (off:=c1.length) (z:=u.size) (ns:=ns) (by rw[NI hu,uY,h3]) h1 A7 (by rw[e];simp;omega),e,Tn A7];exact h6
  ·cases h
theorem XI(hr:Rel Z s σs A L σ w){e:ET}:∀{parts:List (Nat×Operand)} {l l':List e.T} {acc:List Value},OX e (parts.map λp=>(p.1,Bo s.sl p.2)) l=some l'->
  Az (Af (λb=>A b/\Z.R b) w e) l acc->∃cells,Instr.fill (λi=>some (i*e.size,e.size)) acc.toArray (parts.map λp=>(p.1,ev σ p.2))=some cells.toArray/\Az (Af (λb=>A b/\Z.R b) w e) l' cells/\l'.length=l.length
 |[],l,l',acc,h,ha=>by simp only[List.map_nil,OX,tO]at h;subst h;exact⟨acc,rfl,ha,rfl⟩
 |(i,x)::ps,l,l',acc,h,ha=>by
  simp only[uH,OX]at h;split at h
  ·rename_i u y hu hy;obtain⟨ns,h1,h2⟩:=Nk hr (Mn hr.mem.sl (x:=x) (pX hy));have h3:=Oa hy h2;obtain⟨c1,c2,c3,e',h4,h5,h6⟩:=Az.get (λx c h=>Af.len h) ha hu;have hlen:=h3.len;have BP:=h5.len;obtain⟨cells,h7,h8,h9⟩:=XI hr (l:=l.set i y) (acc:=c1++(ns++c3)) h (h6 _ _ h3);refine⟨cells,?_,h8,by rw[h9,List.length_set]⟩;rw[uH,TI (off:=c1.length) (z:=e.size) (ns:=ns) (by rw[h4]) h1 hlen (by rw[e'];simp;omega),e',Tn A7];exact h7
  ·cases h
theorem eV{t et:TypeId}{m z:Nat}{parts:List (Nat×Operand)}{zv:Value}{cells:List Value}(ht:P.underlying t=some (.array m et))(hz:∃i,P.info? t=some i/\i.zero=some zv)(hsz:Da P et z)
  (hf:Instr.fill (λi=>some (i*z,z)) zv.cells (parts.map λp=>(p.1,ev σ p.2))=some cells.toArray) (w:World):XO P σ w (.build t parts.toArray) (.agg cells.toArray):=λ_ _ _ _ _=>by
 obtain⟨i,hi,hz⟩:=hz;simp only[execOp,Instr.build,tP,zeroValue,typeInfo];simp[hi,hz,tM ht,Ar hsz,hf]
theorem fU{t:TypeId}{ps:Array (Nat×Operand)}{G:Prop}(hr:Rel Z s σs A L σ w)(hd:Di n ⟨d, .build t ps,ty,pos,after,none⟩=true)(h:TZ P s d t ps.toList k=some r):
  Ia P n ops ⟨d, .build t ps,ty,pos,after,none⟩ Z s σs k r G A L σ w:=by
 have hps:ps=ps.toList.toArray:=by simp
 rw[show(⟨d, .build t ps,ty,pos,after,none⟩:Oper)=⟨d, .build t ps.toList.toArray,ty,pos,after,none⟩ by rw[<-hps]];unfold TZ at h;split at h
 ·rename_i fs zs ht hz;obtain⟨hb,h⟩:=Ae h;obtain⟨z,⟨i,hi,hz0⟩,hz2⟩:=Oe hz;split at h
  ·rename_i l hl;obtain⟨cells,h1,h2⟩:=JC hr (pl:=places zs 0) hl rfl (show Aj.go _ w L zs _ from hz2 _ _ _);have hst:Sr P t (places zs 0) z.cells.toList:=by
    unfold Sr Ue;rw[ht];simp only[JR hb,hi,hz0,uW]
   exact Bn hr (d:=d) (o:= .build t ps.toList.toArray) (by simpa using hd) (X.build hst rfl (by simpa using h1)) rfl (show Br _ w L (.agg l) _ from⟨cells,rfl,h2⟩) h
  ·cases h
 ·rename_i m et e0 l0 ht hz;split at h
  ·rename_i m' a l;split at h
   ·rename_i inf l' Fj hl;obtain⟨hb,h⟩:=Ae h;obtain⟨z,hz1,hz2⟩:=Oe hz;obtain⟨h0,h0'⟩:l.length=m'/\Az (Af (λb=>A b/\Z.R b) w a) l z.cells.toList:=hz2 _ _ L;obtain⟨cells,h1,h2,h3⟩:=XI hr hl h0';have:=eV (σ:=σ) (parts:=ps.toList) ht hz1 (By Fj hb) (by simpa using h1) w;exact Bn hr (d:=d) (o:= .build t ps.toList.toArray) (by simpa using hd) this rfl (show Br _ w L (.val (.vec m' a) l') _ from⟨cells,rfl,h3.trans h0,h2⟩) h
   ·cases h
  ·cases h
 ·cases h
end Go.Rx
namespace Go.Rx
open Go Go.Lv
variable{e:ET}{q:PV}
variable {P:Program} {B B':Reg} {w w':World} {L L':List MD} {s:S} {σs:List Env} {σ:Env} {Z:Fix} {A A':Reg} {n:Nat}
def Uw(B:Reg)(w:World)(L:List MD)(B':Reg)(w':World)(L':List MD)(q q':PV):Prop:=q'.isA=q.isA/\∀cs,Aj B w L q cs->Aj B' w' L' q' cs
inductive All2 {α β:Type} (f:α->β->Prop):List α->List β->Prop
 |nil:All2 f [] []
 |cons {a b l m}:f a b->All2 f l m->All2 f (a::l) (b::m)
theorem All2.split{α β:Type}{f:α->β->Prop}:∀{l1 l2:List α} {m:List β},All2 f (l1++l2) m->∃m1 m2,m=m1++m2/\All2 f l1 m1/\All2 f l2 m2
 |[],_,m,h=>⟨[],m,rfl, .nil,h⟩
 |a::l1,l2,_, .cons h1 h2=>let⟨m1,m2,e,h3,h4⟩:=All2.split h2;⟨_::m1,m2,by rw[e];rfl, .cons h1 h3,h4⟩
mutual
theorem CL:∀{sh:Sh} {p:PV} {ls ls' rest:List PV} {cs:List Value},Gl sh p=some ls->Aj B w L p cs->All2 (Uw B w L B' w' L') ls ls'->∃p',Fh sh (ls'++rest)=some (p',rest)/\p'.isA=p.isA/\Aj B' w' L' p' cs
 | .lf e o,p,ls,ls',rest,cs,h,hp,ha=>by
  simp only[Gl,tO]at h;subst h;cases ha with
  |cons h1 h2=>
   cases h2;exact⟨_,rfl,h1.1,h1.2 _ hp⟩
 | .agg l,p,ls,ls',rest,cs,h,hp,ha=>by
  cases p<;>simp only[Gl,reduceCtorEq]at h;rename_i vs;obtain⟨us,h1,h2⟩:=HY (rest:=rest) h (show Aj.go B w L vs cs from hp) ha;exact⟨.agg us,by simp only[Fh,h1],rfl,h2⟩
theorem HY:∀{l:List Sh} {ps:List PV} {ls ls' rest:List PV} {cs:List Value},Gl.go l ps=some ls->Aj.go B w L ps cs->All2 (Uw B w L B' w' L') ls ls'->∃ps',Fh.go l (ls'++rest)=some (ps',rest)/\Aj.go B' w' L' ps' cs
 |[],[],ls,ls',rest,cs,h,hp,ha=>by
  simp only[Gl.go,tO]at h;subst h;cases ha;exact⟨[],rfl,hp⟩
 |a::l,p::ps,ls,ls',rest,cs,h,⟨c1,c2,e,hp1,hp2⟩,ha=>by
  simp only[Gl.go]at h;split at h
  ·rename_i x y hx hy;cases h;obtain⟨m1,m2,rfl,h1,h2⟩:=ha.split;obtain⟨p',h3,_,h4⟩:=CL (rest:=m2++rest) hx hp1 h1;obtain⟨ps',h5,h6⟩:=HY (rest:=rest) hy hp2 h2;exact⟨p'::ps',by simp only[Fh.go,uK,h3,h5],c1,c2,e,h4,h6⟩
  ·cases h
 |[],_::_,_,_,_,_,h,_,_=>by simp[Gl.go]at h
 |_::_,[],_,_,_,_,h,_,_=>by simp[Gl.go]at h
end
theorem AS:∀{l:List Sh} {ps:List PV} {ls ls' rest:List PV} {us:List Value},Gl.go l ps=some ls->Bs B w L ps us->All2 (Uw B w L B' w' L') ls ls'->∃ps',Fh.go l (ls'++rest)=some (ps',rest)/\Bs B' w' L' ps' us
 |[],[],ls,ls',rest,us,h,hp,ha=>by
  simp only[Gl.go,tO]at h;subst h;cases ha;exact⟨[],rfl,hp⟩
 |a::l,p::ps,ls,ls',rest,us,h,⟨v,us',e,hp1,hp2⟩,ha=>by
  simp only[Gl.go]at h;split at h
  ·rename_i x y hx hy;cases h;obtain⟨m1,m2,rfl,h1,h2⟩:=ha.split;have key:∃p',Fh a (m1++(m2++rest))=some (p',m2++rest)/\bS p'.isA (Aj B' w' L' p') v:=by
    cases hA:p.isA with
    |true=>
     rw[hA]at hp1;obtain⟨cs,e1,hc⟩:=hp1;obtain⟨p',h3,h4,h5⟩:=CL (rest:=m2++rest) hx hc h1;exact⟨p',h3,by rw[h4,hA];exact⟨cs,e1,h5⟩⟩
    |false=>
     rw[hA]at hp1;obtain⟨p',h3,h4,h5⟩:=CL (rest:=m2++rest) hx hp1 h1;exact⟨p',h3,by rw[h4,hA];exact h5⟩
   obtain⟨p',h3,h4⟩:=key;obtain⟨ps',h5,h6⟩:=AS (rest:=rest) hy hp2 h2;exact⟨p'::ps',by simp only[Fh.go,uK,h3,h5],v,us',e,h4,h6⟩
  ·cases h
 |[],_::_,_,_,_,_,h,_,_=>by simp[Gl.go]at h
 |_::_,[],_,_,_,_,h,_,_=>by simp[Gl.go]at h
theorem FR{l:List Sh}{ps ls ls':List PV}{us:List Value}(h:dT l ps=some ls)(hp:Bs B w L ps us)(ha:All2 (Uw B w L B' w' L') ls ls'):∃ps',Ws l ls'=some ps'/\Bs B' w' L' ps' us:=by
 obtain⟨ps',h1,h2⟩:=AS (rest:=[]) h hp ha;rw[uE]at h1;exact⟨ps',by simp only[Ws,h1],h2⟩
theorem WZ{x:e.T}(h:Zc s e q=some x):(∃e0,e= .list e0)\/ (∃e' x',q= .val e' x'/\Tc e' e x'=some x):=by
 unfold Zc at h;split at h
 ·exact .inl ⟨_,rfl⟩
 ·exact .inr ⟨_,_,rfl,h⟩
 ·cases h
theorem cast_eq{e':ET}{x:e.T}{y:e'.T}(h:Tc e e' x=some y):PV.val e x=PV.val e' y:=by
 unfold Tc at h;split at h
 ·rename_i he;subst he;cases h;rfl
 ·cases h
theorem fH{l:List e.T}(h:VL s e q=some l):elems s e q=some l/\q.isA=false/\q.size=1:=by
 unfold VL at h;refine⟨h,?_⟩;unfold elems at h;split at h
 ·split at h
  ·exact⟨rfl,rfl⟩
  ·cases h
 ·exact⟨rfl,rfl⟩
 ·exact⟨rfl,rfl⟩
 ·exact⟨rfl,rfl⟩
 ·exact⟨rfl,rfl⟩
 ·cases h
theorem YU(hr:Rel Z s σs A L σ w){x:e.T}(h:Zc s e q=some x)(hb:∀b,A b/\Z.R b->B' b)(ho:∀i∈owns q,∀z E v c,L[i]? =some (.own z E v c)->Rd B' w z v c):Uw (λb=>A b/\Z.R b) w L B' w L' q (.val e x):=by
 rcases WZ h with⟨e0,rfl⟩|⟨e',x',rfl,hc⟩
 ·obtain⟨h1,hA,h2⟩:=fH (show VL s e0 q=some x from h);refine⟨by rw[hA];rfl,λcs hcs=>?_⟩;have hP:=hcs.HI;have hlen:=hcs.len;have:∃v,cs=[v]:=by
   rw[h2]at hlen
   match cs,hlen with
   |[v],_=>exact⟨v,rfl⟩
  obtain⟨v,rfl⟩:=this;have hv:Br (λb=>A b/\Z.R b) w L q v:=(To hP).2 (by unfold Cz;rw[hA];exact hcs);obtain⟨c0,h3,h4⟩:=Xh hr.mem h1 hv;refine⟨v,c0,rfl,?_,h3.mono λx c h=>Af.step hb (λ_ _=>rfl) h⟩;rcases h4 with h4|⟨i,E,u,cs,hi,h4,hpart⟩
  ·exact h4.step hb (λ_ _=>rfl)
  ·exact hpart _ _ (ho i hi _ _ _ _ h4)
 ·have:=cast_eq hc;rw[this];exact⟨rfl,λcs h=>Af.step hb (λ_ _=>rfl) (show Af _ w e x cs from h)⟩
theorem cV{x:e.T}{s0:S}:Bv e none x s0=(.val e x,s0):=by cases e<;>rfl
theorem MC(x:Jd [])(s0:S):Bz [] x s0=([],s0):=rfl
theorem Th(p:ET×Option TypeId)(x:Jd [p])(s0:S):Bz [p] x s0=([(Bv p.1 p.2 x s0).1],(Bv p.1 p.2 x s0).2):=rfl
theorem Po(p q:ET×Option TypeId)(r:List (ET×Option TypeId))(x:p.1.T)(y:Jd (q::r))(s0:S):Bz (p::q::r) (x,y) s0=
  ((Bv p.1 p.2 x s0).1::(Bz (q::r) y (Bv p.1 p.2 x s0).2).1,(Bz (q::r) y (Bv p.1 p.2 x s0).2).2):=rfl
theorem sE{p:ET×Option TypeId}:Nl s [p] []=none:=rfl
theorem sC{p:ET×Option TypeId}{r:PV}{qs:List PV}:Nl s [p] (q::r::qs)=none:=rfl
theorem sI{qs:List PV}:Nl s [] (q::qs)=none:=rfl
theorem sH{p q:ET×Option TypeId}{r:List (ET×Option TypeId)}:Nl s (p::q::r) []=none:=rfl
theorem sG{p q:ET×Option TypeId}{r:List (ET×Option TypeId)}{v:PV}{vs:List PV}:Nl s (p::q::r) (v::vs)=(match Zc s p.1 v,Nl s (q::r) vs with|some x,some y=>some ((x,y):p.1.T×Jd (q::r))|_,_=>none):=rfl
theorem YO{qs:List PV}{x:Jd []}(h:Nl s [] qs=some x):qs=[]:=by
 match qs,h with
 |[],_=>rfl
 |_::_,h=>rw[sI]at h;cases h
theorem XV{p:ET×Option TypeId}{qs:List PV}{x:Jd [p]}(h:Nl s [p] qs=some x):∃q,qs=[q]/\Zc s p.1 q=some x:=by
 match qs,h with
 |[],h=>rw[sE]at h;cases h
 |[q],h=>exact⟨q,rfl,h⟩
 |q::r::qs,h=>rw[sC]at h;cases h
theorem TF{p q:ET×Option TypeId}{r:List (ET×Option TypeId)}{qs:List PV}{z:Jd (p::q::r)}(h:Nl s (p::q::r) qs=some z):
  ∃v vs,∃(x:p.1.T) (y:Jd (q::r)),qs=v::vs/\z=(x,y)/\Zc s p.1 v=some x/\Nl s (q::r) vs=some y:=by
 match qs,h with
 |[],h=>rw[sH]at h;cases h
 |v::vs,h=>
  rw[sG]at h;split at h
  ·rename_i x y hx hy;cases h;exact⟨v,vs,x,y,rfl,rfl,hx,hy⟩
  ·cases h
def Dy(L:List MD):List (ET×Option TypeId)->List PV->List MD
 |p::r,v::vs=>match p.2 with
  |none=>Dy L r vs
  |some E=>(match p.1,v with
   | .list _, .own i=>L.getD i .dead
   | .list a,_=> .own a.size E (.slice none 0 0) []
   |_,_=> .dead)::Dy L r vs
 |_,_=>[]
theorem FZ:∀{ls:List (ET×Option TypeId)} {vs:List PV} {is:List Nat},SS ls=true->consume s ls vs=some is->is=[]
 |[],[],is,_,h=>by simp[consume]at h;exact h
 |[],_::_,_,_,h=>by simp[consume]at h
 |_::_,[],_,_,h=>by simp[consume]at h
 |(e,none)::r,v::vs,is,hn,h=>FZ (ls:=r) (vs:=vs) (by simpa [SS]using hn) (by simpa [consume]using h)
 |(e,some _)::r,v::vs,is,hn,h=>by simp[SS]at hn
theorem DV{N:Reg}:∀{ls:List (ET×Option TypeId)} {vs:List PV} {is:List Nat} {A:Reg},consume s ls vs=some is->Bg w A (is.map λi=>(L.getD i .dead).Cs)->Bg w A ((Dy L ls vs).map MD.Cs)
 |[],[],_,_,_,_=>trivial
 |[],_::_,_,_,h,_=>by simp[consume]at h
 |_::_,[],_,_,h,_=>by simp[consume]at h
 |(e,none)::r,v::vs,is,A,h,hm=>DV (N:=N) (ls:=r) (vs:=vs) (by simpa [consume]using h) hm
 |(e,some E)::r,v::vs,is,A,h,hm=>by
  simp only[consume]at h;split at h
  ·rename_i a;exact⟨none,⟨none,0,0,rfl,A9,tY _,λ_=>rfl,λ_=>rfl,λb h=>by cases h⟩,λb hb=>(by cases hb),(DV (N:=N) h hm).Hp λb hb=>hb.elim id (λh=>by cases h)⟩
  ·rename_i a i;split at h
   ·rename_i E' a' l hi;obtain⟨_,h⟩:=Ae h;simp only[uN]at h;obtain⟨is',h1,rfl⟩:=h;obtain⟨o,g1,g2,g3⟩:=hm;exact⟨o,g1,g2,DV (N:=N) h1 g3⟩
   ·cases h
  ·cases h
theorem TN{B1:Reg}(hr:Rel Z s σs A L σ w)(hb:∀b,A b/\Z.R b->B1 b):∀(ls:List (ET×Option TypeId)) (vs:List PV) (x:Jd ls) (is:List Nat) (s0:S) (Lx LF:List MD),
  Nl s ls vs=some x->consume s ls vs=some is-> (∀i∈Fq ls vs,∀z E v c,L[i]? =some (.own z E v c)->Rd B1 w z v c)->Lx.length=s0.it.length->LF=Lx++Dy L ls vs->
  ∃its,(Bz ls x s0).2=⟨s0.sl,s0.it++its,s0.st⟩/\its.length=(Dy L ls vs).length/\All2 (Uw (λb=>A b/\Z.R b) w L B1 w LF) vs (Bz ls x s0).1/\
   ∀(i:Nat) (a:Item) (m:MD),its[i]? =some a-> (Dy L ls vs)[i]? =some m->Ht B1 w LF a m
 |[],vs,x,is,s0,Lx,LF,hp,hc,_,_,_=>by
  rw[YO hp];refine⟨[],?_,rfl,All2.nil,λi a m h=>by simp at h⟩;rw[MC];simp
 |p::ls,vs,x,is,s0,Lx,LF,hp,hc,ho,hlen,ZU=>by
  have main:∀(v:PV) (vs':List PV) (x1:p.1.T) (rest:S->List PV×S),vs=v::vs'->Zc s p.1 v=some x1->
    (Bz (p::ls) x s0=((Bv p.1 p.2 x1 s0).1::(rest (Bv p.1 p.2 x1 s0).2).1,(rest (Bv p.1 p.2 x1 s0).2).2))->
    (∀(is:List Nat) (s1:S) (Lx:List MD),consume s ls vs'=some is-> (∀i∈Fq ls vs',∀z E v c,L[i]? =some (.own z E v c)->Rd B1 w z v c)->Lx.length=s1.it.length->LF=Lx++Dy L ls vs'->
     ∃its,(rest s1).2=⟨s1.sl,s1.it++its,s1.st⟩/\its.length=(Dy L ls vs').length/\All2 (Uw (λb=>A b/\Z.R b) w L B1 w LF) vs' (rest s1).1/\
      ∀(i:Nat) (a:Item) (m:MD),its[i]? =some a-> (Dy L ls vs')[i]? =some m->Ht B1 w LF a m)->
    ∃its,(Bz (p::ls) x s0).2=⟨s0.sl,s0.it++its,s0.st⟩/\its.length=(Dy L (p::ls) vs).length/\All2 (Uw (λb=>A b/\Z.R b) w L B1 w LF) vs (Bz (p::ls) x s0).1/\
     ∀(i:Nat) (a:Item) (m:MD),its[i]? =some a-> (Dy L (p::ls) vs)[i]? =some m->Ht B1 w LF a m:=by
   intro v vs' x1 rest hvs hx hu hrest;subst hvs;rw[hu];obtain⟨e,o⟩:=p;cases o with
   |none=>
    have hc':consume s ls vs'=some is:=by simpa [consume]using hc
    have e1:Bv e none x1 s0=(.val e x1,s0):=cV;simp only[e1];obtain⟨its,h1,h2,h3,h4⟩:=hrest is s0 Lx hc' (λi hi=>ho i (by simp[Fq,hi])) hlen ZU;refine⟨its,h1,h2, .cons (YU hr hx hb (λi hi z E v c hL=>ho i (by simp[Fq,hi]) z E v c hL)) h3,h4⟩
   |some E=>
    simp only[consume]at hc;split at hc
    ·rename_i a;have hx':x1=[]:=by
      have:elems s a .nils=some x1:=hx;simpa [elems]using this.symm
     subst hx';have e1:Bv (.list a) (some E) [] s0=(.own s0.new,s0.add (.arr E a [])):=rfl;simp only[e1];obtain⟨its,h1,h2,h3,h4⟩:=hrest is (s0.add (.arr E a [])) (Lx++[.own a.size E (.slice none 0 0) []]) hc (λi hi=>ho i (by simpa [Fq]using hi)) (by simp[S.add,hlen]) (by rw[ZU];simp[Dy]);refine⟨.arr E a []::its,by rw[h1];simp[S.add],by simp[Dy,h2], .cons ⟨rfl,λcs hcs=>?_⟩ h3,λi b m hi hm=>?_⟩
     ·refine⟨a.size,E, .slice none 0 0,[],?_,hcs⟩;rw[ZU,S.new,<-hlen];simp[Dy]
     ·cases i with
      |zero=>
       simp[Dy]at hi hm;subst hi hm;exact⟨rfl,rfl,rfl⟩
      |succ i=>exact h4 i b m (by simpa using hi) (by simpa [Dy]using hm)
    ·rename_i a i;split at hc
     ·rename_i E' a' l hi;obtain⟨hb1,hc1⟩:=Ae hc;clear hc;simp only[tK,uX]at hb1;obtain⟨hE,rfl⟩:=hb1;have:=Bc hE;subst this;simp only[uN]at hc1;obtain⟨is',hc',rfl⟩:=hc1;obtain⟨u,cs0,g1,g2⟩:=hr.mem.arr hi;have hx':x1=l:=by
       have:elems s a' (.own i)=some x1:=hx;simp[elems,hi]at this;exact this.symm
      subst hx';have hg:L.getD i .dead= .own a'.size E' u cs0:=by simp[List.getD_eq_getElem?_getD,g1]
      have e1:Bv (.list a') (some E') x1 s0=(.own s0.new,s0.add (.arr E' a' x1)):=rfl;simp only[e1];obtain⟨its,h1,h2,h3,h4⟩:=hrest is' (s0.add (.arr E' a' x1)) (Lx++[.own a'.size E' u cs0]) hc' (λi hi=>ho i (by simpa [Fq]using hi)) (by simp[S.add,hlen]) (by rw[ZU];simp only[Dy,hg];simp);refine⟨.arr E' a' x1::its,by rw[h1];simp[S.add],by simp[Dy,h2], .cons ⟨rfl,λcs hcs=>?_⟩ h3,λq b m hq hm=>?_⟩
      ·obtain⟨z,E2,v2,c2,k1,k2⟩:=hcs;rw[g1]at k1;cases k1;refine⟨a'.size,E',u,cs0,?_,k2⟩;rw[ZU,S.new,<-hlen];simp only[Dy,hg];simp
      ·cases q with
       |zero=>
        simp only[Dy,hg]at hq hm;simp at hq hm;subst hq hm;exact⟨rfl,rfl,g2.mono λx c h=>Af.step hb (λ_ _=>rfl) h⟩
       |succ q=>exact h4 q b m (by simpa using hq) (by simpa [Dy]using hm)
     ·cases hc
    ·cases hc
  cases ls with
  |nil=>
   obtain⟨v,rfl,hx⟩:=XV hp;exact main v [] x (λs1=>([],s1)) rfl hx (Th p x s0) (λis s1 Lx _ _ hlen ZU=>⟨[],A9,rfl,All2.nil,λi a m h=>by simp at h⟩)
  |cons q r=>
   obtain⟨v,vs',x1,y',rfl,rfl,hx,hy⟩:=TF hp;exact main v vs' x1 (λs1=>Bz (q::r) y' s1) rfl hx (Po p q r x1 y' s0)
    (λis s1 Lx hc ho hlen ZU=>TN hr hb (q::r) vs' y' is s1 Lx LF hy hc ho hlen ZU)
theorem XH:∀(a b:List PV),owns.go (a++b)=owns.go a++owns.go b
 |[],b=>rfl
 |x::a,b=>by simp[owns.go,XH a b]
mutual
theorem aP:∀{sh:Sh} {p:PV} {ls:List PV},Gl sh p=some ls->owns.go ls=owns p
 | .lf e o,p,ls,h=>by simp only[Gl,tO]at h;subst h;simp[owns.go]
 | .agg l,p,ls,h=>by cases p<;>simp only[Gl,reduceCtorEq]at h;exact CN h
theorem CN:∀{l:List Sh} {ps ls:List PV},Gl.go l ps=some ls->owns.go ls=owns.go ps
 |[],[],ls,h=>by simp only[Gl.go,tO]at h;subst h;rfl
 |a::l,p::ps,ls,h=>by
  simp only[Gl.go]at h;split at h
  ·rename_i x y hx hy;cases h;rw[XH,aP hx,CN hy];rfl
  ·cases h
 |[],_::_,_,h=>by simp[Gl.go]at h
 |_::_,[],_,h=>by simp[Gl.go]at h
end
structure KeepN (N:Reg) (w w':World):Prop where
 same:∀b,b<w.heap.size->N b->w'.heap[b]? =w.heap[b]?
 gr:Gr w w'
def GlOk(gl:List (Nat×List Value))(N:Reg)(w:World):Prop:=∀p∈gl,p.1<w.heap.size/\N p.1/\∃T fr,w.heap[p.1]? =some (.cells p.2.toArray T fr)
def mP(gl:List (Nat×List Value))(R N:Reg)(w w':World)(rs:List Sh)(y:Jd (Fm rs))(us:List Value):Prop:=
 KeepN N w w'/\∃(A1:Reg) (L1:List MD),(∀b,A1 b-> (¬N b\/w.heap.size<=b)/\b<w'.heap.size)/\Bg w' (λb=>A1 b\/ (b<w.heap.size/\N b)) (L1.map MD.Cs)/\
  ∀(s:S) (L:List MD) (B':Reg),L.length=s.it.length-> (∀b,A1 b->B' b)-> (lX rs=true->∀b,(R b/\N b)\/ (∃p∈gl,p.1=b)->B' b)->
   ∃ps its,(Bz (Fm rs) y s).2=⟨s.sl,s.it++its,s.st⟩/\Ws rs (Bz (Fm rs) y s).1=some ps/\Bs B' w' (L++L1) ps us/\its.length=L1.length/\
   ∀(i:Nat) (a:Item) (m:MD),its[i]? =some a->L1[i]? =some m->Ht B' w' (L++L1) a m
structure ConOk (P:Program) (gl:List (Nat×List Value)) (f:Nat) (c:Con):Prop where
 ent:Ent P f
 ok:∀(R N:Reg) (w:World) (L0:List MD) (vs:List Value) (ps:List PV) (x:Jd (Fm c.ps)) (y:Jd (Fm c.rs)),args c.ps x=some ps-> (WN c.ps x).length=L0.length->
  (∀(i:Nat) (a:Item) (m:MD),(WN c.ps x)[i]? =some a->L0[i]? =some m->Ht (λb=>R b/\N b) w L0 a m)->Bg w N (L0.map MD.Cs)->Bs (λb=>R b/\N b) w L0 ps vs->GlOk gl N w->c.fn x=some y->
  Calls P f vs.toArray w λe w'=>∃us,e= .returned (Lz us)/\mP gl R N w w' c.rs y us
end Go.Rx
namespace Go.Rx
open Go Go.Lv
variable{g:Operand}{G:Prop}
variable {P:Program} {B B':Reg} {w w':World} {L L':List MD} {s:S} {σs:List Env} {σ:Env} {Z:Fix} {A A':Reg} {n:Nat} {ops:Array Oper}
variable {R:Type} {k:S->Option R} {r:R} {d:Option Nat} {ty:TypeId} {pos:String} {after:Array Edge} {T:Tab} {inl:GD R}
def Ir(P:Program)(gl:List (Nat×List Value))(inl:GD R):Prop:=∀(Z:Fix),Z.gl=gl->∀(f:Nat) (as:List PV) (s:S) (k:S->PV->Option R) (r:R) (σs:List Env) (A:Reg) (L:List MD) (σ:Env) (w:World) (vs:List Value),
 inl f as s k=some r->Rel Z s σs A L σ w->Bs (λb=>A b/\Z.R b) w L as vs->Ent P f/\Calls P f vs.toArray w λe w'=>∃v p s' A' L',e= .returned v/\k s' p=some r/\Rel Z s' σs A' L' σ w'/\p.isV=true/\Br (λb=>A' b/\Z.R b) w' L' p v
def Jt(P:Program)(T:Tab):Prop:=∀f c,T.get f=some c->ConOk P T.gl f c
def Vp(P:Program)(T:Tab)(Z:Fix):Prop:=Jt P T/\Z.gl=T.gl
theorem Bs.step{q:List PV}{vs:List Value}(hb:∀b,B b->B' b)(hs:Same B w w')(hl:Vo L L')(h:Bs B w L q vs):Bs B' w' L' q vs:=Aj.JA hb hs hl h
theorem Bs.append:∀{p q:List PV} {us vs:List Value},Bs B w L p us->Bs B w L q vs->Bs B w L (p++q) (us++vs)
 |[],q,us,vs,h,h'=>by rw[show us=[]from h];exact h'
 |a::p,q,us,vs,⟨v,us',e,h1,h2⟩,h'=>⟨v,us'++vs,by rw[e];rfl,h1,Bs.append h2 h'⟩
theorem ZA{ps:List PV}{us:List Value}(h:Bs B w L ps us):(XS ps).isV=true/\Br B w L (XS ps) (Lz us):=by
 match ps,us,h with
 |[],us,h=>rw[show us=[]from h];exact⟨rfl,[],rfl,rfl⟩
 |[p],us,⟨v,us',e,h1,h2⟩=>
  rw[show us'=[]from h2]at e;subst e;exact Df h1
 |p::q::r,us,h=>
  obtain⟨v,us',e,h1,v2,rX,e2,h2,h3⟩:=h;subst e2 e;exact⟨rfl,v::v2::rX,rfl,v,_,rfl,h1,v2,rX,rfl,h2,h3⟩
theorem Rel.fI{w':World}{A1 BX:Reg}{L1:List MD}{its:List Item}(hr:Rel Z s σs A L σ w)(mW:∀b,BX b-> ¬A b/\b<w.heap.size)(hY:Bg w (λb=>A b\/BX b) (L.map MD.Cs))
  (hk:KeepN (λb=>¬BX b) w w') (hA1:∀b,A1 b-> (¬ ¬BX b\/w.heap.size<=b)/\b<w'.heap.size)
  (hm:Bg w' (λb=>A1 b\/ (b<w.heap.size/\ ¬BX b)) (L1.map MD.Cs)) (hlen:its.length=L1.length)
  (hit:∀(i:Nat) (a:Item) (m:MD),its[i]? =some a->L1[i]? =some m->Ht (λb=>(A b\/A1 b)/\Z.R b) w' (L++L1) a m):
  Rel Z ⟨s.sl,s.it++its,s.st⟩ σs (λb=>A b\/A1 b) (L++L1) σ w':=by
 have hlt:=St.lt hr;have hsame:Same A w w':=λb hb=>hk.same b (hlt b hb) λh=>(mW b h).1 hb;have hmem:MemR (λb=>A b/\Z.R b) w' L s σs σ:=Fact.step _ (hr.fact 0 (f:=GH Z.R L s σs σ) rfl) (λ_ h=>h) hsame hk.gr;have hold:(Fact.old Z.M Z.w0).holds A w':=Fact.step _ (hr.fact 1 (f:= .old Z.M Z.w0) rfl) (λ_ h=>h) hsame hk.gr;have hl:=Vo.append L L1;have hst:St (λb=>A b\/A1 b) w' [.old Z.M Z.w0] (L1.map MD.Cs++L.map MD.Cs):=by
  refine⟨λb hb=>hb.elim (λh=>tZ (hlt b h) hk.gr.le) (λh=>(hA1 b h).2),λf hf=>?_,?_⟩
  ·cases hf with
   |head=>exact Fact.step _ hold (λ_ h=> .inl h) (λ_ _=>rfl) (.refl _)
   |tail _ h=>cases h
  ·refine Bg.append (λb=>b<w.heap.size/\ ¬BX b) (λb hb=>tZ hb.1 hk.gr.le) (hm.Hp ?_) ?_
   ·rintro b ((h|h)|h)
    ·exact .inr ⟨hlt b h,λhx=>(mW b hx).1 h⟩
    ·exact .inl h
    ·exact .inr h
   ·refine(hY.lt.step hk.gr.le λb hb hn=>hk.same b hb λh=>hn (.inl (.inr h))).Hp ?_;rintro b ((h|h)|h)
    ·exact .inl (.inl h)
    ·rcases(hA1 b h).1 with h|h
     ·exact .inl (.inr (Classical.not_not.1 h))
     ·exact .inr h
    ·by_cases hx:BX b
     ·exact .inl (.inr hx)
     ·exact .inr (Nat.le_of_not_lt λhl=>h ⟨hl,hx⟩)
 have hb:∀b,A b/\Z.R b-> (A b\/A1 b)/\Z.R b:=λb h=>⟨.inl h.1,h.2⟩;refine Rel.as (Bg.Ui hst List.perm_append_comm) (i:=0) rfl ⟨⟨?_,?_⟩,hmem.sl.step hb (λ_ _=>rfl) hl,hmem.stk.step hb (λ_ _=>rfl) hl⟩ (by rw[vF])
 ·simp[hmem.it.1,hlen]
 ·intro i a m g1 g2;simp only at g1;rcases uS i s.it.length with hi|hi
  ·rw[List.getElem?_append_left hi]at g1;rw[List.getElem?_append_left (by rw[<-hmem.it.1];exact hi)]at g2;exact(hmem.it.2 i a m g1 g2).step hb (λ_ _=>rfl) hl
  ·rw[List.getElem?_append_right hi]at g1;rw[List.getElem?_append_right (by rw[<-hmem.it.1];exact hi)]at g2;rw[hmem.it.1]at g1;exact hit _ a m g1 g2
theorem Bg.split:∀{X Y:List Mob} {A:Reg},Bg w A (X++Y)->∃BX:Reg,(∀b,BX b-> ¬A b/\b<w.heap.size)/\Bg w (λb=>¬BX b) X/\Bg w (λb=>A b\/BX b) Y
 |[],Y,A,h=>⟨λ_=>False,λb hb=>hb.elim,trivial,h.Hp λb hb=>hb.elim id λh=>h.elim⟩
 |m::X,Y,A,⟨o,h1,h2,h3⟩=>by
  obtain⟨BX,g1,g2,g3⟩:=Bg.split h3;refine⟨λb=>BX b\/o=some b,λb hb=>?_,⟨o,h1,λb hb=>⟨λh=>h (.inr hb),(h2 b hb).2⟩,g2.Hp ?_⟩,g3.Hp ?_⟩
  ·rcases hb with hb|hb
   ·exact⟨λh=>(g1 b hb).1 (.inl h),(g1 b hb).2⟩
   ·exact h2 b hb
  ·rintro b (hb|hb)
   ·exact λh=>hb (.inl h)
   ·exact λh=>(g1 b h).1 (.inr hb)
  ·rintro b (hb|hb|hb)
   ·exact .inl (.inl hb)
   ·exact .inr hb
   ·exact .inl (.inr hb)
theorem Bg.oS:∀{Y:List Mob} {A:Reg} {i:Nat} {m:Mob},Bg w A Y->Y[i]? =some m->∃o,m.holds o w/\∀b,o=some b-> ¬A b
 |_::_,A,0,m,⟨o,h1,h2,_⟩,h=>⟨o,by simp at h;exact h▸h1,λb hb=>(h2 b hb).1⟩
 |_::Y,A,i+1,m,⟨o,_,_,h3⟩,h=>by
  obtain⟨q,g1,g2⟩:=Bg.oS h3 (i:=i) (by simpa using h);exact⟨q,g1,λb hb hA=>g2 b hb (.inl hA)⟩
theorem ZJ{w:World}:MD.dead.Cs.holds none w:=⟨none,0,0,rfl,A9,tY _,λ_=>rfl,λ_=>rfl,λb h=>by cases h⟩
theorem Iq{i:Nat}:∀{l:List Nat},Hq i l=true↔i∈l
 |[]=>by simp[Hq]
 |j::l=>by
  simp only[Hq,vE,List.mem_cons,Iq (l:=l)];exact or_congr ⟨Bc,λh=>by subst h;simp⟩ Iff.rfl
theorem HG{f:Item->Item}(hf:f .dead= .dead):∀{l:List Item} {i:Nat},Bd (l.map f) i=f (Bd l i)
 |[],_=>by simp[Bd,hf]
 |_::_,0=>rfl
 |_::r,i+1=>by simpa [Bd]using HG hf (l:=r) (i:=i)
theorem Zb:∀{l:List Item} {i j:Nat},Bd l i= .dead->Bd (Jf l j .dead) i= .dead
 |[],_,_,h=>by simpa [Jf]using h
 |_::_,0,0,_=>rfl
 |_::_,0,j+1,h=>by simpa [Jf,Bd]using h
 |_::_,i+1,0,h=>by simpa [Jf,Bd]using h
 |_::r,i+1,j+1,h=>by simpa [Jf,Bd]using Zb (l:=r) (i:=i) (j:=j) (by simpa [Bd]using h)
theorem Wg:∀{l:List Item} {i:Nat},Bd (Jf l i .dead) i= .dead
 |[],_=>rfl
 |_::_,0=>rfl
 |_::r,i+1=>by simpa [Jf,Bd]using Wg (l:=r) (i:=i)
theorem PQ{i:Nat}:∀{is:List Nat} {s s':S},Bd s.it i= .dead->s.JI is=some s'->Hq i is=false
 |[],_,_,_,_=>rfl
 |j::is,s,s',hd,h=>by
  simp only[S.JI]at h;split at h
  ·rename_i s1 h1;unfold S.kill at h1;split at h1
   ·rename_i E e l hj;cases h1;have hij:Nat.beq i j=false:=by
     cases hb:Nat.beq i j with
     |false=>rfl
     |true=>rw[Bc hb]at hd;rw[hd]at hj;cases hj
    have:Bd ((s.Fy j .dead).sub j .any).it i= .dead:=by
     show Bd ((Jf s.it j .dead).map _) i=_;rw[HG rfl,Zb hd];rfl
    simp[Hq,hij,PQ this h]
   ·cases h1
  ·cases h
theorem YX:∀{is:List Nat} {s s':S} {L:List MD},MemR B w L s σs σ-> (∀(i z:Nat) (E:TypeId) (v:Value) (c:List Value),L[i]? =some (.own z E v c)->v.oneCell'=true)->s.JI is=some s'->
  ∃L',MemR B w L' s' σs σ/\ (is=[]->L'=L)/\ (∀j,Hq j is=false->L'[j]? =L[j]?)/\∀(A:Reg) (X:List Mob),Bg w A (X++L.map MD.Cs)->Bg w A (X++(is.map λi=>(L.getD i .dead).Cs)++L'.map MD.Cs)
 |[],s,s',L,hm,_,h=>by
  simp only[S.JI,tO]at h;subst h;exact⟨L,hm,λ_=>rfl,λ_ _=>rfl,λA X hX=>by simpa using hX⟩
 |i::is,s,s',L,hm,hone,h=>by
  simp only[S.JI]at h;split at h
  ·rename_i s1 h1;unfold S.kill at h1;split at h1
   ·rename_i E e l hi;cases h1;obtain⟨v,cs,hL,_⟩:=hm.arr hi;have hf:Frz B w L i .any:=⟨λz E' u c h=>⟨u,rfl,by rw[hL]at h;cases h;exact hone _ _ _ _ _ hL⟩,rfl,rfl⟩;have hm2:=hm.subst hf;have hlt:=(List.getElem?_eq_some_iff.1 hL).1;obtain⟨L',g1,g2,g3,g4⟩:=YX hm2 (λj z E v c hj=>by
     by_cases hji:j=i
     ·subst hji;rw[List.getElem?_set_self hlt]at hj;cases hj
     ·rw[List.getElem?_set_ne (vN hji)]at hj;exact hone _ _ _ _ _ hj) h
    refine⟨L',g1,(λe=>by cases e),λj hj=>?_,λA X hX=>?_⟩
    ·simp only[Hq,uU]at hj;rw[g3 j hj.2,List.getElem?_set_ne (λe=>by subst e;simp at hj)]
    ·have AB:(L.map MD.Cs)[i]? =some (L.getD i .dead).Cs:=by simp[hL,List.getD_eq_getElem?_getD]
     have hX1:Bg w A (MD.dead.Cs::(L.map MD.Cs).eraseIdx i++(X++[(L.getD i .dead).Cs])):=by
      have h1:Bg w A (MD.dead.Cs::(X++L.map MD.Cs)):=⟨none,ZJ,λb hb=>(by cases hb),hX.Hp λb hb=>hb.elim id λh=>by cases h⟩;refine h1.perm (.cons _ ?_);have hp:=(CV AB).symm;refine(List.Perm.append_left X hp).trans ?_;rw[show X++(L.getD i .dead).Cs::(L.map MD.Cs).eraseIdx i=(X++[(L.getD i .dead).Cs])++(L.map MD.Cs).eraseIdx i by simp];exact List.perm_append_comm
     have hX2:Bg w A ((X++[(L.getD i .dead).Cs])++(L.set i .dead).map MD.Cs):=by
      refine hX1.perm (List.perm_append_comm.trans (List.Perm.append_left _ ?_));rw[vM];exact Nx AB
     have:=g4 A _ hX2;have hni:Hq i is=false:=PQ (s:=(s.Fy i .dead).sub i .any) (by
      show Bd ((Jf s.it i .dead).map _) i=_;rw[HG rfl,Wg];rfl) h
     have he:(is.map λj=>((L.set i .dead).getD j .dead).Cs)=is.map λj=>(L.getD j .dead).Cs:=by
      refine List.map_congr_left λj hj=>?_;have:j≠i:=λe=>by
       subst e;rw[Iq.2 hj]at hni;cases hni
      simp only[List.getD_eq_getElem?_getD,List.getElem?_set_ne (vN this)]
     rw[he]at this;simpa using this
   ·cases h1
  ·cases h
theorem Af.pQ:∀{e:ET} {x:e.T} {cs:List Value},e.QV=false->Af B w e x cs->Af B' w' e x cs
 | .int k,x,cs,_,h=>h
 | .bool,x,cs,_,h=>h
 | .str,x,cs,_,h=>h
 | .list e,l,cs,hL,h=>by cases hL
 | .vec m e,l,cs,hL,⟨h1,h2⟩=>⟨h1,h2.mono λx c h=>Af.pQ (e:=e) hL h⟩
 | .cons a q,x,cs,hL,⟨c1,c2,e,h1,h2⟩=>by
  simp only[ET.QV,uU]at hL;exact⟨c1,c2,e,Af.pQ hL.1 h1,Af.pQ hL.2 h2⟩
 | .nil,_,cs,_,h=>h
theorem NN:∀{ls:List (ET×Option TypeId)} {vs:List PV},owns.go vs=[]->Fq ls vs=[]
 |[],_,_=>by unfold Fq;rfl
 |_::_,[],_=>by unfold Fq;rfl
 |(e,o)::ls,v::vs,h=>by
  simp only[owns.go,List.append_eq_nil_iff]at h;cases o<;>simp[Fq,h.1,NN h.2]
theorem Rel.out(hr:Rel Z s σs A L σ w){b:Nat}(hb:¬A b):Z.R b:=by
 rcases uS b Z.w0.heap.size with hlt|hge
 ·have hold:=(hr.fact 1 (f:= .old Z.M Z.w0) rfl).2 b hlt;exact Z.mod b (uP λhM=>hb (hold hM).1)
 ·exact Z.new b hge
theorem gY{f:Nat}{fs:List PV}{as:Array Operand}{ts:Array TypeId}{dn:Nat}(hT:Vp P T Z)(hI:Ir P T.gl inl)(hr0:Rel Z s σs A L σ w)(hg:Bo s.sl g= .bfn f fs)
  (hd:Di n ⟨some dn, .call ⟨.value g,as,ts⟩,ty,pos,after,none⟩=true) (hP:PX (as.toList.map (Bo s.sl))=true) (h:inl f (fs++as.toList.map (Bo s.sl)) s (λs v=>k (s.Cg (some dn) v))=some r) (hG:¬G):
  Ia P n ops ⟨some dn, .call ⟨.value g,as,ts⟩,ty,pos,after,none⟩ Z s σs k r G A L σ w:=by
 obtain⟨fvs,hgv,hfs⟩:∃vs:List Value,ev σ g= .func (.func f) vs.toArray #[]/\Bs (λb=>A b/\Z.R b) w L fs vs:=by
  obtain⟨vs,h1,h2⟩:=Bf hr0.mem.sl hg rfl;exact⟨vs,by simpa using h1,h2⟩
 have hpv:=Bs.append hfs (Zo hr0.mem.sl _ hP);obtain⟨he,hcall⟩:=hI Z hT.2 f _ s _ r σs A L σ w _ h hr0 hpv;have hxe:XE P σ w (.call ⟨.value g,as,ts⟩) f (fvs++as.toList.map (ev σ)).toArray:=λ_ _ _ _ _=>by
  have h1:(callFunc f (fvs.toArray++as.map (ev σ))).run P w= .ok (.enter f (fvs.toArray++as.map (ev σ))) w:=he _ w;have h2:(fvs++as.toList.map (ev σ)).toArray=fvs.toArray++as.map (ev σ):=by apply Array.ext';simp
  rw[h2];simp[execOp,resolve,hgv,Deferred.ofValue,invoke,h1]
 refine WL.e (Oq hd) hxe hcall ?_;rintro e w' ⟨v,p,s',A',L',rfl,hk,hr',hv,hv'⟩;exact⟨_,rfl,WL.nil ⟨_,A',L',hk,hr'.Cg (d:=some dn) hv hv',λgg=>absurd gg hG⟩⟩
theorem kR{f:Nat}{caps:List PV}{as:Array Operand}{ts:Array TypeId}{dn:Nat}(hT:Vp P T Z)(hI:Ir P T.gl inl)(hr0:Rel Z s σs A L σ w)(hg:Bo s.sl g= .fn f caps)
  (hd:Di n ⟨some dn, .call ⟨.value g,as,ts⟩,ty,pos,after,none⟩=true) (h:bK P T inl s (some dn) f caps as.toList k=some r)
  (hG:G->∃c,T.get f=some c/\SS (Fm c.ps)=true/\ (NM c=false\/owns.go (as.toList.map (Bo s.sl))=[])):
  Ia P n ops ⟨some dn, .call ⟨.value g,as,ts⟩,ty,pos,after,none⟩ Z s σs k r G A L σ w:=by
 obtain⟨rY,hgv,mX⟩:=cC (Bf hr0.mem.sl hg rfl);have has:as=as.toList.toArray:=by simp
 have hxe:Ent P f->XE P σ w (.call ⟨.value g,as,ts⟩) f (as.toList.map (ev σ)++rY).toArray:=λhe=>by
  have:=X.pL (P:=P) (σ:=σ) (w:=w) (args:=as.toList) (ts:=ts) he hgv rfl;rw[<-has]at this;exact this
 unfold bK at h;split at h
 ·rename_i c hc;have hcon:=hT.1 f c hc;split at h
  ·have hc0:rY=[]:=mX;subst hc0;split at h
   ·cases h
   ·rename_i qC qE;split at h
    ·cases h
    ·rename_i s1 hs1;obtain⟨A1,L1,hr,hsame⟩:∃A1 L1,Rel Z s1 σs A1 L1 σ w/\ (G->s1=s/\A1=A/\L1=L):=by
      split at hs1
      ·rename_i hro;obtain⟨A1,L1,h1,h2⟩:=Fa hr0 hs1;refine⟨A1,L1,h1,λg=>h2 ?_⟩;obtain⟨c',hc',_,h3⟩:=hG g;rw[hc]at hc';cases hc';rcases h3 with h3|h3
       ·rw[hro]at h3;cases h3
       ·exact NN (by rw[CN qE];exact h3)
      ·cases hs1;exact⟨A,L,hr0,λ_=>⟨rfl,rfl,rfl⟩⟩
     cases hP:PX (as.toList.map (Bo s1.sl))with
     |false=>rw[hP]at h;cases h
     |true=>
     rw[hP]at h;simp only[vG,vP]at h;try dsimp only[Be]at h
     split at h
     ·cases h
     ·rename_i ls hls;cases jG:(NM c&& !(Fq (Fm c.ps) ls).isEmpty)with
      |true=>rw[jG]at h;cases h
      |false=>
      rw[jG]at h;dsimp only[Be,cond]at h;split at h
      ·cases h
      ·rename_i x hx;split at h
       ·cases h
       ·rename_i is his;cases oI:(!((Fq (Fm c.ps) ls).all λi=>!Hq i is))with
        |true=>rw[oI]at h;cases h
        |false=>
        rw[oI]at h;dsimp only[Be,cond]at h;split at h
        ·cases h
        ·rename_i s2 hs2;obtain⟨y,hy,h⟩:=bind_some h;change (match Ws c.rs (Bz (Fm c.rs) y s2).1 with|some vs=>k ((Bz (Fm c.rs) y s2).2.Cg (some dn) (XS vs))|none=>none)=some r at h;have hpv:=Zo hr.mem.sl _ hP;have hone:∀(i z:Nat) (E:TypeId) (v:Value) (c:List Value),L1[i]? =some (.own z E v c)->v.oneCell'=true:=λi z E v c hi=>by
          obtain⟨p,len,cap,rfl,_⟩:=hr.Fp hi;rfl
         obtain⟨L2,hm2,hnil,hget,qF⟩:=YX hr.mem hone hs2;obtain⟨BX,mW,hX,hY⟩:=Bg.split (qF A1 [] (by simpa using St.mobs hr));have hr2:Rel Z s2 σs A1 L2 σ w:=Rel.as (h:=(⟨St.lt hr,hr.facts,hY.Hp λ_ h=> .inl h⟩:St A1 w _ (L2.map MD.Cs))) (i:=1) rfl hm2 rfl;have hL0:Bg w (λb=>¬BX b) ((Dy L1 (Fm c.ps) ls).map MD.Cs):=DV (N:=λ_=>True) his (by simpa using hX);have key:∀R0:Reg,(∀b,A1 b/\Z.R b->R0 b)-> (Fq (Fm c.ps) ls=[]\/∀b,R0 b)-> (NM c=true->∀b,R0 b->A1 b/\Z.R b)->
           Ia P n ops ⟨some dn, .call ⟨.value g,as,ts⟩,ty,pos,after,none⟩ Z s σs k r G A L σ w:=by
          intro R0 h1 h2 h3;have hb1:∀b,A1 b/\Z.R b->R0 b/\ ¬BX b:=λb hb=>⟨h1 b hb,λhx=>(mW b hx).1 hb.1⟩;obtain⟨rC,e1,e2,e3,e4⟩:=TN (B1:=λb=>R0 b/\ ¬BX b) hr hb1 (Fm c.ps) ls x is ⟨[],[],[]⟩ [] (Dy L1 (Fm c.ps) ls) hx his (λi hi z E v cc sQ=>by
           rcases h2 with h2|h2
           ·rw[h2]at hi;cases hi
           ·have hni:Hq i is=false:=by
             have:=oI;simp only[Bool.not_eq_false',List.all_eq_true,tX]at this;exact this i hi
            have rD:=(hget i hni).trans sQ;obtain⟨o,g1,g2⟩:=Bg.oS hY (hr2.Cs rD);exact(Go.Lv.Fp g1).step (λb hb=>⟨h2 b,λhx=>g2 b hb (.inr hx)⟩) (λ_ _=>rfl)) rfl rfl
          obtain⟨ps,h5,h6⟩:=FR hls hpv e3;have mE:WN c.ps x=rC:=by unfold WN;rw[e1];rfl
          have hcall:=hcon.ok R0 (λb=>¬BX b) w _ _ ps x y h5 (by rw[mE];exact e2) (by rw[mE];exact e4) hL0 h6 (λp hp=>by
           obtain⟨hA,T1,fr,hh⟩:=hr.aI (hT.2▸hp);exact⟨lt_of_heap hh,λhx=>(mW _ hx).1 hA.1,T1,fr,hh⟩) hy
          have hxe':=hxe hcon.ent;rw[uE]at hxe';refine WL.e (Oq hd) hxe' hcall ?_;rintro e w' ⟨us,rfl,hk,A2,LL,hA2,rE,hres⟩;refine⟨_,rfl,WL.nil ?_⟩;have hnew:∀b,A2 b->Z.R b:=λb hb=>by
           rcases(hA2 b hb).1 with h7|h7
           ·exact hr.out (mW b (Classical.not_not.1 h7)).1
           ·refine Z.new b ?_;have h8:Z.w0.heap.size<=w.heap.size:=(hr.fact 1 (f:= .old Z.M Z.w0) rfl).1.le;omega
          obtain⟨ps',its,g1,g2,g3,g4,g5⟩:=hres s2 L2 (λb=>(A1 b\/A2 b)/\Z.R b) hr2.len.symm (λb hb=>⟨.inr hb,hnew b hb⟩) (λhro b hb=>by
           rcases hb with hb|⟨p,hp,rfl⟩
           ·exact⟨.inl (h3 hro b hb.1).1,(h3 hro b hb.1).2⟩
           ·exact⟨.inl (hr.aI (hT.2▸hp)).1.1,(hr.aI (hT.2▸hp)).1.2⟩)
          have hr':=Rel.fI hr2 mW hY hk hA2 rE g4 g5;obtain⟨hv,hv'⟩:=ZA g3;rw[g2]at h;refine⟨_,λb=>A1 b\/A2 b,L2++LL,h,?_,λgg=>?_⟩
          ·rw[g1];exact hr'.Cg (d:=some dn) hv hv'
          ·obtain⟨e1',e2',e3'⟩:=hsame gg;obtain⟨c',hc',hno,_⟩:=hG gg;rw[hc]at hc';cases hc';have rF:=FZ hno his;subst rF;have rG:s1=s2:=by simpa [S.JI]using hs2
           have rH:=hnil rfl;subst rG rH e1' e2' e3';rw[g1];exact⟨λb hb=> .inl hb,λb hb=>hk.same b (St.lt hr b hb) λhx=>(mW b hx).1 hb,⟨LL,rfl⟩,⟨its,rfl⟩⟩
         cases hro':NM c with
         |true=>
          refine key (λb=>A1 b/\Z.R b) (λ_ h=>h) (.inl ?_) (λ_ _ h=>h);rw[hro']at jG;simp only[vO,Bool.not_eq_false']at jG;exact isEmpty_nil jG
         |false=>exact key (λ_=>True) (λ_ _=>trivial) (.inr λ_=>trivial) (λh=>by rw[hro']at h;cases h)
  ·cases h
 ·rename_i hn;obtain⟨hP,h⟩:=Ae h;have hpv:=Bs.append (Zo hr0.mem.sl _ hP) mX;obtain⟨he,hcall⟩:=hI Z hT.2 f _ s _ r σs A L σ w _ h hr0 hpv;refine WL.e (Oq hd) (hxe he) hcall ?_;rintro e w' ⟨v,p,s',A',L',rfl,hk,hr',hv,hv'⟩;refine⟨_,rfl,WL.nil ⟨_,A',L',hk,hr'.Cg (d:=some dn) hv hv',λgg=>?_⟩⟩;obtain⟨c,hc,_⟩:=hG gg;rw[hn]at hc;cases hc
end Go.Rx
namespace Go.Rx
open Go Go.Lv
variable{o:BinOp}{e:ET}{x y:Operand}{v:PV}{G:Prop}{vy:Value}
variable {P:Program} {B B':Reg} {w w':World} {L L':List MD} {s:S} {σs:List Env} {σ:Env} {Z:Fix} {A A':Reg} {n:Nat} {ops:Array Oper}
variable {R:Type} {k:S->Option R} {r:R} {d:Option Nat} {ty:TypeId} {pos:String} {after:Array Edge} {T:Tab} {inl:GD R}
theorem Me{l:List Oper}{K K':Env->World->Prop}(h:WL P n ops l K σ w)(hk:∀σ w,K σ w->K' σ w):WL P n ops l K' σ w:=by
 have:=WL.cut (rest:=[]) K l h (λσ w h=>WL.nil (hk σ w h));rwa [uE]at this
theorem look_ok{a:UInt8}{z:PV}{kk:PV->Option R}:∀{es:List MapEntry} {ks:List UInt8} {vs:List PV} {i:Nat},es.map (·.key)=ks.map (λk=>iv (T:=UInt8) (k:= .u8) k)->Bs B w L vs (es.map (·.val))->qL a kk z ks vs=some r->
  ∃res,Instr.findNow (.int .u8) (iv (T:=UInt8) (k:= .u8) a) es i=some res/\match res with
   |some (_,v)=>∃p:PV,bS p.isA (Aj B w L p) v/\kk (.tup [p, .b true])=some r
   |none=>kk (.tup [z, .b false])=some r
 |[],[],[],i,_,_,h=>⟨none,rfl,h⟩
 |[],[],_::_,i,_,⟨_,_,e,_⟩,h=>by cases e
 |[],_::_,_,i,h,_,_=>by cases h
 |_::_,[],_,i,h,_,_=>by cases h
 |e::es,q::ks,[],i,_,h,_=>by cases h
 |e::es,q::ks,p::vs,i,hk,⟨v,vs',hv,h1,h2⟩,h=>by
  simp only[uH,List.cons.injEq]at hk hv;obtain⟨hk1,hk2⟩:=hk;obtain⟨rfl,rfl⟩:=hv;have hs:Instr.sameNow (.int .u8) (iv (T:=UInt8) (k:= .u8) a) e.key=some (geq a q):=by
   rw[hk1];rfl
  unfold qL at h;cases hb:geq a q with
  |true=>
   rw[hb,uG rfl]at h;exact⟨some (i,e.val),by simp only[Instr.findNow,hs,hb],p,h1,h⟩
  |false=>
   rw[hb,uF A9]at h;obtain⟨res,g1,g2⟩:=look_ok (i:=i+1) hk2 h2 h;exact⟨res,by simp only[Instr.findNow,hs,hb];exact g1,g2⟩
theorem eD{t:TypeId}{ix:Operand}{dn:Nat}(hr:Rel Z s σs A L σ w)(hd:Di n ⟨some dn, .lookup t x ix true,ty,pos,after,none⟩=true)(h:aV P s dn t x ix k=some r):
  Ia P n ops ⟨some dn, .lookup t x ix true,ty,pos,after,none⟩ Z s σs k r G A L σ w:=by
 have hm:=hr.mem;unfold aV at h;split at h
 ·rename_i ks vs e a kt et hx hix ht;split at h
  ·rename_i a' hkt;split at h
   ·rename_i inf Fj;split at h
    ·rename_i hz;obtain⟨rr,es,c,h1,h2,h3,h4,h5⟩:=Bf hm.sl hx rfl;have hxv:ev σ x= .map (some rr):=by simpa using h1
     have hiv:ev σ ix=iv (T:=UInt8) (k:= .u8) a':=Lc (Bf hm.sl hix rfl);obtain⟨res,g1,g2⟩:=look_ok (i:=0) h4 h5 h;have sR:(zeroValue et).run P w= .ok .nilFunc w:=by simp[zeroValue,typeInfo,Fj,hz]
     have hck:(Instr.checkKey es.isEmpty 10000 kt (iv (T:=UInt8) (k:= .u8) a')).run P w= .ok () w:=MapKept.run_checkKey hkt (show MapKept.IsKey (.int .u8) (.int .u8 _)from rfl) _ 9999;have qM:=MapKept.run_findKey (P:=P) (w:=w) hkt g1;have hgo:=MapKept.run_getObj_map (P:=P) h3;cases res with
     |none=>
      refine Bn (p:= .tup [.cst .nilFunc, .b false]) (val:= .tuple #[.nilFunc, .bool false]) (d:=some dn) hr hd (λ_ _ _ _ _=>?_) rfl ?_ g2
      ·simp[execOp,hxv,hiv,Instr.lookup,tM ht,hgo,hck,qM,sR,Result.andThen]
      ·exact⟨[.nilFunc, .bool false],rfl, .nilFunc,[.bool false],rfl,⟨rfl,rfl⟩,_,[],rfl,rfl,rfl⟩
     |some q=>
      obtain⟨j,v⟩:=q;obtain⟨p,k1,k2⟩:=g2;refine Bn (p:= .tup [p, .b true]) (val:= .tuple #[v, .bool true]) (d:=some dn) hr hd (λ_ _ _ _ _=>?_) rfl ?_ k2
      ·simp[execOp,hxv,hiv,Instr.lookup,tM ht,hgo,hck,qM,Result.andThen]
      ·exact⟨[v, .bool true],rfl,v,[.bool true],rfl,k1,_,[],rfl,rfl,rfl⟩
    ·cases h
   ·cases h
  ·cases h
 ·cases h
theorem SO{cs:Array Value}(h:CE P ty (.agg cs)=some v)(hA:v.isA=true):v.isV=true/\Br B w L v (.agg cs):=by
 have h1:=BS (B:=B) (w:=w) (L:=L) h;have h2:Cz B w L v (.agg cs):=by
  unfold Cz;rw[hA];exact⟨cs.toList,A9,h1⟩
 exact Df h2
theorem VO{a:Option R}:∀{l:List (Option R)},both a l=some r->a=some r/\∀b∈l,b=some r
 |[],h=>⟨h,A9⟩
 |b::l,h=>by
  unfold both at h;split at h
  ·rename_i hab;obtain⟨h1,h2⟩:=VO h;exact⟨h1,λc hc=>by
    rcases List.mem_cons.1 hc with rfl|hc
    ·exact hab▸h1
    ·exact h2 c hc⟩
  ·cases h
theorem kX{α:Type}{l:List α}{a b:Option R}(h:TW l a b=some r):b=some r/\ (l=[]->a=some r):=by
 cases l with
 |nil=>
  obtain⟨h1,h2⟩:=VO h;exact⟨h2 _ (.head _),λ_=>h1⟩
 |cons x l=>exact⟨h,λe=>by cases e⟩
theorem GQ{t e t':TypeId}{q:Bool}{p:Option Addr}{l c:Nat}(h:NR o=some q)(ht:P.underlying t=some (.slice e))(hx:ev σ x= .slice p l c)(hy:ev σ y= .slice none 0 0):
  XO P σ w (.binOp o t x y t') (.bool (p.isNone==q)):=by
 cases o<;>simp only[NR,tO,reduceCtorEq]at h<;>subst h
 ·have:=X.bin (w:=w) (t':=t') hx hy (Bin.lH ht p l c);simpa using this
 ·have:=X.bin (w:=w) (t':=t') hx hy (Bin.jM ht p l c);cases p<;>simpa using this
theorem elem_nil{B:Reg}{l:List e.T}(hz:Nat.ble 1 e.size=true)(h:Az (Af B w e) l []):l=[]:=by
 have h1:=Az.len (λx c h=>Af.len h) h;have h2:1<=e.size:=by simpa using hz
 cases l with
 |nil=>rfl
 |cons a l=>
  simp only[uR,List.length_nil]at h1;have:0<(l.length+1)*e.size:=Nat.mul_pos A7 A7;omega
theorem iK{t t':TypeId}{a:PV}{dn:Nat}(hr:Rel Z s σs A L σ w)(hd:Di n ⟨some dn, .binOp o t x y t',ty,pos,after,none⟩=true)(hx:Bo s.sl x=a)(hy:Bo s.sl y= .nils)
  (h:gV P s dn o t a k=some r):Ia P n ops ⟨some dn, .binOp o t x y t',ty,pos,after,none⟩ Z s σs k r G A L σ w:=by
 have hm:=hr.mem;have hy':=Jz (Bf hm.sl hy rfl);unfold gV at h;split at h
 ·rename_i q e hq ht;have main:∀{α:Type} {l:List α} {p:Option Addr} {len c:Nat},ev σ x= .slice p len c-> (p=none->l=[])->TW l (k (s.set dn (.b q))) (k (s.set dn (.b (!q))))=some r->Ia P n ops ⟨some dn, .binOp o t x y t',ty,pos,after,none⟩ Z s σs k r G A L σ w:=by
   intro α l p len c hv hp h;obtain⟨h1,h2⟩:=kX h;cases hn:p.isNone with
   |true=>
    have hk:=h2 (hp (by simpa using hn));have hxo:=GQ (w:=w) (t':=t') hq ht hv hy';rw[hn]at hxo;have hb:(true==q)=q:=by cases q<;>rfl
    rw[hb]at hxo;exact Bn (p:= .b q) hr hd hxo rfl rfl hk
   |false=>
    have hxo:=GQ (w:=w) (t':=t') hq ht hv hy';rw[hn]at hxo;have hb:(false==q)=!q:=by cases q<;>rfl
    rw[hb]at hxo;exact Bn (p:= .b (!q)) hr hd hxo rfl rfl h1
  split at h
  ·have hv:=Jz (Bf hm.sl hx rfl);have hxo:=GQ (w:=w) (t':=t') hq ht hv hy';have hb:((none:Option Addr).isNone==q)=q:=by cases q<;>rfl
   rw[hb]at hxo;exact Bn (p:= .b q) hr hd hxo rfl rfl h
  ·split at h
   ·obtain⟨hz,h⟩:=Ae h;obtain⟨c0,h1,h2⟩:=Ip (Bf hm.sl hx rfl);have h1':=h1;obtain⟨p,len,cap,hv,h3,h4,h5,h6⟩:=h1;refine main hv (λhp=>?_) h;subst hp;have:c0=[]:=Go.Lv.Rd.ZE (by rw[<-hv];exact h1');subst this;have:=h5 rfl;exact elem_nil hz h2
   ·cases h
  ·rename_i i;split at h
   ·rename_i E e' l hi;obtain⟨hz,h⟩:=Ae h;obtain⟨v,cs,h1,h2⟩:=hm.arr hi;obtain⟨z,E',c0,h3⟩:=Ld (Bf hm.sl hx rfl);rw[h1]at h3;cases h3;have hrd:=hr.Fp h1;have h1':=hrd;obtain⟨p,len,cap,hv,h4,h5,h6,h7⟩:=hrd;refine main hv (λhp=>?_) h;subst hp;have:cs=[]:=Go.Lv.Rd.ZE (by rw[<-hv];exact h1');subst this;exact elem_nil hz h2
   ·cases h
  ·cases h
 ·cases h
theorem ZX{i b off:Nat}{md:MD}{ns:List Value}{F:List Fact}(hr:St A w F (L.map MD.Cs))(h:L[i]? =some md)(hb:md.base=some b)(h1:ns.all (·.oneCell')=true)(hle:off+ns.length<=md.cells.length)(hz:0<ns.length):
  ∃w' md',(storeCells ⟨b,off,none⟩ ns).run P w= .ok () w'/\St A w' F ((L.map MD.Cs).set i md'.Cs)/\Hj off ns md md':=by
 cases md with
 |dead=>cases hb
 |box b' cells T=>
  cases hb;have hL:(L.map MD.Cs)[i]? =some (Mob.box b cells T):=VI h;have hr':=Cp (P:=P) b T (0,0) ns off 0 cells w (hr.box hL) (by simpa [MD.cells]using hle) (.inr (.inr (tY _))) (λv hv=>by simpa using List.all_eq_true.1 h1 v hv);simp only[Nat.add_zero]at hr';exact⟨_, .box b (Ao cells off ns) T,hr',hr.gW hL,rfl⟩
 |own z' E u cs=>
  obtain⟨b',m,c,hu,hs'⟩:=St.VW hr (VI h) (by simp[MD.cells]at hle;omega);subst hu;cases hb;have hlen:i<(L.map MD.Cs).length:=by simpa using(List.getElem?_eq_some_iff.1 h).1
  have hL:((L.map MD.Cs).set i (.at_ b z' E m c cs))[i]? =some (.at_ b z' E m c cs):=by rw[List.getElem?_set_self hlen]
  have hle':off+ns.length<=cs.length:=hle;have hcore:∃w',(storeCells ⟨b,off,none⟩ ns).run P w= .ok () w'/\St A w' F (((L.map MD.Cs).set i (.at_ b z' E m c cs)).set i (.at_ b z' E m c (Ao cs off ns))):=by
   obtain⟨o,ho,_,_⟩:=(hs'.front hL).mobs;obtain⟨rfl,ho⟩:=ho;have ho':=ho;obtain⟨_,len,cap,e,h3,h4,h5,h5',h6⟩:=ho;cases e;obtain⟨arr,fr,e,hbb,hsz',hfz,hcells⟩:=h6 b rfl;have hcl:cs.length<=arr.size:=by rw[h3,hsz'];exact tN _ h4
   have hr':=Cp (P:=P) b E fr ns off 0 arr.toList w (by simpa using hbb) A8 (by simp;rcases hfz with h|h;exact .inr (.inr (Nat.le_of_eq h.symm));exact .inr (.inl h)) (λv hv=>by simpa using List.all_eq_true.1 h1 v hv);simp only[Nat.add_zero]at hr';have hbl:=lt_of_heap hbb;have hcs':(Ao cs off ns).length=cs.length:=Cb A7;have hget:∀i,i<m*z'-> (Ao arr.toList off ns)[i]? =(Ao cs off ns)[i]? :=λi hi=>by
    have jD:min off arr.toList.length=off:=by simp;omega
    have jE:min off cs.length=off:=A7
    simp only[Ao,List.getElem?_append,uB,jD,jE,List.getElem?_take,List.getElem?_drop];by_cases g1:i<off
    ·rw[uG g1,uG g1,uG g1,uG g1];simpa using hcells i hi
    ·rw[uF g1,uF g1];by_cases g2:i-off<ns.length
     ·rw[uG g2,uG g2]
     ·rw[uF g2,uF g2];have e1:off+ns.length+(i-off-ns.length)=i:=A7
      rw[e1];simpa using hcells i hi
   refine⟨_,hr',hs'.Xc hL (b:=b) ⟨rfl,ho'⟩ ⟨rfl,_,m,c,rfl,by rw[hcs',h3],h4,h5,h5',λb' hb'=>?_⟩ ?_⟩
   ·cases hb';refine⟨(Ao arr.toList off ns).toArray,fr,rfl,by simp[Cd,hbl],?_,?_,λi hi=>?_⟩
    ·simp only[uD];rw[Cb A8];simpa using hsz'
    ·simp only[uD];rw[Cb A8];simpa using hfz
    ·simpa using hget i hi
   ·rintro⟨q,hq,q1,q2⟩;exact⟨q,hq,q1,q2,hq.1⟩
  obtain⟨w',g1,g2⟩:=hcore;have hs3:=g2.pE (i:=i) (b:=b) (s:=z') (m:=m) (c:=c) (E:=E) (cs:=Ao cs off ns) (by rw[List.getElem?_set_self (by simpa using hlen)]);rw[List.set_set,List.set_set]at hs3;exact⟨w', .own z' E (.slice (some ⟨b,0,none⟩) m c) (Ao cs off ns),g1,hs3,rfl⟩
structure SrcW (P:Program) (w:World) (vy:Value) (z ly:Nat) (ys:List Value):Prop where
 len:(Builtin.lenOf vy).run P w= .ok ly w
 first:∀m,m<=ly-> (Builtin.firstCells z m vy).run P w= .ok (ys.take (m*z)).toArray w
theorem SrcW.rd{z ly:Nat}{ys:List Value}(h:Rd (λ_=>True) w z vy ys)(hl:ys.length=ly*z)(hz:0<z):SrcW P w vy z ly ys:=by
 obtain⟨p,len,cap,rfl,h2,h3,h4,h5⟩:=h;have he:len=ly:=tQ hz (h2.symm.trans hl);subst he;refine⟨rfl,λm hm=>?_⟩;cases p with
 |none=>
  have:m=0:=by have:=h4 rfl;omega
  subst this;simp[Builtin.firstCells]
 |some a=>
  have hlen:(ys.take (m*z)).length=m*z:=by
   rw[uB,h2];have:=tN z hm;omega
  simp only[Builtin.firstCells];by_cases hc:0<cap
  ·obtain⟨b,off,arr,T,fr,e1,_,e2,_,e4⟩:=h5 hc;cases e1;have:=Dw (P:=P) (w:=w) (b:=b) (off:=off) (ys.take (m*z)) (λi hi=>by
    rw[hlen]at hi;have h6:i<len*z:=tZ hi (tN z hm);rw[cell_of e2,e4 i h6,List.getElem?_take,uG hi])
   rw[hlen]at this;exact this
  ·have:m=0:=A7
   subst this;simp[loadCells,loadCellsFrom]
theorem SrcW.str{l:List UInt8}:SrcW P w (sv l) 1 l.length (Lm (k:= .u8) l):=by
 refine⟨by simp[Builtin.lenOf,ByteArray.size],λm hm=>?_⟩;simp only[Builtin.firstCells,BZ,tS];congr 1;simp[Lm,List.map_take];rfl
theorem TU{t2:TypeId}{m:List e.T}(hr:Rel Z s σs A L σ w)(hz:0<e.size)(h:iG P s e t2 y=some m):∃ys,Az (Af (λb=>A b/\Z.R b) w e) m ys/\SrcW P w (ev σ y) e.size m.length ys:=by
 have hm:=hr.mem;have plain:elems s e (Bo s.sl y)=some m->∃ys,Az (Af (λb=>A b/\Z.R b) w e) m ys/\SrcW P w (ev σ y) e.size m.length ys:=by
  intro h;have hV:(Bo s.sl y).isV=true:=by
   cases hq:(Bo s.sl y).isV with
   |true=>rfl
   |false=>rcases Gu hq with h'|h'|⟨_,_,_,h'⟩<;>rw[h']at h<;>cases h
  obtain⟨c0,h1,h2⟩:=Xh hm h (Et hm.sl y hV);have hrd:Rd (λ_=>True) w e.size (ev σ y) c0:=by
   rcases h2 with h2|⟨j,E',u,cs',_,h2,hpart⟩
   ·exact h2.step (λ_ _=>trivial) (λ_ _=>rfl)
   ·exact hpart _ _ (hr.Fp h2)
  exact⟨c0,h1, .rd hrd (h1.len λx c h=>Af.len h) hz⟩
 unfold iG at h;split at h
 ·split at h
  ·rename_i m0 hy;unfold Tc at h;split at h
   ·rename_i he;cases he;cases h;rw[Fc hm.sl hy];exact⟨Lm m0,UH.Ng, .str⟩
   ·cases h
  ·cases h
 ·unfold gF at h;split at h
  ·rename_i i p e1 lo n' hy;split at h
   ·rename_i T v hi;split at h
    ·rename_i a x hg;split at h
     ·rename_i q a l;obtain⟨hb,h⟩:=Ae h;simp only[tK,uX]at hb;obtain⟨⟨k1,k2,k3⟩,rfl⟩:=hb;split at h
      ·rename_i ha;subst ha;cases h;obtain⟨md,v1,h3,h4,g1,g2,⟨pt,cap,g3,g4,g5,g6⟩,_⟩:=Bf hm.sl hy rfl;have h6:ev σ y=v1:=by simpa using h4
       obtain⟨b,cells,h7,h8⟩:=hm.box hi;rw[h7]at h3;cases h3;obtain⟨c1,c2,c3,he,h9,h10,h11⟩:=Uj hg h8;have BP:=h11.len λx c h=>Af.len h;obtain⟨lo',rfl⟩:=tU k1;obtain⟨n1,rfl⟩:=tU k2;simp only[uO]at g3 g4 g6;have hq:lo'+n1<=l.length:=by rw[h10];omega
       have hsub:(Pc l lo' n1).length=n1:=by simp[Pc];omega
       have e5:lo'*a.size+n1*a.size<=l.length*a.size:=by rw[<-tW];exact tN _ hq
       refine⟨(c2.drop (lo'*a.size)).take (n1*a.size),Az.take (λx c h=>Af.len h) _ (Az.drop (λx c h=>Af.len h) _ h11),?_,λm hm'=>?_⟩
       ·rw[h6,g3,hsub];rfl
       ·rw[hsub]at hm';rw[h6,g3];have hml:m*a.size<=n1*a.size:=tN _ hm';cases pt with
        |none=>
         have:m=0:=by have:=g5 rfl;omega
         subst this;simp[Builtin.firstCells]
        |some ad=>
         simp only[Builtin.firstCells];by_cases hc:0<cap
         ·obtain⟨bb,e1,e2⟩:=g6 hc;cases e1;cases e2;have hlen3:(((c2.drop (lo'*a.size)).take (n1*a.size)).take (m*a.size)).length=m*a.size:=by
           simp only[uB,vK,BP];omega
          have:=Dw (P:=P) (w:=w) (b:=b) (off:=Ad p+lo'*a.size) (((c2.drop (lo'*a.size)).take (n1*a.size)).take (m*a.size)) (λi hi=>by
           rw[hlen3]at hi;have hcl:Ad p+lo'*a.size+i<(MD.box b cells T).cells.length:=by
            simp only[MD.cells,he,tR,h9,BP];omega
           rw[hr.cells h7 rfl _ hcl];simp only[MD.cells];rw[he,List.getElem?_append_right A7,h9,show Ad p+lo'*a.size+i-Ad p=lo'*a.size+i by omega,List.getElem?_append_left (by rw[BP];omega),
            List.getElem?_take,uG hi,List.getElem?_take,uG A7,List.getElem?_drop])
          rw[hlen3]at this;exact this
         ·have:m=0:=A7
          subst this;simp[loadCells,loadCellsFrom]
      ·cases h
     ·cases h
    ·cases h
   ·cases h
  ·exact plain h
 ·cases h
theorem IK(cs:List Value)(o:Nat):Ao cs o []=cs:=by simp[Ao]
theorem YA{t t2 E:TypeId}{vx:Value}{z ly nv SN off i:Nat}{pt:Option Addr}{ys:List Value}{md:MD}{F:List Fact}(ht:P.underlying t=some (.slice E))(hsz:Da P E z)(hsrc:SrcW P w vy z ly ys)(hys:ys.length=ly*z)(h1:ys.all (·.oneCell')=true)
  (hr:St A w F (L.map MD.Cs)) (h:L[i]? =some md) (hne:md≠ .dead) (hx:vx= .slice pt nv SN) (hcap:nv<=SN) (hpt:pt=none->SN=0) (hb:0<SN->∃b,md.base=some b/\pt=some ⟨b,off,none⟩) (hle:off+nv*z<=md.cells.length) (hz:0<z):
  ∃w' md',(Builtin.copy_ #[t,t2] ty #[vx,vy]).run P w= .ok (goInt (Nat.min ly nv)) w'/\St A w' F ((L.map MD.Cs).set i md'.Cs)/\Hj off (ys.take (nv*z)) md md':=by
 subst hx;have hmin:Nat.min ly nv<=ly:=Nat.min_le_left _ _;have WQ:=hsrc.first _ hmin
 have htake:ys.take (Nat.min ly nv*z)=ys.take (nv*z):=by
  rcases Nat.le_total ly nv with h'|h'
  ·rw[show Nat.min ly nv=ly from Nat.min_eq_left h',<-hys,List.take_length,List.take_of_length_le (by rw[hys];exact tN z h')]
  ·rw[show Nat.min ly nv=nv from Nat.min_eq_right h']
 rw[htake]at WQ;have hmul:Nat.min ly nv*z<=nv*z:=tN z (Nat.min_le_right _ _);have hlen:(ys.take (nv*z)).length=Nat.min ly nv*z:=by
  rw[<-htake,uB,hys];have:=tN z hmin;omega
 have hnone:(ys.take (nv*z))=[]->∃w' md',(Builtin.copy_ #[t,t2] ty #[.slice pt nv SN,vy]).run P w= .ok (goInt (Nat.min ly nv)) w'/\St A w' F ((L.map MD.Cs).set i md'.Cs)/\Hj off (ys.take (nv*z)) md md':=by
  intro he;refine⟨w,md,?_,?_,?_⟩
  ·rw[he]at WQ;cases pt<;>simp[Builtin.copy_,tM ht,hsrc.len,Ar hsz,WQ,storeCells]
  ·rw[List.getElem?_eq_some_iff]at h;obtain⟨hlt,h⟩:=h;have:(L.map MD.Cs).set i md.Cs=L.map MD.Cs:=by
    rw[<-vM,<-h,List.set_getElem_self]
   rw[this];exact hr
  ·rw[he];cases md with
   |dead=>exact absurd rfl hne
   |box b c T=>simp only[Hj,IK]
   |own z' E' v c=>simp only[Hj,IK]
 by_cases he:(ys.take (nv*z))=[]
 ·exact hnone he
 ·have hpos:0<(ys.take (nv*z)).length:=List.length_pos_iff.2 he;have hm0:0<Nat.min ly nv:=by
   rcases Nat.eq_zero_or_pos (Nat.min ly nv)with h'|h'
   ·rw[hlen,h']at hpos;simp at hpos
   ·exact h'
  have tI:0<nv:=tZ hm0 (Nat.min_le_right _ _);obtain⟨b,e1,e2⟩:=hb A7;subst e2;obtain⟨w',md',g1,g2,g3⟩:=ZX (P:=P) (off:=off) hr h e1 (ns:=ys.take (nv*z)) (List.all_eq_true.2 λv hv=>List.all_eq_true.1 h1 v (List.mem_of_mem_take hv)) (by rw[hlen];omega) hpos;refine⟨w',md',?_,g2,g3⟩;simp[Builtin.copy_,tM ht,hsrc.len,Ar hsz,WQ,g1]
theorem YR(nv k:Nat):BA (nv:Int) k=((Nat.min k nv:Nat):Int):=by
 unfold BA;rcases uS k nv with h|h
 ·rw[uG A7,show Nat.min k nv=k from Nat.min_eq_left A7]
 ·rw[uF A7,show Nat.min k nv=nv from Nat.min_eq_right h]
theorem LY{B:Reg}{l m:List e.T}{cs ys:List Value}{lo nv:Nat}(hl:Az (Af B w e) l cs)(hm:Az (Af B w e) m ys):Az (Af B w e) (Ic l lo nv m) (Ao cs (lo*e.size) (ys.take (nv*e.size))):=by
 have h1:=Az.take (λx c h=>Af.len h) nv hm;have h2:=h1.len λx c h=>Af.len h;have h3:=Az.take (λx c h=>Af.len h) lo hl;have h4:=Az.drop (λx c h=>Af.len h) (lo+(m.take nv).length) hl;unfold Ic Ao;simp only[uO];refine Az.append h3 (Az.append h1 ?_);rw[h2,<-tW];exact h4
theorem fX{α:Type}(l m:List α):dH l m=Ic l ((0:Nat):Int) ((l.length:Nat):Int) m:=by
 unfold dH Ic;simp only[uO,List.take_zero,vC,uY,uB];congr 1;rcases Nat.le_total m.length l.length with h|h
 ·rw[Nat.min_eq_right h]
 ·rw[Nat.min_eq_left h,vB (tY _),vB h]
theorem WX{t t2 E E':TypeId}{l m:List e.T}{ys cs:List Value}{u:Value}{lo nv SN i:Nat}{pt:Option Addr}{ow:Option Nat}(hr:Rel Z s σs A L σ w)(hd:Di n ⟨ow, .call ⟨.builtin .copy, #[x,y], #[t,t2]⟩,ty,pos,after,none⟩=true)
  (ht:P.underlying t=some (.slice E)) (hsz:Da P E e.size) (hz:0<e.size) (hit:Bd s.it i= .arr E' e l) (hL:L[i]? =some (.own e.size E' u cs)) (hl:Az (Af (λb=>A b/\Z.R b) w e) l cs) (hm:Az (Af (λb=>A b/\Z.R b) w e) m ys) (hsrc:SrcW P w (ev σ y) e.size m.length ys)
  (hx:ev σ x= .slice pt nv SN) (hcap:nv<=SN) (hpt:pt=none->SN=0) (hb:0<SN->∃b,(MD.own e.size E' u cs).base=some b/\pt=some ⟨b,lo*e.size,none⟩) (hle:lo+nv<=l.length)
  (hk:k ((s.Fy i (.arr E' e (Ic l lo nv m))).Cg ow (.i .i64 (BA (nv:Int) m.length)))=some r):Ia P n ops ⟨ow, .call ⟨.builtin .copy, #[x,y], #[t,t2]⟩,ty,pos,after,none⟩ Z s σs k r False A L σ w:=by
 have hcl:=hl.len λx c h=>Af.len h;have hyl:=hm.len λx c h=>Af.len h;have hF:=St.FD (f:=MK Z.R L (.arr E' e (Ic l lo nv m)) (Ao cs (lo*e.size) (ys.take (nv*e.size)))) hr (LY hl hm);obtain⟨w',md',g1,g2,g3⟩:=YA (P:=P) (ty:=ty) (t2:=t2) (off:=lo*e.size) ht hsz hsrc hyl hm.VM hF hL (by intro h;cases h) rfl hcap hpt hb (by
  show lo*e.size+nv*e.size<=cs.length;rw[hcl,<-tW];exact tN _ hle) hz
 simp only[Hj]at g3;subst g3;have key:=Vo.own (cs':=Ao cs (lo*e.size) (ys.take (nv*e.size))) hL;have hr2:=Rel.change (a:= .arr E' e (Ic l lo nv m)) g2.IW hL key ⟨rfl,rfl,g2.fact 0 rfl⟩;refine WL.aZ (v:=goInt (Nat.min m.length nv)) rfl hd ?_ (WL.nil ⟨_,A,_,hk,hr2.Cg rfl ?_,λh=>h.elim⟩)
 ·simp[execOp,resolve,invoke,builtin,hx,g1]
 ·rw[YR];rfl
theorem cU{t t2:TypeId}{ow:Option Nat}(hr:Rel Z s σs A L σ w)(hd:Di n ⟨ow, .call ⟨.builtin .copy, #[x,y], #[t,t2]⟩,ty,pos,after,none⟩=true)
  (h:UN P s ow x y t t2 k=some r):Ia P n ops ⟨ow, .call ⟨.builtin .copy, #[x,y], #[t,t2]⟩,ty,pos,after,none⟩ Z s σs k r False A L σ w:=by
 have hmm:=hr.mem;unfold UN at h;split at h
 ·cases h
 ·rename_i E hE;have ht:=Sc hE;split at h
  ·cases h
  ·rename_i inf Fj;split at h
   ·rename_i i hx;split at h
    ·rename_i E' e l hit;obtain⟨hb,h⟩:=Ae h;simp only[tK]at hb;have hz:0<e.size:=by have:=tV hb.2;omega
     split at h
     ·rename_i m hsrc;obtain⟨ys,h1,h2⟩:=TU hr hz hsrc;obtain⟨u,cs,h3,h4⟩:=hmm.arr hit;obtain⟨z',E2,c',h5⟩:=Ld (Bf hmm.sl hx rfl);rw[h3]at h5;cases h5;obtain⟨q,len,cap,g1,g2,g3,g4,g5⟩:=hr.nR h3;have hl:len=l.length:=tQ hz (g2.symm.trans (h4.len λx c h=>Af.len h));rw[fX]at h;exact WX (lo:=0) (nv:=l.length) (ys:=ys) hr hd ht (By Fj hb.1) hz hit h3 h4 h1 h2 (by rw[g1,hl]) A7 g4 (λhc=>by obtain⟨b,e1,e2⟩:=g5 hc;exact⟨b,e2,by rw[e1];simp⟩) A7 h
     ·cases h
    ·cases h
   ·rename_i i p e1 lo n' hx;split at h
    ·rename_i E' e l hit;obtain⟨hb,h⟩:=Ae h;simp only[tK,uX]at hb;obtain⟨⟨hb1,hb2⟩,rfl⟩:=hb;have hz:0<e1.size:=by have:=tV hb2;omega
     split at h
     ·rename_i m hsrc;obtain⟨ys,h1,h2⟩:=TU hr hz hsrc;obtain⟨u,cs,h3,h4⟩:=hmm.arr hit;obtain⟨md,v1,h5,h6,k1,k2,⟨pt,cap,k3,k4,k5,k6⟩,k7,_⟩:=Bf hmm.sl hx rfl;rw[h3]at h5;cases h5;have h7:ev σ x=v1:=by simpa using h6
      obtain⟨lo',rfl⟩:=tU k1;obtain⟨n1,rfl⟩:=tU k2;simp only[uO]at k3 k4 k6 k7;obtain⟨s',E2,q,len,cap0,c0,e1',rfl,e3,_⟩:=k7 trivial;cases e1';obtain⟨q',len',cap',g1,g2,_⟩:=hr.nR h3;cases g1;have hl:len=l.length:=tQ hz (g2.symm.trans (h4.len λx c h=>Af.len h));exact WX (lo:=lo') (nv:=n1) (ys:=ys) hr hd ht (By Fj hb1) hz hit h3 h4 h1 h2 (h7.trans k3) k4 k5 (λhc=>by obtain⟨b,e4,e5⟩:=k6 hc;exact⟨b,e4,by rw[e5];simp[Ad]⟩) A7 h
     ·cases h
    ·cases h
   ·rename_i i p e1 lo n' hx;split at h
    ·rename_i T v hit;split at h
     ·rename_i a0 x0 hg;split at h
      ·rename_i q e l;obtain⟨hb,h⟩:=Ae h;simp only[tK,uX]at hb;obtain⟨⟨⟨hb1,hb2⟩,rfl⟩,k1,k2,k3⟩:=hb;have hz:0<e1.size:=by have:=tV hb2;omega
       split at h
       ·rename_i m hsrc;obtain⟨ys,h1,h2⟩:=TU hr hz hsrc;obtain⟨md,v1,h5,h6,_,_,⟨pt,cap,g3,g4,g5,g6⟩,_⟩:=Bf hmm.sl hx rfl;have h7:ev σ x=v1:=by simpa using h6
        obtain⟨b,cells,h8,h9⟩:=hmm.box hit;rw[h8]at h5;cases h5;obtain⟨c1,c2,c3,he,h10,h11,h12⟩:=Uj hg h9;have BP:=h12.len λx c h=>Af.len h;have hyl:=h1.len λx c h=>Af.len h;obtain⟨lo',rfl⟩:=tU k1;obtain⟨n1,rfl⟩:=tU k2;simp only[uO]at g3 g4 g6;have hq:lo'+n1<=l.length:=by rw[h11];omega
        have e5:lo'*e1.size+n1*e1.size<=l.length*e1.size:=by rw[<-tW];exact tN _ hq
        have hk1:=Az.take (λx c h=>Af.len h) n1 h1;have hk2:=hk1.len λx c h=>Af.len h;have hk3:(ys.take (n1*e1.size)).length<=n1*e1.size:=by rw[uB];omega
        have hcp:=LY (lo:=lo') (nv:=n1) h12 h1;have qG:(Ao c2 (lo'*e1.size) (ys.take (n1*e1.size))).length=c2.length:=Cb (by rw[BP];omega);have rI:Aj (λb=>A b/\Z.R b) w L (.val (.vec q e1) (Ic l lo' n1 m)) (Ao c2 (lo'*e1.size) (ys.take (n1*e1.size))):=by
         refine⟨?_,hcp⟩;have:=hcp.len λx c h=>Af.len h;rw[qG,BP]at this;rw[<-h11];exact(tQ hz this).symm
        obtain⟨v',hk,_,hv'⟩:=DW rI h h9;have hcells:Ao cells (Ad p) (Ao c2 (lo'*e1.size) (ys.take (n1*e1.size)))=Ao cells (Ad p+lo'*e1.size) (ys.take (n1*e1.size)):=by
         rw[he,Rp h10 _ (by rw[BP];omega),<-h10,Tn qG]
        rw[hcells]at hv';have hF:=St.FD (f:=MK Z.R L (.box T v') (Ao cells (Ad p+lo'*e1.size) (ys.take (n1*e1.size)))) hr hv';obtain⟨w',md',g1,g2,g3'⟩:=YA (P:=P) (ty:=ty) (t2:=t2) (off:=Ad p+lo'*e1.size) ht (By Fj hb1) h2 hyl h1.VM hF h8 (by intro h;cases h) rfl g4 g5 (λhc=>by obtain⟨b,e4,e5⟩:=g6 hc;exact⟨b,e4,e5⟩) (by
         show Ad p+lo'*e1.size+n1*e1.size<=cells.length;rw[he];simp only[tR,h10,BP];omega) hz
        simp only[Hj]at g3';subst g3';have key:=Vo.box (cs':=Ao cells (Ad p+lo'*e1.size) (ys.take (n1*e1.size))) h8;have hr2:=Rel.change (a:= .box T v') g2.IW h8 key ⟨rfl,Aj.step (λ_ h=>h) (λ_ _=>rfl) key (g2.fact 0 rfl)⟩;refine WL.aZ (v:=goInt (Nat.min m.length n1)) rfl hd ?_ (WL.nil ⟨_,A,_,hk,hr2.Cg rfl ?_,λh=>h.elim⟩)
        ·rw[<-g3,<-h7]at g1;simp[execOp,resolve,invoke,builtin,g1]
        ·rw[YR];rfl
       ·cases h
      ·cases h
     ·cases h
    ·cases h
   ·cases h
theorem MB{g:Nat}{cs:List Value}:∀{l:List (Nat×List Value)},jV l g=some cs-> (g,cs)∈l
 |[],h=>by cases h
 |(q,c)::r,h=>by
  simp only[jV]at h;cases hb:Nat.beq q g with
  |true=>
   rw[hb]at h;have:=Bc hb;subst this;cases h;exact .head _
  |false=>rw[hb]at h;exact .tail _ (MB h)
theorem aR{g:Nat}{t:TypeId}(hT:Vp P T Z)(hr:Rel Z s σs A L σ w)(h:T.mT P g t=some v):∃cs T1 fr,w.heap[g]? =some (.cells cs.toArray T1 fr)/\ (A g/\Z.R g)/\Aj (λb=>A b/\Z.R b) w L v cs:=by
 unfold Tab.mT at h;split at h
 ·rename_i cs hg;split at h
  ·rename_i v' hp;cases h;obtain⟨h1,T1,fr,h2⟩:=hr.aI (p:=(g,cs)) (by rw[hT.2];exact MB hg);obtain⟨c,e1,h3⟩:=Sf (B:=λb=>A b/\Z.R b) (w:=w) (L:=L) Q hp;rw[uE]at e1;subst e1;exact⟨_,T1,fr,h2,h1,h3⟩
  ·cases h
 ·cases h
theorem VN{o:Op}{g dn:Nat}(hT:Vp P T Z)(hr:Rel Z s σs A L σ w)(hd:Di n ⟨some dn,o,ty,pos,after,none⟩=true)
  (ho:(∃t,o= .load t (.global g))\/ (∃t ix,o= .indexAddr t (.global g) ix)\/ (∃t lo hi,o= .slice t (.global g) lo hi none)) (h:DB P T s dn g o k=some r):
  Ia P n ops ⟨some dn,o,ty,pos,after,none⟩ Z s σs k r G A L σ w:=by
 have hm:=hr.mem;rcases ho with⟨t,rfl⟩|⟨t,ix,rfl⟩|⟨t,lo,hi,rfl⟩
 ·simp only[DB]at h;split at h
  ·rename_i v hv;obtain⟨hb,hk⟩:=Ae h;obtain⟨cs,T1,fr,h1,h2,h3⟩:=aR hT hr hv;obtain⟨val,h7,h8⟩:=RB (P:=P) (σ:=σ) (x:= .global g) (b:=g) (off:=0) (Ew hb) h3 (λj hj=>by rw[cell_of h1];simp) rfl;obtain⟨hv,hv'⟩:=Df h7;exact Bn hr hd h8 hv hv' hk
  ·cases h
 ·simp only[DB]at h;split at h
  ·rename_i j m et e0 l0 hj ht hv;obtain⟨q,hix⟩:=Ks hj (Et hm.sl ix (Ps hj));split at h
   ·rename_i inf m' e l Fj;obtain⟨hb,h⟩:=Ae h;simp only[tK]at hb;obtain⟨y,hy,hk⟩:=bind_some h;obtain⟨hj0,hj1,hj2⟩:=Dd hy;obtain⟨cs,T1,fr,h1,h2,h3,h4⟩:=aR hT hr hv;obtain⟨c1,c2,c3,he,h8,h9,_⟩:=Az.get (λx c h=>Af.len h) h4 hj2;have hmm:=Bc hb.1.1;subst hmm;have h10:c2.length=e.size:=h9.len;have hp:UB (λb=>A b/\Z.R b) w (.pointer (some ⟨g,0+j.toNat*e.size,none⟩)) c2:=by
     refine⟨g,0+j.toNat*e.size,_,T1,fr,rfl,h2,h1,λq hq=>?_⟩;rw[List.getElem?_toArray,he,uY,List.getElem?_append_right A7,h8,show j.toNat*e.size+q-j.toNat*e.size=q by omega,List.getElem?_append_left hq]
    have jF:Br (λb=>A b/\Z.R b) w L (.rptr (e.pv y)) (.pointer (some ⟨g,0+j.toNat*e.size,none⟩)):=⟨_,c2,rfl,hp,Rh.2 h9⟩;exact Bn hr hd (Rb (x:= .global g) ht (By Fj hb.1.2) rfl hix A7 (by rw[<-show l.length=m' from h3];omega) w) rfl jF hk
   ·cases h
  ·cases h
 ·simp only[DB]at h;split at h
  ·rename_i u m et hat;split at h
   ·rename_i e0 l0 hv;split at h
    ·rename_i inf m' e l Fj;obtain⟨hb,h⟩:=Ae h;simp only[tK]at hb;split at h
     ·rename_i a b ha hb';obtain⟨y,hy,hk⟩:=bind_some h;obtain⟨k1,k2,k3,k4,rfl⟩:=Mh hy;obtain⟨cs,T1,fr,h1,h2,h3,h4⟩:=aR hT hr hv;have hmm:=Bc hb.1.1;subst hmm;have hlen:=h4.len λx c h=>Af.len h;have hz:0<e.size:=by have:=tV hb.2;omega
      have rE:l.length=m':=h3;have hxo:=X.TM (P:=P) (σ:=σ) (w:=w) (x:= .global g) (lo:=lo) (hi:=hi) (a:=a.toNat) (b:=b.toNat) (ad:=⟨g,0,none⟩) hat (By Fj hb.1.2) k3 A7 rfl
       (by rcases Dt hm.sl ha with h|⟨h,h'⟩;exact .inl (by rw[<-k1];exact h);exact .inr ⟨h,A7⟩) (by rcases Dt hm.sl hb' with h|⟨h,h'⟩;exact .inl (by rw[<-k2];exact h);exact .inr ⟨h,A7⟩)
      have e5:a.toNat*e.size<=b.toNat*e.size:=tN _ k3;have e6:b.toNat*e.size<=l.length*e.size:=tN _ k4;have e7:(b.toNat-a.toNat)*e.size=b.toNat*e.size-a.toNat*e.size:=vD _ _ _;refine Bn hr hd hxo rfl (Zs ⟨_,_,_,rfl,?_,A7,(λh=>by cases h),λhc=>?_⟩ (Az.drop (λx c h=>Af.len h) _ (Az.take (λx c h=>Af.len h) _ h4))) hk
      ·rw[vK,uB,hlen,e7];omega
      ·rw[uF A7,Eh];refine⟨g,0+a.toNat*e.size,_,T1,fr,rfl,h2,h1,?_,λi hi=>?_⟩
       ·simp only[uD,hlen,rE];have:(m'-a.toNat)*e.size=m'*e.size-a.toNat*e.size:=vD _ _ _;have:a.toNat*e.size<=m'*e.size:=tN _ A7;omega
       ·rw[List.getElem?_toArray,uY,List.getElem?_drop,List.getElem?_take,uG A7]
     ·cases h
    ·cases h
   ·cases h
  ·cases h
theorem nO{o:Op}{dn:Nat}(hT:Vp P T Z)(hI:Ir P T.gl inl)(hr:Rel Z s σs A L σ w)(hd:Di n ⟨some dn,o,ty,pos,after,none⟩=true)(h:qP P T inl s dn ty o k=some r):
  Ia P n ops ⟨some dn,o,ty,pos,after,none⟩ Z s σs k r (RZ T s ⟨some dn,o,ty,pos,after,none⟩=true) A L σ w:=by
 have hm:=hr.mem;unfold qP at h;split at h
 ·
  rename_i o t x y t';split at h
  ·rename_i a u b v hx hy;split at h
   ·rename_i c q hc hq;obtain⟨_,hok,h⟩:=bind_some h;have:=Gq hok;subst this;obtain⟨hv,val,hb,jF⟩:=KZ (P:=P) (w:=w) (L:=L) (B:=λb=>A b/\Z.R b) (t:=t) hq hc;exact Bn hr hd (X.bin (Hy hm.sl hx) (Hy hm.sl hy) hb) hv jF h
   ·cases h
  ·rename_i u v hx hy;split at h
   ·obtain⟨q,hq,h⟩:=bind_some h;exact Bn (p:= .val .str q) hr hd (X.hH (Fc hm.sl hx) (Fc hm.sl hy) hq) rfl rfl h
   ·cases h
  ·rename_i a h1 h2 hy;exact iK hr hd rfl hy h
  ·cases h
 ·
  rename_i t x ix;split at h
  ·rename_i j e0 l0 hj hx;obtain⟨q,hix⟩:=Ks hj (Et hm.sl ix (Ps hj));split at h
   ·rename_i l ht;obtain⟨y,hy,h⟩:=bind_some h;exact Bn (p:= .i .u8 y) hr hd (X.fZ ht (Fc hm.sl hx) hix hy) rfl rfl h
   ·rename_i m e l m' et ht;obtain⟨hb,h⟩:=Ae h;obtain⟨y,hy,h⟩:=bind_some h;obtain⟨hk,hkk⟩:=Ae h;have hok:=Ew hk;have hv:Cz (λb=>A b/\Z.R b) w L (.val (.vec m e) l) (ev σ x):=Bf hm.sl hx rfl;obtain⟨cs,h1,h2,h3⟩:=hv;have hsz:(e.pv y).size=e.size:=by
     obtain⟨_,_,h5⟩:=Dd hy;obtain⟨_,c2,_,_,_,h6,_⟩:=Az.get (λx c h=>Af.len h) h3 h5;rw[<- (Rh (L:=L).2 h6).len,h6.len]
    have hmm:=Bc hb;subst hmm;obtain⟨d0,hd0,ha0⟩:=hok.agg;obtain⟨val,h4,h5⟩:=jU (L:=L) ht (by rw[<-hsz];exact hok.size) ⟨d0,hd0,ha0⟩ (λhA=>by rw[<-hsz];exact hok.one hA) h2 h1 h3 hix hy;obtain⟨hv,hv'⟩:=Df h5;exact Bn hr hd h4 hv hv' hkk
   ·cases h
  ·cases h
 ·split at h
  ·exact VN hT hr hd (.inr (.inr ⟨_,_,_,rfl⟩)) h
  ·exact gH hr hd h (λg=>g)
 ·split at h
  ·exact VN hT hr hd (.inr (.inl ⟨_,_,rfl⟩)) h
  ·exact aA hr hd h
 ·split at h
  ·exact VN hT hr hd (.inl ⟨_,rfl⟩) h
  ·exact lP hr hd h
 ·
  split at h
  ·rename_i v hz;exact gB hr hd hz h
  ·cases h
 ·obtain⟨hb,h⟩:=Ae h;exact mZ hr hd hb h
 ·split at h
  ·rename_i v hv;obtain⟨hA,h⟩:=Ae h;obtain⟨h1,h2⟩:=SO (B:=λb=>A b/\Z.R b) (w:=w) (L:=L) hv hA;exact Bn hr hd (X.assign rfl) h1 h2 h
  ·cases h
 ·split at h
  ·rename_i v hv;obtain⟨hA,h⟩:=Ae h;obtain⟨h1,h2⟩:=SO (B:=λb=>A b/\Z.R b) (w:=w) (L:=L) hv hA;exact Bn hr hd (X.move rfl) h1 h2 h
  ·cases h
 ·exact fU hr hd h
 ·exact RS hr hd h (λg=>g)
 ·exact lB hr hd h
 ·
  split at h
  ·rename_i e ha ht;split at h
   ·rename_i l he hx;exact UH hr hd ha ht he hx h
   ·cases h
  ·rename_i e ha ht;obtain⟨hb,h1⟩:=Ae h;clear h;have:=Bc hb;subst this;split at h1
   ·rename_i i he hx;split at h1
    ·rename_i E e' l hi;split at h1
     ·rename_i y ys;exact jO hr hd ht he hx hi h1
     ·cases h1
    ·cases h1
   ·cases h1
  ·cases h
 ·
  rename_i as ts;split at h
  ·rename_i x y t t2 has hts;have h1:=Jk has;have h2:=Jk hts;subst h1 h2;refine Me (fK hr hd h) ?_;rintro σ' w' ⟨s',A',L',g1,g2,g3⟩;exact⟨s',A',L',g1,g2,λg=>by simp[RZ,mN]at g⟩
  ·cases h
 ·
  rename_i as ts;split at h
  ·rename_i x y t t2 has hts;have h1:=Jk has;have h2:=Jk hts;subst h1 h2;refine Me (cU hr hd h) ?_;rintro σ' w' ⟨s',A',L',g1,g2,g3⟩;exact⟨s',A',L',g1,g2,λg=>by simp[RZ,mN]at g⟩
  ·cases h
 ·
  rename_i as ts;split at h
  ·rename_i x t has hts;have h1:=Jk has;have h2:=Jk hts;subst h1 h2;split at h
   ·rename_i e ht hx;refine Bn (p:= .i .i64 (0:Int)) hr hd (val:=iv (0:Int)) (λ_ _ _ _ _=>?_) rfl rfl h;have hv:=Jz (Bf hm.sl hx rfl);simp[execOp,resolve,invoke,builtin,hv,Builtin.cap_,tM ht,goInt];rfl
   ·cases h
  ·cases h
 ·
  rename_i g as ts;split at h
  ·rename_i f caps hg;refine kR hT hI hr hg hd h (λgg=>?_);unfold RZ at gg;split at gg
   ·rename_i heq;cases heq
   ·rename_i heq;cases heq
   ·rename_i f' as' ts' heq;cases heq;cases hg;split at gg
    ·rename_i c hc;simp only[tK,vE,tX]at gg;exact⟨c,hc,gg.1,gg.2.imp id isEmpty_nil⟩
    ·cases gg
   ·rename_i h1 h2 h3;simp only[mN]at gg;split at gg<;>simp_all
  ·rename_i f fs hg;obtain⟨hb,h⟩:=Ae h;simp only[tK]at hb;refine gY hT hI hr hg hd hb.2 h (λgg=>?_);unfold RZ at gg;split at gg
   ·rename_i heq;cases heq
   ·rename_i heq;cases heq
   ·rename_i f' as' ts' heq;cases heq;cases hg
   ·rename_i h1 h2 h3;simp only[mN]at gg;split at gg<;>simp_all
  ·cases h
 ·exact fE hr hd h (λg=>g)
 ·exact eD hr hd h
 ·cases h
end Go.Rx
namespace Go.Rx
open Go Go.Lv
variable {P:Program} {w w':World} {L:List MD} {s:S} {σs:List Env} {σ:Env} {Z:Fix} {A:Reg}
theorem Sy{α:Type 1}{c:Bool}{x:Option α}{y:α}(h:(Be (c) (x)<|none)=some y):c=true/\x=some y:=by cases c<;>simp_all
theorem aE{o:Op}{b:BV}{x:b.X}(hr:Rel Z s σs A L σ w)(h:gL P s o=some b)(hx:b.E=some x):(b.v x).isV=true/\∃val,(∀w',XO P σ w' o val)/\Br (λb=>A b/\Z.R b) w L (b.v x) val:=by
 have hm:=hr.mem;unfold gL at h;split at h
 ·
  rename_i o t x y t';split at h
  ·rename_i a u b v hx' hy;split at h
   ·rename_i c q hc hq;cases h;have:=Gq hx;subst this;obtain⟨hv,val,hb,jF⟩:=KZ (P:=P) (w:=w) (L:=L) (B:=λb=>A b/\Z.R b) (t:=t) hq hc;exact⟨hv,val,λw'=>X.bin (Hy hm.sl hx') (Hy hm.sl hy) hb,jF⟩
   ·cases h
  ·rename_i u v hx' hy;split at h
   ·cases h;exact⟨rfl,_,λw'=>X.hH (Fc hm.sl hx') (Fc hm.sl hy) hx,rfl⟩
   ·cases h
  ·cases h
 ·
  split at h
  ·rename_i j l hj hx' ht;cases h;obtain⟨q,hix⟩:=Ks hj (Et hm.sl _ (Ps hj));exact⟨rfl,_,λw'=>X.fZ ht (Fc hm.sl hx') hix hx,rfl⟩
  ·cases h
 ·
  split at h
  ·rename_i ht;split at h
   ·rename_i l hx';split at h
    ·rename_i a b ha hb;cases h;exact⟨rfl,_,λw'=>X.pG ht (Fc hm.sl hx') hx (Dt hm.sl ha) (Dt hm.sl hb),rfl⟩
    ·cases h
   ·cases h
  ·rename_i et ht;split at h
   ·rename_i e0 l0 hx';split at h
    ·rename_i e l;split at h
     ·rename_i inf Fj;obtain⟨hb,h⟩:=Sy h;simp only[tK]at hb;split at h
      ·rename_i a b ha hb';cases h;obtain⟨h1,h2,h3,h4,h5'⟩:=Mh hx;obtain⟨c0,h5,h6⟩:=Ip (Bf hm.sl hx' rfl);have hlen:=h6.len λx c h=>Af.len h;obtain⟨p',l',c',h7,h8⟩:=X.YV (P:=P) (l:=a.toNat) (k:=b.toNat) (m:=l.length) ht (By Fj hb.1) (St.iL hr h5) (j:=0) rfl hlen (WJ hb.2) h3 h4;refine⟨rfl, .slice p' l' c',λw'=>h7 σ w' _ _ _ rfl (by rcases Dt hm.sl ha with h|⟨h,h'⟩;exact .inl (by rw[<-h1];exact h);exact .inr ⟨h,A7⟩)
        (by rcases Dt hm.sl hb' with h|⟨h,h'⟩;exact .inl (by rw[<-h2];exact h);exact .inr ⟨h,by rw[h'];simp[Ac]⟩),?_⟩
       rw[h5'];exact Zs (h8.fact 0 rfl) (Az.drop (λx c h=>Af.len h) _ (Az.take (λx c h=>Af.len h) _ h6))
      ·cases h
     ·cases h
    ·cases h
   ·cases h
  ·cases h
 ·
  split at h
  ·cases h
  ·rename_i j hj;obtain⟨q,hix⟩:=Ks hj (Et hm.sl _ (Ps hj));split at h
   ·rename_i et ht;split at h
    ·cases h
    ·rename_i inf Fj;split at h
     ·rename_i e0 l0 hx';split at h
      ·rename_i e l;obtain⟨hb,h⟩:=Sy h;cases h;simp only[tK]at hb;obtain⟨hj0,hj1,hj2⟩:=Dd hx;obtain⟨c0,h1,h2⟩:=Ip (Bf hm.sl hx' rfl);obtain⟨p,len,cap,h3,h4,h5,h6,h7⟩:=h1;have hlen:=h2.len λx c h=>Af.len h;have hz:0<e.size:=by have:=tV hb.2;omega
       have hl:len=l.length:=tQ hz (h4.symm.trans hlen);subst hl;obtain⟨b,off,arr,T,fr,rfl,hB,hbl,hcap,hc⟩:=h7 A7;obtain⟨c1,c2,c3,he,h8,h9,_⟩:=Az.get (λx c h=>Af.len h) h2 hj2;have h10:c2.length=e.size:=h9.len;have h11:(j.toNat+1)*e.size<=l.length*e.size:=tN _ hj1;rw[uZ]at h11;have hp:UB (λb=>A b/\Z.R b) w (.pointer (some ⟨b,off+j.toNat*e.size,none⟩)) c2:=by
        refine⟨b,off+j.toNat*e.size,arr,T,fr,rfl,hB,hbl,λq hq=>?_⟩;rw[uC,hc _ A7,he,List.getElem?_append_right A7,h8,show j.toNat*e.size+q-j.toNat*e.size=q by omega,List.getElem?_append_left hq]
       have jF:Br (λb=>A b/\Z.R b) w L (.rptr (e.pv x)) (.pointer (some ⟨b,off+j.toNat*e.size,none⟩)):=⟨_,c2,rfl,hp,Rh.2 h9⟩;exact⟨rfl,_,λw'=>Fl ht (By Fj hb.1) h3 hix A7 A7 w',jF⟩
      ·cases h
     ·rename_i i hx';split at h
      ·rename_i E e l hi;obtain⟨hb,h⟩:=Sy h;cases h;simp only[tK]at hb;obtain⟨hj0,hj1,hj2⟩:=Dd hx;obtain⟨v,cs,h1,h2⟩:=hm.arr hi;obtain⟨z',E',c',h3⟩:=Ld (Bf hm.sl hx' rfl);rw[h1]at h3;cases h3;have hlen:=h2.len λx c h=>Af.len h;have hz:0<e.size:=by have:=tV hb.2;omega
       have hpos:0<cs.length:=by rw[hlen];exact Nat.mul_pos A7 hz
       obtain⟨b,len,cap,h4,h5⟩:=hr.base h1 hpos;have hl:len=l.length:=tQ hz (h5.symm.trans hlen);subst hl;refine⟨rfl,_,λw'=>Fl ht (By Fj hb.1) h4 hix A7 A7 w',?_⟩;rw[show(0:Nat)+j.toNat*e.size=Ad [.idx j e.size] by simp[Ad,Zk]];refine La h1 ?_;rw[h4];rfl
      ·cases h
     ·rename_i o i p e lo n' hx';obtain⟨hb,h⟩:=Sy h;cases h;simp only[tK]at hb;have hj':0<=j/\j<n':=uL (Gq hx);obtain⟨md,v1,h3,h4,k1,k2,⟨pt,cap,k3,k4,k5,k6⟩,_⟩:=Bf hm.sl hx' rfl;have h6:=List.cons.inj h4;obtain⟨b,e1,rfl⟩:=k6 A7;refine⟨rfl,_,λw'=>Fl ht (By Fj hb.1) (h6.1.trans k3) hix hj'.1 A7 w',?_⟩;rw[show Ad p+lo.toNat*e.size+j.toNat*e.size=Ad (p++[.idx (lo+j) e.size]) by
       rw[Ub,uC,<-tW]
       show _=Ad p+(lo+j).toNat*e.size;rw[Int.toNat_add k1 hj'.1]]
      exact La h3 e1
     ·cases h
   ·rename_i m et ht;split at h
    ·cases h
    ·rename_i inf Fj;split at h
     ·rename_i i p hx';split at h
      ·rename_i T v hi;split at h
       ·rename_i e0 l0 hg;split at h
        ·rename_i m' e l;obtain⟨hb,h⟩:=Sy h;cases h;simp only[tK]at hb;obtain⟨hj0,hj1,hj2⟩:=Dd hx;obtain⟨md,b,h1,h2,h3⟩:=Hn (Bf hm.sl hx' rfl);obtain⟨b',cells,h4,h5⟩:=hm.box hi;rw[h4]at h1;cases h1;cases h2;obtain⟨c1,c2,c3,he,h6,h7,h8⟩:=Uj hg h5;have hmm:=Bc hb.2;subst hmm;have hl:l.length=m':=h7;refine⟨rfl,_,λw'=>Rb ht (By Fj hb.1.1) h3 hix A7 A7 w',?_⟩;rw[show Ad p+j.toNat*e.size=Ad (p++[.idx j e.size]) by simp[Oc,Ad,Zk]];exact La h4 rfl
        ·cases h
       ·cases h
      ·cases h
     ·cases h
   ·cases h
 ·cases h
end Go.Rx
namespace Go.Rx
open Go Go.Lv
variable{want b:Bool}{v:PV}{G:Prop}
variable {P:Program} {B B':Reg} {w w':World} {L L':List MD} {s:S} {σs:List Env} {σ:Env} {Z:Fix} {A A':Reg} {n:Nat} {ops:Array Oper}
variable {R:Type} {k:S->Option R} {r:R} {d:Option Nat} {ty:TypeId} {pos:String} {after:Array Edge} {T:Tab} {inl:GD R}
theorem gG{o:Oper}(hT:Vp P T Z)(hI:Ir P T.gl inl)(hr:Rel Z s σs A L σ w)(hd:Di n o=true)(h:oP P T inl o s k=some r):
  Ia P n ops {o with guard:=none} Z s σs k r (RZ T s o=true) A L σ w:=by
 obtain⟨d,op,ty,pos,after,g⟩:=o;have hd':Di n ⟨d,op,ty,pos,after,none⟩=true:=hd;unfold oP at h;split at h
 ·rename_i v hv;obtain⟨h1,val,h2,h3⟩:=UR (P:=P) (B:=λb=>A b/\Z.R b) (w:=w) (L:=L) (λ_=>True) hr.mem.sl hv;exact Bn hr hd' (h2 w trivial) h1 h3 h
 ·split at h
  ·rename_i v hv;obtain⟨h1,val,h2,h3⟩:=aT (P:=P) hr hv;exact Bn hr hd' (h2 w (.refl hr)) h1 h3 h
  ·cases d with
   |some dn=>exact nO hT hI hr hd' h
   |none=>
    simp only at h;split at h
    ·rename_i t a x;refine Me (iH hr h) ?_;rintro σ' w' ⟨s',A',L',g1,g2,g3⟩;exact⟨s',A',L',g1,g2,λg=>by simp[RZ,mN]at g⟩
    ·rename_i as ts;split at h
     ·rename_i x y t t2 has hts;have h1:=Jk has;have h2:=Jk hts;subst h1 h2;refine Me (cU hr hd' h) ?_;rintro σ' w' ⟨s',A',L',g1,g2,g3⟩;exact⟨s',A',L',g1,g2,λg=>by simp[RZ,mN]at g⟩
     ·cases h
    ·cases h
theorem WL.oX{rest:List Oper}{K:Env->World->Prop}{o:Oper}{j t:Nat}(hg:o.guard=some (j,want))(hj:(ops[j]?).bind (·.dst)=some t)(hb:σ t= .bool b)(hne:(b==want)=false)
  (hdn:Di n o=true) (h:WL P n ops rest K (eS σ o.dst Go.undef) w):WL P n ops (o::rest) K σ w:=by
 intro ds a ha;refine wpList_step λK' hK'=>?_;have hw:Region.wanted o (yielded ops a.tmps)=false:=by
  simp only[Region.wanted,hg,Oo ha hj hb];cases b<;>cases want<;>simp_all
 rw[uF (by rw[hw];simp)];refine hK' _ _ ?_;cases hd:o.dst with
 |none=>rw[hd]at h;exact h _ _ (ha.OV _)
 |some d=>rw[hd]at h;unfold Di at hdn;rw[hd]at hdn;exact h _ _ (ha.put hdn _)
theorem WL.pI{rest:List Oper}{K:Env->World->Prop}{o:Oper}{j t:Nat}(hg:o.guard=some (j,want))(hj:(ops[j]?).bind (·.dst)=some t)(hb:σ t=Go.undef)
  (hdn:Di n o=true) (h:WL P n ops rest K (eS σ o.dst Go.undef) w):WL P n ops (o::rest) K σ w:=by
 intro ds a ha;refine wpList_step λK' hK'=>?_;have hy:yielded ops a.tmps j=none:=by
  unfold yielded;rw[hj];have h1:=ha.get t;rw[hb]at h1;cases h:a.tmps[t]? with
  |none=>simp[h]
  |some v=>
   rw[Array.getD_eq_getD_getElem?,h]at h1;simp at h1;subst h1;simp[h,undef]
 have hw:Region.wanted o (yielded ops a.tmps)=false:=by
  simp only[Region.wanted,hg,hy];cases want<;>rfl
 rw[uF (by rw[hw];simp)];refine hK' _ _ ?_;cases hd:o.dst with
 |none=>rw[hd]at h;exact h _ _ (ha.OV _)
 |some d=>rw[hd]at h;unfold Di at hdn;rw[hd]at hdn;exact h _ _ (ha.put hdn _)
theorem XM{o:Oper}(hr:Rel Z s σs A L σ w)(h:k (s.Cg o.dst .off)=some r):WL P n ops [] (RW Z σs k r G A L s.it w) (eS σ o.dst Go.undef) w:=by
 refine WL.nil ⟨_,A,L,h,hr.jN,λ_=>?_⟩;have:(s.Cg o.dst .off).it=s.it:=by cases o.dst<;>rfl
 rw[this];exact .refl
theorem Ua{a:Bool}:BH a b=(b==a):=by cases a<;>cases b<;>rfl
theorem aC{G':Prop}{σ':Env}{it:List Item}(hp:RW Z σs k r G A L it w σ' w')(h:G'->G):RW Z σs k r G' A L it w σ' w':=by
 obtain⟨s',A',L',h1,h2,h3⟩:=hp;exact⟨s',A',L',h1,h2,λg=>h3 (h g)⟩
theorem LG{t dn:Nat}{val:Value}(ht:σ t= .bool b)(hne:Nat.beq dn t=false)(h1:b=want->Br B w L v val)(h2:b≠want->val=Go.undef):Cr B w L (Fy σ dn val) dn (.gd t want v):=by
 have htd:t≠dn:=by intro e;subst e;simp at hne
 exact⟨b,by rw[Uh _ _ htd];exact ht,λe=>by rw[Jq];exact h1 e,λe=>by rw[Jq];exact h2 e⟩
theorem cG{o:Oper}{j t dn:Nat}(hr:Rel Z s σs A L σ w)(hg:o.guard=some (j,want))(hj:(ops[j]?).bind (·.dst)=some t)(ht:σ t= .bool b)(hdn:Di n o=true)(hd:o.dst=some dn)
  (hne:Nat.beq dn t=false) (hv:b=want->v.isV=true/\∃val,XO P σ w o.op val/\Br (λb=>A b/\Z.R b) w L v val) (hk:k (s.set dn (.gd t want v))=some r):Ia P n ops o Z s σs k r G A L σ w:=by
 by_cases hbw:b=want
 ·obtain⟨h1,val,h2,h3⟩:=hv hbw;refine WL.on hg hj ht (by simpa using hbw) (WL.aZ rfl (by simpa [Di]using hdn) (h2 _ _ _ _ _) (WL.nil ⟨_,A,L,hk,?_,λ_=> .refl⟩));simp only[hd];exact hr.set (LG ht hne (λ_=>h3) (λe=>absurd hbw e))
 ·refine WL.oX hg hj ht (by simpa using hbw) hdn (WL.nil ⟨_,A,L,hk,?_,λ_=> .refl⟩);rw[hd];exact hr.set (LG ht hne (λe=>absurd e hbw) (λ_=>rfl))
theorem Mi{t:Nat}(hm:Cf B w L σ s.sl)(h:Iy s.sl t= .val .bool b):σ t= .bool b:=by
 have h1:=Fo (t:=t) hm;rw[h]at h1;exact Kh h1
theorem EU{t:Nat}(hm:Cf B w L σ s.sl)(h:Iy s.sl t= .cst (.bool b)):σ t= .bool b:=by
 have h1:=Fo (t:=t) hm;rw[h]at h1;have: [σ t]=[Value.bool b]:=h1.1;simpa using this
theorem nK{o:Oper}{j t:Nat}(hT:Vp P T Z)(hI:Ir P T.gl inl)(hr:Rel Z s σs A L σ w)(hd:Di n o=true)(hg:o.guard=some (j,want))(hj:(ops[j]?).bind (·.dst)=some t)
  (h:oO P T inl o t want s k=some r):Ia P n ops o Z s σs k r (RZ T s o=true/\∃b,Iy s.sl t= .cst (.bool b)) A L σ w:=by
 have hm:=hr.mem;have lit:∀(G:Prop) (s1:S) (b:Bool),(G->RZ T s1 o=true)->Rel Z s1 σs A L σ w->s1.it=s.it->σ t= .bool b-> (Be (BH want b) (oP P T inl o s1 k)<|k (s1.Cg o.dst .off))=some r->Ia P n ops o Z s σs k r G A L σ w:=by
  intro G s1 b hG hr1 hit ht h;cases hb:BH want b with
  |true=>
   rw[hb]at h;refine WL.on hg hj ht (by rw[<-Ua];exact hb) (Me (gG hT hI hr1 hd h) λσ' w' hp=>?_);rw[<-hit];exact aC hp hG
  |false=>
   rw[hb]at h;refine WL.oX hg hj ht (by rw[<-Ua];exact hb) hd ?_;rw[<-hit];exact XM hr1 h
 unfold oO at h;simp only at h;split at h
 ·rename_i b hb;exact lit _ s b (λg=>g.1) hr rfl (EU hm.sl hb) h
 ·rename_i hb;have h1:=Fo (t:=t) hm.sl;rw[hb]at h1;exact WL.pI hg hj h1 hd (XM hr h)
 ·rename_i b hb;have ht:=Mi hm.sl hb;have qH:∀{X:Prop},(∃b,Iy s.sl t= .cst (.bool b))->X:=λ⟨_,g⟩=>by rw[hb]at g;cases g
  split at h
  ·rename_i dn v hdn hv;cases hne:Nat.beq dn t with
   |true=>rw[hne]at h;cases h
   |false=>
    rw[hne]at h;refine cG hr hg hj ht hd hdn hne (λhbw=>?_) h;subst hbw;obtain⟨h1,val,h2,h3⟩:=UR (P:=P) (λ_=>True) (hr.res ht).mem.sl hv;exact⟨h1,val,h2 w trivial,h3⟩
  ·rename_i dn v hdn hv0 hv;cases hne:Nat.beq dn t with
   |true=>rw[hne]at h;cases h
   |false=>
    rw[hne]at h;refine cG hr hg hj ht hd hdn hne (λhbw=>?_) h;subst hbw;obtain⟨h1,val,h2,h3⟩:=aT (P:=P) (hr.res ht) hv;exact⟨h1,val,h2 w (.refl (hr.res ht)),h3⟩
  ·cases b with
   |true=>exact lit _ (s.res t true) true (λg=>qH g.2) (hr.res ht) rfl ht (by simpa using h)
   |false=>exact lit _ (s.res t false) false (λg=>qH g.2) (hr.res ht) rfl ht (by simpa using h)
 ·cases h
theorem cR{o:Oper}(hT:Vp P T Z)(hI:Ir P T.gl inl)(hr:Rel Z s σs A L σ w)(h:CF P T inl n ops o s k=some r):Ia P n ops o Z s σs k r (RZ T s o=true/\bA ops s o=true) A L σ w:=by
 have hm:=hr.mem;unfold CF at h;cases hd:Di n o with
 |false=>rw[hd]at h;cases h
 |true=>
  rw[hd]at h;simp only[vG,vP]at h;try dsimp only[Be]at h
  split at h
  ·rename_i hg;have:({o with guard:=none}:Oper)=o:=by cases o;simp only at hg;subst hg;rfl
   rw[<-this];refine Me (gG hT hI hr hd h) λσ' w' hp=>aC hp ?_;rintro⟨g,_⟩;rw[this]at g;exact g
  ·rename_i j want hg;split at h
   ·cases h
   ·rename_i t hj;have fin:∀s1:S,(bA ops s o=true->s1=s)->Rel Z s1 σs A L σ w->s1.it=s.it->oO P T inl o t want s1 k=some r->Ia P n ops o Z s σs k r (RZ T s o=true/\bA ops s o=true) A L σ w:=by
     intro s1 hs hr1 hit h;refine Me (nK hT hI hr1 hd hg hj h) λσ' w' hp=>?_;rw[<-hit];refine aC hp (λg=>?_);have:=hs g.2;subst this;refine⟨g.1,?_⟩;have h2:=g.2;unfold bA at h2;simp only[hg,hj]at h2;split at h2
     ·exact⟨_,by assumption⟩
     ·cases h2
    split at h
    ·rename_i t2 w2 v hv;have qH:∀{X:Prop},bA ops s o=true->X:=λg=>by
      unfold bA at g;simp only[hg,hj,hv]at g;cases g
     split at h
     ·rename_i b hb;have ht:=Mi hm.sl hb;cases b with
      |true=>exact fin _ qH (hr.res ht) rfl (by simpa using h)
      |false=>exact fin _ qH (hr.res ht) rfl (by simpa using h)
     ·cases h
    ·exact fin s (λ_=>rfl) hr rfl h
theorem Rel.pU{rr:Nat}(hr:Rel Z s σs A L σ w)(hl:rr<w.heap.size)(hm:Bg w (λb=>A b\/b=rr) (L.map MD.Cs)):Rel Z s σs (λb=>A b\/b=rr) L σ w:=
 ⟨λb hb=>hb.elim (hr.lt b) (λe=>e▸hl),λf hf=>f.step (hr.facts f hf) (λ_ h=> .inl h) (λ_ _=>rfl) (.refl _),hm⟩
theorem Rel.world{w':World}(hr:Rel Z s σs A L σ w)(hs:Same A w w')(hg:Gr w w')(hm:Bg w' A (L.map MD.Cs)):Rel Z s σs A L σ w':=
 ⟨λb hb=>tZ (hr.lt b hb) hg.le,λf hf=>f.step (hr.facts f hf) (λ_ h=>h) hs hg,hm⟩
def gO(P:Program)(Z:Fix)(d t:Nat)(ks:List UInt8)(vs:List PV)(A:Reg)(L:List MD)(σ:Env)(w:World):Prop:=
 ∃rr es c kt et,P.underlying t=some (.map kt et)/\P.underlying kt=some (.int .u8)/\σ d= .map (some rr)/\w.heap[rr]? =some (.map es c)/\Z.w0.heap.size<=rr/\ ¬A rr/\Bg w (λb=>A b\/b=rr) (L.map MD.Cs)/\
  es.toList.map (·.key)=ks.map (λk=>iv (T:=UInt8) (k:= .u8) k)/\Bs (λb=>A b/\Z.R b) w L vs (es.toList.map (·.val))
theorem gO.close{d t:Nat}{ks:List UInt8}{vs:List PV}(hr:Rel Z s σs A L σ w)(h:gO P Z d t ks vs A L σ w):∃A',Rel Z (s.set d (.mp ks vs)) σs A' L σ w:=by
 obtain⟨rr,es,c,kt,et,_,_,h3,h4,h5,h6,h7,h8,h9⟩:=h;have hr1:=hr.pU (lt_of_heap h4) h7;have hσ:Fy σ d (.map (some rr))=σ:=by
  rw[<-h3];funext q;by_cases hq:q=d
  ·rw[hq,Jq]
  ·rw[Uh _ _ hq]
 refine⟨λb=>A b\/b=rr,?_⟩;rw[<-hσ];refine hr1.set ?_;rw[hσ];have hv:Aj (λb=>(A b\/b=rr)/\Z.R b) w L (.mp ks vs) [.map (some rr)]:=⟨rr,es,c,rfl,⟨.inr rfl,Z.new _ h5⟩,h4,h8,Aj.JA (λb hb=>⟨.inl hb.1,hb.2⟩) (λ_ _=>rfl) (.refl L) h9⟩
 show Aj _ w L (.mp ks vs) [σ d];rw[h3];exact hv
theorem bT{u:UInt8}:∀{es:List MapEntry} {ks:List UInt8} (i:Nat),es.map (·.key)=ks.map (λk=>iv (T:=UInt8) (k:= .u8) k)->dL u ks=false->Instr.findNow (.int .u8) (iv (T:=UInt8) (k:= .u8) u) es i=some none
 |[],_,_,_,_=>rfl
 |e::es,[],_,h,_=>by cases h
 |e::es,q::ks,i,h,hu=>by
  simp only[uH,List.cons.injEq]at h;simp only[dL,uU]at hu;have hs:Instr.sameNow (.int .u8) (iv (T:=UInt8) (k:= .u8) u) e.key=some (geq u q):=by rw[h.1];rfl
  simp only[Instr.findNow,hs,hu.1];exact bT (i+1) h.2 hu.2
theorem Bs.push{B:Reg}{p:PV}{v:Value}(h:bS p.isA (Aj B w L p) v):∀{vs:List PV} {us:List Value},Bs B w L vs us->Bs B w L (vs++[p]) (us++[v])
 |[],us,e=>by
  rw[show us=[]from e];exact⟨v,[],rfl,h,rfl⟩
 |a::vs,us,⟨x,us',e,h1,h2⟩=>⟨x,us'++[v],by rw[e];rfl,h1,Bs.push h h2⟩
theorem gC{d t:Nat}{o:Op}{u:UInt8}{x:Operand}(h:iQ d t o=some (u,x)):o= .insert t (.tmp d) (.const (iv (T:=UInt8) (k:= .u8) u)) x:=by
 unfold iQ at h;split at h
 ·rename_i t' q m x';obtain⟨hb,h⟩:=Ae h;simp only[tK]at hb;cases h;rw[Bc hb.1.1,Bc hb.1.2];have:=uL hb.2
  show Op.insert t (.tmp d) (.const (.int .u8 m)) x= .insert t (.tmp d) (.const (.int .u8 (((GI.ofZ m:UInt8).toNat:Nat):Int))) x;rw[this]
 ·cases h
theorem lT{o:Oper}{d t:Nat}(h:nY P n o=some (d,t)):o.op= .makeMap t none/\o.dst=some d/\o.guard=none/\Nat.blt d n=true/\∃kt et,P.underlying t=some (.map kt et)/\P.underlying kt=some (.int .u8):=by
 unfold nY at h;split at h
 ·rename_i t' ho;split at h
  ·rename_i d' kt et hd hg ht;split at h
   ·rename_i hk;obtain⟨hb,h⟩:=Ae h;cases h;exact⟨ho,hd,hg,hb,kt,et,ht,hk⟩
   ·cases h
  ·cases h
 ·cases h
def qR(P:Program)(Z:Fix)(σs:List Env)(m:Option (Nat×Nat×List UInt8×List PV))(A:Reg)(L:List MD)(σ:Env)(w:World):Prop:=match m with|none=>True|some (d,t,ks,vs)=>gO P Z d t ks vs A L σ w
theorem Td(hT:Vp P T Z)(hI:Ir P T.gl inl):∀{l:List Oper} {m:Option (Nat×Nat×List UInt8×List PV)} {s:S} {A:Reg} {L:List MD} {σ:Env} {w:World},Rel Z s σs A L σ w->qR P Z σs m A L σ w->Ll P T inl n ops l m s k=some r->
  WL P n ops l (λσ' w'=>∃s' A' L',k s'=some r/\Rel Z s' σs A' L' σ' w') σ w
 |[],m,s,A,L,σ,w,hr,hm,h=>by
  unfold Ll at h;cases m with
  |none=>exact WL.nil ⟨s,A,L,h,hr⟩
  |some q=>
   obtain⟨d,t,ks,vs⟩:=q;obtain⟨A',hr'⟩:=gO.close hr hm;exact WL.nil ⟨_,A',L,h,hr'⟩
 |o::l,m,s,A,L,σ,w,hr,hm,h=>by
  have op:∀{s:S} {A:Reg},Rel Z s σs A L σ w-> (CF P T inl n ops o s λs'=>Ll P T inl n ops l none s' k)=some r->WL P n ops (o::l) (λσ' w'=>∃s' A' L',k s'=some r/\Rel Z s' σs A' L' σ' w') σ w:=by
   intro s A hr h;have h1:=cR (ops:=ops) hT hI hr h;refine WL.cut _ [o] h1 ?_;rintro σ' w' ⟨s',A',L',g1,g2,_⟩;exact Td (m:=none) hT hI g2 trivial g1
  unfold Ll at h;cases m with
  |none=>
   simp only at h;split at h
   ·exact op hr h
   ·rename_i d t hmk;obtain⟨h1,h2,h3,h4,kt,et,h5,h6⟩:=lT hmk;have hsz:(w.alloc (.map #[] 0)).heap.size=w.heap.size+1:=Wu w _;have hkeep:Keep w (w.alloc (.map #[] 0)):=II w _;have hr1:Rel Z s σs A L σ (w.alloc (.map #[] 0)):=St.keep hr hkeep;have hr2:Rel Z (s.set d .undef) σs A L (Fy σ d (.map (some w.heap.size))) (w.alloc (.map #[] 0)):=hr1.set trivial;have AB:Bg (w.alloc (.map #[] 0)) (λb=>A b\/b=w.heap.size) (L.map MD.Cs):=
     (Bg.step (by rw[hsz];omega) (St.mobs hr).lt λb hb _=>hkeep.same b hb).Hp λb hb=>hb.imp id λe=>Nat.le_of_eq e.symm
    have hx:(execOp (ev σ) o).run P w= .ok (.value (.map (some w.heap.size))) (w.alloc (.map #[] 0)):=by
     obtain⟨_,_,_,_,_,_⟩:=o;simp only at h1;subst h1;simp[execOp,Instr.makeMap,Result.andThen]
    refine WL.val h3 h2 h4 hx (Td hT hI hr2 ?_ h);exact⟨w.heap.size, #[],0,kt,et,h5,h6,Jq _ _ _,Gi w _,(hr.fact 1 (f:= .old Z.M Z.w0) rfl).1.le,λhA=>absurd (hr.lt _ hA) A7,AB,rfl,rfl⟩
  |some q=>
   obtain⟨d,t,ks,vs⟩:=q;simp only at h;have cl:∀{s':S},s'=s.set d (.mp ks vs)-> (CF P T inl n ops o s' λs'=>Ll P T inl n ops l none s' k)=some r->WL P n ops (o::l) (λσ' w'=>∃s' A' L',k s'=some r/\Rel Z s' σs A' L' σ' w') σ w:=by
    intro s' hs' h;subst hs';obtain⟨A',hr'⟩:=gO.close hr hm;exact op hr' h
   split at h
   ·rename_i q hg hq;split at h
    ·rename_i v hv;obtain⟨hb,hv⟩:=Ae hv;simp only[tK,tX]at hb;obtain⟨h1,val,h2,h3⟩:=UR (P:=P) (B:=λb=>A b/\Z.R b) (w:=w) (L:=L) (λ_=>True) hr.mem.sl hv;have hne:d≠q:=λe=>by rw[e]at hb;simp at hb
     have hx:(execOp (ev σ) o).run P w= .ok (.value val) w:=by
      obtain⟨d0,nQ,sS,rJ,sT,g0⟩:=o;exact h2 w trivial d0 sS rJ sT g0
     refine WL.val hg hq hb.1 hx (Td hT hI (hr.set (Cr.put h1 h3)) ?_ h);obtain⟨rr,es,c,kt,et,g1,g2,g3,g4⟩:=hm;exact⟨rr,es,c,kt,et,g1,g2,by rw[Uh _ _ hne];exact g3,g4⟩
    ·exact cl rfl h
   ·rename_i hg hq;split at h
    ·rename_i u x hins;have ho:=gC hins;obtain⟨hb,h⟩:=Ae h;simp only[tK,tX]at hb;obtain⟨rr,es,c,kt,et,g1,g2,g3,g4,g5,g6,g7,g8,g9⟩:=hm;have hxv:Cz (λb=>A b/\Z.R b) w L (Bo s.sl x) (ev σ x):=by
      refine Mn hr.mem.sl ?_;cases hp:Bo s.sl x<;>rw[hp]at hb<;>first|rfl|exact absurd hb.1 (by simp[pK])
     have hlt:=lt_of_heap g4
     let o':Obj:= .map (es.push {key:=iv (T:=UInt8) (k:= .u8) u,val:=ev σ x,born:=c}) (c+1)
     let w':World:={w with heap:=w.heap.setIfInBounds rr o'}
     have hheap:∀b,b≠rr->w'.heap[b]? =w.heap[b]? :=λb hb=>by simp[w',Array.getElem?_setIfInBounds_ne (vN hb)]
     have hnew:w'.heap[rr]? =some o':=by simp[w',hlt]
     have hgr:Gr w w':=⟨by simp[w'],rfl,rfl,rfl⟩;have hsame:Same A w w':=λb hb=>hheap b λe=>g6 (e▸hb);have AB:Bg w' (λb=>A b\/b=rr) (L.map MD.Cs):=Bg.step hgr.le g7 λb _ hb=>hheap b λe=>hb (.inr e);have hck:(Instr.checkKey false 10000 kt (iv (T:=UInt8) (k:= .u8) u)).run P w= .ok () w:=MapKept.run_checkKey g2 (show MapKept.IsKey (.int .u8) (.int .u8 _)from rfl) _ 9999;have qM:=MapKept.run_findKey (P:=P) (w:=w) g2 (bT 0 g8 hb.2);have hx:(execOp (ev σ) o).run P w= .ok .skip w':=by
      obtain⟨_,_,_,_,_,_⟩:=o;simp only at ho;subst ho;have e1:ev σ (.tmp d)= .map (some rr):=g3;have e2:ev σ (.const (iv (T:=UInt8) (k:= .u8) u))=iv (T:=UInt8) (k:= .u8) u:=rfl;simp[execOp,e1,e2,Instr.mapUpdate,tM g1,MapKept.run_getObj_map g4,hck,qM,MapKept.run_setObj_map _ g4,Result.andThen,w',o']
     refine WL.unit hg hq hx (Td hT hI (hr.world hsame hgr (AB.Hp λb hb=> .inl hb)) ?_ h);refine⟨rr,_,_,kt,et,g1,g2,g3,hnew,g5,g6,AB,?_,?_⟩
     ·simp only[Array.toList_push,vF,g8,uH,List.map_nil]
     ·simp only[Array.toList_push,vF,uH,List.map_nil];exact Aj.JA (λ_ h=>h) (λb hb=>hsame b hb.1) (.refl L) (Bs.push hxv g9)
    ·exact cl rfl h
   ·cases h
theorem XN(hT:Vp P T Z)(hI:Ir P T.gl inl){l:List Oper}{s:S}{A:Reg}{L:List MD}{σ:Env}{w:World}(hr:Rel Z s σs A L σ w)(h:DZ P T inl n ops l s k=some r):
  WL P n ops l (λσ' w'=>∃s' A' L',k s'=some r/\Rel Z s' σs A' L' σ' w') σ w:=Td (m:=none) hT hI hr trivial h
end Go.Rx
namespace Go.Rx
open Go Go.Lv
variable{b:BV}{o:Op}{v:PV}
variable {P:Program} {B B':Reg} {w w':World} {L L':List MD} {s:S} {σs:List Env} {σ:Env} {Z:Fix} {A A':Reg} {n:Nat} {ops:Array Oper}
variable {R:Type} {k:S->Option R} {r:R} {d:Option Nat} {ty:TypeId} {pos:String} {after:Array Edge} {T:Tab} {inl:GD R} {mem:Bool} {listed:Array Bool}
def HE(Z:Fix)(σs:List Env)(A:Reg)(L:List MD)(it:List Item)(w w':World):Prop:=∃s2 σ2 A' L',Rel Z s2 σs A' L' σ2 w'/\Grow A L it w A' L' s2.it w'
theorem HE.refl(hr:Rel Z s σs A L σ w):HE Z σs A L s.it w w:=⟨s,σ,A,L,hr, .refl⟩
theorem HE.ext(hr:Rel Z s σs A L σ w)(h:HE Z σs A L s.it w w'):Ext Z s σs A L σ w w':=by
 obtain⟨s2,σ2,A',L',h1,h2⟩:=h;exact h2.ext hr h1
theorem FT{z:Array Bool}:∀{is:List Nat} {i d:Nat} {v:PV},Is P T n mem ops z listed s is=some (i,d,v)->∃o,ops[i]? =some o/\Iu ops (tw z) listed i=true/\VX P T n mem ops o s=some (d,v)
 |[],_,_,_,h=>by simp[Is]at h
 |j::is,i,d,v,h=>by
  simp only[Is]at h;split at h
  ·cases h
  ·rename_i o ho;split at h
   ·rename_i d' v' hp;cases h;cases ht:Iu ops (tw z) listed j with
    |true=>rw[ht]at hp;exact⟨o,ho,by first|exact ht|rfl,hp⟩
    |false=>rw[ht]at hp;cases hp
   ·exact FT h
def GS(Z:Fix)(σs:List Env)(w':World):Prop:=∃s2 σ2 A2 L2,Rel Z s2 σs A2 L2 σ2 w'
theorem Ext.gs(h:Ext Z s σs A L σ w w'):GS Z σs w':=by
 obtain⟨⟨A',L',it',_,hr⟩,_⟩:=h;exact⟨_,_,_,_,hr⟩
theorem eP{g:Nat}{t:TypeId}(hT:Vp P T Z)(h:T.mT P g t=some v):∃cs,(∀w',GS Z σs w'->∃T1 fr,w'.heap[g]? =some (.cells cs.toArray T1 fr))/\∀(B:Reg) (w:World) (L:List MD),Aj B w L v cs:=by
 unfold Tab.mT at h;split at h
 ·rename_i cs hg;split at h
  ·rename_i v' hp;cases h;refine⟨cs,λw' hw=>?_,λB w L=>?_⟩
   ·obtain⟨s2,σ2,A2,L2,hr⟩:=hw;obtain⟨_,T1,fr,h2⟩:=hr.aI (p:=(g,cs)) (by rw[hT.2];exact MB hg);exact⟨T1,fr,h2⟩
   ·obtain⟨c,e1,h3⟩:=Sf (B:=B) (w:=w) (L:=L) Q hp;rw[uE]at e1;subst e1;exact h3
  ·cases h
 ·cases h
theorem kE(hT:Vp P T Z)(h:oF P T o=some v):v.isV=true/\∃val,(∀w',GS Z σs w'->XO P σ w' o val)/\Br (λb=>A b/\Z.R b) w L v val:=by
 unfold oF at h;split at h
 ·rename_i t g;split at h
  ·rename_i u hv;obtain⟨hb,hk⟩:=Ae h;cases hk;obtain⟨cs,h1,h3⟩:=eP (σs:=σs) hT hv;obtain⟨val,h7,h8⟩:=Wl (P:=P) (σ:=σ) (x:= .global g) (b:=g) (off:=0) (Ew hb) (h3 (λb=>A b/\Z.R b) w L) rfl;obtain⟨hv1,hv2⟩:=Df h7;refine⟨hv1,val,λw' hw=>h8 w' λj hj=>?_,hv2⟩;obtain⟨T1,fr,h4⟩:=h1 w' hw;rw[cell_of h4];simp
  ·cases h
 ·cases h
theorem NL{S:World->Prop}(hT:Vp P T Z)(hr:Rel Z s σs A L σ w)(h:IH P T mem s o=some v)(hS:mem=true->∀w',S w'->Ext Z s σs A L σ w w')(hG:∀w',S w'->GS Z σs w'):v.isV=true/\∃val,(∀w',S w'->XO P σ w' o val)/\Br (λb=>A b/\Z.R b) w L v val:=by
 unfold IH at h;split at h
 ·rename_i u hu;cases h;exact UR (P:=P) S hr.mem.sl hu
 ·split at h
  ·rename_i u hu;cases h;cases mem with
   |true=>
    obtain⟨h1,val,h2,h3⟩:=aT (P:=P) hr hu;exact⟨h1,val,λw' hw=>h2 w' (hS rfl w' hw),h3⟩
   |false=>cases hu
  ·obtain⟨h1,val,h2,h3⟩:=kE (σs:=σs) (σ:=σ) (A:=A) (w:=w) (L:=L) hT h;exact⟨h1,val,λw' hw=>h2 w' (hG w' hw),h3⟩
theorem lF{t:Nat}{b:Bool}{w':World}(h:Ext Z s σs A L σ w w')(ht:σ t= .bool b):Ext Z (s.res t b) σs A L σ w w':=by
 obtain⟨⟨A',L',it',h1,h2⟩,h3⟩:=h;exact⟨⟨A',L',it',h1,Rel.res (s:=⟨s.sl,s.it++it',s.st⟩) h2 ht⟩,h3⟩
theorem cW{S:World->Prop}{z:Array Bool}{fuel i dn:Nat}{o:Oper}{K:Env->World->Prop}(hT:Vp P T Z)(hr:Rel Z s σs A L σ w)(hi:ops[i]? =some o)(hB:Iu ops (tw z) listed i=true)(hp:VX P T n mem ops o s=some (dn,v))(hSw:S w)
  (hS:mem=true->∀w',S w'->Ext Z s σs A L σ w w') (hG:∀w',S w'->GS Z σs w') (h:∀σ',Rel Z (s.set dn v) σs A L σ' w->WD P n ops S (tw z) fuel (listed.setIfInBounds i true) K σ' w):WD P n ops S (tw z) (fuel+1) listed K σ w:=by
 obtain⟨d,op,ty,pos,after,g⟩:=o;have hm:=hr.mem;unfold VX at hp;simp only at hp;split at hp
 ·cases hp
 ·rename_i d';cases hn:Nat.blt d' n with
  |false=>rw[hn]at hp;cases hp
  |true=>
   rw[hn]at hp;simp only[vG,vP]at hp;try dsimp only[Be]at hp
   split at hp
   ·
    cases hv:IH P T mem s op with
    |none=>rw[hv]at hp;cases hp
    |some u=>
     rw[hv]at hp;cases hp;obtain⟨h1,val,h2,h3⟩:=NL hT hr hv hS hG;exact WD.x i hi hB hn hSw h2 (h _ (hr.set (.put h1 h3)))
   ·rename_i j want;split at hp
    ·cases hp
    ·rename_i t hj;split at hp
     ·rename_i b hb;have ht:=EU hm.sl hb;cases hw:BH want b with
      |true=>
       rw[hw]at hp;dsimp only[Be,cond]at hp;cases hv:IH P T mem s op with
       |none=>rw[hv]at hp;cases hp
       |some u=>
        rw[hv]at hp;cases hp;obtain⟨h1,val,h2,h3⟩:=NL hT hr hv hS hG;have hbw:(b==want)=true:=by rw[<-Ua];exact hw
        refine WD.gx (v:=val) i hi hB hn hj ht hSw (λ_=>h2) (h _ ?_);rw[MR hbw];exact hr.set (.put h1 h3)
      |false=>
       rw[hw]at hp;cases hp;have hbw:(b==want)=false:=by rw[<-Ua];exact hw
       refine WD.gx (v:=Go.undef) i hi hB hn hj ht hSw (λhg=>by rw[hbw]at hg;cases hg) (h _ ?_);rw[aK hbw];exact hr.set (show Fy σ dn Go.undef dn=Go.undef from Jq _ _ _)
     ·rename_i b hb;have ht:=Mi hm.sl hb;cases hne:Nat.beq d' t with
      |true=>rw[hne]at hp;cases hp
      |false=>
       rw[hne]at hp;dsimp only[Be,cond]at hp;cases hv:IH P T mem (s.res t want) op with
       |none=>rw[hv]at hp;cases hp
       |some u=>
        rw[hv]at hp;cases hp;by_cases hbw:b=want
        ·subst hbw;obtain⟨h1,val,h2,h3⟩:=NL hT (hr.res ht) hv (λhm w' hw=>lF (hS hm w' hw) ht) hG;refine WD.gx (v:=val) i hi hB hn hj ht hSw (λ_=>h2) (h _ ?_);rw[MR A9];exact hr.set (LG ht hne (λ_=>h3) (λe=>absurd rfl e))
        ·refine WD.gx (v:=Go.undef) i hi hB hn hj ht hSw (λhg=>absurd (by simpa using hg) hbw) (h _ ?_);rw[aK (by simpa using hbw)];exact hr.set (LG ht hne (λe=>absurd e hbw) (λ_=>rfl))
     ·cases hp
theorem Vt{z:Array Bool}:∀{is:List Nat} {i d:Nat} {v:BG},Kx P n ops z listed s is=some (i,d,v)->∃o,ops[i]? =some o/\Iu ops (tw z) listed i=true/\SW P n ops o s=some (d,v)
 |[],_,_,_,h=>by simp[Kx]at h
 |j::is,i,d,v,h=>by
  simp only[Kx]at h;split at h
  ·cases h
  ·rename_i o ho;split at h
   ·rename_i d' v' hp;cases h;cases ht:Iu ops (tw z) listed j with
    |true=>rw[ht]at hp;exact⟨o,ho,by first|exact ht|rfl,hp⟩
    |false=>rw[ht]at hp;cases hp
   ·exact Vt h
theorem jB{S:World->Prop}{z:Array Bool}{fuel i dn:Nat}{o:Oper}{x:b.X}{K:Env->World->Prop}(hr:Rel Z s σs A L σ w)(hi:ops[i]? =some o)(hB:Iu ops (tw z) listed i=true)(hp:SW P n ops o s=some (dn, .on b))(hx:b.E=some x)(hSw:S w)
  (h:∀σ',Rel Z (s.set dn (b.v x)) σs A L σ' w->WD P n ops S (tw z) fuel (listed.setIfInBounds i true) K σ' w):WD P n ops S (tw z) (fuel+1) listed K σ w:=by
 obtain⟨d,op,ty,pos,after,g⟩:=o;have hm:=hr.mem;unfold SW at hp;simp only at hp;split at hp
 ·cases hp
 ·rename_i d';cases hn:Nat.blt d' n with
  |false=>rw[hn]at hp;cases hp
  |true=>
   rw[hn]at hp;simp only[vG,vP]at hp;try dsimp only[Be]at hp
   split at hp
   ·cases hv:gL P s op with
    |none=>rw[hv]at hp;cases hp
    |some u=>
     rw[hv]at hp;cases hp;obtain⟨h1,val,h2,h3⟩:=aE hr hv hx;exact WD.x i hi hB hn hSw (λw' _=>h2 w') (h _ (hr.set (.put h1 h3)))
   ·rename_i j want;split at hp
    ·cases hp
    ·rename_i t hj;split at hp
     ·rename_i c hb;have ht:=EU hm.sl hb;cases hw:BH want c with
      |true=>
       rw[hw]at hp;dsimp only[Be,cond]at hp;cases hv:gL P s op with
       |none=>rw[hv]at hp;cases hp
       |some u=>
        rw[hv]at hp;cases hp;obtain⟨h1,val,h2,h3⟩:=aE hr hv hx;have hbw:(c==want)=true:=by rw[<-Ua];exact hw
        refine WD.gx (v:=val) i hi hB hn hj ht hSw (λ_ w' _=>h2 w') (h _ ?_);rw[MR hbw];exact hr.set (.put h1 h3)
      |false=>rw[hw]at hp;cases hp
     ·rename_i c hb;cases hne:Nat.beq d' t with
      |true=>rw[hne]at hp;cases hp
      |false=>
       rw[hne]at hp;dsimp only[Be,cond]at hp;cases hv:gL P (s.res t want) op with
       |none=>rw[hv]at hp;cases hp
       |some u=>rw[hv]at hp;cases hp
     ·cases hp
theorem dC{S:World->Prop}{z:Array Bool}{fuel i dn t:Nat}{want bv:Bool}{o:Oper}{K:Env->World->Prop}{X:Go.Rx.S->Option R}(hr:Rel Z s σs A L σ w)(hi:ops[i]? =some o)(hB:Iu ops (tw z) listed i=true)(hp:SW P n ops o s=some (dn, .ask t want bv b))(hSw:S w)
  (hx:(Be (BH want bv) (Option.bind b.E λx=>X ((s.res t bv).set dn (b.v x)))<|X ((s.res t bv).set dn .off))=some r)
  (h:∀s',s'.it=s.it->∀σ',Rel Z s' σs A L σ' w->X s'=some r->WD P n ops S (tw z) fuel (listed.setIfInBounds i true) K σ' w):WD P n ops S (tw z) (fuel+1) listed K σ w:=by
 obtain⟨d,op,ty,pos,after,g⟩:=o;have hm:=hr.mem;unfold SW at hp;simp only at hp;split at hp
 ·cases hp
 ·rename_i d';cases hn:Nat.blt d' n with
  |false=>rw[hn]at hp;cases hp
  |true=>
   rw[hn]at hp;simp only[vG,vP]at hp;try dsimp only[Be]at hp
   split at hp
   ·cases hv:gL P s op with
    |none=>rw[hv]at hp;cases hp
    |some u=>rw[hv]at hp;cases hp
   ·rename_i j want';split at hp
    ·cases hp
    ·rename_i t' hj;split at hp
     ·rename_i c hb;cases hw:BH want' c with
      |true=>
       rw[hw]at hp;dsimp only[Be,cond]at hp;cases hv:gL P s op with
       |none=>rw[hv]at hp;cases hp
       |some u=>rw[hv]at hp;cases hp
      |false=>rw[hw]at hp;cases hp
     ·rename_i c hb;have ht:=Mi hm.sl hb;cases hne:Nat.beq d' t' with
      |true=>rw[hne]at hp;cases hp
      |false=>
       rw[hne]at hp;dsimp only[Be,cond]at hp;cases hv:gL P (s.res t' want') op with
       |none=>rw[hv]at hp;cases hp
       |some u=>
        rw[hv]at hp;cases hp;cases hw:BH want bv with
        |true=>
         rw[hw]at hx;dsimp only[Be,cond]at hx;obtain⟨x,hx,hk⟩:=bind_some hx;have hbw:bv=want:=by cases want<;>cases bv<;>simp_all [BH]
         subst hbw;obtain⟨h1,val,h2,h3⟩:=aE (hr.res ht) hv hx;refine WD.gx (v:=val) i hi hB hn hj ht hSw (λ_ w' _=>h2 w') (h ((s.res t bv).set dn (b.v x)) rfl _ ?_ hk);rw[MR A9];exact(hr.res ht).set (.put h1 h3)
        |false=>
         rw[hw]at hx;dsimp only[Be,cond]at hx;have hbw:(bv==want)=false:=by rw[<-Ua];exact hw
         refine WD.gx (v:=Go.undef) i hi hB hn hj ht hSw (λhg=>by rw[hbw]at hg;cases hg) (h ((s.res t bv).set dn .off) rfl _ ?_ hx);rw[aK hbw];exact(hr.res ht).set (show Fy σ dn Go.undef dn=Go.undef from Jq _ _ _)
     ·cases hp
theorem ML{z:Array Bool}:∀{is:List Nat} {i:Nat} {v:Nat×TypeId×Nat×List Step},Py n ops z listed s is=some (i,v)->∃o,ops[i]? =some o/\Iu ops (tw z) listed i=true/\lU n ops o s=some v
 |[],_,_,h=>by simp[Py]at h
 |j::is,i,v,h=>by
  simp only[Py]at h;split at h
  ·cases h
  ·rename_i o ho;split at h
   ·rename_i v' hp;cases h;cases ht:Iu ops (tw z) listed j with
    |true=>rw[ht]at hp;exact⟨o,ho,by first|exact ht|rfl,hp⟩
    |false=>rw[ht]at hp;cases hp
   ·exact ML h
theorem mH{d dn:Nat}{t:TypeId}{j:Nat}{p:List Step}{u:PV}{kk:PV->Option R}(hr:Rel Z s σs A L σ w)(hp:kW s d o=some (dn,t,j,p))(h:getRoot (Bd s.it j) p kk=some r):
  d=dn/\∃u,kk u=some r/\ (Ed P t u=true->u.isV=true/\∃val,(∀w',Ext Z s σs A L σ w w'->XO P σ w' o val)/\Br (λb=>A b/\Z.R b) w L u val):=by
 have hm:=hr.mem;unfold kW at hp;split at hp
 ·rename_i t' x;split at hp
  ·rename_i i p' hx;split at hp
   ·cases hp
   ·rename_i hne;cases hp;obtain⟨md,b,h1,h2,h3⟩:=Hn (Bf hm.sl hx rfl);obtain⟨h4,_⟩:=hm.root h1 (λe=>hne e);obtain⟨u,c1,c2,c3,hk,he,h5,h6⟩:=RA h h4;refine⟨rfl,u,hk,λhb=>?_⟩;obtain⟨val,h7,h8⟩:=Wl (P:=P) (σ:=σ) (x:=x) (b:=b) (off:=Ad p) (Ew hb) h6 h3;obtain⟨hv,hv'⟩:=Df h7;refine⟨hv,val,λw' hext=>h8 w' λq hq=>?_,hv'⟩;obtain⟨A',L',it',ha,hr'⟩:=hext.ex;have h10:(L++L')[j]? =some md:=by rw[List.getElem?_append_left (List.getElem?_eq_some_iff.1 h1).1];exact h1
    rw[hr'.cells h10 h2 _ (by rw[he];simp;omega),he,List.getElem?_append_right A7,h5,show Ad p+q-Ad p=q by omega,List.getElem?_append_left hq]
  ·cases hp
 ·cases hp
theorem pV{S:World->Prop}{z:Array Bool}{fuel i dn j:Nat}{t:TypeId}{p:List Step}{o:Oper}{kk:PV->Option R}{K:Env->World->Prop}(hr:Rel Z s σs A L σ w)(hi:ops[i]? =some o)(hB:Iu ops (tw z) listed i=true)(hp:lU n ops o s=some (dn,t,j,p))(hg:getRoot (Bd s.it j) p kk=some r)(hSw:S w)
  (hS:∀w',S w'->Ext Z s σs A L σ w w') (hkk:∀u,kk u=some r->Ed P t u=true)
  (h:∀u σ',kk u=some r->Rel Z (s.set dn u) σs A L σ' w->WD P n ops S (tw z) fuel (listed.setIfInBounds i true) K σ' w):WD P n ops S (tw z) (fuel+1) listed K σ w:=by
 obtain⟨d,op,ty,pos,after,g⟩:=o;have hm:=hr.mem;unfold lU at hp;simp only at hp;split at hp
 ·cases hp
 ·rename_i d';cases hn:Nat.blt d' n with
  |false=>rw[hn]at hp;cases hp
  |true=>
   rw[hn]at hp;simp only[vG,vP]at hp;try dsimp only[Be]at hp
   split at hp
   ·obtain⟨rfl,u,hk,hu⟩:=mH (P:=P) (u:= .undef) hr hp hg;obtain⟨h1,val,h2,h3⟩:=hu (hkk u hk);exact WD.x i hi hB hn hSw (λw' hw=>h2 w' (hS w' hw)) (h u _ hk (hr.set (.put h1 h3)))
   ·rename_i q want;split at hp
    ·cases hp
    ·rename_i t' hj;split at hp
     ·rename_i c hb;have ht:=EU hm.sl hb;cases hw:BH want c with
      |true=>
       rw[hw]at hp;dsimp only[Be,cond]at hp;obtain⟨rfl,u,hk,hu⟩:=mH (P:=P) (u:= .undef) hr hp hg;obtain⟨h1,val,h2,h3⟩:=hu (hkk u hk);have hbw:(c==want)=true:=by rw[<-Ua];exact hw
       refine WD.gx (v:=val) i hi hB hn hj ht hSw (λ_ w' hw=>h2 w' (hS w' hw)) (h u _ hk ?_);rw[MR hbw];exact hr.set (.put h1 h3)
      |false=>rw[hw]at hp;cases hp
     ·cases hp
theorem eQ{i t:Nat}{b:Bool}(hr:Rel Z s σs A L σ w)(h:aF ops s i=some (t,b)):σ t= .bool b:=by
 unfold aF at h;split at h
 ·cases h
 ·split at h
  ·cases h
  ·split at h
   ·cases h
   ·split at h
    ·rename_i hb;cases h;exact Mi hr.mem.sl hb
    ·split at h
     ·rename_i hb;cases h;exact Mi hr.mem.sl hb
     ·cases h
    ·cases h
theorem Zq{fin:S->Option R}:∀{l:List Nat} {s:Go.Rx.S},Rel Z s σs A L σ w->Tp ops l s fin=some r->∃s',Rel Z s' σs A L σ w/\s'.it=s.it/\fin s'=some r
 |[],s,hr,h=>⟨s,hr,rfl,h⟩
 |i::l,s,hr,h=>by
  rw[Tp]at h;split at h
  ·rename_i t b hg;have ht:=eQ hr hg;cases b with
   |true=>
    obtain⟨s',h1,h2,h3⟩:=Zq (l:=l) (hr.res ht) (by simpa using h);exact⟨s',h1,h2,h3⟩
   |false=>
    obtain⟨s',h1,h2,h3⟩:=Zq (l:=l) (hr.res ht) (by simpa using h);exact⟨s',h1,h2,h3⟩
  ·exact Zq (l:=l) hr h
theorem nF(hT:Vp P T Z)(hI:Ir P T.gl inl):∀{fuel:Nat} {z0:Array Bool} {listed:Array Bool} {s:S} {A:Reg} {L:List MD} {σ:Env} {w:World} {S:World->Prop},Rel Z s σs A L σ w->Pq P T inl n mem ops fuel z0 listed s k=some r->
  (mem=true->Nw (tw z0) listed=true\/∀w',HE Z σs A L s.it w w'->S w')-> (mem=false->∀w',GS Z σs w'->S w')->
  WD P n ops S (tw z0) fuel listed (λσ' w'=>∃s' A' L',k s'=some r/\Rel Z s' σs A' L' σ' w') σ w:=by
 intro fuel
 induction fuel with
 |zero=>
  intro z0 listed s A L σ w S hr h hI1 hI2;unfold Pq at h;split at h
  ·rename_i hrd;exact WD.done hrd ⟨s,A,L,h,hr⟩
  ·cases h
 |succ fuel ih=>
  intro z0 listed s A L σ w S hr h hI1 hI2;unfold Pq at h;split at h
  ·rename_i hrd;exact WD.done hrd ⟨s,A,L,h,hr⟩
  ·rename_i i is hrd;simp only at h;have rest:∀(z:Array Bool) (S:World->Prop) (s:Go.Rx.S),Rel Z s σs A L σ w-> (mem=true->∀w',HE Z σs A L s.it w w'->S w')-> (mem=false->∀w',GS Z σs w'->S w')->
     both (match ops[i]? with
        |some o=>Be (mem&& !((RZ T s o&&bA ops s o)||(!tw z i&&Nw (tw z) (listed.setIfInBounds i true)))) (none)<|
         CF P T inl n ops o s λs'=>Pq P T inl n mem ops fuel z (listed.setIfInBounds i true) s' k
        |none=>none) (is.map λi=>match ops[i]? with
        |some o=>Be (mem&& !((RZ T s o&&bA ops s o)||(!tw z i&&Nw (tw z) (listed.setIfInBounds i true)))) (none)<|
         CF P T inl n ops o s λs'=>Pq P T inl n mem ops fuel z (listed.setIfInBounds i true) s' k
        |none=>none)=some r->WD P n ops S (tw z) (fuel+1) listed (λσ' w'=>∃s' A' L',k s'=some r/\Rel Z s' σs A' L' σ' w') σ w:=by
    intro z S s hr hS1 hS2 h;obtain⟨h1,h2⟩:=VO h;refine WD.steps hrd rfl ?_;intro q hq;have hone:(match ops[q]? with
       |some o=>Be (mem&& !((RZ T s o&&bA ops s o)||(!tw z q&&Nw (tw z) (listed.setIfInBounds q true)))) (none)<|
        CF P T inl n ops o s λs'=>Pq P T inl n mem ops fuel z (listed.setIfInBounds q true) s' k
       |none=>none)=some r:=by
     rcases List.mem_cons.1 hq with rfl|hq
     ·exact h1
     ·exact h2 _ (List.mem_map_of_mem hq)
    split at hone
    ·rename_i o ho;refine⟨o,ho,?_⟩;cases hc:(mem&& !((RZ T s o&&bA ops s o)||(!tw z q&&Nw (tw z) (listed.setIfInBounds q true))))with
     |true=>rw[hc]at hone;cases hone
     |false=>
      rw[hc]at hone;dsimp only[Be,cond]at hone;refine Me (cR hT hI hr hone) ?_;rintro σ' w' ⟨s',A',L',g1,g2,g3⟩;cases hmem:mem with
      |true=>
       subst hmem;simp only[vO,Bool.not_eq_false',vE,tK,tX]at hc;rcases hc with hc|⟨hc1,hc2⟩
       ·have g4:=g3 hc;refine⟨λ_=>hS1 rfl _ ⟨s',σ',A',L',g2,g4⟩,ih g2 g1 (λ_=> .inr λw'' hw=>?_) (λe=>by cases e)⟩;obtain⟨s2,σ2,A2,L2,h5,h6⟩:=hw;exact hS1 rfl _ ⟨s2,σ2,A2,L2,h5,g4.trans h6⟩
       ·refine⟨λhlt=>?_,ih g2 g1 (λ_=> .inl hc2) (λe=>by cases e)⟩;rw[hlt]at hc1;cases hc1
      |false=>
       subst hmem;exact⟨λ_=>hS2 rfl _ ⟨_,_,_,_,g2⟩,ih g2 g1 (λe=>by cases e) hS2⟩
    ·cases hone
   have main:∀(z:Array Bool) (S:World->Prop) (s:Go.Rx.S) (F:Option R),Rel Z s σs A L σ w-> (mem=true->∀w',HE Z σs A L s.it w w'->S w')-> (mem=false->∀w',GS Z σs w'->S w')-> (F=some r->WD P n ops S (tw z) (fuel+1) listed (λσ' w'=>∃s' A' L',k s'=some r/\Rel Z s' σs A' L' σ' w') σ w)->
     (match Is P T n mem ops z listed s (i::is)with
      |some (i,d,v)=>Pq P T inl n mem ops fuel z (listed.setIfInBounds i true) (s.set d v) k
      |none=>match Kx P n ops z listed s (i::is)with
       |some (i,d, .on b)=>Option.bind b.E λx=>Pq P T inl n mem ops fuel z (listed.setIfInBounds i true) (s.set d (b.v x)) k
       |some (i,d, .ask t want bv b)=>if bv=true then
         (Be (BH want true) (Option.bind b.E λx=>Pq P T inl n mem ops fuel z (listed.setIfInBounds i true) ((s.res t true).set d (b.v x)) k)<|Pq P T inl n mem ops fuel z (listed.setIfInBounds i true) ((s.res t true).set d .off) k)
         else(Be (BH want false) (Option.bind b.E λx=>Pq P T inl n mem ops fuel z (listed.setIfInBounds i true) ((s.res t false).set d (b.v x)) k)<|Pq P T inl n mem ops fuel z (listed.setIfInBounds i true) ((s.res t false).set d .off) k)
       |none=>match(Be (mem) (Py n ops z listed s (i::is))<|none)with
       |some (i,d,t,j,p)=>getRoot (Bd s.it j) p λu=>Be (Ed P t u) (Pq P T inl n mem ops fuel z (listed.setIfInBounds i true) (s.set d u) k)<|none
       |none=>F)=some r->WD P n ops S (tw z) (fuel+1) listed (λσ' w'=>∃s' A' L',k s'=some r/\Rel Z s' σs A' L' σ' w') σ w:=by
    intro z S s F hr hS1 hS2 hfin h;split at h
    ·rename_i i' d v hp;obtain⟨o,ho,hB,hp⟩:=FT hp;cases hmem:mem with
     |true=>
      subst hmem;refine WD.OS (S':=HE Z σs A L s.it w) (hS1 rfl) (cW hT hr ho hB hp (.refl hr) (λ_ w' hw=>hw.ext hr) (λw' hw=>(hw.ext hr).gs) λσ' hr'=>?_);exact ih hr' h (λ_=> .inr λw' hw=>hw) (λe=>by cases e)
     |false=>
      subst hmem;refine WD.OS (S':=GS Z σs) (hS2 rfl) (cW hT hr ho hB hp ⟨_,_,_,_,hr⟩ (λe=>by cases e) (λw' hw=>hw) λσ' hr'=>?_);exact ih hr' h (λe=>by cases e) (λ_ w' hw=>hw)
    ·split at h
     ·rename_i i' d b hp;obtain⟨o,ho,hB,hp⟩:=Vt hp;obtain⟨x,hx,h⟩:=bind_some h;cases hmem:mem with
      |true=>
       subst hmem;refine WD.OS (S':=HE Z σs A L s.it w) (hS1 rfl) (jB hr ho hB hp hx (.refl hr) λσ' hr'=>?_);exact ih hr' h (λ_=> .inr λw' hw=>hw) (λe=>by cases e)
      |false=>
       subst hmem;refine jB hr ho hB hp hx (hS2 rfl _ ⟨_,_,_,_,hr⟩) λσ' hr'=>?_;exact ih hr' h (λe=>by cases e) hS2
     ·rename_i i' d t want bv b hp;obtain⟨o,ho,hB,hp⟩:=Vt hp;have h:(Be (BH want bv) (Option.bind b.E λx=>Pq P T inl n mem ops fuel z (listed.setIfInBounds i' true) ((s.res t bv).set d (b.v x)) k)<|Pq P T inl n mem ops fuel z (listed.setIfInBounds i' true) ((s.res t bv).set d .off) k)=some r:=by
       cases bv with
       |true=>simpa using h
       |false=>simpa using h
      cases hmem:mem with
      |true=>
       subst hmem;refine WD.OS (S':=HE Z σs A L s.it w) (hS1 rfl) (dC (X:=λs'=>Pq P T inl n true ops fuel z (listed.setIfInBounds i' true) s' k) hr ho hB hp (.refl hr) h λs' hs' σ' hr' h=>?_);exact ih hr' h (λ_=> .inr λw' hw=>hs'▸hw) (λe=>by cases e)
      |false=>
       subst hmem;refine dC (X:=λs'=>Pq P T inl n false ops fuel z (listed.setIfInBounds i' true) s' k) hr ho hB hp (hS2 rfl _ ⟨_,_,_,_,hr⟩) h λs' hs' σ' hr' h=>?_;exact ih hr' h (λe=>by cases e) hS2
     ·split at h
      ·rename_i i' d t j p hp;cases hmem:mem with
       |false=>rw[hmem]at hp;cases hp
       |true=>
        subst hmem;dsimp only[Be,cond]at hp;obtain⟨o,ho,hB,hp⟩:=ML hp;refine WD.OS (S':=HE Z σs A L s.it w) (hS1 rfl) (pV (P:=P) hr ho hB hp h (.refl hr) (λw' hw=>hw.ext hr) (λu hu=>(Ae hu).1) λu σ' hu hr'=>?_);exact ih hr' (Ae hu).2 (λ_=> .inr λw' hw=>hw) (λe=>by cases e)
      exact hfin h
   have all:∀(z:Array Bool) (S:World->Prop),(mem=true->∀w',HE Z σs A L s.it w w'->S w')-> (mem=false->∀w',GS Z σs w'->S w')->
     (match Is P T n mem ops z listed s (i::is)with
      |some (i,d,v)=>Pq P T inl n mem ops fuel z (listed.setIfInBounds i true) (s.set d v) k
      |none=>match Kx P n ops z listed s (i::is)with
       |some (i,d, .on b)=>Option.bind b.E λx=>Pq P T inl n mem ops fuel z (listed.setIfInBounds i true) (s.set d (b.v x)) k
       |some (i,d, .ask t want bv b)=>if bv=true then
         (Be (BH want true) (Option.bind b.E λx=>Pq P T inl n mem ops fuel z (listed.setIfInBounds i true) ((s.res t true).set d (b.v x)) k)<|Pq P T inl n mem ops fuel z (listed.setIfInBounds i true) ((s.res t true).set d .off) k)
         else(Be (BH want false) (Option.bind b.E λx=>Pq P T inl n mem ops fuel z (listed.setIfInBounds i true) ((s.res t false).set d (b.v x)) k)<|Pq P T inl n mem ops fuel z (listed.setIfInBounds i true) ((s.res t false).set d .off) k)
       |none=>match(Be (mem) (Py n ops z listed s (i::is))<|none)with
       |some (i,d,t,j,p)=>getRoot (Bd s.it j) p λu=>Be (Ed P t u) (Pq P T inl n mem ops fuel z (listed.setIfInBounds i true) (s.set d u) k)<|none
       |none=>(λs=>Be mem (Tp ops ((i::is)++(i::is)) s λs=>(match Is P T n mem ops z listed s (i::is)with
      |some (i,d,v)=>Pq P T inl n mem ops fuel z (listed.setIfInBounds i true) (s.set d v) k
      |none=>match Kx P n ops z listed s (i::is)with
       |some (i,d, .on b)=>Option.bind b.E λx=>Pq P T inl n mem ops fuel z (listed.setIfInBounds i true) (s.set d (b.v x)) k
       |some (i,d, .ask t want bv b)=>if bv=true then
         (Be (BH want true) (Option.bind b.E λx=>Pq P T inl n mem ops fuel z (listed.setIfInBounds i true) ((s.res t true).set d (b.v x)) k)<|Pq P T inl n mem ops fuel z (listed.setIfInBounds i true) ((s.res t true).set d .off) k)
         else(Be (BH want false) (Option.bind b.E λx=>Pq P T inl n mem ops fuel z (listed.setIfInBounds i true) ((s.res t false).set d (b.v x)) k)<|Pq P T inl n mem ops fuel z (listed.setIfInBounds i true) ((s.res t false).set d .off) k)
       |none=>match(Be (mem) (Py n ops z listed s (i::is))<|none)with
       |some (i,d,t,j,p)=>getRoot (Bd s.it j) p λu=>Be (Ed P t u) (Pq P T inl n mem ops fuel z (listed.setIfInBounds i true) (s.set d u) k)<|none
       |none=>both (match ops[i]? with
        |some o=>Be (mem&& !((RZ T s o&&bA ops s o)||(!tw z i&&Nw (tw z) (listed.setIfInBounds i true)))) (none)<|
         CF P T inl n ops o s λs'=>Pq P T inl n mem ops fuel z (listed.setIfInBounds i true) s' k
        |none=>none) (is.map λi=>match ops[i]? with
        |some o=>Be (mem&& !((RZ T s o&&bA ops s o)||(!tw z i&&Nw (tw z) (listed.setIfInBounds i true)))) (none)<|
         CF P T inl n ops o s λs'=>Pq P T inl n mem ops fuel z (listed.setIfInBounds i true) s' k
        |none=>none)))<|both (match ops[i]? with
        |some o=>Be (mem&& !((RZ T s o&&bA ops s o)||(!tw z i&&Nw (tw z) (listed.setIfInBounds i true)))) (none)<|
         CF P T inl n ops o s λs'=>Pq P T inl n mem ops fuel z (listed.setIfInBounds i true) s' k
        |none=>none) (is.map λi=>match ops[i]? with
        |some o=>Be (mem&& !((RZ T s o&&bA ops s o)||(!tw z i&&Nw (tw z) (listed.setIfInBounds i true)))) (none)<|
         CF P T inl n ops o s λs'=>Pq P T inl n mem ops fuel z (listed.setIfInBounds i true) s' k
        |none=>none)) s)=some r->WD P n ops S (tw z) (fuel+1) listed (λσ' w'=>∃s' A' L',k s'=some r/\Rel Z s' σs A' L' σ' w') σ w:=by
    intro z S hS1 hS2 h;refine main z S s _ hr hS1 hS2 (λhF=>?_) h;clear h;cases hmem:mem with
    |false=>
     simp only[hmem,Be]at hF;subst hmem;exact rest z S s hr hS1 hS2 hF
    |true=>
     simp only[hmem,Be]at hF;subst hmem;obtain⟨s',hr',hit,h'⟩:=Zq hr hF;refine main z S s' _ hr' (by rw[hit];exact hS1) hS2 (λhG=>?_) h';exact rest z S s' hr' (by rw[hit];exact hS1) hS2 hG
   cases hz:(mem&&Nw (tw z0) listed)with
   |true=>
    rw[hz]at h;simp only[tK]at hz;obtain⟨hm,hov⟩:=hz;subst hm;exact WD.next (S':=HE Z σs A L s.it w) _ hov (all _ _ (λ_ w' hw=>hw) (λe=>by cases e) h)
   |false=>
    rw[hz]at h;refine all _ _ (λhm=>?_) hI2 h;subst hm;rcases hI1 rfl with h1|h1
    ·rw[h1]at hz;cases hz
    ·exact h1
end Go.Rx
namespace Go.Rx
open Go Go.Lv
variable{p:PV}
variable {P:Program} {B B':Reg} {w w':World} {L L':List MD} {s:S} {σs:List Env} {σ:Env} {Z:Fix} {A A':Reg} {n:Nat} {ops:Array Oper}
variable {R:Type} {k:S->Option R} {r:R}
def mO(w:World)(A:Reg)(L:List Mob)(os:Nat->Option Nat):Prop:=
 (∀(i:Nat) (m:Mob),L[i]? =some m->m.holds (os i) w/\∀b,os i=some b-> ¬A b/\b<w.heap.size)/\∀i j b,i<L.length->j<L.length->i≠j->os i=some b->os j≠some b
theorem Bg.rW:∀{L:List Mob} {A:Reg},Bg w A L->∃os,mO w A L os
 |[],A,_=>⟨λ_=>none,λi m h=>by simp at h,λi j b h=>by simp at h⟩
 |m::L,A,⟨o,h1,h2,h3⟩=>by
  obtain⟨os,g1,g2⟩:=Bg.rW h3;refine⟨λi=>match i with|0=>o|i+1=>os i,λi m' h=>?_,λi j b hi hj hij h=>?_⟩
  ·cases i with
   |zero=>simp at h;subst h;exact⟨h1,h2⟩
   |succ i=>
    obtain⟨g3,g4⟩:=g1 i m' (by simpa using h);exact⟨g3,λb hb=>⟨λhA=>(g4 b hb).1 (.inl hA),(g4 b hb).2⟩⟩
  ·have key:∀q,q<L.length->∀b,os q=some b->o≠some b:=λq hq b hb ho=>by
    exact((g1 q L[q] (by simp[hq])).2 b hb).1 (.inr ho)
   cases i with
   |zero=>
    cases j with
    |zero=>exact absurd rfl hij
    |succ j=>intro hb;exact key j (by simpa using hj) b hb h
   |succ i=>
    cases j with
    |zero=>exact key i (by simpa using hi) b h
    |succ j=>exact g2 i j b (by simpa using hi) (by simpa using hj) A7 h
theorem Bg.rV:∀{L:List Mob} {A:Reg} {os:Nat->Option Nat},mO w A L os->Bg w A L
 |[],_,_,_=>trivial
 |m::L,A,os,⟨g1,g2⟩=>by
  obtain⟨h1,h2⟩:=g1 0 m rfl;refine⟨os 0,h1,h2,Bg.rV (os:=λi=>os (i+1)) ⟨λi m' h=>?_,λi j b hi hj hij h=>?_⟩⟩
  ·obtain⟨g3,g4⟩:=g1 (i+1) m' (by simpa using h);refine⟨g3,λb hb=>⟨λhA=>?_,(g4 b hb).2⟩⟩;rcases hA with hA|hA
   ·exact(g4 b hb).1 hA
   ·have hlt:i<L.length:=(List.getElem?_eq_some_iff.1 h).1;exact g2 0 (i+1) b A9 (by simpa using hlt) A7 hA hb
  ·exact g2 (i+1) (j+1) b (by simpa using hi) (by simpa using hj) A7 h
def distinct:List Nat->Bool|[]=>true|i::r=>!Hq i r&&distinct r
theorem EX:∀{l:List Nat} {i j q:Nat},distinct l=true->l[i]? =some q->l[j]? =some q->i=j
 |[],_,_,_,_,h,_=>by simp at h
 |a::l,i,j,q,hd,hi,hj=>by
  simp only[distinct,tK,tX]at hd;have hn:a∉l:=λh=>by have:=Iq.2 h;rw[hd.1]at this;cases this
  cases i with
  |zero=>
   cases j with
   |zero=>rfl
   |succ j=>simp at hi hj;subst hi;exact absurd (List.mem_of_getElem? hj) hn
  |succ i=>
   cases j with
   |zero=>simp at hi hj;subst hj;exact absurd (List.mem_of_getElem? hi) hn
   |succ j=>exact congrArg (· +1) (EX (q:=q) hd.2 (by simpa using hi) (by simpa using hj))
theorem NY{w:World}:MD.dead.Cs.holds none w:=⟨none,0,0,rfl,A9,tY _,λ_=>rfl,λ_=>rfl,λb h=>by cases h⟩
theorem getD_some{i:Nat}{md:MD}(h:L[i]? =some md):L.getD i .dead=md:=by simp[List.getD_eq_getElem?_getD,h]
theorem getD_none{i:Nat}(h:L[i]? =none):L.getD i .dead= .dead:=by simp[List.getD_eq_getElem?_getD,h]
def ZT(o:List Nat)(L:List MD)(os:Nat->Option Nat)(j:Nat):Option Nat:=match o[j]? with|some i=>(match L[i]? with|some _=>os i|none=>none)|none=>none
theorem BR{o:List Nat}{os:Nat->Option Nat}{i j:Nat}{md:MD}(h:o[j]? =some i)(hL:L[i]? =some md):ZT o L os j=os i:=by unfold ZT;rw[h];simp only[hL]
theorem DG{o:List Nat}{os:Nat->Option Nat}{i j:Nat}(h:o[j]? =some i)(hL:L[i]? =none):ZT o L os j=none:=by unfold ZT;rw[h];simp only[hL]
theorem SR{o:List Nat}(h:Bg w A (L.map MD.Cs))(hd:distinct o=true):Bg w A ((o.map λi=>L.getD i .dead).map MD.Cs):=by
 obtain⟨os,g1,g2⟩:=Bg.rW h;refine Bg.rV (os:=ZT o L os) ⟨λj m hm=>?_,λi j b hi hj hij hb=>?_⟩
 ·simp only[List.map_map,List.getElem?_map,uN,Function.comp]at hm;obtain⟨i,hi,rfl⟩:=hm;cases hL:L[i]? with
  |none=>rw[getD_none hL,DG hi hL];exact⟨NY,λb hb=>by cases hb⟩
  |some md=>rw[getD_some hL,BR hi hL];exact g1 i md.Cs (by simp[hL])
 ·simp only[List.length_map]at hi hj;have e1:o[i]? =some o[i]:=by simp[hi]
  have e2:o[j]? =some o[j]:=by simp[hj]
  have hne:o[i]≠o[j]:=λe=>hij (EX hd e1 (by rw[e2,e]));cases hL1:L[o[i]]? with
  |none=>rw[DG e1 hL1]at hb;cases hb
  |some m1=>
   rw[BR e1 hL1]at hb;cases hL2:L[o[j]]? with
   |none=>rw[DG e2 hL2];simp
   |some m2=>
    rw[BR e2 hL2];exact g2 _ _ b (by simpa using(List.getElem?_eq_some_iff.1 hL1).1) (by simpa using(List.getElem?_eq_some_iff.1 hL2).1) hne hb
theorem ZQ{i:Nat}:∀{o:List Nat} {m j:Nat},posOf i o m=some j->∃q,j=m+q/\o[q]? =some i
 |[],_,_,h=>by simp[posOf]at h
 |a::o,m,j,h=>by
  simp only[posOf]at h;cases hb:Nat.beq i a with
  |true=>rw[hb]at h;cases h;exact⟨0,rfl,by simp[Bc hb]⟩
  |false=>
   rw[hb]at h;obtain⟨q,h1,h2⟩:=ZQ (o:=o) h;exact⟨q+1,A7,by simpa using h2⟩
theorem HS{o:List Nat}{i j:Nat}{md:MD}(h:posOf i o 0=some j)(hL:L[i]? =some md):(o.map λi=>L.getD i .dead)[j]? =some md:=by
 obtain⟨q,h1,h2⟩:=ZQ h;rw[uY]at h1;subst h1;simp[h2,List.getD_eq_getElem?_getD,hL]
theorem cM{o:List Nat}:(QL o p).isA=p.isA:=by
 cases p<;>try rfl
 ·simp only[QL];split<;>rfl
 ·simp only[QL];split<;>rfl
 ·simp only[QL];split<;>rfl
abbrev Zx(L:List MD):Prop:=L.all (λm=>match m with| .own _ _ v _=>v.oneCell'|_=>true)=true
mutual
theorem EJ{o:List Nat}(h1:Zx L):∀{p:PV} {cs:List Value},Aj B w L p cs->Aj B w (o.map λi=>L.getD i .dead) (QL o p) cs
 | .val _ x,cs,h=>h
 | .agg q,cs,h=>ZO h1 (show Aj.go B w L q cs from h)
 | .tup _,_,h=>h.elim
 | .nils,cs,h=>h
 | .own j,cs,⟨z,E,v,c,g1,g2⟩=>by
  simp only[QL];split
  ·rename_i j' hj;exact⟨z,E,v,c,HS hj g1,g2⟩
  ·exact⟨v,g2,List.all_eq_true.1 h1 _ (List.mem_of_getElem? g1)⟩
 | .ptr j q,cs,⟨md,b,g1,g2,g3⟩=>by
  simp only[QL];split
  ·rename_i j' hj;exact⟨md,b,HS hj g1,g2,g3⟩
  ·exact⟨_,g3,rfl⟩
 | .view u j p e lo n,cs,⟨md,v,g1,g2,g3⟩=>by
  simp only[QL];split
  ·rename_i j' hj;exact⟨md,v,HS hj g1,g2,g3⟩
  ·obtain⟨_,_,⟨pt,cap,e',_⟩,_⟩:=g3;exact⟨v,g2,by rw[e'];rfl⟩
 | .rptr v,cs,⟨pv,c0,g1,g2,g3⟩=>⟨pv,c0,g1,g2,EJ h1 g3⟩
 | .fn f caps,cs,⟨vs,g1,g2⟩=>⟨vs,g1,Vv h1 g2⟩
 | .cap _ _ _,cs,h=>h
 | .bfn f fs,cs,⟨vs,g1,g2⟩=>⟨vs,g1,Vv h1 g2⟩
 | .mp ks l,cs,⟨r,es,n,g1,g2,g3,g4,g5⟩=>⟨r,es,n,g1,g2,g3,g4,Vv h1 g5⟩
 | .cst v,cs,h=>h
 | .any,cs,h=>h
 | .gd _ _ _,_,h=>h.elim
 | .off,_,h=>h.elim
 | .undef,_,h=>h.elim
theorem ZO{o:List Nat}(h1:Zx L):∀{q:List PV} {cs:List Value},Aj.go B w L q cs->Aj.go B w (o.map λi=>L.getD i .dead) (QL.go o q) cs
 |[],cs,h=>h
 |a::q,cs,⟨c1,c2,e',g1,g2⟩=>⟨c1,c2,e',EJ h1 g1,ZO h1 g2⟩
theorem Vv{o:List Nat}(h1:Zx L):∀{q:List PV} {vs:List Value},Bs B w L q vs->Bs B w (o.map λi=>L.getD i .dead) (QL.go o q) vs
 |[],vs,h=>h
 |a::q,vs,⟨v,vs',e',g1,g2⟩=>⟨v,vs',e',by rw[cM];exact g1.mono λc h=>EJ h1 h,Vv h1 g2⟩
end
theorem ZF{o:List Nat}(h1:Zx L){v:Value}(h:Br B w L p v):Br B w (o.map λi=>L.getD i .dead) (QL o p) v:=by
 cases hp:p.WC with
 |true=>
  have h2:Cz B w (o.map λi=>L.getD i .dead) (QL o p) v:=by
   unfold Cz;rw[cM];exact bS.mono (λc h=>EJ h1 h) ((To hp).1 h)
  exact(Df h2).2
 |false=>
  cases p
  case tup q=>obtain⟨vs,g1,g2⟩:=h;exact⟨vs,g1,Vv h1 g2⟩
  case undef=>exact(show False from h).elim
  case off=>exact(show False from h).elim
  case gd=>exact(show False from h).elim
  all_goals cases hp
theorem eJ{o:List Nat}(h1:Zx L){t:Nat}(h:Cr B w L σ t p):Cr B w (o.map λi=>L.getD i .dead) σ t (QL o p):=by
 cases hv:p.isV with
 |true=>
  have g1:=ZF (o:=o) h1 ((Cr.iff hv).1 h);have g2:(QL o p).isV=true:=by
   cases p<;>first|rfl|cases hv|skip
   ·simp only[QL];split<;>rfl
   ·simp only[QL];split<;>rfl
   ·simp only[QL];split<;>rfl
  exact(Cr.iff g2).2 g1
 |false=>
  rcases Gu hv with rfl|rfl|⟨j,u,q,rfl⟩
  ·exact trivial
  ·exact h
  ·obtain⟨b,g1,g2,g3⟩:=h;exact⟨b,g1,λe=>ZF h1 (g2 e),g3⟩
theorem PW{o:List Nat}(h1:Zx L){sl:Slots}(h:Cf B w L σ sl):Cf B w (o.map λi=>L.getD i .dead) σ (dS o sl):=by
 intro p hp;obtain⟨q,hq,rfl⟩:=List.mem_map.1 hp;exact eJ h1 (h q hq)
theorem QH{o:List Nat}(h1:Zx L):∀{σs:List Env} {st:List Slots},Tj B w L σs st->Tj B w (o.map λi=>L.getD i .dead) σs (st.map (dS o))
 |[],[],h=>h
 |_::_,_::_,⟨g1,g2⟩=>⟨PW h1 g1,QH h1 g2⟩
theorem TJ{o:List Nat}(h1:Zx L){a:Item}{md:MD}(h:Ht B w L a md):Ht B w (o.map λi=>L.getD i .dead) (mG o a) md:=by
 cases a<;>cases md<;>first
  |exact h
  |exact⟨h.1,EJ h1 h.2⟩
theorem Ta{sl:Slots}(h:Cf B w L σ sl):∀(lv:List Nat),Cf B w L σ (BC sl lv)
 |[]=>λp hp=>by simp[BC]at hp
 |t::lv=>by
  intro p hp;simp only[BC]at hp;split at hp
  ·exact Ta h lv p hp
  ·exact Ta h lv p hp
  ·exact Ta h lv p hp
  ·rcases List.mem_cons.1 hp with rfl|hp
   ·exact Fo (s:=⟨sl,[],[]⟩) (t:=t) h
   ·exact Ta h lv p hp
theorem AZ:∀{l:List Nat} {i:Nat},distinct l=true->Hq i l=false->distinct (l++[i])=true
 |[],_,_,_=>rfl
 |a::l,i,hd,hi=>by
  simp only[distinct,tK,tX]at hd;simp only[Hq,uU]at hi;simp only[vJ,distinct,tK,tX];refine⟨?_,AZ hd.2 hi.2⟩;cases hx:Hq a (l++[i])with
  |false=>rfl
  |true=>
   rcases List.mem_append.1 (Iq.1 hx)with h|h
   ·have:=Iq.2 h;rw[hd.1]at this;cases this
   ·simp at h;subst h;simp at hi
theorem Nc{it:List Item}:∀(q:Nat) (todo seen:List Nat),distinct seen=true->distinct (reach it q todo seen)=true
 |0,_,_,h=>h
 |_+1,[],_,h=>h
 |q+1,i::todo,seen,h=>by
  simp only[reach];cases he:Hq i seen with
  |true=>exact Nc q _ _ h
  |false=>exact Nc q _ _ (AZ h he)
theorem iS(hr:Rel Z s σs A L σ w)(lv:List Nat):∃L',Rel Z (s.canon lv) σs A L' σ w:=by
 have hm:=hr.mem;have h1:Zx L:=hr.Zx;unfold S.canon;simp only;generalize ho:reach s.it 200 (WM (BC s.sl lv)++(s.st.map WM).flatten) []=o;have hd:distinct o=true:=by rw[<-ho];exact Nc _ _ _ rfl
 refine⟨o.map λi=>L.getD i .dead,?_⟩;have hst:St A w [GH Z.R L s σs σ, .old Z.M Z.w0] ((o.map λi=>L.getD i .dead).map MD.Cs):=⟨St.lt hr,St.facts hr,SR (St.mobs hr) hd⟩;refine Rel.as hst (i:=1) rfl ⟨⟨A9,λj a m g1 g2=>?_⟩,PW h1 (Ta hm.sl lv),QH h1 hm.stk⟩ rfl;simp only[List.getElem?_map,uN]at g1 g2;obtain⟨i,g3,rfl⟩:=g1;obtain⟨i',g4,rfl⟩:=g2;rw[g3]at g4;cases g4;cases hi:Bd s.it i with
 |dead=>exact trivial
 |box T v=>
  obtain⟨md,g5,g6⟩:=hm.item hi (by intro e;cases e);rw[getD_some g5];exact TJ h1 g6
 |arr E e l=>
  obtain⟨md,g5,g6⟩:=hm.item hi (by intro e;cases e);rw[getD_some g5];exact TJ h1 g6
theorem NB:∀{p:List Nat} {v u:PV} {cs:List Value},mR v p=some u->Aj B w L v cs-> (∃c,Aj B w L u c)/\∀(B':Reg) (w':World) (L':List MD) (m v':PV),(∀q c,Aj B w L q c->Aj B' w' L' q c)-> (∀c,Aj B w L u c->Aj B' w' L' m c)->m.isA=u.isA->bC m v p=some v'->Aj B' w' L' v' cs/\v'.isA=v.isA
 |[],v,u,cs,h,hv=>by
  simp only[mR,tO]at h;subst h;refine⟨⟨cs,hv⟩,λB' w' L' m v' _ hm hA hp=>?_⟩;simp only[bC,tO]at hp;subst hp;exact⟨hm _ hv,hA⟩
 |i::p,v,u,cs,h,hv=>by
  cases v<;>simp only[mR,reduceCtorEq]at h;rename_i l;split at h
  ·rename_i f hf;obtain⟨c1,c2,c3,e,h1,h2,h3⟩:=Aj.field (show Aj.go B w L l cs from hv) hf;obtain⟨g1,g2⟩:=NB h h2;refine⟨g1,λB' w' L' m v' hq hm hA hp=>?_⟩;simp only[bC,hf]at hp;split at hp
   ·rename_i f' hf';cases hp;obtain⟨g3,_⟩:=g2 B' w' L' m f' hq hm hA hf';refine⟨?_,rfl⟩;have hl:Aj.go B' w' L' l cs:=show Aj B' w' L' (.agg l) cs from hq _ _ hv;obtain⟨d1,d2,d3,e',k1,k2,k3⟩:=Aj.field hl hf;have:d2=c2:=by
     have l1:d1.length=c1.length:=k1.trans h1.symm;have l2:d2.length=c2.length:=k2.len.trans h2.len.symm;rw[e]at e';obtain⟨e1,e2⟩:=List.append_inj e' l1.symm;obtain⟨e3,_⟩:=List.append_inj e2 l2.symm;exact e3.symm
    rw[e'];exact k3 _ _ (by rw[this];exact g3)
   ·cases hp
  ·cases h
theorem WW(hr:Rel Z s σs A L σ w)(E:TypeId)(e:ET):Rel Z (s.add (.arr E e [])) σs A (L++[.own e.size E (.slice none 0 0) []]) σ w:=
 Rel.push (a:= .arr E e []) (md:= .own e.size E (.slice none 0 0) []) (St.PT hr e.size E) ⟨rfl,rfl,rfl⟩
theorem PL{i b:Nat}{T:TypeId}{v':PV}{cells:List Value}(hr:Rel Z s σs A L σ w)(hL:L[i]? =some (.box b cells T))(hv:Aj (λb=>A b/\Z.R b) w L v' cells):Rel Z (s.Fy i (.box T v')) σs A L σ w:=by
 have hm:=hr.mem;refine Rel.as hr (i:=1) rfl ⟨⟨by simp[S.Fy,Zn,hm.it.1],λj a m h1 h2=>?_⟩,hm.sl,hm.stk⟩ rfl;simp only[S.Fy]at h1;rcases Zm h1 with⟨rfl,rfl⟩|⟨_,h4⟩
 ·rw[hL]at h2;cases h2;exact⟨rfl,hv⟩
 ·exact hm.it.2 j a m h4 h2
theorem XK{t:Nat}{m:PV}:∀{sl:Slots} {q:Nat} {v:PV},(q,v)∈bE t m sl-> (q,v)∈sl\/ (q=t/\v=m)
 |[],_,_,h=>by simp[bE]at h
 |(q',v')::r,q,v,h=>by
  simp only[bE]at h;cases hb:Nat.beq q' t with
  |true=>
   rw[hb]at h;rcases List.mem_cons.1 h with h|h
   ·cases h;exact .inr ⟨Bc hb,rfl⟩
   ·exact .inl (.tail _ h)
  |false=>
   rw[hb]at h;rcases List.mem_cons.1 h with h|h
   ·cases h;exact .inl (.head _)
   ·exact(XK h).imp (.tail _) id
theorem PA{t:Nat}{m:PV}(hr:Rel Z s σs A L σ w)(hm:Cr (λb=>A b/\Z.R b) w L σ t m):Rel Z ⟨bE t m s.sl,s.it,s.st⟩ σs A L σ w:=by
 refine hr.XL rfl rfl ?_;rintro⟨q,v⟩ hp;rcases XK hp with h|⟨rfl,rfl⟩
 ·exact hr.mem.sl _ h
 ·exact hm
theorem ZI{e:ET}{c:List Value}(h:Aj B w L .nils c):Aj B w L (.val (.list e) []) c:=⟨_,[],show c=_ from h,Rd.nil,rfl⟩
theorem kF{a:At}{s':S}(hr:Rel Z s σs A L σ w)(h:oH s a=some s'):∃A' L',Rel Z s' σs A' L' σ w:=by
 have hm:=hr.mem;unfold oH at h;simp only at h;split at h
 ·
  rename_i i q hsl;split at h
  ·rename_i T v hi;split at h
   ·rename_i u hu;obtain⟨b,cells,hL,hv⟩:=hm.box hi;split at h
    ·rename_i E e _;split at h
     ·rename_i v' hv';cases h;obtain⟨_,g⟩:=NB hu hv;have hr2:=WW hr E e;have hL2:(L++[.own e.size E (.slice none 0 0) []])[i]? =some (.box b cells T):=by rw[List.getElem?_append_left (List.getElem?_eq_some_iff.1 hL).1];exact hL
      obtain⟨g1,_⟩:=g (λb=>A b/\Z.R b) w (L++[.own e.size E (.slice none 0 0) []]) (.own s.new) v' (λq c h=>Aj.step (λ_ h=>h) (λ_ _=>rfl) (Vo.append _ _) h)
       (λc hc=>⟨e.size,E,_,[],by rw[S.new,hr.len];simp,hc⟩) rfl hv'
      exact⟨_,_,PL hr2 hL2 g1⟩
     ·cases h
    ·cases h;exact⟨A,L,hr⟩
    ·rename_i e _;split at h
     ·rename_i v' hv';cases h;obtain⟨_,g⟩:=NB hu hv;obtain⟨g1,_⟩:=g (λb=>A b/\Z.R b) w L (.val (.list e) []) v' (λq c h=>h) (λc hc=>ZI hc) rfl hv';exact⟨_,_,PL hr hL g1⟩
     ·cases h
    ·obtain⟨A',h1,_⟩:=CA hr h;exact⟨A',_,h1⟩
    ·cases h;exact⟨A,L,hr⟩
    ·cases h
   ·cases h
  ·cases h
 split at h
 ·
  rename_i o i p e1 lo n hsl;split at h
  ·rename_i E e _ _;obtain⟨hb,h⟩:=Ae h;split at h
   ·rename_i s1 j h1;cases h;have hx:Bo s.sl (.tmp a.t)= .view o i p e1 lo n:=by simp only[Bo,hsl]
    obtain⟨L1,hr1,c0,hL⟩:=YY (x:= .tmp a.t) hr (by simpa [Nat.blt_eq]using hb) (by rw[hx];rfl) (by rw[hx];exact h1);exact⟨_,_,PA hr1 ⟨_,_,_,_,hL,rfl⟩⟩
   ·cases h
  ·cases h
 ·
  split at h
  ·rename_i u hu;have hsl:=Fo (t:=a.t) hm.sl;have mY:∀(B':Reg) (L':List MD) (m v':PV),(∀q c,Aj (λb=>A b/\Z.R b) w L q c->Aj B' w L' q c)-> (∀c,Aj (λb=>A b/\Z.R b) w L u c->Aj B' w L' m c)->m.isA=u.isA->u= .nils->bC m (Iy s.sl a.t) a.p=some v'->Cr B' w L' σ a.t v':=by
    intro B' L' m v' hq hmu hA hun hp;have hP:(Iy s.sl a.t).WC=true:=by
     revert hu
     generalize Iy s.sl a.t=x;generalize a.p=pp;intro hu;cases pp with
     |nil=>simp only[mR,tO]at hu;rw[hu,hun];rfl
     |cons _ _=>cases x<;>first|rfl|simp[mR]at hu
    have hE:Cz (λb=>A b/\Z.R b) w L (Iy s.sl a.t) (σ a.t):=(To hP).1 ((Cr.iff (PV.TB hP)).1 hsl);have key:Cz B' w L' v' (σ a.t):=by
     unfold Cz bS at hE;split at hE
     ·rename_i hA';obtain⟨cs,e1,hc⟩:=hE;obtain⟨_,g⟩:=NB hu hc;obtain⟨g1,g2⟩:=g B' w L' m v' hq hmu hA hp;unfold Cz;rw[g2,hA'];exact⟨cs,e1,g1⟩
     ·rename_i hA';obtain⟨_,g⟩:=NB hu hE;obtain⟨g1,g2⟩:=g B' w L' m v' hq hmu hA hp;unfold Cz;rw[g2,hA'];exact g1
    obtain⟨k1,k2⟩:=Df key;exact(Cr.iff k1).2 k2
   split at h
   ·rename_i E e _;split at h
    ·rename_i v' hv';cases h;have hr2:=WW hr E e;exact⟨_,_,PA (s:=s.add (.arr E e [])) hr2 (mY _ _ (.own s.new) v' (λq c h=>Aj.step (λ_ h=>h) (λ_ _=>rfl) (Vo.append _ _) h) (λc hc=>⟨e.size,E,_,[],by rw[S.new,hr.len];simp,hc⟩) rfl rfl hv')⟩
    ·cases h
   ·cases h;exact⟨A,L,hr⟩
   ·rename_i e _;split at h
    ·rename_i v' hv';cases h;exact⟨_,_,PA hr (mY _ _ (.val (.list e) []) v' (λq c h=>h) (λc hc=>ZI hc) rfl rfl hv')⟩
    ·cases h
   ·obtain⟨A',h1,_⟩:=CA hr h;exact⟨A',_,h1⟩
   ·cases h;exact⟨A,L,hr⟩
   ·cases h
  ·cases h
theorem cS:∀{l:List At} {s s':S} {A:Reg} {L:List MD},Rel Z s σs A L σ w->gE s l=some s'->∃A' L',Rel Z s' σs A' L' σ w
 |[],s,s',A,L,hr,h=>by simp only[gE,tO]at h;subst h;exact⟨A,L,hr⟩
 |a::l,s,s',A,L,hr,h=>by
  simp only[gE]at h;split at h
  ·rename_i s1 h1;obtain⟨A1,L1,hr1⟩:=kF hr h1;exact cS hr1 h
  ·cases h
theorem IM{lv:List Nat}{co:List At}{s':S}(hr:Rel Z s σs A L σ w)(h:s.cn lv co=some s'):∃A' L',Rel Z s' σs A' L' σ w:=by
 unfold S.cn at h;split at h
 ·rename_i s1 h1;cases h;obtain⟨A1,L1,hr1⟩:=cS hr h1;obtain⟨L',hr2⟩:=iS hr1 lv;exact⟨A1,L',hr2⟩
 ·cases h
end Go.Rx
namespace Go.Rx
open Go Go.Lv
variable {P:Program} {B B':Reg} {w w':World} {L L':List MD} {s:S} {σs:List Env} {σ:Env} {Z:Fix} {A A':Reg} {n:Nat} {ops:Array Oper}
variable {R:Type} {r:R} {T:Tab} {inl:GD R}
def pZ(k:K R):Exit->S->Option R
 | .normal=>k.n| .exit id=>k.x id| .ret=>k.r|_=>λ_=>none
def QK(Z:Fix)(σs:List Env)(k:K R)(r:R)(e:Exit)(σ':Env)(w':World):Prop:=∃s' A' L',pZ k e s'=some r/\Rel Z s' σs A' L' σ' w'
theorem cK(an:An){gl:List (Nat×List Value)}(hI:Ir P gl inl):Ir P gl (WE an inl):=by
 unfold WE;split
 ·intro Z hZ f as s k r σs A L σ w vs h hr ha;exact hI Z hZ f as _ k r σs A L σ w vs h (hr.XL rfl rfl (Ta hr.mem.sl _)) ha
 ·exact hI
theorem IV(Pe:P.follows .mixedOrders=true)(hT:Vp P T Z)(hI:Ir P T.gl inl):∀(c:Code) {an:An} {k:K R} {s:S} {A:Reg} {L:List MD} {σ:Env} {w:World},ex P T inl n c an k s=some r->Rel Z s σs A L σ w->W P n c (QK Z σs k r) σ w:=by
 intro c
 induction c with
 |skip=>intro an k s A L σ w h hr;exact W.skip ⟨s,A,L,h,hr⟩
 |ret=>intro an k s A L σ w h hr;exact W.ret ⟨s,A,L,h,hr⟩
 |exit id=>intro an k s A L σ w h hr;exact W.exit ⟨s,A,L,h,hr⟩
 |seq a b iha ihb=>
  intro an k s A L σ w h hr;refine W.seq (W.mono (iha (an:=an.l) (k:={k with n:=QQ an λs'=>ex P T inl n b an.r k s'}) h hr) ?_);rintro e σ' w' ⟨s',A',L',h1,hr'⟩;cases e with
  |normal=>
   have h2:QQ an (λs'=>ex P T inl n b an.r k s') s'=some r:=h1;unfold QQ at h2;split at h2
   ·split at h2
    ·rename_i s2 hs2;obtain⟨A2,L2,hr2⟩:=IM hr' hs2;exact ihb h2 hr2
    ·cases h2
   ·exact ihb h2 hr'
  |exit id=>exact⟨s',A',L',h1,hr'⟩
  |ret=>exact⟨s',A',L',h1,hr'⟩
  |goto l=>exact⟨s',A',L',h1,hr'⟩
  |panic c=>exact⟨s',A',L',h1,hr'⟩
  |outgrown=>exact⟨s',A',L',h1,hr'⟩
 |cond c a b iha ihb=>
  intro an k s A L σ w h hr;simp only[ex]at h;split at h
  ·rename_i t hc;refine W.cond (FH hr.mem.sl hc) (λht=>?_) (λht=>?_)
   ·subst ht;exact iha (by simpa using h) hr
   ·subst ht;exact ihb (by simpa using h) hr
  ·cases h
 |block id a iha=>
  intro an k s A L σ w h hr;refine W.block (W.mono (iha (an:=an.l) (k:={k with x:=λid' s'=>Be (Nat.beq id' id) (k.n s')<|k.x id' s'}) h hr) ?_);rintro e σ' w' ⟨s',A',L',h1,hr'⟩;cases e with
  |exit id'=>
   have h2:(Be (Nat.beq id' id) (k.n s')<|k.x id' s')=some r:=h1;simp only[US];by_cases hid:id'=id
   ·rw[uG hid];subst hid;simp at h2;exact⟨s',A',L',h2,hr'⟩
   ·rw[uF hid];have hb:Nat.beq id' id=false:=by
     cases hb:Nat.beq id' id with
     |false=>rfl
     |true=>exact absurd (Bc hb) hid
    rw[hb]at h2;exact⟨s',A',L',h2,hr'⟩
  |normal=>exact⟨s',A',L',h1,hr'⟩
  |ret=>exact⟨s',A',L',h1,hr'⟩
  |goto l=>exact⟨s',A',L',h1,hr'⟩
  |panic c=>exact⟨s',A',L',h1,hr'⟩
  |outgrown=>exact⟨s',A',L',h1,hr'⟩
 |loop a iha=>
  intro an k s A L σ w h hr;have head:∀(q:Nat) (s:S) (A:Reg) (L:List MD) (σ:Env) (w:World),Qc an (iter an (λkn s'=>ex P T inl n a an.l {k with n:=kn} s') q) s=some r->Rel Z s σs A L σ w->
    ∃s' A' L',iter an (λkn s'=>ex P T inl n a an.l {k with n:=kn} s') q s'=some r/\Rel Z s' σs A' L' σ w:=by
   intro q s A L σ w h hr;unfold Qc at h;split at h
   ·split at h
    ·rename_i s2 hs2;obtain⟨A2,L2,hr2⟩:=IM hr hs2;exact⟨s2,A2,L2,h,hr2⟩
    ·cases h
   ·cases h
  refine W.loop (λq σ w=>∃s A L,iter an (λkn s'=>ex P T inl n a an.l {k with n:=kn} s') q s=some r/\Rel Z s σs A L σ w) Bl (head _ _ _ _ _ _ h hr) ?_;rintro q σ w ⟨s,A,L,h,hr⟩;cases q with
  |zero=>cases h
  |succ q=>
   refine W.mono (iha (k:={k with n:=Qc an (iter an (λkn s'=>ex P T inl n a an.l {k with n:=kn} s') q)}) h hr) ?_;rintro e σ' w' ⟨s',A',L',h1,hr'⟩;cases e with
   |normal=>exact⟨q,Nat.lt_succ_self _,head q s' A' L' σ' w' h1 hr'⟩
   |exit id=>exact⟨s',A',L',h1,hr'⟩
   |ret=>exact⟨s',A',L',h1,hr'⟩
   |goto l=>exact⟨s',A',L',h1,hr'⟩
   |panic c=>exact⟨s',A',L',h1,hr'⟩
   |outgrown=>exact⟨s',A',L',h1,hr'⟩
 |region id ops draw=>
  intro an k s A L σ w h hr;cases draw with
  |false=>
   obtain⟨hd,h⟩:=Ae (show(Be (BD ops.toList) (DZ P T (WE an inl) n ops ops.toList s k.n)<|none)=some r from h);have h1:=XN (ops:=ops) hT (cK an hI) hr (show DZ P T (WE an inl) n ops ops.toList s k.n=some r from h);have hops:ops=ops.toList.toArray:=by simp
   rw[hops];exact W.region hd (by rw[<-hops];exact h1)
  |true=>
   obtain⟨hd,h⟩:=Ae (show(Be (BD ops.toList) (Pq P T (WE an inl) n (GX an) ops ops.size (Be (GX an) (#[])<|Array.replicate ops.size true) (Array.replicate ops.size false) s k.n)<|none)=some r from h);refine W.lD hd Pe (λ_=>True) (tw (Be (GX an) (#[])<|Array.replicate ops.size true)) (λw' hw hg=>?_);have hr':Rel Z s σs A L σ w':=St.gX hr hw hg;refine nF hT (cK an hI) hr' h (λhm=> .inl ?_) (λ_ _ _=>trivial);rw[hm];simp[Nw,tw]
 |rangeFunc=>intro an k s A L σ w h hr;cases h
 |scope=>intro an k s A L σ w h hr;cases h
 |label=>intro an k s A L σ w h hr;cases h
 |goto=>intro an k s A L σ w h hr;cases h
 |refuse=>intro an k s A L σ w h hr;cases h
theorem eL(hr:Rel Z s σs A L σ w){v:ResultVar}{p:PV}(h:aX P s v=some p):∃u,Qo P σ w v u/\Cz (λb=>A b/\Z.R b) w L p u:=by
 have hm:=hr.mem;cases v with
 |tmp t=>
  obtain⟨hp,h⟩:=Ae h;cases h;exact⟨σ t,rfl,Mn hm.sl hp⟩
 |cell a t=>
  simp only[aX]at h;split at h
  ·rename_i i p' hsl;split at h
   ·rename_i T v0 hi;split at h
    ·rename_i u hu;obtain⟨hk,h⟩:=Ae h;cases h;have hs1:=Fo (t:=a) hm.sl;rw[hsl]at hs1;obtain⟨md,b,h1,h2,h3⟩:=Hn hs1;obtain⟨b',cells,h4,h5⟩:=hm.box hi;rw[h4]at h1;cases h1;cases h2;obtain⟨c1,c2,c3,e,h6,h7⟩:=Uj hu h5;have hok:=Ew hk;obtain⟨d,hd,ha⟩:=hok.agg;have hlen:=h7.len;cases hA:p.isA with
     |true=>
      refine⟨.agg c2.toArray,Qo.cells hr (hr.Cs h4) ⟨d,hd,ha.trans hA⟩ hok.size h3 ?_ hlen,by unfold Cz;rw[hA];exact⟨c2,rfl,h7⟩⟩;rw[e,<-h6,<-hlen];exact dA rfl
     |false=>
      rw[hok.one hA]at hlen
      match c2,hlen with
      |[u],_=>exact⟨u,Qo.cell hr (hr.Cs h4) ⟨d,hd,ha.trans hA⟩ h3 (by rw[e,<-h6];simp),by unfold Cz;rw[hA];exact h7⟩
    ·cases h
   ·cases h
  ·cases h
theorem GV(hr:Rel Z s σs A L σ w):∀{vs:List ResultVar} {ps:List PV},HW P s vs=some ps->∃us,Zd P σ w vs us/\Bs (λb=>A b/\Z.R b) w L ps us
 |[],ps,h=>by simp only[HW,tO]at h;subst h;exact⟨[],trivial,rfl⟩
 |v::vs,ps,h=>by
  simp only[HW]at h;split at h
  ·rename_i p ps' hp hps;cases h;obtain⟨u,h1,h2⟩:=eL hr hp;obtain⟨us,h3,h4⟩:=GV hr hps;exact⟨u::us,⟨h1,h3⟩,u,us,rfl,h2,h4⟩
  ·cases h
theorem Wb:∀{as:List PV} {vs:List Value} {m:Nat} {f:Nat->Value},Bs B w L as vs-> (∀i v,vs[i]? =some v->f (m+i)=v)->∀p∈Hk m as,Cr B w L f p.1 p.2
 |[],vs,m,f,_,_,p,hp=>by simp[Hk]at hp
 |a::as,vs,m,f,⟨v,vs',e,h1,h2⟩,hf,p,hp=>by
  subst e;simp only[Hk]at hp;rcases List.mem_cons.1 hp with rfl|hp
  ·obtain⟨k1,k2⟩:=Df (show Cz B w L a v from h1);refine(Cr.iff k1).2 ?_;have:=hf 0 v rfl;rw[Nat.add_zero]at this;rw[this];exact k2
  ·exact Wb h2 (λi v hi=>by have:=hf (i+1) v (by simpa using hi);rw[<-this];congr 1;omega) p hp
theorem SZ{vs:List Value}{i:Nat}{v:Value}(h:vs[i]? =some v):AF vs i=v:=by simp[AF,List.getD_eq_getElem?_getD,h]
theorem Bs.length:∀{as:List PV} {vs:List Value},Bs B w L as vs->vs.length=as.length
 |[],vs,h=>by rw[show vs=[]from h];rfl
 |a::as,vs,⟨v,vs',e,h1,h2⟩=>by rw[e,uR,Bs.length h2];rfl
theorem TQ{f:Nat}{an:An}:∀{ans:List (Nat×An)},Ka.RI ans f=some an->∃a,(f,a)∈ans
 |[],h=>by simp[Ka.RI]at h
 |(g,a)::ans,h=>by
  simp only[Ka.RI]at h;cases hb:Nat.beq g f with
  |true=>have:=Bc hb;subst this;exact⟨a, .head _⟩
  |false=>rw[hb]at h;obtain⟨a',h1⟩:=TQ h;exact⟨a', .tail _ h1⟩
theorem EI(Pe:P.follows .mixedOrders=true)(hT:Jt P T){ans:List (Nat×An)}(hA:∀p∈ans,Ent P p.1):∀(q:Nat),Ir (R:=R) P T.gl (Ka P T q ans)
 |0=>λZ hZ f as s k r σs A L σ w vs h hr ha=>by cases h
 |q+1=>λZ hZ f as s k r σs A L σ w vs h hr ha=>by
  have hI:=EI Pe hT hA q;unfold Ka at h;split at h
  ·rename_i an fn han hfn;obtain⟨a,hmem⟩:=TQ han;split at h
   ·cases h
   ·rename_i c hc;obtain⟨hle,h⟩:=Ae h;refine⟨hA _ hmem,?_⟩;have hr1:Rel Z ⟨Hk 0 as,s.it,s.sl::s.st⟩ (σ::σs) A L (AF vs) w:=
     Rel.as hr (i:=1) rfl ⟨hr.mem.it,Wb ha (λi v hi=>by rw[uY];exact SZ hi),hr.mem.sl,hr.mem.stk⟩ rfl
    refine RF (rs:=fn.results.toList) hfn hc rfl A9 (by rw[ha.length];exact hle) (W.mono (IV Pe ⟨hT,hZ⟩ hI c h hr1) ?_);rintro e σ' w' ⟨s',A',L',h1,hr'⟩;have fin:Ka.fO P fn.results.toList k s'=some r->∃us,Zd P σ' w' fn.results.toList us/\∃v p s'' A'' L'',Ending.returned (Lz us)= .returned v/\k s'' p=some r/\Rel Z s'' σs A'' L'' σ w'/\p.isV=true/\Br (λb=>A'' b/\Z.R b) w' L'' p v:=by
     intro h1;unfold Ka.fO at h1;split at h1
     ·rename_i ps sl st hps hst;obtain⟨us,h2,h3⟩:=GV hr' hps;obtain⟨h4,h5⟩:=ZA h3;have bN:=hr'.mem.stk;rw[hst]at bN;exact⟨us,h2,_,_,_,A',L',rfl,h1,Rel.as hr' (i:=1) rfl ⟨hr'.mem.it,bN.1,bN.2⟩ rfl,h4,h5⟩
     ·cases h1
    cases e with
    |normal=>exact⟨.inr rfl,fin h1⟩
    |ret=>exact⟨.inl rfl,fin h1⟩
    |exit id=>cases h1
    |goto l=>cases h1
    |panic c=>cases h1
    |outgrown=>cases h1
  ·cases h
end Go.Rx
namespace Go.Rx
open Go Go.Lv
variable{e:ET}{fn:Func}{o:Option TypeId}
variable {P:Program} {B B':Reg} {w w':World} {L L':List MD} {s:S} {σs:List Env} {σ:Env} {Z:Fix} {A A':Reg} {n:Nat} {ops:Array Oper}
variable {R:Type} {r:R} {T:Tab} {inl:GD R}
abbrev LS:=List (ET×Option TypeId)
def Cq:LS->List PV->Nat->List Nat
 |p::r,v::vs,c=>match p.2 with
  |none=>Cq r vs c
  |some _=>(match v with| .own i=>i|_=>c)::Cq r vs (c+1)
 |_,_,_=>[]
def Rl:LS->List MD
 |p::r=>match p.2 with
  |none=>Rl r
  |some E=>(match p.1 with| .list a=> .own a.size E (.slice none 0 0) []|_=> .dead)::Rl r
 |[]=>[]
theorem gU(h:Bg w A (L.map MD.Cs)):∀(ls:LS),Bg w A ((L++Rl ls).map MD.Cs):=by
 have one:∀(m:MD) (ms:List MD),m.Cs.holds none w->Bg w A ((L++ms).map MD.Cs)->Bg w A ((L++m::ms).map MD.Cs):=by
  intro m ms hm h;have:Bg w A (m.Cs::(L++ms).map MD.Cs):=⟨none,hm,λb hb=>(by cases hb),h.Hp λb hb=>hb.elim id (λh=>by cases h)⟩;refine this.perm ?_;rw[vF,vF,uH];exact(List.perm_middle).symm
 intro ls
 induction ls with
 |nil=>simpa [Rl]using h
 |cons p ls ih=>
  obtain⟨e,o⟩:=p;cases o with
  |none=>exact ih
  |some E=>cases e<;>exact one _ _ (by first|exact NY|exact⟨none,0,0,rfl,A9,tY _,λ_=>rfl,λ_=>rfl,λb h=>by cases h⟩) ih
theorem Zr:∀{ls:LS} {vs:List PV} {seen:List Nat} {c:Nat},Ru s ls vs seen=true->s.it.length<=c->distinct (Cq ls vs c)=true/\∀i∈Cq ls vs c,(i<s.it.length/\i∉seen)\/c<=i
 |[],[],_,_,_,_=>⟨rfl,by simp[Cq]⟩
 |[],_::_,_,_,h,_=>by simp[Ru]at h
 |_::_,[],_,_,h,_=>by simp[Ru]at h
 |(e,none)::ls,v::vs,seen,c,h,hc=>by
  simp only[Ru,tK]at h;exact Zr (ls:=ls) (vs:=vs) (seen:=seen) (c:=c) h.2 hc
 |(e,some E)::ls,v::vs,seen,c,h,hc=>by
  simp only[Ru]at h;split at h
  ·obtain⟨h1,h2⟩:=Zr h (c:=c+1) A7;refine⟨?_,λi hi=>?_⟩
   ·simp only[Cq,distinct,tK,tX];refine⟨?_,h1⟩;cases hx:Hq c (Cq ls vs (c+1))with
    |false=>rfl
    |true=>rcases h2 c (Iq.1 hx)with⟨h3,_⟩|h3<;>omega
   ·simp only[Cq,List.mem_cons]at hi;rcases hi with rfl|hi
    ·exact .inr (tY _)
    ·rcases h2 i hi with h3|h3
     ·exact .inl h3
     ·exact .inr A7
  ·rename_i a i;simp only[tK,tX]at h;obtain⟨⟨h0,hit⟩,h⟩:=h;have hlt:i<s.it.length:=by
    split at hit
    ·rename_i E' a' l hi;exact(List.getElem?_eq_some_iff.1 (DC hi (by intro e;cases e))).1
    ·cases hit
   obtain⟨h1,h2⟩:=Zr h (c:=c+1) A7;refine⟨?_,λj hj=>?_⟩
   ·simp only[Cq,distinct,tK,tX];refine⟨?_,h1⟩;cases hx:Hq i (Cq ls vs (c+1))with
    |false=>rfl
    |true=>
     rcases h2 i (Iq.1 hx)with⟨_,h3⟩|h3
     ·exact absurd (List.mem_cons_self) h3
     ·omega
   ·simp only[Cq,List.mem_cons]at hj;rcases hj with rfl|hj
    ·exact .inl ⟨hlt,λhm=>by have:=Iq.2 hm;rw[h0]at this;cases this⟩
    ·rcases h2 j hj with⟨h3,h4⟩|h3
     ·exact .inl ⟨h3,λhm=>h4 (vH _ hm)⟩
     ·exact .inr A7
  ·cases h
theorem jQ{q:PV}{x:e.T}(hr:Rel Z s σs A L σ w)(h:Zc s e q=some x)(ho:owns q=[])(hb:e.QV=true->∀b,A b/\Z.R b->B' b){L':List MD}:Uw (λb=>A b/\Z.R b) w L B' w L' q (.val e x):=by
 obtain⟨h1,h2⟩:=YU (L':=L') hr h (B':=λb=>A b/\Z.R b) (λ_ h=>h) (λi hi=>by rw[ho]at hi;cases hi);refine⟨h1,λcs hcs=>?_⟩;have h3:Af (λb=>A b/\Z.R b) w e x cs:=h2 cs hcs;cases hl:e.QV with
 |true=>exact Af.step (hb hl) (λ_ _=>rfl) h3
 |false=>exact Af.pQ hl h3
theorem jX{l:List e.T}{cs:List Value}(hb:e.QV=true->∀b,B b->B' b)(h:Az (Af B w e) l cs):Az (Af B' w e) l cs:=by
 cases hl:e.QV with
 |true=>exact h.mono λx c hx=>Af.step (hb hl) (λ_ _=>rfl) hx
 |false=>exact h.mono λx c hx=>Af.pQ hl hx
theorem PK(hr:Rel Z s σs A L σ w){LP:List MD}(hP:∀(i:Nat) (m:MD),L[i]? =some m->LP[i]? =some m):∀(ls:LS) (vs:List PV) (y:Jd ls) (seen:List Nat) (c:Nat) (s0:S) (Lx LF:List MD),
  Ru s ls vs seen=true->Nl s ls vs=some y-> (∀p∈ls,gZ p=true->∀b,A b/\Z.R b->B' b)-> (∀i m,(Rl ls)[i]? =some m->LP[c+i]? =some m)->Lx.length=s0.it.length->LF=Lx++(Cq ls vs c).map (λi=>LP.getD i .dead)->
  ∃its,(Bz ls y s0).2=⟨s0.sl,s0.it++its,s0.st⟩/\its.length=(Cq ls vs c).length/\All2 (Uw (λb=>A b/\Z.R b) w L B' w LF) vs (Bz ls y s0).1/\
   ∀(i:Nat) (a:Item) (m:MD),its[i]? =some a-> ((Cq ls vs c).map (λi=>LP.getD i .dead))[i]? =some m->Ht B' w LF a m
 |[],vs,y,seen,c,s0,Lx,LF,ho,hp,_,_,_,_=>by
  rw[YO hp];refine⟨[],?_,rfl,All2.nil,λi a m h=>by simp at h⟩;rw[MC];simp
 |p::ls,vs,y,seen,c,s0,Lx,LF,ho,hp,hb,hn,hlen,ZU=>by
  have main:∀(v:PV) (vs':List PV) (x:p.1.T) (rest:S->List PV×S),vs=v::vs'->Zc s p.1 v=some x->
    (Bz (p::ls) y s0=((Bv p.1 p.2 x s0).1::(rest (Bv p.1 p.2 x s0).2).1,(rest (Bv p.1 p.2 x s0).2).2))->
    (∀(seen:List Nat) (c:Nat) (s1:S) (Lx:List MD),Ru s ls vs' seen=true-> (∀i m,(Rl ls)[i]? =some m->LP[c+i]? =some m)->Lx.length=s1.it.length->LF=Lx++(Cq ls vs' c).map (λi=>LP.getD i .dead)->
     ∃its,(rest s1).2=⟨s1.sl,s1.it++its,s1.st⟩/\its.length=(Cq ls vs' c).length/\All2 (Uw (λb=>A b/\Z.R b) w L B' w LF) vs' (rest s1).1/\
      ∀(i:Nat) (a:Item) (m:MD),its[i]? =some a-> ((Cq ls vs' c).map (λi=>LP.getD i .dead))[i]? =some m->Ht B' w LF a m)->
    ∃its,(Bz (p::ls) y s0).2=⟨s0.sl,s0.it++its,s0.st⟩/\its.length=(Cq (p::ls) vs c).length/\All2 (Uw (λb=>A b/\Z.R b) w L B' w LF) vs (Bz (p::ls) y s0).1/\
     ∀(i:Nat) (a:Item) (m:MD),its[i]? =some a-> ((Cq (p::ls) vs c).map (λi=>LP.getD i .dead))[i]? =some m->Ht B' w LF a m:=by
   intro v vs' x rest hvs hx hu hrest;subst hvs;rw[hu];have hbp:=hb p (.head _);obtain⟨e,o⟩:=p;cases o with
   |none=>
    simp only[Ru,tK]at ho;have e1:Bv e none x s0=(.val e x,s0):=cV;simp only[e1];obtain⟨its,h1,h2,h3,h4⟩:=hrest seen c s0 Lx ho.2 hn hlen ZU;refine⟨its,h1,h2, .cons (jQ hr hx (isEmpty_nil ho.1) (λhl=>hbp ?_)) h3,h4⟩;cases e<;>first|exact hl|cases hl
   |some E=>
    simp only[Ru]at ho;split at ho
    ·
     rename_i a;have hx':x=[]:=by
      have:elems s a .nils=some x:=hx;simpa [elems]using this.symm
     subst hx';have hc:LP[c]? =some (.own a.size E (.slice none 0 0) []):=hn 0 _ rfl;have e1:Bv (.list a) (some E) [] s0=(.own s0.new,s0.add (.arr E a [])):=rfl;simp only[e1];obtain⟨its,h1,h2,h3,h4⟩:=hrest seen (c+1) (s0.add (.arr E a [])) (Lx++[.own a.size E (.slice none 0 0) []]) ho (λi m hi=>by rw[uC,Nat.add_comm 1 i];exact hn (i+1) m (by simpa [Rl]using hi))
      (by simp[S.add,hlen]) (by rw[ZU];simp[Cq,List.getD_eq_getElem?_getD,hc])
     refine⟨.arr E a []::its,by rw[h1];simp[S.add],by simp[Cq,h2], .cons ⟨rfl,λcs hcs=>?_⟩ h3,λi b m hi hm=>?_⟩
     ·refine⟨a.size,E, .slice none 0 0,[],?_,hcs⟩;rw[ZU,S.new,<-hlen];simp[Cq,List.getD_eq_getElem?_getD,hc]
     ·cases i with
      |zero=>
       simp[Cq,List.getD_eq_getElem?_getD,hc]at hi hm;subst hi hm;exact⟨rfl,rfl,rfl⟩
      |succ i=>exact h4 i b m (by simpa using hi) (by simpa [Cq]using hm)
    ·
     rename_i a i;simp only[tK,tX]at ho;obtain⟨⟨h0,hit⟩,ho⟩:=ho;split at hit
     ·rename_i E' a' l hi;simp only[tK,uX]at hit;obtain⟨hE,rfl⟩:=hit;have:=Bc hE;subst this;obtain⟨u,cs0,g1,g2⟩:=hr.mem.arr hi;have hx':x=l:=by
       have:elems s a' (.own i)=some x:=hx;simp[elems,hi]at this;exact this.symm
      subst hx';have hc:LP[i]? =some (.own a'.size E' u cs0):=hP i _ g1;have e1:Bv (.list a') (some E') x s0=(.own s0.new,s0.add (.arr E' a' x)):=rfl;simp only[e1];obtain⟨its,h1,h2,h3,h4⟩:=hrest (i::seen) (c+1) (s0.add (.arr E' a' x)) (Lx++[.own a'.size E' u cs0]) ho (λi m hi=>by rw[uC,Nat.add_comm 1 i];exact hn (i+1) m (by simpa [Rl]using hi))
       (by simp[S.add,hlen]) (by rw[ZU];simp[Cq,List.getD_eq_getElem?_getD,hc])
      refine⟨.arr E' a' x::its,by rw[h1];simp[S.add],by simp[Cq,h2], .cons ⟨rfl,λcs hcs=>?_⟩ h3,λq b m hq hm=>?_⟩
      ·obtain⟨z,E2,v2,c2,k1,k2⟩:=hcs;rw[g1]at k1;cases k1;refine⟨a'.size,E',u,cs0,?_,k2⟩;rw[ZU,S.new,<-hlen];simp[Cq,List.getD_eq_getElem?_getD,hc]
      ·cases q with
       |zero=>
        simp[Cq,List.getD_eq_getElem?_getD,hc]at hq hm;subst hq hm;exact⟨rfl,rfl,jX hbp g2⟩
       |succ q=>exact h4 q b m (by simpa using hq) (by simpa [Cq]using hm)
     ·cases hit
    ·cases ho
  cases ls with
  |nil=>
   obtain⟨v,rfl,hx⟩:=XV hp;exact main v [] y (λs1=>([],s1)) rfl hx (Th p y s0) (λseen c s1 Lx _ _ hlen ZU=>⟨[],A9,rfl,All2.nil,λi a m h=>by simp at h⟩)
  |cons q r=>
   obtain⟨v,vs',x,y',rfl,rfl,hx,hy⟩:=TF hp;exact main v vs' x (λs1=>Bz (q::r) y' s1) rfl hx (Po p q r x y' s0)
    (λseen c s1 Lx ho hn hlen ZU=>PK hr hP (q::r) vs' y' seen c s1 Lx LF ho hy (λp hp=>hb p (.tail _ hp)) hn hlen ZU)
theorem Ig{e:ET}{x:e.T}{cs:List Value}(h:Af B w e x cs):Af (λb=>b<w.heap.size/\B b) w e x cs:=
 match e,x,h with
 | .int _,_,h=>h
 | .bool,_,h=>h
 | .str,_,h=>h
 | .list _,_,⟨v,c0,h1,h2,h3⟩=>⟨v,c0,h1,h2.start,h3.mono λ_ _ h=>Ig h⟩
 | .vec _ _,_,⟨h1,h2⟩=>⟨h1,h2.mono λ_ _ h=>Ig h⟩
 | .cons _ _,_,⟨c1,c2,e,h1,h2⟩=>⟨c1,c2,e,Ig h1,Ig h2⟩
 | .nil,_,h=>h
def Qz:PV->Bool
 | .val _ _=>true
 | .own _=>true
 | .agg l=>go l
 |_=>false
where go:List PV->Bool
 |[]=>true
 |a::r=>Qz a&&go r
mutual
theorem SU:∀{p:PV} {cs:List Value},Qz p=true->Aj B w L p cs->Aj (λb=>b<w.heap.size/\B b) w L p cs
 | .val e x,cs,_,h=>Ig (show Af B w e x cs from h)
 | .own i,cs,_,h=>h
 | .agg l,cs,hv,h=>PZ hv (show Aj.go B w L l cs from h)
 | .tup _,_,hv,_=>by cases hv
 | .nils,_,hv,_=>by cases hv
 | .ptr _ _,_,hv,_=>by cases hv
 | .view _ _ _ _ _ _,_,hv,_=>by cases hv
 | .rptr _,_,hv,_=>by cases hv
 | .fn _ _,_,hv,_=>by cases hv
 | .cap _ _ _,_,hv,_=>by cases hv
 | .mp _ _,_,hv,_=>by cases hv
 | .bfn _ _,_,hv,_=>by cases hv
 | .cst _,_,hv,_=>by cases hv
 | .any,_,hv,_=>by cases hv
 | .gd _ _ _,_,hv,_=>by cases hv
 | .off,_,hv,_=>by cases hv
 | .undef,_,hv,_=>by cases hv
theorem PZ:∀{l:List PV} {cs:List Value},Qz.go l=true->Aj.go B w L l cs->Aj.go (λb=>b<w.heap.size/\B b) w L l cs
 |[],cs,_,h=>h
 |a::l,cs,hv,⟨c1,c2,e,h1,h2⟩=>by
  simp only[Qz.go,tK]at hv;exact⟨c1,c2,e,SU hv.1 h1,PZ hv.2 h2⟩
end
theorem LO:∀{l:List PV} {vs:List Value},Qz.go l=true->Bs B w L l vs->Bs (λb=>b<w.heap.size/\B b) w L l vs
 |[],vs,_,h=>h
 |a::l,vs,hv,⟨v,vs',e,h1,h2⟩=>by
  simp only[Qz.go,tK]at hv;exact⟨v,vs',e,h1.mono λc h=>SU hv.1 h,LO hv.2 h2⟩
theorem JM{x:e.T}{s0:S}:Qz (Bv e o x s0).1=true:=by
 unfold Bv;split<;>rfl
theorem HZ{x:e.T}{s0:S}(h:∀a∈s0.it,∃E e' l,a= .arr E e' l):∀a∈(Bv e o x s0).2.it,∃E e' l,a= .arr E e' l:=by
 unfold Bv;split
 ·intro a ha;simp only[S.add,List.mem_append,List.mem_singleton]at ha;rcases ha with ha|ha
  ·exact h a ha
  ·exact⟨_,_,_,ha⟩
 ·exact h
theorem QZ:∀(ls:LS) (x:Jd ls) (s0:S),Qz.go (Bz ls x s0).1=true
 |[],x,s0=>rfl
 |[p],x,s0=>by
  rw[Th];have h1:Qz (Bv p.1 p.2 x s0).1=true:=JM;simp only[Qz.go,h1];rfl
 |p::q::r,(x,y),s0=>by
  rw[Po];have h1:Qz (Bv p.1 p.2 x s0).1=true:=JM;simp only[Qz.go,h1,QZ (q::r) y _];rfl
theorem RC:∀(ls:LS) (x:Jd ls) (s0:S),(∀a∈s0.it,∃E e' l,a= .arr E e' l)->∀a∈(Bz ls x s0).2.it,∃E e' l,a= .arr E e' l
 |[],x,s0,h=>h
 |[p],x,s0,h=>by rw[Th];exact HZ h
 |p::q::r,(x,y),s0,h=>by rw[Po];exact RC (q::r) y _ (HZ h)
mutual
theorem eO:∀{sh:Sh} {vs r:List PV} {u:PV},Fh sh vs=some (u,r)->Qz.go vs=true->Qz u=true/\Qz.go r=true
 | .lf e o,v::vs,r,u,h,hv=>by
  simp only[Fh,tO,uT]at h;obtain⟨rfl,rfl⟩:=h;simpa [Qz.go]using hv
 | .lf e o,[],r,u,h,hv=>by simp[Fh]at h
 | .agg l,vs,r,u,h,hv=>by
  simp only[Fh]at h;split at h
  ·rename_i us r' h1;cases h;exact CZ h1 hv
  ·cases h
theorem CZ:∀{l:List Sh} {vs r us:List PV},Fh.go l vs=some (us,r)->Qz.go vs=true->Qz.go us=true/\Qz.go r=true
 |[],vs,r,us,h,hv=>by
  simp only[Fh.go,tO,uT]at h;obtain⟨rfl,rfl⟩:=h;exact⟨rfl,hv⟩
 |a::l,vs,r,us,h,hv=>by
  simp only[Fh.go]at h;split at h
  ·rename_i u vs' h1;split at h
   ·rename_i us' vs'' h2;cases h;obtain⟨g1,g2⟩:=eO h1 hv;obtain⟨g3,g4⟩:=CZ h2 g2;exact⟨by simp[Qz.go,g1,g3],g4⟩
   ·cases h
  ·cases h
end
theorem iX{rs:List Sh}{p:ET×Option TypeId}(hp:p∈Fm rs)(h:gZ p=true):lX rs=true:=by
 unfold lX;exact List.any_eq_true.2 ⟨p,hp,h⟩
theorem Ma{f:Nat}{ps rs:List Sh}{F:Jd (Fm ps)->Option (Jd (Fm rs))}{RUN:S->Option (Jd (Fm rs))}(hE:Ent P f)
  (hrun:∀x y pvs,args ps x=some pvs->F x=some y->RUN ⟨Hk 0 pvs,WN ps x,[]⟩=some y)
  (oJ:∀(Z:Fix) (A:Reg) (L:List MD) (w:World) (s:S) (y:Jd (Fm rs)) (vs:List Value) (Q:Ending->World->Prop),Z.gl=T.gl->Rel Z s [] A L (AF vs) w->vs.length=ps.length->RUN s=some y->
   (∀s' A' L' σ' w',Zu P rs fn.results.toList s'=some y->Rel Z s' [] A' L' σ' w'->∃us,Zd P σ' w' fn.results.toList us/\Q (.returned (Lz us)) w')->Calls P f vs.toArray w Q):ConOk P T.gl f ⟨ps,rs,F⟩:=by
 refine⟨hE,λR N w L0 vs pvs x y hx qI mE qJ hvs hgl hy=>?_⟩;have hx':args ps x=some pvs:=hx;have hy':=hrun x y pvs hx' hy
 ·let Z:Fix:=⟨λb=>((R b/\N b)\/∃p∈T.gl,p.1=b)\/ ¬N b\/w.heap.size<=b,λb=>¬N b,w,λb hb=> .inr (.inr hb),λb hb=> .inr (.inl hb),T.gl,λp hp=>⟨.inl (.inr ⟨p,hp,rfl⟩),λh=>h (hgl p hp).2.1,(hgl p hp).1,(hgl p hp).2.2⟩⟩
  have hval:Qz.go pvs=true:=by
   unfold args Ws at hx';split at hx'
   ·rename_i us hs;cases hx';exact(CZ hs (QZ _ _ _)).1
   ·cases hx'
  have rK:Bs (λb=>(b<w.heap.size/\N b)/\Z.R b) w L0 pvs vs:=Bs.step (λb hb=>⟨⟨hb.1,hb.2.2⟩, .inl (.inl hb.2)⟩) (λ_ _=>rfl) (.refl L0) (LO hval hvs);have hst:St (λb=>b<w.heap.size/\N b) w [.old Z.M Z.w0] (L0.map MD.Cs):=by
   refine⟨λb hb=>hb.1,λf hf=>?_,qJ.Hp λb hb=>hb.2⟩;cases hf with
   |head=>exact⟨.refl _,λb hb hM=>⟨⟨hb,Classical.not_not.1 hM⟩,rfl⟩⟩
   |tail _ h=>cases h
  have hr:Rel Z ⟨Hk 0 pvs,WN ps x,[]⟩ [] (λb=>b<w.heap.size/\N b) L0 (AF vs) w:=
   Rel.as (L:=L0) hst (i:=0) rfl ⟨⟨qI,λi a m h1 h2=>by
    have h3:=mE i a m h1 h2;obtain⟨E,e',l,rfl⟩:=RC (Fm ps) x ⟨[],[],[]⟩ A9 a (List.mem_of_getElem? h1);cases m with
    |dead=>exact h3
    |box _ _ _=>exact h3
    |own z E2 v2 c2=>exact⟨h3.1,h3.2.1,h3.2.2.mono λx c h=>Af.step (λb hb=>⟨⟨hb.1,hb.2.2⟩, .inl (.inl hb.2)⟩) (λ_ _=>rfl) (Ig h)⟩⟩,
    Wb rK (λi v hi=>by rw[uY];exact SZ hi),trivial⟩ rfl
  have hlen:vs.length=pvs.length:=hvs.length;have hpl:pvs.length=ps.length:=by
   unfold args Ws at hx';split at hx'
   ·rename_i us hs;cases hx';have key:∀(l:List Sh) (vs r us:List PV),Fh.go l vs=some (us,r)->us.length=l.length:=by
     intro l
     induction l with
     |nil=>intro vs r us h;simp only[Fh.go,tO,uT]at h;obtain⟨rfl,_⟩:=h;rfl
     |cons a l ih=>
      intro vs r us h;simp only[Fh.go]at h;split at h
      ·split at h
       ·rename_i h2;cases h;simp[ih _ _ _ h2]
       ·cases h
      ·cases h
    exact key _ _ _ _ hs
   ·cases hx'
  refine oJ Z _ _ w _ y vs _ rfl hr (hlen.trans hpl) hy' ?_;intro s' A' L' σ' w' h1 hr';have fin:Zu P rs fn.results.toList s'=some y->∃us,Zd P σ' w' fn.results.toList us/\∃us',Ending.returned (Lz us)= .returned (Lz us')/\mP T.gl R N w w' rs y us':=by
   intro h1;unfold Zu at h1;split at h1
   ·cases h1
   ·rename_i qC qE;split at h1
    ·cases h1
    ·rename_i s1 hs1;obtain⟨A1,L1,hr1,_⟩:=Fa hr' hs1;split at h1
     ·rename_i ls hls;obtain⟨ho,h1⟩:=Ae h1;unfold oC at hls;split at hls
      ·rename_i vs1 rL;obtain⟨us,sU,huv⟩:=GV hr1 rL;refine⟨us,sU,us,rfl,?_⟩;have hold:=hr1.fact 1 (f:= .old Z.M Z.w0) rfl;have hA:∀b,b<w.heap.size->N b->A1 b:=λb hb hN=>(hold.2 b hb (λh=>h hN)).1;have hkeep:KeepN N w w':=⟨λb hb hN=>(hold.2 b hb (λh=>h hN)).2,hold.1⟩;have AB:=gU (St.mobs hr1) (Fm rs);obtain⟨hd,hidx⟩:=Zr (s:=s1) (c:=L1.length) ho (by rw[hr1.len];exact tY _);refine⟨hkeep,λb=>A1 b/\ (¬N b\/w.heap.size<=b),(Cq (Fm rs) ls L1.length).map (λi=>(L1++Rl (Fm rs)).getD i .dead),λb hb=>⟨hb.2,St.lt hr1 b hb.1⟩,?_,?_⟩
       ·refine(SR AB hd).Hp ?_;rintro b (hb|hb)
        ·exact hb.1
        ·exact hA b hb.1 hb.2
       ·intro s0 L0 B' hL0 hB1 hB2;obtain⟨its,g1,g2,g3,g4⟩:=PK hr1 (B':=B') (LP:=L1++Rl (Fm rs)) (λi m hi=>by rw[List.getElem?_append_left (List.getElem?_eq_some_iff.1 hi).1];exact hi) (Fm rs) ls y [] L1.length s0 L0 _ ho h1
         (λp hp hl b hb=>by
          rcases hb.2 with hR|hN
          ·exact hB2 (iX hp hl) b hR
          ·exact hB1 b ⟨hb.1,hN⟩)
         (λi m hi=>by rw[List.getElem?_append_right A7,Nat.add_sub_cancel_left];exact hi) hL0 rfl
        obtain⟨ps',g5,g6⟩:=FR hls huv g3;exact⟨ps',its,g1,g5,g6,by rw[g2];simp,g4⟩
      ·cases hls
     ·cases h1
  obtain⟨us,k1,us',k2,k3⟩:=fin h1;exact⟨us,k1,us',k2,k3⟩
theorem aB(Pe:P.follows .mixedOrders=true){f:Nat}{ans:List (Nat×An)}{an:An}{ps rs:List Sh}{F:Jd (Fm ps)->Option (Jd (Fm rs))}(hf:P.funcs[f]? =some fn)(hE:Ent P f)(hT:Jt P T)(hA:∀p∈ans,Ent P p.1)
  (hle:Nat.ble ps.length fn.ntmps=true) (h:∀x,run P T ans fn an ps rs x=F x):ConOk P T.gl f ⟨ps,rs,F⟩:=by
 cases hc:fn.body with
 |none=>
  refine Ma (RUN:=λ_=>none) (fn:=fn) hE (λx y pvs hx hy=>?_) (λ_ _ _ _ _ _ _ _ _ _ _ h=>by cases h);rw[<-h x]at hy;unfold run at hy;rw[hc]at hy;exact hy
 |some c=>
  refine Ma (T:=T) (fn:=fn) (RUN:=ex P T (Ka P T 8 ans) fn.ntmps c an {n:=Zu P rs fn.results.toList,x:=λ_ _=>none,r:=Zu P rs fn.results.toList}) hE (λx y pvs hx hy=>?_) ?_
  ·rw[<-h x]at hy;unfold run at hy;rw[hc,hx]at hy;exact hy
  ·intro Z A L w s y vs Q hZ hr hl hy fin;refine RF (rs:=fn.results.toList) hf hc rfl A9 (by rw[hl];exact hle) (W.mono (IV Pe ⟨hT,hZ⟩ (EI Pe hT hA 8) c hy hr) ?_);rintro e σ' w' ⟨s',A',L',h1,hr'⟩;cases e with
   |normal=>exact⟨.inr rfl,fin s' A' L' σ' w' h1 hr'⟩
   |ret=>exact⟨.inl rfl,fin s' A' L' σ' w' h1 hr'⟩
   |exit id=>cases h1
   |goto l=>cases h1
   |panic c=>cases h1
   |outgrown=>cases h1
end Go.Rx
namespace Go.Rx
open Go Go.Lv
structure Pt (R:Type)where
 q:Nat
 n:Nat
 c:Code
 an:An
 k:K R
inductive PS (R:Type)|l|r|d|lp (kn:S->Option R)|call (i f:Nat)|dcall (i f fuel:Nat) (z listed:Array Bool)
def aG(f:Func):Code:=match f.body with|some c=>c|none=> .skip
variable {R:Type}
noncomputable def Pt.e(P:Program)(T:Tab)(ans:List (Nat×An))(p:Pt R)(s:S):Option R:=match p.c with
 | .loop _=>ex P T (Ka P T p.q ans) p.n p.c p.an p.k s
 |_=>hold (λs=>ex P T (Ka P T p.q ans) p.n p.c p.an p.k s) s
noncomputable def Pt.it(P:Program)(T:Tab)(ans:List (Nat×An))(p:Pt R)(q:Nat)(s:S):Option R:=match p.c with
 | .loop a=>iter p.an (λkn s'=>ex P T (Ka P T p.q ans) p.n a p.an.l {p.k with n:=kn} s') q s
 |_=>none
noncomputable def Pt.step(P:Program)(T:Tab)(ans:List (Nat×An))(p:Pt R):PS R->Pt R
 | .l=>match p.c with
  | .seq a b=>⟨p.q,p.n,a,p.an.l,{p.k with n:=QQ p.an λs'=>ex P T (Ka P T p.q ans) p.n b p.an.r p.k s'}⟩
  | .cond _ a _=>⟨p.q,p.n,a,p.an.l,p.k⟩
  |_=>p
 | .r=>match p.c with
  | .seq _ b=>⟨p.q,p.n,b,p.an.r,p.k⟩
  | .cond _ _ b=>⟨p.q,p.n,b,p.an.r,p.k⟩
  |_=>p
 | .d=>match p.c with
  | .block id a=>⟨p.q,p.n,a,p.an.l,{p.k with x:=λid' s'=>Be (Nat.beq id' id) (p.k.n s')<|p.k.x id' s'}⟩
  |_=>p
 | .lp kn=>match p.c with
  | .loop a=>⟨p.q,p.n,a,p.an.l,{p.k with n:=Qc p.an kn}⟩
  |_=>p
 | .call i f=>match p.c,p.q,P.funcs[f]?,Ka.RI ans f with
  | .region _ ops false,q+1,some fn,some an=>
   let fin:=Ka.fO P fn.results.toList λs v=>DZ P T (WE p.an (Ka P T (q+1) ans)) p.n ops (ops.toList.drop (i+1)) (s.Cg ((ops[i]?).bind (·.dst)) v) p.k.n
   ⟨q,fn.ntmps,aG fn,an,{n:=fin,x:=λ_ _=>none,r:=fin}⟩
  |_,_,_,_=>p
 | .dcall i f fuel z listed=>match p.c,p.q,P.funcs[f]?,Ka.RI ans f with
  | .region _ ops true,q+1,some fn,some an=>
   let fin:=Ka.fO P fn.results.toList λs v=>Pq P T (WE p.an (Ka P T (q+1) ans)) p.n (GX p.an) ops fuel z listed (s.Cg ((ops[i]?).bind (·.dst)) v) p.k.n
   ⟨q,fn.ntmps,aG fn,an,{n:=fin,x:=λ_ _=>none,r:=fin}⟩
  |_,_,_,_=>p
noncomputable def Pt.at(P:Program)(T:Tab)(ans:List (Nat×An)):Pt R->List (PS R)->Pt R
 |p,[]=>p
 |p,x::l=>Pt.at P T ans (p.step P T ans x) l
noncomputable def Pt.root(P:Program)(fn:Func)(an:An)(rs:List Sh):Pt (Jd (Fm rs)):=
 ⟨8,fn.ntmps,aG fn,an,{n:=Zu P rs fn.results.toList,x:=λ_ _=>none,r:=Zu P rs fn.results.toList}⟩
noncomputable def PE(P:Program)(T:Tab)(ans:List (Nat×An))(fn:Func)(an:An)(rs:List Sh)(l:List (PS (Jd (Fm rs))))(s:S):Option (Jd (Fm rs)):=(Pt.at P T ans (Pt.root P fn an rs) l).e P T ans s
noncomputable def PI(P:Program)(T:Tab)(ans:List (Nat×An))(fn:Func)(an:An)(rs:List Sh)(l:List (PS (Jd (Fm rs))))(q:Nat)(s:S):Option (Jd (Fm rs)):=(Pt.at P T ans (Pt.root P fn an rs) l).it P T ans q s
theorem QT(a:Option R):both a [a,a]=a:=by simp[both]
theorem OG(a:Option R):both a [a,a,a]=a:=by simp[both]
end Go.Rx
namespace Go.Rx
open Go Go.Lv
variable{vw cp:Bool}{g:Nat}{P:Program}
theorem ConOk.mono{P:Program}{gl gl':List (Nat×List Value)}{f:Nat}{c:Con}(h:ConOk P gl f c)(hs:gl.Sublist gl'):ConOk P gl' f c:=by
 refine⟨h.ent,λR N w L0 vs ps x y h1 h2 h3 h4 h5 h6 h7=>(h.ok R N w L0 vs ps x y h1 h2 h3 h4 h5 (λp hp=>h6 p (hs.subset hp)) h7).mono ?_⟩;rintro e w' ⟨us,he,hk,A1,L1,g1,g2,g3⟩;exact⟨us,he,hk,A1,L1,g1,g2,λs L B' k1 k2 k3=>g3 s L B' k1 k2 λhr b hb=>k3 hr b (hb.imp id λ⟨p,hp,he⟩=>⟨p,hs.subset hp,he⟩)⟩
theorem Jt.nil{gl:List (Nat×List Value)}:Jt P ⟨[],gl,vw,cp⟩:=λf c h=>by cases h
theorem Jt.cons{c:Con}{r:List (Nat×Con)}{gl:List (Nat×List Value)}(h:ConOk P gl g c)(hr:Jt P ⟨r,gl,vw,cp⟩):Jt P ⟨(g,c)::r,gl,vw,cp⟩:=λf c' h'=>by
 simp only[Tab.get,nC]at h';cases hb:Nat.beq g f with
 |true=>
  rw[hb]at h';have:=Bc hb;subst this;cases h';exact h
 |false=>rw[hb]at h';exact hr f c' h'
theorem ZV.nil:∀p∈([]:List (Nat×An)),Ent P p.1:=by simp
theorem ZV.cons{a:An}{r:List (Nat×An)}(h:Ent P g)(hr:∀p∈r,Ent P p.1):∀p∈(g,a)::r,Ent P p.1:=by
 intro p hp;rcases List.mem_cons.1 hp with rfl|hp
 ·exact h
 ·exact hr p hp
end Go.Rx
namespace Go.Rx
variable {R α:Type}
theorem Gk{a b c:Option R}(h:a=c)(h1:b=c):both a [b]=c:=by subst h;subst h1;exact GL _
theorem Ge{a b d c:Option R}(h:a=c)(h1:b=c)(h2:d=c):both a [b,d]=c:=by subst h;subst h1;subst h2;exact QT _
theorem Gm{a b d e c:Option R}(h:a=c)(h1:b=c)(h2:d=c)(h3:e=c):both a [b,d,e]=c:=by subst h;subst h1;subst h2;subst h3;exact OG _
theorem Jo{l:List α}{a b c:Option R}(h:l=[]->a=c)(h1:b=c):TW l a b=c:=by subst h1;exact mA h
theorem Iz{o:Option α}{f g:α->Option R}(h:∀x,f x=g x):Option.bind o f=Option.bind o g:=by rw[funext h]
theorem Dx{o:Option α}{f:α->Option R}{t:Option R}(h:o=none->none=t)(h1:∀x,o=some x->f x=t):Option.bind o f=t:=by
 cases o with
 |none=>exact h rfl
 |some x=>exact h1 x rfl
theorem Jg(f:α->Option R):Option.bind none f=none:=rfl
theorem Db(x:α)(f:α->Option R):Option.bind (some x) f=f x:=rfl
theorem Cu(o:Option α):Option.bind o (λ_=>(none:Option R))=none:=by cases o<;>rfl
theorem Nf{c:Prop} [Decidable c]{a b a' b':Option R}(h:c->a=a')(h1:¬c->b=b'):(if c then a else b)=if c then a' else b':=by
 by_cases hc:c
 ·rw[uG hc,uG hc];exact h hc
 ·rw[uF hc,uF hc];exact h1 hc
theorem Ey{c:Prop} [Decidable c]{a b t:Option R}(h:c->a=t)(h1:¬c->b=t):(if c then a else b)=t:=by
 by_cases hc:c
 ·rw[uG hc];exact h hc
 ·rw[uF hc];exact h1 hc
abbrev vi(x:Int):PV:= .val (.int .i64) x
abbrev vc(x:UInt8):PV:= .val (.int .u8) x
abbrev vu(x:UInt32):PV:= .val (.int .u32) x
abbrev vq(x:UInt64):PV:= .val (.int .u64) x
abbrev vx(x:Int32):PV:= .val (.int .i32) x
abbrev vt(x:Bool):PV:= .val .bool x
abbrev vs(x:List UInt8):PV:= .val .str x
abbrev vb(x:List UInt8):PV:= .val (.list (.int .u8)) x
abbrev vl(x:List Int):PV:= .val (.list (.int .i64)) x
abbrev vw(x:List Int32):PV:= .val (.list (.int .i32)) x
abbrev vv(x:List UInt32):PV:= .val (.list (.int .u32)) x
end Go.Rx
namespace Go.Rx
open Go Go.Lv
variable{f:Nat}{P:Program}
structure Hd where
 p:List Sh
 r:List Sh
 a:An
 T:Tab
 s:List (Nat×An)
 f:Func
noncomputable def Hd.e(P:Program)(H:Hd):List (PS (Jd (Fm H.r)))->S->Option (Jd (Fm H.r)):=PE P H.T H.s H.f H.a H.r
noncomputable def Hd.i(P:Program)(H:Hd):List (PS (Jd (Fm H.r)))->Nat->S->Option (Jd (Fm H.r)):=PI P H.T H.s H.f H.a H.r
noncomputable def Hd.u(P:Program)(H:Hd)(x:Jd (Fm H.p)):Option (Jd (Fm H.r)):=run P H.T H.s H.f H.a H.p H.r x
def qT(H:Hd):Bool:=(!(H.f.name== "runtime.NumGoroutine")&&H.f.body.isSome)&&Nat.ble H.p.length H.f.ntmps
theorem Hd.sD(hM:P.follows .mixedOrders=true)(H:Hd){F:Jd (Fm H.p)->Option (Jd (Fm H.r))}(hf:P.funcs[f]? =some H.f)(hT:Jt P H.T)(hA:∀p∈H.s,Ent P p.1)
  (hb:qT H=true) (h:∀x,H.u P x=F x):ConOk P H.T.gl f ⟨H.p,H.r,F⟩:=by
 simp only[qT,tK,tX]at hb;obtain⟨c,hc⟩:=Option.isSome_iff_exists.1 hb.1.2;exact aB (T:=H.T) hM hf (Ent.mk hf hb.1.1 hc) hT hA hb.2 h
def nB(P:Program)(f:Nat):Bool:=match P.funcs[f]? with|some fn=>!(fn.name== "runtime.NumGoroutine")&&fn.body.isSome|none=>false
theorem nV(h:nB P f=true):Ent P f:=by
 unfold nB at h;split at h
 ·rename_i fn hf;simp only[tK,tX]at h;obtain⟨c,hc⟩:=Option.isSome_iff_exists.1 h.2;exact Ent.mk hf h.1 hc
 ·cases h
def qQ(P:Program)(H:Hd):Bool:=(H.s.all λp=>nB P p.1)&&qT H
theorem Hd.cn(hM:P.follows .mixedOrders=true)(H:Hd){F:Jd (Fm H.p)->Option (Jd (Fm H.r))}(hf:P.funcs[f]? =some H.f)(hT:Jt P H.T)
  (hb:qQ P H=true) (h:∀x,H.u P x=F x):ConOk P H.T.gl f ⟨H.p,H.r,F⟩:=by
 simp only[qQ,tK,List.all_eq_true]at hb;exact Hd.sD hM H hf hT (λp hp=>nV (hb.1 p hp)) hb.2 h
abbrev Kc(P:Program)(gl:List (Nat×List Value)):={p:Nat×Con//ConOk P gl p.1 p.2}
def oT{P:Program}{gl:List (Nat×List Value)}(l:List (Kc P gl))(v c:Bool):Tab:=⟨l.map (·.1),gl,v,c⟩
theorem dM{P:Program}{gl:List (Nat×List Value)}:∀(l:List (Kc P gl)) (v c:Bool),Jt P (oT l v c)
 |[],_,_=> .nil
 |a::l,v,c=> .cons a.2 (dM l v c)
theorem ind{p:Nat->Prop}(h:p 0)(hs:∀q,p q->p (q+1)):∀q,p q:=λq=>Nat.rec h hs q
variable {R α:Type}
noncomputable abbrev bo(a:Option R):Option R:=both a [a]
noncomputable abbrev rS(a:Option R):Option R:=both a [a,a]
theorem JO(a:Option R):both a [a]=a:=GL a
theorem Vr(a:Option R):both a [a,a]=a:=QT a
theorem Yl(a:Option R):both a [a,a,a]=a:=OG a
abbrev Si:Sh:= .lf (.int .i64) none
abbrev Su:Sh:= .lf (.int .u32) none
abbrev Sq:Sh:= .lf (.int .u64) none
abbrev Sx:Sh:= .lf (.int .i32) none
abbrev Sz:Sh:= .lf .bool none
abbrev Ss:Sh:= .lf .str none
abbrev Sb:Sh:= .lf (.list (.int .u8)) none
abbrev Sl:Sh:= .lf (.list (.int .i64)) none
abbrev Sw:Sh:= .lf (.list (.int .i32)) none
abbrev Sv:Sh:= .lf (.list (.int .u32)) none
abbrev Ob(e:Nat):Sh:= .lf (.list (.int .u8)) (some e)
abbrev Ol(e:Nat):Sh:= .lf (.list (.int .i64)) (some e)
abbrev Ow(e:Nat):Sh:= .lf (.list (.int .i32)) (some e)
abbrev Ov(e:Nat):Sh:= .lf (.list (.int .u32)) (some e)
abbrev Ai(e:Nat)(l:List Int):Item:= .arr e (.int .i64) l
abbrev Ab(e:Nat)(l:List UInt8):Item:= .arr e (.int .u8) l
abbrev Aw(e:Nat)(l:List Int32):Item:= .arr e (.int .i32) l
abbrev Av(e:Nat)(l:List UInt32):Item:= .arr e (.int .u32) l
abbrev An.q(a:An):An:= .seq .d a
end Go.Rx
namespace Go.Rx
open Go Go.Lv Go.RowKit
variable{cs:List Value}{B:Reg}{w:World}
variable {P:Program}
theorem Ng{B:Reg}{w:World}{k:Kd}:∀(l:List k.T),Az (Af B w (.int k)) l (Go.Lv.Lm (k:=k.k) l)
 |[]=>rfl
 |x::l=>⟨[iv (T:=k.T) (k:=k.k) x],Go.Lv.Lm (k:=k.k) l,rfl,rfl,Ng l⟩
theorem Rd.Hp{A:Reg}{s:Nat}{v:Value}(h:Rd A w s v cs)(ha:∀b,A b->B b):Rd B w s v cs:=h.step ha λ_ _=>rfl
theorem encs_nil:Bs B w [] [] []:=rfl
theorem row_true{gl:List (Nat×List Value)}{f:Nat}{ps:List Sh}{F:Jd (Fm ps)->Option Bool}(hC:ConOk P gl f ⟨ps,[.lf .bool none],F⟩){x:Jd (Fm ps)}{pvs:List PV}{vs:List Value}(ha:args ps x=some pvs)(hi:WN ps x=[])
  (hv:Bs (λ_=>True/\True) w [] pvs vs) (hg:GlOk gl (λ_=>True) w) (hF:F x=some true):Calls P f vs.toArray w λe w'=>e= .returned (.bool true)/\Below w.heap.size w w':=by
 refine(hC.ok (λ_=>True) (λ_=>True) w [] vs pvs x true ha (by rw[hi];rfl) (λi a m h=>by rw[hi]at h;simp at h) trivial hv hg hF).mono ?_;rintro e w' ⟨us,rfl,hk,A1,L1,g1,g2,g3⟩;obtain⟨qs,its,k1,k2,k3,k4,k5⟩:=g3 ⟨[],[],[]⟩ [] (λ_=>True) rfl (λ_ _=>trivial) (λ_ _ _=>trivial);refine⟨?_,⟨hk.gr.os,hk.gr.tape,hk.gr.output,hk.gr.le,λb hb=>hk.same b hb trivial⟩⟩;obtain rfl:=Option.some.inj (show some [PV.val .bool true]=some qs from k2);obtain⟨_,_,rfl,e1,rfl⟩:=k3;cases(show [_]=[Value.bool true]from e1);rfl
theorem laid_ints{H:Type}{enc:TypeId×Value->H}{fuel:Nat}{t e n:Nat}{k:IntKind}{zs:List Int}{p:List MemPlace}(hu:P.underlying t=some (.array n e))(he:P.underlying e=some (.int k))(hc:P.cellsOf e=1)(ht:P.cellsOf t=n)
  (h:DataW.trod enc P w 0 (λ_=>true) false fuel t cs=some (.agg (zs.map λz=> .lit (.int k z)),p)):cs=zs.map λz=>Value.int k z:=by
 obtain⟨xs,m,rfl,hx,hlen,hn,hel⟩:=DataW.trod_array hu h;simp only[uT,DataW.agg.injEq]at hx;rw[ht]at hlen;have hz:zs.length=n:=by
  have:=congrArg List.length hx.1;simpa [hn]using this
 apply List.ext_getElem?;intro i;by_cases hi:i<n
 ·have h0:=hel i hi;rw[hc,Nat.mul_one]at h0;have hxi:xs[i]? =some xs[i]:=List.getElem?_eq_getElem A7;rw[hxi]at h0;obtain⟨q,e1,e2,_⟩:=DataW.trod_int he h0;have e3:(cs.drop i).take 1=[cs[i]' A7]:=by
   rw[List.drop_eq_getElem_cons A7];rfl
  rw[e3]at e1;have e4:(xs.map (·.1))[i]? =(zs.map λz=>(DataW.lit (.int k z):DataW H))[i]? :=by rw[<-hx.1]
  rw[List.getElem?_map,List.getElem?_map,hxi,List.getElem?_eq_getElem A7,e2]at e4;simp only[uW,tO,DataW.lit.injEq,Lit.int.injEq,true_and]at e4;rw[List.getElem?_map,List.getElem?_eq_getElem A7,List.getElem?_eq_getElem A7];simp only[List.cons.injEq,and_true]at e1;rw[e1,e4];rfl
 ·rw[List.getElem?_eq_none A7,List.getElem?_eq_none A8]
theorem glOk_cons{n:String}{g:Nat}{cs:Array Value}{l:List Value}{gl:List (Nat×List Value)}(hg:P.globalNamed n=some g)(hv:w.var? P n=some cs)(hl:cs.toList=l)(h:GlOk gl (λ_=>True) w):GlOk ((g,l)::gl) (λ_=>True) w:=by
 intro p hp;rcases List.mem_cons.1 hp with rfl|hp
 ·simp only[World.var?,hg,Option.bind_some]at hv;split at hv
  ·rename_i cs' T fr hh;cases hv;refine⟨(Array.getElem?_eq_some_iff.1 hh).1,trivial,T,fr,?_⟩;rw[hh,<-hl]
  ·cases hv
 ·exact h p hp
theorem glOk_nil{N:Reg}:GlOk [] N w:=λp hp=>by simp at hp
end Go.Rx
namespace Go.Rx
open Go Go.Lv Go.RowKit Go.ChangeShapes Go.WideShapes
variable {P:Program}
theorem fld{H:Type}{enc:TypeId×Value->H}{w:World}{base:Nat}{spare:Nat->Bool}{held:Bool}{fuel:Nat}{t:TypeId}{fs:Array Field}{cs:List Value}{x:DataW H×List MemPlace}(ht:P.underlying t=some (.struct fs))(h:DataW.trod enc P w base spare held fuel t cs=some x)
  (i:Nat) {ft:TypeId} {off k:Nat} {part:List Value} (hf:(fs[i]?).map (λf=>(f.type,f.offset))=some (ft,off)) (hc:P.cellsOf ft=k) (hd:(cs.drop off).take k=part):∃n y,DataW.trod enc P w base spare held n ft part=some y:=by
 obtain⟨xs,n,_,_,_,hn,hel⟩:=DataW.trod_struct ht h;cases hi:fs[i]? with
 |none=>rw[hi]at hf;cases hf
 |some f=>
  rw[hi]at hf;cases hf;have g:=hel i f hi;rw[hc,hd,List.getElem?_eq_getElem (by rw[hn];exact(Array.getElem?_eq_some_iff.1 hi).1)]at g;exact⟨n,_,g⟩
end Go.Rx
namespace Go.Rx
open Go Go.Lv Go.RowKit Go.ChangeShapes Go.WideShapes
variable {P:Program}
end Go.Rx
namespace Go.Rx
open Go Go.Lv Go.RowKit
variable{an:An}{ps:Array Tmp}{assign body:Code}{fn:Func}{g:Operand}
def pW(P:Program)(m:Nat)(gf:Nat)(lb:Array Value)(N:Nat)(E:Nat->Reg->World->Value->Prop)(V0:Reg)(w:World):Prop:=
 ∀(l:Nat) (J:Nat->Reg->World->Prop) (Jx:World->Prop) (W:World),KeepN (λ_=>True) w W->
  (∀i V X Y,J i V X->KeepN (λ_=>True) X Y->J i (λb=>V b\/ (X.heap.size<=b/\b<Y.heap.size)) Y)->
  (∀X Y,Jx X->KeepN (λ_=>True) X Y->Jx Y)->
  (∀i V W1 v,i<N->J i V W1->E i V W1 v->YieldAt (wr none) (m-1) P l #[v] W1 λe W'=>
   (e= .returned (.bool true)/\J (i+1) V W'/\Gr W1 W'/\∀b,V b->W'.heap[b]? =W1.heap[b]?)\/ (e= .returned (.bool false)/\Jx W'))->
  J 0 V0 W->
  CallsIn (wr none) m P gf (#[.func (.yield l) #[] #[]]++lb) W λe W'=>(∃v,e= .returned v)/\ ((∃V,J N V W')\/Jx W')
def oA(B:Nat)(I:Reg->World->Prop)(Ix:Code->World->Prop)(V:Reg)(W:World):Exit->Act->World->Prop
 | .normal,_,W'=>(∀b,(b=B\/b=B+1\/V b)->W'.heap[b]? =W.heap[b]?)/\Gr W W'/\I V W'
 | .ret,_,W'=>(∀b,(b=B\/b=B+1)->W'.heap[b]? =W.heap[b]?)/\Gr W W'/\Ix .ret W'
 | .exit id,_,W'=>(∀b,(b=B\/b=B+1)->W'.heap[b]? =W.heap[b]?)/\Gr W W'/\Ix (.exit id) W'
 |_,_,_=>False
theorem HV(W:World)(l:Nat)(o:Obj):Gr W (W.putObj l o):=by
 have h:=grownBy_putObj' W l o;exact⟨h.size,h.os,h.tape,h.output⟩
theorem YN(W:World)(o:Obj):Gr W (W.alloc o):=by
 have h:=World.grownBy_alloc W o none;exact⟨h.size,h.os,h.tape,h.output⟩
theorem kB{P:Program}{n:Nat}{Q:Exit->Act->World->Prop}{a:Act}{w:World}
  {gf:Nat} {lb:Array Value} (hg:a.eval g= .func (.func gf) #[] lb) (eg:Ent P gf) {N:Nat} {E:Nat->Reg->World->Value->Prop} {V0:Reg} (hseq:pW P (n-1) gf lb N E V0 w) (hps:ps.size=1)
  (I:Nat->Reg->World->Prop) (Ix:Code->World->Prop)
  (hI:∀i V X Y,I i V X->w.heap.size+1<X.heap.size->KeepN (λ_=>True) X Y->I i (λb=>V b\/ (X.heap.size<=b/\b<Y.heap.size)) Y)
  (hIx:∀c X Y,Ix c X->KeepN (λ_=>True) X Y->Ix c Y)
  (qN:∀i V X (r r':Loop),I i V X->X.heap[w.heap.size+1]? =some (.loop r)->I i V (X.putObj (w.heap.size+1) (.loop r')))
  (jH:∀c X (r r':Loop),Ix c X->X.heap[w.heap.size+1]? =some (.loop r)->Ix c (X.putObj (w.heap.size+1) (.loop r')))
  (hV:∀i V W,I i V W-> ¬V (w.heap.size+1))
  (h0:∀W,KeepN (λ_=>True) w W->I 0 V0 W)
  (bO:∀i V W v (r:Loop),i<N->I i V W->E i V W v->W.heap[w.heap.size+1]? =some (.loop r)->W.heap[w.heap.size]? =some (.deferred (some []))->
   assign.wpIn (wr (some (w.heap.size+1))) (n-1-1) P (Exit.then (λa' W'=>(∀b,(b=w.heap.size\/b=w.heap.size+1\/V b)->W'.heap[b]? =W.heap[b]?)/\Gr W W'/\
    ∀r',body.wpIn (wr (some (w.heap.size+1))) (n-1-1) P (oA w.heap.size (I (i+1)) Ix V (W'.putObj (w.heap.size+1) (.loop r'))) a' (W'.putObj (w.heap.size+1) (.loop r'))) (λ_ _ _=>False))
    {tmps:=(ps.zip #[v]).foldl (λt (p,v)=>t.setIfInBounds p v) a.tmps,defers:=[]} W)
  (hdone:∀V W,I N V W->W.heap[w.heap.size]? =some (.deferred (some []))->Q .normal {a with defers:={target:= .collected w.heap.size,args:= #[]}::a.defers} W)
  (hstop:∀c W,Ix c W->W.heap[w.heap.size]? =some (.deferred (some []))->c.wpIn (wr none) n P Q {a with defers:={target:= .collected w.heap.size,args:= #[]}::a.defers} W):
  (Code.rangeFunc g ps assign body).wpIn (wr none) n P Q a w:=by
 refine wpIn_rangeFunc ?_;intro fn hfn;obtain⟨rec,hrec⟩:∃rec:LoopState->Option Code->Loop,rec=λst pe=>{state:=st,pending:=pe,fn,tmps:=a.tmps,params:=ps,assign,body,defers:=w.heap.size}:=⟨_,rfl⟩;obtain⟨W1,hW1⟩:∃W1,(w.alloc (.deferred (some []))).alloc (.loop (rec .ready none))=W1:=⟨_,rfl⟩;have hL1:W1.heap[w.heap.size+1]? =some (.loop (rec .ready none)):=by
  rw[<-hW1];have:=World.alloc_heap_new (w.alloc (.deferred (some []))) (.loop (rec .ready none));rwa [World.size_alloc]at this
 have hK1:W1.heap[w.heap.size]? =some (.deferred (some [])):=by
  rw[<-hW1];exact(Below.heap_alloc _ _ _ A9).trans (World.alloc_heap_new w _)
 have hk1:KeepN (λ_=>True) w W1:=by
  rw[<-hW1];refine⟨λb hb _=>?_,(YN _ _).trans (YN _ _)⟩;exact(Below.heap_alloc _ _ _ A8).trans (Below.heap_alloc _ _ _ hb)
 refine⟨w.heap.size+1,[{target:= .collected w.heap.size,args:= #[]}],W1,{target:= .fn (.func gf) lb,args:= #[.func (.yield (w.heap.size+1)) #[] #[]]},W1,gf,
  #[.func (.yield (w.heap.size + 1)) #[] #[]] ++ lb, W1, ?_, ?_, ?_, ?_, (λh => by simp [wr, Fence.wide] at h), ?_⟩
 ·rw[<-hW1,hrec];exact run_enterLoop_outer _ _ _ _ _
 ·simp only[resolve,hg];simp[go_sem]
 ·intro f' hf';trivial
 ·simp[invoke,go_sem,eg _ _]
 ·refine(hseq (w.heap.size+1)
   (λi V W=>I i V W/\W.heap[w.heap.size+1]? =some (.loop (rec .ready none))/\W.heap[w.heap.size]? =some (.deferred (some [])))
   (λW=>∃c,Ix c W/\W.heap[w.heap.size+1]? =some (.loop (rec .done (some c)))/\W.heap[w.heap.size]? =some (.deferred (some [])))
   W1 hk1 ?_ ?_ ?_ ⟨h0 _ hk1,hL1,hK1⟩).mono ?_
  ·rintro i V X Y ⟨h1,h2,h3⟩ hk;exact⟨hI i V X Y h1 (lt_of_heap h2) hk,(hk.same _ (lt_of_heap h2) trivial).trans h2,(hk.same _ (lt_of_heap h3) trivial).trans h3⟩
  ·rintro X Y ⟨c,h1,h2,h3⟩ hk;exact⟨c,hIx c X Y h1 hk,(hk.same _ (lt_of_heap h2) trivial).trans h2,(hk.same _ (lt_of_heap h3) trivial).trans h3⟩
  ·
   rintro i V W v hlen ⟨hi,hl,hk⟩ hE;have hy:=run_yield (P:=P) (args:= #[v]) hl (by rw[hrec];exact hps.symm);rw[hrec]at hy;have sV:=hV i V W hi;refine⟨fn,_,assign,body,hy,roundIn_of_wpIn hfn (uM (bO i V W v _ hlen hi hE hl hk) ?_)⟩;clear hy;rintro e a' W2 hh;cases e with
   |normal=>
    obtain⟨hs,hgr,hb⟩:=hh;have hl2:=(hs _ (.inr (.inl rfl))).trans hl;have hk2:=(hs _ (.inl rfl)).trans hk;refine⟨_,run_beginRound hl2 (by rw[hrec]),?_⟩;refine uM (hb _) ?_;have hlt:=lt_of_heap hl2;have hl3:(W2.putObj (w.heap.size+1) (.loop {rec .ready none with state:= .busy})).heap[w.heap.size+1]? =some (.loop {rec .ready none with state:= .busy}):=World.putObj_heap_same hlt;have hk3:(W2.putObj (w.heap.size+1) (.loop {rec .ready none with state:= .busy})).heap[w.heap.size]? =some (.deferred (some [])):=(uI A7).trans hk2;have fin:∀(jump:Option Code) (W3:World),(∀b,(b=w.heap.size\/b=w.heap.size+1)->W3.heap[b]? =(W2.putObj (w.heap.size+1) (.loop {rec .ready none with state:= .busy})).heap[b]?)->
      (Instr.endRound (w.heap.size+1) jump).run P W3= .ok (.bool jump.isNone) (W3.putObj (w.heap.size+1) (.loop (rec (if jump.isNone then .ready else .done) jump)))/\
      W3.heap[w.heap.size+1]? =some (.loop {rec .ready none with state:= .busy})/\
      (W3.putObj (w.heap.size+1) (.loop (rec (if jump.isNone then .ready else .done) jump))).heap[w.heap.size+1]? =some (.loop (rec (if jump.isNone then .ready else .done) jump))/\
      (W3.putObj (w.heap.size+1) (.loop (rec (if jump.isNone then .ready else .done) jump))).heap[w.heap.size]? =some (.deferred (some [])):=λjump W3 hs3=>by
     have hl4:=(hs3 _ (.inr rfl)).trans hl3;have:=run_endRound (P:=P) jump hl4;rw[hrec]at this⊢;exact⟨this,by rw[hrec]at hl4;exact hl4,World.putObj_heap_same (lt_of_heap hl4),(uI A7).trans ((hs3 _ (.inl rfl)).trans hk3)⟩
    rintro e a3 W3 hp;cases e with
    |normal=>
     obtain⟨hs3,hg3,hi3⟩:=hp;obtain⟨hr,hl4,hl5,hk5⟩:=fin none W3 (λb hb=>hs3 b (hb.elim .inl λh=> .inr (.inl h)));refine⟨_,_,hr, .inl ⟨rfl,⟨qN _ _ _ _ _ hi3 hl4,hl5,hk5⟩,hgr.trans ((HV _ _ _).trans (hg3.trans (HV _ _ _))),λb hb=>?_⟩⟩;have hne:b≠w.heap.size+1:=λe=>sV (e▸hb);exact(uI hne).trans ((hs3 b (.inr (.inr hb))).trans ((uI hne).trans (hs b (.inr (.inr hb)))))
    |ret=>
     obtain⟨hs3,hg3,hi3⟩:=hp;obtain⟨hr,hl4,hl5,hk5⟩:=fin (some .ret) W3 hs3;exact⟨_,_,hr, .inr ⟨rfl, .ret,jH _ _ _ _ hi3 hl4,hl5,hk5⟩⟩
    |exit id=>
     obtain⟨hs3,hg3,hi3⟩:=hp;obtain⟨hr,hl4,hl5,hk5⟩:=fin (some (.exit id)) W3 hs3;exact⟨_,_,hr, .inr ⟨rfl, .exit id,jH _ _ _ _ hi3 hl4,hl5,hk5⟩⟩
    |goto t=>exact hp.elim
    |panic ch=>exact hp.elim
    |outgrown=>exact hp.elim
   |_=>exact hh.elim
  ·rintro e W2 ⟨⟨v,rfl⟩,(⟨V,hi,hl,hk⟩|⟨c,hi,hl,hk⟩)⟩
   ·exact⟨none,_,by have:=run_endLoop (P:=P) hl (by rw[hrec];simp);rw[hrec]at this;exact this,hdone _ _ (qN _ _ _ _ _ hi hl) ((uI A7).trans hk)⟩
   ·exact⟨some c,_,by have:=run_endLoop (P:=P) hl (by rw[hrec];simp);rw[hrec]at this;exact this,hstop c _ (jH _ _ _ _ hi hl) ((uI A7).trans hk)⟩
variable {P:Program} {B:Reg} {w w':World} {L L':List MD} {s s':S} {σs σs':List Env} {σ σ':Env} {Z:Fix} {A A':Reg} {n:Nat}
theorem eC{md:MD}{b:Nat}(h:md.Cs.holds (some b) w):∃arr T fr,w.heap[b]? =some (.cells arr T fr):=by
 cases md with
 |dead=>
  obtain⟨p,len,cap,h1,h2,h3,h4,h5,h6⟩:=h;obtain⟨arr,fr,e1,e2,_⟩:=h6 b rfl;exact⟨_,_,_,e2⟩
 |box b' c T=>obtain⟨h1,h2⟩:=h;cases h1;exact⟨_,_,_,h2⟩
 |own z E v cs=>
  obtain⟨p,len,cap,h1,h2,h3,h4,h5,h6⟩:=h;obtain⟨arr,fr,e1,e2,_⟩:=h6 b rfl;exact⟨_,_,_,e2⟩
theorem GK:∀{L:List MD} {A:Reg},Bg w A (L.map MD.Cs)->∃O:Reg,(∀b,O b-> ¬A b/\b<w.heap.size/\∃arr T fr,w.heap[b]? =some (.cells arr T fr))/\Bg w (λb=>¬O b) (L.map MD.Cs)
 |[],A,_=>⟨λ_=>False,λb h=>h.elim,trivial⟩
 |md::L,A,⟨o,h1,h2,h3⟩=>by
  obtain⟨O,g1,g2⟩:=GK h3;refine⟨λb=>O b\/o=some b,λb hb=>?_,o,h1,λb hb=>⟨λh=>h (.inr hb),(h2 b hb).2⟩,g2.Hp λb hb=>?_⟩
  ·rcases hb with hb|hb
   ·exact⟨λh=>(g1 b hb).1 (.inl h),(g1 b hb).2⟩
   ·subst hb;exact⟨(h2 b rfl).1,(h2 b rfl).2,eC h1⟩
  ·rcases hb with hb|hb
   ·exact λh=>hb (.inl h)
   ·exact λh=>(g1 b h).1 (.inr hb)
theorem Rel.fW(hr:Rel Z s σs A L σ w):Gr Z.w0 w:=(hr.fact 1 (f:= .old Z.M Z.w0) rfl).1
theorem Rel.old(hr:Rel Z s σs A L σ w){b:Nat}(h1:b<Z.w0.heap.size)(h2:¬Z.M b):A b/\w.heap[b]? =Z.w0.heap[b]? :=(hr.fact 1 (f:= .old Z.M Z.w0) rfl).2 b h1 h2
theorem Rel.pH{Z:Fix}(h1:∀b,A b->b<w.heap.size)(h2:MemR (λb=>A b/\Z.R b) w L s σs σ)(h3:Gr Z.w0 w)(h4:∀b,b<Z.w0.heap.size-> ¬Z.M b->A b/\w.heap[b]? =Z.w0.heap[b]?)(h5:Bg w A (L.map MD.Cs)):Rel Z s σs A L σ w:=
by
 refine⟨h1,λf hf=>?_,h5⟩;cases hf with
 |head=>exact h2
 |tail _ hf=>
  cases hf with
  |head=>exact⟨h3,h4⟩
  |tail _ hf=>cases hf
theorem Rel.grow(hr:Rel Z s σs A L σ w)(hk:KeepN (λ_=>True) w w')(h1:∀b,A b->A' b)(h2:∀b,A' b->A b\/ (w.heap.size<=b/\b<w'.heap.size)):Rel Z s σs A' L σ w':=by
 have same:∀b,b<w.heap.size->w'.heap[b]? =w.heap[b]? :=λb hb=>hk.same b hb trivial;refine Rel.pH (λb hb=>?_) (hr.mem.step (λb hb=>⟨h1 b hb.1,hb.2⟩) (λb hb=>same b (St.lt hr b hb.1))) (hr.fW.trans hk.gr) (λb hb hM=>?_) ?_
 ·rcases h2 b hb with h|h
  ·exact tZ (St.lt hr b h) hk.gr.le
  ·exact h.2
 ·obtain⟨g1,g2⟩:=hr.old hb hM;exact⟨h1 b g1,(same b (St.lt hr b g1)).trans g2⟩
 ·exact((St.mobs hr).lt.step hk.gr.le λb hb _=>same b hb).Hp λb hb=>(h2 b hb).imp id And.left
theorem Rel.row(hr:Rel Z s σs A L σ w){l:Nat}{o o':Obj}(hA:¬A l)(hl:w.heap[l]? =some o)(ho:o.isCells=false):Rel Z s σs A L σ (w.putObj l o'):=by
 have hne:∀b,A b->b≠l:=λb hb e=>hA (e▸hb);have hg:=HV w l o';have same:∀b,b≠l-> (w.putObj l o').heap[b]? =w.heap[b]? :=λb hb=>uI hb;refine Rel.pH (λb hb=>tZ (St.lt hr b hb) hg.le) (hr.mem.step (λb hb=>hb) (λb hb=>same b (hne b hb.1))) (hr.fW.trans hg) (λb hb hM=>?_) ?_
 ·obtain⟨g1,g2⟩:=hr.old hb hM;exact⟨g1,(same b (hne b g1)).trans g2⟩
 ·obtain⟨O,g1,g2⟩:=GK (St.mobs hr);refine(g2.step hg.le λb hb hO=>same b λe=>?_).Hp λb hb hO=>(g1 b hO).1 hb;subst e;obtain⟨_,_,arr,T,fr,e⟩:=g1 b (Classical.not_not.1 hO);rw[hl]at e;cases e;cases ho
structure Rows (Z:Fix) (A:Reg) (w:World) (X:Reg):Prop where
 out:∀b,X b-> ¬A b
 new:∀b,X b->Z.w0.heap.size<=b
 row:∀b,X b->∃o,w.heap[b]? =some o/\o.isCells=false
def Fix.sub(Z:Fix)(hr:Rel Z s σs A L σ w)(X:Reg)(hX:Rows Z A w X):Fix where
 R b:=Z.R b/\ ¬X b
 M b:=b<w.heap.size/\ ¬A b/\ ¬X b
 w0:=w
 new b hb:=⟨Z.new b (Nat.le_trans hr.fW.le hb),λh=>by obtain⟨o,ho,_⟩:=hX.row b h;have:=lt_of_heap ho;omega⟩
 mod b hb:=⟨by
  rcases uS b Z.w0.heap.size with h|h
  ·exact Z.mod b (uP λhM=>hb.2.1 (hr.old h hM).1)
  ·exact Z.new b h,hb.2.2⟩
 gl:=Z.gl
 glok p hp:=by
  obtain⟨⟨h1,h2⟩,T,fr,h3⟩:=hr.aI hp;exact⟨⟨h2,λh=>hX.out _ h h1⟩,λh=>h.2.1 h1,lt_of_heap h3,T,fr,h3⟩
theorem PM(hr:Rel Z s σs A L σ w){X:Reg}(hX:Rows Z A w X):Rel (Z.sub hr X hX) s σs (λb=>A b\/X b) L σ w:=by
 refine Rel.pH (λb hb=>?_) (hr.mem.step (λb hb=>⟨.inl hb.1,hb.2,λh=>hX.out b h hb.1⟩) (λ_ _=>rfl)) (.refl _) (λb hb hM=>⟨?_,rfl⟩) ?_
 ·rcases hb with h|h
  ·exact St.lt hr b h
  ·obtain⟨o,ho,_⟩:=hX.row b h;exact lt_of_heap ho
 ·exact uP λh=>hM ⟨hb,λg=>h (.inl g),λg=>h (.inr g)⟩
 ·obtain⟨O,g1,g2⟩:=GK (St.mobs hr);refine g2.Hp λb hb hO=>?_;rcases hb with h|h
  ·exact(g1 b hO).1 h
  ·obtain⟨o,ho,hc⟩:=hX.row b h;obtain⟨_,_,arr,T,fr,e⟩:=g1 b hO;rw[ho]at e;cases e;cases hc
theorem FW(hr:Rel Z s σs A L σ w){X:Reg}(hX:Rows Z A w X){L2:List MD}{A2:Reg}(h:Rel (Z.sub hr X hX) s' σs' A2 L2 σ' w'):
  Rel Z s' σs' (λb=>A2 b/\ ¬X b) L2 σ' w'/\ (∀b,A b->A2 b/\ ¬X b)/\ (∀b,(X b\/A b)->w'.heap[b]? =w.heap[b]?)/\Gr w w':=by
 have hold:∀b,(X b\/A b)->A2 b/\w'.heap[b]? =w.heap[b]? :=λb hb=>by
  have hlt:b<w.heap.size:=by
   rcases hb with h|h
   ·obtain⟨o,ho,_⟩:=hX.row b h;exact lt_of_heap ho
   ·exact St.lt hr b h
  exact h.old (Z:=Z.sub hr X hX) hlt λhM=>hb.elim hM.2.2 hM.2.1
 have hg:Gr w w':=h.fW (Z:=Z.sub hr X hX);refine⟨Rel.pH (λb hb=>St.lt h b hb.1) (h.mem.step (λb hb=>⟨⟨hb.1,hb.2.2⟩,hb.2.1⟩) (λ_ _=>rfl)) (hr.fW.trans hg) (λb hb hM=>?_) ((St.mobs h).Hp λb hb=>hb.1),
  λb hb=>⟨(hold b (.inr hb)).1,λhx=>hX.out b hx hb⟩,λb hb=>(hold b hb).2,hg⟩
 obtain⟨g1,g2⟩:=hr.old hb hM;obtain⟨g3,g4⟩:=hold b (.inr g1);exact⟨⟨g3,λhx=>by have:=hX.new b hx;omega⟩,g4.trans g2⟩
def CB:PV->Bool
 | .val _ _=>true
 | .agg l=>go l
 |_=>false
where go:List PV->Bool
 |[]=>true
 |a::r=>CB a&&go r
mutual
theorem TE:∀{p:PV} {cs:List Value},CB p=true->Aj B w L p cs->Aj B w L' p cs
 | .val e x,cs,_,h=>h
 | .agg l,cs,hv,h=>MU hv (show Aj.go B w L l cs from h)
 | .tup _,_,hv,_=>by cases hv
 | .nils,_,hv,_=>by cases hv
 | .own _,_,hv,_=>by cases hv
 | .ptr _ _,_,hv,_=>by cases hv
 | .view _ _ _ _ _ _,_,hv,_=>by cases hv
 | .rptr _,_,hv,_=>by cases hv
 | .fn _ _,_,hv,_=>by cases hv
 | .cap _ _ _,_,hv,_=>by cases hv
 | .mp _ _,_,hv,_=>by cases hv
 | .bfn _ _,_,hv,_=>by cases hv
 | .cst _,_,hv,_=>by cases hv
 | .any,_,hv,_=>by cases hv
 | .gd _ _ _,_,hv,_=>by cases hv
 | .off,_,hv,_=>by cases hv
 | .undef,_,hv,_=>by cases hv
theorem MU:∀{l:List PV} {cs:List Value},CB.go l=true->Aj.go B w L l cs->Aj.go B w L' l cs
 |[],cs,_,h=>h
 |a::l,cs,hv,⟨c1,c2,e,h1,h2⟩=>by
  simp only[CB.go,tK]at hv;exact⟨c1,c2,e,TE hv.1 h1,MU hv.2 h2⟩
end
theorem aQ(hr:Rel Z s σs A L σ w){i:Nat}{T:TypeId}{v:PV}(hi:Bd s.it i= .box T v)(hv:CB v=true):
  ∃b cells A',L[i]? =some (.box b cells T)/\Rel Z ((s.Fy i .dead).sub i .any) σs A' (L.set i .dead) σ w/\A' b/\Z.R b/\w.heap[b]? =some (.cells cells.toArray T (0,0))/\Aj (λb=>A' b/\Z.R b) w [] v cells:=by
 have hm:=hr.mem;obtain⟨b,cells,h1,h2⟩:=hm.box hi;obtain⟨o,ho,h3,h4⟩:=(St.front hr (hr.Cs h1)).mobs;obtain⟨rfl,hb⟩:=ho;have hR:Z.R b:=by
  rcases uS b Z.w0.heap.size with hlt|hge
  ·exact Z.mod b (uP λhM=>(h3 b rfl).1 (hr.old hlt hM).1)
  ·exact Z.new b hge
 have hs:St (λk=>A k\/some b=some k) w [GH Z.R L s σs σ, .old Z.M Z.w0] ((L.map MD.Cs).eraseIdx i):=by
  refine⟨λk hk=>hk.elim (St.lt hr k) λe=>(h3 k e).2,λf hf=>f.step (St.facts hr f hf) (λ_ h=> .inl h) (λ_ _=>rfl) (.refl _),h4⟩
 have hs2:=Bg.Ui (hs.PT 1 0) (Nx (m':=MD.dead.Cs) (hr.Cs h1));have hm2:MemR (λk=>(A k\/some b=some k)/\Z.R k) w L s σs σ:=hs2.fact 0 rfl;have hf:Frz (λk=>(A k\/some b=some k)/\Z.R k) w L i .any:=⟨(λz E' v' c' h=>by rw[h1]at h;cases h),rfl,rfl⟩;refine⟨b,cells,λk=>A k\/some b=some k,h1,Rel.as hs2 (i:=1) rfl (hm2.subst hf) (by rw[vM]), .inr rfl,hR,hb,TE hv (Aj.step (λb hb=>⟨.inl hb.1,hb.2⟩) (λ_ _=>rfl) (.refl L) h2)⟩
structure ItC where
 T:TypeId
 e:ET
 F:PV->Option (List e.T)
structure ItOk (P:Program) (gl:List (Nat×List Value)) (gf:Nat) (c:ItC):Prop where
 ent:Ent P gf
 ok:∀(m:Nat) (B:Reg) (w:World) (b:Nat) (v:PV) (cells:List Value) (xs:List c.e.T),(∀k,B k->k<w.heap.size)->B b->w.heap[b]? =some (.cells cells.toArray c.T (0,0))->Aj B w [] v cells->GlOk gl B w->c.F v=some xs->
  pW P m gf #[.pointer (some ⟨b,0,none⟩)] xs.length (λi V W v=>∀x,xs[i]? =some x->Cz V W [] (.val c.e x) v) B w
def XY:Code->Bool
 | .rangeFunc _ _ _ _=>false
 | .seq a b=>XY a&&XY b
 | .cond _ a b=>XY a&&XY b
 | .block _ a=>XY a
 | .loop a=>XY a
 | .scope a=>XY a
 |_=>true
def nM{R α:Type}(an:An)(body:(S->Option R)->α->S->Option R)(kn:S->Option R):List α->S->Option R
 |[],s=>kn s
 |x::xs,s=>body (Qc an (nM an body kn xs)) x s
def YG{R:Type}(k:S->Option R)(s:S):Option R:=match s.st with|sl::st=>k ⟨sl,s.it,st⟩|[]=>none
def Ah:List (Nat×ItC)->Nat->Option ItC|[],_=>none|(g,c)::r,f=>Be (Nat.beq g f) (some c)<|Ah r f
noncomputable def Yu{R:Type}(P:Program)(T:Tab)(inl:GD R)(n:Nat)(p:Nat)(assign body:Code)(an:An)(k:K R)(e:ET)(kn:S->Option R)(x:e.T)(s:S):Option R:=
 ex P T inl n assign an.r {n:=λs2=>ex P T inl n body an.l ⟨YG kn,λid=>YG (k.x id),YG k.r⟩ s2,x:=λ_ _=>none,r:=λ_=>none} ⟨eM s.sl p (.val e x),s.it,s.sl::s.st⟩
noncomputable def kA{R:Type}(P:Program)(T:Tab)(inl:GD R)(n:Nat)(its:List (Nat×ItC))(g:Operand)(ps:Array Tmp)(assign body:Code)(an:An)(k:K R)(s:S):Option R:=
 match Bo s.sl g with
 | .fn gf caps=>match caps with
  |[.ptr i []]=>match ps.toList with
   |[p]=>match Bd s.it i with
    | .box T' v=>match Ah its gf with
     |some c=>Be (Nat.beq T' c.T&&CB v&&Nat.blt p n) (Option.bind (c.F v) λxs=>Qc an (nM an (Yu P T inl n p assign body an k c.e) k.n xs) ((s.Fy i .dead).sub i .any)) none
     |none=>none
    |_=>none
   |_=>none
  |_=>none
 |_=>none
noncomputable def kP{R:Type}(P:Program)(T:Tab)(inl:GD R)(n:Nat)(its:List (Nat×ItC)):Code->An->K R->S->Option R
 | .seq a b,an,k,s=>match XY a with
  |true=>ex P T inl n a an.l {k with n:=QQ an λs'=>kP P T inl n its b an.r k s'} s
  |false=>kP P T inl n its a an.l {k with n:=QQ an λs'=>ex P T inl n b an.r k s'} s
 | .block id a,an,k,s=>kP P T inl n its a an.l {k with x:=λid' s'=>Be (Nat.beq id' id) (k.n s')<|k.x id' s'} s
 | .rangeFunc g ps assign body,an,k,s=>kA P T inl n its g ps assign body an k s
 |c,an,k,s=>ex P T inl n c an k s
def mark(D:Nat):Deferred:={target:= .collected D,args:= #[]}
def eR:Option Nat->List Deferred|none=>[]|some D=>[mark D]
def W2(P:Program)(n:Nat)(c:Code)(Q:Exit->Env->World->Option Nat->Prop)(σ:Env)(w:World):Prop:=
 ∀(m:Nat) (a:Act),Fits [] n a σ->c.wpIn (wr none) m P (λe a' w'=>∃σ' D,Fits (eR D) n a' σ'/\Q e σ' w' D) a w
variable {R:Type} {r:R} {T:Tab} {inl:GD R}
def mJ(Z:Fix)(σs:List Env)(k:K R)(r:R)(e:Exit)(σ':Env)(w':World)(D:Option Nat):Prop:=
 ∃s' A' L',pZ k e s'=some r/\Rel Z s' σs A' L' σ' w'/\∀d,D=some d->w'.heap[d]? =some (.deferred (some []))/\ ¬A' d/\Z.w0.heap.size<=d
def kx(k:K R):Code->S->Option R| .ret=>k.r| .exit id=>k.x id|_=>λ_=>none
theorem XU{f:Nat}{c:ItC}:∀{its:List (Nat×ItC)},Ah its f=some c-> (f,c)∈its
 |[],h=>by simp[Ah]at h
 |(g,a)::its,h=>by
  simp only[Ah]at h;cases hb:Nat.beq g f with
  |true=>have:=Bc hb;subst this;rw[hb]at h;cases h;exact .head _
  |false=>rw[hb]at h;exact .tail _ (XU h)
theorem OM{k:S->Option R}(h:Qc an k s=some r):∃lv co s',s.cn lv co=some s'/\k s'=some r:=by
 unfold Qc at h;split at h
 ·split at h
  ·rename_i s2 hs2;exact⟨_,_,s2,hs2,h⟩
  ·cases h
 ·cases h
theorem gJ{its:List (Nat×ItC)}{k:K R}(h:kA P T inl n its g ps assign body an k s=some r):
  ∃gf i p v c xs,Bo s.sl g= .fn gf [.ptr i []]/\ps.toList=[p]/\Bd s.it i= .box c.T v/\Ah its gf=some c/\CB v=true/\Nat.blt p n=true/\c.F v=some xs/\
   Qc an (nM an (Yu P T inl n p assign body an k c.e) k.n xs) ((s.Fy i .dead).sub i .any)=some r:=by
 unfold kA at h;split at h
 ·rename_i gf caps hg;split at h
  ·rename_i i;split at h
   ·rename_i p hps;split at h
    ·rename_i T' v hi;split at h
     ·rename_i c hc;obtain⟨hcond,h'⟩:=Ae h;simp only[tK]at hcond;obtain⟨⟨hT',hpl⟩,hpn⟩:=hcond;obtain⟨xs,hF,h2⟩:=Go.Lv.bind_some h';exact⟨gf,i,p,v,c,xs,hg,hps,by rw[hi,Bc hT'],hc,hpl,hpn,hF,h2⟩
     ·cases h
    ·cases h
   ·cases h
  ·cases h
 ·cases h
theorem jR(Pe:P.follows .mixedOrders=true)(hT:Vp P T Z)(hI:Ir P T.gl inl){its:List (Nat×ItC)}(hits:∀p∈its,ItOk P T.gl p.1 p.2){k:K R}
  (h:kA P T inl n its g ps assign body an k s=some r) (hr:Rel Z s σs A L σ w):W2 P n (.rangeFunc g ps assign body) (mJ Z σs k r) σ w:=by
 intro m a ha;obtain⟨gf,i,p,v,c,xs,hg,hps,hi,hc,hpl,hpn,hF,hrun⟩:=gJ h;clear h;have hit:=hits _ (XU hc);have hg1:=cC (by rw[<-hg];exact Et hr.mem.sl g (by rw[hg];rfl));obtain⟨us,hgv,v0,_,rfl,hp0,rfl⟩:=hg1;obtain⟨b,cells,A1,sW,hr1,hA1b,hRb,hcell,henc⟩:=aQ hr hi hpl;have hv0:v0= .pointer (some ⟨b,0,none⟩):=by
  obtain⟨md,b',e1,e2,e3⟩:=(show Aj (λb=>A b/\Z.R b) w L (.ptr i []) [v0]from hp0);rw[sW]at e1;cases e1;cases e2;simpa [Ad]using e3
 subst hv0;have hB1:∀k,(A1 k/\Z.R k)->k<w.heap.size:=λk hk=>St.lt hr1 k hk.1;have hseq:=hit.ok (m-1) (λk=>A1 k/\Z.R k) w b v cells xs hB1 ⟨hA1b,hRb⟩ hcell henc
  (λq hq=>by rw[<-hT.2]at hq;obtain⟨g1,T1,fr,g2⟩:=hr1.aI hq;exact⟨lt_of_heap g2,g1,T1,fr,g2⟩) hF
 have hps':ps= #[p]:=by rw[<-Array.toArray_toList (xs:=ps),hps]
 subst hps';have hrow2:∀(A:Reg) (W:World) (o o':Obj),¬A w.heap.size-> ¬A (w.heap.size+1)->W.heap[w.heap.size]? =some o->o.isCells=false->W.heap[w.heap.size+1]? =some o'->o'.isCells=false->Rows Z A W (λk=>k=w.heap.size\/k=w.heap.size+1):=λA W o o' h1 h2 h3 h4 h5 h6=>
  ⟨λk hk=>by rcases hk with rfl|rfl<;>assumption,λk hk=>by have:=hr.fW.le;rcases hk with rfl|rfl<;>omega,λk hk=>by rcases hk with rfl|rfl<;>exact⟨_,by assumption,by assumption⟩⟩
 refine kB (gf:=gf) (lb:= #[.pointer (some ⟨b,0,none⟩)]) (by rw[ha.eval];exact hgv) hit.ent hseq rfl
  (λi V W=>∃s A L,Qc an (nM an (Yu P T inl n p assign body an k c.e) k.n (xs.drop i)) s=some r/\Rel Z s σs A L σ W/\ (∀b,V b->A b/\Z.R b)/\ ¬A w.heap.size/\ ¬A (w.heap.size+1))
  (λc W=>∃s A L,kx k c s=some r/\Rel Z s σs A L σ W/\ ¬A w.heap.size/\ ¬A (w.heap.size+1))
  ?hI ?hIx ?qN ?jH ?hV ?h0 ?bO ?hdone ?hstop
 case hI=>
  rintro i V X Y ⟨s',A',L',h1,h2,h3,h4,h5⟩ hX hk;refine⟨s',λb=>A' b\/ (X.heap.size<=b/\b<Y.heap.size),L',h1,h2.grow hk (λ_ h=> .inl h) (λ_ h=>h),λb hb=>?_,?_,?_⟩
  ·rcases hb with h|h
   ·exact⟨.inl (h3 b h).1,(h3 b h).2⟩
   ·exact⟨.inr h,Z.new b (Nat.le_trans h2.fW.le h.1)⟩
  ·rintro(h|h)
   ·exact h4 h
   ·omega
  ·rintro(h|h)
   ·exact h5 h
   ·omega
 case hIx=>
  rintro c X Y ⟨s',A',L',h1,h2,h3,h4⟩ hk;exact⟨s',A',L',h1,h2.grow hk (λ_ h=>h) (λ_ h=> .inl h),h3,h4⟩
 case qN=>
  rintro i V X rr rr' ⟨s',A',L',h1,h2,h3,h4,h5⟩ hX;exact⟨s',A',L',h1,h2.row h5 hX rfl,h3,h4,h5⟩
 case jH=>
  rintro c X rr rr' ⟨s',A',L',h1,h2,h3,h4⟩ hX;exact⟨s',A',L',h1,h2.row h4 hX rfl,h3,h4⟩
 case hV=>
  rintro i V W ⟨s',A',L',h1,h2,h3,h4,h5⟩ hV;exact h5 (h3 _ hV).1
 case h0=>
  intro W hk;refine⟨_,A1,_,hrun,hr1.grow hk (λ_ h=>h) (λ_ h=> .inl h),λb hb=>hb,λh=>?_,λh=>?_⟩
  ·have:=St.lt hr1 _ h;omega
  ·have:=St.lt hr1 _ h;omega
 case hdone=>
  rintro V W ⟨s',A',L',h1,h2,h3,h4,h5⟩ hD;rw[List.drop_length]at h1;obtain⟨lv,co,s2,hcn,h1⟩:=OM h1;have hX:Rows Z A' W (λk=>k=w.heap.size):=⟨λk hk=>by subst hk;exact h4,λk hk=>by subst hk;exact hr.fW.le,λk hk=>by subst hk;exact⟨_,hD,rfl⟩⟩;obtain⟨A2,L2,hr2⟩:=IM (PM h2 hX) hcn;obtain⟨g1,g2,g3,g4⟩:=FW h2 hX hr2;exact⟨σ,some w.heap.size,⟨ha.size,by simp[eR,mark,ha.defers],ha.get⟩,s2,_,L2,h1,g1,λd hd=>by cases hd;exact⟨hD,λh=>h.2 rfl,hr.fW.le⟩⟩
 case hstop=>
  rintro c W ⟨s',A',L',h1,h2,h3,h4⟩ hD;have key:∀e,pZ k e s'=some r->∃σ' D,Fits (eR D) n {a with defers:={target:= .collected w.heap.size,args:= #[]}::a.defers} σ'/\mJ Z σs k r e σ' W D:=λe he=>
   ⟨σ,some w.heap.size,⟨ha.size,by simp[eR,mark,ha.defers],ha.get⟩,s',A',L',he,h2,λd hd=>by cases hd;exact⟨hD,h3,hr.fW.le⟩⟩
  cases c<;>first
   |exact wpIn_ret (key .ret h1)
   |exact wpIn_exit (key (.exit _) h1)
   |cases h1
 case bO=>
  rintro i V W v rr hi ⟨s',A',L',h1,h2,h3,h4,h5⟩ hE hl hD;have hX:=hrow2 A' W _ _ h4 h5 hD rfl hl rfl;have hin:=PM h2 hX;obtain⟨lv,co,s2,hcn,h1⟩:=OM h1;obtain⟨A2,L2,hr2⟩:=IM hin hcn;obtain⟨x,hx⟩:∃x,xs[i]? =some x:=⟨_,List.getElem?_eq_getElem hi⟩;have hdrop:xs.drop i=x::xs.drop (i+1):=by rw[List.drop_eq_getElem_cons hi];congr 1;rw[List.getElem?_eq_getElem hi]at hx;exact Option.some.inj hx
  rw[hdrop]at h1;have h1':Yu P T inl n p assign body an k c.e (Qc an (nM an (Yu P T inl n p assign body an k c.e) k.n (xs.drop (i+1)))) x s2=some r:=h1;unfold Yu at h1';have hlt:=lt_of_heap hl;have hA2:∀b,A' b->A2 b:=λb hb=>(hr2.old (Z:=Z.sub h2 _ hX) (St.lt h2 b hb) (λhM=>hM.2.1 hb)).1;have hval:Br (λb=>A2 b/\ (Z.sub h2 _ hX).R b) W L2 (.val c.e x) v:=by
   refine(Df (Cz.step (B:=V) (w:=W) (L:=[]) (λb hb=>⟨hA2 b (h3 b hb).1,(h3 b hb).2,λh=>?_⟩) (λb hb=>rfl) (by have:=Vo.append [] L2;rwa [vC]at this) (hE x hx))).2;rcases h with rfl|rfl
   ·exact h4 (h3 _ hb).1
   ·exact h5 (h3 _ hb).1
  have hr3:Rel (Z.sub h2 _ hX) ⟨eM s2.sl p (.val c.e x),s2.it,s2.sl::s2.st⟩ (σ::σs) A2 L2 (Fy σ p v) W:=
   Rel.as hr2 (i:=1) rfl ⟨hr2.mem.it,hr2.mem.sl.set (Cr.put rfl hval),hr2.mem.sl,hr2.mem.stk⟩ rfl
  have hfit:Fits [] n ({tmps:=((#[p]:Array Tmp).zip #[v]).foldl (λt (p,v)=>t.setIfInBounds p v) a.tmps,defers:=[]}:Act) (Fy σ p v):=by
   have hp:=ha.put hpn v;exact⟨by simpa [Act.put]using hp.size,rfl,by simpa [Act.put]using hp.get⟩
  refine uM (IV (Z:=Z.sub h2 _ hX) Pe ⟨hT.1,hT.2⟩ hI assign h1' hr3 (some (w.heap.size+1)) (m-1-1) [] _ hfit) ?_;rintro e a2 W2 ⟨σ2,hf2,s3,A3,L3,hk3,hr3'⟩;cases e with
  |normal=>
   have hk3':ex P T inl n body an.l ⟨YG (Qc an (nM an (Yu P T inl n p assign body an k c.e) k.n (xs.drop (i+1)))),λid=>YG (k.x id),YG k.r⟩ s3=some r:=hk3;obtain⟨g1,g2,g3,g4⟩:=FW h2 hX hr3';refine⟨λb hb=>g3 b (by rcases hb with h|h|h;exact .inl (.inl h);exact .inl (.inr h);exact .inr (h3 b h).1),g4,λr'=>?_⟩;have hl2:W2.heap[w.heap.size+1]? =some (.loop rr):=(g3 _ (.inl (.inr rfl))).trans hl;have hD2:W2.heap[w.heap.size]? =some (.deferred (some [])):=(g3 _ (.inl (.inl rfl))).trans hD;have hnl:¬(A3 (w.heap.size+1)/\ ¬(w.heap.size+1=w.heap.size\/w.heap.size+1=w.heap.size+1)):=λh=>h.2 (.inr rfl);have hnD:¬(A3 w.heap.size/\ ¬(w.heap.size=w.heap.size\/w.heap.size=w.heap.size+1)):=λh=>h.2 (.inl rfl);have hr4:=Rel.row (o':= .loop r') g1 hnl hl2 rfl;have hl3:(W2.putObj (w.heap.size+1) (.loop r')).heap[w.heap.size+1]? =some (.loop r'):=World.putObj_heap_same (lt_of_heap hl2);have hD3:(W2.putObj (w.heap.size+1) (.loop r')).heap[w.heap.size]? =some (.deferred (some [])):=(uI A7).trans hD2;have qK:=hrow2 (λb=>A3 b/\ ¬(b=w.heap.size\/b=w.heap.size+1)) _ _ _ hnD hnl hD3 rfl hl3 rfl;refine uM (IV (Z:=Z.sub hr4 _ qK) Pe ⟨hT.1,hT.2⟩ hI body hk3' (PM hr4 qK) (some (w.heap.size+1)) (m-1-1) [] a2 hf2) ?_;rintro e a5 W5 ⟨σ5,tJ,s5,A5,L5,hk5,qO⟩;have pop:∀(kk:S->Option R),YG kk s5=some r->∃s6 A6,kk s6=some r/\Rel Z s6 σs A6 L5 σ W5/\ (∀b,A3 b/\ ¬(b=w.heap.size\/b=w.heap.size+1)->A6 b)/\ ¬A6 w.heap.size/\ ¬A6 (w.heap.size+1):=by
    intro kk hkk;unfold YG at hkk;split at hkk
    ·rename_i sl st hst;have bN:=qO.mem.stk;rw[hst]at bN;have sX:Rel (Z.sub hr4 _ qK) ⟨sl,s5.it,st⟩ σs A5 L5 σ W5:=Rel.as qO (i:=1) rfl ⟨qO.mem.it,bN.1,bN.2⟩ rfl;obtain⟨q1,q2,q3,q4⟩:=FW hr4 qK sX;exact⟨_,_,hkk,q1,q2,λh=>h.2 (.inl rfl),λh=>h.2 (.inr rfl)⟩
    ·cases hkk
   obtain⟨_,_,q3,q4⟩:=FW hr4 qK qO;cases e with
   |normal=>
    obtain⟨s6,A6,p1,p2,p3,p4,p5⟩:=pop _ hk5;refine⟨λb hb=>q3 b ?_,q4,s6,A6,L5,p1,p2,λb hb=>⟨p3 b (g2 b (h3 b hb).1),(h3 b hb).2⟩,p4,p5⟩;rcases hb with h|h|h
    ·exact .inl (.inl h)
    ·exact .inl (.inr h)
    ·exact .inr (g2 b (h3 b h).1)
   |ret=>
    obtain⟨s6,A6,p1,p2,p3,p4,p5⟩:=pop _ hk5;exact⟨λb hb=>q3 b (.inl hb),q4,s6,A6,L5,p1,p2,p4,p5⟩
   |exit id=>
    obtain⟨s6,A6,p1,p2,p3,p4,p5⟩:=pop _ hk5;exact⟨λb hb=>q3 b (.inl hb),q4,s6,A6,L5,p1,p2,p4,p5⟩
   |goto t=>cases hk5
   |panic ch=>cases hk5
   |outgrown=>cases hk5
  |ret=>cases hk3
  |exit id=>cases hk3
  |goto t=>cases hk3
  |panic ch=>cases hk3
  |outgrown=>cases hk3
theorem mJ.exit{e:Exit}{k k':K R}{σ':Env}{w':World}{D:Option Nat}(h:mJ Z σs k r e σ' w' D)(he:∀s,pZ k e s=some r->pZ k' e s=some r):mJ Z σs k' r e σ' w' D:=by
 obtain⟨s',A',L',h1,h2⟩:=h;exact⟨s',A',L',he _ h1,h2⟩
theorem nE(Pe:P.follows .mixedOrders=true)(hT:Vp P T Z)(hI:Ir P T.gl inl){its:List (Nat×ItC)}(hits:∀p∈its,ItOk P T.gl p.1 p.2):∀(c:Code) {an:An} {k:K R} {s:S} {A:Reg} {L:List MD} {σ:Env} {w:World},
  kP P T inl n its c an k s=some r->Rel Z s σs A L σ w->W2 P n c (mJ Z σs k r) σ w:=by
 have dflt:∀(c:Code) {an:An} {k:K R} {s:S} {A:Reg} {L:List MD} {σ:Env} {w:World},ex P T inl n c an k s=some r->Rel Z s σs A L σ w->W2 P n c (mJ Z σs k r) σ w:=by
  intro c an k s A L σ w h hr m a ha;refine uM (IV Pe hT hI c h hr none m [] a ha) ?_;rintro e a' w' ⟨σ',hf,s',A',L',h1,h2⟩;exact⟨σ',none,hf,s',A',L',h1,h2,λd hd=>by cases hd⟩
 intro c
 induction c with
 |seq a b iha ihb=>
  intro an k s A L σ w h hr m act ha;simp only[kP]at h;split at h
  ·refine wpIn_seq (uM (IV Pe hT hI a h hr none m [] act ha) ?_);rintro e a' w' ⟨σ',hf,s',A',L',h1,hr'⟩;cases e with
   |normal=>
    have h2:QQ an (λs'=>kP P T inl n its b an.r k s') s'=some r:=h1;unfold QQ at h2;split at h2
    ·split at h2
     ·rename_i s2 hs2;obtain⟨A2,L2,hr2⟩:=IM hr' hs2;exact ihb h2 hr2 m a' hf
     ·cases h2
    ·exact ihb h2 hr' m a' hf
   |_=>exact⟨σ',none,hf,s',A',L',h1,hr',λd hd=>by cases hd⟩
  ·refine wpIn_seq (uM (iha h hr m act ha) ?_);rintro e a' w' ⟨σ',D,hf,s',A',L',h1,hr',hD⟩;cases e with
   |normal=>
    have h2:QQ an (λs'=>ex P T inl n b an.r k s') s'=some r:=h1;have hX:Rows Z A' w' (λk=>D=some k):=⟨λk hk=>(hD k hk).2.1,λk hk=>(hD k hk).2.2,λk hk=>⟨_,(hD k hk).1,rfl⟩⟩;have fin:∀{s2:S} {A2:Reg} {L2:List MD},ex P T inl n b an.r k s2=some r->Rel (Z.sub hr' _ hX) s2 σs A2 L2 σ' w'->b.wpIn (wr none) m P (λe a' w'=>∃σ' D,Fits (eR D) n a' σ'/\mJ Z σs k r e σ' w' D) a' w':=by
     intro s2 A2 L2 h3 hr2;refine uM (IV (Z:=Z.sub hr' _ hX) Pe ⟨hT.1,hT.2⟩ hI b h3 hr2 none m (eR D) a' hf) ?_;rintro e a'' w'' ⟨σ'',hf',s3,A3,L3,h4,hr3⟩;obtain⟨g1,g2,g3,g4⟩:=FW hr' hX hr3;exact⟨σ'',D,hf',s3,_,L3,h4,g1,λd hd=>⟨(g3 d (.inl hd)).trans (hD d hd).1,λh=>h.2 hd,(hD d hd).2.2⟩⟩
    unfold QQ at h2;split at h2
    ·split at h2
     ·rename_i s2 hs2;obtain⟨A2,L2,hr2⟩:=IM (PM hr' hX) hs2;exact fin h2 hr2
     ·cases h2
    ·exact fin h2 (PM hr' hX)
   |_=>exact⟨σ',D,hf,s',A',L',h1,hr',hD⟩
 |block id a iha=>
  intro an k s A L σ w h hr m act ha;refine wpIn_block (uM (iha (an:=an.l) (k:={k with x:=λid' s'=>Be (Nat.beq id' id) (k.n s')<|k.x id' s'}) h hr m act ha) ?_);rintro e a' w' ⟨σ',D,hf,hq⟩;cases e with
  |exit id'=>
   simp only[Exit.inBlock];obtain⟨s',A',L',h1,hr'⟩:=hq;have h2:(Be (Nat.beq id' id) (k.n s')<|k.x id' s')=some r:=h1;by_cases hid:id'=id
   ·rw[uG hid];subst hid;simp at h2;exact⟨σ',D,hf,s',A',L',h2,hr'⟩
   ·rw[uF hid];have hb:Nat.beq id' id=false:=by
     cases hb:Nat.beq id' id with
     |false=>rfl
     |true=>exact absurd (Bc hb) hid
    rw[hb]at h2;exact⟨σ',D,hf,s',A',L',h2,hr'⟩
  |_=>exact⟨σ',D,hf,hq⟩
 |rangeFunc g ps assign body _ _=>intro an k s A L σ w h hr;exact jR Pe hT hI hits h hr
 |_=>intro an k s A L σ w h hr;exact dflt _ (by simpa only[kP]using h) hr
theorem NX{vs:List Value}(hle:Nat.ble vs.length fn.ntmps=true):Fits [] fn.ntmps {tmps:=vs.toArray++Array.replicate (fn.ntmps-vs.toArray.size) undef,defers:=[]} (AF vs):=by
 have hle':vs.length<=fn.ntmps:=by simpa using hle
 refine⟨by simp;omega,rfl,λt=>?_⟩;simp only[AF,Array.getD_eq_getD_getElem?,List.getD_eq_getElem?_getD,Array.getElem?_append,uD,List.getElem?_toArray];by_cases ht:t<vs.length
 ·simp[ht]
 ·rw[uF ht,List.getElem?_eq_none A7];by_cases h2:t-vs.length<fn.ntmps-vs.length
  ·simp[Array.getElem?_replicate,h2]
  ·simp[Array.getElem?_replicate,h2]
noncomputable def lA(P:Program)(T:Tab)(ans:List (Nat×An))(its:List (Nat×ItC))(f:Func)(an:An)(ps rs:List Sh)(x:Jd (Fm ps)):Option (Jd (Fm rs)):=
 match f.body,args ps x with
 |some c,some vs=>kP P T (Ka P T 8 ans) f.ntmps its c an {n:=Zu P rs f.results.toList,x:=λ_ _=>none,r:=Zu P rs f.results.toList} ⟨Hk 0 vs,WN ps x,[]⟩
 |_,_=>none
theorem XW(Pe:P.follows .mixedOrders=true){f:Nat}{ans:List (Nat×An)}{its:List (Nat×ItC)}{ps rs:List Sh}{F:Jd (Fm ps)->Option (Jd (Fm rs))}(hf:P.funcs[f]? =some fn)(hE:Ent P f)(hT:Jt P T)(hA:∀p∈ans,Ent P p.1)
  (hits:∀p∈its,ItOk P T.gl p.1 p.2) (hle:Nat.ble ps.length fn.ntmps=true) (h:∀x,lA P T ans its fn an ps rs x=F x):ConOk P T.gl f ⟨ps,rs,F⟩:=by
 cases hc:fn.body with
 |none=>
  refine Ma (RUN:=λ_=>none) (fn:=fn) hE (λx y pvs hx hy=>?_) (λ_ _ _ _ _ _ _ _ _ _ _ h=>by cases h);rw[<-h x]at hy;unfold lA at hy;rw[hc]at hy;exact hy
 |some c=>
  refine Ma (T:=T) (fn:=fn) (RUN:=kP P T (Ka P T 8 ans) fn.ntmps its c an {n:=Zu P rs fn.results.toList,x:=λ_ _=>none,r:=Zu P rs fn.results.toList}) hE (λx y pvs hx hy=>?_) ?_
  ·rw[<-h x]at hy;unfold lA at hy;rw[hc,hx]at hy;exact hy
  ·intro Z A L w s y vs Q hZ hr hl hy fin;refine(callsIn_wide (n:=4)).1 (callsIn_of_wp_marks hf hc trivial (uM (nE Pe ⟨hT,hZ⟩ (EI Pe hT hA 8) hits c hy hr 4 _ (NX (by rw[hl];exact hle))) ?_) rfl);rintro e a' w' ⟨σ',D,hf',s',A',L',h1,hr',hD⟩;have key:Zu P rs fn.results.toList s'=some y->LeavesInM (wr none) 4 P fn a'.tmps Q a'.defers .returning w':=by
    intro h1;rw[hf'.defers];cases D with
    |none=>
     obtain⟨us,h2,h3⟩:=fin s' A' L' σ' w' h1 hr';exact⟨_,Pg A9 hf' h2,h3⟩
    |some d=>
     obtain⟨g1,g2,g3⟩:=hD d rfl;obtain⟨us,h2,h3⟩:=fin s' A' L' σ' _ h1 (hr'.row (o':= .deferred none) g2 g1 rfl);exact⟨A9, .inl ⟨d,_,rfl,run_takeDeferred g1,_,Pg A9 hf' h2,h3⟩⟩
   cases e with
   |normal=>exact key h1
   |ret=>exact key h1
   |exit id=>cases h1
   |goto l=>cases h1
   |panic c=>cases h1
   |outgrown=>cases h1
end Go.Rx
namespace Go.Rx
open Go Go.Lv Go.RowKit
variable{a:Act}{ops:Array Oper}{o:Oper}{v:Value}
variable {P:Program} {B:Reg} {w w':World} {L L':List MD} {s s':S} {σs σs':List Env} {σ σ':Env} {Z:Fix} {A A':Reg} {n:Nat}
variable {R:Type} {r:R} {T:Tab}
def CS:Exit->Option Nat| .normal=>some 0| .exit id=>some (id+2)| .ret=>some 1|_=>none
structure MemI (gl:List (Nat×List Value)) (V:Reg) (w:World) (s:S) (σ:Env):Prop where
 lt:∀b,V b->b<w.heap.size
 it:s.it=[]
 st:s.st=[]
 sl:Cf V w [] σ s.sl
 gl:GlOk gl V w
theorem GlOk.keep{gl:List (Nat×List Value)}{V V':Reg}(h:GlOk gl V w)(hV:∀b,V b->V' b)(hs:Same V w w')(hg:Gr w w'):GlOk gl V' w':=λp hp=>
 let⟨h1,h2,T,fr,h3⟩:=h p hp
 ⟨tZ h1 hg.le,hV _ h2,T,fr,(hs _ h2).trans h3⟩
theorem MemI.keep{gl:List (Nat×List Value)}{V V':Reg}(h:MemI gl V w s σ)(hV:∀b,V b->V' b)(hl:∀b,V' b->b<w'.heap.size)(hs:Same V w w')(hg:Gr w w'):MemI gl V' w' s σ:=
 ⟨hl,h.it,h.st,h.sl.step hV hs (.refl []),h.gl.keep hV hs hg⟩
theorem MemI.XL{gl:List (Nat×List Value)}{V:Reg}(h:MemI gl V w s σ){sl:Slots}(hs:∀p∈sl,p∈s.sl):MemI gl V w ⟨sl,[],[]⟩ σ:=
 ⟨h.lt,rfl,rfl,λp hp=>h.sl p (hs p hp),h.gl⟩
def eB(gl:List (Nat×List Value))(V:Reg)(w:World)(h:GlOk gl V w):Fix where
 R b:=V b\/w.heap.size<=b
 M _:=False
 w0:=w
 new _ hb:= .inr hb
 mod _ h:=h.elim
 gl:=gl
 glok p hp:=let⟨h1,h2,h3⟩:=h p hp;⟨.inl h2,id,h1,h3⟩
theorem MemI.rel{gl:List (Nat×List Value)}{V:Reg}(h:MemI gl V w s σ):Rel (eB gl V w h.gl) s [] (λb=>b<w.heap.size) [] σ w:=by
 refine Rel.pH (λb hb=>hb) ⟨⟨by rw[h.it];rfl,λi a m h1=>by rw[h.it]at h1;simp at h1⟩,h.sl.step (λb hb=>⟨h.lt b hb, .inl hb⟩) (λ_ _=>rfl) (.refl []),?_⟩ (.refl _) (λb hb _=>⟨hb,rfl⟩) trivial;rw[h.st];trivial
def grown(V:Reg)(w w':World):Reg:=λb=>V b\/ (w.heap.size<=b/\b<w'.heap.size)
theorem MemI.back{gl:List (Nat×List Value)}{V:Reg}(h:MemI gl V w s σ){A':Reg}{L':List MD}(hr:Rel (eB gl V w h.gl) s' [] A' L' σ' w')(h1:s'.it=[]):
  KeepN (λ_=>True) w w'/\MemI gl (grown V w w') w' s' σ':=by
 have hk:KeepN (λ_=>True) w w':=⟨λb hb _=>(hr.old (Z:=eB gl V w h.gl) hb id).2,hr.fW (Z:=eB gl V w h.gl)⟩;have hL:L'=[]:=by
  have:=hr.mem.it.1;rw[h1]at this;exact uJ this.symm
 subst hL;refine⟨hk,λb hb=>hb.elim (λh'=>tZ (h.lt b h') hk.gr.le) And.right,h1,?_,hr.mem.sl.step (λb hb=>hb.2.elim .inl λh=> .inr ⟨h,St.lt hr b hb.1⟩) (λ_ _=>rfl) (.refl []),?_⟩
 ·have:=hr.mem.stk;cases hst:s'.st with
  |nil=>rfl
  |cons a l=>rw[hst]at this;exact this.elim
 ·exact h.gl.keep (λb hb=> .inl hb) (λb hb=>hk.same b (h.lt b hb) trivial) hk.gr
theorem iI{m:Nat}{next next':Act->World->Prop}{Y:Act->World->Prop}{Q:Exit->Act->World->Prop}{x:Result Next}(hn:∀a w,next a w->next' a w)
  (h:o.uponIn (wr none) m P a next (iZ Y) x):o.uponIn (wr none) m P a next' Q x:=by
 cases x with
 |ok x w'=>
  cases x with
  |value v=>exact hn _ _ h
  |skip=>exact hn _ _ h
  |defer d=>exact hn _ _ h
  |enter f args=>
   refine⟨h.1,h.2.mono ?_⟩;intro e w'' hh;cases e with
   |returned v=>exact hn _ _ hh
   |panicked c=>exact absurd hh.1 A9
   |outgrown=>exact(WI hh).elim
  |row row args=>exact⟨h.1,h.2.mono λv w'' hh=>hn _ _ hh⟩
  |round l f t b c=>
   refine⟨h.1,h.2.mono ?_⟩;intro e w'' hh;cases e with
   |returned v=>exact hn _ _ hh
   |panicked c=>exact absurd hh.1 A9
   |outgrown=>exact(WI hh).elim
  |_=>exact h.elim
 |halt x w'=>
  cases x with
  |panic v=>exact absurd h.1 A9
  |_=>exact h.elim
theorem Tm{m:Nat}{ops:Array Oper}{Y:Act->World->Prop}{Q:Exit->Act->World->Prop}{l2:List Oper}(h2:∀a w,Y a w->wpListIn (wr none) m P ops Q l2 a w):∀{l1:List Oper} {a:Act} {w:World},
  wpListIn (wr none) m P ops (iZ Y) l1 a w->wpListIn (wr none) m P ops Q (l1++l2) a w
 |[],a,w,h=>h2 a w h.2
 |o::l1,a,w,h=>by
  simp only[wpListIn,vJ]at h⊢;split
  ·rename_i hw;rw[uG hw]at h;exact⟨h.1,iI (λa w h=>Tm h2 h) h.2⟩
  ·rename_i hw;rw[uF hw]at h;exact⟨h.1,Tm h2 h.2⟩
theorem iA{m:Nat}{Q:Exit->Act->World->Prop}{rest:List Oper}{d:Nat}(hg:o.guard=none)(hd:o.dst=some d)(hdn:Nat.blt d n=true)(hne:∀c,o.op≠ .defer c){l:Nat}
  (hx:(execOp (ev σ) o).run P w=(Instr.yield l #[v]).run P w) {RR:Ending->World->Prop} (hy:YieldAt (wr none) (m-1) P l #[v] w RR)
  (hR:∀e w',RR e w'->∃u,e= .returned u/\∀a',Fits [] n a' (Fy σ d u)->wpListIn (wr none) m P ops Q rest a' w') {a:Act} (ha:Fits [] n a σ):wpListIn (wr none) m P ops Q (o::rest) a w:=by
 obtain⟨fn,tmps,assign,body,hy1,hr⟩:=hy;simp only[wpListIn];have hw:Region.wanted o (yielded ops a.tmps)=true:=by simp only[Region.wanted,hg]
 rw[uG hw];refine⟨λ_ _=>trivial,?_⟩;rw[Oper.semAt_eq _ _ _ hne,ha.eval,hx,hy1];refine⟨(λh=>by simp[wr,Fence.wide]at h),hr.mono ?_⟩;intro e w' he;obtain⟨u,rfl,h⟩:=hR e w' he;exact h _ (by rw[hd];exact ha.put hdn u)
def jW(lv:List Nat)(co:List At)(q:Nat)(s:S):Option (Nat×S):=match s.cn lv co with|some s'=>some (q,s')|none=>none
def kC(lv:List Nat)(co:List At):K (Nat×S):=⟨jW lv co 0,λid=>jW lv co (id+2),jW lv co 1⟩
theorem DX{lv:List Nat}{co:List At}{q q':Nat}(h:jW lv co q s=some (q',s')):q'=q/\s.cn lv co=some s':=by
 unfold jW at h;split at h
 ·rename_i s2 hs;cases h;exact⟨rfl,hs⟩
 ·cases h
theorem Zi{inl:GD (Nat×S)}(Pe:P.follows .mixedOrders=true)(hT:Jt P T)(hI:Ir P T.gl inl){J:Reg->World->Prop}(hJ:∀V X Y,J V X->KeepN (λ_=>True) X Y->J (grown V X Y) Y)
  {c:Code} {an:An} {lv:List Nat} {co:List At} {q:Nat} (h:ex P T inl n c an (kC lv co) s=some (q,s')) (h1:s'.it=[]) {V:Reg} (hm:MemI T.gl V w s σ) (hj:J V w) {m:Nat} {a:Act} (ha:Fits [] n a σ):
  c.wpIn (wr none) m P (λe a' w'=>CS e=some q/\∃σ' V',Fits [] n a' σ'/\J V' w'/\MemI T.gl V' w' s' σ') a w:=by
 refine uM (IV (Z:=eB T.gl V w hm.gl) Pe ⟨hT,rfl⟩ hI c h hm.rel none m [] a ha) ?_;rintro e a' w' ⟨σ',hf,s2,A',L',h2,hr⟩;have key:CS e=some q/\s2.cn lv co=some s':=by
  cases e with
  |normal=>obtain⟨rfl,h3⟩:=DX h2;exact⟨rfl,h3⟩
  |ret=>obtain⟨rfl,h3⟩:=DX h2;exact⟨rfl,h3⟩
  |exit id=>obtain⟨rfl,h3⟩:=DX h2;exact⟨rfl,h3⟩
  |goto l=>cases h2
  |panic c=>cases h2
  |outgrown=>cases h2
 obtain⟨h3,h4⟩:=key;obtain⟨A2,L2,hr2⟩:=IM hr h4;obtain⟨g1,g2⟩:=hm.back hr2 h1;exact⟨h3,σ',_,hf,hJ _ _ _ hj g1,g2⟩
theorem CR{inl:GD (Nat×S)}(Pe:P.follows .mixedOrders=true)(hT:Jt P T)(hI:Ir P T.gl inl){J:Reg->World->Prop}(hJ:∀V X Y,J V X->KeepN (λ_=>True) X Y->J (grown V X Y) Y)
  {c d:Code} (an:An) (lv:List Nat) (co:List At) (h:ex P T inl n c an (kC lv co) s=some (0,s')) (h1:s'.it=[]) {V:Reg} (hm:MemI T.gl V w s σ) (hj:J V w) {m:Nat} {a:Act} (ha:Fits [] n a σ) {Q:Exit->Act->World->Prop}
  (hk:∀σ' V' w' a',Fits [] n a' σ'->J V' w'->MemI T.gl V' w' s' σ'->d.wpIn (wr none) m P Q a' w'):(Code.seq c d).wpIn (wr none) m P Q a w:=by
 refine wpIn_seq (uM (Zi Pe hT hI hJ h h1 hm hj ha) ?_);rintro e a' w' ⟨he,σ',V',h2,h3,h4⟩;cases e with
 |normal=>exact hk σ' V' w' a' h2 h3 h4
 |ret=>simp[CS]at he
 |exit id=>simp[CS]at he
 |goto l=>cases he
 |panic c=>cases he
 |outgrown=>cases he
theorem UG{inl:GD (Nat×S)}(hT:Jt P T)(hI:Ir P T.gl inl){J:Reg->World->Prop}(hJ:∀V X Y,J V X->KeepN (λ_=>True) X Y->J (grown V X Y) Y){l l2:List Oper}(lv:List Nat)(hd:BD l=true)
  (h:DZ P T inl n ops l s (jW lv [] 0)=some (0,s')) (h1:s'.it=[]) {V:Reg} (hm:MemI T.gl V w s σ) (hj:J V w) {m:Nat} {a:Act} (ha:Fits [] n a σ) {Q:Exit->Act->World->Prop}
  (hk:∀σ' V' w' a',Fits [] n a' σ'->J V' w'->MemI T.gl V' w' s' σ'->wpListIn (wr none) m P ops Q l2 a' w'):wpListIn (wr none) m P ops Q (l++l2) a w:=by
 have h2:=XN (Z:=eB T.gl V w hm.gl) (ops:=ops) ⟨hT,rfl⟩ hI hm.rel h;have h3:WL P n ops l (λσ' w'=>∃V',J V' w'/\MemI T.gl V' w' s' σ') σ w:=by
  refine Me h2 ?_;rintro σ' w' ⟨s2,A',L',g1,hr⟩;obtain⟨_,g2⟩:=DX g1;obtain⟨A2,L2,hr2⟩:=IM hr g2;obtain⟨g3,g4⟩:=hm.back hr2 h1;exact⟨_,hJ _ _ _ hj g3,g4⟩
 exact Tm (Y:=λa' w'=>∃σ',Fits [] n a' σ'/\∃V',J V' w'/\MemI T.gl V' w' s' σ') (λa' w' ⟨σ',g1,V',g2,g3⟩=>hk σ' V' w' a' g1 g2 g3) (GO (ME hd) (h3 [] a ha))
theorem MemI.set{gl:List (Nat×List Value)}{V:Reg}(h:MemI gl V w s σ){d:Nat}{p:PV}{v:Value}(hv:p.isV=true)(hp:Br V w [] p v):MemI gl V w ⟨eM s.sl d p,[],[]⟩ (Fy σ d v):=
 ⟨h.lt,rfl,rfl,h.sl.set (.put hv hp),h.gl⟩
theorem MemI.round{gl:List (Nat×List Value)}{V:Reg}(h:MemI gl V w s σ)(hg:Gr w w')(hs:∀b,V b->w'.heap[b]? =w.heap[b]?):MemI gl V w' s σ:=
 h.keep (λ_ h=>h) (λb hb=>tZ (h.lt b hb) hg.le) hs hg
theorem MemI.val{gl:List (Nat×List Value)}{V:Reg}(h:MemI gl V w s σ){t:Nat}{p:PV}(hp:(t,p)∈s.sl)(hv:p.isV=true):Br V w [] p (σ t):=(Cr.iff hv).1 (h.sl _ hp)
theorem YE{g x:Operand}{ts:Array TypeId}(ho:o.op= .call ⟨.value g, #[x],ts⟩) {l:Nat} (hg:ev σ g= .func (.yield l) #[] #[]) (hx:ev σ x=v):
  (execOp (ev σ) o).run P w=(Instr.yield l #[v]).run P w:=by
 obtain⟨d,op,ty,pos,after,gd⟩:=o;simp only at ho;subst ho;simp[execOp,resolve,invoke,hg,hx,go_sem]
theorem eY{F:Fence}{n:Nat}{P:Program}{Q:Exit->Act->World->Prop}{w:World}{c:Code}(m:Nat)(I:Nat->Act->World->Prop)(h0:∀a w,¬I 0 a w)
  (hs:∀q a w,I (q+1) a w->c.wpIn F n P (Exit.then (I q) Q) a w) (h:I m a w):(Code.loop c).wpIn F n P Q a w:=by
 refine wpIn_loop_rounds m ?_
 induction m generalizing a w with
 |zero=>exact absurd h (h0 a w)
 |succ m ih=>
  rw[roundsIn_succ];refine uM (hs m a w h) λe a' w' hh=>?_;cases e<;>first|exact ih hh|exact hh
def cA:Code->Code| .seq a _=>a| .cond _ a _=>a| .block _ a=>a| .loop a=>a|c=>c
def cB:Code->Code| .seq _ b=>b| .cond _ _ b=>b|c=>c
def cO:Code->List Oper| .region _ ops _=>ops.toList|_=>[]
def fB(f:Func):Code:=match f.body with|some c=>c|none=> .skip
def qS:List Oper->Nat->Oper
 |[],_=>⟨none, .move (.tmp 0),0, "", #[],none⟩
 |o::_,0=>o
 |_::l,q+1=>qS l q
end Go.Rx
namespace Go.Rx
open Go Go.Lv
noncomputable def Con.seal(c:Con):Con:=⟨c.ps,c.rs,KF c.fn⟩
theorem ConOk.seal{P:Program}{gl:List (Nat×List Value)}{f:Nat}{c:Con}(h:ConOk P gl f c):ConOk P gl f c.seal:=
 ⟨h.ent,λR N w L0 vs ps x y h1 h2 h3 h4 h5 h6 h7=>h.ok R N w L0 vs ps x y h1 h2 h3 h4 h5 h6 ((iW c.fn x).symm.trans h7)⟩
end Go.Rx
