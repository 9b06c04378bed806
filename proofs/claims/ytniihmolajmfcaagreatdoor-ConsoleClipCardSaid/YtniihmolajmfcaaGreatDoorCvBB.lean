/- A part of a proof (see the text that ends in Proof). No conditions. -/
import Derived.Test.YtniihmolajmfcaaGreatDoorCvBA
import Derived.MapKept
import Derived.ProofKit
import Derived.LaidMore
import Derived.DataReads
import Derived.ChangeSame
set_option linter.unusedVariables false
set_option linter.unusedSimpArgs false
namespace Go.Rx
open Go Go.Lv
variable{a:Item}{R:Type}
variable {P:Program} {B:Reg} {w w':World} {L L':List MD} {s:S} {σs:List Env} {σ:Env} {Z:Fix} {A A':Reg} {n:Nat}
theorem Cj.get{α:Type}{f:α->List Value->Prop}{z:Nat}(hz:∀x c,f x c->c.length=z):∀{l:List α} {i:Nat} {x:α} {cs:List Value},Cj f l cs->l[i]? =some x->
  ∃c1 c2 c3,cs=c1++(c2++c3)/\c1.length=i*z/\f x c2/\∀y c2',f y c2'->Cj f (l.set i y) (c1++(c2'++c3))
 |[],_,_,_,_,h=>by simp at h
 |a::l,0,x,cs,⟨c1,c2,e,h1,h2⟩,h=>by
  simp at h;subst h;exact⟨[],c1,c2,by simpa using e,F8,h1,λy c2' hy=>⟨c2',c2,F8,hy,h2⟩⟩
 |a::l,i+1,x,cs,⟨c1,c2,e,h1,h2⟩,h=>by
  obtain⟨d1,d2,d3,e',h3,h4,h5⟩:=Cj.get hz (i:=i) h2 (by simpa using h);refine⟨c1++d1,d2,d3,by rw[e,e'];simp,by rw[A?,hz _ _ h1,h3,VG];omega,h4,λy c2' hy=>?_⟩;exact⟨c1,d1++(c2'++d3),F8,h1,h5 y c2' hy⟩
theorem Cj.append{α:Type}{f:α->List Value->Prop}:∀{l m:List α} {cs ds:List Value},Cj f l cs->Cj f m ds->Cj f (l++m) (cs++ds)
 |[],m,cs,ds,h,h'=>by rw[show cs=[]from h];exact h'
 |a::l,m,cs,ds,⟨c1,c2,e,h1,h2⟩,h'=>⟨c1,c2++ds,by rw[e];simp,h1,Cj.append h2 h'⟩
theorem Ax.one:∀{e:ET} {x:e.T} {cs:List Value},Ax B w e x cs->∀v∈cs,v.oneCell'=true
 | .int k,x,cs,h,v,hv=>by rw[show cs=_ from h]at hv;simp at hv;subst hv;rfl
 | .bool,x,cs,h,v,hv=>by rw[show cs=_ from h]at hv;simp at hv;subst hv;rfl
 | .str,x,cs,h,v,hv=>by rw[show cs=_ from h]at hv;simp at hv;subst hv;rfl
 | .list e,l,cs,⟨u,c0,e1,h,_⟩,v,hv=>by
  rw[e1]at hv;simp at hv;subst hv;obtain⟨p,len,cap,rfl,_⟩:=h;rfl
 | .vec n e,l,cs,⟨_,h⟩,v,hv=>by
  have key:∀(l:List e.T) (cs:List Value),Cj (Ax B w e) l cs->v∈cs->v.oneCell'=true:=by
   intro l
   induction l with
   |nil=>intro cs h hv;rw[show cs=[]from h]at hv;simp at hv
   |cons a l ih=>
    rintro cs ⟨c1,c2,e',h1,h2⟩ hv;subst e';rcases List.mem_append.1 hv with hv|hv
    ·exact Ax.one h1 v hv
    ·exact ih _ h2 hv
  exact key l cs h hv
 | .cons a r,x,cs,⟨c1,c2,e,h1,h2⟩,v,hv=>by
  subst e;rcases List.mem_append.1 hv with hv|hv
  ·exact Ax.one h1 v hv
  ·exact Ax.one h2 v hv
 | .nil,_,cs,h,v,hv=>by rw[show cs=[]from h]at hv;simp at hv
theorem Cj.one{e:ET}:∀{l:List e.T} {cs:List Value},Cj (Ax B w e) l cs->∀v∈cs,v.oneCell'=true
 |[],cs,h,v,hv=>by rw[show cs=[]from h]at hv;simp at hv
 |a::l,cs,⟨c1,c2,e',h1,h2⟩,v,hv=>by
  subst e';rcases List.mem_append.1 hv with hv|hv
  ·exact h1.one v hv
  ·exact Cj.one h2 v hv
theorem Cj.r_{e:ET}{l:List e.T}{cs:List Value}(h:Cj (Ax B w e) l cs):cs.all (·.oneCell')=true:=List.all_eq_true.2 h.one
theorem D0{R:Type}{k:PV->Option R}{r:R}:∀{p:List Step} {v:PV} {cs:List Value},WK v p k=some r->Ba B w L v cs->
  ∃u c1 c2 c3,k u=some r/\cs=c1++(c2++c3)/\c1.length=Au p/\Ba B w L u c2
 |[],v,cs,h,hv=>⟨v,[],cs,[],by simpa [WK]using h,F8,rfl,hv⟩
 | .fld m off::p,v,cs,h,hv=>by
  cases v<;>simp only[WK,reduceCtorEq]at h;rename_i l;split at h
  ·rename_i f hf;obtain⟨hb,h⟩:=Aq h;obtain⟨c1,c2,c3,e,h1,h2,_⟩:=Ba.field (show Ba.go B w L l cs from hv) hf;obtain⟨u,d1,d2,d3,hk,e',h3,h4⟩:=D0 h h2;refine⟨u,c1++d1,d2,d3++c3,hk,by rw[e,e'];simp,?_,h4⟩;rw[A?,h1,h3,Bn hb];rfl
  ·cases h
 | .idx j z::p,v,cs,h,hv=>by
  cases v<;>simp only[WK,reduceCtorEq]at h;rename_i e x;split at h
  ·rename_i m a l;obtain⟨hb,h⟩:=Aq h;obtain⟨y,hy,h⟩:=bind_some h;obtain⟨hj,_,hl⟩:=Iw hy;obtain⟨c1,c2,c3,e,h1,h2,_⟩:=Cj.get (λx c h=>Ax.len h) (show Cj (Ax B w a) l cs from hv.2) hl;obtain⟨u,d1,d2,d3,hk,e',h3,h4⟩:=D0 h (UN.2 h2);refine⟨u,c1++d1,d2,d3++c3,hk,by rw[e,e'];simp,?_,h4⟩;rw[A?,h1,h3,Bn hb];rfl
  ·cases h
def oA(B:Reg)(w:World)(L:List MD):Item->List Value->Prop
 | .box _ v,cs=>Ba B w L v cs
 | .arr _ e l,cs=>Cj (Ax B w e) l cs
 | .dead,_=>False
theorem P2{k:PV->Option R}{r:R}{p:List Step}{cs:List Value}(h:getRoot a p k=some r)(hv:oA B w L a cs):
  ∃u c1 c2 c3,k u=some r/\cs=c1++(c2++c3)/\c1.length=Au p/\Ba B w L u c2:=by
 unfold getRoot at h;split at h
 ·exact D0 h hv
 ·rename_i E e l j z p;obtain⟨hb,h⟩:=Aq h;obtain⟨y,hy,h⟩:=bind_some h;obtain⟨hj,_,hl⟩:=Iw hy;obtain⟨c1,c2,c3,e',h1,h2,_⟩:=Cj.get (λx c h=>Ax.len h) (show Cj (Ax B w e) l cs from hv) hl;obtain⟨u,d1,d2,d3,hk,e'',h3,h4⟩:=D0 h (UN.2 h2);refine⟨u,c1++d1,d2,d3++c3,hk,by rw[e',e''];simp,?_,h4⟩;rw[A?,h1,h3,Bn hb];rfl
 ·cases h
theorem cU{c1 c2 c3 ns:List Value}(h:ns.length=c2.length):Bk (c1++(c2++c3)) c1.length ns=c1++(ns++c3):=by
 unfold Bk;rw[c!,h,<-UW,Tz,Tz]
theorem ZG{c1 c2 c3 ns:List Value}{o:Nat}(hc:c1.length=o)(off:Nat)(h:off+ns.length<=c2.length):Bk (c1++(c2++c3)) (o+off) ns=c1++(Bk c2 off ns++c3):=by
 subst hc;unfold Bk;rw[zR,VI F0,K7,<-UW,Tz,YL F0];simp
theorem sC{R:Type}{new:PV}{ns:List Value}(hn:Ba B w L new ns){r:R}:∀{p:List Step} {v:PV} {cs:List Value} {k:PV->Option R},h_ new v p k=some r->Ba B w L v cs->
  ∃v',k v'=some r/\Au p+ns.length<=cs.length/\Ba B w L v' (Bk cs (Au p) ns)
 |[],v,cs,k,h,hv=>by
  simp only[h_]at h;obtain⟨hb,h⟩:=Aq h;have h1:=hn.len;have h2:=hv.len;have h3:=Bn hb;refine⟨new,h,by simp[Au];omega,?_⟩;have:Bk cs 0 ns=ns:=by
   unfold Bk;rw[Ty,O7,U? F0,F_]
  rw[show Au []=0 from rfl,this];exact hn
 | .fld m off::p,v,cs,k,h,hv=>by
  cases v<;>simp only[h_,reduceCtorEq]at h;rename_i l;split at h
  ·rename_i f hf;obtain⟨hb,h⟩:=Aq h;obtain⟨c1,c2,c3,e,h1,h2,h3⟩:=Ba.field (show Ba.go B w L l cs from hv) hf;obtain⟨f',hk,h4,h5⟩:=sC hn h h2;have ho:Au (.fld m off::p)=c1.length+Au p:=by rw[h1,Bn hb];rfl
   refine⟨_,hk,by rw[ho,e];simp;omega,?_⟩;rw[ho,e,ZG rfl _ h4];exact h3 f' _ h5
  ·cases h
 | .idx j z::p,v,cs,k,h,hv=>by
  cases v<;>simp only[h_,reduceCtorEq]at h;rename_i e x;split at h
  ·rename_i m a l;obtain⟨hb,h⟩:=Aq h;have hz:=Bn hb;have key:∀(y y':a.T) (l':List a.T) (f:List Value->List Value),Af l j=some y->Pn l j y'=some l'-> (∀c2,Ax B w a y c2->Au p+ns.length<=c2.length/\Ax B w a y' (Bk c2 (Au p) ns))->
     Au (.idx j z::p)+ns.length<=cs.length/\Ba B w L (.val (.vec m a) l') (Bk cs (Au (.idx j z::p)) ns):=by
    intro y y' l' f hy hs hyp;obtain⟨hj,hlt,hl⟩:=Iw hy;obtain⟨_,_,rfl⟩:=WJ hs;obtain⟨c1,c2,c3,e,h1,h2,h3⟩:=Cj.get (λx c h=>Ax.len h) (show Cj (Ax B w a) l cs from hv.2) hl;obtain⟨h4,h5⟩:=hyp c2 h2;have ho:Au (.idx j z::p)=c1.length+Au p:=by rw[h1,hz];rfl
    refine⟨by rw[ho,e];simp;omega,?_⟩;rw[ho,e,ZG rfl _ h4];exact⟨by rw[Z7];exact hv.1,h3 y' _ h5⟩
   split at h
   ·split at h
    ·rename_i y' hy';obtain⟨l',hs,h⟩:=bind_some h;obtain⟨hj,hlt,_⟩:=WJ hs;have hg:Af l j=some l[j.toNat]:=by
      unfold Af;rw[A7 F0];simp[hlt]
     obtain⟨h1,h2⟩:=key _ y' l' id hg hs (λc2 hc2=>by
      have e1:=(PJ hy' hn).len;have e2:=hc2.len;refine⟨by simp[Au];omega,?_⟩;have:Bk c2 0 ns=ns:=by
       unfold Bk;rw[Ty,O7,U? F0,F_]
      rw[show Au []=0 from rfl,this];exact PJ hy' hn)
     exact⟨_,h,h1,h2⟩
    ·cases h
   ·obtain⟨y,hy,h⟩:=bind_some h;obtain⟨hj,hlt,hl⟩:=Iw hy;obtain⟨c1,c2,c3,e,h1,h2,h3⟩:=Cj.get (λx c h=>Ax.len h) (show Cj (Ax B w a) l cs from hv.2) hl;obtain⟨q,hk,h4,h5⟩:=sC hn h (UN.2 h2);split at hk
    ·rename_i y' hy';obtain⟨l',hs,hk⟩:=bind_some hk;obtain⟨_,_,rfl⟩:=WJ hs;have ho:Au (.idx j z::p)=c1.length+Au p:=by rw[h1,hz];rfl
     refine⟨_,hk,by rw[ho,e];simp;omega,?_⟩;rw[ho,e,ZG rfl _ h4];exact⟨by rw[Z7];exact hv.1,h3 y' _ (PJ hy' h5)⟩
    ·cases hk
  ·cases h
def sameKind:Item->Item->Prop| .box T _, .box T' _=>T'=T| .arr E e _, .arr E' e' _=>E'=E/\e'=e|_,_=>False
theorem Abt{new:PV}{ns:List Value}(hn:Ba B w L new ns){r:R}{p:List Step}{cs:List Value}{k:Item->Option R}(h:C8 new a p k=some r)(hv:oA B w L a cs):
  ∃a',k a'=some r/\Au p+ns.length<=cs.length/\oA B w L a' (Bk cs (Au p) ns)/\sameKind a a':=by
 unfold C8 at h;split at h
 ·obtain⟨v',hk,h1,h2⟩:=sC hn h hv;exact⟨_,hk,h1,h2,rfl⟩
 ·rename_i E a l j z p;obtain⟨hb,h⟩:=Aq h;have hz:=Bn hb;split at h
  ·split at h
   ·rename_i y' hy';obtain⟨l',hs,h⟩:=bind_some h;obtain⟨hj,hlt,rfl⟩:=WJ hs;have hl:l[j.toNat]? =some l[j.toNat]:=by simp[hlt]
    obtain⟨c1,c2,c3,e,h1,h2,h3⟩:=Cj.get (λx c h=>Ax.len h) (show Cj (Ax B w a) l cs from hv) hl;have e1:=(PJ hy' hn).len;have e2:=h2.len;have ho:Au [.idx j z]=c1.length:=by rw[h1,hz];rfl
    refine⟨_,h,by rw[ho,e];simp;omega,?_,rfl,rfl⟩;rw[ho,e,cU F0];exact h3 y' _ (PJ hy' hn)
   ·cases h
  ·obtain⟨y,hy,h⟩:=bind_some h;obtain⟨hj,hlt,hl⟩:=Iw hy;obtain⟨c1,c2,c3,e,h1,h2,h3⟩:=Cj.get (λx c h=>Ax.len h) (show Cj (Ax B w a) l cs from hv) hl;obtain⟨q,hk,h4,h5⟩:=sC hn h (UN.2 h2);split at hk
   ·rename_i y' hy';obtain⟨l',hs,hk⟩:=bind_some hk;obtain⟨_,_,rfl⟩:=WJ hs;have ho:Au (.idx j z::p)=c1.length+Au p:=by rw[h1,hz];rfl
    refine⟨_,hk,by rw[ho,e];simp;omega,?_,rfl,rfl⟩;rw[ho,e,ZG rfl _ h4];exact h3 y' _ (PJ hy' h5)
   ·cases hk
 ·cases h
end Go.Rx
namespace Go.Rx
open Go Go.Lv
variable{j:Int}{q:IntKind}{x ix:Operand}{p u:PV}{v:Value}
variable {P:Program} {w w':World} {L L':List MD} {s:S} {σs:List Env} {σ:Env} {Z:Fix} {A A':Reg} {n:Nat} {ops:Array Oper} {rest:List Oper} {K:Env->World->Prop}
variable {R:Type} {k:S->Option R} {r:R} {d:Option Nat} {ty:TypeId} {pos:String} {after:Array Edge}
theorem WL.XI{o:Oper}{w':World}(hg:o.guard=none)(hdn:Jf n o=true)
  (hx:(execOp (ev σ) o).run P w= .ok (.value v) w') (h:WL P n ops rest K (YJ σ o.dst v) w'):WL P n ops (o::rest) K σ w:=by
 intro ds a ha;refine gG hg λK' hK'=>?_;unfold Oper.wp;rw[ha.eval,hx];refine hK' _ _ ?_;cases hd:o.dst with
 |none=>rw[hd]at h;exact h _ _ (ha.T8 v)
 |some d=>
  rw[hd]at h;unfold Jf at hdn;rw[hd]at hdn;exact h _ _ (ha.put hdn v)
def Y3(Z:Fix)(σs:List Env)(k:S->Option R)(r:R)(G:Prop)(A:Reg)(L:List MD)(it:List Item)(w:World)(σ':Env)(w':World):Prop:=
 ∃s' A' L',k s'=some r/\Rel Z s' σs A' L' σ' w'/\ (G->Grow A L it w A' L' s'.it w')
abbrev Xc(P:Program)(n:Nat)(ops:Array Oper)(o:Oper)(Z:Fix)(s:S)(σs:List Env)(k:S->Option R)(r:R)(G:Prop)(A:Reg)(L:List MD)(σ:Env)(w:World):Prop:=
 WL P n ops [o] (Y3 Z σs k r G A L s.it w) σ w
theorem Eb{o:Op}{val:Value}{G:Prop}(hr:Rel Z s σs A L σ w)(hd:Jf n ⟨d,o,ty,pos,after,none⟩=true)(hx:XO P σ w o val)(hv:p.isV=true)(h:Ef (λb=>A b/\Z.R b) w L p val)
  (hk:k (s.Gc d p)=some r):Xc P n ops ⟨d,o,ty,pos,after,none⟩ Z s σs k r G A L σ w:=by
 refine WL.XI rfl hd (hx _ _ _ _ _) (WL.nil ⟨_,A,L,hk,hr.Gc hv h,λ_=>?_⟩);have:(s.Gc d p).it=s.it:=by cases d<;>rfl
 rw[this];exact .refl
theorem GY{B:Reg}(h:dX p=some j)(hv:Ef B w L p v):∃q,v= .int q j:=by
 unfold dX at h;split at h
 ·rename_i e x;split at h
  ·cases h;exact⟨_,GQ hv⟩
  ·cases h
 ·cases h
theorem SD(h:dX p=some j):p.isV=true:=by unfold dX at h;split at h;rfl;cases h
theorem R7{B:Reg}(h:asInt p=some j)(hv:Ef B w L p v):v=iv j:=by
 unfold asInt at h;split at h
 ·rename_i e x;split at h
  ·rename_i q y;split at h
   ·cases h;exact GQ hv
   ·cases h
  ·cases h
 ·cases h
theorem A!(h:asInt p=some j):p.isV=true:=by unfold asInt at h;split at h;rfl;cases h
theorem Kv{o:Option Operand}{dflt:Int}{B:Reg}(hm:Fp B w L σ s.sl)(h:TU s.sl o dflt=some j):(∃q,o.map (ev σ)=some (.int q j))\/ (o=none/\j=dflt):=by
 unfold TU at h;split at h
 ·cases h;exact .inr ⟨rfl,rfl⟩
 ·rename_i x;obtain⟨q,hq⟩:=GY h (Qk hm x (SD h));exact .inl ⟨q,by rw[VN,hq]⟩
theorem X.uR{t:TypeId}{l:List UInt8}{y:UInt8}(ht:P.underlying t=some .string)(hx:ev σ x=sv l)(hi:ev σ ix= .int q j)(hg:Af l j=some y):
  XO P σ w (.index t x ix) (iv y):=λ_ _ _ _ _=>by
 obtain⟨h1,h2,h3⟩:=Iw hg;have h4:=run_index_string (P:=P) w t ⟨l.toArray⟩ q j ht;have h5:0<=j/\j<(⟨l.toArray⟩:ByteArray).size:=by simp[ByteArray.size];omega
 rw[dif_pos h5]at h4;have h6:(⟨l.toArray⟩:ByteArray)[j.toNat]'(by simp[ByteArray.size];omega)=y:=by
  have e1:l[j.toNat]=y:=by rw[C? h2]at h3;simpa using h3
  rw[<-e1];rfl
 simp only[execOp,hx,hi,C1,h4,B8,I7,dV];rw[h6]
theorem Arn{t et:TypeId}{m:Nat}{e:ET}{l:List e.T}{y:e.T}{cs:List Value}{B:Reg}(ht:P.underlying t=some (.array m et))(hsz:Im P et e.size)
  (hag:∃u,P.underlying et=some u/\Y4 u=(e.pv y).isA) (h1:(e.pv y).isA=false->e.size=1) (hlen:l.length=m)
  (hx:ev σ x= .agg cs.toArray) (hl:Cj (Ax B w e) l cs) (hi:ev σ ix= .int q j) (hg:Af l j=some y):∃val,XO P σ w (.index t x ix) val/\Ga B w L (e.pv y) val:=by
 obtain⟨h3,h4,h5⟩:=Iw hg;obtain⟨c1,c2,c3,he,h6,h7,_⟩:=Cj.get (λx c h=>Ax.len h) hl h5;have h8:0<=j/\j<(m:Int):=F0
 obtain⟨u,hu,ha⟩:=hag;have hc2:=h7.len;cases hA:(e.pv y).isA with
 |true=>
  refine⟨.agg c2.toArray,λ_ _ _ _ _=>?_,by unfold Ga;rw[hA];exact⟨c2,rfl,UN.2 h7⟩⟩;have e1:(cs.drop (j.toNat*e.size)).take e.size=c2:=by rw[he,<-h6,<-hc2];simp
  simp[execOp,hx,hi,Instr.index,asIntOf,A_ ht,h8,Ca hsz,asAgg,part,Fj hu (ha.trans hA),e1]
 |false=>
  rw[h1 hA]at hc2
  match c2,hc2 with
  |[v],_=>
   refine⟨v,λ_ _ _ _ _=>?_,by unfold Ga;rw[hA];exact UN.2 h7⟩;have e1:cs[j.toNat*e.size]? =some v:=by rw[he,<-h6];simp
   simp[execOp,hx,hi,Instr.index,asIntOf,A_ ht,h8,Ca hsz,asAgg,part,Fj hu (ha.trans hA),e1]
theorem Tc{t et:TypeId}{b o len cap z:Nat}(ht:P.underlying t=some (.slice et))(hsz:Im P et z)(hx:ev σ x= .slice (some ⟨b,o,none⟩) len cap)(hi:ev σ ix= .int q j)
  (h0:0<=j) (h1:j<len) (w:World):XO P σ w (.indexAddr t x ix) (.pointer (some ⟨b,o+j.toNat*z,none⟩)):=λ_ _ _ _ _=>by
 simp only[execOp,hx,hi,Instr.indexAt,C1,asIntOf,I7,B8,A_ ht,h0,h1,and_self,U9,Ca hsz,Lb]
theorem TO{t et:TypeId}{b o m z:Nat}(ht:P.underlying t=some (.array m et))(hsz:Im P et z)(hx:ev σ x= .pointer (some ⟨b,o,none⟩))(hi:ev σ ix= .int q j)
  (h0:0<=j) (h1:j<m) (w:World):XO P σ w (.indexAddr t x ix) (.pointer (some ⟨b,o+j.toNat*z,none⟩)):=λ_ _ _ _ _=>by
 simp only[execOp,hx,hi,Instr.indexAt,Instr.sureAddr,C1,asIntOf,I7,B8,A_ ht,h0,h1,and_self,U9,Ca hsz,Lb]
theorem Fk{t:TypeId}{i:TypeInfo}{z:Nat}(h:P.info? t=some i)(hz:Nat.beq i.size z=true):Im P t z:=⟨i,h,Bn hz⟩
theorem Rel.base(hr:Rel Z s σs A L σ w){i z:Nat}{E:TypeId}{cs:List Value}(h:L[i]? =some (.own z E v cs))(hne:0<cs.length):∃b len cap,v= .slice (some ⟨b,0,none⟩) len cap/\cs.length=len*z:=by
 obtain⟨b,m,c,hv,_⟩:=St.C_ hr (hr.Ex h) hne;obtain⟨p,len,cap,h1,h2,_⟩:=hr.Pf h;subst hv;cases h1;exact⟨b,m,c,rfl,h2⟩
theorem bP(st:Step):∀(p:List Step),Au (p++[st])=Au p+lW st
 |[]=>by simp[Au]
 |a::p=>by simp[Au,bP st p,K7]
theorem Abm{t:TypeId}{G:Prop}(hr:Rel Z s σs A L σ w)(hd:Jf n ⟨d, .indexAddr t x ix,ty,pos,after,none⟩=true)(h:wP P s d t x ix k=some r):
  Xc P n ops ⟨d, .indexAddr t x ix,ty,pos,after,none⟩ Z s σs k r G A L σ w:=by
 have hm:=hr.mem;unfold wP at h;split at h
 ·cases h
 ·rename_i j hj;obtain⟨q,hix⟩:=GY hj (Qk hm.sl ix (SD hj));split at h
  ·rename_i et ht;split at h
   ·cases h
   ·rename_i inf Rz;split at h
    ·rename_i e0 l0 hx;split at h
     ·rename_i e l;obtain⟨hb,h⟩:=Aq h;simp only[A9]at hb;obtain⟨y,hy,h⟩:=bind_some h;obtain⟨hj0,hj1,hj2⟩:=Iw hy;obtain⟨c0,h1,h2⟩:=Zt (Dl hm.sl hx rfl);obtain⟨p,len,cap,h3,h4,h5,h6,h7⟩:=h1;have hlen:=h2.len λx c h=>Ax.len h;have hz:0<e.size:=by have:=U3 hb.2;omega
      have hl:len=l.length:=SY hz (h4.symm.trans hlen);subst hl;obtain⟨b,off,arr,T,fr,rfl,hB,hbl,hcap,hc⟩:=h7 F0;obtain⟨c1,c2,c3,he,h8,h9,_⟩:=Cj.get (λx c h=>Ax.len h) h2 hj2;have h10:c2.length=e.size:=h9.len;have h11:(j.toNat+1)*e.size<=l.length*e.size:=C2 _ hj1;rw[VG]at h11;have hp:R' (λb=>A b/\Z.R b) w (.pointer (some ⟨b,off+j.toNat*e.size,none⟩)) c2:=by
       refine⟨b,off+j.toNat*e.size,arr,T,fr,rfl,hB,hbl,λq hq=>?_⟩;rw[K7,hc _ F0,he,SF F0,h8,show j.toNat*e.size+q-j.toNat*e.size=q by omega,I9 hq]
      have hvr:Ef (λb=>A b/\Z.R b) w L (.rptr (e.pv y)) (.pointer (some ⟨b,off+j.toNat*e.size,none⟩)):=⟨_,c2,rfl,hp,UN.2 h9⟩;exact Eb hr hd (Tc ht (Fk Rz hb.1) h3 hix F0 F0 w) rfl hvr h
     ·cases h
    ·rename_i i hx;split at h
     ·rename_i E e l hi;obtain⟨hb,h⟩:=Aq h;simp only[A9]at hb;obtain⟨y,hy,h⟩:=bind_some h;obtain⟨hj0,hj1,hj2⟩:=Iw hy;obtain⟨v,cs,h1,h2⟩:=hm.arr hi;obtain⟨z',E',c',h3⟩:=HC (Dl hm.sl hx rfl);rw[h1]at h3;cases h3;have hlen:=h2.len λx c h=>Ax.len h;have hz:0<e.size:=by have:=U3 hb.2;omega
      have hpos:0<cs.length:=by rw[hlen];exact WA F0 hz
      obtain⟨b,len,cap,h4,h5⟩:=hr.base h1 hpos;have hl:len=l.length:=SY hz (h5.symm.trans hlen);subst hl;have:=Tc ht (Fk Rz hb.1) h4 hix F0 F0 w;refine Eb hr hd this rfl ?_ h;rw[show(0:Nat)+j.toNat*e.size=Au [.idx j e.size] by simp[Au,lW]];refine HF h1 ?_;rw[h4];rfl
     ·cases h
    ·rename_i o i p e lo n' hx;obtain⟨hb,h⟩:=Aq h;simp only[A9]at hb;obtain⟨_,hok,h⟩:=bind_some h;have hj':0<=j/\j<n':=UT (Un hok);obtain⟨md,v1,h3,h4,k1,k2,⟨pt,cap,k3,k4,k5,k6⟩,_⟩:=Dl hm.sl hx rfl;have h6:ev σ x=v1:=by simpa using h4
     obtain⟨b,e1,rfl⟩:=k6 F0;have:=Tc ht (Fk Rz hb.1) (h6.trans k3) hix hj'.1 F0 w;refine Eb hr hd this rfl ?_ h;rw[show Au p+lo.toNat*e.size+j.toNat*e.size=Au (p++[.idx (lo+j) e.size]) by
      rw[bP,K7,<-B5]
      show _=Au p+(lo+j).toNat*e.size;rw[Int.toNat_add k1 hj'.1]]
     exact HF h3 e1
    ·cases h
  ·rename_i m et ht;split at h
   ·cases h
   ·rename_i inf Rz;split at h
    ·rename_i i p hx;split at h
     ·rename_i T v hi;split at h
      ·rename_i e0 l0 hg;split at h
       ·rename_i m' e l;obtain⟨hb,h⟩:=Aq h;simp only[A9]at hb;obtain⟨y,hy,h⟩:=bind_some h;obtain⟨hj0,hj1,hj2⟩:=Iw hy;obtain⟨b,cells,h1,h2⟩:=hm.box hi;obtain⟨c1,c2,c3,he,h3,h4⟩:=cY hg h2;obtain⟨md,b',h5,h6,h7⟩:=Wz (Dl hm.sl hx rfl);rw[h1]at h5;cases h5;cases h6;have hl:l.length=m:=(show l.length=m'/\ _ from h4).1.trans (Bn hb.2);have:=TO ht (Fk Rz hb.1.1) h7 hix F0 F0 w;refine Eb hr hd this rfl ?_ h;rw[show Au p+j.toNat*e.size=Au (p++[.idx j e.size]) by simp[MF,Au,lW]];exact HF h1 rfl
       ·cases h
      ·cases h
     ·cases h
    ·cases h
  ·cases h
def MD.cells:MD->List Value| .box _ c _=>c| .own _ _ _ c=>c| .dead=>[]
theorem Rel.cells(hr:Rel Z s σs A L σ w){i b:Nat}{md:MD}(h:L[i]? =some md)(hb:md.base=some b):∀j,j<md.cells.length->w.cell? ⟨b,j,none⟩=md.cells[j]? :=by
 intro j hj;cases md with
 |dead=>cases hb
 |box b' cells T=>cases hb;rw[cell_of (St.box hr (hr.Ex h))];simp[MD.cells]
 |own z E v cells=>
  obtain⟨b',m,c,hv,hs'⟩:=St.C_ hr (hr.Ex h) (by simp[MD.cells]at hj;omega);subst hv;cases hb;obtain⟨o,rfl,h2⟩:=Cu.mem (A:=A) hs'.mobs (i:=i) (m:= .at_ b z E m c cells) (by rw[U2 (by simpa using(List.getElem?_eq_some_iff.1 h).1)]);obtain⟨_,len,cap,e,h3,_,_,_,h6⟩:=h2;obtain⟨arr,fr,_,hb,_,_,hc⟩:=h6 b rfl;rw[cell_of hb];exact hc j (by rw[<-h3];exact hj)
theorem kL{t:TypeId}{c2:List Value}{b off:Nat}{B:Reg}(h:OkLoad P t u)(hu:Ba B w L u c2)
  (hx:ev σ x= .pointer (some ⟨b,off,none⟩)):∃val,Ga B w L u val/\∀w':World,(∀j,j<c2.length->w'.cell? ⟨b,off+j,none⟩=c2[j]?)->XO P σ w' (.load t x) val:=by
 obtain⟨d,hd,ha⟩:=h.agg;have hlen:=hu.len;cases hA:u.isA with
 |true=>
  refine⟨.agg c2.toArray,by unfold Ga;rw[hA];exact⟨c2,rfl,hu⟩,λw' hc _ _ _ _ _=>?_⟩;have h1:=Lm (P:=P) (w:=w') (b:=b) (off:=off) c2 hc;rw[hlen]at h1;simp only[execOp,hx,Instr.loadAt,Instr.sureAddr,C1,I7,B8,loadVar,Fj hd (ha.trans hA),U9,Ca h.size,h1]
 |false=>
  have h1:=h.one hA;rw[h1]at hlen
  match c2,hlen with
  |[v],_=>
   refine⟨v,by unfold Ga;rw[hA];exact hu,λw' hc _ _ _ _ _=>?_⟩;have h2:w'.cell? ⟨b,off,none⟩=some v:=by simpa using hc 0 F8
   simp only[execOp,hx,Instr.loadAt,Instr.sureAddr,C1,I7,B8,loadVar,Fj hd (ha.trans hA),SN,R8,GA h2]
theorem Q5{t:TypeId}{c2:List Value}{b off:Nat}{B:Reg}(h:OkLoad P t u)(hu:Ba B w L u c2)(hc:∀j,j<c2.length->w.cell? ⟨b,off+j,none⟩=c2[j]?)
  (hx:ev σ x= .pointer (some ⟨b,off,none⟩)):∃val,Ga B w L u val/\XO P σ w (.load t x) val:=by
 obtain⟨val,h1,h2⟩:=kL (P:=P) (σ:=σ) h hu hx;exact⟨val,h1,h2 w hc⟩
def Awa:Item->MD->Prop| .box T _,md=>∃b c,md= .box b c T| .arr E e _,md=>∃v c,md= .own e.size E v c| .dead,_=>False
def Wq(off:Nat)(ns:List Value):MD->MD->Prop
 | .box b c T,md'=>md'= .box b (Bk c off ns) T
 | .own z E v c,md'=>md'= .own z E v (Bk c off ns)
 | .dead,_=>False
theorem MemR.root{B:Reg}(hm:MemR B w L s σs σ){i:Nat}{md:MD}(h:L[i]? =some md)(hd:Cs s.it i≠ .dead):oA B w L (Cs s.it i) md.cells/\Awa (Cs s.it i) md:=by
 obtain⟨md',h1,h2⟩:=hm.item rfl hd;rw[h]at h1;cases h1
 revert h2 hd
 cases Cs s.it i with
 |dead=>intro hd _;exact absurd rfl hd
 |box T v=>
  intro _ h2;cases md with
  |box b c T'=>obtain⟨rfl,h3⟩:=h2;exact⟨h3,b,c,rfl⟩
  |_=>exact h2.elim
 |arr E e l=>
  intro _ h2;cases md with
  |own z E' v c=>obtain⟨rfl,rfl,h3⟩:=h2;exact⟨h3,v,c,rfl⟩
  |_=>exact h2.elim
theorem Ast{t:TypeId}{G:Prop}(hr:Rel Z s σs A L σ w)(hd:Jf n ⟨d, .load t x,ty,pos,after,none⟩=true)(h:iD P s d t x k=some r):
  Xc P n ops ⟨d, .load t x,ty,pos,after,none⟩ Z s σs k r G A L σ w:=by
 have hm:=hr.mem;unfold iD at h;split at h
 ·rename_i i p hx;obtain⟨md,b,h1,h2,h3⟩:=Wz (Dl hm.sl hx rfl);have hne:Cs s.it i≠ .dead:=by intro e;rw[e]at h;simp[getRoot]at h
  obtain⟨h4,_⟩:=hm.root h1 hne;obtain⟨u,c1,c2,c3,hk,he,h5,h6⟩:=P2 h h4;obtain⟨hb,hk⟩:=Aq hk;have hc:=hr.cells h1 h2;obtain⟨val,h7,h8⟩:=Q5 (P:=P) (σ:=σ) (x:=x) (b:=b) (off:=Au p) (Pb hb) h6 (λj hj=>by
   rw[hc _ (by rw[he];simp;omega),he,SF F0,h5,show Au p+j-Au p=j by omega,I9 hj]) h3
  obtain⟨hv,hv'⟩:=Je h7;exact Eb hr hd h8 hv hv' hk
 ·cases h
mutual
theorem Ba.one{B:Reg}:∀{p:PV} {cs:List Value},Ba B w L p cs->L.all (λm=>match m with| .own _ _ v _=>v.oneCell'|_=>true)=true->∀v∈cs,v.oneCell'=true
 | .val e x,cs,h,_,v,hv=>Ax.one (show Ax B w e x cs from h) v hv
 | .agg l,cs,h,hL,v,hv=>Ba.nD (show Ba.go B w L l cs from h) hL v hv
 | .tup _,_,h,_,_,_=>h.elim
 | .nils,cs,h,_,v,hv=>by rw[show cs=_ from h]at hv;simp at hv;subst hv;rfl
 | .own i,cs,⟨z,E,u,c,h1,h2⟩,hL,v,hv=>by
  rw[h2]at hv;simp at hv;subst hv;exact List.all_eq_true.1 hL _ (UH h1)
 | .ptr i p,cs,⟨_,_,_,_,h⟩,_,v,hv=>by rw[h]at hv;simp at hv;subst hv;rfl
 | .rptr q,cs,⟨pv,_,h,⟨_,_,_,_,_,e,_⟩,_⟩,_,v,hv=>by rw[h]at hv;simp at hv;subst hv;rw[e];rfl
 | .wp _,cs,h,_,v,hv=>by rcases h with h|⟨_,_,_,_,h⟩<;>(rw[h]at hv;simp at hv;subst hv;rfl)
 | .fn f caps,cs,⟨_,h,_⟩,_,v,hv=>by rw[h]at hv;simp at hv;subst hv;rfl
 | .cap _ _ _,cs,⟨_,_,h,_,_,_,_,_,e⟩,_,v,hv=>by rw[h]at hv;simp at hv;subst hv;rw[e];rfl
 | .bfn _ _,cs,⟨_,h,_⟩,_,v,hv=>by rw[h]at hv;simp at hv;subst hv;rfl
 | .mp _ _ _,cs,⟨_,_,_,h,_⟩,_,v,hv=>by rw[h]at hv;simp at hv;subst hv;rfl
 | .cst u,cs,h,_,v,hv=>by rw[show cs=_ from h.1]at hv;simp at hv;subst hv;exact h.2
 | .any,cs,⟨u,h,h'⟩,_,v,hv=>by rw[h]at hv;simp at hv;subst hv;exact h'
 | .view _ _ _ _ _ _,cs,⟨_,u,_,h,_,_,⟨_,_,e,_⟩,_⟩,_,v,hv=>by rw[h]at hv;simp at hv;subst hv;rw[e];rfl
 | .gd _ _ _,_,h,_,_,_=>h.elim
 | .off,_,h,_,_,_=>h.elim
 | .undef,_,h,_,_,_=>h.elim
theorem Ba.nD{B:Reg}:∀{l:List PV} {cs:List Value},Ba.go B w L l cs->L.all (λm=>match m with| .own _ _ v _=>v.oneCell'|_=>true)=true->∀v∈cs,v.oneCell'=true
 |[],cs,h,_,v,hv=>by rw[show cs=[]from h]at hv;simp at hv
 |a::q,cs,⟨c1,c2,e,h1,h2⟩,hL,v,hv=>by
  subst e;rcases List.mem_append.1 hv with hv|hv
  ·exact Ba.one h1 hL v hv
  ·exact Ba.nD h2 hL v hv
end
theorem Rel.nD(hr:Rel Z s σs A L σ w):L.all (λm=>match m with| .own _ _ v _=>v.oneCell'|_=>true)=true:=by
 refine List.all_eq_true.2 λm hm=>?_;obtain⟨i,hi,he⟩:=mh hm;cases m with
 |own z E v c=>
  obtain⟨p,len,cap,rfl,_⟩:=hr.Pf (i:=i) (by rw[C? hi,he]);rfl
 |_=>rfl
theorem PQ{B:Reg}(hr:Rel Z s σs A L σ w)(h:Ga B w L p v):∃cs:List Value,v.cells=cs.toArray/\Ba B w L p cs:=by
 unfold Ga asV at h;split at h
 ·obtain⟨cs,rfl,h⟩:=h;exact⟨cs,rfl,h⟩
 ·refine⟨[v],?_,h⟩;have:=h.one hr.nD v (.head _);cases v<;>first|rfl|cases this
theorem RI.own{i z:Nat}{E:TypeId}{cs cs':List Value}(h:L[i]? =some (.own z E v cs)):RI L (L.set i (.own z E v cs')):=
 RI.set h (λ_ _ _ _ e=>by cases e;exact⟨_,_,_,rfl⟩) (λb hb=>by
  unfold MD.base at hb⊢;split at hb
  ·rename_i e;cases e
  ·rename_i e;cases e;exact hb
  ·cases hb)
theorem RI.box{i b:Nat}{T:TypeId}{cs cs':List Value}(h:L[i]? =some (.box b cs T)):RI L (L.set i (.box b cs' T)):=
 RI.set h (λ_ _ _ _ e=>by cases e) (λb hb=>hb)
theorem za{i:Nat}{md:MD}(h:L[i]? =some md):(L.map MD.Ex)[i]? =some md.Ex:=by simp[h]
theorem Ai6{t:TypeId}{a:Operand}{i b off z:Nat}{md:MD}{ns:List Value}{K:Env->World->Prop}{F:List Fact}(hr:St A w F (L.map MD.Ex))(h:L[i]? =some md)(hb:md.base=some b)
  (hsz:Im P t z) (ha:ev σ a= .pointer (some ⟨b,off,none⟩)) (hx:ev σ x=v) (hv:v.cells=ns.toArray) (hl:ns.length=z) (h1:ns.all (·.oneCell')=true) (hle:off+z<=md.cells.length) (hz:0<z)
  (hK:∀(w':World) (md':MD),St A w' F ((L.map MD.Ex).set i md'.Ex)->Wq off ns md md'->K σ w'):
  WL P n ops [⟨none, .store t a x,ty,pos,after,none⟩] K σ w:=by
 cases md with
 |dead=>cases hb
 |box b' cells T=>
  cases hb;exact WL.Ajd hr (za h) hsz ha hx hv hl h1 (by simpa [Nat.ble_eq,MD.cells]using hle) rfl rfl (λw' hs'=>WL.nil (hK w' (.box b (Bk cells off ns) T) hs' rfl))
 |own z' E u cells=>
  obtain⟨b',m,c,hu,hs'⟩:=St.C_ hr (za h) (by simp[MD.cells]at hle;omega);subst hu;cases hb;have hlen:i<(L.map MD.Ex).length:=by simpa using(List.getElem?_eq_some_iff.1 h).1
  have hL1:((L.map MD.Ex).set i (.at_ b z' E m c cells))[i]? =some (.at_ b z' E m c cells):=by rw[U2 hlen]
  refine WL.Alf hs' hL1 hsz ha hx hv hl h1 hle rfl rfl (λw' hs2=>WL.nil ?_);have hs3:=hs2.yX (i:=i) (b:=b) (s:=z') (m:=m) (c:=c) (E:=E) (cs:=Bk cells off ns) (by rw[U2 (by simpa using hlen)]);rw[fU,fU]at hs3;exact hK w' (.own z' E (.slice (some ⟨b,0,none⟩) m c) (Bk cells off ns)) hs3 rfl
end Go.Rx
namespace Go.Rx
open Go Go.Lv
variable{a x:Operand}{m p:PV}{v:Value}
variable {P:Program} {B:Reg} {w w':World} {L L':List MD} {s:S} {σs:List Env} {σ:Env} {Z:Fix} {A A':Reg} {n:Nat} {ops:Array Oper} {rest:List Oper} {K:Env->World->Prop}
variable {R:Type} {k:S->Option R} {r:R} {d:Option Nat} {ty:TypeId} {pos:String} {after:Array Edge}
structure Frz (B:Reg) (w:World) (L:List MD) (i:Nat) (m:PV):Prop where
 enc:∀z E v c,L[i]? =some (.own z E v c)->Ba B w (L.set i .dead) m [v]
 isA:m.isA=false
 isV:m.isV=true
theorem Als{i:Nat}(hm:m.isA=false):(subst i m p).isA=p.isA:=by
 cases p<;>try rfl
 ·rename_i j;simp only[subst];cases hb:Nat.beq i j with
  |true=>exact hm
  |false=>rfl
 ·rename_i j q;simp only[subst];cases hb:Nat.beq i j<;>rfl
 ·rename_i o j q e lo n;simp only[subst];cases hb:Nat.beq i j<;>rfl
 ·rename_i j;simp only[subst];cases hb:Nat.beq i j<;>rfl
theorem QT{i j:Nat}(h:Nat.beq i j=false):(L.set i .dead)[j]? =L[j]? :=by
 rw[SZ];intro e;subst e;simp at h
mutual
theorem YE{i:Nat}{m:PV}(hf:Frz B w L i m):∀{p:PV} {cs:List Value},Ba B w L p cs->Ba B w (L.set i .dead) (subst i m p) cs
 | .val _ x,cs,h=>h
 | .agg q,cs,h=>L6 hf (show Ba.go B w L q cs from h)
 | .tup _,_,h=>h.elim
 | .nils,cs,h=>h
 | .own j,cs,⟨z,E,v,c,h1,h2⟩=>by
  simp only[subst];cases hb:Nat.beq i j with
  |true=>
   have:=Bn hb;subst this;rw[h2];exact hf.enc _ _ _ _ h1
  |false=>exact⟨z,E,v,c,by rw[QT hb];exact h1,h2⟩
 | .ptr j q,cs,⟨md,b,h1,h2,h3⟩=>by
  simp only[subst];cases hb:Nat.beq i j with
  |true=>exact⟨_,h3,rfl⟩
  |false=>exact⟨md,b,by rw[QT hb];exact h1,h2,h3⟩
 | .view o j q e lo n,cs,⟨md,v,h1,h2,h3⟩=>by
  simp only[subst];cases hb:Nat.beq i j with
  |true=>
   obtain⟨_,_,⟨pt,cap,e',_⟩,_⟩:=h3;exact⟨v,h2,by rw[e'];rfl⟩
  |false=>exact⟨md,v,by rw[QT hb];exact h1,h2,h3⟩
 | .wp j,cs,h=>by
  simp only[subst];cases hb:Nat.beq i j with
  |true=>
   rcases h with h|⟨md,b,h1,h2,h3⟩
   ·exact⟨_,h,rfl⟩
   ·exact⟨_,h3,rfl⟩
  |false=>
   rcases h with h|⟨md,b,h1,h2,h3⟩
   ·exact .inl h
   ·exact .inr ⟨md,b,by rw[QT hb];exact h1,h2,h3⟩
 | .rptr v,cs,⟨pv,c0,h1,h2,h3⟩=>by
  exact⟨pv,c0,h1,h2,YE hf h3⟩
 | .fn f caps,cs,⟨vs,h1,h2⟩=>⟨vs,h1,ML hf h2⟩
 | .cap _ _ _,cs,h=>h
 | .bfn f fs,cs,⟨vs,h1,h2⟩=>⟨vs,h1,ML hf h2⟩
 | .mp st ks l,cs,⟨r,es,n,h1,h2,h3,h4,h5⟩=>⟨r,es,n,h1,h2,h3,h4,ML hf h5⟩
 | .cst v,cs,h=>h
 | .any,cs,h=>h
 | .gd _ _ _,_,h=>h.elim
 | .off,_,h=>h.elim
 | .undef,_,h=>h.elim
theorem L6{i:Nat}{m:PV}(hf:Frz B w L i m):∀{q:List PV} {cs:List Value},Ba.go B w L q cs->Ba.go B w (L.set i .dead) (subst.go i m q) cs
 |[],cs,h=>h
 |a::q,cs,⟨c1,c2,e',h1,h2⟩=>⟨c1,c2,e',YE hf h1,L6 hf h2⟩
theorem ML{i:Nat}{m:PV}(hf:Frz B w L i m):∀{q:List PV} {vs:List Value},Ek B w L q vs->Ek B w (L.set i .dead) (subst.go i m q) vs
 |[],vs,h=>h
 |a::q,vs,⟨v,vs',e',h1,h2⟩=>⟨v,vs',e',by rw[Als hf.isA];exact h1.mono λc h=>YE hf h,ML hf h2⟩
end
theorem Axm {i:Nat}(hf:Frz B w L i m)(h:Ga B w L p v):Ga B w (L.set i .dead) (subst i m p) v:=by
 unfold Ga;rw[Als hf.isA];exact asV.mono (λc h=>YE hf h) h
theorem G6{i:Nat}(hf:Frz B w L i m)(h:Ef B w L p v):Ef B w (L.set i .dead) (subst i m p) v:=by
 cases hp:p.xq with
 |true=>exact(Je (Axm hf ((cM hp).1 h))).2
 |false=>
  cases p
  case tup q=>obtain⟨vs,h1,h2⟩:=h;exact⟨vs,h1,ML hf h2⟩
  case undef=>exact(show False from h).elim
  case off=>exact(show False from h).elim
  case gd=>exact(show False from h).elim
  all_goals cases hp
theorem Axu{i:Nat}(hf:Frz B w L i m){t:Nat}(h:Gx B w L σ t p):Gx B w (L.set i .dead) σ t (subst i m p):=by
 cases hv:p.isV with
 |true=>
  have h1:=G6 hf ((Gx.iff hv).1 h);have h2:(subst i m p).isV=true:=by
   cases p<;>first|rfl|cases hv|skip
   ·rename_i j;simp only[subst];cases Nat.beq i j;rfl;exact hf.isV
   ·rename_i j q;simp only[subst];cases Nat.beq i j<;>rfl
   ·rename_i o j q e lo n;simp only[subst];cases Nat.beq i j<;>rfl
   ·rename_i j;simp only[subst];cases Nat.beq i j<;>rfl
  exact(Gx.iff h2).2 h1
 |false=>
  rcases Ve hv with rfl|rfl|⟨j,u,q,rfl⟩
  ·exact trivial
  ·exact h
  ·obtain⟨b,h1,h2,h3⟩:=h;exact⟨b,h1,λe=>G6 hf (h2 e),h3⟩
theorem At4{i:Nat}(hf:Frz B w L i m){sl:Slots}(h:Fp B w L σ sl):Fp B w (L.set i .dead) σ (dJ i m sl):=by
 intro p hp;obtain⟨q,hq,rfl⟩:=List.mem_map.1 hp;exact Axu hf (h q hq)
theorem Apu{i:Nat}{m:PV}(hf:Frz B w L i m):∀{σs:List Env} {st:List Slots},bN B w L σs st->bN B w (L.set i .dead) σs (st.map (dJ i m))
 |[],[],h=>h
 |_::_,_::_,⟨h1,h2⟩=>⟨At4 hf h1,Apu hf h2⟩
theorem Aat{i:Nat}(hf:Frz B w L i m){a:Item}{md:MD}(h:Xo B w L a md):Xo B w (L.set i .dead) (tV i m a) md:=by
 cases a<;>cases md<;>first
  |exact h
  |exact⟨h.1,YE hf h.2⟩
theorem MemR.subst(hm:MemR B w L s σs σ){i:Nat}(hf:Frz B w L i m):MemR B w (L.set i .dead) ((s.Mr i .dead).sub i m) σs σ:=by
 refine⟨⟨?_,?_⟩,At4 hf hm.sl,Apu hf hm.stk⟩
 ·simp[S.sub,S.Mr,LG,hm.it.1]
 ·intro j a md g1 g2;simp only[S.sub,S.Mr,V?,YO]at g1;obtain⟨a0,g3,rfl⟩:=g1;rcases LA g3 with⟨rfl,rfl⟩|⟨g4,g5⟩
  ·trivial
  ·rw[SZ (S? g4)]at g2;exact Aat hf (hm.it.2 j a0 md g5 g2)
theorem qH(hr:Rel Z s σs A L σ w){i:Nat}{s':S}(h:s.freeze i=some s'):∃A',Rel Z s' σs A' (L.set i .dead) σ w/\∃E e l,Cs s.it i= .arr E e l/\s'=(s.Mr i .dead).sub i (.val (.list e) l):=by
 unfold S.freeze at h;split at h
 ·rename_i E e l hi;cases h;have hm:=hr.mem;obtain⟨v,cs,h1,h2⟩:=hm.arr hi;have hR:∀b,¬A b->Z.R b:=λb hb=>by
   rcases VE b Z.w0.heap.size with hlt|hge
   ·have hold:=(hr.fact 1 (f:= .old Z.M Z.w0) rfl).2 b hlt;exact Z.mod b (VJ λhM=>hb (hold hM).1)
   ·exact Z.new b hge
  obtain⟨A',hA,hs'⟩:=St.freeze hr (hr.Ex h1) rfl Z.R hR;have hs2:=Cu.mM (hs'.d_ 1 0) (Ws (m':=MD.dead.Ex) (hr.Ex h1));have hm2:MemR (λb=>A' b/\Z.R b) w L s σs σ:=hs2.fact 1 rfl;have hrd:Rd (λb=>A' b/\Z.R b) w e.size v cs:=hs2.fact 0 (f:= .rd Z.R e.size v cs) rfl;have hall:=h2.mono (g:=Ax (λb=>A' b/\Z.R b) w e) λx c h=>Ax.step (λb hb=>⟨hA b hb.1,hb.2⟩) (λ_ _=>rfl) h;have hf:Frz (λb=>A' b/\Z.R b) w L i (.val (.list e) l):=⟨λz E' v' c' h=>by rw[h1]at h;cases h;exact⟨v,cs,rfl,hrd,hall⟩,rfl,rfl⟩;exact⟨A',Rel.as hs2 (i:=2) rfl (hm2.subst hf) (by rw[VR]),E,e,l,hi,rfl⟩
 ·cases h
theorem Qr:∀{is:List Nat} {s s':S} {A:Reg} {L:List MD},Rel Z s σs A L σ w->s.AV is=some s'->∃A' L',Rel Z s' σs A' L' σ w/\ (is=[]->s'=s/\A'=A/\L'=L)
 |[],s,s',A,L,hr,h=>by simp only[S.AV,HN]at h;subst h;exact⟨A,L,hr,λ_=>⟨rfl,rfl,rfl⟩⟩
 |i::is,s,s',A,L,hr,h=>by
  simp only[S.AV]at h;split at h
  ·obtain⟨A',L',h1,_⟩:=Qr hr h;exact⟨A',L',h1,λe=>by cases e⟩
  ·cases h
  ·split at h
   ·rename_i s1 h1;obtain⟨A1,h2,_⟩:=qH hr h1;obtain⟨A',L',h3,_⟩:=Qr h2 h;exact⟨A',L',h3,λe=>by cases e⟩
   ·cases h
theorem Atw(h:D4 p=true):p.xq=true:=by cases p<;>first|rfl|cases h
theorem NK{B:Reg}(hm:Fp B w L σ s.sl)(h:(Eh s.sl x).xq=true):Ga B w L (Eh s.sl x) (ev σ x):=(cM h).1 (Qk hm x (PV.ig h))
theorem Azs {s':S}(hr:Rel Z s σs A L σ w)(h:J9 s a x=some s'):∃A' L',Rel Z s' σs A' L' σ w:=by
 unfold J9 at h;split at h
 ·split at h
  ·obtain⟨A',L',h1,_⟩:=Qr hr h;exact⟨A',L',h1⟩
  ·cases h;exact⟨A,L,hr⟩
 ·cases h
theorem oA.step{B B':Reg}{w w':World}(hb:∀b,B b->B' b)(hs:Same B w w')(hl:RI L L'){a:Item}{cs:List Value}(h:oA B w L a cs):oA B' w' L' a cs:=by
 cases a with
 |dead=>exact h
 |box T v=>exact Ba.step hb hs hl h
 |arr E e l=>exact Cj.mono (λx c h=>Ax.step hb hs h) h
def Q3(R:Reg)(L:List MD)(a:Item)(cs:List Value):Fact where
 holds A w:=oA (λb=>A b/\R b) w L a cs
 step h ha hs _:=h.step (λb ⟨h1,h2⟩=>⟨ha b h1,h2⟩) (λb ⟨h1,_⟩=>hs b h1) (.refl L)
theorem Ana{t:TypeId}(hr:Rel Z s σs A L σ w)(h:xw P s t a x k=some r):
  Xc P n ops ⟨none, .store t a x,ty,pos,after,none⟩ Z s σs k r False A L σ w:=by
 unfold xw at h;split at h
 ·cases h
 ·rename_i s1 hs1;obtain⟨A1,L1,hr1⟩:=Azs hr hs1;have hm:=hr1.mem;split at h
  ·rename_i i p ha;split at h
   ·rename_i inf Rz;obtain⟨hb,h⟩:=Aq h;simp only[A9]at hb;obtain⟨md,b,h1,h2,h3⟩:=Wz (Dl hm.sl ha rfl);obtain⟨ns,h4,h5⟩:=PQ hr1 (NK hm.sl (Atw hb.1.1));have hne:Cs s1.it i≠ .dead:=by intro e;rw[e]at h;simp[C8]at h
    obtain⟨h6,h7⟩:=hm.root h1 hne;obtain⟨a',hk,h8,h9,h10⟩:=Abt h5 h h6;have hlen:=h5.len;have hz:=Bn hb.1.2;have hz0:0<inf.size:=by simpa [Nat.blt_eq]using hb.2
    have hrF:=St.qP (f:=Q3 Z.R L1 a' (Bk md.cells (Au p) ns)) hr1 h9;refine Ai6 hrF h1 h2 ⟨inf,Rz,rfl⟩ h3 rfl h4 (hlen.trans hz.symm) (List.all_eq_true.2 (h5.one hr1.nD)) (by rw[hz,<-hlen];exact h8) hz0 (λw' md' hs' hmd=>?_);have h11:oA (λb=>A1 b/\Z.R b) w' L1 a' (Bk md.cells (Au p) ns):=hs'.fact 0 rfl;have hs2:=hs'.xV
    revert h7 h10
    cases hi:Cs s1.it i with
    |dead=>exact absurd hi hne
    |box T v0=>
     rintro⟨b0,c0,rfl⟩ h10;simp only[Wq]at hmd;subst hmd;have key:=RI.box (cs':=Bk (MD.box b0 c0 T).cells (Au p) ns) h1;refine⟨_,A1,_,hk,Rel.change hs2 h1 key ?_,λh=>h.elim⟩;cases a' with
     |box T' v'=>simp only[sameKind]at h10;subst h10;exact⟨rfl,Ba.step (λ_ h=>h) (λ_ _=>rfl) key h11⟩
     |dead=>exact h11.elim
     |arr _ _ _=>exact h10.elim
    |arr E e l=>
     rintro⟨v0,c0,rfl⟩ h10;simp only[Wq]at hmd;subst hmd;have key:=RI.own (cs':=Bk (MD.own e.size E v0 c0).cells (Au p) ns) h1;refine⟨_,A1,_,hk,Rel.change hs2 h1 key ?_,λh=>h.elim⟩;cases a' with
     |arr E' e' l'=>obtain⟨rfl,rfl⟩:=h10;exact⟨rfl,rfl,h11⟩
     |dead=>exact h11.elim
     |box _ _=>exact h10.elim
   ·cases h
  ·cases h
end Go.Rx
namespace Go.Rx
open Go Go.Lv
variable{x:Operand}{p:PV}{v:Value}
variable {P:Program} {B:Reg} {w w':World} {L L':List MD} {s:S} {σs:List Env} {σ:Env} {Z:Fix} {A A':Reg} {n:Nat} {ops:Array Oper} {rest:List Oper} {K:Env->World->Prop}
variable {R:Type} {k:S->Option R} {r:R} {d:Option Nat} {ty:TypeId} {pos:String} {after:Array Edge}
theorem FP{t:TypeId}(h:zeroOf P t=some p):∃z,(∃i,P.info? t=some i/\i.zero=some z)/\∀(B:Reg) (w:World) (L:List MD),Ba B w L p z.cells.toList:=by
 unfold zeroOf at h;split at h
 ·rename_i i hi;split at h
  ·rename_i z hz;exact⟨z,⟨i,hi,hz⟩,λB w L=>cJ h⟩
  ·cases h
 ·cases h
theorem tS{md:MD}{b:Nat}(hb:md.base=some b){B:Reg}:Ef B w (L++[md]) (.ptr L.length []) (.pointer (some ⟨b,0,none⟩)):=⟨md,b,F8,hb,rfl⟩
theorem rC{z:Nat}{E:TypeId}{c:List Value}{B:Reg}:Ef B w (L++[.own z E v c]) (.own L.length) v:=⟨z,E,v,c,F8,rfl⟩
theorem Rel.len(hr:Rel Z s σs A L σ w):s.it.length=L.length:=hr.mem.it.1
theorem Rel.lt(hr:Rel Z s σs A L σ w):∀b,A b->b<w.heap.size:=St.lt hr
def jf(A0:Reg)(w0:World):Fact where
 holds A w:=(∀b,A0 b->A b)/\Same A0 w0 w
 step h ha hs _:=⟨λb hb=>ha b (h.1 b hb),λb hb=>(hs b (h.1 b hb)).trans (h.2 b hb)⟩
theorem Rel.same(hr:Rel Z s σs A L σ w):St A w [jf A w,Oy Z.R L s σs σ, .old Z.M Z.w0] (L.map MD.Ex):=St.qP (f:=jf A w) hr ⟨λ_ h=>h,λ_ _=>rfl⟩
theorem XT{w':World}{A':Reg}{a:Item}{md:MD}{dn:Nat}{G:Prop}(hr:Rel Z s σs A L σ w)(hs:St A' w' [jf A w,Oy Z.R L s σs σ, .old Z.M Z.w0] (md.Ex::L.map MD.Ex))
  (ha:Xo (λb=>A' b/\Z.R b) w' (L++[md]) a md) (hv:p.isV=true) (hp:∀B,Ef B w' (L++[md]) p v) (hk:k ((s.add a).Gc (some dn) p)=some r):
  Y3 Z σs k r G A L s.it w (Mr σ dn v) w':=by
 obtain⟨h1,h2⟩:(∀b,A b->A' b)/\Same A w w':=hs.fact 0 rfl;have hr':=Rel.push hs.xV ha;exact⟨_,A',L++[md],hk,hr'.Gc (d:=some dn) hv (hp _),λ_=>⟨h1,h2,⟨[md],rfl⟩,⟨[a],rfl⟩⟩⟩
theorem ME{o:Op}{dn:Nat}(h:Jf n ⟨some dn,o,ty,pos,after,none⟩=true):Nat.blt dn n=true:=h
theorem Am4{t:TypeId}{v:PV}{dn:Nat}{G:Prop}(hr:Rel Z s σs A L σ w)(hd:Jf n ⟨some dn, .alloc t,ty,pos,after,none⟩=true)(hz:zeroOf P t=some v)
  (hk:k ((s.add (.box t v)).Gc (some dn) (.ptr s.new []))=some r):Xc P n ops ⟨some dn, .alloc t,ty,pos,after,none⟩ Z s σs k r G A L σ w:=by
 obtain⟨z,h1,h2⟩:=FP hz;refine WL.alloc (cells:=z.cells.toList) hr.same (ME hd) h1 F8 (λb w' hs'=>WL.nil ?_);refine XT (a:= .box t v) (md:= .box b z.cells.toList t) hr hs' ⟨rfl,h2 _ _ _⟩ rfl (λB=>?_) hk;rw[S.new,hr.len];exact tS rfl
theorem Awk{t:TypeId}{dn:Nat}{G:Prop}(hr:Rel Z s σs A L σ w)(hd:Jf n ⟨some dn, .box t x,ty,pos,after,none⟩=true)(hx:D4 (Eh s.sl x)=true)
  (hk:k ((s.add (.box t (Eh s.sl x))).Gc (some dn) (.ptr s.new []))=some r):Xc P n ops ⟨some dn, .box t x,ty,pos,after,none⟩ Z s σs k r G A L σ w:=by
 obtain⟨cs,h1,h2⟩:=PQ hr (NK hr.mem.sl (Atw hx));have hF:=St.qP (f:=Q3 Z.R L (.box t (Eh s.sl x)) cs) hr.same h2;refine WL.box hF (ME hd) rfl h1 (λb w' hs'=>WL.nil ?_);have h3:oA (λb=>A b/\Z.R b) w' L (.box t (Eh s.sl x)) cs:=hs'.fact 0 rfl;refine XT (a:= .box t (Eh s.sl x)) (md:= .box b cs t) hr hs'.xV ⟨rfl,Ba.step (λ_ h=>h) (λ_ _=>rfl) (RI.append _ _) h3⟩ rfl (λB=>?_) hk;rw[S.new,hr.len];exact tS rfl
theorem yg{a t e:TypeId}{l:List UInt8}{dn:Nat}{G:Prop}(hr:Rel Z s σs A L σ w)(hd:Jf n ⟨some dn, .convert a t x,ty,pos,after,none⟩=true)(ha:P.underlying a=some .string)(ht:P.underlying t=some (.slice e))
  (he:P.underlying e=some (.int .u8)) (hx:Eh s.sl x= .val .str l) (hk:k ((s.add (.arr e (.int .u8) l)).Gc (some dn) (.own s.new))=some r):Xc P n ops ⟨some dn, .convert a t x,ty,pos,after,none⟩ Z s σs k r G A L σ w:=by
 refine WL.s2b ha ht he hr.same (ME hd) (Qs hr.mem.sl hx) (λp m c w' hs'=>WL.nil ?_);refine XT (a:= .arr e (.int .u8) l) (md:= .own 1 e (.slice p m c) (We l)) hr hs' ⟨rfl,rfl,HG⟩ rfl (λB=>?_) hk;rw[S.new,hr.len];exact rC
where HG:∀{B:Reg} {w:World} {l:List UInt8},Cj (Ax B w (.int .u8)) l (We l)
 |_,_,[]=>rfl
 |_,_,x::l=>⟨[iv x],We l,rfl,rfl,HG⟩
theorem Apy{t e E:TypeId}{i:Nat}{y:UInt8}{ys:List UInt8}{dn:Nat}{G:Prop}(hr:Rel Z s σs A L σ w)(hd:Jf n ⟨some dn, .convert t t x,ty,pos,after,none⟩=true)(ht:P.underlying t=some (.slice e))
  (he:P.underlying e=some (.int .u8)) (hx:Eh s.sl x= .own i) (hi:Cs s.it i= .arr E (.int .u8) (y::ys)) (hk:k (s.Gc (some dn) (.own i))=some r):Xc P n ops ⟨some dn, .convert t t x,ty,pos,after,none⟩ Z s σs k r G A L σ w:=by
 obtain⟨v,cs,h1,h2⟩:=hr.mem.arr hi;have hne:0<cs.length:=by
  obtain⟨c,c',e1,e2,_⟩:=h2;rw[e1,A?];have:c.length=(ET.int .u8).size:=Ax.len e2;rw[this];have:(ET.int Kd.u8).size=1:=rfl;omega
 have hvr:Ef (λb=>A b/\Z.R b) w L (.own i) (ev σ x):=by
  have:=Dl hr.mem.sl hx rfl;exact this
 have hev:ev σ x=v:=by
  obtain⟨z,E',v',c,g1,g2⟩:=hvr;rw[h1]at g1;cases g1;simpa using g2
 have hL:(L.map MD.Ex)[i]? =some (.own 1 E v cs):=by rw[V?,h1];rfl
 refine WL.Ayj ht he hr.same hL hne (ME hd) hev (λw' hs'=>WL.nil ?_);obtain⟨g1,g2⟩:(∀b,A b->A b)/\Same A w w':=hs'.fact 0 rfl;have hr':Rel Z s σs A L σ w':=hs'.xV;exact⟨_,A,L,hk,hr'.Gc (d:=some dn) (p:= .own i) rfl ⟨_,_,_,_,h1,rfl⟩,λ_=>⟨g1,g2,⟨[],F8⟩,⟨[],by simp[S.Gc,S.set]⟩⟩⟩
theorem xD{t:TypeId}{e:ET}(h:H7 P t e=true):ElemOk P t e.size:=by
 unfold H7 at h;split at h
 ·rename_i i hi;simp only[A9]at h;obtain⟨⟨⟨h1,h2⟩,h3⟩,h4⟩:=h;split at h3
  ·rename_i z hz;exact⟨⟨i,z,hi,Bn h1,hz,Bn h3,U3 h2⟩,by have:=U3 h4;omega⟩
  ·cases h3
 ·cases h
theorem XH{t E:TypeId}(h:uZ P t=some E):P.underlying t=some (.slice E):=by
 unfold uZ at h;split at h
 ·rename_i e he;cases h;exact he
 ·cases h
theorem H'{e:ET}{x:e.T}{c:List Value}(h:Ax B w e x c):∀m,Cj (Ax B w e) (List.replicate m x) (List.replicate m c).flatten
 |0=>rfl
 |m+1=>⟨c,(List.replicate m c).flatten,rfl,h,H' h m⟩
theorem Arh{t:TypeId}{a b:Operand}{dn:Nat}{G:Prop}(hr:Rel Z s σs A L σ w)(hd:Jf n ⟨some dn, .makeSlice t a b,ty,pos,after,none⟩=true)(h:jB P s (some dn) t a b k=some r):
  Xc P n ops ⟨some dn, .makeSlice t a b,ty,pos,after,none⟩ Z s σs k r G A L σ w:=by
 unfold jB at h;split at h
 ·cases h
 ·rename_i E hE;split at h
  ·cases h
  ·rename_i e he;obtain⟨hb,h⟩:=Aq h;split at h
   ·rename_i m m' z hm hm' hz;split at h
    ·rename_i x hx;obtain⟨l,hl,h⟩:=bind_some h;obtain⟨_,hq,h⟩:=bind_some h;obtain⟨h1,h2,rfl⟩:=pU hl;have h3:m'=m:=by have:=Un hq;simpa [geq,GI.toZ]using this
     subst h3;obtain⟨zv,hz1,hz2⟩:=FP hz;have ea:=R7 hm (Qk hr.mem.sl a (A! hm));have eb:=R7 hm' (Qk hr.mem.sl b (A! hm'));refine WL.makeSlice (XH hE) (xD hb) hz1 (zs:=zv.cells.toList) F8 hr.same (ME hd) (m:=m'.toNat) (by rw[<-h1];exact ea) (by rw[<-h1];exact eb) h2 (λp q c w' hs'=>WL.nil ?_);refine XT (a:= .arr E e (List.replicate m'.toNat x)) (md:= .own e.size E (.slice p q c) (List.replicate m'.toNat zv.cells.toList).flatten) hr hs' ⟨rfl,rfl,H' (PJ hx (hz2 _ _ (L++[]))) _⟩ rfl (λB=>?_) h;rw[S.new,hr.len];exact rC
    ·cases h
   ·cases h
end Go.Rx
namespace Go.Rx
open Go Go.Lv
variable{vw:Bool}{e:ET}{x y:Operand}{p:PV}{v:Value}
variable {P:Program} {B:Reg} {w w':World} {L L':List MD} {s:S} {σs:List Env} {σ:Env} {Z:Fix} {A A':Reg} {n:Nat} {ops:Array Oper} {rest:List Oper} {K:Env->World->Prop}
variable {R:Type} {k:S->Option R} {r:R} {d:Option Nat} {ty:TypeId} {pos:String} {after:Array Edge}
theorem Y3.of{G:Prop}{s1:S}{A1:Reg}{L1:List MD}{σ':Env}(h:G->s1=s/\A1=A/\L1=L)(hp:Y3 Z σs k r G A1 L1 s1.it w σ' w'):Y3 Z σs k r G A L s.it w σ' w':=by
 obtain⟨s',A',L',h1,h2,h3⟩:=hp;refine⟨s',A',L',h1,h2,λg=>?_⟩;obtain⟨e1,e2,e3⟩:=h g;subst e1 e2 e3;exact h3 g
theorem isEmpty_nil{α:Type}{l:List α}(h:l.isEmpty=true):l=[]:=by cases l<;>simp_all
theorem i_{z:Nat}(h:Nat.ble 1 z=true):0<z:=by have:=U3 h;omega
theorem Rel.kZ(hr:Rel Z s σs A L σ w){i z:Nat}{E:TypeId}{cs:List Value}(h:L[i]? =some (.own z E v cs)):
  ∃q len cap,v= .slice q len cap/\cs.length=len*z/\len<=cap/\ (q=none->cap=0)/\ (0<cap->∃b,q=some ⟨b,0,none⟩/\ (MD.own z E v cs).base=some b):=by
 obtain⟨o,q,len,cap,h1,h2,h3,h4,h5,h6⟩:=Cu.mem (A:=A) (St.mobs hr) (hr.Ex h);refine⟨q,len,cap,h1,h2,h3,h4,λhc=>?_⟩;cases o with
 |none=>have:=h4 (h5 rfl);omega
 |some b=>
  obtain⟨arr,fr,e1,_⟩:=h6 b rfl;subst h1 e1;exact⟨b,rfl,rfl⟩
theorem X.vN{t e:TypeId}{z len cap a b:Nat}{p:Option Addr}{lo hi:Option Operand}(ht:P.underlying t=some (.slice e))(hsz:Im P e z)(h1:a<=b)(h2:b<=len)(h3:len<=cap)(hx:ev σ x= .slice p len cap)
  (hlo:(∃q,lo.map (ev σ)=some (.int q (a:Int)))\/ (lo=none/\a=0)) (hhi:(∃q,hi.map (ev σ)=some (.int q (b:Int)))\/ (hi=none/\b=len)):
  XO P σ w (.slice t x lo hi none) (.slice (if cap=a then p else p.map (·.add (a*z))) (b-a) (cap-a)):=λ_ _ _ _ _=>by
 have hr:=Ada (P:=P) (w:=w) (p:=p) (vlo:=lo.map (ev σ)) (vhi:=hi.map (ev σ)) ht hsz h1 h2 h3 (by rcases hlo with h|⟨h,h'⟩;exact .inl h;exact .inr ⟨by rw[h];rfl,h'⟩)
   (by rcases hhi with h|⟨h,h'⟩;exact .inl h;exact .inr ⟨by rw[h];rfl,h'⟩)
 simp only[execOp,hx,Instr.sliceAt,C1,A_ ht,B8,XZ,hr,I7]
theorem X.Anx{t u e:TypeId}{z m a b:Nat}{ad:Addr}{lo hi:Option Operand}(ht:dW P t=some (u,m,e))(hsz:Im P e z)(h1:a<=b)(h2:b<=m)(hx:ev σ x= .pointer (some ad))
  (hlo:(∃q,lo.map (ev σ)=some (.int q (a:Int)))\/ (lo=none/\a=0)) (hhi:(∃q,hi.map (ev σ)=some (.int q (b:Int)))\/ (hi=none/\b=m)):
  XO P σ w (.slice t x lo hi none) (.slice (some (if m=a then ad else ad.add (a*z))) (b-a) (m-a)):=λ_ _ _ _ _=>by
 have hlo':(∃q,lo.map (ev σ)=some (.int q (a:Int)))\/ (lo.map (ev σ)=none/\a=0):=hlo.imp id λh=>⟨by rw[h.1];rfl,h.2⟩;have hhi':(∃q,hi.map (ev σ)=some (.int q (b:Int)))\/ (hi.map (ev σ)=none/\b=m):=hhi.imp id λh=>⟨by rw[h.1];rfl,h.2⟩;unfold dW at ht;split at ht
 ·rename_i m' et hu;cases ht;simp only[execOp,hx,Instr.sliceAt,C1,A_ hu,B8,XZ];generalize lo.map (ev σ)=vlo at hlo'⊢;generalize hi.map (ev σ)=vhi at hhi'⊢;clear hlo hhi;rcases hlo' with⟨q,rfl⟩|⟨rfl,rfl⟩<;>rcases hhi' with⟨q',rfl⟩|⟨rfl,rfl⟩<;>
   simp[Instr.sureAddr,Instr.sliceBounds,Instr.sliceBound,asIntOf,Ca hsz,h1,h2]
 ·rename_i u' hp;split at ht
  ·rename_i m' et hu;cases ht;simp only[execOp,hx,Instr.sliceAt,C1,A_ hp,B8,XZ];generalize lo.map (ev σ)=vlo at hlo'⊢;generalize hi.map (ev σ)=vhi at hhi'⊢;clear hlo hhi;rcases hlo' with⟨q,rfl⟩|⟨rfl,rfl⟩<;>rcases hhi' with⟨q',rfl⟩|⟨rfl,rfl⟩<;>
    simp[Instr.slice,A_ hp,A_ hu,Instr.sliceBounds,Instr.sliceBound,asIntOf,Ca hsz,h1,h2,asAddr]
  ·cases ht
 ·cases ht
theorem Aqs{t et:TypeId}{lo hi:Option Operand}{G:Prop}(hr:Rel Z s σs A L σ w)(hd:Jf n ⟨d, .slice t x lo hi none,ty,pos,after,none⟩=true)(ht:P.underlying t=some (.slice et))(h:i! P s d et (Eh s.sl x) lo hi k=some r):
  Xc P n ops ⟨d, .slice t x lo hi none,ty,pos,after,none⟩ Z s σs k r G A L σ w:=by
 have hm:=hr.mem;unfold i! at h;split at h
 ·cases h
 ·rename_i inf Rz;split at h
  ·rename_i i hx;split at h
   ·rename_i E e l hi';obtain⟨hb,h⟩:=Aq h;simp only[A9]at hb;split at h
    ·rename_i a b ha hb';obtain⟨_,hok,h⟩:=bind_some h;have hab:0<=a/\a<=b/\b<=Ad l:=UT (Un hok);obtain⟨u,cs,h1,h2⟩:=hm.arr hi';obtain⟨z',E',c',h3⟩:=HC (Dl hm.sl hx rfl);rw[h1]at h3;have h3':=h3;cases h3;obtain⟨q,len,cap,g1,g2,g3,g4,g5⟩:=hr.kZ h1;have hz:0<e.size:=by have:=U3 hb.2;omega
     have hl:len=l.length:=SY hz (g2.symm.trans (h2.len λx c h=>Ax.len h));obtain⟨a1,ha1⟩:=R9 hab.1;obtain⟨b1,hb1⟩:=R9 (show 0<=b by omega);subst ha1 hb1;have hbl:b1<=len:=by rw[hl];have:=hab.2.2;unfold Ad at this;omega
     have hxo:=X.vN (P:=P) (σ:=σ) (w:=w) (x:=x) (lo:=lo) (hi:=hi) (a:=a1) (b:=b1) ht (Fk Rz hb.1) F0 hbl g3 g1
      (by rcases Kv hm.sl ha with h|⟨h,h'⟩;exact .inl h;exact .inr ⟨h,F0⟩) (by rcases Kv hm.sl hb' with h|⟨h,h'⟩;exact .inl h;exact .inr ⟨h,by unfold Ad at h';omega⟩)
     rw[g1]at h1;refine Eb (p:= .view true i [] e a1 (b1-a1)) hr hd hxo rfl ⟨_,_,h1,rfl,F0,F0,⟨_,_,by rw[show((b1:Int)-a1).toNat=b1-a1 by omega],F0,λhn=>?_,λhc=>?_⟩,
      (λ_=>⟨_,_,q,len,cap,cs,rfl,rfl,F0,λpt m c' hv=>?_,λh0=>?_⟩),(λh=>by cases h)⟩ h
     ·split at hn
      ·omega
      ·have:q=none:=by simpa using hn
       have:=g4 this;omega
     ·obtain⟨bb,e1,e2⟩:=g5 F0;rw[g1]at e2;refine⟨bb,e2,?_⟩;rw[A4 F0,e1];simp[Lb,Au]
     ·cases hv;simp only[C'];omega
     ·have ha0:a1=0:=F0
      subst ha0;rw[show((b1:Int)-(0:Nat)).toNat=b1 by omega];simp only[bU];congr 1;split
      ·rfl
      ·by_cases hc:0<cap
       ·obtain⟨bb,e1,_⟩:=g5 hc;rw[e1];simp[Lb]
       ·omega
    ·cases h
   ·cases h
  ·rename_i o i p e l0 n' hx;obtain⟨hb,h⟩:=Aq h;simp only[A9]at hb;split at h
   ·rename_i a b ha hb';obtain⟨_,hok,hk⟩:=bind_some h;have hab:0<=a/\a<=b/\b<=n':=UT (Un hok);obtain⟨md,v1,h3,h4,k1,k2,⟨pt,cap,k3,k4,k5,k6⟩,k7,k8⟩:=Dl hm.sl hx rfl;have h6:ev σ x=v1:=by simpa using h4
    obtain⟨a1,ha1⟩:=R9 hab.1;obtain⟨b1,hb1⟩:=R9 (show 0<=b by omega);obtain⟨l1,hl1⟩:=R9 k1;obtain⟨n1,hn1⟩:=R9 k2;subst ha1 hb1 hl1 hn1;simp only[C']at k3 k4 k6 k7;have hxo:=X.vN (P:=P) (σ:=σ) (w:=w) (x:=x) (lo:=lo) (hi:=hi) (a:=a1) (b:=b1) ht (Fk Rz hb.1) F0 F0 k4 (h6.trans k3)
     (by rcases Kv hm.sl ha with h|⟨h,h'⟩;exact .inl h;exact .inr ⟨h,F0⟩) (by rcases Kv hm.sl hb' with h|⟨h,h'⟩;exact .inl h;exact .inr ⟨h,F0⟩)
    have e0:((l1:Int)+a1).toNat=l1+a1:=F0
    refine Eb (p:= .view o i p e (l1+a1) (b1-a1)) hr hd hxo rfl ⟨md,_,h3,rfl,F0,F0,⟨_,_,by rw[show((b1:Int)-a1).toNat=b1-a1 by omega],F0,λhn=>?_,λhc=>?_⟩,(λho=>?_),k8⟩ hk
    ·split at hn
     ·omega
     ·have:pt=none:=by simpa using hn
      have:=k5 this;omega
    ·obtain⟨bb,e1,e2⟩:=k6 F0;refine⟨bb,e1,?_⟩;rw[A4 F0,e2,e0];simp[Lb,B5,K7]
    ·obtain⟨s',E',q,len,cap0,c0,e1,e2,e3,e4,e5⟩:=k7 ho;have e6:=e4 _ _ _ k3;refine⟨s',E',q,len,cap0,c0,e1,e2,F0,λpt' m c' hv=>?_,λh0=>?_⟩
     ·cases hv;omega
     ·have h00:l1=0/\a1=0:=F0
      obtain⟨rfl,rfl⟩:=h00;have e7:=e5 rfl;rw[k3]at e7;cases e7;rw[show((b1:Int)-(0:Nat)).toNat=b1 by omega];simp only[bU];congr 1;split
      ·rfl
      ·by_cases hc:0<cap
       ·obtain⟨bb,_,e8⟩:=k6 hc;rw[e8];simp[Lb]
       ·omega
   ·cases h
  ·cases h
theorem Akp{t:TypeId}{lo hi:Option Operand}{G:Prop}(hr0:Rel Z s σs A L σ w)(hd:Jf n ⟨d, .slice t x lo hi none,ty,pos,after,none⟩=true)(h:ze vw s d t x lo hi k P=some r)(hG:G-> (owns (Eh s.sl x)).isEmpty=true):
  Xc P n ops ⟨d, .slice t x lo hi none,ty,pos,after,none⟩ Z s σs k r G A L σ w:=by
 unfold ze at h;split at h
 ·rename_i ht;split at h
  ·rename_i l hx;split at h
   ·rename_i a b ha hb;obtain⟨y,hy,h⟩:=bind_some h;exact Eb (p:= .val .str y) hr0 hd (X.y_ ht (Qs hr0.mem.sl hx) hy (Kv hr0.mem.sl ha) (Kv hr0.mem.sl hb)) rfl rfl h
   ·cases h
  ·cases h
 ·rename_i et ht;cases hvw:(vw&&Aom (Eh s.sl x))with
  |true=>
   rw[hvw]at h;exact Aqs hr0 hd ht h
  |false=>
  rw[hvw]at h;dsimp only[Cp,cond]at h;split at h
  ·cases h
  ·rename_i s1 hs1;obtain⟨A1,L1,hr,hsame⟩:=Qr hr0 hs1;have hm:=hr.mem;split at h
   ·rename_i e0 l0 hx;split at h
    ·rename_i e l;split at h
     ·rename_i inf Rz;obtain⟨hb,h⟩:=Aq h;simp only[A9]at hb;split at h
      ·rename_i a b ha hb';obtain⟨y,hy,h⟩:=bind_some h;obtain⟨h1,h2,h3,h4,rfl⟩:=LD hy;obtain⟨c0,h5,h6⟩:=Zt (Dl hm.sl hx rfl);have hlen:=h6.len λx c h=>Ax.len h;obtain⟨p',l',c',h7,h8⟩:=X.K? (P:=P) (l:=a.toNat) (k:=b.toNat) (m:=l.length) ht (Fk Rz hb.1) (St.jo hr h5) (j:=0) rfl hlen (i_ hb.2) h3 h4;have hxo:=h7 σ w x lo hi rfl (by rcases Kv hm.sl ha with h|⟨h,h'⟩;exact .inl (by rw[<-h1];exact h);exact .inr ⟨h,F0⟩)
        (by rcases Kv hm.sl hb' with h|⟨h,h'⟩;exact .inl (by rw[<-h2];exact h);exact .inr ⟨h,by rw[h'];simp[Ad]⟩)
       have hv:Ef (λb=>A1 b/\Z.R b) w L1 (.val (.list e) ((l.take b.toNat).drop a.toNat)) (.slice p' l' c'):=
        mE (h8.fact 0 rfl) (Cj.drop (λx c h=>Ax.len h) _ (Cj.take (λx c h=>Ax.len h) _ h6))
       refine WL.XI rfl hd (hxo _ _ _ _ _) (WL.nil ⟨_,A1,L1,h,hr.Gc rfl hv,λg=>?_⟩);obtain⟨e1,e2,e3⟩:=hsame (isEmpty_nil (hG g));subst e1 e2 e3;have:(s1.Gc d (.val (.list e) ((l.take b.toNat).drop a.toNat))).it=s1.it:=by cases d<;>rfl
       rw[this];exact .refl
      ·cases h
     ·cases h
    ·cases h
   ·rename_i hx;split at h
    ·rename_i inf a b Rz ha hb';obtain⟨_,hok,hk⟩:=bind_some h;have hab:0<=a/\a<=b/\b<=0:=UT (Un hok);have ha0:a=0:=F0
     have hb0:b=0:=F0
     subst ha0 hb0;have hv:=FQ (Dl hm.sl hx rfl);have hxo:=X.vN (P:=P) (σ:=σ) (w:=w) (x:=x) (lo:=lo) (hi:=hi) (a:=0) (b:=0) (z:=inf.size) ht ⟨inf,Rz,rfl⟩ (C4 _) (C4 _) (C4 _) hv
      (by rcases Kv hm.sl ha with h|⟨h,h'⟩;exact .inl h;exact .inr ⟨h,rfl⟩) (by rcases Kv hm.sl hb' with h|⟨h,h'⟩;exact .inl h;exact .inr ⟨h,rfl⟩)
     refine WL.XI rfl hd (hxo _ _ _ _ _) (WL.nil ⟨_,A1,L1,hk,hr.Gc rfl rfl,λg=>?_⟩);obtain⟨e1,e2,e3⟩:=hsame (isEmpty_nil (hG g));subst e1 e2 e3;have:(s1.Gc d .nils).it=s1.it:=by cases d<;>rfl
     rw[this];exact .refl
    ·cases h
   ·cases h
 ·split at h
  ·rename_i u m et hat;split at h
   ·cases h
   ·rename_i inf Rz;split at h
    ·rename_i i p hx;split at h
     ·rename_i T v hit;split at h
      ·rename_i e0 l0 hg;split at h
       ·rename_i m' e l;obtain⟨hb,h⟩:=Aq h;simp only[A9]at hb;split at h
        ·rename_i a b ha hb';obtain⟨_,hok,hk⟩:=bind_some h;have hab:0<=a/\a<=b/\b<=m:=UT (Un hok);have hm:=hr0.mem;obtain⟨md,bb,h1,h2,h3⟩:=Wz (Dl hm.sl hx rfl);obtain⟨a1,ha1⟩:=R9 hab.1;obtain⟨b1,hb1⟩:=R9 (show 0<=b by omega);subst ha1 hb1;have hxo:=X.Anx (P:=P) (σ:=σ) (w:=w) (x:=x) (lo:=lo) (hi:=hi) (a:=a1) (b:=b1) hat (Fk Rz hb.1.2) F0 F0 h3
          (by rcases Kv hm.sl ha with h|⟨h,h'⟩;exact .inl h;exact .inr ⟨h,F0⟩) (by rcases Kv hm.sl hb' with h|⟨h,h'⟩;exact .inl h;exact .inr ⟨h,F0⟩)
         refine Eb (p:= .view false i p e a1 (b1-a1)) hr0 hd hxo rfl ⟨md,_,h1,rfl,F0,F0,⟨_,_,(by rw[show((b1:Int)-a1).toNat=b1-a1 by omega]),F0,(λh=>by cases h),λhc=>⟨bb,h2,?_⟩⟩,(λh=>by cases h),λ_=>⟨bb,h2⟩⟩ hk;rw[A4 F0,Lb];rfl
        ·cases h
       ·cases h
      ·cases h
     ·cases h
    ·cases h
  ·cases h
theorem Ah0{t:TypeId}{hi mx:Operand}{lo:Option Operand}{G:Prop}(hr0:Rel Z s σs A L σ w)(hd:Jf n ⟨d, .slice t x lo (some hi) (some mx),ty,pos,after,none⟩=true)(h:M4 vw s d t x lo hi mx k P=some r)(hG:G-> (owns (Eh s.sl x)).isEmpty=true):
  Xc P n ops ⟨d, .slice t x lo (some hi) (some mx),ty,pos,after,none⟩ Z s σs k r G A L σ w:=by
 unfold M4 at h;split at h
 ·rename_i et ht;split at h
  ·cases h
  ·rename_i s1 hs1;obtain⟨A1,L1,hr,hsame⟩:=Qr hr0 hs1;have hm:=hr.mem;split at h
   ·rename_i e0 l0 hx;split at h
    ·rename_i e l;split at h
     ·rename_i inf Rz;obtain⟨hb,h⟩:=Aq h;simp only[A9]at hb;split at h
      ·rename_i a b c ha hb' hc';obtain⟨_,hok,h⟩:=bind_some h;have hbc:b<=c/\c<=Ad l:=UT (Un hok);obtain⟨y,hy,h⟩:=bind_some h;obtain⟨h1,h2,h3,h4,rfl⟩:=LD hy;obtain⟨c0,h5,h6⟩:=Zt (Dl hm.sl hx rfl);have hlen:=h6.len λx c h=>Ax.len h;obtain⟨q1,hq1⟩:=GY hb' (Qk hm.sl hi (SD hb'));obtain⟨q2,hq2⟩:=GY hc' (Qk hm.sl mx (SD hc'));unfold Ad at hbc;obtain⟨p',l',c',h7,h8,hc9⟩:=X.Ag6 (P:=P) (l:=a.toNat) (k:=b.toNat) (c:=c.toNat) (m:=l.length) ht (Fk Rz hb.1) (St.jo hr h5) (j:=0) rfl hlen (i_ hb.2) h3 F0 F0;have hxo:=h7 σ w x lo hi mx rfl (by rcases Kv hm.sl ha with h|⟨h,h'⟩;exact .inl (by rw[<-h1];exact h);exact .inr ⟨h,F0⟩)
        ⟨q1,by rw[hq1,<-h2]⟩ ⟨q2,by rw[hq2,show((c.toNat:Nat):Int)=c by omega]⟩
       have hall:Cj (Ax (λb=>A1 b/\Z.R b) w e) ((l.take b.toNat).drop a.toNat) ((c0.take (b.toNat*e.size)).drop (a.toNat*e.size)):=Cj.drop (λx c h=>Ax.len h) _ (Cj.take (λx c h=>Ax.len h) _ h6);have hv:Ef (λb=>A1 b/\Z.R b) w L1 (Cp vw (.cap e ((l.take b.toNat).drop a.toNat) (c-a))<| .val (.list e) ((l.take b.toNat).drop a.toNat)) (.slice p' l' c'):=by
        cases vw with
        |true=>exact⟨_,_,rfl,h8.fact 0 rfl,hall,F0,p',l',by rw[hc9];congr 1;omega⟩
        |false=>exact mE (h8.fact 0 rfl) hall
       have hV:(Cp vw (PV.cap e ((l.take b.toNat).drop a.toNat) (c-a))<| .val (.list e) ((l.take b.toNat).drop a.toNat)).isV=true:=by cases vw<;>rfl
       refine WL.XI rfl hd (hxo _ _ _ _ _) (WL.nil ⟨_,A1,L1,h,hr.Gc hV hv,λg=>?_⟩);obtain⟨e1,e2,e3⟩:=hsame (isEmpty_nil (hG g));subst e1 e2 e3;have:∀q,(s1.Gc d q).it=s1.it:=λq=>by cases d<;>rfl
       rw[this];exact .refl
      ·cases h
     ·cases h
    ·cases h
   ·cases h
 ·cases h
theorem z!{x:e.T}(h:e.of p=some x):p.xq=true:=by
 unfold ET.of ZQ at h;split at h
 ·rfl
 ·rfl
 ·rfl
 ·cases h
theorem Ajq{e:ET}(hr:Rel Z s σs A L σ w):∀{xs:List Operand} {l:List e.T},sj e (xs.map (Eh s.sl))=some l->
  Cj (Ax (λb=>A b/\Z.R b) w e) l ((xs.map (ev σ)).map λv:Value=>v.cells.toList).flatten/\l.length=xs.length/\∀v∈xs.map (ev σ),v.cells.size=e.size
 |[],l,h=>by simp only[VH,sj,HN]at h;subst h;exact⟨rfl,rfl,F8⟩
 |x::xs,l,h=>by
  simp only[IZ,sj]at h;split at h
  ·rename_i y ys hy hys;cases h;obtain⟨h1,h2,h3⟩:=Ajq hr hys;obtain⟨cs,h4,h5⟩:=PQ hr (NK hr.mem.sl (x:=x) (z! hy));have h6:=PJ hy h5;refine⟨⟨cs,_,by simp[h4],h6,h1⟩,by simp[h2],λv hv=>?_⟩;simp only[IZ,VQ]at hv;rcases hv with rfl|hv
   ·rw[h4];simpa using h6.len
   ·exact h3 v hv
  ·cases h
theorem B? :∀{ps:List (Nat×Operand)} {m:Nat},dQ m ps=true-> (ps.map λp=>(p.1,ev σ p.2))=(((ps.map Prod.snd).map (ev σ)).zipIdx m).map λp=>(p.2,p.1)
 |[],_,_=>rfl
 |(i,x)::ps,m,h=>by
  simp only[dQ,A9]at h;simp only[IZ,ng,B? h.2,Bn h.1]
theorem Bcs{t:TypeId}{len:Nat}{ps:Array (Nat×Operand)}{dn:Nat}{G:Prop}(hr0:Rel Z s σs A L σ w)(hd:Jf n ⟨some dn, .buildSlice t len ps,ty,pos,after,none⟩=true)
  (h:bV P s (some dn) t len ps.toList k=some r) (hG:G-> (owns.go (ps.toList.map λp=>Eh s.sl p.2)).isEmpty=true):Xc P n ops ⟨some dn, .buildSlice t len ps,ty,pos,after,none⟩ Z s σs k r G A L σ w:=by
 unfold bV at h;split at h
 ·cases h
 ·rename_i E hE;split at h
  ·cases h
  ·rename_i e he;obtain⟨hb,h⟩:=Aq h;simp only[A9]at hb;obtain⟨⟨⟨hb1,hb2⟩,hb3⟩,hb4⟩:=hb;split at h
   ·cases h
   ·rename_i s1 hs1;obtain⟨A1,L1,hr,hsame⟩:=Qr hr0 hs1;split at h
    ·rename_i l hl;have hl':sj e ((ps.toList.map Prod.snd).map (Eh s1.sl))=some l:=by rw[ZE];exact hl
     obtain⟨h1,h2,h3⟩:=Ajq hr hl';have hps:ps=ps.toList.toArray:=by simp
     rw[show(⟨some dn, .buildSlice t len ps,ty,pos,after,none⟩:Oper)=⟨some dn, .buildSlice t len ps.toList.toArray,ty,pos,after,none⟩ by rw[<-hps]];have hlen:((ps.toList.map Prod.snd).map (ev σ)).length=len:=by simpa using Bn hb3
     have hF:=St.qP (f:=Q3 Z.R L1 (.arr E e l) (((ps.toList.map Prod.snd).map (ev σ)).map λv:Value=>v.cells.toList).flatten) hr.same h1;refine WL.buildSlice (vs:=(ps.toList.map Prod.snd).map (ev σ)) (XH hE) (xD hb1) hF (ME (o:= .buildSlice t len ps) hd) (B? hb2) hlen hb4 h3 rfl (λp q c w' hs'=>WL.nil ?_);have h4:Cj (Ax (λb=>A1 b/\Z.R b) w' e) l (((ps.toList.map Prod.snd).map (ev σ)).map λv:Value=>v.cells.toList).flatten:=hs'.fact 0 rfl;refine Y3.of (λg=>hsame (isEmpty_nil (hG g))) (XT (a:= .arr E e l) (md:= .own e.size E (.slice p q c) _) hr hs'.xV ⟨rfl,rfl,h4⟩ rfl (λB=>?_) h);rw[S.new,hr.len];exact rC
    ·cases h
theorem Ahj{E:TypeId}{i len cap m:Nat}{q:Option Addr}{cs:List Value}{l:List e.T}(hr:Rel Z s σs A L σ w)(hi:L[i]? =some (.own e.size E (.slice q len cap) cs))(hm:m<=len)(hl:Cj (Ax (λb=>A b/\Z.R b) w e) l (cs.take (m*e.size))):
  Rel Z (((s.Mr i .dead).sub i .any).add (.arr E e l)) σs A (L.set i .dead++[.own e.size E (.slice q m cap) (cs.take (m*e.size))]) σ w:=by
 have hf:Frz (λb=>A b/\Z.R b) w L i .any:=⟨λz E' u c h=>⟨u,rfl,by rw[hi]at h;cases h;rfl⟩,rfl,rfl⟩;have hm2:=hr.mem.subst hf;have AU:(L.map MD.Ex)[i]? =some (Mob.own e.size E (.slice q len cap) cs):=hr.Ex hi;obtain⟨o,h1,h2,h3⟩:=(St.mobs hr).perm (aX AU).symm;have h4:(Mob.own e.size E (.slice q m cap) (cs.take (m*e.size))).holds o w:=by
  obtain⟨q',len',cap',g1,g2,g3,g4,g5,g6⟩:=h1;cases g1;have e5:m*e.size<=len*e.size:=C2 _ hm;refine⟨q,m,cap,rfl,by rw[HH];omega,F0,g4,g5,λb hb=>?_⟩;obtain⟨arr,fr,k1,k2,k3,k4,k5⟩:=g6 b hb;exact⟨arr,fr,k1,k2,k3,k4,λj hj=>by rw[k5 j F0,SI,A7 hj]⟩
 have h5:Cu w A (Mob.own e.size E (.slice q m cap) (cs.take (m*e.size))::(L.map MD.Ex).eraseIdx i):=⟨o,h4,h2,h3⟩;have h6:Cu w A (MD.dead.Ex::Mob.own e.size E (.slice q m cap) (cs.take (m*e.size))::(L.map MD.Ex).eraseIdx i):=⟨none,⟨none,0,0,rfl,F8,C4 _,λ_=>rfl,λ_=>rfl,λb h=>by cases h⟩,λb hb=>(by cases hb),h5.Ii λb hb=>hb.elim id λh=>by cases h⟩;have h7:Cu w A ((MD.own e.size E (.slice q m cap) (cs.take (m*e.size))).Ex::(L.set i .dead).map MD.Ex):=by
  rw[VR];exact h6.perm ((List.Perm.swap _ _ _).trans ((Ws (m':=MD.dead.Ex) AU).cons _))
 have h8:St A w [Oy Z.R (L.set i .dead) ((s.Mr i .dead).sub i .any) σs σ, .old Z.M Z.w0] ((MD.own e.size E (.slice q m cap) (cs.take (m*e.size))).Ex::(L.set i .dead).map MD.Ex):=by
  refine⟨St.lt hr,λf hf=>?_,h7⟩;cases hf with
  |head=>exact hm2
  |tail _ hf=>exact hr.facts f (.tail _ hf)
 exact Rel.push (a:= .arr E e l) h8 ⟨rfl,rfl,hl⟩
theorem At9 {E:TypeId}{s1:S}{i:Nat}(hr:Rel Z s σs A L σ w)(hz:0<e.size)(hx:(Eh s.sl x).xq=true)(h:dH s E e (Eh s.sl x)=some (s1,i)):
  ∃L1,Rel Z s1 σs A L1 σ w/\∃c0,L1[i]? =some (.own e.size E (ev σ x) c0):=by
 have hv:=Qk hr.mem.sl x (PV.ig hx);unfold dH at h;split at h
 ·rename_i hp;cases h;rw[hp]at hv;have hev:=FQ hv;have hr':=Rel.push (a:= .arr E e []) (md:= .own e.size E (.slice none 0 0) []) (St.d_ hr e.size E) ⟨rfl,rfl,rfl⟩;refine⟨_,hr',[],?_⟩;rw[S.new,hr.len,hev];simp
 ·rename_i j hp;rw[hp]at hv;split at h
  ·rename_i E' e' l hj;obtain⟨hb,h⟩:=Aq h;split at h
   ·rename_i he;cases h;subst he;have:=Bn hb;subst this;obtain⟨v,cs,h1,h2⟩:=hr.mem.arr hj;obtain⟨z,E',c,h3⟩:=HC hv;rw[h1]at h3;cases h3;exact⟨L,hr,cs,h1⟩
   ·cases h
  ·cases h
 ·rename_i j p e1 lo n' hp;rw[hp]at hv;split at h
  ·rename_i E' e' l hj;obtain⟨hb,h⟩:=Aq h;simp only[A9,B2]at hb;obtain⟨⟨hE,h0⟩,he1⟩:=hb;split at h
   ·rename_i he;cases h;subst he he1;have:=Bn hE;subst this;subst h0;obtain⟨u,cs,h1,h2⟩:=hr.mem.arr hj;obtain⟨md,v1,h3,h4,k1,k2,_,k7,_⟩:=hv;rw[h1]at h3;cases h3;have h6:ev σ x=v1:=by simpa using h4
    obtain⟨s',E2,q,len,cap,c0,e1,e2,e3,_,e5⟩:=k7 rfl;cases e1;have e7:=e5 rfl;have hl:Cj (Ax (λb=>A b/\Z.R b) w e1) (QL l 0 n') (cs.take (n'.toNat*e1.size)):=by
     have:=Cj.take (λx c h=>Ax.len h) n'.toNat h2;simpa [QL]using this
    have hr':=Ahj hr h1 (m:=n'.toNat) (by simpa using e3) hl;refine⟨_,hr',cs.take (n'.toNat*e1.size),?_⟩;rw[h6,e7,S.new,hr.len];have:L.length=(L.set j .dead).length:=by simp
    rw[this,SF (C4 _)];simp
   ·cases h
  ·cases h
 ·cases h
theorem Ass{a:Item}{l:List e.T}(h:kB e a=some l):∃E,a= .arr E e l:=by
 unfold kB at h;split at h
 ·rename_i E e' l';split at h
  ·rename_i he;subst he;cases h;exact⟨E,rfl⟩
  ·cases h
 ·cases h
theorem Be1 {E:TypeId}{i dn:Nat}{l m:List e.T}{cs ys:List Value}{v':Value}{w':World}{s0:S}{A0:Reg}{L0:List MD}{w0:World}(hr:Rel Z s σs A L σ w)(hi:L[i]? =some (.own e.size E v cs))(hl:Cj (Ax (λb=>A b/\Z.R b) w e) (l++m) (cs++ys))
  (hs:St A w' [Q3 Z.R L (.arr E e (l++m)) (cs++ys),Oy Z.R L s σs σ, .old Z.M Z.w0] ((L.map MD.Ex).set i (.own e.size E v' (cs++ys))))
  (hk:k ((((s.Mr i .dead).sub i .any).add (.arr E e (l++m))).Gc (some dn) (.own s.new))=some r):Y3 Z σs k r False A0 L0 s0.it w0 (Mr σ dn v') w':=by
 have h1:Cj (Ax (λb=>A b/\Z.R b) w' e) (l++m) (cs++ys):=hs.fact 0 rfl;have hone:v.oneCell'=true:=by obtain⟨p,len,cap,rfl,_⟩:=hr.Pf hi;rfl
 have hs1:=hs.xV;have hm:MemR (λb=>A b/\Z.R b) w' L s σs σ:=hs1.fact 0 rfl;have hf:Frz (λb=>A b/\Z.R b) w' L i .any:=⟨λz E' u c h=>⟨u,rfl,by rw[hi]at h;cases h;exact hone⟩,rfl,rfl⟩;have hm2:=hm.subst hf;have AU:(L.map MD.Ex)[i]? =some (Mob.own e.size E v cs):=hr.Ex hi;have hs2:=Cu.mM hs1 (Ws (m':=Mob.own e.size E v' (cs++ys)) AU).symm;have hs3:=Cu.mM (hs2.d_ 1 0) (List.Perm.swap _ _ _);have hs4:=Cu.mM hs3 ((Ws (m':=MD.dead.Ex) AU).cons _);have hs5:St A w' [Oy Z.R (L.set i .dead) ((s.Mr i .dead).sub i .any) σs σ, .old Z.M Z.w0] ((MD.own e.size E v' (cs++ys)).Ex::(L.set i .dead).map MD.Ex):=by
  rw[VR];exact(hs4.noF.qP (f:= .old Z.M Z.w0) (hs4.fact 1 rfl)).qP (f:=Oy Z.R (L.set i .dead) ((s.Mr i .dead).sub i .any) σs σ) hm2
 have hr2:=Rel.push (a:= .arr E e (l++m)) hs5 ⟨rfl,rfl,h1⟩;have hnew:s.new=(L.set i .dead).length:=by rw[Z7,<-hr.len];rfl
 refine⟨_,A,_,hk,hr2.Gc (d:=some dn) rfl ?_,λg=>g.elim⟩;rw[hnew];exact rC
theorem Akk(z:Array Value)(hz:0<z.size)(m:Nat):((List.replicate m z.toList).flatten).toArray=Builtin.zeroCells z m:=by
 apply Array.ext
 ·simp[Builtin.zeroCells]
 ·intro j h1 h2;simp only[Builtin.zeroCells,Array.getElem_map,Array.getElem_range];have h3:j<m*z.size:=by simpa [Builtin.zeroCells]using h2
  have h4:=S5 z.toList z.size F8 hz m j h3;have h5:j %z.size<z.size:=Sf _ hz;simp only[List.getElem_toArray];rw[C? (by simpa using h1)]at h4;simp[h5]at h4;simp[h4,h5]
theorem Aqc{E t t2:TypeId}{kk:List e.T->Option R}(hr:Rel Z s σs A L σ w)(ht:P.underlying t=some (.slice E))(hel:ElemOk P E e.size)(h:kQ P s E e t2 y kk=some r):
  ∃m ys,kk m=some r/\Cj (Ax (λb=>A b/\Z.R b) w e) m ys/\∀(A1:Reg) (F:List Fact) (LL:List Mob) (i ll:Nat) (vx:Value) (cs:List Value),St A1 w F LL->LL[i]? =some (.own e.size E vx cs)->cs.length=ll*e.size->ll+m.length<=wo->
   ∃v' w',(Builtin.append_ #[t,t2] ty #[vx,ev σ y]).run P w= .ok v' w'/\St A1 w' F (LL.set i (.own e.size E v' (cs++ys))):=by
 unfold kQ at h;split at h
 ·rename_i ht2;split at h
  ·rename_i m0 hy;split at h
   ·rename_i m hm;unfold ZU at hm;split at hm
    ·rename_i he;cases he;cases hm;refine⟨m0,We m0,h,yg.HG,λA1 F LL i ll vx cs hs hL hlen hlim=>?_⟩;rw[Qs hr.mem.sl hy];exact pK (x:=y) (y:=y) ht hel hs hL (Src.string ht2) (Ase m0) hlen (by simp[We,ET.size]) hlim
    ·cases hm
   ·cases h
  ·cases h
 ·rename_i et2 ht2;split at h
  ·rename_i m hm;have hV:(Eh s.sl y).isV=true:=by
    cases hq:(Eh s.sl y).isV with
    |true=>rfl
    |false=>rcases Ve hq with h|h|⟨_,_,_,h⟩<;>rw[h]at hm<;>cases hm
   obtain⟨c0,h1,h2⟩:=VV hr.mem hm (Qk hr.mem.sl y hV);have hrd:Rd (λ_=>True) w e.size (ev σ y) c0:=by
    rcases h2 with h2|⟨j,E',u,cs',_,h2,hpart⟩
    ·exact h2.step (λ_ _=>trivial) (λ_ _=>rfl)
    ·exact hpart _ _ (hr.Pf h2)
   have Z3:=h1.len λx c h=>Ax.len h;exact⟨m,c0,h,h1,λA1 F LL i ll vx cs hs hL hlen hlim=>pK (x:=y) (y:=y) ht hel hs hL (Src.slice ⟨_,ht2⟩ hrd Z3 hel.pos) h1.r_ hlen Z3 hlim⟩
  ·cases h
 ·rename_i kk2 ht2;split at h
  ·rename_i q z hq hz;split at h
   ·rename_i x0 hx0;obtain⟨m,hm,h⟩:=bind_some h;obtain⟨h1,h2,rfl⟩:=pU hm;obtain⟨zv,⟨i0,hi0,hz0⟩,hz2⟩:=FP hz;have hx1:=PJ hx0 (hz2 (λb=>A b/\Z.R b) w L);have hall:=H' hx1 q.toNat;refine⟨_,_,h,hall,λA1 F LL i ll vx cs hs hL hlen hlim=>?_⟩;rw[R7 hq (Qk hr.mem.sl y (A! hq)),h1];have hzs:zv.cells.size=e.size:=by have:=hx1.len;simpa using this
    rw[S6]at hlim;exact Bgp (x:=y) (y:=y) (ly:=q.toNat) ht hel hs hL ⟨_,ht2⟩ (λi z' hi hz'=>by rw[hi0]at hi;cases hi;rw[hz0]at hz';cases hz';exact Akk zv.cells (by rw[hzs];exact hel.pos) _)
     hall.r_ hlen ((hall.len λx c h=>Ax.len h).trans F8) hlim
   ·cases h
  ·cases h
 ·cases h
theorem Aqh{t2:TypeId}{m:List e.T}(hr:Rel Z s σs A L σ w)(hz:0<e.size)(h:l! P s e t2 y=some m):∃ys,Cj (Ax (λb=>A b/\Z.R b) w e) m ys/\Src P w t2 (ev σ y) e.size m.length ys:=by
 unfold l! at h;split at h
 ·rename_i ht2;split at h
  ·rename_i m0 hy;unfold ZU at h;split at h
   ·rename_i he;cases he;cases h;refine⟨We m0,yg.HG,?_⟩;rw[Qs hr.mem.sl hy];exact Src.string ht2
   ·cases h
  ·cases h
 ·rename_i et2 ht2;have hV:(Eh s.sl y).isV=true:=by
   cases hq:(Eh s.sl y).isV with
   |true=>rfl
   |false=>rcases Ve hq with h'|h'|⟨_,_,_,h'⟩<;>rw[h']at h<;>cases h
  obtain⟨c0,h1,h2⟩:=VV hr.mem h (Qk hr.mem.sl y hV);have hrd:Rd (λ_=>True) w e.size (ev σ y) c0:=by
   rcases h2 with h2|⟨j,E',u,cs',_,h2,hpart⟩
   ·exact h2.step (λ_ _=>trivial) (λ_ _=>rfl)
   ·exact hpart _ _ (hr.Pf h2)
  exact⟨c0,h1,Src.slice ⟨_,ht2⟩ hrd (h1.len λx c h=>Ax.len h) hz⟩
 ·cases h
theorem Aqr{l:List e.T}{c:Int}(h:lI e p=some (l,c)):p= .cap e l c:=by
 unfold lI at h;split at h
 ·split at h
  ·rename_i he;subst he;cases h;rfl
  ·cases h
 ·cases h
theorem Ai7{t t2:TypeId}{dn:Nat}(hr0:Rel Z s σs A L σ w)(hd:Jf n ⟨some dn, .call ⟨.builtin .append, #[x,y], #[t,t2]⟩,ty,pos,after,none⟩=true)
  (h:M6 P s (some dn) x y t t2 k=some r):Xc P n ops ⟨some dn, .call ⟨.builtin .append, #[x,y], #[t,t2]⟩,ty,pos,after,none⟩ Z s σs k r False A L σ w:=by
 unfold M6 at h;split at h
 ·cases h
 ·rename_i E hE;split at h
  ·cases h
  ·rename_i e he;obtain⟨hb,h⟩:=Aq h;simp only[A9]at hb;have hel:=xD hb.1;split at h
   ·rename_i l c hcap;split at h
    ·rename_i m hm;obtain⟨r',ha,hk⟩:=bind_some h;obtain⟨h3,rfl⟩:=wD ha;obtain⟨_,hok,hk⟩:=bind_some hk;have hlt:c<Ad (l++m):=UT (Un hok);obtain⟨ys,hy1,hy2⟩:=Aqh hr0 hel.pos hm;obtain⟨v0,c0,g1,g2,g3,g4,p,len,g5⟩:=Dl hr0.mem.sl (Aqr hcap) rfl;cases g1;have hlen:=g3.len λx c h=>Ax.len h;have Z3:=hy1.len λx c h=>Ax.len h;unfold Ad at hlt;rw[A?]at hlt;obtain⟨v',w',h4,h5⟩:=Aa8 (ty:=ty) (XH hE) hel hr0.same (g2.step (A':=λ_=>True) (λ_ _=>trivial) (λ_ _=>rfl)) g5 F0 hy2 hlen Z3 h3;refine WL.val (v:=v') (w':=w') rfl rfl (ME hd) ?_ (WL.nil (XT (a:= .arr E e (l++m)) (md:= .own e.size E v' (c0++ys)) hr0 h5 ⟨rfl,rfl,?_⟩ rfl (λB=>?_) hk))
     ·simp[execOp,resolve,invoke,builtin,h4]
     ·obtain⟨k1,k2⟩:(∀b,A b->A b)/\Same A w w':=h5.fact 0 rfl;exact(g3.append hy1).mono λx c h=>Ax.step (λ_ h=>h) (λb hb=>k2 b hb.1) h
     ·rw[S.new,hr0.len];exact rC
    ·cases h
   split at h
   ·cases h
   ·rename_i s1 i hown;obtain⟨L1,hr,cs,hi⟩:=At9 hr0 hel.pos hb.2 hown;split at h
    ·cases h
    ·rename_i l hl;obtain⟨E',hit⟩:=Ass hl;obtain⟨v1,cs1,h1,h2⟩:=hr.mem.arr hit;rw[hi]at h1;cases h1;have hlen:=h2.len λx c h=>Ax.len h;obtain⟨m,ys,hk,hm,hrun⟩:=Aqc (ty:=ty) hr0 (XH hE) hel h;obtain⟨r',ha,hk⟩:=bind_some hk;obtain⟨h3,rfl⟩:=wD ha;have hF:=St.qP (f:=Q3 Z.R L1 (.arr E e (l++m)) (cs++ys)) hr (h2.append hm);obtain⟨v',w',h4,h5⟩:=hrun A _ _ i l.length (ev σ x) cs hF (hr.Ex hi) hlen h3;refine WL.val (v:=v') (w':=w') rfl rfl (ME hd) ?_ (WL.nil (Be1 hr hi (h2.append hm) h5 hk));simp[execOp,resolve,invoke,builtin,h4]
end Go.Rx
namespace Go.Rx
open Go Go.Lv
variable {P:Program} {B:Reg} {w w':World} {L L':List MD} {s:S} {σs:List Env} {σ:Env} {Z:Fix} {A A':Reg} {n:Nat} {ops:Array Oper} {rest:List Oper} {K:Env->World->Prop}
variable {R:Type} {k:S->Option R} {r:R} {d:Option Nat} {ty:TypeId} {pos:String} {after:Array Edge}
theorem Ao0{place:Nat->Option (Nat×Nat)}{acc ns:List Value}{i off z:Nat}{v:Value}{rest:List (Nat×Value)}(hp:place i=some (off,z))(hv:v.cells=ns.toArray)(hz:ns.length=z)(hl:off+z<=acc.length):
  Instr.fill place acc.toArray ((i,v)::rest)=Instr.fill place (Bk acc off ns).toArray rest:=by
 have hf:=jA off ns 0 acc F0;have jy:v.cells.zipIdx.foldl (λcs (x:Value×Nat)=>cs.setIfInBounds (off+x.2) x.1) acc.toArray=(Bk acc off ns).toArray:=by
  rw[hv,<-Array.foldl_toList,Array.toList_zipIdx];simpa using hf
 simp only[Instr.fill,hp];have hc:(decide (v.cells.size≠z)||decide (off+v.cells.size>acc.toArray.size))=false:=by rw[hv];simp;omega
 rw[A4 (by rw[hc];simp)]
 show Instr.fill _ (v.cells.zipIdx.foldl (λcs (x:Value×Nat)=>cs.setIfInBounds (off+x.2) x.1) acc.toArray) _=_;rw[jy]
def places:List PV->Nat->List (Nat×Nat)
 |[],_=>[]
 |v::vs,off=>(off,v.size)::places vs (off+v.size)
theorem G8:∀{l:List PV} {i off:Nat} {u:PV},l[i]? =some u-> (places l off)[i]? =some (off+W6 l i,u.size)
 |[],_,_,_,h=>by simp at h
 |a::l,0,off,u,h=>by simp at h;subst h;rfl
 |a::l,i+1,off,u,h=>by
  have:=G8 (l:=l) (i:=i) (off:=off+a.size) (by simpa using h);simpa [places,W6,K7]using this
theorem Aax:∀{l:List PV} {i off:Nat} {u v:PV},l[i]? =some u->u.size=v.size->places (l.set i v) off=places l off
 |[],_,_,_,_,h,_=>by simp at h
 |a::l,0,off,u,v,h,hs=>by simp at h;subst h;simp[places,hs]
 |a::l,i+1,off,u,v,h,hs=>by simp[places,Aax (l:=l) (i:=i) (by simpa using h) hs]
theorem kP:∀{fs:List Field} {vs:List PV} {off:Nat},QF P fs vs off=true-> (fs.map λf=>(f.offset,(P.info? f.type).map (·.size)))=(places vs off).map λp=>(p.1,some p.2)
 |[],[],_,_=>rfl
 |[],_::_,_,h=>by simp[QF]at h
 |_::_,[],_,h=>by simp[QF]at h
 |f::fs,v::vs,off,h=>by
  simp only[QF,A9]at h;obtain⟨⟨h1,h2⟩,h3⟩:=h;split at h2
  ·rename_i i hi;simp[places,kP h3,hi,Bn h1,Bn h2]
  ·cases h2
theorem fV(hr:Rel Z s σs A L σ w){pl:List (Nat×Nat)}:∀{parts:List (Nat×Operand)} {zs l:List PV} {acc:List Value},VB (parts.map λp=>(p.1,Eh s.sl p.2)) zs=some l->
  places zs 0=pl->Ba.go (λb=>A b/\Z.R b) w L zs acc->∃cells,Instr.fill (pl[·]?) acc.toArray (parts.map λp=>(p.1,ev σ p.2))=some cells.toArray/\Ba.go (λb=>A b/\Z.R b) w L l cells
 |[],zs,l,acc,h,_,ha=>by simp only[VH,VB,HN]at h;subst h;exact⟨acc,rfl,ha⟩
 |(i,x)::ps,zs,l,acc,h,hpl,ha=>by
  subst hpl;simp only[IZ,VB]at h;split at h
  ·rename_i u hu;obtain⟨hb,h⟩:=Aq h;simp only[A9]at hb;have hsz:=Bn hb.1;obtain⟨ns,h1,h2⟩:=PQ hr (NK hr.mem.sl (x:=x) hb.2);obtain⟨c1,c2,c3,e,h3,h4,h5⟩:=Ba.field ha hu;have hlen:=h2.len;have oP:=h4.len;obtain⟨cells,h6,h7⟩:=fV hr (zs:=zs.set i (Eh s.sl x)) (acc:=c1++(ns++c3)) h (by rw[Aax hu hsz]) (h5 _ _ h2);refine⟨cells,?_,h7⟩;rw[IZ,Ao0 (off:=c1.length) (z:=u.size) (ns:=ns) (by rw[G8 hu,K1,h3]) h1 F0 (by rw[e];simp;omega),e,cU F0];exact h6
  ·cases h
theorem L? (hr:Rel Z s σs A L σ w){e:ET}:∀{parts:List (Nat×Operand)} {l l':List e.T} {acc:List Value},L9 e (parts.map λp=>(p.1,Eh s.sl p.2)) l=some l'->
  Cj (Ax (λb=>A b/\Z.R b) w e) l acc->∃cells,Instr.fill (λi=>some (i*e.size,e.size)) acc.toArray (parts.map λp=>(p.1,ev σ p.2))=some cells.toArray/\Cj (Ax (λb=>A b/\Z.R b) w e) l' cells/\l'.length=l.length
 |[],l,l',acc,h,ha=>by simp only[VH,L9,HN]at h;subst h;exact⟨acc,rfl,ha,rfl⟩
 |(i,x)::ps,l,l',acc,h,ha=>by
  simp only[IZ,L9]at h;split at h
  ·rename_i u y hu hy;obtain⟨ns,h1,h2⟩:=PQ hr (NK hr.mem.sl (x:=x) (z! hy));have h3:=PJ hy h2;obtain⟨c1,c2,c3,e',h4,h5,h6⟩:=Cj.get (λx c h=>Ax.len h) ha hu;have hlen:=h3.len;have oP:=h5.len;obtain⟨cells,h7,h8,h9⟩:=L? hr (l:=l.set i y) (acc:=c1++(ns++c3)) h (h6 _ _ h3);refine⟨cells,?_,h8,by rw[h9,Z7]⟩;rw[IZ,Ao0 (off:=c1.length) (z:=e.size) (ns:=ns) (by rw[h4]) h1 hlen (by rw[e'];simp;omega),e',cU F0];exact h7
  ·cases h
theorem Aiq{t et:TypeId}{m z:Nat}{parts:List (Nat×Operand)}{zv:Value}{cells:List Value}(ht:P.underlying t=some (.array m et))(hz:∃i,P.info? t=some i/\i.zero=some zv)(hsz:Im P et z)
  (hf:Instr.fill (λi=>some (i*z,z)) zv.cells (parts.map λp=>(p.1,ev σ p.2))=some cells.toArray) (w:World):XO P σ w (.build t parts.toArray) (.agg cells.toArray):=λ_ _ _ _ _=>by
 obtain⟨i,hi,hz⟩:=hz;simp only[execOp,Instr.build,C1,zeroValue,typeInfo];simp[hi,hz,A_ ht,Ca hsz,hf]
theorem Akz{t:TypeId}{ps:Array (Nat×Operand)}{G:Prop}(hr:Rel Z s σs A L σ w)(hd:Jf n ⟨d, .build t ps,ty,pos,after,none⟩=true)(h:zf P s d t ps.toList k=some r):
  Xc P n ops ⟨d, .build t ps,ty,pos,after,none⟩ Z s σs k r G A L σ w:=by
 have hps:ps=ps.toList.toArray:=by simp
 rw[show(⟨d, .build t ps,ty,pos,after,none⟩:Oper)=⟨d, .build t ps.toList.toArray,ty,pos,after,none⟩ by rw[<-hps]];unfold zf at h;split at h
 ·rename_i fs zs ht hz;obtain⟨hb,h⟩:=Aq h;obtain⟨z,⟨i,hi,hz0⟩,hz2⟩:=FP hz;split at h
  ·rename_i l hl;obtain⟨cells,h1,h2⟩:=fV hr (pl:=places zs 0) hl rfl (show Ba.go _ w L zs _ from hz2 _ _ _);have hst:GW P t (places zs 0) z.cells.toList:=by
    unfold GW NY;rw[ht];simp only[kP hb,hi,hz0,VN]
   exact Eb hr (d:=d) (o:= .build t ps.toList.toArray) (by simpa using hd) (X.build hst rfl (by simpa using h1)) rfl (show Ef _ w L (.agg l) _ from⟨cells,rfl,h2⟩) h
  ·cases h
 ·rename_i m et e0 l0 ht hz;split at h
  ·rename_i m' a l;split at h
   ·rename_i inf l' Rz hl;obtain⟨hb,h⟩:=Aq h;obtain⟨z,hz1,hz2⟩:=FP hz;obtain⟨h0,h0'⟩:l.length=m'/\Cj (Ax (λb=>A b/\Z.R b) w a) l z.cells.toList:=hz2 _ _ L;obtain⟨cells,h1,h2,h3⟩:=L? hr hl h0';have:=Aiq (σ:=σ) (parts:=ps.toList) ht hz1 (Fk Rz hb) (by simpa using h1) w;exact Eb hr (d:=d) (o:= .build t ps.toList.toArray) (by simpa using hd) this rfl (show Ef _ w L (.val (.vec m' a) l') _ from⟨cells,rfl,h3.trans h0,h2⟩) h
   ·cases h
  ·cases h
 ·cases h
end Go.Rx
namespace Go.Rx
open Go Go.Lv
variable{e:ET}{q:PV}
variable {P:Program} {B B':Reg} {w w':World} {L L':List MD} {s:S} {σs:List Env} {σ:Env} {Z:Fix} {A A':Reg} {n:Nat}
def dS(B:Reg)(w:World)(L:List MD)(B':Reg)(w':World)(L':List MD)(q q':PV):Prop:=q'.isA=q.isA/\∀cs,Ba B w L q cs->Ba B' w' L' q' cs
inductive All2 {α β:Type} (f:α->β->Prop):List α->List β->Prop
 |nil:All2 f [] []
 |cons {a b l m}:f a b->All2 f l m->All2 f (a::l) (b::m)
theorem All2.split{α β:Type}{f:α->β->Prop}:∀{l1 l2:List α} {m:List β},All2 f (l1++l2) m->∃m1 m2,m=m1++m2/\All2 f l1 m1/\All2 f l2 m2
 |[],_,m,h=>⟨[],m,rfl, .nil,h⟩
 |a::l1,l2,_, .cons h1 h2=>let⟨m1,m2,e,h3,h4⟩:=All2.split h2;⟨_::m1,m2,by rw[e];rfl, .cons h1 h3,h4⟩
mutual
theorem oR:∀{sh:Sh} {p:PV} {ls ls' rest:List PV} {cs:List Value},Uj sh p=some ls->Ba B w L p cs->All2 (dS B w L B' w' L') ls ls'->∃p',Rk sh (ls'++rest)=some (p',rest)/\p'.isA=p.isA/\Ba B' w' L' p' cs
 | .lf e o,p,ls,ls',rest,cs,h,hp,ha=>by
  simp only[Uj,HN]at h;subst h;cases ha with
  |cons h1 h2=>
   cases h2;exact⟨_,rfl,h1.1,h1.2 _ hp⟩
 | .agg l,p,ls,ls',rest,cs,h,hp,ha=>by
  cases p<;>simp only[Uj,reduceCtorEq]at h;rename_i vs;obtain⟨us,h1,h2⟩:=Au5 (rest:=rest) h (show Ba.go B w L vs cs from hp) ha;exact⟨.agg us,by simp only[Rk,h1],rfl,h2⟩
theorem Au5:∀{l:List Sh} {ps:List PV} {ls ls' rest:List PV} {cs:List Value},Uj.go l ps=some ls->Ba.go B w L ps cs->All2 (dS B w L B' w' L') ls ls'->∃ps',Rk.go l (ls'++rest)=some (ps',rest)/\Ba.go B' w' L' ps' cs
 |[],[],ls,ls',rest,cs,h,hp,ha=>by
  simp only[Uj.go,HN]at h;subst h;cases ha;exact⟨[],rfl,hp⟩
 |a::l,p::ps,ls,ls',rest,cs,h,⟨c1,c2,e,hp1,hp2⟩,ha=>by
  simp only[Uj.go]at h;split at h
  ·rename_i x y hx hy;cases h;obtain⟨m1,m2,rfl,h1,h2⟩:=ha.split;obtain⟨p',h3,_,h4⟩:=oR (rest:=m2++rest) hx hp1 h1;obtain⟨ps',h5,h6⟩:=Au5 (rest:=rest) hy hp2 h2;exact⟨p'::ps',by simp only[Rk.go,C0,h3,h5],c1,c2,e,h4,h6⟩
  ·cases h
 |[],_::_,_,_,_,_,h,_,_=>by simp[Uj.go]at h
 |_::_,[],_,_,_,_,h,_,_=>by simp[Uj.go]at h
end
theorem Ame:∀{l:List Sh} {ps:List PV} {ls ls' rest:List PV} {us:List Value},Uj.go l ps=some ls->Ek B w L ps us->All2 (dS B w L B' w' L') ls ls'->∃ps',Rk.go l (ls'++rest)=some (ps',rest)/\Ek B' w' L' ps' us
 |[],[],ls,ls',rest,us,h,hp,ha=>by
  simp only[Uj.go,HN]at h;subst h;cases ha;exact⟨[],rfl,hp⟩
 |a::l,p::ps,ls,ls',rest,us,h,⟨v,us',e,hp1,hp2⟩,ha=>by
  simp only[Uj.go]at h;split at h
  ·rename_i x y hx hy;cases h;obtain⟨m1,m2,rfl,h1,h2⟩:=ha.split;have key:∃p',Rk a (m1++(m2++rest))=some (p',m2++rest)/\asV p'.isA (Ba B' w' L' p') v:=by
    cases hA:p.isA with
    |true=>
     rw[hA]at hp1;obtain⟨cs,e1,hc⟩:=hp1;obtain⟨p',h3,h4,h5⟩:=oR (rest:=m2++rest) hx hc h1;exact⟨p',h3,by rw[h4,hA];exact⟨cs,e1,h5⟩⟩
    |false=>
     rw[hA]at hp1;obtain⟨p',h3,h4,h5⟩:=oR (rest:=m2++rest) hx hp1 h1;exact⟨p',h3,by rw[h4,hA];exact h5⟩
   obtain⟨p',h3,h4⟩:=key;obtain⟨ps',h5,h6⟩:=Ame (rest:=rest) hy hp2 h2;exact⟨p'::ps',by simp only[Rk.go,C0,h3,h5],v,us',e,h4,h6⟩
  ·cases h
 |[],_::_,_,_,_,_,h,_,_=>by simp[Uj.go]at h
 |_::_,[],_,_,_,_,h,_,_=>by simp[Uj.go]at h
theorem Ann{l:List Sh}{ps ls ls':List PV}{us:List Value}(h:dU l ps=some ls)(hp:Ek B w L ps us)(ha:All2 (dS B w L B' w' L') ls ls'):∃ps',iK l ls'=some ps'/\Ek B' w' L' ps' us:=by
 obtain⟨ps',h1,h2⟩:=Ame (rest:=[]) h hp ha;rw[F_]at h1;exact⟨ps',by simp only[iK,h1],h2⟩
theorem Aal{x:e.T}(h:jZ s e q=some x):(∃e0,e= .list e0)\/ (∃e' x',q= .val e' x'/\ZU e' e x'=some x):=by
 unfold jZ at h;split at h
 ·exact .inl ⟨_,rfl⟩
 ·exact .inr ⟨_,_,rfl,h⟩
 ·cases h
theorem cast_eq{e':ET}{x:e.T}{y:e'.T}(h:ZU e e' x=some y):PV.val e x=PV.val e' y:=by
 unfold ZU at h;split at h
 ·rename_i he;subst he;cases h;rfl
 ·cases h
theorem Anj{l:List e.T}(h:R2 s e q=some l):elems s e q=some l/\q.isA=false/\q.size=1:=by
 unfold R2 at h;refine⟨h,?_⟩;unfold elems at h;split at h
 ·split at h
  ·exact⟨rfl,rfl⟩
  ·cases h
 ·exact⟨rfl,rfl⟩
 ·exact⟨rfl,rfl⟩
 ·exact⟨rfl,rfl⟩
 ·exact⟨rfl,rfl⟩
 ·cases h
theorem G? (hr:Rel Z s σs A L σ w){x:e.T}(h:jZ s e q=some x)(hb:∀b,A b/\Z.R b->B' b)(ho:∀i∈owns q,∀z E v c,L[i]? =some (.own z E v c)->Rd B' w z v c):dS (λb=>A b/\Z.R b) w L B' w L' q (.val e x):=by
 rcases Aal h with⟨e0,rfl⟩|⟨e',x',rfl,hc⟩
 ·obtain⟨h1,hA,h2⟩:=Anj (show R2 s e0 q=some x from h);refine⟨by rw[hA];rfl,λcs hcs=>?_⟩;have hP:=hcs.lU;have hlen:=hcs.len;have:∃v,cs=[v]:=by
   rw[h2]at hlen
   match cs,hlen with
   |[v],_=>exact⟨v,rfl⟩
  obtain⟨v,rfl⟩:=this;have hv:Ef (λb=>A b/\Z.R b) w L q v:=(cM hP).2 (by unfold Ga;rw[hA];exact hcs);obtain⟨c0,h3,h4⟩:=VV hr.mem h1 hv;refine⟨v,c0,rfl,?_,h3.mono λx c h=>Ax.step hb (λ_ _=>rfl) h⟩;rcases h4 with h4|⟨i,E,u,cs,hi,h4,hpart⟩
  ·exact h4.step hb (λ_ _=>rfl)
  ·exact hpart _ _ (ho i hi _ _ _ _ h4)
 ·have:=cast_eq hc;rw[this];exact⟨rfl,λcs h=>Ax.step hb (λ_ _=>rfl) (show Ax _ w e x cs from h)⟩
theorem rN{x:e.T}{s0:S}:Ff e none x s0=(.val e x,s0):=by cases e<;>rfl
theorem Aas(x:Zb [])(s0:S):Es [] x s0=([],s0):=rfl
theorem aS(p:ET×Option TypeId)(x:Zb [p])(s0:S):Es [p] x s0=([(Ff p.1 p.2 x s0).1],(Ff p.1 p.2 x s0).2):=rfl
theorem SP(p q:ET×Option TypeId)(r:List (ET×Option TypeId))(x:p.1.T)(y:Zb (q::r))(s0:S):Es (p::q::r) (x,y) s0=
  ((Ff p.1 p.2 x s0).1::(Es (q::r) y (Ff p.1 p.2 x s0).2).1,(Es (q::r) y (Ff p.1 p.2 x s0).2).2):=rfl
theorem pk0{p:ET×Option TypeId}:LW s [p] []=none:=rfl
theorem pk2{p:ET×Option TypeId}{r:PV}{qs:List PV}:LW s [p] (q::r::qs)=none:=rfl
theorem pk3{qs:List PV}:LW s [] (q::qs)=none:=rfl
theorem pk4{p q:ET×Option TypeId}{r:List (ET×Option TypeId)}:LW s (p::q::r) []=none:=rfl
theorem pk5{p q:ET×Option TypeId}{r:List (ET×Option TypeId)}{v:PV}{vs:List PV}:LW s (p::q::r) (v::vs)=(match jZ s p.1 v,LW s (q::r) vs with|some x,some y=>some ((x,y):p.1.T×Zb (q::r))|_,_=>none):=rfl
theorem Q!{qs:List PV}{x:Zb []}(h:LW s [] qs=some x):qs=[]:=by
 match qs,h with
 |[],_=>rfl
 |_::_,h=>rw[pk3]at h;cases h
theorem Ad1{p:ET×Option TypeId}{qs:List PV}{x:Zb [p]}(h:LW s [p] qs=some x):∃q,qs=[q]/\jZ s p.1 q=some x:=by
 match qs,h with
 |[],h=>rw[pk0]at h;cases h
 |[q],h=>exact⟨q,rfl,h⟩
 |q::r::qs,h=>rw[pk2]at h;cases h
theorem Ajz{p q:ET×Option TypeId}{r:List (ET×Option TypeId)}{qs:List PV}{z:Zb (p::q::r)}(h:LW s (p::q::r) qs=some z):
  ∃v vs,∃(x:p.1.T) (y:Zb (q::r)),qs=v::vs/\z=(x,y)/\jZ s p.1 v=some x/\LW s (q::r) vs=some y:=by
 match qs,h with
 |[],h=>rw[pk4]at h;cases h
 |v::vs,h=>
  rw[pk5]at h;split at h
  ·rename_i x y hx hy;cases h;exact⟨v,vs,x,y,rfl,rfl,hx,hy⟩
  ·cases h
theorem Bha(e:ET)(x:Zb [(e,none)])(s0:S):Es [(e,none)] x s0=([.val e x],s0):=by cases e<;>rfl
def Lu(L:List MD):List (ET×Option TypeId)->List PV->List MD
 |p::r,v::vs=>match p.2 with
  |none=>Lu L r vs
  |some E=>(match p.1,v with
   | .list _, .own i=>L.getD i .dead
   | .list a,_=> .own a.size E (.slice none 0 0) []
   |_,_=> .dead)::Lu L r vs
 |_,_=>[]
theorem Aop:∀{ls:List (ET×Option TypeId)} {vs:List PV} {is:List Nat},mq ls=true->consume s ls vs=some is->is=[]
 |[],[],is,_,h=>by simp[consume]at h;exact h
 |[],_::_,_,_,h=>by simp[consume]at h
 |_::_,[],_,_,h=>by simp[consume]at h
 |(e,none)::r,v::vs,is,hn,h=>Aop (ls:=r) (vs:=vs) (by simpa [mq]using hn) (by simpa [consume]using h)
 |(e,some _)::r,v::vs,is,hn,h=>by simp[mq]at hn
theorem rZ{N:Reg}:∀{ls:List (ET×Option TypeId)} {vs:List PV} {is:List Nat} {A:Reg},consume s ls vs=some is->Cu w A (is.map λi=>(L.getD i .dead).Ex)->Cu w A ((Lu L ls vs).map MD.Ex)
 |[],[],_,_,_,_=>trivial
 |[],_::_,_,_,h,_=>by simp[consume]at h
 |_::_,[],_,_,h,_=>by simp[consume]at h
 |(e,none)::r,v::vs,is,A,h,hm=>rZ (N:=N) (ls:=r) (vs:=vs) (by simpa [consume]using h) hm
 |(e,some E)::r,v::vs,is,A,h,hm=>by
  simp only[consume]at h;split at h
  ·rename_i a;exact⟨none,⟨none,0,0,rfl,F8,C4 _,λ_=>rfl,λ_=>rfl,λb h=>by cases h⟩,λb hb=>(by cases hb),(rZ (N:=N) h hm).Ii λb hb=>hb.elim id (λh=>by cases h)⟩
  ·rename_i a i;split at h
   ·rename_i E' a' l hi;obtain⟨_,h⟩:=Aq h;simp only[YO]at h;obtain⟨is',h1,rfl⟩:=h;obtain⟨o,g1,g2,g3⟩:=hm;exact⟨o,g1,g2,rZ (N:=N) h1 g3⟩
   ·cases h
  ·cases h
theorem Ai3{B1:Reg}(hr:Rel Z s σs A L σ w)(hb:∀b,A b/\Z.R b->B1 b):∀(ls:List (ET×Option TypeId)) (vs:List PV) (x:Zb ls) (is:List Nat) (s0:S) (Lx LF:List MD),
  LW s ls vs=some x->consume s ls vs=some is-> (∀i∈Tl ls vs,∀z E v c,L[i]? =some (.own z E v c)->Rd B1 w z v c)->Lx.length=s0.it.length->LF=Lx++Lu L ls vs->
  ∃its,(Es ls x s0).2=⟨s0.sl,s0.it++its,s0.st⟩/\its.length=(Lu L ls vs).length/\All2 (dS (λb=>A b/\Z.R b) w L B1 w LF) vs (Es ls x s0).1/\
   ∀(i:Nat) (a:Item) (m:MD),its[i]? =some a-> (Lu L ls vs)[i]? =some m->Xo B1 w LF a m
 |[],vs,x,is,s0,Lx,LF,hp,hc,_,_,_=>by
  rw[Q! hp];refine⟨[],?_,rfl,All2.nil,λi a m h=>by simp at h⟩;rw[Aas];simp
 |p::ls,vs,x,is,s0,Lx,LF,hp,hc,ho,hlen,hLF=>by
  have main:∀(v:PV) (vs':List PV) (x1:p.1.T) (rest:S->List PV×S),vs=v::vs'->jZ s p.1 v=some x1->
    (Es (p::ls) x s0=((Ff p.1 p.2 x1 s0).1::(rest (Ff p.1 p.2 x1 s0).2).1,(rest (Ff p.1 p.2 x1 s0).2).2))->
    (∀(is:List Nat) (s1:S) (Lx:List MD),consume s ls vs'=some is-> (∀i∈Tl ls vs',∀z E v c,L[i]? =some (.own z E v c)->Rd B1 w z v c)->Lx.length=s1.it.length->LF=Lx++Lu L ls vs'->
     ∃its,(rest s1).2=⟨s1.sl,s1.it++its,s1.st⟩/\its.length=(Lu L ls vs').length/\All2 (dS (λb=>A b/\Z.R b) w L B1 w LF) vs' (rest s1).1/\
      ∀(i:Nat) (a:Item) (m:MD),its[i]? =some a-> (Lu L ls vs')[i]? =some m->Xo B1 w LF a m)->
    ∃its,(Es (p::ls) x s0).2=⟨s0.sl,s0.it++its,s0.st⟩/\its.length=(Lu L (p::ls) vs).length/\All2 (dS (λb=>A b/\Z.R b) w L B1 w LF) vs (Es (p::ls) x s0).1/\
     ∀(i:Nat) (a:Item) (m:MD),its[i]? =some a-> (Lu L (p::ls) vs)[i]? =some m->Xo B1 w LF a m:=by
   intro v vs' x1 rest hvs hx hu hrest;subst hvs;rw[hu];obtain⟨e,o⟩:=p;cases o with
   |none=>
    have hc':consume s ls vs'=some is:=by simpa [consume]using hc
    have e1:Ff e none x1 s0=(.val e x1,s0):=rN;simp only[e1];obtain⟨its,h1,h2,h3,h4⟩:=hrest is s0 Lx hc' (λi hi=>ho i (by simp[Tl,hi])) hlen hLF;refine⟨its,h1,h2, .cons (G? hr hx hb (λi hi z E v c hL=>ho i (by simp[Tl,hi]) z E v c hL)) h3,h4⟩
   |some E=>
    simp only[consume]at hc;split at hc
    ·rename_i a;have hx':x1=[]:=by
      have:elems s a .nils=some x1:=hx;simpa [elems]using this.symm
     subst hx';have e1:Ff (.list a) (some E) [] s0=(.own s0.new,s0.add (.arr E a [])):=rfl;simp only[e1];obtain⟨its,h1,h2,h3,h4⟩:=hrest is (s0.add (.arr E a [])) (Lx++[.own a.size E (.slice none 0 0) []]) hc (λi hi=>ho i (by simpa [Tl]using hi)) (by simp[S.add,hlen]) (by rw[hLF];simp[Lu]);refine⟨.arr E a []::its,by rw[h1];simp[S.add],by simp[Lu,h2], .cons ⟨rfl,λcs hcs=>?_⟩ h3,λi b m hi hm=>?_⟩
     ·refine⟨a.size,E, .slice none 0 0,[],?_,hcs⟩;rw[hLF,S.new,<-hlen];simp[Lu]
     ·cases i with
      |zero=>
       simp[Lu]at hi hm;subst hi hm;exact⟨rfl,rfl,rfl⟩
      |succ i=>exact h4 i b m (by simpa using hi) (by simpa [Lu]using hm)
    ·rename_i a i;split at hc
     ·rename_i E' a' l hi;obtain⟨hb1,hc1⟩:=Aq hc;clear hc;simp only[A9,B2]at hb1;obtain⟨hE,rfl⟩:=hb1;have:=Bn hE;subst this;simp only[YO]at hc1;obtain⟨is',hc',rfl⟩:=hc1;obtain⟨u,cs0,g1,g2⟩:=hr.mem.arr hi;have hx':x1=l:=by
       have:elems s a' (.own i)=some x1:=hx;simp[elems,hi]at this;exact this.symm
      subst hx';have hg:L.getD i .dead= .own a'.size E' u cs0:=by simp[B4,g1]
      have e1:Ff (.list a') (some E') x1 s0=(.own s0.new,s0.add (.arr E' a' x1)):=rfl;simp only[e1];obtain⟨its,h1,h2,h3,h4⟩:=hrest is' (s0.add (.arr E' a' x1)) (Lx++[.own a'.size E' u cs0]) hc' (λi hi=>ho i (by simpa [Tl]using hi)) (by simp[S.add,hlen]) (by rw[hLF];simp only[Lu,hg];simp);refine⟨.arr E' a' x1::its,by rw[h1];simp[S.add],by simp[Lu,h2], .cons ⟨rfl,λcs hcs=>?_⟩ h3,λq b m hq hm=>?_⟩
      ·obtain⟨z,E2,v2,c2,k1,k2⟩:=hcs;rw[g1]at k1;cases k1;refine⟨a'.size,E',u,cs0,?_,k2⟩;rw[hLF,S.new,<-hlen];simp only[Lu,hg];simp
      ·cases q with
       |zero=>
        simp only[Lu,hg]at hq hm;simp at hq hm;subst hq hm;exact⟨rfl,rfl,g2.mono λx c h=>Ax.step hb (λ_ _=>rfl) h⟩
       |succ q=>exact h4 q b m (by simpa using hq) (by simpa [Lu]using hm)
     ·cases hc
    ·cases hc
  cases ls with
  |nil=>
   obtain⟨v,rfl,hx⟩:=Ad1 hp;exact main v [] x (λs1=>([],s1)) rfl hx (aS p x s0) (λis s1 Lx _ _ hlen hLF=>⟨[],F8,rfl,All2.nil,λi a m h=>by simp at h⟩)
  |cons q r=>
   obtain⟨v,vs',x1,y',rfl,rfl,hx,hy⟩:=Ajz hp;exact main v vs' x1 (λs1=>Es (q::r) y' s1) rfl hx (SP p q r x1 y' s0)
    (λis s1 Lx hc ho hlen hLF=>Ai3 hr hb (q::r) vs' y' is s1 Lx LF hy hc ho hlen hLF)
theorem Aaj:∀(a b:List PV),owns.go (a++b)=owns.go a++owns.go b
 |[],b=>rfl
 |x::a,b=>by simp[owns.go,Aaj a b]
mutual
theorem Aci:∀{sh:Sh} {p:PV} {ls:List PV},Uj sh p=some ls->owns.go ls=owns p
 | .lf e o,p,ls,h=>by simp only[Uj,HN]at h;subst h;simp[owns.go]
 | .agg l,p,ls,h=>by cases p<;>simp only[Uj,reduceCtorEq]at h;exact pV h
theorem pV:∀{l:List Sh} {ps ls:List PV},Uj.go l ps=some ls->owns.go ls=owns.go ps
 |[],[],ls,h=>by simp only[Uj.go,HN]at h;subst h;rfl
 |a::l,p::ps,ls,h=>by
  simp only[Uj.go]at h;split at h
  ·rename_i x y hx hy;cases h;rw[Aaj,Aci hx,pV hy];rfl
  ·cases h
 |[],_::_,_,h=>by simp[Uj.go]at h
 |_::_,[],_,h=>by simp[Uj.go]at h
end
structure KeepN (N:Reg) (w w':World):Prop where
 same:∀b,b<w.heap.size->N b->w'.heap[b]? =w.heap[b]?
 gr:Gr w w'
def GlOk(gl:List (Nat×List Value))(N:Reg)(w:World):Prop:=∀p∈gl,p.1<w.heap.size/\N p.1/\∃T fr,w.heap[p.1]? =some (.cells p.2.toArray T fr)
def jV(gl:List (Nat×List Value))(R N:Reg)(w w':World)(rs:List Sh)(y:Zb (Qo rs))(us:List Value):Prop:=
 KeepN N w w'/\∃(A1:Reg) (L1:List MD),(∀b,A1 b-> (¬N b\/w.heap.size<=b)/\b<w'.heap.size)/\Cu w' (λb=>A1 b\/ (b<w.heap.size/\N b)) (L1.map MD.Ex)/\
  ∀(s:S) (L:List MD) (B':Reg),L.length=s.it.length-> (∀b,A1 b->B' b)-> (eG rs=true->∀b,(R b/\N b)\/ (∃p∈gl,p.1=b)->B' b)->
   ∃ps its,(Es (Qo rs) y s).2=⟨s.sl,s.it++its,s.st⟩/\iK rs (Es (Qo rs) y s).1=some ps/\Ek B' w' (L++L1) ps us/\its.length=L1.length/\
   ∀(i:Nat) (a:Item) (m:MD),its[i]? =some a->L1[i]? =some m->Xo B' w' (L++L1) a m
structure ConOk (P:Program) (gl:List (Nat×List Value)) (f:Nat) (c:Con):Prop where
 ent:Ent P f
 ok:∀(R N:Reg) (w:World) (L0:List MD) (vs:List Value) (ps:List PV) (x:Zb (Qo c.ps)) (y:Zb (Qo c.rs)),args c.ps x=some ps-> (f_ c.ps x).length=L0.length->
  (∀(i:Nat) (a:Item) (m:MD),(f_ c.ps x)[i]? =some a->L0[i]? =some m->Xo (λb=>R b/\N b) w L0 a m)->Cu w N (L0.map MD.Ex)->Ek (λb=>R b/\N b) w L0 ps vs->GlOk gl N w->c.fn x=some y->
  Calls P f vs.toArray w λe w'=>∃us,e= .returned (GB us)/\jV gl R N w w' c.rs y us
end Go.Rx
namespace Go.Rx
open Go Go.Lv
variable{g:Operand}{G:Prop}
variable {P:Program} {B B':Reg} {w w':World} {L L':List MD} {s:S} {σs:List Env} {σ:Env} {Z:Fix} {A A':Reg} {n:Nat} {ops:Array Oper}
variable {R:Type} {k:S->Option R} {r:R} {d:Option Nat} {ty:TypeId} {pos:String} {after:Array Edge} {T:Tab} {inl:fN R}
def Qi(P:Program)(gl:List (Nat×List Value))(inl:fN R):Prop:=∀(Z:Fix),Z.gl=gl->∀(f:Nat) (as:List PV) (s:S) (k:S->PV->Option R) (r:R) (σs:List Env) (A:Reg) (L:List MD) (σ:Env) (w:World) (vs:List Value),
 inl f as s k=some r->Rel Z s σs A L σ w->Ek (λb=>A b/\Z.R b) w L as vs->Ent P f/\Calls P f vs.toArray w λe w'=>∃v p s' A' L',e= .returned v/\k s' p=some r/\Rel Z s' σs A' L' σ w'/\p.isV=true/\Ef (λb=>A' b/\Z.R b) w' L' p v
def Sk(P:Program)(T:Tab):Prop:=∀f c,T.get f=some c->ConOk P T.gl f c
def fE(P:Program)(T:Tab)(Z:Fix):Prop:=Sk P T/\Z.gl=T.gl
theorem Ek.step{q:List PV}{vs:List Value}(hb:∀b,B b->B' b)(hs:Same B w w')(hl:RI L L')(h:Ek B w L q vs):Ek B' w' L' q vs:=Ba.yS hb hs hl h
theorem Ek.append:∀{p q:List PV} {us vs:List Value},Ek B w L p us->Ek B w L q vs->Ek B w L (p++q) (us++vs)
 |[],q,us,vs,h,h'=>by rw[show us=[]from h];exact h'
 |a::p,q,us,vs,⟨v,us',e,h1,h2⟩,h'=>⟨v,us'++vs,by rw[e];rfl,h1,Ek.append h2 h'⟩
theorem E? {ps:List PV}{us:List Value}(h:Ek B w L ps us):(q! ps).isV=true/\Ef B w L (q! ps) (GB us):=by
 match ps,us,h with
 |[],us,h=>rw[show us=[]from h];exact⟨rfl,[],rfl,rfl⟩
 |[p],us,⟨v,us',e,h1,h2⟩=>
  rw[show us'=[]from h2]at e;subst e;exact Je h1
 |p::q::r,us,h=>
  obtain⟨v,us',e,h1,v2,us2,e2,h2,h3⟩:=h;subst e2 e;exact⟨rfl,v::v2::us2,rfl,v,_,rfl,h1,v2,us2,rfl,h2,h3⟩
theorem Rel.Ai2{w':World}{A1 BX:Reg}{L1:List MD}{its:List Item}(hr:Rel Z s σs A L σ w)(hBX:∀b,BX b-> ¬A b/\b<w.heap.size)(hY:Cu w (λb=>A b\/BX b) (L.map MD.Ex))
  (hk:KeepN (λb=>¬BX b) w w') (hA1:∀b,A1 b-> (¬ ¬BX b\/w.heap.size<=b)/\b<w'.heap.size)
  (hm:Cu w' (λb=>A1 b\/ (b<w.heap.size/\ ¬BX b)) (L1.map MD.Ex)) (hlen:its.length=L1.length)
  (hit:∀(i:Nat) (a:Item) (m:MD),its[i]? =some a->L1[i]? =some m->Xo (λb=>(A b\/A1 b)/\Z.R b) w' (L++L1) a m):
  Rel Z ⟨s.sl,s.it++its,s.st⟩ σs (λb=>A b\/A1 b) (L++L1) σ w':=by
 have hlt:=St.lt hr;have hsame:Same A w w':=λb hb=>hk.same b (hlt b hb) λh=>(hBX b h).1 hb;have hmem:MemR (λb=>A b/\Z.R b) w' L s σs σ:=Fact.step _ (hr.fact 0 (f:=Oy Z.R L s σs σ) rfl) (λ_ h=>h) hsame hk.gr;have hold:(Fact.old Z.M Z.w0).holds A w':=Fact.step _ (hr.fact 1 (f:= .old Z.M Z.w0) rfl) (λ_ h=>h) hsame hk.gr;have hl:=RI.append L L1;have hst:St (λb=>A b\/A1 b) w' [.old Z.M Z.w0] (L1.map MD.Ex++L.map MD.Ex):=by
  refine⟨λb hb=>hb.elim (λh=>E5 (hlt b h) hk.gr.le) (λh=>(hA1 b h).2),λf hf=>?_,?_⟩
  ·cases hf with
   |head=>exact Fact.step _ hold (λ_ h=> .inl h) (λ_ _=>rfl) (.refl _)
   |tail _ h=>cases h
  ·refine Cu.append (λb=>b<w.heap.size/\ ¬BX b) (λb hb=>E5 hb.1 hk.gr.le) (hm.Ii ?_) ?_
   ·rintro b ((h|h)|h)
    ·exact .inr ⟨hlt b h,λhx=>(hBX b hx).1 h⟩
    ·exact .inl h
    ·exact .inr h
   ·refine(hY.lt.step hk.gr.le λb hb hn=>hk.same b hb λh=>hn (.inl (.inr h))).Ii ?_;rintro b ((h|h)|h)
    ·exact .inl (.inl h)
    ·rcases(hA1 b h).1 with h|h
     ·exact .inl (.inr (Classical.not_not.1 h))
     ·exact .inr h
    ·by_cases hx:BX b
     ·exact .inl (.inr hx)
     ·exact .inr (Nat.le_of_not_lt λhl=>h ⟨hl,hx⟩)
 have hb:∀b,A b/\Z.R b-> (A b\/A1 b)/\Z.R b:=λb h=>⟨.inl h.1,h.2⟩;refine Rel.as (Cu.mM hst eX) (i:=0) rfl ⟨⟨?_,?_⟩,hmem.sl.step hb (λ_ _=>rfl) hl,hmem.stk.step hb (λ_ _=>rfl) hl⟩ (by rw[Tx])
 ·simp[hmem.it.1,hlen]
 ·intro i a m g1 g2;simp only at g1;rcases VE i s.it.length with hi|hi
  ·rw[I9 hi]at g1;rw[I9 (by rw[<-hmem.it.1];exact hi)]at g2;exact(hmem.it.2 i a m g1 g2).step hb (λ_ _=>rfl) hl
  ·rw[SF hi]at g1;rw[SF (by rw[<-hmem.it.1];exact hi)]at g2;rw[hmem.it.1]at g1;exact hit _ a m g1 g2
theorem Cu.split:∀{X Y:List Mob} {A:Reg},Cu w A (X++Y)->∃BX:Reg,(∀b,BX b-> ¬A b/\b<w.heap.size)/\Cu w (λb=>¬BX b) X/\Cu w (λb=>A b\/BX b) Y
 |[],Y,A,h=>⟨λ_=>False,λb hb=>hb.elim,trivial,h.Ii λb hb=>hb.elim id λh=>h.elim⟩
 |m::X,Y,A,⟨o,h1,h2,h3⟩=>by
  obtain⟨BX,g1,g2,g3⟩:=Cu.split h3;refine⟨λb=>BX b\/o=some b,λb hb=>?_,⟨o,h1,λb hb=>⟨λh=>h (.inr hb),(h2 b hb).2⟩,g2.Ii ?_⟩,g3.Ii ?_⟩
  ·rcases hb with hb|hb
   ·exact⟨λh=>(g1 b hb).1 (.inl h),(g1 b hb).2⟩
   ·exact h2 b hb
  ·rintro b (hb|hb)
   ·exact λh=>hb (.inl h)
   ·exact λh=>(g1 b h).1 (.inr hb)
  ·rintro b (hb|hb|hb)
   ·exact .inl (.inl hb)
   ·exact .inr hb
   ·exact .inl (.inr hb)
theorem Cu.Y5:∀{Y:List Mob} {A:Reg} {i:Nat} {m:Mob},Cu w A Y->Y[i]? =some m->∃o,m.holds o w/\∀b,o=some b-> ¬A b
 |_::_,A,0,m,⟨o,h1,h2,_⟩,h=>⟨o,by simp at h;exact h▸h1,λb hb=>(h2 b hb).1⟩
 |_::Y,A,i+1,m,⟨o,_,_,h3⟩,h=>by
  obtain⟨q,g1,g2⟩:=Cu.Y5 h3 (i:=i) (by simpa using h);exact⟨q,g1,λb hb hA=>g2 b hb (.inl hA)⟩
theorem Ave{w:World}:MD.dead.Ex.holds none w:=⟨none,0,0,rfl,F8,C4 _,λ_=>rfl,λ_=>rfl,λb h=>by cases h⟩
theorem AP{i:Nat}:∀{l:List Nat},Wy i l=true↔i∈l
 |[]=>by simp[Wy]
 |j::l=>by
  simp only[Wy,R!,VQ,AP (l:=l)];exact or_congr ⟨Bn,λh=>by subst h;simp⟩ XB
theorem vA{f:Item->Item}(hf:f .dead= .dead):∀{l:List Item} {i:Nat},Cs (l.map f) i=f (Cs l i)
 |[],_=>by simp[Cs,hf]
 |_::_,0=>rfl
 |_::r,i+1=>by simpa [Cs]using vA hf (l:=r) (i:=i)
theorem Agz:∀{l:List Item} {i j:Nat},Cs l i= .dead->Cs (CQ l j .dead) i= .dead
 |[],_,_,h=>by simpa [CQ]using h
 |_::_,0,0,_=>rfl
 |_::_,0,j+1,h=>by simpa [CQ,Cs]using h
 |_::_,i+1,0,h=>by simpa [CQ,Cs]using h
 |_::r,i+1,j+1,h=>by simpa [CQ,Cs]using Agz (l:=r) (i:=i) (j:=j) (by simpa [Cs]using h)
theorem Aft:∀{l:List Item} {i:Nat},Cs (CQ l i .dead) i= .dead
 |[],_=>rfl
 |_::_,0=>rfl
 |_::r,i+1=>by simpa [CQ,Cs]using Aft (l:=r) (i:=i)
theorem Aam{i:Nat}:∀{is:List Nat} {s s':S},Cs s.it i= .dead->s.xR is=some s'->Wy i is=false
 |[],_,_,_,_=>rfl
 |j::is,s,s',hd,h=>by
  simp only[S.xR]at h;split at h
  ·rename_i s1 h1;unfold S.kill at h1;split at h1
   ·rename_i E e l hj;cases h1;have hij:Nat.beq i j=false:=by
     cases hb:Nat.beq i j with
     |false=>rfl
     |true=>rw[Bn hb]at hd;rw[hd]at hj;cases hj
    have:Cs ((s.Mr j .dead).sub j .any).it i= .dead:=by
     show Cs ((CQ s.it j .dead).map _) i=_;rw[vA rfl,Agz hd];rfl
    simp[Wy,hij,Aam this h]
   ·cases h1
  ·cases h
theorem pq:∀{is:List Nat} {s s':S} {L:List MD},MemR B w L s σs σ-> (∀(i z:Nat) (E:TypeId) (v:Value) (c:List Value),L[i]? =some (.own z E v c)->v.oneCell'=true)->s.xR is=some s'->
  ∃L',MemR B w L' s' σs σ/\ (is=[]->L'=L)/\ (∀j,Wy j is=false->L'[j]? =L[j]?)/\∀(A:Reg) (X:List Mob),Cu w A (X++L.map MD.Ex)->Cu w A (X++(is.map λi=>(L.getD i .dead).Ex)++L'.map MD.Ex)
 |[],s,s',L,hm,_,h=>by
  simp only[S.xR,HN]at h;subst h;exact⟨L,hm,λ_=>rfl,λ_ _=>rfl,λA X hX=>by simpa using hX⟩
 |i::is,s,s',L,hm,hone,h=>by
  simp only[S.xR]at h;split at h
  ·rename_i s1 h1;unfold S.kill at h1;split at h1
   ·rename_i E e l hi;cases h1;obtain⟨v,cs,hL,_⟩:=hm.arr hi;have hf:Frz B w L i .any:=⟨λz E' u c h=>⟨u,rfl,by rw[hL]at h;cases h;exact hone _ _ _ _ _ hL⟩,rfl,rfl⟩;have hm2:=hm.subst hf;have hlt:=(List.getElem?_eq_some_iff.1 hL).1;obtain⟨L',g1,g2,g3,g4⟩:=pq hm2 (λj z E v c hj=>by
     by_cases hji:j=i
     ·subst hji;rw[U2 hlt]at hj;cases hj
     ·rw[SZ (S? hji)]at hj;exact hone _ _ _ _ _ hj) h
    refine⟨L',g1,(λe=>by cases e),λj hj=>?_,λA X hX=>?_⟩
    ·simp only[Wy,YW]at hj;rw[g3 j hj.2,SZ (λe=>by subst e;simp at hj)]
    ·have AU:(L.map MD.Ex)[i]? =some (L.getD i .dead).Ex:=by simp[hL,B4]
     have hX1:Cu w A (MD.dead.Ex::(L.map MD.Ex).eraseIdx i++(X++[(L.getD i .dead).Ex])):=by
      have h1:Cu w A (MD.dead.Ex::(X++L.map MD.Ex)):=⟨none,Ave,λb hb=>(by cases hb),hX.Ii λb hb=>hb.elim id λh=>by cases h⟩;refine h1.perm (.cons _ ?_);have hp:=(aX AU).symm;refine(List.Perm.append_left X hp).trans ?_;rw[show X++(L.getD i .dead).Ex::(L.map MD.Ex).eraseIdx i=(X++[(L.getD i .dead).Ex])++(L.map MD.Ex).eraseIdx i by simp];exact eX
     have hX2:Cu w A ((X++[(L.getD i .dead).Ex])++(L.set i .dead).map MD.Ex):=by
      refine hX1.perm (List.perm_append_comm.trans (List.Perm.append_left _ ?_));rw[VR];exact Ws AU
     have:=g4 A _ hX2;have hni:Wy i is=false:=Aam (s:=(s.Mr i .dead).sub i .any) (by
      show Cs ((CQ s.it i .dead).map _) i=_;rw[vA rfl,Aft];rfl) h
     have he:(is.map λj=>((L.set i .dead).getD j .dead).Ex)=is.map λj=>(L.getD j .dead).Ex:=by
      refine Z0 λj hj=>?_;have:j≠i:=λe=>by
       subst e;rw[AP.2 hj]at hni;cases hni
      simp only[B4,SZ (S? this)]
     rw[he]at this;simpa using this
   ·cases h1
  ·cases h
theorem Ax.noL:∀{e:ET} {x:e.T} {cs:List Value},e.X3=false->Ax B w e x cs->Ax B' w' e x cs
 | .int k,x,cs,_,h=>h
 | .bool,x,cs,_,h=>h
 | .str,x,cs,_,h=>h
 | .list e,l,cs,hL,h=>by cases hL
 | .vec m e,l,cs,hL,⟨h1,h2⟩=>⟨h1,h2.mono λx c h=>Ax.noL (e:=e) hL h⟩
 | .cons a q,x,cs,hL,⟨c1,c2,e,h1,h2⟩=>by
  simp only[ET.X3,YW]at hL;exact⟨c1,c2,e,Ax.noL hL.1 h1,Ax.noL hL.2 h2⟩
 | .nil,_,cs,_,h=>h
theorem J2:∀{ls:List (ET×Option TypeId)} {vs:List PV},owns.go vs=[]->Tl ls vs=[]
 |[],_,_=>by unfold Tl;rfl
 |_::_,[],_=>by unfold Tl;rfl
 |(e,o)::ls,v::vs,h=>by
  simp only[owns.go,List.append_eq_nil_iff]at h;cases o<;>simp[Tl,h.1,J2 h.2]
theorem Rel.out(hr:Rel Z s σs A L σ w){b:Nat}(hb:¬A b):Z.R b:=by
 rcases VE b Z.w0.heap.size with hlt|hge
 ·have hold:=(hr.fact 1 (f:= .old Z.M Z.w0) rfl).2 b hlt;exact Z.mod b (VJ λhM=>hb (hold hM).1)
 ·exact Z.new b hge
theorem Am1{f:Nat}{fs:List PV}{as:Array Operand}{ts:Array TypeId}{dn:Nat}(hT:fE P T Z)(hI:Qi P T.gl inl)(hr0:Rel Z s σs A L σ w)(hg:Eh s.sl g= .bfn f fs)
  (hd:Jf n ⟨some dn, .call ⟨.value g,as,ts⟩,ty,pos,after,none⟩=true) (hP:J6 (as.toList.map (Eh s.sl))=true) (h:inl f (fs++as.toList.map (Eh s.sl)) s (λs v=>k (s.Gc (some dn) v))=some r) (hG:¬G):
  Xc P n ops ⟨some dn, .call ⟨.value g,as,ts⟩,ty,pos,after,none⟩ Z s σs k r G A L σ w:=by
 obtain⟨fvs,hgv,hfs⟩:∃vs:List Value,ev σ g= .func (.func f) vs.toArray #[]/\Ek (λb=>A b/\Z.R b) w L fs vs:=by
  obtain⟨vs,h1,h2⟩:=Dl hr0.mem.sl hg rfl;exact⟨vs,by simpa using h1,h2⟩
 have hpv:=Ek.append hfs (mP hr0.mem.sl _ hP);obtain⟨he,hcall⟩:=hI Z hT.2 f _ s _ r σs A L σ w _ h hr0 hpv;have hxe:XE P σ w (.call ⟨.value g,as,ts⟩) f (fvs++as.toList.map (ev σ)).toArray:=λ_ _ _ _ _=>by
  have h1:(callFunc f (fvs.toArray++as.map (ev σ))).run P w= .ok (.enter f (fvs.toArray++as.map (ev σ))) w:=he _ w;have h2:(fvs++as.toList.map (ev σ)).toArray=fvs.toArray++as.map (ev σ):=by apply ZH;simp
  rw[h2];simp[execOp,resolve,hgv,Deferred.ofValue,invoke,h1]
 refine WL.e (ME hd) hxe hcall ?_;rintro e w' ⟨v,p,s',A',L',rfl,hk,hr',hv,hv'⟩;exact⟨_,rfl,WL.nil ⟨_,A',L',hk,hr'.Gc (d:=some dn) hv hv',λgg=>absurd gg hG⟩⟩
theorem Ap0{f:Nat}{caps:List PV}{as:Array Operand}{ts:Array TypeId}{dn:Nat}(hT:fE P T Z)(hI:Qi P T.gl inl)(hr0:Rel Z s σs A L σ w)(hg:Eh s.sl g= .fn f caps)
  (hd:Jf n ⟨some dn, .call ⟨.value g,as,ts⟩,ty,pos,after,none⟩=true) (h:iZ P T inl s (some dn) f caps as.toList k=some r)
  (hG:G->∃c,T.get f=some c/\mq (Qo c.ps)=true/\ (V8 c=false\/owns.go (as.toList.map (Eh s.sl))=[])):
  Xc P n ops ⟨some dn, .call ⟨.value g,as,ts⟩,ty,pos,after,none⟩ Z s σs k r G A L σ w:=by
 obtain⟨cvs,hgv,yK⟩:=qm (Dl hr0.mem.sl hg rfl);have has:as=as.toList.toArray:=by simp
 have hxe:Ent P f->XE P σ w (.call ⟨.value g,as,ts⟩) f (as.toList.map (ev σ)++cvs).toArray:=λhe=>by
  have:=X.Ays (P:=P) (σ:=σ) (w:=w) (args:=as.toList) (ts:=ts) he hgv rfl;rw[<-has]at this;exact this
 unfold iZ at h;split at h
 ·rename_i c hc;have hcon:=hT.1 f c hc;split at h
  ·have hc0:cvs=[]:=yK;subst hc0;split at h
   ·cases h
   ·rename_i ls0 zK;split at h
    ·cases h
    ·rename_i s1 hs1;obtain⟨A1,L1,hr,hsame⟩:∃A1 L1,Rel Z s1 σs A1 L1 σ w/\ (G->s1=s/\A1=A/\L1=L):=by
      split at hs1
      ·rename_i hro;obtain⟨A1,L1,h1,h2⟩:=Qr hr0 hs1;refine⟨A1,L1,h1,λg=>h2 ?_⟩;obtain⟨c',hc',_,h3⟩:=hG g;rw[hc]at hc';cases hc';rcases h3 with h3|h3
       ·rw[hro]at h3;cases h3
       ·exact J2 (by rw[pV zK];exact h3)
      ·cases hs1;exact⟨A,L,hr0,λ_=>⟨rfl,rfl,rfl⟩⟩
     cases hP:J6 (as.toList.map (Eh s1.sl))with
     |false=>rw[hP]at h;cases h
     |true=>
     rw[hP]at h;simp only[Xd,X0]at h;try dsimp only[Cp]at h
     split at h
     ·cases h
     ·rename_i ls hls;cases Zl:(V8 c&& !(Tl (Qo c.ps) ls).isEmpty)with
      |true=>rw[Zl]at h;cases h
      |false=>
      rw[Zl]at h;dsimp only[Cp,cond]at h;split at h
      ·cases h
      ·rename_i x hx;split at h
       ·cases h
       ·rename_i is his;cases lg:(!((Tl (Qo c.ps) ls).all λi=>!Wy i is))with
        |true=>rw[lg]at h;cases h
        |false=>
        rw[lg]at h;dsimp only[Cp,cond]at h;split at h
        ·cases h
        ·rename_i s2 hs2;obtain⟨y,hy,h⟩:=bind_some h;change (match iK c.rs (Es (Qo c.rs) y s2).1 with|some vs=>k ((Es (Qo c.rs) y s2).2.Gc (some dn) (q! vs))|none=>none)=some r at h;have hpv:=mP hr.mem.sl _ hP;have hone:∀(i z:Nat) (E:TypeId) (v:Value) (c:List Value),L1[i]? =some (.own z E v c)->v.oneCell'=true:=λi z E v c hi=>by
          obtain⟨p,len,cap,rfl,_⟩:=hr.Pf hi;rfl
         obtain⟨L2,hm2,hnil,hget,Azt⟩:=pq hr.mem hone hs2;obtain⟨BX,hBX,hX,hY⟩:=Cu.split (Azt A1 [] (by simpa using St.mobs hr));have hr2:Rel Z s2 σs A1 L2 σ w:=Rel.as (h:=(⟨St.lt hr,hr.facts,hY.Ii λ_ h=> .inl h⟩:St A1 w _ (L2.map MD.Ex))) (i:=1) rfl hm2 rfl;have hL0:Cu w (λb=>¬BX b) ((Lu L1 (Qo c.ps) ls).map MD.Ex):=rZ (N:=λ_=>True) his (by simpa using hX);have key:∀R0:Reg,(∀b,A1 b/\Z.R b->R0 b)-> (Tl (Qo c.ps) ls=[]\/∀b,R0 b)-> (V8 c=true->∀b,R0 b->A1 b/\Z.R b)->
           Xc P n ops ⟨some dn, .call ⟨.value g,as,ts⟩,ty,pos,after,none⟩ Z s σs k r G A L σ w:=by
          intro R0 h1 h2 h3;have hb1:∀b,A1 b/\Z.R b->R0 b/\ ¬BX b:=λb hb=>⟨h1 b hb,λhx=>(hBX b hx).1 hb.1⟩;obtain⟨Bba,e1,e2,e3,e4⟩:=Ai3 (B1:=λb=>R0 b/\ ¬BX b) hr hb1 (Qo c.ps) ls x is ⟨[],[],[]⟩ [] (Lu L1 (Qo c.ps) ls) hx his (λi hi z E v cc hLi=>by
           rcases h2 with h2|h2
           ·rw[h2]at hi;cases hi
           ·have hni:Wy i is=false:=by
             have:=lg;simp only[eu,XY,O1]at this;exact this i hi
            have Bbb:=(hget i hni).trans hLi;obtain⟨o,g1,g2⟩:=Cu.Y5 hY (hr2.Ex Bbb);exact(Go.Lv.Pf g1).step (λb hb=>⟨h2 b,λhx=>g2 b hb (.inr hx)⟩) (λ_ _=>rfl)) rfl rfl
          obtain⟨ps,h5,h6⟩:=Ann hls hpv e3;have eL:f_ c.ps x=Bba:=by unfold f_;rw[e1];rfl
          have hcall:=hcon.ok R0 (λb=>¬BX b) w _ _ ps x y h5 (by rw[eL];exact e2) (by rw[eL];exact e4) hL0 h6 (λp hp=>by
           obtain⟨hA,T1,fr,hh⟩:=hr.V! (hT.2▸hp);exact⟨lt_of_heap hh,λhx=>(hBX _ hx).1 hA.1,T1,fr,hh⟩) hy
          have hxe':=hxe hcon.ent;rw[F_]at hxe';refine WL.e (ME hd) hxe' hcall ?_;rintro e w' ⟨us,rfl,hk,A2,LL,hA2,hm3,hres⟩;refine⟨_,rfl,WL.nil ?_⟩;have hnew:∀b,A2 b->Z.R b:=λb hb=>by
           rcases(hA2 b hb).1 with h7|h7
           ·exact hr.out (hBX b (Classical.not_not.1 h7)).1
           ·refine Z.new b ?_;have h8:Z.w0.heap.size<=w.heap.size:=(hr.fact 1 (f:= .old Z.M Z.w0) rfl).1.le;omega
          obtain⟨ps',its,g1,g2,g3,g4,g5⟩:=hres s2 L2 (λb=>(A1 b\/A2 b)/\Z.R b) hr2.len.symm (λb hb=>⟨.inr hb,hnew b hb⟩) (λhro b hb=>by
           rcases hb with hb|⟨p,hp,rfl⟩
           ·exact⟨.inl (h3 hro b hb.1).1,(h3 hro b hb.1).2⟩
           ·exact⟨.inl (hr.V! (hT.2▸hp)).1.1,(hr.V! (hT.2▸hp)).1.2⟩)
          have hr':=Rel.Ai2 hr2 hBX hY hk hA2 hm3 g4 g5;obtain⟨hv,hv'⟩:=E? g3;rw[g2]at h;refine⟨_,λb=>A1 b\/A2 b,L2++LL,h,?_,λgg=>?_⟩
          ·rw[g1];exact hr'.Gc (d:=some dn) hv hv'
          ·obtain⟨e1',e2',e3'⟩:=hsame gg;obtain⟨c',hc',hno,_⟩:=hG gg;rw[hc]at hc';cases hc';have Bbd:=Aop hno his;subst Bbd;have Bbe:s1=s2:=by simpa [S.xR]using hs2
           have Bbf:=hnil rfl;subst Bbe Bbf e1' e2' e3';rw[g1];exact⟨λb hb=> .inl hb,λb hb=>hk.same b (St.lt hr b hb) λhx=>(hBX b hx).1 hb,⟨LL,rfl⟩,⟨its,rfl⟩⟩
         cases hro':V8 c with
         |true=>
          refine key (λb=>A1 b/\Z.R b) (λ_ h=>h) (.inl ?_) (λ_ _ h=>h);rw[hro']at Zl;simp only[UY,eu]at Zl;exact isEmpty_nil Zl
         |false=>exact key (λ_=>True) (λ_ _=>trivial) (.inr λ_=>trivial) (λh=>by rw[hro']at h;cases h)
  ·cases h
 ·rename_i hn;obtain⟨hP,h⟩:=Aq h;have hpv:=Ek.append (mP hr0.mem.sl _ hP) yK;obtain⟨he,hcall⟩:=hI Z hT.2 f _ s _ r σs A L σ w _ h hr0 hpv;refine WL.e (ME hd) (hxe he) hcall ?_;rintro e w' ⟨v,p,s',A',L',rfl,hk,hr',hv,hv'⟩;refine⟨_,rfl,WL.nil ⟨_,A',L',hk,hr'.Gc (d:=some dn) hv hv',λgg=>?_⟩⟩;obtain⟨c,hc,_⟩:=hG gg;rw[hn]at hc;cases hc
end Go.Rx
namespace Go.Rx
open Go Go.Lv
variable{o:BinOp}{st:Bool}{e:ET}{x y:Operand}{v:PV}{G:Prop}{vy:Value}
variable {P:Program} {B B':Reg} {w w':World} {L L':List MD} {s:S} {σs:List Env} {σ:Env} {Z:Fix} {A A':Reg} {n:Nat} {ops:Array Oper}
variable {R:Type} {k:S->Option R} {r:R} {d:Option Nat} {ty:TypeId} {pos:String} {after:Array Edge} {T:Tab} {inl:fN R}
theorem GM{l:List Oper}{K K':Env->World->Prop}(h:WL P n ops l K σ w)(hk:∀σ w,K σ w->K' σ w):WL P n ops l K' σ w:=by
 have:=WL.cut (rest:=[]) K l h (λσ w h=>WL.nil (hk σ w h));rwa [F_]at this
def tyK:Bool->TypeDesc|true=> .string|false=> .int .u8
theorem uC{d:Option TypeDesc}(h:tyB d=some st):d=some (tyK st):=by
 unfold tyB at h;split at h<;>cases h<;>rfl
theorem Q_:∀(st:Bool) (k:List UInt8),MapKept.IsKey (tyK st) (aW st k)
 |true,_=>trivial
 |false,_=>rfl
theorem Ayb{a b:List UInt8}(h:sv a=sv b):a=b:=by
 have:(⟨a.toArray⟩:ByteArray)=⟨b.toArray⟩:=by simpa [sv]using h
 have:=congrArg (·.data.toList) this;simpa using this
theorem Ao5(st:Bool)(a q:List UInt8):Instr.sameNow (tyK st) (aW st a) (aW st q)=some (Y8 st a q):=by
 cases st with
 |false=>rfl
 |true=>
  obtain⟨r,h1,h2⟩:=MapKept.sameNow_of_keys (Q_ true a) (Q_ true q);rw[h1];congr 1;rw[N4,h2]
  show sv a=sv q↔(a==q)=true;rw[VM];exact⟨Ayb,λh=>by rw[h]⟩
theorem Aki{a:e.T}{k:List UInt8}{v:Value}(h:keyOf e a=some (st,k))(hv:Ef B w L (.val e a) v):v=aW st k:=by
 unfold keyOf at h;split at h
 ·cases h;exact GQ hv
 ·cases h;exact tK hv
 ·cases h
theorem look_ok{st:Bool}{a:List UInt8}{z:PV}{kk:PV->Option R}:∀{es:List MapEntry} {ks:List (List UInt8)} {vs:List PV} {i:Nat},es.map (·.key)=ks.map (aW st)->Ek B w L vs (es.map (·.val))->lkC st a kk z ks vs=some r->
  ∃res,Instr.findNow (tyK st) (aW st a) es i=some res/\match res with
   |some (_,v)=>∃p:PV,asV p.isA (Ba B w L p) v/\kk (.tup [p, .b true])=some r
   |none=>kk (.tup [z, .b false])=some r
 |[],[],[],i,_,_,h=>⟨none,rfl,h⟩
 |[],[],_::_,i,_,⟨_,_,e,_⟩,h=>by cases e
 |[],_::_,_,i,h,_,_=>by cases h
 |_::_,[],_,i,h,_,_=>by cases h
 |e::es,q::ks,[],i,_,h,_=>by cases h
 |e::es,q::ks,p::vs,i,hk,⟨v,vs',hv,h1,h2⟩,h=>by
  simp only[IZ,W9]at hk hv;obtain⟨hk1,hk2⟩:=hk;obtain⟨rfl,rfl⟩:=hv;have hs:Instr.sameNow (tyK st) (aW st a) e.key=some (Y8 st a q):=by
   rw[hk1];exact Ao5 st a q
  unfold lkC at h;cases hb:Y8 st a q with
  |true=>
   rw[hb,A7 rfl]at h;exact⟨some (i,e.val),by simp only[Instr.findNow,hs,hb],p,h1,h⟩
  |false=>
   rw[hb,A4 F8]at h;obtain⟨res,g1,g2⟩:=look_ok (i:=i+1) hk2 h2 h;exact⟨res,by simp only[Instr.findNow,hs,hb];exact g1,g2⟩
theorem Ahg{t:TypeId}{ix:Operand}{dn:Nat}(hr:Rel Z s σs A L σ w)(hd:Jf n ⟨some dn, .lookup t x ix true,ty,pos,after,none⟩=true)(h:jR P s dn t x ix k=some r):
  Xc P n ops ⟨some dn, .lookup t x ix true,ty,pos,after,none⟩ Z s σs k r G A L σ w:=by
 have hm:=hr.mem;unfold jR at h;split at h
 ·rename_i st ks vs e a kt et hx hix ht;split at h
  ·rename_i sa a' sb hko hkt;obtain⟨hsb,h⟩:=Aq h;simp only[A9]at hsb;obtain rfl:sa=st:=xg hsb.1;obtain rfl:sb=sa:=xg hsb.2;have hkt:=uC hkt;obtain⟨rr,es,c,h1,h2,h3,h4,h5⟩:=Dl hm.sl hx rfl;have hxv:ev σ x= .map (some rr):=by simpa using h1
   have hiv:ev σ ix=aW sb a':=Aki hko (Dl hm.sl hix rfl);have hck:(Instr.checkKey es.isEmpty 10000 kt (aW sb a')).run P w= .ok () w:=MapKept.run_checkKey hkt (Q_ sb a') _ 9999;have hgo:=MapKept.run_getObj_map (P:=P) h3;have fin:∀{z:PV} {zv:Value},(zeroValue et).run P w= .ok zv w->Ga (λb=>A b/\Z.R b) w L z zv->lkC sb a' (λv=>k (s.set dn v)) z ks vs=some r->Xc P n ops ⟨some dn, .lookup t x ix true,ty,pos,after,none⟩ Z s σs k r G A L σ w:=by
    intro z zv hzr hzv h;obtain⟨res,g1,g2⟩:=look_ok (i:=0) h4 h5 h;have hfk:=MapKept.run_findKey (P:=P) (w:=w) hkt g1;cases res with
    |none=>
     refine Eb (p:= .tup [z, .b false]) (val:= .tuple #[zv, .bool false]) (d:=some dn) hr hd (λ_ _ _ _ _=>?_) rfl ?_ g2
     ·simp[execOp,hxv,hiv,Instr.lookup,A_ ht,hgo,hck,hfk,hzr,Result.andThen]
     ·exact⟨[zv, .bool false],rfl,zv,[.bool false],rfl,hzv,_,[],rfl,rfl,rfl⟩
    |some q=>
     obtain⟨j,v⟩:=q;obtain⟨p,k1,k2⟩:=g2;refine Eb (p:= .tup [p, .b true]) (val:= .tuple #[v, .bool true]) (d:=some dn) hr hd (λ_ _ _ _ _=>?_) rfl ?_ k2
     ·simp[execOp,hxv,hiv,Instr.lookup,A_ ht,hgo,hck,hfk,Result.andThen]
     ·exact⟨[v, .bool true],rfl,v,[.bool true],rfl,k1,_,[],rfl,rfl,rfl⟩
   split at h
   ·rename_i inf Rz;split at h
    ·rename_i hz;exact fin (z:= .cst .nilFunc) (zv:= .nilFunc) (by simp[zeroValue,typeInfo,Rz,hz]) ⟨rfl,rfl⟩ h
    ·rename_i cs hz;split at h
     ·rename_i z hpz;obtain⟨hA,h⟩:=Aq h;have h1:=cJ (B:=λb=>A b/\Z.R b) (w:=w) (L:=L) hpz;refine fin (z:=z) (zv:= .agg cs) (by simp[zeroValue,typeInfo,Rz,hz]) ?_ h
      show asV z.isA _ _;rw[hA];exact⟨cs.toList,F8,h1⟩
     ·cases h
    ·cases h
   ·cases h
  ·cases h
 ·cases h
theorem Atr{cs:Array Value}(h:kR P ty (.agg cs)=some v)(hA:v.isA=true):v.isV=true/\Ef B w L v (.agg cs):=by
 have h1:=cJ (B:=B) (w:=w) (L:=L) h;have h2:Ga B w L v (.agg cs):=by
  unfold Ga;rw[hA];exact⟨cs.toList,F8,h1⟩
 exact Je h2
theorem W_{a:Option R}:∀{l:List (Option R)},both a l=some r->a=some r/\∀b∈l,b=some r
 |[],h=>⟨h,F8⟩
 |b::l,h=>by
  unfold both at h;split at h
  ·rename_i hab;obtain⟨h1,h2⟩:=W_ h;exact⟨h1,λc hc=>by
    rcases List.mem_cons.1 hc with rfl|hc
    ·exact hab▸h1
    ·exact h2 c hc⟩
  ·cases h
theorem Apw{α:Type}{l:List α}{a b:Option R}(h:G5 l a b=some r):b=some r/\ (l=[]->a=some r):=by
 cases l with
 |nil=>
  obtain⟨h1,h2⟩:=W_ h;exact⟨h2 _ (.head _),λ_=>h1⟩
 |cons x l=>exact⟨h,λe=>by cases e⟩
theorem uX{t e t':TypeId}{q:Bool}{p:Option Addr}{l c:Nat}(h:J8 o=some q)(ht:P.underlying t=some (.slice e))(hx:ev σ x= .slice p l c)(hy:ev σ y= .slice none 0 0):
  XO P σ w (.binOp o t x y t') (.bool (p.isNone==q)):=by
 cases o<;>simp only[J8,HN,reduceCtorEq]at h<;>subst h
 ·have:=X.bin (w:=w) (t':=t') hx hy (Bin.Aqp ht p l c);simpa using this
 ·have:=X.bin (w:=w) (t':=t') hx hy (Bin.Arp ht p l c);cases p<;>simpa using this
theorem elem_nil{B:Reg}{l:List e.T}(hz:Nat.ble 1 e.size=true)(h:Cj (Ax B w e) l []):l=[]:=by
 have h1:=Cj.len (λx c h=>Ax.len h) h;have h2:1<=e.size:=by simpa using hz
 cases l with
 |nil=>rfl
 |cons a l=>
  simp only[B6,V5]at h1;have:0<(l.length+1)*e.size:=WA F0 F0;omega
theorem Ak4{t t':TypeId}{a:PV}{dn:Nat}(hr:Rel Z s σs A L σ w)(hd:Jf n ⟨some dn, .binOp o t x y t',ty,pos,after,none⟩=true)(hx:Eh s.sl x=a)(hy:Eh s.sl y= .nils)
  (h:jg P s dn o t a k=some r):Xc P n ops ⟨some dn, .binOp o t x y t',ty,pos,after,none⟩ Z s σs k r G A L σ w:=by
 have hm:=hr.mem;have hy':=FQ (Dl hm.sl hy rfl);unfold jg at h;split at h
 ·rename_i q e hq ht;have main:∀{α:Type} {l:List α} {p:Option Addr} {len c:Nat},ev σ x= .slice p len c-> (p=none->l=[])->G5 l (k (s.set dn (.b q))) (k (s.set dn (.b (!q))))=some r->Xc P n ops ⟨some dn, .binOp o t x y t',ty,pos,after,none⟩ Z s σs k r G A L σ w:=by
   intro α l p len c hv hp h;obtain⟨h1,h2⟩:=Apw h;cases hn:p.isNone with
   |true=>
    have hk:=h2 (hp (by simpa using hn));have hxo:=uX (w:=w) (t':=t') hq ht hv hy';rw[hn]at hxo;have hb:(true==q)=q:=by cases q<;>rfl
    rw[hb]at hxo;exact Eb (p:= .b q) hr hd hxo rfl rfl hk
   |false=>
    have hxo:=uX (w:=w) (t':=t') hq ht hv hy';rw[hn]at hxo;have hb:(false==q)=!q:=by cases q<;>rfl
    rw[hb]at hxo;exact Eb (p:= .b (!q)) hr hd hxo rfl rfl h1
  split at h
  ·have hv:=FQ (Dl hm.sl hx rfl);have hxo:=uX (w:=w) (t':=t') hq ht hv hy';have hb:((none:Option Addr).isNone==q)=q:=by cases q<;>rfl
   rw[hb]at hxo;exact Eb (p:= .b q) hr hd hxo rfl rfl h
  ·split at h
   ·obtain⟨hz,h⟩:=Aq h;obtain⟨c0,h1,h2⟩:=Zt (Dl hm.sl hx rfl);have h1':=h1;obtain⟨p,len,cap,hv,h3,h4,h5,h6⟩:=h1;refine main hv (λhp=>?_) h;subst hp;have:c0=[]:=Go.Lv.Rd.Acd (by rw[<-hv];exact h1');subst this;have:=h5 rfl;exact elem_nil hz h2
   ·cases h
  ·rename_i i;split at h
   ·rename_i E e' l hi;obtain⟨hz,h⟩:=Aq h;obtain⟨v,cs,h1,h2⟩:=hm.arr hi;obtain⟨z,E',c0,h3⟩:=HC (Dl hm.sl hx rfl);rw[h1]at h3;cases h3;have hrd:=hr.Pf h1;have h1':=hrd;obtain⟨p,len,cap,hv,h4,h5,h6,h7⟩:=hrd;refine main hv (λhp=>?_) h;subst hp;have:cs=[]:=Go.Lv.Rd.Acd (by rw[<-hv];exact h1');subst this;exact elem_nil hz h2
   ·cases h
  ·cases h
 ·cases h
theorem Abv{i b off:Nat}{md:MD}{ns:List Value}{F:List Fact}(hr:St A w F (L.map MD.Ex))(h:L[i]? =some md)(hb:md.base=some b)(h1:ns.all (·.oneCell')=true)(hle:off+ns.length<=md.cells.length)(hz:0<ns.length):
  ∃w' md',(storeCells ⟨b,off,none⟩ ns).run P w= .ok () w'/\St A w' F ((L.map MD.Ex).set i md'.Ex)/\Wq off ns md md':=by
 cases md with
 |dead=>cases hb
 |box b' cells T=>
  cases hb;have hL:(L.map MD.Ex)[i]? =some (Mob.box b cells T):=za h;have hr':=Hb (P:=P) b T (0,0) ns off 0 cells w (hr.box hL) (by simpa [MD.cells]using hle) (.inr (.inr (C4 _))) (λv hv=>by simpa using List.all_eq_true.1 h1 v hv);simp only[SJ]at hr';exact⟨_, .box b (Bk cells off ns) T,hr',hr.jD hL,rfl⟩
 |own z' E u cs=>
  obtain⟨b',m,c,hu,hs'⟩:=St.C_ hr (za h) (by simp[MD.cells]at hle;omega);subst hu;cases hb;have hlen:i<(L.map MD.Ex).length:=by simpa using(List.getElem?_eq_some_iff.1 h).1
  have hL:((L.map MD.Ex).set i (.at_ b z' E m c cs))[i]? =some (.at_ b z' E m c cs):=by rw[U2 hlen]
  have hle':off+ns.length<=cs.length:=hle;have hcore:∃w',(storeCells ⟨b,off,none⟩ ns).run P w= .ok () w'/\St A w' F (((L.map MD.Ex).set i (.at_ b z' E m c cs)).set i (.at_ b z' E m c (Bk cs off ns))):=by
   obtain⟨o,ho,_,_⟩:=(hs'.front hL).mobs;obtain⟨rfl,ho⟩:=ho;have ho':=ho;obtain⟨_,len,cap,e,h3,h4,h5,h5',h6⟩:=ho;cases e;obtain⟨arr,fr,e,hbb,hsz',hfz,hcells⟩:=h6 b rfl;have hcl:cs.length<=arr.size:=by rw[h3,hsz'];exact C2 _ h4
   have hr':=Hb (P:=P) b E fr ns off 0 arr.toList w (by simpa using hbb) F5 (by simp;rcases hfz with h|h;exact .inr (.inr (ZD h.symm));exact .inr (.inl h)) (λv hv=>by simpa using List.all_eq_true.1 h1 v hv);simp only[SJ]at hr';have hbl:=lt_of_heap hbb;have hcs':(Bk cs off ns).length=cs.length:=Fw F0;have hget:∀i,i<m*z'-> (Bk arr.toList off ns)[i]? =(Bk cs off ns)[i]? :=λi hi=>by
    have k!:min off arr.toList.length=off:=by simp;omega
    have jq:min off cs.length=off:=F0
    simp only[Bk,aD,HH,k!,jq,SI,VA];by_cases g1:i<off
    ·rw[A7 g1,A7 g1,A7 g1,A7 g1];simpa using hcells i hi
    ·rw[A4 g1,A4 g1];by_cases g2:i-off<ns.length
     ·rw[A7 g2,A7 g2]
     ·rw[A4 g2,A4 g2];have e1:off+ns.length+(i-off-ns.length)=i:=F0
      rw[e1];simpa using hcells i hi
   refine⟨_,hr',hs'.jC hL (b:=b) ⟨rfl,ho'⟩ ⟨rfl,_,m,c,rfl,by rw[hcs',h3],h4,h5,h5',λb' hb'=>?_⟩ ?_⟩
   ·cases hb';refine⟨(Bk arr.toList off ns).toArray,fr,rfl,by simp[Ec,hbl],?_,?_,λi hi=>?_⟩
    ·simp only[T?];rw[Fw F5];simpa using hsz'
    ·simp only[T?];rw[Fw F5];simpa using hfz
    ·simpa using hget i hi
   ·rintro⟨q,hq,q1,q2⟩;exact⟨q,hq,q1,q2,hq.1⟩
  obtain⟨w',g1,g2⟩:=hcore;have hs3:=g2.yX (i:=i) (b:=b) (s:=z') (m:=m) (c:=c) (E:=E) (cs:=Bk cs off ns) (by rw[U2 (by simpa using hlen)]);rw[fU,fU]at hs3;exact⟨w', .own z' E (.slice (some ⟨b,0,none⟩) m c) (Bk cs off ns),g1,hs3,rfl⟩
structure SrcW (P:Program) (w:World) (vy:Value) (z ly:Nat) (ys:List Value):Prop where
 len:(Builtin.lenOf vy).run P w= .ok ly w
 first:∀m,m<=ly-> (Builtin.firstCells z m vy).run P w= .ok (ys.take (m*z)).toArray w
theorem SrcW.rd{z ly:Nat}{ys:List Value}(h:Rd (λ_=>True) w z vy ys)(hl:ys.length=ly*z)(hz:0<z):SrcW P w vy z ly ys:=by
 obtain⟨p,len,cap,rfl,h2,h3,h4,h5⟩:=h;have he:len=ly:=SY hz (h2.symm.trans hl);subst he;refine⟨rfl,λm hm=>?_⟩;cases p with
 |none=>
  have:m=0:=by have:=h4 rfl;omega
  subst this;simp[Builtin.firstCells]
 |some a=>
  have hlen:(ys.take (m*z)).length=m*z:=by
   rw[HH,h2];have:=C2 z hm;omega
  simp only[Builtin.firstCells];by_cases hc:0<cap
  ·obtain⟨b,off,arr,T,fr,e1,_,e2,_,e4⟩:=h5 hc;cases e1;have:=Lm (P:=P) (w:=w) (b:=b) (off:=off) (ys.take (m*z)) (λi hi=>by
    rw[hlen]at hi;have h6:i<len*z:=E5 hi (C2 z hm);rw[cell_of e2,e4 i h6,SI,A7 hi])
   rw[hlen]at this;exact this
  ·have:m=0:=F0
   subst this;simp[loadCells,loadCellsFrom]
theorem SrcW.str{l:List UInt8}:SrcW P w (sv l) 1 l.length (We (k:= .u8) l):=by
 refine⟨by simp[Builtin.lenOf,ByteArray.size],λm hm=>?_⟩;simp only[Builtin.firstCells,pR,I7];congr 1;simp[We,List.map_take];rfl
theorem I'{t2:TypeId}{m:List e.T}(hr:Rel Z s σs A L σ w)(hz:0<e.size)(h:Zi P s e t2 y=some m):∃ys,Cj (Ax (λb=>A b/\Z.R b) w e) m ys/\SrcW P w (ev σ y) e.size m.length ys:=by
 have hm:=hr.mem;have plain:elems s e (Eh s.sl y)=some m->∃ys,Cj (Ax (λb=>A b/\Z.R b) w e) m ys/\SrcW P w (ev σ y) e.size m.length ys:=by
  intro h;have hV:(Eh s.sl y).isV=true:=by
   cases hq:(Eh s.sl y).isV with
   |true=>rfl
   |false=>rcases Ve hq with h'|h'|⟨_,_,_,h'⟩<;>rw[h']at h<;>cases h
  obtain⟨c0,h1,h2⟩:=VV hm h (Qk hm.sl y hV);have hrd:Rd (λ_=>True) w e.size (ev σ y) c0:=by
   rcases h2 with h2|⟨j,E',u,cs',_,h2,hpart⟩
   ·exact h2.step (λ_ _=>trivial) (λ_ _=>rfl)
   ·exact hpart _ _ (hr.Pf h2)
  exact⟨c0,h1, .rd hrd (h1.len λx c h=>Ax.len h) hz⟩
 unfold Zi at h;split at h
 ·split at h
  ·rename_i m0 hy;unfold ZU at h;split at h
   ·rename_i he;cases he;cases h;rw[Qs hm.sl hy];exact⟨We m0,yg.HG, .str⟩
   ·cases h
  ·cases h
 ·unfold uE at h;split at h
  ·rename_i i p e1 lo n' hy;split at h
   ·rename_i T v hi;split at h
    ·rename_i a x hg;split at h
     ·rename_i q a l;obtain⟨hb,h⟩:=Aq h;simp only[A9,B2]at hb;obtain⟨⟨k1,k2,k3⟩,rfl⟩:=hb;split at h
      ·rename_i ha;subst ha;cases h;obtain⟨md,v1,h3,h4,g1,g2,⟨pt,cap,g3,g4,g5,g6⟩,_⟩:=Dl hm.sl hy rfl;have h6:ev σ y=v1:=by simpa using h4
       obtain⟨b,cells,h7,h8⟩:=hm.box hi;rw[h7]at h3;cases h3;obtain⟨c1,c2,c3,he,h9,h10,h11⟩:=cY hg h8;have oP:=h11.len λx c h=>Ax.len h;obtain⟨lo',rfl⟩:=R9 k1;obtain⟨n1,rfl⟩:=R9 k2;simp only[C']at g3 g4 g6;have hq:lo'+n1<=l.length:=by rw[h10];omega
       have hsub:(QL l lo' n1).length=n1:=by simp[QL];omega
       have e5:lo'*a.size+n1*a.size<=l.length*a.size:=by rw[<-B5];exact C2 _ hq
       refine⟨(c2.drop (lo'*a.size)).take (n1*a.size),Cj.take (λx c h=>Ax.len h) _ (Cj.drop (λx c h=>Ax.len h) _ h11),?_,λm hm'=>?_⟩
       ·rw[h6,g3,hsub];rfl
       ·rw[hsub]at hm';rw[h6,g3];have hml:m*a.size<=n1*a.size:=C2 _ hm';cases pt with
        |none=>
         have:m=0:=by have:=g5 rfl;omega
         subst this;simp[Builtin.firstCells]
        |some ad=>
         simp only[Builtin.firstCells];by_cases hc:0<cap
         ·obtain⟨bb,e1,e2⟩:=g6 hc;cases e1;cases e2;have hlen3:(((c2.drop (lo'*a.size)).take (n1*a.size)).take (m*a.size)).length=m*a.size:=by
           simp only[HH,SH,oP];omega
          have:=Lm (P:=P) (w:=w) (b:=b) (off:=Au p+lo'*a.size) (((c2.drop (lo'*a.size)).take (n1*a.size)).take (m*a.size)) (λi hi=>by
           rw[hlen3]at hi;have hcl:Au p+lo'*a.size+i<(MD.box b cells T).cells.length:=by
            simp only[MD.cells,he,A?,h9,oP];omega
           rw[hr.cells h7 rfl _ hcl];simp only[MD.cells];rw[he,SF F0,h9,show Au p+lo'*a.size+i-Au p=lo'*a.size+i by omega,I9 (by rw[oP];omega),
            SI,A7 hi,SI,A7 F0,VA])
          rw[hlen3]at this;exact this
         ·have:m=0:=F0
          subst this;simp[loadCells,loadCellsFrom]
      ·cases h
     ·cases h
    ·cases h
   ·cases h
  ·exact plain h
 ·cases h
theorem Avm(cs:List Value)(o:Nat):Bk cs o []=cs:=by simp[Bk]
theorem Amk{t t2 E:TypeId}{vx:Value}{z ly nv Z4 off i:Nat}{pt:Option Addr}{ys:List Value}{md:MD}{F:List Fact}(ht:P.underlying t=some (.slice E))(hsz:Im P E z)(hsrc:SrcW P w vy z ly ys)(hys:ys.length=ly*z)(h1:ys.all (·.oneCell')=true)
  (hr:St A w F (L.map MD.Ex)) (h:L[i]? =some md) (hne:md≠ .dead) (hx:vx= .slice pt nv Z4) (hcap:nv<=Z4) (hpt:pt=none->Z4=0) (hb:0<Z4->∃b,md.base=some b/\pt=some ⟨b,off,none⟩) (hle:off+nv*z<=md.cells.length) (hz:0<z):
  ∃w' md',(Builtin.copy_ #[t,t2] ty #[vx,vy]).run P w= .ok (goInt (Nat.min ly nv)) w'/\St A w' F ((L.map MD.Ex).set i md'.Ex)/\Wq off (ys.take (nv*z)) md md':=by
 subst hx;have hmin:Nat.min ly nv<=ly:=Nat.min_le_left _ _;have E!:=hsrc.first _ hmin
 have htake:ys.take (Nat.min ly nv*z)=ys.take (nv*z):=by
  rcases X4 ly nv with h'|h'
  ·rw[show Nat.min ly nv=ly from T! h',<-hys,NI,J0 (by rw[hys];exact C2 z h')]
  ·rw[show Nat.min ly nv=nv from Vy h']
 rw[htake]at E!;have hmul:Nat.min ly nv*z<=nv*z:=C2 z (Nat.min_le_right _ _);have hlen:(ys.take (nv*z)).length=Nat.min ly nv*z:=by
  rw[<-htake,HH,hys];have:=C2 z hmin;omega
 have hnone:(ys.take (nv*z))=[]->∃w' md',(Builtin.copy_ #[t,t2] ty #[.slice pt nv Z4,vy]).run P w= .ok (goInt (Nat.min ly nv)) w'/\St A w' F ((L.map MD.Ex).set i md'.Ex)/\Wq off (ys.take (nv*z)) md md':=by
  intro he;refine⟨w,md,?_,?_,?_⟩
  ·rw[he]at E!;cases pt<;>simp[Builtin.copy_,A_ ht,hsrc.len,Ca hsz,E!,storeCells]
  ·rw[List.getElem?_eq_some_iff]at h;obtain⟨hlt,h⟩:=h;have:(L.map MD.Ex).set i md.Ex=L.map MD.Ex:=by
    rw[<-VR,<-h,List.set_getElem_self]
   rw[this];exact hr
  ·rw[he];cases md with
   |dead=>exact absurd rfl hne
   |box b c T=>simp only[Wq,Avm]
   |own z' E' v c=>simp only[Wq,Avm]
 by_cases he:(ys.take (nv*z))=[]
 ·exact hnone he
 ·have hpos:0<(ys.take (nv*z)).length:=List.length_pos_iff.2 he;have hm0:0<Nat.min ly nv:=by
   rcases a! (Nat.min ly nv)with h'|h'
   ·rw[hlen,h']at hpos;simp at hpos
   ·exact h'
  have hnv:0<nv:=E5 hm0 (Nat.min_le_right _ _);obtain⟨b,e1,e2⟩:=hb F0;subst e2;obtain⟨w',md',g1,g2,g3⟩:=Abv (P:=P) (off:=off) hr h e1 (ns:=ys.take (nv*z)) (List.all_eq_true.2 λv hv=>List.all_eq_true.1 h1 v (aF hv)) (by rw[hlen];omega) hpos;refine⟨w',md',?_,g2,g3⟩;simp[Builtin.copy_,A_ ht,hsrc.len,Ca hsz,E!,g1]
theorem O!(nv k:Nat):LK (nv:Int) k=((Nat.min k nv:Nat):Int):=by
 unfold LK;rcases VE k nv with h|h
 ·rw[A7 F0,show Nat.min k nv=k from T! F0]
 ·rw[A4 F0,show Nat.min k nv=nv from Vy h]
theorem H4{B:Reg}{l m:List e.T}{cs ys:List Value}{lo nv:Nat}(hl:Cj (Ax B w e) l cs)(hm:Cj (Ax B w e) m ys):Cj (Ax B w e) (Um l lo nv m) (Bk cs (lo*e.size) (ys.take (nv*e.size))):=by
 have h1:=Cj.take (λx c h=>Ax.len h) nv hm;have h2:=h1.len λx c h=>Ax.len h;have h3:=Cj.take (λx c h=>Ax.len h) lo hl;have h4:=Cj.drop (λx c h=>Ax.len h) (lo+(m.take nv).length) hl;unfold Um Bk;simp only[C'];refine Cj.append h3 (Cj.append h1 ?_);rw[h2,<-B5];exact h4
theorem Al5{α:Type}(l m:List α):JT l m=Um l ((0:Nat):Int) ((l.length:Nat):Int) m:=by
 unfold JT Um;simp only[C',Ty,O7,K1,HH];congr 1;rcases X4 m.length l.length with h|h
 ·rw[Vy h]
 ·rw[T! h,U? (C4 _),U? h]
theorem P!{t t2 E E':TypeId}{l m:List e.T}{ys cs:List Value}{u:Value}{lo nv Z4 i:Nat}{pt:Option Addr}{ow:Option Nat}(hr:Rel Z s σs A L σ w)(hd:Jf n ⟨ow, .call ⟨.builtin .copy, #[x,y], #[t,t2]⟩,ty,pos,after,none⟩=true)
  (ht:P.underlying t=some (.slice E)) (hsz:Im P E e.size) (hz:0<e.size) (hit:Cs s.it i= .arr E' e l) (hL:L[i]? =some (.own e.size E' u cs)) (hl:Cj (Ax (λb=>A b/\Z.R b) w e) l cs) (hm:Cj (Ax (λb=>A b/\Z.R b) w e) m ys) (hsrc:SrcW P w (ev σ y) e.size m.length ys)
  (hx:ev σ x= .slice pt nv Z4) (hcap:nv<=Z4) (hpt:pt=none->Z4=0) (hb:0<Z4->∃b,(MD.own e.size E' u cs).base=some b/\pt=some ⟨b,lo*e.size,none⟩) (hle:lo+nv<=l.length)
  (hk:k ((s.Mr i (.arr E' e (Um l lo nv m))).Gc ow (.i .i64 (LK (nv:Int) m.length)))=some r):Xc P n ops ⟨ow, .call ⟨.builtin .copy, #[x,y], #[t,t2]⟩,ty,pos,after,none⟩ Z s σs k r False A L σ w:=by
 have hcl:=hl.len λx c h=>Ax.len h;have hyl:=hm.len λx c h=>Ax.len h;have hF:=St.qP (f:=Q3 Z.R L (.arr E' e (Um l lo nv m)) (Bk cs (lo*e.size) (ys.take (nv*e.size)))) hr (H4 hl hm);obtain⟨w',md',g1,g2,g3⟩:=Amk (P:=P) (ty:=ty) (t2:=t2) (off:=lo*e.size) ht hsz hsrc hyl hm.r_ hF hL (by intro h;cases h) rfl hcap hpt hb (by
  show lo*e.size+nv*e.size<=cs.length;rw[hcl,<-B5];exact C2 _ hle) hz
 simp only[Wq]at g3;subst g3;have key:=RI.own (cs':=Bk cs (lo*e.size) (ys.take (nv*e.size))) hL;have hr2:=Rel.change (a:= .arr E' e (Um l lo nv m)) g2.xV hL key ⟨rfl,rfl,g2.fact 0 rfl⟩;refine WL.XI (v:=goInt (Nat.min m.length nv)) rfl hd ?_ (WL.nil ⟨_,A,_,hk,hr2.Gc rfl ?_,λh=>h.elim⟩)
 ·simp[execOp,resolve,invoke,builtin,hx,g1]
 ·rw[O!];rfl
theorem qc{t t2:TypeId}{ow:Option Nat}(hr:Rel Z s σs A L σ w)(hd:Jf n ⟨ow, .call ⟨.builtin .copy, #[x,y], #[t,t2]⟩,ty,pos,after,none⟩=true)
  (h:U_ P s ow x y t t2 k=some r):Xc P n ops ⟨ow, .call ⟨.builtin .copy, #[x,y], #[t,t2]⟩,ty,pos,after,none⟩ Z s σs k r False A L σ w:=by
 have hmm:=hr.mem;unfold U_ at h;split at h
 ·cases h
 ·rename_i E hE;have ht:=XH hE;split at h
  ·cases h
  ·rename_i inf Rz;split at h
   ·rename_i i hx;split at h
    ·rename_i E' e l hit;obtain⟨hb,h⟩:=Aq h;simp only[A9]at hb;have hz:0<e.size:=by have:=U3 hb.2;omega
     split at h
     ·rename_i m hsrc;obtain⟨ys,h1,h2⟩:=I' hr hz hsrc;obtain⟨u,cs,h3,h4⟩:=hmm.arr hit;obtain⟨z',E2,c',h5⟩:=HC (Dl hmm.sl hx rfl);rw[h3]at h5;cases h5;obtain⟨q,len,cap,g1,g2,g3,g4,g5⟩:=hr.kZ h3;have hl:len=l.length:=SY hz (g2.symm.trans (h4.len λx c h=>Ax.len h));rw[Al5]at h;exact P! (lo:=0) (nv:=l.length) (ys:=ys) hr hd ht (Fk Rz hb.1) hz hit h3 h4 h1 h2 (by rw[g1,hl]) F0 g4 (λhc=>by obtain⟨b,e1,e2⟩:=g5 hc;exact⟨b,e2,by rw[e1];simp⟩) F0 h
     ·cases h
    ·cases h
   ·rename_i i p e1 lo n' hx;split at h
    ·rename_i E' e l hit;obtain⟨hb,h⟩:=Aq h;simp only[A9,B2]at hb;obtain⟨⟨hb1,hb2⟩,rfl⟩:=hb;have hz:0<e1.size:=by have:=U3 hb2;omega
     split at h
     ·rename_i m hsrc;obtain⟨ys,h1,h2⟩:=I' hr hz hsrc;obtain⟨u,cs,h3,h4⟩:=hmm.arr hit;obtain⟨md,v1,h5,h6,k1,k2,⟨pt,cap,k3,k4,k5,k6⟩,k7,_⟩:=Dl hmm.sl hx rfl;rw[h3]at h5;cases h5;have h7:ev σ x=v1:=by simpa using h6
      obtain⟨lo',rfl⟩:=R9 k1;obtain⟨n1,rfl⟩:=R9 k2;simp only[C']at k3 k4 k6 k7;obtain⟨s',E2,q,len,cap0,c0,e1',rfl,e3,_⟩:=k7 trivial;cases e1';obtain⟨q',len',cap',g1,g2,_⟩:=hr.kZ h3;cases g1;have hl:len=l.length:=SY hz (g2.symm.trans (h4.len λx c h=>Ax.len h));exact P! (lo:=lo') (nv:=n1) (ys:=ys) hr hd ht (Fk Rz hb1) hz hit h3 h4 h1 h2 (h7.trans k3) k4 k5 (λhc=>by obtain⟨b,e4,e5⟩:=k6 hc;exact⟨b,e4,by rw[e5];simp[Au]⟩) F0 h
     ·cases h
    ·cases h
   ·rename_i i p e1 lo n' hx;split at h
    ·rename_i T v hit;split at h
     ·rename_i a0 x0 hg;split at h
      ·rename_i q e l;obtain⟨hb,h⟩:=Aq h;simp only[A9,B2]at hb;obtain⟨⟨⟨hb1,hb2⟩,rfl⟩,k1,k2,k3⟩:=hb;have hz:0<e1.size:=by have:=U3 hb2;omega
       split at h
       ·rename_i m hsrc;obtain⟨ys,h1,h2⟩:=I' hr hz hsrc;obtain⟨md,v1,h5,h6,_,_,⟨pt,cap,g3,g4,g5,g6⟩,_⟩:=Dl hmm.sl hx rfl;have h7:ev σ x=v1:=by simpa using h6
        obtain⟨b,cells,h8,h9⟩:=hmm.box hit;rw[h8]at h5;cases h5;obtain⟨c1,c2,c3,he,h10,h11,h12⟩:=cY hg h9;have oP:=h12.len λx c h=>Ax.len h;have hyl:=h1.len λx c h=>Ax.len h;obtain⟨lo',rfl⟩:=R9 k1;obtain⟨n1,rfl⟩:=R9 k2;simp only[C']at g3 g4 g6;have hq:lo'+n1<=l.length:=by rw[h11];omega
        have e5:lo'*e1.size+n1*e1.size<=l.length*e1.size:=by rw[<-B5];exact C2 _ hq
        have hk1:=Cj.take (λx c h=>Ax.len h) n1 h1;have hk2:=hk1.len λx c h=>Ax.len h;have hk3:(ys.take (n1*e1.size)).length<=n1*e1.size:=by rw[HH];omega
        have hcp:=H4 (lo:=lo') (nv:=n1) h12 h1;have zL:(Bk c2 (lo'*e1.size) (ys.take (n1*e1.size))).length=c2.length:=Fw (by rw[oP];omega);have Bbg:Ba (λb=>A b/\Z.R b) w L (.val (.vec q e1) (Um l lo' n1 m)) (Bk c2 (lo'*e1.size) (ys.take (n1*e1.size))):=by
         refine⟨?_,hcp⟩;have:=hcp.len λx c h=>Ax.len h;rw[zL,oP]at this;rw[<-h11];exact(SY hz this).symm
        obtain⟨v',hk,_,hv'⟩:=sC Bbg h h9;have hcells:Bk cells (Au p) (Bk c2 (lo'*e1.size) (ys.take (n1*e1.size)))=Bk cells (Au p+lo'*e1.size) (ys.take (n1*e1.size)):=by
         rw[he,ZG h10 _ (by rw[oP];omega),<-h10,cU zL]
        rw[hcells]at hv';have hF:=St.qP (f:=Q3 Z.R L (.box T v') (Bk cells (Au p+lo'*e1.size) (ys.take (n1*e1.size)))) hr hv';obtain⟨w',md',g1,g2,g3'⟩:=Amk (P:=P) (ty:=ty) (t2:=t2) (off:=Au p+lo'*e1.size) ht (Fk Rz hb1) h2 hyl h1.r_ hF h8 (by intro h;cases h) rfl g4 g5 (λhc=>by obtain⟨b,e4,e5⟩:=g6 hc;exact⟨b,e4,e5⟩) (by
         show Au p+lo'*e1.size+n1*e1.size<=cells.length;rw[he];simp only[A?,h10,oP];omega) hz
        simp only[Wq]at g3';subst g3';have key:=RI.box (cs':=Bk cells (Au p+lo'*e1.size) (ys.take (n1*e1.size))) h8;have hr2:=Rel.change (a:= .box T v') g2.xV h8 key ⟨rfl,Ba.step (λ_ h=>h) (λ_ _=>rfl) key (g2.fact 0 rfl)⟩;refine WL.XI (v:=goInt (Nat.min m.length n1)) rfl hd ?_ (WL.nil ⟨_,A,_,hk,hr2.Gc rfl ?_,λh=>h.elim⟩)
        ·rw[<-g3,<-h7]at g1;simp[execOp,resolve,invoke,builtin,g1]
        ·rw[O!];rfl
       ·cases h
      ·cases h
     ·cases h
    ·cases h
   ·cases h
theorem Q4{g:Nat}{cs:List Value}:∀{l:List (Nat×List Value)},e? l g=some cs-> (g,cs)∈l
 |[],h=>by cases h
 |(q,c)::r,h=>by
  simp only[e?]at h;cases hb:Nat.beq q g with
  |true=>
   rw[hb]at h;have:=Bn hb;subst this;cases h;exact .head _
  |false=>rw[hb]at h;exact .tail _ (Q4 h)
theorem iB{g:Nat}{t:TypeId}(hT:fE P T Z)(hr:Rel Z s σs A L σ w)(h:T.glv P g t=some v):∃cs T1 fr,w.heap[g]? =some (.cells cs.toArray T1 fr)/\ (A g/\Z.R g)/\Ba (λb=>A b/\Z.R b) w L v cs:=by
 unfold Tab.glv at h;split at h
 ·rename_i cs hg;split at h
  ·rename_i v' hp;cases h;obtain⟨h1,T1,fr,h2⟩:=hr.V! (p:=(g,cs)) (by rw[hT.2];exact Q4 hg);obtain⟨c,e1,h3⟩:=YP (B:=λb=>A b/\Z.R b) (w:=w) (L:=L) Q hp;rw[F_]at e1;subst e1;exact⟨_,T1,fr,h2,h1,h3⟩
  ·cases h
 ·cases h
theorem yu{o:Op}{g dn:Nat}(hT:fE P T Z)(hr:Rel Z s σs A L σ w)(hd:Jf n ⟨some dn,o,ty,pos,after,none⟩=true)
  (ho:(∃t,o= .load t (.global g))\/ (∃t ix,o= .indexAddr t (.global g) ix)\/ (∃t lo hi,o= .slice t (.global g) lo hi none)) (h:pZ P T s dn g o k=some r):
  Xc P n ops ⟨some dn,o,ty,pos,after,none⟩ Z s σs k r G A L σ w:=by
 have hm:=hr.mem;rcases ho with⟨t,rfl⟩|⟨t,ix,rfl⟩|⟨t,lo,hi,rfl⟩
 ·simp only[pZ]at h;split at h
  ·rename_i v hv;obtain⟨hb,hk⟩:=Aq h;obtain⟨cs,T1,fr,h1,h2,h3⟩:=iB hT hr hv;obtain⟨val,h7,h8⟩:=Q5 (P:=P) (σ:=σ) (x:= .global g) (b:=g) (off:=0) (Pb hb) h3 (λj hj=>by rw[cell_of h1];simp) rfl;obtain⟨hv,hv'⟩:=Je h7;exact Eb hr hd h8 hv hv' hk
  ·cases h
 ·simp only[pZ]at h;split at h
  ·rename_i j m et e0 l0 hj ht hv;obtain⟨q,hix⟩:=GY hj (Qk hm.sl ix (SD hj));split at h
   ·rename_i inf m' e l Rz;obtain⟨hb,h⟩:=Aq h;simp only[A9]at hb;obtain⟨y,hy,hk⟩:=bind_some h;obtain⟨hj0,hj1,hj2⟩:=Iw hy;obtain⟨cs,T1,fr,h1,h2,h3,h4⟩:=iB hT hr hv;obtain⟨c1,c2,c3,he,h8,h9,_⟩:=Cj.get (λx c h=>Ax.len h) h4 hj2;have hmm:=Bn hb.1.1;subst hmm;have h10:c2.length=e.size:=h9.len;have hp:R' (λb=>A b/\Z.R b) w (.pointer (some ⟨g,0+j.toNat*e.size,none⟩)) c2:=by
     refine⟨g,0+j.toNat*e.size,_,T1,fr,rfl,h2,h1,λq hq=>?_⟩;rw[VZ,he,K1,SF F0,h8,show j.toNat*e.size+q-j.toNat*e.size=q by omega,I9 hq]
    have hvr:Ef (λb=>A b/\Z.R b) w L (.rptr (e.pv y)) (.pointer (some ⟨g,0+j.toNat*e.size,none⟩)):=⟨_,c2,rfl,hp,UN.2 h9⟩;exact Eb hr hd (TO (x:= .global g) ht (Fk Rz hb.1.2) rfl hix F0 (by rw[<-show l.length=m' from h3];omega) w) rfl hvr hk
   ·cases h
  ·cases h
 ·simp only[pZ]at h;split at h
  ·rename_i u m et hat;split at h
   ·rename_i e0 l0 hv;split at h
    ·rename_i inf m' e l Rz;obtain⟨hb,h⟩:=Aq h;simp only[A9]at hb;split at h
     ·rename_i a b ha hb';obtain⟨y,hy,hk⟩:=bind_some h;obtain⟨k1,k2,k3,k4,rfl⟩:=LD hy;obtain⟨cs,T1,fr,h1,h2,h3,h4⟩:=iB hT hr hv;have hmm:=Bn hb.1.1;subst hmm;have hlen:=h4.len λx c h=>Ax.len h;have hz:0<e.size:=by have:=U3 hb.2;omega
      have hm3:l.length=m':=h3;have hxo:=X.Anx (P:=P) (σ:=σ) (w:=w) (x:= .global g) (lo:=lo) (hi:=hi) (a:=a.toNat) (b:=b.toNat) (ad:=⟨g,0,none⟩) hat (Fk Rz hb.1.2) k3 F0 rfl
       (by rcases Kv hm.sl ha with h|⟨h,h'⟩;exact .inl (by rw[<-k1];exact h);exact .inr ⟨h,F0⟩) (by rcases Kv hm.sl hb' with h|⟨h,h'⟩;exact .inl (by rw[<-k2];exact h);exact .inr ⟨h,F0⟩)
      have e5:a.toNat*e.size<=b.toNat*e.size:=C2 _ k3;have e6:b.toNat*e.size<=l.length*e.size:=C2 _ k4;have e7:(b.toNat-a.toNat)*e.size=b.toNat*e.size-a.toNat*e.size:=VP _ _ _;refine Eb hr hd hxo rfl (mE ⟨_,_,_,rfl,?_,F0,(λh=>by cases h),λhc=>?_⟩ (Cj.drop (λx c h=>Ax.len h) _ (Cj.take (λx c h=>Ax.len h) _ h4))) hk
      ·rw[SH,HH,hlen,e7];omega
      ·rw[A4 F0,Lb];refine⟨g,0+a.toNat*e.size,_,T1,fr,rfl,h2,h1,?_,λi hi=>?_⟩
       ·simp only[T?,hlen,hm3];have:(m'-a.toNat)*e.size=m'*e.size-a.toNat*e.size:=VP _ _ _;have:a.toNat*e.size<=m'*e.size:=C2 _ F0;omega
       ·rw[VZ,K1,VA,SI,A7 F0]
     ·cases h
    ·cases h
   ·cases h
  ·cases h
theorem Awy{o:Op}{dn:Nat}(hT:fE P T Z)(hI:Qi P T.gl inl)(hr:Rel Z s σs A L σ w)(hd:Jf n ⟨some dn,o,ty,pos,after,none⟩=true)(h:op2 P T inl s dn ty o k=some r):
  Xc P n ops ⟨some dn,o,ty,pos,after,none⟩ Z s σs k r (Y2 T s ⟨some dn,o,ty,pos,after,none⟩=true) A L σ w:=by
 have hm:=hr.mem;unfold op2 at h;split at h
 ·
  rename_i o t x y t';split at h
  ·rename_i a u b v hx hy;split at h
   ·rename_i c q hc hq;obtain⟨_,hok,h⟩:=bind_some h;have:=Un hok;subst this;obtain⟨hv,val,hb,hvr⟩:=D3 (P:=P) (w:=w) (L:=L) (B:=λb=>A b/\Z.R b) (t:=t) hq hc;exact Eb hr hd (X.bin (Yh hm.sl hx) (Yh hm.sl hy) hb) hv hvr h
   ·cases h
  ·rename_i u v hx hy;split at h
   ·obtain⟨q,hq,h⟩:=bind_some h;exact Eb (p:= .val .str q) hr hd (X.vM (Qs hm.sl hx) (Qs hm.sl hy) hq) rfl rfl h
   ·cases h
  ·rename_i a h1 h2 hy;exact Ak4 hr hd rfl hy h
  ·cases h
 ·
  rename_i t x ix;split at h
  ·rename_i j e0 l0 hj hx;obtain⟨q,hix⟩:=GY hj (Qk hm.sl ix (SD hj));split at h
   ·rename_i l ht;obtain⟨y,hy,h⟩:=bind_some h;exact Eb (p:= .i .u8 y) hr hd (X.uR ht (Qs hm.sl hx) hix hy) rfl rfl h
   ·rename_i m e l m' et ht;obtain⟨hb,h⟩:=Aq h;obtain⟨y,hy,h⟩:=bind_some h;obtain⟨hk,hkk⟩:=Aq h;have hok:=Pb hk;have hv:Ga (λb=>A b/\Z.R b) w L (.val (.vec m e) l) (ev σ x):=Dl hm.sl hx rfl;obtain⟨cs,h1,h2,h3⟩:=hv;have hsz:(e.pv y).size=e.size:=by
     obtain⟨_,_,h5⟩:=Iw hy;obtain⟨_,c2,_,_,_,h6,_⟩:=Cj.get (λx c h=>Ax.len h) h3 h5;rw[<- (UN (L:=L).2 h6).len,h6.len]
    have hmm:=Bn hb;subst hmm;obtain⟨d0,hd0,ha0⟩:=hok.agg;obtain⟨val,h4,h5⟩:=Arn (L:=L) ht (by rw[<-hsz];exact hok.size) ⟨d0,hd0,ha0⟩ (λhA=>by rw[<-hsz];exact hok.one hA) h2 h1 h3 hix hy;obtain⟨hv,hv'⟩:=Je h5;exact Eb hr hd h4 hv hv' hkk
   ·cases h
  ·cases h
 ·split at h
  ·exact yu hT hr hd (.inr (.inr ⟨_,_,_,rfl⟩)) h
  ·exact Akp hr hd h (λg=>g)
 ·split at h
  ·exact yu hT hr hd (.inr (.inl ⟨_,_,rfl⟩)) h
  ·exact Abm hr hd h
 ·split at h
  ·exact yu hT hr hd (.inl ⟨_,rfl⟩) h
  ·exact Ast hr hd h
 ·
  split at h
  ·rename_i v hz;exact Am4 hr hd hz h
  ·cases h
 ·obtain⟨hb,h⟩:=Aq h;exact Awk hr hd hb h
 ·split at h
  ·rename_i v hv;obtain⟨hA,h⟩:=Aq h;obtain⟨h1,h2⟩:=Atr (B:=λb=>A b/\Z.R b) (w:=w) (L:=L) hv hA;exact Eb hr hd (X.assign rfl) h1 h2 h
  ·cases h
 ·split at h
  ·rename_i v hv;obtain⟨hA,h⟩:=Aq h;obtain⟨h1,h2⟩:=Atr (B:=λb=>A b/\Z.R b) (w:=w) (L:=L) hv hA;exact Eb hr hd (X.move rfl) h1 h2 h
  ·cases h
 ·exact Akz hr hd h
 ·exact Bcs hr hd h (λg=>g)
 ·exact Arh hr hd h
 ·
  split at h
  ·rename_i e ha ht;split at h
   ·rename_i l he hx;exact yg hr hd ha ht he hx h
   ·cases h
  ·rename_i e ha ht;obtain⟨hb,h1⟩:=Aq h;clear h;have:=Bn hb;subst this;split at h1
   ·rename_i i he hx;split at h1
    ·rename_i E e' l hi;split at h1
     ·rename_i y ys;exact Apy hr hd ht he hx hi h1
     ·cases h1
    ·cases h1
   ·cases h1
  ·cases h
 ·
  rename_i as ts;split at h
  ·rename_i x y t t2 has hts;have h1:=CM has;have h2:=CM hts;subst h1 h2;refine GM (Ai7 hr hd h) ?_;rintro σ' w' ⟨s',A',L',g1,g2,g3⟩;exact⟨s',A',L',g1,g2,λg=>by simp[Y2,brk]at g⟩
  ·cases h
 ·
  rename_i as ts;split at h
  ·rename_i x y t t2 has hts;have h1:=CM has;have h2:=CM hts;subst h1 h2;refine GM (qc hr hd h) ?_;rintro σ' w' ⟨s',A',L',g1,g2,g3⟩;exact⟨s',A',L',g1,g2,λg=>by simp[Y2,brk]at g⟩
  ·cases h
 ·
  rename_i as ts;split at h
  ·rename_i x t has hts;have h1:=CM has;have h2:=CM hts;subst h1 h2;split at h
   ·rename_i e ht hx;refine Eb (p:= .i .i64 (0:Int)) hr hd (val:=iv (0:Int)) (λ_ _ _ _ _=>?_) rfl rfl h;have hv:=FQ (Dl hm.sl hx rfl);simp[execOp,resolve,invoke,builtin,hv,Builtin.cap_,A_ ht,goInt];rfl
   ·cases h
  ·cases h
 ·
  rename_i g as ts;split at h
  ·rename_i f caps hg;refine Ap0 hT hI hr hg hd h (λgg=>?_);unfold Y2 at gg;split at gg
   ·rename_i heq;cases heq
   ·rename_i heq;cases heq
   ·rename_i f' as' ts' heq;cases heq;cases hg;split at gg
    ·rename_i c hc;simp only[A9,R!,O1]at gg;exact⟨c,hc,gg.1,gg.2.imp id isEmpty_nil⟩
    ·cases gg
   ·rename_i h1 h2 h3;simp only[brk]at gg;split at gg<;>simp_all
  ·rename_i f fs hg;obtain⟨hb,h⟩:=Aq h;simp only[A9]at hb;refine Am1 hT hI hr hg hd hb.2 h (λgg=>?_);unfold Y2 at gg;split at gg
   ·rename_i heq;cases heq
   ·rename_i heq;cases heq
   ·rename_i f' as' ts' heq;cases heq;cases hg
   ·rename_i h1 h2 h3;simp only[brk]at gg;split at gg<;>simp_all
  ·cases h
 ·exact Ah0 hr hd h (λg=>g)
 ·exact Ahg hr hd h
 ·cases h
end Go.Rx
namespace Go.Rx
open Go Go.Lv
variable {P:Program} {w w':World} {L:List MD} {s:S} {σs:List Env} {σ:Env} {Z:Fix} {A:Reg}
theorem WB{α:Type 1}{c:Bool}{x:Option α}{y:α}(h:(Cp (c) (x)<|none)=some y):c=true/\x=some y:=by cases c<;>simp_all
theorem gZ{o:Op}{b:BV}{x:b.X}(hr:Rel Z s σs A L σ w)(h:bnd P s o=some b)(hx:b.E=some x):(b.v x).isV=true/\∃val,(∀w',XO P σ w' o val)/\Ef (λb=>A b/\Z.R b) w L (b.v x) val:=by
 have hm:=hr.mem;unfold bnd at h;split at h
 ·
  rename_i o t x y t';split at h
  ·rename_i a u b v hx' hy;split at h
   ·rename_i c q hc hq;cases h;have:=Un hx;subst this;obtain⟨hv,val,hb,hvr⟩:=D3 (P:=P) (w:=w) (L:=L) (B:=λb=>A b/\Z.R b) (t:=t) hq hc;exact⟨hv,val,λw'=>X.bin (Yh hm.sl hx') (Yh hm.sl hy) hb,hvr⟩
   ·cases h
  ·rename_i u v hx' hy;split at h
   ·cases h;exact⟨rfl,_,λw'=>X.vM (Qs hm.sl hx') (Qs hm.sl hy) hx,rfl⟩
   ·cases h
  ·cases h
 ·
  split at h
  ·rename_i j l hj hx' ht;cases h;obtain⟨q,hix⟩:=GY hj (Qk hm.sl _ (SD hj));exact⟨rfl,_,λw'=>X.uR ht (Qs hm.sl hx') hix hx,rfl⟩
  ·cases h
 ·
  split at h
  ·rename_i ht;split at h
   ·rename_i l hx';split at h
    ·rename_i a b ha hb;cases h;exact⟨rfl,_,λw'=>X.y_ ht (Qs hm.sl hx') hx (Kv hm.sl ha) (Kv hm.sl hb),rfl⟩
    ·cases h
   ·cases h
  ·rename_i et ht;split at h
   ·rename_i e0 l0 hx';split at h
    ·rename_i e l;split at h
     ·rename_i inf Rz;obtain⟨hb,h⟩:=WB h;simp only[A9]at hb;split at h
      ·rename_i a b ha hb';cases h;obtain⟨h1,h2,h3,h4,h5'⟩:=LD hx;obtain⟨c0,h5,h6⟩:=Zt (Dl hm.sl hx' rfl);have hlen:=h6.len λx c h=>Ax.len h;obtain⟨p',l',c',h7,h8⟩:=X.K? (P:=P) (l:=a.toNat) (k:=b.toNat) (m:=l.length) ht (Fk Rz hb.1) (St.jo hr h5) (j:=0) rfl hlen (i_ hb.2) h3 h4;refine⟨rfl, .slice p' l' c',λw'=>h7 σ w' _ _ _ rfl (by rcases Kv hm.sl ha with h|⟨h,h'⟩;exact .inl (by rw[<-h1];exact h);exact .inr ⟨h,F0⟩)
        (by rcases Kv hm.sl hb' with h|⟨h,h'⟩;exact .inl (by rw[<-h2];exact h);exact .inr ⟨h,by rw[h'];simp[Ad]⟩),?_⟩
       rw[h5'];exact mE (h8.fact 0 rfl) (Cj.drop (λx c h=>Ax.len h) _ (Cj.take (λx c h=>Ax.len h) _ h6))
      ·cases h
     ·cases h
    ·cases h
   ·cases h
  ·cases h
 ·
  split at h
  ·cases h
  ·rename_i j hj;obtain⟨q,hix⟩:=GY hj (Qk hm.sl _ (SD hj));split at h
   ·rename_i et ht;split at h
    ·cases h
    ·rename_i inf Rz;split at h
     ·rename_i e0 l0 hx';split at h
      ·rename_i e l;obtain⟨hb,h⟩:=WB h;cases h;simp only[A9]at hb;obtain⟨hj0,hj1,hj2⟩:=Iw hx;obtain⟨c0,h1,h2⟩:=Zt (Dl hm.sl hx' rfl);obtain⟨p,len,cap,h3,h4,h5,h6,h7⟩:=h1;have hlen:=h2.len λx c h=>Ax.len h;have hz:0<e.size:=by have:=U3 hb.2;omega
       have hl:len=l.length:=SY hz (h4.symm.trans hlen);subst hl;obtain⟨b,off,arr,T,fr,rfl,hB,hbl,hcap,hc⟩:=h7 F0;obtain⟨c1,c2,c3,he,h8,h9,_⟩:=Cj.get (λx c h=>Ax.len h) h2 hj2;have h10:c2.length=e.size:=h9.len;have h11:(j.toNat+1)*e.size<=l.length*e.size:=C2 _ hj1;rw[VG]at h11;have hp:R' (λb=>A b/\Z.R b) w (.pointer (some ⟨b,off+j.toNat*e.size,none⟩)) c2:=by
        refine⟨b,off+j.toNat*e.size,arr,T,fr,rfl,hB,hbl,λq hq=>?_⟩;rw[K7,hc _ F0,he,SF F0,h8,show j.toNat*e.size+q-j.toNat*e.size=q by omega,I9 hq]
       have hvr:Ef (λb=>A b/\Z.R b) w L (.rptr (e.pv x)) (.pointer (some ⟨b,off+j.toNat*e.size,none⟩)):=⟨_,c2,rfl,hp,UN.2 h9⟩;exact⟨rfl,_,λw'=>Tc ht (Fk Rz hb.1) h3 hix F0 F0 w',hvr⟩
      ·cases h
     ·rename_i i hx';split at h
      ·rename_i E e l hi;obtain⟨hb,h⟩:=WB h;cases h;simp only[A9]at hb;obtain⟨hj0,hj1,hj2⟩:=Iw hx;obtain⟨v,cs,h1,h2⟩:=hm.arr hi;obtain⟨z',E',c',h3⟩:=HC (Dl hm.sl hx' rfl);rw[h1]at h3;cases h3;have hlen:=h2.len λx c h=>Ax.len h;have hz:0<e.size:=by have:=U3 hb.2;omega
       have hpos:0<cs.length:=by rw[hlen];exact WA F0 hz
       obtain⟨b,len,cap,h4,h5⟩:=hr.base h1 hpos;have hl:len=l.length:=SY hz (h5.symm.trans hlen);subst hl;refine⟨rfl,_,λw'=>Tc ht (Fk Rz hb.1) h4 hix F0 F0 w',?_⟩;rw[show(0:Nat)+j.toNat*e.size=Au [.idx j e.size] by simp[Au,lW]];refine HF h1 ?_;rw[h4];rfl
      ·cases h
     ·rename_i o i p e lo n' hx';obtain⟨hb,h⟩:=WB h;cases h;simp only[A9]at hb;have hj':0<=j/\j<n':=UT (Un hx);obtain⟨md,v1,h3,h4,k1,k2,⟨pt,cap,k3,k4,k5,k6⟩,_⟩:=Dl hm.sl hx' rfl;have h6:=List.cons.inj h4;obtain⟨b,e1,rfl⟩:=k6 F0;refine⟨rfl,_,λw'=>Tc ht (Fk Rz hb.1) (h6.1.trans k3) hix hj'.1 F0 w',?_⟩;rw[show Au p+lo.toNat*e.size+j.toNat*e.size=Au (p++[.idx (lo+j) e.size]) by
       rw[bP,K7,<-B5]
       show _=Au p+(lo+j).toNat*e.size;rw[Int.toNat_add k1 hj'.1]]
      exact HF h3 e1
     ·cases h
   ·rename_i m et ht;split at h
    ·cases h
    ·rename_i inf Rz;split at h
     ·rename_i i p hx';split at h
      ·rename_i T v hi;split at h
       ·rename_i e0 l0 hg;split at h
        ·rename_i m' e l;obtain⟨hb,h⟩:=WB h;cases h;simp only[A9]at hb;obtain⟨hj0,hj1,hj2⟩:=Iw hx;obtain⟨md,b,h1,h2,h3⟩:=Wz (Dl hm.sl hx' rfl);obtain⟨b',cells,h4,h5⟩:=hm.box hi;rw[h4]at h1;cases h1;cases h2;obtain⟨c1,c2,c3,he,h6,h7,h8⟩:=cY hg h5;have hmm:=Bn hb.2;subst hmm;have hl:l.length=m':=h7;refine⟨rfl,_,λw'=>TO ht (Fk Rz hb.1.1) h3 hix F0 F0 w',?_⟩;rw[show Au p+j.toNat*e.size=Au (p++[.idx j e.size]) by simp[MF,Au,lW]];exact HF h4 rfl
        ·cases h
       ·cases h
      ·cases h
     ·cases h
   ·cases h
 ·cases h
end Go.Rx
namespace Go.Rx
open Go Go.Lv
variable{want b st:Bool}{o:Op}{v:PV}{G:Prop}
variable {P:Program} {B B':Reg} {w w':World} {L L':List MD} {s:S} {σs:List Env} {σ:Env} {Z:Fix} {A A':Reg} {n:Nat} {ops:Array Oper}
variable {R:Type} {k:S->Option R} {r:R} {d:Option Nat} {ty:TypeId} {pos:String} {after:Array Edge} {T:Tab} {inl:fN R}
theorem t_{o:Oper}(hT:fE P T Z)(hI:Qi P T.gl inl)(hr:Rel Z s σs A L σ w)(hd:Jf n o=true)(h:exU P T inl o s k=some r):
  Xc P n ops {o with guard:=none} Z s σs k r (Y2 T s o=true) A L σ w:=by
 obtain⟨d,op,ty,pos,after,g⟩:=o;have hd':Jf n ⟨d,op,ty,pos,after,none⟩=true:=hd;unfold exU at h;split at h
 ·rename_i v hv;obtain⟨h1,val,h2,h3⟩:=yw (P:=P) (B:=λb=>A b/\Z.R b) (w:=w) (L:=L) (λ_=>True) hr.mem.sl hv;exact Eb hr hd' (h2 w trivial) h1 h3 h
 ·split at h
  ·rename_i v hv;obtain⟨h1,val,h2,h3⟩:=iV (P:=P) hr hv;exact Eb hr hd' (h2 w (.refl hr)) h1 h3 h
  ·cases d with
   |some dn=>exact Awy hT hI hr hd' h
   |none=>
    simp only at h;split at h
    ·rename_i t a x;refine GM (Ana hr h) ?_;rintro σ' w' ⟨s',A',L',g1,g2,g3⟩;exact⟨s',A',L',g1,g2,λg=>by simp[Y2,brk]at g⟩
    ·rename_i as ts;split at h
     ·rename_i x y t t2 has hts;have h1:=CM has;have h2:=CM hts;subst h1 h2;refine GM (qc hr hd' h) ?_;rintro σ' w' ⟨s',A',L',g1,g2,g3⟩;exact⟨s',A',L',g1,g2,λg=>by simp[Y2,brk]at g⟩
     ·cases h
    ·cases h
theorem WL.z?{rest:List Oper}{K:Env->World->Prop}{o:Oper}{j t:Nat}(hg:o.guard=some (j,want))(hj:(ops[j]?).bind (·.dst)=some t)(hb:σ t= .bool b)(hne:(b==want)=false)
  (hdn:Jf n o=true) (h:WL P n ops rest K (YJ σ o.dst Go.undef) w):WL P n ops (o::rest) K σ w:=by
 intro ds a ha;refine wpList_step λK' hK'=>?_;have hw:Region.wanted o (yielded ops a.tmps)=false:=by
  simp only[Region.wanted,hg,PX ha hj hb];cases b<;>cases want<;>simp_all
 rw[A4 (by rw[hw];simp)];refine hK' _ _ ?_;cases hd:o.dst with
 |none=>rw[hd]at h;exact h _ _ (ha.T8 _)
 |some d=>rw[hd]at h;unfold Jf at hdn;rw[hd]at hdn;exact h _ _ (ha.put hdn _)
theorem WL.Ay3{rest:List Oper}{K:Env->World->Prop}{o:Oper}{j t:Nat}(hg:o.guard=some (j,want))(hj:(ops[j]?).bind (·.dst)=some t)(hb:σ t=Go.undef)
  (hdn:Jf n o=true) (h:WL P n ops rest K (YJ σ o.dst Go.undef) w):WL P n ops (o::rest) K σ w:=by
 intro ds a ha;refine wpList_step λK' hK'=>?_;have hy:yielded ops a.tmps j=none:=by
  unfold yielded;rw[hj];have h1:=ha.get t;rw[hb]at h1;cases h:a.tmps[t]? with
  |none=>simp[h]
  |some v=>
   rw[Sm,h]at h1;simp at h1;subst h1;simp[h,undef]
 have hw:Region.wanted o (yielded ops a.tmps)=false:=by
  simp only[Region.wanted,hg,hy];cases want<;>rfl
 rw[A4 (by rw[hw];simp)];refine hK' _ _ ?_;cases hd:o.dst with
 |none=>rw[hd]at h;exact h _ _ (ha.T8 _)
 |some d=>rw[hd]at h;unfold Jf at hdn;rw[hd]at hdn;exact h _ _ (ha.put hdn _)
theorem oN{o:Oper}(hr:Rel Z s σs A L σ w)(h:k (s.Gc o.dst .off)=some r):WL P n ops [] (Y3 Z σs k r G A L s.it w) (YJ σ o.dst Go.undef) w:=by
 refine WL.nil ⟨_,A,L,h,hr.Ap3,λ_=>?_⟩;have:(s.Gc o.dst .off).it=s.it:=by cases o.dst<;>rfl
 rw[this];exact .refl
theorem bX{a:Bool}:lM a b=(b==a):=by cases a<;>cases b<;>rfl
theorem iw{G':Prop}{σ':Env}{it:List Item}(hp:Y3 Z σs k r G A L it w σ' w')(h:G'->G):Y3 Z σs k r G' A L it w σ' w':=by
 obtain⟨s',A',L',h1,h2,h3⟩:=hp;exact⟨s',A',L',h1,h2,λg=>h3 (h g)⟩
theorem D1{t dn:Nat}{val:Value}(ht:σ t= .bool b)(hne:Nat.beq dn t=false)(h1:b=want->Ef B w L v val)(h2:b≠want->val=Go.undef):Gx B w L (Mr σ dn val) dn (.gd t want v):=by
 have htd:t≠dn:=by intro e;subst e;simp at hne
 exact⟨b,by rw[aT _ _ htd];exact ht,λe=>by rw[Ww];exact h1 e,λe=>by rw[Ww];exact h2 e⟩
theorem r!{o:Oper}{j t dn:Nat}(hr:Rel Z s σs A L σ w)(hg:o.guard=some (j,want))(hj:(ops[j]?).bind (·.dst)=some t)(ht:σ t= .bool b)(hdn:Jf n o=true)(hd:o.dst=some dn)
  (hne:Nat.beq dn t=false) (hv:b=want->v.isV=true/\∃val,XO P σ w o.op val/\Ef (λb=>A b/\Z.R b) w L v val) (hk:k (s.set dn (.gd t want v))=some r):Xc P n ops o Z s σs k r G A L σ w:=by
 by_cases hbw:b=want
 ·obtain⟨h1,val,h2,h3⟩:=hv hbw;refine WL.on hg hj ht (by simpa using hbw) (WL.XI rfl (by simpa [Jf]using hdn) (h2 _ _ _ _ _) (WL.nil ⟨_,A,L,hk,?_,λ_=> .refl⟩));simp only[hd];exact hr.set (D1 ht hne (λ_=>h3) (λe=>absurd hbw e))
 ·refine WL.z? hg hj ht (by simpa using hbw) hdn (WL.nil ⟨_,A,L,hk,?_,λ_=> .refl⟩);rw[hd];exact hr.set (D1 ht hne (λe=>absurd e hbw) (λ_=>rfl))
theorem LC{t:Nat}(hm:Fp B w L σ s.sl)(h:Yp s.sl t= .val .bool b):σ t= .bool b:=by
 have h1:=Mu (t:=t) hm;rw[h]at h1;exact FB h1
theorem tJ{t:Nat}(hm:Fp B w L σ s.sl)(h:Yp s.sl t= .cst (.bool b)):σ t= .bool b:=by
 have h1:=Mu (t:=t) hm;rw[h]at h1;have: [σ t]=[Value.bool b]:=h1.1;simpa using this
theorem Awm{o:Oper}{j t:Nat}(hT:fE P T Z)(hI:Qi P T.gl inl)(hr:Rel Z s σs A L σ w)(hd:Jf n o=true)(hg:o.guard=some (j,want))(hj:(ops[j]?).bind (·.dst)=some t)
  (h:exG P T inl o t want s k=some r):Xc P n ops o Z s σs k r (Y2 T s o=true/\∃b,Yp s.sl t= .cst (.bool b)) A L σ w:=by
 have hm:=hr.mem;have lit:∀(G:Prop) (s1:S) (b:Bool),(G->Y2 T s1 o=true)->Rel Z s1 σs A L σ w->s1.it=s.it->σ t= .bool b-> (Cp (lM want b) (exU P T inl o s1 k)<|k (s1.Gc o.dst .off))=some r->Xc P n ops o Z s σs k r G A L σ w:=by
  intro G s1 b hG hr1 hit ht h;cases hb:lM want b with
  |true=>
   rw[hb]at h;refine WL.on hg hj ht (by rw[<-bX];exact hb) (GM (t_ hT hI hr1 hd h) λσ' w' hp=>?_);rw[<-hit];exact iw hp hG
  |false=>
   rw[hb]at h;refine WL.z? hg hj ht (by rw[<-bX];exact hb) hd ?_;rw[<-hit];exact oN hr1 h
 unfold exG at h;simp only at h;split at h
 ·rename_i b hb;exact lit _ s b (λg=>g.1) hr rfl (tJ hm.sl hb) h
 ·rename_i hb;have h1:=Mu (t:=t) hm.sl;rw[hb]at h1;exact WL.Ay3 hg hj h1 hd (oN hr h)
 ·rename_i b hb;have ht:=LC hm.sl hb;have nog:∀{X:Prop},(∃b,Yp s.sl t= .cst (.bool b))->X:=λ⟨_,g⟩=>by rw[hb]at g;cases g
  split at h
  ·rename_i dn v hdn hv;cases hne:Nat.beq dn t with
   |true=>rw[hne]at h;cases h
   |false=>
    rw[hne]at h;refine r! hr hg hj ht hd hdn hne (λhbw=>?_) h;subst hbw;obtain⟨h1,val,h2,h3⟩:=yw (P:=P) (λ_=>True) (hr.res ht).mem.sl hv;exact⟨h1,val,h2 w trivial,h3⟩
  ·rename_i dn v hdn hv0 hv;cases hne:Nat.beq dn t with
   |true=>rw[hne]at h;cases h
   |false=>
    rw[hne]at h;refine r! hr hg hj ht hd hdn hne (λhbw=>?_) h;subst hbw;obtain⟨h1,val,h2,h3⟩:=iV (P:=P) (hr.res ht) hv;exact⟨h1,val,h2 w (.refl (hr.res ht)),h3⟩
  ·cases b with
   |true=>exact lit _ (s.res t true) true (λg=>nog g.2) (hr.res ht) rfl ht (by simpa using h)
   |false=>exact lit _ (s.res t false) false (λg=>nog g.2) (hr.res ht) rfl ht (by simpa using h)
 ·cases h
theorem sM{o:Oper}(hT:fE P T Z)(hI:Qi P T.gl inl)(hr:Rel Z s σs A L σ w)(h:qB P T inl n ops o s k=some r):Xc P n ops o Z s σs k r (Y2 T s o=true/\gOk ops s o=true) A L σ w:=by
 have hm:=hr.mem;unfold qB at h;cases hd:Jf n o with
 |false=>rw[hd]at h;cases h
 |true=>
  rw[hd]at h;simp only[Xd,X0]at h;try dsimp only[Cp]at h
  split at h
  ·rename_i hg;have:({o with guard:=none}:Oper)=o:=by cases o;simp only at hg;subst hg;rfl
   rw[<-this];refine GM (t_ hT hI hr hd h) λσ' w' hp=>iw hp ?_;rintro⟨g,_⟩;rw[this]at g;exact g
  ·rename_i j want hg;split at h
   ·cases h
   ·rename_i t hj;have fin:∀s1:S,(gOk ops s o=true->s1=s)->Rel Z s1 σs A L σ w->s1.it=s.it->exG P T inl o t want s1 k=some r->Xc P n ops o Z s σs k r (Y2 T s o=true/\gOk ops s o=true) A L σ w:=by
     intro s1 hs hr1 hit h;refine GM (Awm hT hI hr1 hd hg hj h) λσ' w' hp=>?_;rw[<-hit];refine iw hp (λg=>?_);have:=hs g.2;subst this;refine⟨g.1,?_⟩;have h2:=g.2;unfold gOk at h2;simp only[hg,hj]at h2;split at h2
     ·exact⟨_,by assumption⟩
     ·cases h2
    split at h
    ·rename_i t2 w2 v hv;have nog:∀{X:Prop},gOk ops s o=true->X:=λg=>by
      unfold gOk at g;simp only[hg,hj,hv]at g;cases g
     split at h
     ·rename_i b hb;have ht:=LC hm.sl hb;cases b with
      |true=>exact fin _ nog (hr.res ht) rfl (by simpa using h)
      |false=>exact fin _ nog (hr.res ht) rfl (by simpa using h)
     ·cases h
    ·exact fin s (λ_=>rfl) hr rfl h
theorem Rel.Ayf{rr:Nat}(hr:Rel Z s σs A L σ w)(hl:rr<w.heap.size)(hm:Cu w (λb=>A b\/b=rr) (L.map MD.Ex)):Rel Z s σs (λb=>A b\/b=rr) L σ w:=
 ⟨λb hb=>hb.elim (hr.lt b) (λe=>e▸hl),λf hf=>f.step (hr.facts f hf) (λ_ h=> .inl h) (λ_ _=>rfl) (.refl _),hm⟩
theorem Rel.world{w':World}(hr:Rel Z s σs A L σ w)(hs:Same A w w')(hg:Gr w w')(hm:Cu w' A (L.map MD.Ex)):Rel Z s σs A L σ w':=
 ⟨λb hb=>E5 (hr.lt b hb) hg.le,λf hf=>f.step (hr.facts f hf) (λ_ h=>h) hs hg,hm⟩
def ZY(P:Program)(Z:Fix)(d t:Nat)(st:Bool)(ks:List (List UInt8))(vs:List PV)(A:Reg)(L:List MD)(σ:Env)(w:World):Prop:=
 ∃rr es c kt et,P.underlying t=some (.map kt et)/\P.underlying kt=some (tyK st)/\σ d= .map (some rr)/\w.heap[rr]? =some (.map es c)/\Z.w0.heap.size<=rr/\ ¬A rr/\Cu w (λb=>A b\/b=rr) (L.map MD.Ex)/\
  es.toList.map (·.key)=ks.map (aW st)/\Ek (λb=>A b/\Z.R b) w L vs (es.toList.map (·.val))
theorem ZY.close{d t:Nat}{ks:List (List UInt8)}{vs:List PV}(hr:Rel Z s σs A L σ w)(h:ZY P Z d t st ks vs A L σ w):∃A',Rel Z (s.set d (.mp st ks vs)) σs A' L σ w:=by
 obtain⟨rr,es,c,kt,et,_,_,h3,h4,h5,h6,h7,h8,h9⟩:=h;have hr1:=hr.Ayf (lt_of_heap h4) h7;have hσ:Mr σ d (.map (some rr))=σ:=by
  rw[<-h3];funext q;by_cases hq:q=d
  ·rw[hq,Ww]
  ·rw[aT _ _ hq]
 refine⟨λb=>A b\/b=rr,?_⟩;rw[<-hσ];refine hr1.set ?_;rw[hσ];have hv:Ba (λb=>(A b\/b=rr)/\Z.R b) w L (.mp st ks vs) [.map (some rr)]:=⟨rr,es,c,rfl,⟨.inr rfl,Z.new _ h5⟩,h4,h8,Ba.yS (λb hb=>⟨.inl hb.1,hb.2⟩) (λ_ _=>rfl) (.refl L) h9⟩
 show Ba _ w L (.mp st ks vs) [σ d];rw[h3];exact hv
theorem r?{st:Bool}{u:List UInt8}:∀{es:List MapEntry} {ks:List (List UInt8)} (i:Nat),es.map (·.key)=ks.map (aW st)->d? st u ks=false->Instr.findNow (tyK st) (aW st u) es i=some none
 |[],_,_,_,_=>rfl
 |e::es,[],_,h,_=>by cases h
 |e::es,q::ks,i,h,hu=>by
  simp only[IZ,W9]at h;simp only[d?,YW]at hu;have hs:Instr.sameNow (tyK st) (aW st u) e.key=some (Y8 st u q):=by rw[h.1];exact Ao5 st u q
  simp only[Instr.findNow,hs,hu.1];exact r? (i+1) h.2 hu.2
theorem Ek.push{B:Reg}{p:PV}{v:Value}(h:asV p.isA (Ba B w L p) v):∀{vs:List PV} {us:List Value},Ek B w L vs us->Ek B w L (vs++[p]) (us++[v])
 |[],us,e=>by
  rw[show us=[]from e];exact⟨v,[],rfl,h,rfl⟩
 |a::vs,us,⟨x,us',e,h1,h2⟩=>⟨x,us'++[v],by rw[e];rfl,h1,Ek.push h h2⟩
theorem Amw{d t:Nat}{u:List UInt8}{x:Operand}(h:jk st d t o=some (u,x)):o= .insert t (.tmp d) (.const (aW st u)) x:=by
 unfold jk at h;split at h
 ·rename_i t' q m x';obtain⟨hb,h⟩:=Aq h;simp only[A9,O1]at hb;cases h;obtain⟨rfl,hb⟩:=hb;rw[Bn hb.1.1,Bn hb.1.2];have:=UT hb.2
  show Op.insert t (.tmp d) (.const (.int .u8 m)) x= .insert t (.tmp d) (.const (.int .u8 (((GI.ofZ m:UInt8).toNat:Nat):Int))) x;rw[this]
 ·rename_i t' q b x';obtain⟨hb,h⟩:=Aq h;simp only[A9]at hb;cases h;obtain⟨rfl,hb⟩:=hb;rw[Bn hb.1,Bn hb.2]
  show Op.insert t (.tmp d) (.const (.string b)) x= .insert t (.tmp d) (.const (sv (bytesOf b))) x;simp[sv,bytesOf]
 ·cases h
theorem Aqk{o:Oper}{d t:Nat}(h:lB P n o=some (d,t,st)):o.op= .makeMap t none/\o.dst=some d/\o.guard=none/\Nat.blt d n=true/\∃kt et,P.underlying t=some (.map kt et)/\P.underlying kt=some (tyK st):=by
 unfold lB at h;split at h
 ·rename_i t' ho;split at h
  ·rename_i d' kt et hd hg ht;split at h
   ·rename_i hk;obtain⟨hb,h⟩:=Aq h;cases h;exact⟨ho,hd,hg,hb,kt,et,ht,uC hk⟩
   ·cases h
  ·cases h
 ·cases h
def Bam(P:Program)(Z:Fix)(σs:List Env)(m:Option (Nat×Nat×Bool×List (List UInt8)×List PV))(A:Reg)(L:List MD)(σ:Env)(w:World):Prop:=match m with|none=>True|some (d,t,st,ks,vs)=>ZY P Z d t st ks vs A L σ w
theorem Arx{t:TypeId}{ps:Array (Nat×Operand)}(hr:Rel Z s σs A L σ w)(h:lH P s (.build t ps)=some v):v.isV=true/\∃val,(∀(d:Option Nat) (ty:TypeId) (pos:String) (af:Array Edge) (g:Option (Nat×Bool)),(execOp (ev σ) ⟨d, .build t ps,ty,pos,af,g⟩).run P w= .ok (.value val) w)/\Ef (λb=>A b/\Z.R b) w L v val:=by
 have hps:ps=ps.toList.toArray:=by simp
 unfold lH at h;simp only at h;split at h
 ·rename_i fs zs ht hz;obtain⟨hb,h⟩:=Aq h;obtain⟨z,⟨i,hi,hz0⟩,hz2⟩:=FP hz;split at h
  ·rename_i l hl;cases h;obtain⟨cells,h1,h2⟩:=fV hr (pl:=places zs 0) hl rfl (show Ba.go _ w L zs _ from hz2 _ _ _);have hst:GW P t (places zs 0) z.cells.toList:=by
    unfold GW NY;rw[ht];simp only[kP hb,hi,hz0,VN]
   refine⟨rfl,_,λd ty pos af g=>?_,(show Ef _ w L (.agg l) _ from⟨cells,rfl,h2⟩)⟩;rw[show(⟨d, .build t ps,ty,pos,af,g⟩:Oper)=⟨d, .build t ps.toList.toArray,ty,pos,af,g⟩ by rw[<-hps]];exact X.build hst rfl (by simpa using h1) d ty pos af g
  ·cases h
 ·cases h
theorem Asb(hr:Rel Z s σs A L σ w)(h:lA P s o=some v):v.isV=true/\∃val,(∀(d:Option Nat) (ty:TypeId) (pos:String) (af:Array Edge) (g:Option (Nat×Bool)),(execOp (ev σ) ⟨d,o,ty,pos,af,g⟩).run P w= .ok (.value val) w)/\Ef (λb=>A b/\Z.R b) w L v val:=by
 unfold lA at h;split at h
 ·rename_i u hu;cases h;obtain⟨h1,val,h2,h3⟩:=yw (P:=P) (B:=λb=>A b/\Z.R b) (w:=w) (L:=L) (λ_=>True) hr.mem.sl hu;exact⟨h1,val,λd ty pos af g=>h2 w trivial d ty pos af g,h3⟩
 ·cases o<;>first|exact Arx hr h|cases h
theorem YB(hT:fE P T Z)(hI:Qi P T.gl inl):∀{l:List Oper} {m:Option (Nat×Nat×Bool×List (List UInt8)×List PV)} {s:S} {A:Reg} {L:List MD} {σ:Env} {w:World},Rel Z s σs A L σ w->Bam P Z σs m A L σ w->JF P T inl n ops l m s k=some r->
  WL P n ops l (λσ' w'=>∃s' A' L',k s'=some r/\Rel Z s' σs A' L' σ' w') σ w
 |[],m,s,A,L,σ,w,hr,hm,h=>by
  unfold JF at h;cases m with
  |none=>exact WL.nil ⟨s,A,L,h,hr⟩
  |some q=>
   obtain⟨d,t,st,ks,vs⟩:=q;obtain⟨A',hr'⟩:=ZY.close hr hm;exact WL.nil ⟨_,A',L,h,hr'⟩
 |o::l,m,s,A,L,σ,w,hr,hm,h=>by
  have op:∀{s:S} {A:Reg},Rel Z s σs A L σ w-> (qB P T inl n ops o s λs'=>JF P T inl n ops l none s' k)=some r->WL P n ops (o::l) (λσ' w'=>∃s' A' L',k s'=some r/\Rel Z s' σs A' L' σ' w') σ w:=by
   intro s A hr h;have h1:=sM (ops:=ops) hT hI hr h;refine WL.cut _ [o] h1 ?_;rintro σ' w' ⟨s',A',L',g1,g2,_⟩;exact YB (m:=none) hT hI g2 trivial g1
  unfold JF at h;cases m with
  |none=>
   simp only at h;split at h
   ·exact op hr h
   ·rename_i d t st hmk;obtain⟨h1,h2,h3,h4,kt,et,h5,h6⟩:=Aqk hmk;have hsz:(w.alloc (.map #[] 0)).heap.size=w.heap.size+1:=jT w _;have hkeep:Keep w (w.alloc (.map #[] 0)):=Av4 w _;have hr1:Rel Z s σs A L σ (w.alloc (.map #[] 0)):=St.keep hr hkeep;have hr2:Rel Z (s.set d .undef) σs A L (Mr σ d (.map (some w.heap.size))) (w.alloc (.map #[] 0)):=hr1.set trivial;have AU:Cu (w.alloc (.map #[] 0)) (λb=>A b\/b=w.heap.size) (L.map MD.Ex):=
     (Cu.step (by rw[hsz];omega) (St.mobs hr).lt λb hb _=>hkeep.same b hb).Ii λb hb=>hb.imp id λe=>ZD e.symm
    have hx:(execOp (ev σ) o).run P w= .ok (.value (.map (some w.heap.size))) (w.alloc (.map #[] 0)):=by
     obtain⟨_,_,_,_,_,_⟩:=o;simp only at h1;subst h1;simp[execOp,Instr.makeMap,Result.andThen]
    refine WL.val h3 h2 h4 hx (YB hT hI hr2 ?_ h);exact⟨w.heap.size, #[],0,kt,et,h5,h6,Ww _ _ _,Uq w _,(hr.fact 1 (f:= .old Z.M Z.w0) rfl).1.le,λhA=>absurd (hr.lt _ hA) F0,AU,rfl,rfl⟩
  |some q=>
   obtain⟨d,t,st,ks,vs⟩:=q;simp only at h;have cl:∀{s':S},s'=s.set d (.mp st ks vs)-> (qB P T inl n ops o s' λs'=>JF P T inl n ops l none s' k)=some r->WL P n ops (o::l) (λσ' w'=>∃s' A' L',k s'=some r/\Rel Z s' σs A' L' σ' w') σ w:=by
    intro s' hs' h;subst hs';obtain⟨A',hr'⟩:=ZY.close hr hm;exact op hr' h
   split at h
   ·rename_i q hg hq;split at h
    ·rename_i v hv;obtain⟨hb,hv⟩:=Aq hv;simp only[A9,O1]at hb;obtain⟨h1,val,h2,h3⟩:=Asb hr hv;have hne:d≠q:=λe=>by rw[e]at hb;simp at hb
     have hx:(execOp (ev σ) o).run P w= .ok (.value val) w:=by
      obtain⟨d0,op0,ty0,Bbh,af0,g0⟩:=o;exact h2 d0 ty0 Bbh af0 g0
     refine WL.val hg hq hb.1 hx (YB hT hI (hr.set (Gx.put h1 h3)) ?_ h);obtain⟨rr,es,c,kt,et,g1,g2,g3,g4⟩:=hm;exact⟨rr,es,c,kt,et,g1,g2,by rw[aT _ _ hne];exact g3,g4⟩
    ·exact cl rfl h
   ·rename_i hg hq;split at h
    ·rename_i u x hins;have ho:=Amw hins;obtain⟨hb,h⟩:=Aq h;simp only[A9,O1]at hb;obtain⟨rr,es,c,kt,et,g1,g2,g3,g4,g5,g6,g7,g8,g9⟩:=hm;have hxv:Ga (λb=>A b/\Z.R b) w L (Eh s.sl x) (ev σ x):=by
      refine NK hr.mem.sl ?_;cases hp:Eh s.sl x<;>rw[hp]at hb<;>first|rfl|exact absurd hb.1 (by simp[yZ])
     have hlt:=lt_of_heap g4
     let o':Obj:= .map (es.push {key:=aW st u,val:=ev σ x,born:=c}) (c+1)
     let w':World:={w with heap:=w.heap.setIfInBounds rr o'}
     have hheap:∀b,b≠rr->w'.heap[b]? =w.heap[b]? :=λb hb=>by simp[w',VS (S? hb)]
     have hnew:w'.heap[rr]? =some o':=by simp[w',hlt]
     have hgr:Gr w w':=⟨by simp[w'],rfl,rfl,rfl⟩;have hsame:Same A w w':=λb hb=>hheap b λe=>g6 (e▸hb);have AU:Cu w' (λb=>A b\/b=rr) (L.map MD.Ex):=Cu.step hgr.le g7 λb _ hb=>hheap b λe=>hb (.inr e);have hck:(Instr.checkKey false 10000 kt (aW st u)).run P w= .ok () w:=MapKept.run_checkKey g2 (Q_ st u) _ 9999;have hfk:=MapKept.run_findKey (P:=P) (w:=w) g2 (r? 0 g8 hb.2);have hx:(execOp (ev σ) o).run P w= .ok .skip w':=by
      obtain⟨_,_,_,_,_,_⟩:=o;simp only at ho;subst ho;have e1:ev σ (.tmp d)= .map (some rr):=g3;have e2:ev σ (.const (aW st u))=aW st u:=rfl;simp[execOp,e1,e2,Instr.mapUpdate,A_ g1,MapKept.run_getObj_map g4,hck,hfk,MapKept.run_setObj_map _ g4,Result.andThen,w',o']
     refine WL.unit hg hq hx (YB hT hI (hr.world hsame hgr (AU.Ii λb hb=> .inl hb)) ?_ h);refine⟨rr,_,_,kt,et,g1,g2,g3,hnew,g5,g6,AU,?_,?_⟩
     ·simp only[Array.toList_push,Tx,g8,IZ,VH]
     ·simp only[Array.toList_push,Tx,IZ,VH];exact Ba.yS (λ_ h=>h) (λb hb=>hsame b hb.1) (.refl L) (Ek.push hxv g9)
    ·exact cl rfl h
   ·cases h
theorem R4(hT:fE P T Z)(hI:Qi P T.gl inl){l:List Oper}{s:S}{A:Reg}{L:List MD}{σ:Env}{w:World}(hr:Rel Z s σs A L σ w)(h:SA P T inl n ops l s k=some r):
  WL P n ops l (λσ' w'=>∃s' A' L',k s'=some r/\Rel Z s' σs A' L' σ' w') σ w:=YB (m:=none) hT hI hr trivial h
end Go.Rx
namespace Go.Rx
open Go Go.Lv
variable{b:BV}{o:Op}{v:PV}
variable {P:Program} {B B':Reg} {w w':World} {L L':List MD} {s:S} {σs:List Env} {σ:Env} {Z:Fix} {A A':Reg} {n:Nat} {ops:Array Oper}
variable {R:Type} {k:S->Option R} {r:R} {d:Option Nat} {ty:TypeId} {pos:String} {after:Array Edge} {T:Tab} {inl:fN R} {mem:Bool} {listed:Array Bool}
def wH(Z:Fix)(σs:List Env)(A:Reg)(L:List MD)(it:List Item)(w w':World):Prop:=∃s2 σ2 A' L',Rel Z s2 σs A' L' σ2 w'/\Grow A L it w A' L' s2.it w'
theorem wH.refl(hr:Rel Z s σs A L σ w):wH Z σs A L s.it w w:=⟨s,σ,A,L,hr, .refl⟩
theorem wH.ext(hr:Rel Z s σs A L σ w)(h:wH Z σs A L s.it w w'):Ext Z s σs A L σ w w':=by
 obtain⟨s2,σ2,A',L',h1,h2⟩:=h;exact h2.ext hr h1
theorem dF{z:Array Bool}:∀{is:List Nat} {i d:Nat} {v:PV},Vf P T n mem ops z listed s is=some (i,d,v)->∃o,ops[i]? =some o/\Gd ops (tw z) listed i=true/\Z' P T n mem ops o s=some (d,v)
 |[],_,_,_,h=>by simp[Vf]at h
 |j::is,i,d,v,h=>by
  simp only[Vf]at h;split at h
  ·cases h
  ·rename_i o ho;split at h
   ·rename_i d' v' hp;cases ht:J! ops (tw z) listed j with
    |true=>rw[ht,Ui]at h;cases h;exact⟨o,ho,J_ ht,hp⟩
    |false=>rw[ht,Sn]at h;exact dF h
   ·exact dF h
def GS(Z:Fix)(σs:List Env)(w':World):Prop:=∃s2 σ2 A2 L2,Rel Z s2 σs A2 L2 σ2 w'
theorem Ext.gs(h:Ext Z s σs A L σ w w'):GS Z σs w':=by
 obtain⟨⟨A',L',it',_,hr⟩,_⟩:=h;exact⟨_,_,_,_,hr⟩
theorem Ajg{g:Nat}{t:TypeId}(hT:fE P T Z)(h:T.glv P g t=some v):∃cs,(∀w',GS Z σs w'->∃T1 fr,w'.heap[g]? =some (.cells cs.toArray T1 fr))/\∀(B:Reg) (w:World) (L:List MD),Ba B w L v cs:=by
 unfold Tab.glv at h;split at h
 ·rename_i cs hg;split at h
  ·rename_i v' hp;cases h;refine⟨cs,λw' hw=>?_,λB w L=>?_⟩
   ·obtain⟨s2,σ2,A2,L2,hr⟩:=hw;obtain⟨_,T1,fr,h2⟩:=hr.V! (p:=(g,cs)) (by rw[hT.2];exact Q4 hg);exact⟨T1,fr,h2⟩
   ·obtain⟨c,e1,h3⟩:=YP (B:=B) (w:=w) (L:=L) Q hp;rw[F_]at e1;subst e1;exact h3
  ·cases h
 ·cases h
theorem Atb(hT:fE P T Z)(h:k? P T o=some v):v.isV=true/\∃val,(∀w',GS Z σs w'->XO P σ w' o val)/\Ef (λb=>A b/\Z.R b) w L v val:=by
 unfold k? at h;split at h
 ·rename_i t g;split at h
  ·rename_i u hv;obtain⟨hb,hk⟩:=Aq h;cases hk;obtain⟨cs,h1,h3⟩:=Ajg (σs:=σs) hT hv;obtain⟨val,h7,h8⟩:=kL (P:=P) (σ:=σ) (x:= .global g) (b:=g) (off:=0) (Pb hb) (h3 (λb=>A b/\Z.R b) w L) rfl;obtain⟨hv1,hv2⟩:=Je h7;refine⟨hv1,val,λw' hw=>h8 w' λj hj=>?_,hv2⟩;obtain⟨T1,fr,h4⟩:=h1 w' hw;rw[cell_of h4];simp
  ·cases h
 ·cases h
theorem O2{S:World->Prop}(hT:fE P T Z)(hr:Rel Z s σs A L σ w)(h:zD P T mem s o=some v)(hS:mem=true->∀w',S w'->Ext Z s σs A L σ w w')(hG:∀w',S w'->GS Z σs w'):v.isV=true/\∃val,(∀w',S w'->XO P σ w' o val)/\Ef (λb=>A b/\Z.R b) w L v val:=by
 unfold zD at h;split at h
 ·rename_i u hu;cases h;exact yw (P:=P) S hr.mem.sl hu
 ·split at h
  ·rename_i u hu;cases h;cases mem with
   |true=>
    obtain⟨h1,val,h2,h3⟩:=iV (P:=P) hr hu;exact⟨h1,val,λw' hw=>h2 w' (hS rfl w' hw),h3⟩
   |false=>cases hu
  ·obtain⟨h1,val,h2,h3⟩:=Atb (σs:=σs) (σ:=σ) (A:=A) (w:=w) (L:=L) hT h;exact⟨h1,val,λw' hw=>h2 w' (hG w' hw),h3⟩
theorem Asx{t:Nat}{b:Bool}{w':World}(h:Ext Z s σs A L σ w w')(ht:σ t= .bool b):Ext Z (s.res t b) σs A L σ w w':=by
 obtain⟨⟨A',L',it',h1,h2⟩,h3⟩:=h;exact⟨⟨A',L',it',h1,Rel.res (s:=⟨s.sl,s.it++it',s.st⟩) h2 ht⟩,h3⟩
theorem WD.gxU{op:Op}{d j t:Nat}{ty:TypeId}{pos:String}{after:Array Edge}{want:Bool}{S:World->Prop}{TT:Nat->Bool}{fuel:Nat}{K:Env->World->Prop}(i:Nat)(hi:ops[i]? =some ⟨some d,op,ty,pos,after,some (j,want)⟩)(hB:Gd ops TT listed i=true)(hdn:Nat.blt d n=true)
  (hj:(ops[j]?).bind (·.dst)=some t) (hb:σ t=Go.undef) (hS:S w)
  (h:WD P n ops S TT fuel (listed.setIfInBounds i true) K (Mr σ d Go.undef) w):WD P n ops S TT (fuel+1) listed K σ w:=by
 intro ds a ha;obtain⟨B,hblk,hcl⟩:=pT hi hB;simp only[Gd,A9]at hB;refine aJ (v:=Go.undef) hi (nF hB.1) (λc a w h=>absurd h.1 F8) fuel listed a w hblk (Zh hcl).1 (Zh hcl).2 (by simpa using hB.2.1) ?_ hS (h _ _ (ha.put hdn _));refine .inr ⟨?_,rfl⟩;have hy:yielded ops a.tmps j=none:=by
  unfold yielded;rw[hj];have h1:=ha.get t;rw[hb]at h1;cases h:a.tmps[t]? with
  |none=>simp[h]
  |some v=>
   rw[Sm,h]at h1;simp at h1;subst h1;simp[h,Go.undef]
 simp only[Region.wanted,hy];cases want<;>rfl
theorem sE{S:World->Prop}{z:Array Bool}{fuel i dn:Nat}{o:Oper}{K:Env->World->Prop}(hT:fE P T Z)(hr:Rel Z s σs A L σ w)(hi:ops[i]? =some o)(hB:Gd ops (tw z) listed i=true)(hp:Z' P T n mem ops o s=some (dn,v))(hSw:S w)
  (hS:mem=true->∀w',S w'->Ext Z s σs A L σ w w') (hG:∀w',S w'->GS Z σs w') (h:∀σ',Rel Z (s.set dn v) σs A L σ' w->WD P n ops S (tw z) fuel (listed.setIfInBounds i true) K σ' w):WD P n ops S (tw z) (fuel+1) listed K σ w:=by
 obtain⟨d,op,ty,pos,after,g⟩:=o;have hm:=hr.mem;unfold Z' at hp;simp only at hp;split at hp
 ·cases hp
 ·rename_i d';cases hn:Nat.blt d' n with
  |false=>rw[hn]at hp;cases hp
  |true=>
   rw[hn]at hp;simp only[Xd,X0]at hp;try dsimp only[Cp]at hp
   split at hp
   ·
    cases hv:zD P T mem s op with
    |none=>rw[hv]at hp;cases hp
    |some u=>
     rw[hv]at hp;cases hp;obtain⟨h1,val,h2,h3⟩:=O2 hT hr hv hS hG;exact WD.x i hi hB hn hSw h2 (h _ (hr.set (.put h1 h3)))
   ·rename_i j want;split at hp
    ·cases hp
    ·rename_i t hj;split at hp
     ·rename_i b hb;have ht:=tJ hm.sl hb;cases hw:lM want b with
      |true=>
       rw[hw]at hp;dsimp only[Cp,cond]at hp;cases hv:zD P T mem s op with
       |none=>rw[hv]at hp;cases hp
       |some u=>
        rw[hv]at hp;cases hp;obtain⟨h1,val,h2,h3⟩:=O2 hT hr hv hS hG;have hbw:(b==want)=true:=by rw[<-bX];exact hw
        refine WD.gx (v:=val) i hi hB hn hj ht hSw (λ_=>h2) (h _ ?_);rw[O3 hbw];exact hr.set (.put h1 h3)
      |false=>
       rw[hw]at hp;cases hp;have hbw:(b==want)=false:=by rw[<-bX];exact hw
       refine WD.gx (v:=Go.undef) i hi hB hn hj ht hSw (λhg=>by rw[hbw]at hg;cases hg) (h _ ?_);rw[iW hbw];exact hr.set (show Mr σ dn Go.undef dn=Go.undef from Ww _ _ _)
     ·rename_i hb;cases hp;have h1:=Mu (t:=t) hm.sl;rw[hb]at h1;exact WD.gxU i hi hB hn hj h1 hSw (h _ (hr.set (show Mr σ dn Go.undef dn=Go.undef from Ww _ _ _)))
     ·rename_i b hb;have ht:=LC hm.sl hb;cases hne:Nat.beq d' t with
      |true=>rw[hne]at hp;cases hp
      |false=>
       rw[hne]at hp;dsimp only[Cp,cond]at hp;cases hv:zD P T mem (s.res t want) op with
       |none=>rw[hv]at hp;cases hp
       |some u=>
        rw[hv]at hp;cases hp;by_cases hbw:b=want
        ·subst hbw;obtain⟨h1,val,h2,h3⟩:=O2 hT (hr.res ht) hv (λhm w' hw=>Asx (hS hm w' hw) ht) hG;refine WD.gx (v:=val) i hi hB hn hj ht hSw (λ_=>h2) (h _ ?_);rw[O3 F8];exact hr.set (D1 ht hne (λ_=>h3) (λe=>absurd rfl e))
        ·refine WD.gx (v:=Go.undef) i hi hB hn hj ht hSw (λhg=>absurd (by simpa using hg) hbw) (h _ ?_);rw[iW (by simpa using hbw)];exact hr.set (D1 ht hne (λe=>absurd e hbw) (λ_=>rfl))
     ·cases hp
theorem SG{z:Array Bool}:∀{is:List Nat} {i d:Nat} {v:BG},BR P n ops z listed s is=some (i,d,v)->∃o,ops[i]? =some o/\Gd ops (tw z) listed i=true/\jw P n ops o s=some (d,v)
 |[],_,_,_,h=>by simp[BR]at h
 |j::is,i,d,v,h=>by
  simp only[BR]at h;split at h
  ·cases h
  ·rename_i o ho;split at h
   ·rename_i d' v' hp;cases ht:J! ops (tw z) listed j with
    |true=>rw[ht,Ui]at h;cases h;exact⟨o,ho,J_ ht,hp⟩
    |false=>rw[ht,Sn]at h;exact SG h
   ·exact SG h
theorem uI{S:World->Prop}{z:Array Bool}{fuel i dn:Nat}{o:Oper}{x:b.X}{K:Env->World->Prop}(hr:Rel Z s σs A L σ w)(hi:ops[i]? =some o)(hB:Gd ops (tw z) listed i=true)(hp:jw P n ops o s=some (dn, .on b))(hx:b.E=some x)(hSw:S w)
  (h:∀σ',Rel Z (s.set dn (b.v x)) σs A L σ' w->WD P n ops S (tw z) fuel (listed.setIfInBounds i true) K σ' w):WD P n ops S (tw z) (fuel+1) listed K σ w:=by
 obtain⟨d,op,ty,pos,after,g⟩:=o;have hm:=hr.mem;unfold jw at hp;simp only at hp;split at hp
 ·cases hp
 ·rename_i d';cases hn:Nat.blt d' n with
  |false=>rw[hn]at hp;cases hp
  |true=>
   rw[hn]at hp;simp only[Xd,X0]at hp;try dsimp only[Cp]at hp
   split at hp
   ·cases hv:bnd P s op with
    |none=>rw[hv]at hp;cases hp
    |some u=>
     rw[hv]at hp;cases hp;obtain⟨h1,val,h2,h3⟩:=gZ hr hv hx;exact WD.x i hi hB hn hSw (λw' _=>h2 w') (h _ (hr.set (.put h1 h3)))
   ·rename_i j want;split at hp
    ·cases hp
    ·rename_i t hj;split at hp
     ·rename_i c hb;have ht:=tJ hm.sl hb;cases hw:lM want c with
      |true=>
       rw[hw]at hp;dsimp only[Cp,cond]at hp;cases hv:bnd P s op with
       |none=>rw[hv]at hp;cases hp
       |some u=>
        rw[hv]at hp;cases hp;obtain⟨h1,val,h2,h3⟩:=gZ hr hv hx;have hbw:(c==want)=true:=by rw[<-bX];exact hw
        refine WD.gx (v:=val) i hi hB hn hj ht hSw (λ_ w' _=>h2 w') (h _ ?_);rw[O3 hbw];exact hr.set (.put h1 h3)
      |false=>rw[hw]at hp;cases hp
     ·rename_i c hb;cases hne:Nat.beq d' t with
      |true=>rw[hne]at hp;cases hp
      |false=>
       rw[hne]at hp;dsimp only[Cp,cond]at hp;cases hv:bnd P (s.res t want) op with
       |none=>rw[hv]at hp;cases hp
       |some u=>rw[hv]at hp;cases hp
     ·cases hp
theorem rK{S:World->Prop}{z:Array Bool}{fuel i dn t:Nat}{want bv:Bool}{o:Oper}{K:Env->World->Prop}{X:Go.Rx.S->Option R}(hr:Rel Z s σs A L σ w)(hi:ops[i]? =some o)(hB:Gd ops (tw z) listed i=true)(hp:jw P n ops o s=some (dn, .ask t want bv b))(hSw:S w)
  (hx:(Cp (lM want bv) (Option.bind b.E λx=>X ((s.res t bv).set dn (b.v x)))<|X ((s.res t bv).set dn .off))=some r)
  (h:∀s',s'.it=s.it->∀σ',Rel Z s' σs A L σ' w->X s'=some r->WD P n ops S (tw z) fuel (listed.setIfInBounds i true) K σ' w):WD P n ops S (tw z) (fuel+1) listed K σ w:=by
 obtain⟨d,op,ty,pos,after,g⟩:=o;have hm:=hr.mem;unfold jw at hp;simp only at hp;split at hp
 ·cases hp
 ·rename_i d';cases hn:Nat.blt d' n with
  |false=>rw[hn]at hp;cases hp
  |true=>
   rw[hn]at hp;simp only[Xd,X0]at hp;try dsimp only[Cp]at hp
   split at hp
   ·cases hv:bnd P s op with
    |none=>rw[hv]at hp;cases hp
    |some u=>rw[hv]at hp;cases hp
   ·rename_i j want';split at hp
    ·cases hp
    ·rename_i t' hj;split at hp
     ·rename_i c hb;cases hw:lM want' c with
      |true=>
       rw[hw]at hp;dsimp only[Cp,cond]at hp;cases hv:bnd P s op with
       |none=>rw[hv]at hp;cases hp
       |some u=>rw[hv]at hp;cases hp
      |false=>rw[hw]at hp;cases hp
     ·rename_i c hb;have ht:=LC hm.sl hb;cases hne:Nat.beq d' t' with
      |true=>rw[hne]at hp;cases hp
      |false=>
       rw[hne]at hp;dsimp only[Cp,cond]at hp;cases hv:bnd P (s.res t' want') op with
       |none=>rw[hv]at hp;cases hp
       |some u=>
        rw[hv]at hp;cases hp;cases hw:lM want bv with
        |true=>
         rw[hw]at hx;dsimp only[Cp,cond]at hx;obtain⟨x,hx,hk⟩:=bind_some hx;have hbw:bv=want:=by cases want<;>cases bv<;>simp_all [lM]
         subst hbw;obtain⟨h1,val,h2,h3⟩:=gZ (hr.res ht) hv hx;refine WD.gx (v:=val) i hi hB hn hj ht hSw (λ_ w' _=>h2 w') (h ((s.res t bv).set dn (b.v x)) rfl _ ?_ hk);rw[O3 F8];exact(hr.res ht).set (.put h1 h3)
        |false=>
         rw[hw]at hx;dsimp only[Cp,cond]at hx;have hbw:(bv==want)=false:=by rw[<-bX];exact hw
         refine WD.gx (v:=Go.undef) i hi hB hn hj ht hSw (λhg=>by rw[hbw]at hg;cases hg) (h ((s.res t bv).set dn .off) rfl _ ?_ hx);rw[iW hbw];exact(hr.res ht).set (show Mr σ dn Go.undef dn=Go.undef from Ww _ _ _)
     ·cases hp
theorem pQ{z:Array Bool}:∀{is:List Nat} {i:Nat} {v:Nat×TypeId×Nat×List Step},KC n ops z listed s is=some (i,v)->∃o,ops[i]? =some o/\Gd ops (tw z) listed i=true/\eJ n ops o s=some v
 |[],_,_,h=>by simp[KC]at h
 |j::is,i,v,h=>by
  simp only[KC]at h;split at h
  ·cases h
  ·rename_i o ho;split at h
   ·rename_i v' hp;cases ht:J! ops (tw z) listed j with
    |true=>rw[ht,Ui]at h;cases h;exact⟨o,ho,J_ ht,hp⟩
    |false=>rw[ht,Sn]at h;exact pQ h
   ·exact pQ h
theorem xQ{d dn:Nat}{t:TypeId}{j:Nat}{p:List Step}{u:PV}{kk:PV->Option R}(hr:Rel Z s σs A L σ w)(hp:eH s d o=some (dn,t,j,p))(h:getRoot (Cs s.it j) p kk=some r):
  d=dn/\∃u,kk u=some r/\ (Ml P t u=true->u.isV=true/\∃val,(∀w',Ext Z s σs A L σ w w'->XO P σ w' o val)/\Ef (λb=>A b/\Z.R b) w L u val):=by
 have hm:=hr.mem;unfold eH at hp;split at hp
 ·rename_i t' x;split at hp
  ·rename_i i p' hx;split at hp
   ·cases hp
   ·rename_i hne;cases hp;obtain⟨md,b,h1,h2,h3⟩:=Wz (Dl hm.sl hx rfl);obtain⟨h4,_⟩:=hm.root h1 (λe=>hne e);obtain⟨u,c1,c2,c3,hk,he,h5,h6⟩:=P2 h h4;refine⟨rfl,u,hk,λhb=>?_⟩;obtain⟨val,h7,h8⟩:=kL (P:=P) (σ:=σ) (x:=x) (b:=b) (off:=Au p) (Pb hb) h6 h3;obtain⟨hv,hv'⟩:=Je h7;refine⟨hv,val,λw' hext=>h8 w' λq hq=>?_,hv'⟩;obtain⟨A',L',it',ha,hr'⟩:=hext.ex;have h10:(L++L')[j]? =some md:=by rw[I9 (List.getElem?_eq_some_iff.1 h1).1];exact h1
    rw[hr'.cells h10 h2 _ (by rw[he];simp;omega),he,SF F0,h5,show Au p+q-Au p=q by omega,I9 hq]
  ·cases hp
 ·cases hp
theorem Ax4{S:World->Prop}{z:Array Bool}{fuel i dn j:Nat}{t:TypeId}{p:List Step}{o:Oper}{kk:PV->Option R}{K:Env->World->Prop}(hr:Rel Z s σs A L σ w)(hi:ops[i]? =some o)(hB:Gd ops (tw z) listed i=true)(hp:eJ n ops o s=some (dn,t,j,p))(hg:getRoot (Cs s.it j) p kk=some r)(hSw:S w)
  (hS:∀w',S w'->Ext Z s σs A L σ w w') (hkk:∀u,kk u=some r->Ml P t u=true)
  (h:∀u σ',kk u=some r->Rel Z (s.set dn u) σs A L σ' w->WD P n ops S (tw z) fuel (listed.setIfInBounds i true) K σ' w):WD P n ops S (tw z) (fuel+1) listed K σ w:=by
 obtain⟨d,op,ty,pos,after,g⟩:=o;have hm:=hr.mem;unfold eJ at hp;simp only at hp;split at hp
 ·cases hp
 ·rename_i d';cases hn:Nat.blt d' n with
  |false=>rw[hn]at hp;cases hp
  |true=>
   rw[hn]at hp;simp only[Xd,X0]at hp;try dsimp only[Cp]at hp
   split at hp
   ·obtain⟨rfl,u,hk,hu⟩:=xQ (P:=P) (u:= .undef) hr hp hg;obtain⟨h1,val,h2,h3⟩:=hu (hkk u hk);exact WD.x i hi hB hn hSw (λw' hw=>h2 w' (hS w' hw)) (h u _ hk (hr.set (.put h1 h3)))
   ·rename_i q want;split at hp
    ·cases hp
    ·rename_i t' hj;split at hp
     ·rename_i c hb;have ht:=tJ hm.sl hb;cases hw:lM want c with
      |true=>
       rw[hw]at hp;dsimp only[Cp,cond]at hp;obtain⟨rfl,u,hk,hu⟩:=xQ (P:=P) (u:= .undef) hr hp hg;obtain⟨h1,val,h2,h3⟩:=hu (hkk u hk);have hbw:(c==want)=true:=by rw[<-bX];exact hw
       refine WD.gx (v:=val) i hi hB hn hj ht hSw (λ_ w' hw=>h2 w' (hS w' hw)) (h u _ hk ?_);rw[O3 hbw];exact hr.set (.put h1 h3)
      |false=>rw[hw]at hp;cases hp
     ·cases hp
theorem Ahy{i t:Nat}{b:Bool}(hr:Rel Z s σs A L σ w)(h:iX ops s i=some (t,b)):σ t= .bool b:=by
 unfold iX at h;split at h
 ·cases h
 ·split at h
  ·cases h
  ·split at h
   ·cases h
   ·split at h
    ·rename_i hb;cases h;exact LC hr.mem.sl hb
    ·split at h
     ·rename_i hb;cases h;exact LC hr.mem.sl hb
     ·cases h
    ·cases h
theorem mF{fin:S->Option R}:∀{l:List Nat} {s:Go.Rx.S},Rel Z s σs A L σ w->bD ops l s fin=some r->∃s',Rel Z s' σs A L σ w/\s'.it=s.it/\fin s'=some r
 |[],s,hr,h=>⟨s,hr,rfl,h⟩
 |i::l,s,hr,h=>by
  rw[bD]at h;split at h
  ·rename_i t b hg;have ht:=Ahy hr hg;cases b with
   |true=>
    obtain⟨s',h1,h2,h3⟩:=mF (l:=l) (hr.res ht) (by simpa using h);exact⟨s',h1,h2,h3⟩
   |false=>
    obtain⟨s',h1,h2,h3⟩:=mF (l:=l) (hr.res ht) (by simpa using h);exact⟨s',h1,h2,h3⟩
  ·exact mF (l:=l) hr h
theorem Aww(hT:fE P T Z)(hI:Qi P T.gl inl):∀{fuel:Nat} {z0:Array Bool} {listed:Array Bool} {s:S} {A:Reg} {L:List MD} {σ:Env} {w:World} {S:World->Prop},Rel Z s σs A L σ w->QX P T inl n mem ops fuel z0 listed s k=some r->
  (mem=true->LR (tw z0) listed=true\/∀w',wH Z σs A L s.it w w'->S w')-> (mem=false->∀w',GS Z σs w'->S w')->
  WD P n ops S (tw z0) fuel listed (λσ' w'=>∃s' A' L',k s'=some r/\Rel Z s' σs A' L' σ' w') σ w:=by
 intro fuel
 induction fuel with
 |zero=>
  intro z0 listed s A L σ w S hr h hI1 hI2;unfold QX at h;simp only[um,Atp,p_]at h;split at h
  ·rename_i hrd;exact WD.done hrd ⟨s,A,L,h,hr⟩
  ·cases h
 |succ fuel ih=>
  intro z0 listed s A L σ w S hr h hI1 hI2;unfold QX at h;simp only[um,Atp,p_]at h;split at h
  ·rename_i hrd;exact WD.done hrd ⟨s,A,L,h,hr⟩
  ·rename_i i is hrd
   try simp only at h
   have rest:∀(z:Array Bool) (S:World->Prop) (s:Go.Rx.S),Rel Z s σs A L σ w-> (mem=true->∀w',wH Z σs A L s.it w w'->S w')-> (mem=false->∀w',GS Z σs w'->S w')->
     both (match ops[i]? with
        |some o=>Cp (mem&& !((Y2 T s o&&gOk ops s o)||(!tw z i&&LR (tw z) (listed.setIfInBounds i true)))) (none)<|
         qB P T inl n ops o s λs'=>QX P T inl n mem ops fuel z (listed.setIfInBounds i true) s' k
        |none=>none) (is.map λi=>match ops[i]? with
        |some o=>Cp (mem&& !((Y2 T s o&&gOk ops s o)||(!tw z i&&LR (tw z) (listed.setIfInBounds i true)))) (none)<|
         qB P T inl n ops o s λs'=>QX P T inl n mem ops fuel z (listed.setIfInBounds i true) s' k
        |none=>none)=some r->WD P n ops S (tw z) (fuel+1) listed (λσ' w'=>∃s' A' L',k s'=some r/\Rel Z s' σs A' L' σ' w') σ w:=by
    intro z S s hr hS1 hS2 h;obtain⟨h1,h2⟩:=W_ h;refine WD.steps hrd rfl ?_;intro q hq;have hone:(match ops[q]? with
       |some o=>Cp (mem&& !((Y2 T s o&&gOk ops s o)||(!tw z q&&LR (tw z) (listed.setIfInBounds q true)))) (none)<|
        qB P T inl n ops o s λs'=>QX P T inl n mem ops fuel z (listed.setIfInBounds q true) s' k
       |none=>none)=some r:=by
     rcases List.mem_cons.1 hq with rfl|hq
     ·exact h1
     ·exact h2 _ (List.mem_map_of_mem hq)
    split at hone
    ·rename_i o ho;refine⟨o,ho,?_⟩;cases hc:(mem&& !((Y2 T s o&&gOk ops s o)||(!tw z q&&LR (tw z) (listed.setIfInBounds q true))))with
     |true=>rw[hc]at hone;cases hone
     |false=>
      rw[hc]at hone;dsimp only[Cp,cond]at hone;refine GM (sM hT hI hr hone) ?_;rintro σ' w' ⟨s',A',L',g1,g2,g3⟩;cases hmem:mem with
      |true=>
       subst hmem;simp only[UY,eu,R!,A9,O1]at hc;rcases hc with hc|⟨hc1,hc2⟩
       ·have g4:=g3 hc;refine⟨λ_=>hS1 rfl _ ⟨s',σ',A',L',g2,g4⟩,ih g2 g1 (λ_=> .inr λw'' hw=>?_) (λe=>by cases e)⟩;obtain⟨s2,σ2,A2,L2,h5,h6⟩:=hw;exact hS1 rfl _ ⟨s2,σ2,A2,L2,h5,g4.trans h6⟩
       ·refine⟨λhlt=>?_,ih g2 g1 (λ_=> .inl hc2) (λe=>by cases e)⟩;rw[hlt]at hc1;cases hc1
      |false=>
       subst hmem;exact⟨λ_=>hS2 rfl _ ⟨_,_,_,_,g2⟩,ih g2 g1 (λe=>by cases e) hS2⟩
    ·cases hone
   have main:∀(z:Array Bool) (S:World->Prop) (s:Go.Rx.S) (F:Option R),Rel Z s σs A L σ w-> (mem=true->∀w',wH Z σs A L s.it w w'->S w')-> (mem=false->∀w',GS Z σs w'->S w')-> (F=some r->WD P n ops S (tw z) (fuel+1) listed (λσ' w'=>∃s' A' L',k s'=some r/\Rel Z s' σs A' L' σ' w') σ w)->
     (match Vf P T n mem ops z listed s (i::is)with
      |some (i,d,v)=>QX P T inl n mem ops fuel z (listed.setIfInBounds i true) (s.set d v) k
      |none=>match BR P n ops z listed s (i::is)with
       |some (i,d, .on b)=>Option.bind b.E λx=>QX P T inl n mem ops fuel z (listed.setIfInBounds i true) (s.set d (b.v x)) k
       |some (i,d, .ask t want bv b)=>if bv=true then
         (Cp (lM want true) (Option.bind b.E λx=>QX P T inl n mem ops fuel z (listed.setIfInBounds i true) ((s.res t true).set d (b.v x)) k)<|QX P T inl n mem ops fuel z (listed.setIfInBounds i true) ((s.res t true).set d .off) k)
         else(Cp (lM want false) (Option.bind b.E λx=>QX P T inl n mem ops fuel z (listed.setIfInBounds i true) ((s.res t false).set d (b.v x)) k)<|QX P T inl n mem ops fuel z (listed.setIfInBounds i true) ((s.res t false).set d .off) k)
       |none=>match(Cp (mem) (KC n ops z listed s (i::is))<|none)with
       |some (i,d,t,j,p)=>getRoot (Cs s.it j) p λu=>Cp (Ml P t u) (QX P T inl n mem ops fuel z (listed.setIfInBounds i true) (s.set d u) k)<|none
       |none=>F)=some r->WD P n ops S (tw z) (fuel+1) listed (λσ' w'=>∃s' A' L',k s'=some r/\Rel Z s' σs A' L' σ' w') σ w:=by
    intro z S s F hr hS1 hS2 hfin h;split at h
    ·rename_i i' d v hp;obtain⟨o,ho,hB,hp⟩:=dF hp;cases hmem:mem with
     |true=>
      subst hmem;refine WD.T6 (S':=wH Z σs A L s.it w) (hS1 rfl) (sE hT hr ho hB hp (.refl hr) (λ_ w' hw=>hw.ext hr) (λw' hw=>(hw.ext hr).gs) λσ' hr'=>?_);exact ih hr' h (λ_=> .inr λw' hw=>hw) (λe=>by cases e)
     |false=>
      subst hmem;refine WD.T6 (S':=GS Z σs) (hS2 rfl) (sE hT hr ho hB hp ⟨_,_,_,_,hr⟩ (λe=>by cases e) (λw' hw=>hw) λσ' hr'=>?_);exact ih hr' h (λe=>by cases e) (λ_ w' hw=>hw)
    ·split at h
     ·rename_i i' d b hp;obtain⟨o,ho,hB,hp⟩:=SG hp;obtain⟨x,hx,h⟩:=bind_some h;cases hmem:mem with
      |true=>
       subst hmem;refine WD.T6 (S':=wH Z σs A L s.it w) (hS1 rfl) (uI hr ho hB hp hx (.refl hr) λσ' hr'=>?_);exact ih hr' h (λ_=> .inr λw' hw=>hw) (λe=>by cases e)
      |false=>
       subst hmem;refine uI hr ho hB hp hx (hS2 rfl _ ⟨_,_,_,_,hr⟩) λσ' hr'=>?_;exact ih hr' h (λe=>by cases e) hS2
     ·rename_i i' d t want bv b hp;obtain⟨o,ho,hB,hp⟩:=SG hp;have h:(Cp (lM want bv) (Option.bind b.E λx=>QX P T inl n mem ops fuel z (listed.setIfInBounds i' true) ((s.res t bv).set d (b.v x)) k)<|QX P T inl n mem ops fuel z (listed.setIfInBounds i' true) ((s.res t bv).set d .off) k)=some r:=by
       cases bv with
       |true=>simpa using h
       |false=>simpa using h
      cases hmem:mem with
      |true=>
       subst hmem;refine WD.T6 (S':=wH Z σs A L s.it w) (hS1 rfl) (rK (X:=λs'=>QX P T inl n true ops fuel z (listed.setIfInBounds i' true) s' k) hr ho hB hp (.refl hr) h λs' hs' σ' hr' h=>?_);exact ih hr' h (λ_=> .inr λw' hw=>hs'▸hw) (λe=>by cases e)
      |false=>
       subst hmem;refine rK (X:=λs'=>QX P T inl n false ops fuel z (listed.setIfInBounds i' true) s' k) hr ho hB hp (hS2 rfl _ ⟨_,_,_,_,hr⟩) h λs' hs' σ' hr' h=>?_;exact ih hr' h (λe=>by cases e) hS2
     ·split at h
      ·rename_i i' d t j p hp;cases hmem:mem with
       |false=>rw[hmem]at hp;cases hp
       |true=>
        subst hmem;dsimp only[Cp,cond]at hp;obtain⟨o,ho,hB,hp⟩:=pQ hp;refine WD.T6 (S':=wH Z σs A L s.it w) (hS1 rfl) (Ax4 (P:=P) hr ho hB hp h (.refl hr) (λw' hw=>hw.ext hr) (λu hu=>(Aq hu).1) λu σ' hu hr'=>?_);exact ih hr' (Aq hu).2 (λ_=> .inr λw' hw=>hw) (λe=>by cases e)
      exact hfin h
   have all:∀(z:Array Bool) (S:World->Prop),(mem=true->∀w',wH Z σs A L s.it w w'->S w')-> (mem=false->∀w',GS Z σs w'->S w')->
     (match Vf P T n mem ops z listed s (i::is)with
      |some (i,d,v)=>QX P T inl n mem ops fuel z (listed.setIfInBounds i true) (s.set d v) k
      |none=>match BR P n ops z listed s (i::is)with
       |some (i,d, .on b)=>Option.bind b.E λx=>QX P T inl n mem ops fuel z (listed.setIfInBounds i true) (s.set d (b.v x)) k
       |some (i,d, .ask t want bv b)=>if bv=true then
         (Cp (lM want true) (Option.bind b.E λx=>QX P T inl n mem ops fuel z (listed.setIfInBounds i true) ((s.res t true).set d (b.v x)) k)<|QX P T inl n mem ops fuel z (listed.setIfInBounds i true) ((s.res t true).set d .off) k)
         else(Cp (lM want false) (Option.bind b.E λx=>QX P T inl n mem ops fuel z (listed.setIfInBounds i true) ((s.res t false).set d (b.v x)) k)<|QX P T inl n mem ops fuel z (listed.setIfInBounds i true) ((s.res t false).set d .off) k)
       |none=>match(Cp (mem) (KC n ops z listed s (i::is))<|none)with
       |some (i,d,t,j,p)=>getRoot (Cs s.it j) p λu=>Cp (Ml P t u) (QX P T inl n mem ops fuel z (listed.setIfInBounds i true) (s.set d u) k)<|none
       |none=>(λs=>Cp mem (bD ops ((i::is)++(i::is)) s λs=>(match Vf P T n mem ops z listed s (i::is)with
      |some (i,d,v)=>QX P T inl n mem ops fuel z (listed.setIfInBounds i true) (s.set d v) k
      |none=>match BR P n ops z listed s (i::is)with
       |some (i,d, .on b)=>Option.bind b.E λx=>QX P T inl n mem ops fuel z (listed.setIfInBounds i true) (s.set d (b.v x)) k
       |some (i,d, .ask t want bv b)=>if bv=true then
         (Cp (lM want true) (Option.bind b.E λx=>QX P T inl n mem ops fuel z (listed.setIfInBounds i true) ((s.res t true).set d (b.v x)) k)<|QX P T inl n mem ops fuel z (listed.setIfInBounds i true) ((s.res t true).set d .off) k)
         else(Cp (lM want false) (Option.bind b.E λx=>QX P T inl n mem ops fuel z (listed.setIfInBounds i true) ((s.res t false).set d (b.v x)) k)<|QX P T inl n mem ops fuel z (listed.setIfInBounds i true) ((s.res t false).set d .off) k)
       |none=>match(Cp (mem) (KC n ops z listed s (i::is))<|none)with
       |some (i,d,t,j,p)=>getRoot (Cs s.it j) p λu=>Cp (Ml P t u) (QX P T inl n mem ops fuel z (listed.setIfInBounds i true) (s.set d u) k)<|none
       |none=>both (match ops[i]? with
        |some o=>Cp (mem&& !((Y2 T s o&&gOk ops s o)||(!tw z i&&LR (tw z) (listed.setIfInBounds i true)))) (none)<|
         qB P T inl n ops o s λs'=>QX P T inl n mem ops fuel z (listed.setIfInBounds i true) s' k
        |none=>none) (is.map λi=>match ops[i]? with
        |some o=>Cp (mem&& !((Y2 T s o&&gOk ops s o)||(!tw z i&&LR (tw z) (listed.setIfInBounds i true)))) (none)<|
         qB P T inl n ops o s λs'=>QX P T inl n mem ops fuel z (listed.setIfInBounds i true) s' k
        |none=>none)))<|both (match ops[i]? with
        |some o=>Cp (mem&& !((Y2 T s o&&gOk ops s o)||(!tw z i&&LR (tw z) (listed.setIfInBounds i true)))) (none)<|
         qB P T inl n ops o s λs'=>QX P T inl n mem ops fuel z (listed.setIfInBounds i true) s' k
        |none=>none) (is.map λi=>match ops[i]? with
        |some o=>Cp (mem&& !((Y2 T s o&&gOk ops s o)||(!tw z i&&LR (tw z) (listed.setIfInBounds i true)))) (none)<|
         qB P T inl n ops o s λs'=>QX P T inl n mem ops fuel z (listed.setIfInBounds i true) s' k
        |none=>none)) s)=some r->WD P n ops S (tw z) (fuel+1) listed (λσ' w'=>∃s' A' L',k s'=some r/\Rel Z s' σs A' L' σ' w') σ w:=by
    intro z S hS1 hS2 h;refine main z S s _ hr hS1 hS2 (λhF=>?_) h;clear h;cases hmem:mem with
    |false=>
     simp only[hmem,Cp]at hF;subst hmem;exact rest z S s hr hS1 hS2 hF
    |true=>
     simp only[hmem,Cp]at hF;subst hmem;obtain⟨s',hr',hit,h'⟩:=mF hr hF;refine main z S s' _ hr' (by rw[hit];exact hS1) hS2 (λhG=>?_) h';exact rest z S s' hr' (by rw[hit];exact hS1) hS2 hG
   cases hz:(mem&&LR (tw z0) listed)with
   |true=>
    rw[hz]at h;simp only[A9]at hz;obtain⟨hm,hov⟩:=hz;subst hm;exact WD.next (S':=wH Z σs A L s.it w) _ hov (all _ _ (λ_ w' hw=>hw) (λe=>by cases e) h)
   |false=>
    rw[hz]at h;refine all _ _ (λhm=>?_) hI2 h;subst hm;rcases hI1 rfl with h1|h1
    ·rw[h1]at hz;cases hz
    ·exact h1
end Go.Rx
namespace Go.Rx
open Go Go.Lv
variable{p:PV}
variable {P:Program} {B B':Reg} {w w':World} {L L':List MD} {s:S} {σs:List Env} {σ:Env} {Z:Fix} {A A':Reg} {n:Nat} {ops:Array Oper}
variable {R:Type} {k:S->Option R} {r:R}
def xW(w:World)(A:Reg)(L:List Mob)(os:Nat->Option Nat):Prop:=
 (∀(i:Nat) (m:Mob),L[i]? =some m->m.holds (os i) w/\∀b,os i=some b-> ¬A b/\b<w.heap.size)/\∀i j b,i<L.length->j<L.length->i≠j->os i=some b->os j≠some b
theorem Cu.toI:∀{L:List Mob} {A:Reg},Cu w A L->∃os,xW w A L os
 |[],A,_=>⟨λ_=>none,λi m h=>by simp at h,λi j b h=>by simp at h⟩
 |m::L,A,⟨o,h1,h2,h3⟩=>by
  obtain⟨os,g1,g2⟩:=Cu.toI h3;refine⟨λi=>match i with|0=>o|i+1=>os i,λi m' h=>?_,λi j b hi hj hij h=>?_⟩
  ·cases i with
   |zero=>simp at h;subst h;exact⟨h1,h2⟩
   |succ i=>
    obtain⟨g3,g4⟩:=g1 i m' (by simpa using h);exact⟨g3,λb hb=>⟨λhA=>(g4 b hb).1 (.inl hA),(g4 b hb).2⟩⟩
  ·have key:∀q,q<L.length->∀b,os q=some b->o≠some b:=λq hq b hb ho=>by
    exact((g1 q L[q] (by simp[hq])).2 b hb).1 (.inr ho)
   cases i with
   |zero=>
    cases j with
    |zero=>exact absurd rfl hij
    |succ j=>intro hb;exact key j (by simpa using hj) b hb h
   |succ i=>
    cases j with
    |zero=>exact key i (by simpa using hi) b h
    |succ j=>exact g2 i j b (by simpa using hi) (by simpa using hj) F0 h
theorem Cu.ofI:∀{L:List Mob} {A:Reg} {os:Nat->Option Nat},xW w A L os->Cu w A L
 |[],_,_,_=>trivial
 |m::L,A,os,⟨g1,g2⟩=>by
  obtain⟨h1,h2⟩:=g1 0 m rfl;refine⟨os 0,h1,h2,Cu.ofI (os:=λi=>os (i+1)) ⟨λi m' h=>?_,λi j b hi hj hij h=>?_⟩⟩
  ·obtain⟨g3,g4⟩:=g1 (i+1) m' (by simpa using h);refine⟨g3,λb hb=>⟨λhA=>?_,(g4 b hb).2⟩⟩;rcases hA with hA|hA
   ·exact(g4 b hb).1 hA
   ·have hlt:i<L.length:=(List.getElem?_eq_some_iff.1 h).1;exact g2 0 (i+1) b F8 (by simpa using hlt) F0 hA hb
  ·exact g2 (i+1) (j+1) b (by simpa using hi) (by simpa using hj) F0 h
def distinct:List Nat->Bool|[]=>true|i::r=>!Wy i r&&distinct r
theorem Atc:∀{l:List Nat} {i j q:Nat},distinct l=true->l[i]? =some q->l[j]? =some q->i=j
 |[],_,_,_,_,h,_=>by simp at h
 |a::l,i,j,q,hd,hi,hj=>by
  simp only[distinct,A9,O1]at hd;have hn:a∉l:=λh=>by have:=AP.2 h;rw[hd.1]at this;cases this
  cases i with
  |zero=>
   cases j with
   |zero=>rfl
   |succ j=>simp at hi hj;subst hi;exact absurd (UH hj) hn
  |succ i=>
   cases j with
   |zero=>simp at hi hj;subst hj;exact absurd (UH hi) hn
   |succ j=>exact congrArg (· +1) (Atc (q:=q) hd.2 (by simpa using hi) (by simpa using hj))
theorem pC{w:World}:MD.dead.Ex.holds none w:=⟨none,0,0,rfl,F8,C4 _,λ_=>rfl,λ_=>rfl,λb h=>by cases h⟩
theorem getD_some{i:Nat}{md:MD}(h:L[i]? =some md):L.getD i .dead=md:=by simp[B4,h]
theorem getD_none{i:Nat}(h:L[i]? =none):L.getD i .dead= .dead:=by simp[B4,h]
def X? (o:List Nat)(L:List MD)(os:Nat->Option Nat)(j:Nat):Option Nat:=match o[j]? with|some i=>(match L[i]? with|some _=>os i|none=>none)|none=>none
theorem oT{o:List Nat}{os:Nat->Option Nat}{i j:Nat}{md:MD}(h:o[j]? =some i)(hL:L[i]? =some md):X? o L os j=os i:=by unfold X?;rw[h];simp only[hL]
theorem qC{o:List Nat}{os:Nat->Option Nat}{i j:Nat}(h:o[j]? =some i)(hL:L[i]? =none):X? o L os j=none:=by unfold X?;rw[h];simp only[hL]
theorem Anb{o:List Nat}(h:Cu w A (L.map MD.Ex))(hd:distinct o=true):Cu w A ((o.map λi=>L.getD i .dead).map MD.Ex):=by
 obtain⟨os,g1,g2⟩:=Cu.toI h;refine Cu.ofI (os:=X? o L os) ⟨λj m hm=>?_,λi j b hi hj hij hb=>?_⟩
 ·simp only[ZE,V?,YO,Function.comp]at hm;obtain⟨i,hi,rfl⟩:=hm;cases hL:L[i]? with
  |none=>rw[getD_none hL,qC hi hL];exact⟨pC,λb hb=>by cases hb⟩
  |some md=>rw[getD_some hL,oT hi hL];exact g1 i md.Ex (by simp[hL])
 ·simp only[U5]at hi hj;have e1:o[i]? =some o[i]:=by simp[hi]
  have e2:o[j]? =some o[j]:=by simp[hj]
  have hne:o[i]≠o[j]:=λe=>hij (Atc hd e1 (by rw[e2,e]));cases hL1:L[o[i]]? with
  |none=>rw[qC e1 hL1]at hb;cases hb
  |some m1=>
   rw[oT e1 hL1]at hb;cases hL2:L[o[j]]? with
   |none=>rw[qC e2 hL2];simp
   |some m2=>
    rw[oT e2 hL2];exact g2 _ _ b (by simpa using(List.getElem?_eq_some_iff.1 hL1).1) (by simpa using(List.getElem?_eq_some_iff.1 hL2).1) hne hb
theorem N!{i:Nat}:∀{o:List Nat} {m j:Nat},posOf i o m=some j->∃q,j=m+q/\o[q]? =some i
 |[],_,_,h=>by simp[posOf]at h
 |a::o,m,j,h=>by
  simp only[posOf]at h;cases hb:Nat.beq i a with
  |true=>rw[hb]at h;cases h;exact⟨0,rfl,by simp[Bn hb]⟩
  |false=>
   rw[hb]at h;obtain⟨q,h1,h2⟩:=N! (o:=o) h;exact⟨q+1,F0,by simpa using h2⟩
theorem lR{o:List Nat}{i j:Nat}{md:MD}(h:posOf i o 0=some j)(hL:L[i]? =some md):(o.map λi=>L.getD i .dead)[j]? =some md:=by
 obtain⟨q,h1,h2⟩:=N! h;rw[K1]at h1;subst h1;simp[h2,B4,hL]
theorem qd{o:List Nat}:(zW o p).isA=p.isA:=by
 cases p<;>try rfl
 ·simp only[zW];split<;>rfl
 ·simp only[zW];split<;>rfl
 ·simp only[zW];split<;>rfl
 ·simp only[zW];split<;>rfl
abbrev nD(L:List MD):Prop:=L.all (λm=>match m with| .own _ _ v _=>v.oneCell'|_=>true)=true
mutual
theorem tP{o:List Nat}(h1:nD L):∀{p:PV} {cs:List Value},Ba B w L p cs->Ba B w (o.map λi=>L.getD i .dead) (zW o p) cs
 | .val _ x,cs,h=>h
 | .agg q,cs,h=>Alv h1 (show Ba.go B w L q cs from h)
 | .tup _,_,h=>h.elim
 | .nils,cs,h=>h
 | .own j,cs,⟨z,E,v,c,g1,g2⟩=>by
  simp only[zW];split
  ·rename_i j' hj;exact⟨z,E,v,c,lR hj g1,g2⟩
  ·exact⟨v,g2,List.all_eq_true.1 h1 _ (UH g1)⟩
 | .ptr j q,cs,⟨md,b,g1,g2,g3⟩=>by
  simp only[zW];split
  ·rename_i j' hj;exact⟨md,b,lR hj g1,g2,g3⟩
  ·exact⟨_,g3,rfl⟩
 | .view u j p e lo n,cs,⟨md,v,g1,g2,g3⟩=>by
  simp only[zW];split
  ·rename_i j' hj;exact⟨md,v,lR hj g1,g2,g3⟩
  ·obtain⟨_,_,⟨pt,cap,e',_⟩,_⟩:=g3;exact⟨v,g2,by rw[e'];rfl⟩
 | .wp j,cs,h=>by
  simp only[zW];split
  ·rename_i j' hj;rcases h with h|⟨md,b,g1,g2,g3⟩
   ·exact .inl h
   ·exact .inr ⟨md,b,lR hj g1,g2,g3⟩
  ·rcases h with h|⟨md,b,g1,g2,g3⟩
   ·exact⟨_,h,rfl⟩
   ·exact⟨_,g3,rfl⟩
 | .rptr v,cs,⟨pv,c0,g1,g2,g3⟩=>⟨pv,c0,g1,g2,tP h1 g3⟩
 | .fn f caps,cs,⟨vs,g1,g2⟩=>⟨vs,g1,kM h1 g2⟩
 | .cap _ _ _,cs,h=>h
 | .bfn f fs,cs,⟨vs,g1,g2⟩=>⟨vs,g1,kM h1 g2⟩
 | .mp st ks l,cs,⟨r,es,n,g1,g2,g3,g4,g5⟩=>⟨r,es,n,g1,g2,g3,g4,kM h1 g5⟩
 | .cst v,cs,h=>h
 | .any,cs,h=>h
 | .gd _ _ _,_,h=>h.elim
 | .off,_,h=>h.elim
 | .undef,_,h=>h.elim
theorem Alv{o:List Nat}(h1:nD L):∀{q:List PV} {cs:List Value},Ba.go B w L q cs->Ba.go B w (o.map λi=>L.getD i .dead) (zW.go o q) cs
 |[],cs,h=>h
 |a::q,cs,⟨c1,c2,e',g1,g2⟩=>⟨c1,c2,e',tP h1 g1,Alv h1 g2⟩
theorem kM{o:List Nat}(h1:nD L):∀{q:List PV} {vs:List Value},Ek B w L q vs->Ek B w (o.map λi=>L.getD i .dead) (zW.go o q) vs
 |[],vs,h=>h
 |a::q,vs,⟨v,vs',e',g1,g2⟩=>⟨v,vs',e',by rw[qd];exact g1.mono λc h=>tP h1 h,kM h1 g2⟩
end
theorem qS{o:List Nat}(h1:nD L){v:Value}(h:Ef B w L p v):Ef B w (o.map λi=>L.getD i .dead) (zW o p) v:=by
 cases hp:p.xq with
 |true=>
  have h2:Ga B w (o.map λi=>L.getD i .dead) (zW o p) v:=by
   unfold Ga;rw[qd];exact asV.mono (λc h=>tP h1 h) ((cM hp).1 h)
  exact(Je h2).2
 |false=>
  cases p
  case tup q=>obtain⟨vs,g1,g2⟩:=h;exact⟨vs,g1,kM h1 g2⟩
  case undef=>exact(show False from h).elim
  case off=>exact(show False from h).elim
  case gd=>exact(show False from h).elim
  all_goals cases hp
theorem Aii{o:List Nat}(h1:nD L){t:Nat}(h:Gx B w L σ t p):Gx B w (o.map λi=>L.getD i .dead) σ t (zW o p):=by
 cases hv:p.isV with
 |true=>
  have g1:=qS (o:=o) h1 ((Gx.iff hv).1 h);have g2:(zW o p).isV=true:=by
   cases p<;>first|rfl|cases hv|skip
   ·simp only[zW];split<;>rfl
   ·simp only[zW];split<;>rfl
   ·simp only[zW];split<;>rfl
   ·simp only[zW];split<;>rfl
  exact(Gx.iff g2).2 g1
 |false=>
  rcases Ve hv with rfl|rfl|⟨j,u,q,rfl⟩
  ·exact trivial
  ·exact h
  ·obtain⟨b,g1,g2,g3⟩:=h;exact⟨b,g1,λe=>qS h1 (g2 e),g3⟩
theorem M9{o:List Nat}(h1:nD L){sl:Slots}(h:Fp B w L σ sl):Fp B w (o.map λi=>L.getD i .dead) σ (dR o sl):=by
 intro p hp;obtain⟨q,hq,rfl⟩:=List.mem_map.1 hp;exact Aii h1 (h q hq)
theorem G3{o:List Nat}(h1:nD L):∀{σs:List Env} {st:List Slots},bN B w L σs st->bN B w (o.map λi=>L.getD i .dead) σs (st.map (dR o))
 |[],[],h=>h
 |_::_,_::_,⟨g1,g2⟩=>⟨M9 h1 g1,G3 h1 g2⟩
theorem Amg{o:List Nat}(h1:nD L){a:Item}{md:MD}(h:Xo B w L a md):Xo B w (o.map λi=>L.getD i .dead) (xK o a) md:=by
 cases a<;>cases md<;>first
  |exact h
  |exact⟨h.1,tP h1 h.2⟩
theorem YR{sl:Slots}(h:Fp B w L σ sl):∀(lv:List Nat),Fp B w L σ (oE sl lv)
 |[]=>λp hp=>by simp[oE]at hp
 |t::lv=>by
  intro p hp;simp only[oE]at hp;split at hp
  ·exact YR h lv p hp
  ·exact YR h lv p hp
  ·exact YR h lv p hp
  ·rcases List.mem_cons.1 hp with rfl|hp
   ·exact Mu (s:=⟨sl,[],[]⟩) (t:=t) h
   ·exact YR h lv p hp
theorem Amy:∀{l:List Nat} {i:Nat},distinct l=true->Wy i l=false->distinct (l++[i])=true
 |[],_,_,_=>rfl
 |a::l,i,hd,hi=>by
  simp only[distinct,A9,O1]at hd;simp only[Wy,YW]at hi;simp only[SU,distinct,A9,O1];refine⟨?_,Amy hd.2 hi.2⟩;cases hx:Wy a (l++[i])with
  |false=>rfl
  |true=>
   rcases List.mem_append.1 (AP.1 hx)with h|h
   ·have:=AP.2 h;rw[hd.1]at this;cases this
   ·simp at h;subst h;simp at hi
theorem NR{it:List Item}:∀(q:Nat) (todo seen:List Nat),distinct seen=true->distinct (reach it q todo seen)=true
 |0,_,_,h=>h
 |_+1,[],_,h=>h
 |q+1,i::todo,seen,h=>by
  simp only[reach];cases he:Wy i seen with
  |true=>exact NR q _ _ h
  |false=>exact NR q _ _ (Amy h he)
theorem Al0(hr:Rel Z s σs A L σ w)(lv:List Nat):∃L',Rel Z (s.canon lv) σs A L' σ w:=by
 have hm:=hr.mem;have h1:nD L:=hr.nD;unfold S.canon;simp only;generalize ho:reach s.it 200 (X' (oE s.sl lv)++(s.st.map X').flatten) []=o;have hd:distinct o=true:=by rw[<-ho];exact NR _ _ _ rfl
 refine⟨o.map λi=>L.getD i .dead,?_⟩;have hst:St A w [Oy Z.R L s σs σ, .old Z.M Z.w0] ((o.map λi=>L.getD i .dead).map MD.Ex):=⟨St.lt hr,St.facts hr,Anb (St.mobs hr) hd⟩;refine Rel.as hst (i:=1) rfl ⟨⟨F8,λj a m g1 g2=>?_⟩,M9 h1 (YR hm.sl lv),G3 h1 hm.stk⟩ rfl;simp only[V?,YO]at g1 g2;obtain⟨i,g3,rfl⟩:=g1;obtain⟨i',g4,rfl⟩:=g2;rw[g3]at g4;cases g4;cases hi:Cs s.it i with
 |dead=>exact trivial
 |box T v=>
  obtain⟨md,g5,g6⟩:=hm.item hi (by intro e;cases e);rw[getD_some g5];exact Amg h1 g6
 |arr E e l=>
  obtain⟨md,g5,g6⟩:=hm.item hi (by intro e;cases e);rw[getD_some g5];exact Amg h1 g6
theorem wL:∀{p:List Nat} {v u:PV} {cs:List Value},atV v p=some u->Ba B w L v cs-> (∃c,Ba B w L u c)/\∀(B':Reg) (w':World) (L':List MD) (m v':PV),(∀q c,Ba B w L q c->Ba B' w' L' q c)-> (∀c,Ba B w L u c->Ba B' w' L' m c)->m.isA=u.isA->WH m v p=some v'->Ba B' w' L' v' cs/\v'.isA=v.isA
 |[],v,u,cs,h,hv=>by
  simp only[atV,HN]at h;subst h;refine⟨⟨cs,hv⟩,λB' w' L' m v' _ hm hA hp=>?_⟩;simp only[WH,HN]at hp;subst hp;exact⟨hm _ hv,hA⟩
 |i::p,v,u,cs,h,hv=>by
  cases v<;>simp only[atV,reduceCtorEq]at h;rename_i l;split at h
  ·rename_i f hf;obtain⟨c1,c2,c3,e,h1,h2,h3⟩:=Ba.field (show Ba.go B w L l cs from hv) hf;obtain⟨g1,g2⟩:=wL h h2;refine⟨g1,λB' w' L' m v' hq hm hA hp=>?_⟩;simp only[WH,hf]at hp;split at hp
   ·rename_i f' hf';cases hp;obtain⟨g3,_⟩:=g2 B' w' L' m f' hq hm hA hf';refine⟨?_,rfl⟩;have hl:Ba.go B' w' L' l cs:=show Ba B' w' L' (.agg l) cs from hq _ _ hv;obtain⟨d1,d2,d3,e',k1,k2,k3⟩:=Ba.field hl hf;have:d2=c2:=by
     have l1:d1.length=c1.length:=k1.trans h1.symm;have l2:d2.length=c2.length:=k2.len.trans h2.len.symm;rw[e]at e';obtain⟨e1,e2⟩:=List.append_inj e' l1.symm;obtain⟨e3,_⟩:=List.append_inj e2 l2.symm;exact e3.symm
    rw[e'];exact k3 _ _ (by rw[this];exact g3)
   ·cases hp
  ·cases h
theorem P? (hr:Rel Z s σs A L σ w)(E:TypeId)(e:ET):Rel Z (s.add (.arr E e [])) σs A (L++[.own e.size E (.slice none 0 0) []]) σ w:=
 Rel.push (a:= .arr E e []) (md:= .own e.size E (.slice none 0 0) []) (St.d_ hr e.size E) ⟨rfl,rfl,rfl⟩
theorem pE{i b:Nat}{T:TypeId}{v':PV}{cells:List Value}(hr:Rel Z s σs A L σ w)(hL:L[i]? =some (.box b cells T))(hv:Ba (λb=>A b/\Z.R b) w L v' cells):Rel Z (s.Mr i (.box T v')) σs A L σ w:=by
 have hm:=hr.mem;refine Rel.as hr (i:=1) rfl ⟨⟨by simp[S.Mr,LG,hm.it.1],λj a m h1 h2=>?_⟩,hm.sl,hm.stk⟩ rfl;simp only[S.Mr]at h1;rcases LA h1 with⟨rfl,rfl⟩|⟨_,h4⟩
 ·rw[hL]at h2;cases h2;exact⟨rfl,hv⟩
 ·exact hm.it.2 j a m h4 h2
theorem Akv{t:Nat}{m:PV}:∀{sl:Slots} {q:Nat} {v:PV},(q,v)∈XS t m sl-> (q,v)∈sl\/ (q=t/\v=m)
 |[],_,_,h=>by simp[XS]at h
 |(q',v')::r,q,v,h=>by
  simp only[XS]at h;cases hb:Nat.beq q' t with
  |true=>
   rw[hb]at h;rcases List.mem_cons.1 h with h|h
   ·cases h;exact .inr ⟨Bn hb,rfl⟩
   ·exact .inl (.tail _ h)
  |false=>
   rw[hb]at h;rcases List.mem_cons.1 h with h|h
   ·cases h;exact .inl (.head _)
   ·exact(Akv h).imp (.tail _) id
theorem I2{t:Nat}{m:PV}(hr:Rel Z s σs A L σ w)(hm:Gx (λb=>A b/\Z.R b) w L σ t m):Rel Z ⟨XS t m s.sl,s.it,s.st⟩ σs A L σ w:=by
 refine hr.oz rfl rfl ?_;rintro⟨q,v⟩ hp;rcases Akv hp with h|⟨rfl,rfl⟩
 ·exact hr.mem.sl _ h
 ·exact hm
theorem Au0 {e:ET}{c:List Value}(h:Ba B w L .nils c):Ba B w L (.val (.list e) []) c:=⟨_,[],show c=_ from h,Rd.nil,rfl⟩
theorem Aqn{a:At}{s':S}(hr:Rel Z s σs A L σ w)(h:kO s a=some s'):∃A' L',Rel Z s' σs A' L' σ w:=by
 have hm:=hr.mem;unfold kO at h;simp only at h;split at h
 ·
  unfold zC at h;split at h
  ·rename_i i q hsl;split at h
   ·rename_i T v hi;obtain⟨b,cells,hL,hv⟩:=hm.box hi;split at h
    ·rename_i hu;split at h
     ·rename_i v' hv';cases h;obtain⟨_,g⟩:=wL hu hv;obtain⟨g1,_⟩:=g (λb=>A b/\Z.R b) w L (.wp i) v' (λq c h=>h) (λc hc=> .inl (show c=_/\ _ from hc).1) rfl hv';exact⟨_,_,pE hr hL g1⟩
     ·cases h
    ·cases h;exact⟨A,L,hr⟩
    ·cases h
   ·cases h
  ·cases h
 split at h
 ·
  rename_i i q hsl;split at h
  ·rename_i T v hi;split at h
   ·rename_i u hu;obtain⟨b,cells,hL,hv⟩:=hm.box hi;split at h
    ·rename_i E e _;split at h
     ·rename_i v' hv';cases h;obtain⟨_,g⟩:=wL hu hv;have hr2:=P? hr E e;have hL2:(L++[.own e.size E (.slice none 0 0) []])[i]? =some (.box b cells T):=by rw[I9 (List.getElem?_eq_some_iff.1 hL).1];exact hL
      obtain⟨g1,_⟩:=g (λb=>A b/\Z.R b) w (L++[.own e.size E (.slice none 0 0) []]) (.own s.new) v' (λq c h=>Ba.step (λ_ h=>h) (λ_ _=>rfl) (RI.append _ _) h)
       (λc hc=>⟨e.size,E,_,[],by rw[S.new,hr.len];simp,hc⟩) rfl hv'
      exact⟨_,_,pE hr2 hL2 g1⟩
     ·cases h
    ·cases h;exact⟨A,L,hr⟩
    ·rename_i e _;split at h
     ·rename_i v' hv';cases h;obtain⟨_,g⟩:=wL hu hv;obtain⟨g1,_⟩:=g (λb=>A b/\Z.R b) w L (.val (.list e) []) v' (λq c h=>h) (λc hc=>Au0 hc) rfl hv';exact⟨_,_,pE hr hL g1⟩
     ·cases h
    ·obtain⟨A',h1,_⟩:=qH hr h;exact⟨A',_,h1⟩
    ·cases h;exact⟨A,L,hr⟩
    ·cases h
   ·cases h
  ·cases h
 split at h
 ·
  rename_i o i p e1 lo n hsl;split at h
  ·rename_i E e _ _;obtain⟨hb,h⟩:=Aq h;split at h
   ·rename_i s1 j h1;cases h;have hx:Eh s.sl (.tmp a.t)= .view o i p e1 lo n:=by simp only[Eh,hsl]
    obtain⟨L1,hr1,c0,hL⟩:=At9 (x:= .tmp a.t) hr (by simpa [Nat.blt_eq]using hb) (by rw[hx];rfl) (by rw[hx];exact h1);exact⟨_,_,I2 hr1 ⟨_,_,_,_,hL,rfl⟩⟩
   ·cases h
  ·cases h
 ·
  split at h
  ·rename_i u hu;have hsl:=Mu (t:=a.t) hm.sl;have yL:∀(B':Reg) (L':List MD) (m v':PV),(∀q c,Ba (λb=>A b/\Z.R b) w L q c->Ba B' w L' q c)-> (∀c,Ba (λb=>A b/\Z.R b) w L u c->Ba B' w L' m c)->m.isA=u.isA->u= .nils->WH m (Yp s.sl a.t) a.p=some v'->Gx B' w L' σ a.t v':=by
    intro B' L' m v' hq hmu hA hun hp;have hP:(Yp s.sl a.t).xq=true:=by
     revert hu
     generalize Yp s.sl a.t=x;generalize a.p=pp;intro hu;cases pp with
     |nil=>simp only[atV,HN]at hu;rw[hu,hun];rfl
     |cons _ _=>cases x<;>first|rfl|simp[atV]at hu
    have hE:Ga (λb=>A b/\Z.R b) w L (Yp s.sl a.t) (σ a.t):=(cM hP).1 ((Gx.iff (PV.ig hP)).1 hsl);have key:Ga B' w L' v' (σ a.t):=by
     unfold Ga asV at hE;split at hE
     ·rename_i hA';obtain⟨cs,e1,hc⟩:=hE;obtain⟨_,g⟩:=wL hu hc;obtain⟨g1,g2⟩:=g B' w L' m v' hq hmu hA hp;unfold Ga;rw[g2,hA'];exact⟨cs,e1,g1⟩
     ·rename_i hA';obtain⟨_,g⟩:=wL hu hE;obtain⟨g1,g2⟩:=g B' w L' m v' hq hmu hA hp;unfold Ga;rw[g2,hA'];exact g1
    obtain⟨k1,k2⟩:=Je key;exact(Gx.iff k1).2 k2
   split at h
   ·rename_i E e _;split at h
    ·rename_i v' hv';cases h;have hr2:=P? hr E e;exact⟨_,_,I2 (s:=s.add (.arr E e [])) hr2 (yL _ _ (.own s.new) v' (λq c h=>Ba.step (λ_ h=>h) (λ_ _=>rfl) (RI.append _ _) h) (λc hc=>⟨e.size,E,_,[],by rw[S.new,hr.len];simp,hc⟩) rfl rfl hv')⟩
    ·cases h
   ·cases h;exact⟨A,L,hr⟩
   ·rename_i e _;split at h
    ·rename_i v' hv';cases h;exact⟨_,_,I2 hr (yL _ _ (.val (.list e) []) v' (λq c h=>h) (λc hc=>Au0 hc) rfl rfl hv')⟩
    ·cases h
   ·obtain⟨A',h1,_⟩:=qH hr h;exact⟨A',_,h1⟩
   ·cases h;exact⟨A,L,hr⟩
   ·cases h
  ·cases h
theorem tM:∀{l:List At} {s s':S} {A:Reg} {L:List MD},Rel Z s σs A L σ w->Zg s l=some s'->∃A' L',Rel Z s' σs A' L' σ w
 |[],s,s',A,L,hr,h=>by simp only[Zg,HN]at h;subst h;exact⟨A,L,hr⟩
 |a::l,s,s',A,L,hr,h=>by
  simp only[Zg]at h;split at h
  ·rename_i s1 h1;obtain⟨A1,L1,hr1⟩:=Aqn hr h1;exact tM hr1 h
  ·cases h
theorem oB{lv:List Nat}{co:List At}{s':S}(hr:Rel Z s σs A L σ w)(h:s.cn lv co=some s'):∃A' L',Rel Z s' σs A' L' σ w:=by
 unfold S.cn at h;split at h
 ·rename_i s1 h1;cases h;obtain⟨A1,L1,hr1⟩:=tM hr h1;obtain⟨L',hr2⟩:=Al0 hr1 lv;exact⟨A1,L',hr2⟩
 ·cases h
end Go.Rx
namespace Go.Rx
open Go Go.Lv
variable {P:Program} {B B':Reg} {w w':World} {L L':List MD} {s:S} {σs:List Env} {σ:Env} {Z:Fix} {A A':Reg} {n:Nat} {ops:Array Oper}
variable {R:Type} {r:R} {T:Tab} {inl:fN R}
def kof(k:K R):Exit->S->Option R
 | .normal=>k.n| .exit id=>k.x id| .ret=>k.r|_=>λ_=>none
def QK(Z:Fix)(σs:List Env)(k:K R)(r:R)(e:Exit)(σ':Env)(w':World):Prop:=∃s' A' L',kof k e s'=some r/\Rel Z s' σs A' L' σ' w'
theorem qx(an:An){gl:List (Nat×List Value)}(hI:Qi P gl inl):Qi P gl (O_ an inl):=by
 unfold O_;split
 ·intro Z hZ f as s k r σs A L σ w vs h hr ha;exact hI Z hZ f as _ k r σs A L σ w vs h (hr.oz rfl rfl (YR hr.mem.sl _)) ha
 ·exact hI
theorem tQ(HI:P.follows .mixedOrders=true)(hT:fE P T Z)(hI:Qi P T.gl inl):∀(c:Code) {an:An} {k:K R} {s:S} {A:Reg} {L:List MD} {σ:Env} {w:World},ex P T inl n c an k s=some r->Rel Z s σs A L σ w->W P n c (QK Z σs k r) σ w:=by
 intro c
 induction c with
 |skip=>intro an k s A L σ w h hr;exact W.skip ⟨s,A,L,h,hr⟩
 |ret=>intro an k s A L σ w h hr;exact W.ret ⟨s,A,L,h,hr⟩
 |exit id=>intro an k s A L σ w h hr;exact W.exit ⟨s,A,L,h,hr⟩
 |seq a b iha ihb=>
  intro an k s A L σ w h hr;refine W.seq (W.mono (iha (an:=an.l) (k:={k with n:=Q0 an λs'=>ex P T inl n b an.r k s'}) h hr) ?_);rintro e σ' w' ⟨s',A',L',h1,hr'⟩;cases e with
  |normal=>
   have h2:Q0 an (λs'=>ex P T inl n b an.r k s') s'=some r:=h1;unfold Q0 at h2;split at h2
   ·split at h2
    ·rename_i s2 hs2;obtain⟨A2,L2,hr2⟩:=oB hr' hs2;exact ihb h2 hr2
    ·cases h2
   ·exact ihb h2 hr'
  |exit id=>exact⟨s',A',L',h1,hr'⟩
  |ret=>exact⟨s',A',L',h1,hr'⟩
  |goto l=>exact⟨s',A',L',h1,hr'⟩
  |panic c=>exact⟨s',A',L',h1,hr'⟩
  |outgrown=>exact⟨s',A',L',h1,hr'⟩
 |cond c a b iha ihb=>
  intro an k s A L σ w h hr;simp only[ex]at h;split at h
  ·rename_i t hc;refine W.cond (qX hr.mem.sl hc) (λht=>?_) (λht=>?_)
   ·subst ht;exact iha (by simpa using h) hr
   ·subst ht;exact ihb (by simpa using h) hr
  ·cases h
 |block id a iha=>
  intro an k s A L σ w h hr;refine W.block (W.mono (iha (an:=an.l) (k:={k with x:=λid' s'=>Cp (Nat.beq id' id) (k.n s')<|k.x id' s'}) h hr) ?_);rintro e σ' w' ⟨s',A',L',h1,hr'⟩;cases e with
  |exit id'=>
   have h2:(Cp (Nat.beq id' id) (k.n s')<|k.x id' s')=some r:=h1;simp only[xk];by_cases hid:id'=id
   ·rw[A7 hid];subst hid;simp at h2;exact⟨s',A',L',h2,hr'⟩
   ·rw[A4 hid];have hb:Nat.beq id' id=false:=by
     cases hb:Nat.beq id' id with
     |false=>rfl
     |true=>exact absurd (Bn hb) hid
    rw[hb]at h2;exact⟨s',A',L',h2,hr'⟩
  |normal=>exact⟨s',A',L',h1,hr'⟩
  |ret=>exact⟨s',A',L',h1,hr'⟩
  |goto l=>exact⟨s',A',L',h1,hr'⟩
  |panic c=>exact⟨s',A',L',h1,hr'⟩
  |outgrown=>exact⟨s',A',L',h1,hr'⟩
 |loop a iha=>
  intro an k s A L σ w h hr;have head:∀(q:Nat) (s:S) (A:Reg) (L:List MD) (σ:Env) (w:World),RY an (iter an (λkn s'=>ex P T inl n a an.l {k with n:=kn} s') q) s=some r->Rel Z s σs A L σ w->
    ∃s' A' L',iter an (λkn s'=>ex P T inl n a an.l {k with n:=kn} s') q s'=some r/\Rel Z s' σs A' L' σ w:=by
   intro q s A L σ w h hr;unfold RY at h;split at h
   ·split at h
    ·rename_i s2 hs2;obtain⟨A2,L2,hr2⟩:=oB hr hs2;exact⟨s2,A2,L2,h,hr2⟩
    ·cases h
   ·cases h
  refine W.loop (λq σ w=>∃s A L,iter an (λkn s'=>ex P T inl n a an.l {k with n:=kn} s') q s=some r/\Rel Z s σs A L σ w) Bs (head _ _ _ _ _ _ h hr) ?_;rintro q σ w ⟨s,A,L,h,hr⟩;cases q with
  |zero=>cases h
  |succ q=>
   refine W.mono (iha (k:={k with n:=RY an (iter an (λkn s'=>ex P T inl n a an.l {k with n:=kn} s') q)}) h hr) ?_;rintro e σ' w' ⟨s',A',L',h1,hr'⟩;cases e with
   |normal=>exact⟨q,n_ _,head q s' A' L' σ' w' h1 hr'⟩
   |exit id=>exact⟨s',A',L',h1,hr'⟩
   |ret=>exact⟨s',A',L',h1,hr'⟩
   |goto l=>exact⟨s',A',L',h1,hr'⟩
   |panic c=>exact⟨s',A',L',h1,hr'⟩
   |outgrown=>exact⟨s',A',L',h1,hr'⟩
 |region id ops draw=>
  intro an k s A L σ w h hr;cases draw with
  |false=>
   obtain⟨hd,h⟩:=Aq (show(Cp (jG ops.toList) (SA P T (O_ an inl) n ops ops.toList s k.n)<|none)=some r from h);have h1:=R4 (ops:=ops) hT (qx an hI) hr (show SA P T (O_ an inl) n ops ops.toList s k.n=some r from h);have hops:ops=ops.toList.toArray:=by simp
   rw[hops];exact W.region hd (by rw[<-hops];exact h1)
  |true=>
   obtain⟨hd,h⟩:=Aq (show(Cp (jG ops.toList) (QX P T (O_ an inl) n (wM an) ops ops.size (Cp (wM an) (#[])<|Array.replicate ops.size true) (Array.replicate ops.size false) s k.n)<|none)=some r from h);refine W.Atd hd HI (λ_=>True) (tw (Cp (wM an) (#[])<|Array.replicate ops.size true)) (λw' hw hg=>?_);have hr':Rel Z s σs A L σ w':=St.Al9 hr hw hg;refine Aww hT (qx an hI) hr' h (λhm=> .inl ?_) (λ_ _ _=>trivial);rw[hm];simp[LR,tw]
 |rangeFunc=>intro an k s A L σ w h hr;cases h
 |scope=>intro an k s A L σ w h hr;cases h
 |label=>intro an k s A L σ w h hr;cases h
 |goto=>intro an k s A L σ w h hr;cases h
 |refuse=>intro an k s A L σ w h hr;cases h
theorem Ai4(hr:Rel Z s σs A L σ w){v:ResultVar}{p:PV}(h:iR P s v=some p):∃u,TI P σ w v u/\Ga (λb=>A b/\Z.R b) w L p u:=by
 have hm:=hr.mem;cases v with
 |tmp t=>
  obtain⟨hp,h⟩:=Aq h;cases h;exact⟨σ t,rfl,NK hm.sl hp⟩
 |cell a t=>
  simp only[iR]at h;split at h
  ·rename_i i p' hsl;split at h
   ·rename_i T v0 hi;split at h
    ·rename_i u hu;obtain⟨hk,h⟩:=Aq h;cases h;have hs1:=Mu (t:=a) hm.sl;rw[hsl]at hs1;obtain⟨md,b,h1,h2,h3⟩:=Wz hs1;obtain⟨b',cells,h4,h5⟩:=hm.box hi;rw[h4]at h1;cases h1;cases h2;obtain⟨c1,c2,c3,e,h6,h7⟩:=cY hu h5;have hok:=Pb hk;obtain⟨d,hd,ha⟩:=hok.agg;have hlen:=h7.len;cases hA:p.isA with
     |true=>
      refine⟨.agg c2.toArray,TI.cells hr (hr.Ex h4) ⟨d,hd,ha.trans hA⟩ hok.size h3 ?_ hlen,by unfold Ga;rw[hA];exact⟨c2,rfl,h7⟩⟩;rw[e,<-h6,<-hlen];exact rJ rfl
     |false=>
      rw[hok.one hA]at hlen
      match c2,hlen with
      |[u],_=>exact⟨u,TI.cell hr (hr.Ex h4) ⟨d,hd,ha.trans hA⟩ h3 (by rw[e,<-h6];simp),by unfold Ga;rw[hA];exact h7⟩
    ·cases h
   ·cases h
  ·cases h
theorem lS(hr:Rel Z s σs A L σ w):∀{vs:List ResultVar} {ps:List PV},pL P s vs=some ps->∃us,bA P σ w vs us/\Ek (λb=>A b/\Z.R b) w L ps us
 |[],ps,h=>by simp only[pL,HN]at h;subst h;exact⟨[],trivial,rfl⟩
 |v::vs,ps,h=>by
  simp only[pL]at h;split at h
  ·rename_i p ps' hp hps;cases h;obtain⟨u,h1,h2⟩:=Ai4 hr hp;obtain⟨us,h3,h4⟩:=lS hr hps;exact⟨u::us,⟨h1,h3⟩,u,us,rfl,h2,h4⟩
  ·cases h
theorem jM:∀{as:List PV} {vs:List Value} {m:Nat} {f:Nat->Value},Ek B w L as vs-> (∀i v,vs[i]? =some v->f (m+i)=v)->∀p∈Xh m as,Gx B w L f p.1 p.2
 |[],vs,m,f,_,_,p,hp=>by simp[Xh]at hp
 |a::as,vs,m,f,⟨v,vs',e,h1,h2⟩,hf,p,hp=>by
  subst e;simp only[Xh]at hp;rcases List.mem_cons.1 hp with rfl|hp
  ·obtain⟨k1,k2⟩:=Je (show Ga B w L a v from h1);refine(Gx.iff k1).2 ?_;have:=hf 0 v rfl;rw[SJ]at this;rw[this];exact k2
  ·exact jM h2 (λi v hi=>by have:=hf (i+1) v (by simpa using hi);rw[<-this];congr 1;omega) p hp
theorem Anl{vs:List Value}{i:Nat}{v:Value}(h:vs[i]? =some v):QW vs i=v:=by simp[QW,B4,h]
theorem Ek.length:∀{as:List PV} {vs:List Value},Ek B w L as vs->vs.length=as.length
 |[],vs,h=>by rw[show vs=[]from h];rfl
 |a::as,vs,⟨v,vs',e,h1,h2⟩=>by rw[e,B6,Ek.length h2];rfl
theorem Amh{f:Nat}{an:An}:∀{VK:List (Nat×An)},Xp.X7 VK f=some an-> (f,an)∈VK
 |[],h=>by simp[Xp.X7]at h
 |(g,a)::VK,h=>by
  simp only[Xp.X7]at h;cases hb:Nat.beq g f with
  |true=>have:=Bn hb;subst this;rw[hb]at h;cases h;exact .head _
  |false=>rw[hb]at h;exact .tail _ (Amh h)
def uL(P:Program)(f:Nat)(T:TypeId):Prop:=∀(w:World) (b:Nat) (p v:Value),w.heap[b]? =some (.cells #[p,v] T (0,0))-> (p= .pointer none\/p= .pointer (some ⟨b,0,none⟩))->
 Calls P f #[.pointer (some ⟨b,0,none⟩)] w λe w'=>e= .returned (.tuple #[])/\w'=Ec w b (.cells #[.pointer (some ⟨b,0,none⟩),v] T (0,0))
def j_(P:Program)(f:Nat)(T E:TypeId):Prop:=∀(w:World) (b:Nat) (p v:Value) (o:Option Nat) (l:List UInt8),w.heap[b]? =some (.cells #[p,v] T (0,0))-> (Mob.own 1 E v (Go.Lv.We (k:= .u8) l)).holds o w->l.length<=17179869184->
 Calls P f #[.pointer (some ⟨b,0,none⟩)] w λe w'=>e= .returned (sv l)/\Gr w w'/\∀k,k<w.heap.size->o≠some k->w'.heap[k]? =w.heap[k]?
def jO(P:Program)(f:Nat)(T E:TypeId):Prop:=∀(w:World) (b n:Nat),w.heap[b]? =some (.cells #[.pointer none, .slice none 0 0] T (0,0))->n<=281474976710656->
 Calls P f #[.pointer (some ⟨b,0,none⟩), .int .i64 n] w λe w'=>e= .returned (.tuple #[])/\Gr w w'/\ (∀k,k<w.heap.size->k≠b->w'.heap[k]? =w.heap[k]?)/\∃v o,w'.heap[b]? =some (.cells #[.pointer (some ⟨b,0,none⟩),v] T (0,0))/\ (Mob.own 1 E v []).holds o w'/\∀k,o=some k->w.heap.size<=k/\k<w'.heap.size
def bQ(P:Program):An->Nat->Prop
 | .pr n T E,f=>(match n with|0=>uL P f T|1=>j_ P f T E|2=>jO P f T E|_=>True)
 |_,_=>True
abbrev AnE(P:Program)(p:Nat×An):Prop:=Ent P p.1/\bQ P p.2 p.1
theorem P3(hr:Rel Z s σs A L σ w){i:Nat}{md:MD}(hL:L[i]? =some md):Rel Z ((s.Mr i .dead).sub i .any) σs A (L.set i .dead) σ w/\∃o,md.Ex.holds o w/\ (∀b,o=some b-> ¬A b/\b<w.heap.size)/\Cu w (λk=>A k\/o=some k) ((L.set i .dead).map MD.Ex):=by
 obtain⟨o,h1,h2,h3⟩:=(St.front hr (hr.Ex hL)).mobs;have AU:Cu w (λk=>A k\/o=some k) ((L.set i .dead).map MD.Ex):=by
  rw[VR];exact Cu.perm (Ws (hr.Ex hL)) ⟨none,pC,(λb hb=>by cases hb),h3.Ii λk hk=>hk.elim id (λh=>by cases h)⟩
 have hf:Frz (λb=>A b/\Z.R b) w L i .any:=⟨λz E v c h=>⟨v,rfl,by
  obtain⟨p,len,cap,e,_⟩:=hr.Pf h;rw[e];rfl⟩,rfl,rfl⟩
 have hs:St A w [Oy Z.R L s σs σ, .old Z.M Z.w0] ((L.set i .dead).map MD.Ex):=⟨St.lt hr,St.facts hr,AU.Ii λ_ h=> .inl h⟩;exact⟨Rel.as hs (i:=1) rfl (hr.mem.subst hf) rfl,o,h1,h2,AU⟩
theorem Ao6{B:Reg}{w:World}:∀{l:List UInt8} {c:List Value},Cj (Ax B w (.int .u8)) l c->c=Go.Lv.We (k:= .u8) l
 |[],c,h=>h
 |x::l,c,⟨c1,c2,h1,h2,h3⟩=>by rw[h1,show c1=_ from h2,Ao6 h3];rfl
theorem Ahk{w:World}{b k:Nat}{o:Obj}(h:k≠b):(Ec w b o).heap[k]? =w.heap[k]? :=by simp only[Ec];rw[VS (S? h)]
theorem Ako{i b:Nat}{T E:TypeId}{v:Value}{o:Option Nat}{cells:List Value}(hr:Rel Z s σs A L σ w)(hL:L[i]? =some (.box b cells T))(hg:Gr w w')(hs:∀k,k<w.heap.size->k≠b->w'.heap[k]? =w.heap[k]?)
  (hb:w'.heap[b]? =some (.cells #[.pointer (some ⟨b,0,none⟩),v] T (0,0))) (ho:(Mob.own 1 E v []).holds o w') (hn:∀k,o=some k->w.heap.size<=k/\k<w'.heap.size):
  Rel Z ((s.add (.arr E (.int .u8) [])).Mr i (.box T (.agg [.wp i, .own s.new]))) σs A (L.set i (.box b [.pointer (some ⟨b,0,none⟩),v] T)++[MD.own 1 E v []]) σ w':=by
 obtain⟨o1,⟨rfl,hbk⟩,h2,h3⟩:=(St.front hr (hr.Ex hL)).mobs;have hnb:∀k,A k->k≠b:=λk hk e=>(h2 b rfl).1 (e▸hk);have hi:=(List.getElem?_eq_some_iff.1 hL).1;have hlt:=(h2 b rfl).2;have same:∀k,A k->w'.heap[k]? =w.heap[k]? :=λk hk=>hs k (St.lt hr k hk) (hnb k hk);have hle1:RI L (L.set i (.box b [.pointer (some ⟨b,0,none⟩),v] T)):=RI.set hL (λs E v c e=>by cases e) (λb' e=>e);have hle:RI L (L.set i (MD.box b [.pointer (some ⟨b,0,none⟩),v] T)++[MD.own 1 E v []]):=⟨λj z E' u c h=>by
  obtain⟨z',E'',c',g⟩:=hle1.1 j z E' u c h;exact⟨z',E'',c',by rw[I9 (List.getElem?_eq_some_iff.1 g).1];exact g⟩,λj m b' h h'=>by
  obtain⟨m',g,g'⟩:=hle1.2 j m b' h h';exact⟨m',by rw[I9 (List.getElem?_eq_some_iff.1 g).1];exact g,g'⟩⟩
 have hnew:(L.set i (.box b [.pointer (some ⟨b,0,none⟩),v] T)++[MD.own 1 E v []])[L.length]? =some (.own 1 E v []):=by rw[SF F8];simp
 have fM:(L.set i (.box b [.pointer (some ⟨b,0,none⟩),v] T)++[MD.own 1 E v []])[i]? =some (.box b [.pointer (some ⟨b,0,none⟩),v] T):=by
  rw[I9 (by simpa using hi),U2 hi]
 have hm:=hr.mem;have AU:Cu w' A ((L.set i (.box b [.pointer (some ⟨b,0,none⟩),v] T)++[MD.own 1 E v []]).map MD.Ex):=by
  have h4:Cu w' (λk=>(A k\/some b=some k)\/w.heap.size<=k) ((L.map MD.Ex).eraseIdx i):=h3.lt.step hg.le λk hk hn=>hs k hk λe=>hn (.inl (.inr (by rw[e])));have h5:Cu w' A ((MD.own 1 E v []).Ex::(MD.box b [.pointer (some ⟨b,0,none⟩),v] T).Ex::(L.map MD.Ex).eraseIdx i):=by
   refine⟨o,ho,λk hk=>⟨λh=>?_,(hn k hk).2⟩,some b,⟨rfl,hb⟩,λk hk=>⟨λh=>?_,?_⟩,h4.Ii λk hk=>?_⟩
   ·have:=St.lt hr k h;have:=(hn k hk).1;omega
   ·cases hk;rcases h with h|h
    ·exact hnb _ h rfl
    ·have:=(hn _ h).1;omega
   ·cases hk;exact E5 hlt hg.le
   ·rcases hk with(hk|hk)|hk
    ·exact .inl (.inl hk)
    ·exact .inr (hn k hk).1
    ·exact .inl (.inr hk)
  refine h5.perm ?_;rw[Tx,VR];exact((List.Perm.cons _ (Ws (hr.Ex hL))).trans (eX (l₁:=[_])))
 refine Rel.as (L:=L.set i (.box b [.pointer (some ⟨b,0,none⟩),v] T)++[MD.own 1 E v []]) (F:=[.old Z.M Z.w0]) (i:=0) ⟨λk hk=>E5 (St.lt hr k hk) hg.le,λf hf=>?_,AU⟩ rfl ⟨⟨?_,λj a md h1 h2=>?_⟩,hm.sl.step (λ_ h=>h) (λk hk=>same k hk.1) hle,hm.stk.step (λ_ h=>h) (λk hk=>same k hk.1) hle⟩ rfl
 ·cases hf with
  |head=>exact Fact.step (.old Z.M Z.w0) (hr.fact 1 (f:= .old Z.M Z.w0) rfl) (λ_ h=>h) same hg
  |tail _ h=>cases h
 ·simp[S.Mr,S.add,LG,hm.it.1]
 ·simp only[S.Mr]at h1;rcases LA h1 with⟨rfl,rfl⟩|⟨h3,h4⟩
  ·rw[fM]at h2;cases h2;refine⟨rfl,[_],[_],rfl, .inr ⟨_,b,fM,rfl,rfl⟩,[_],[],rfl,⟨1,E,v,[],?_,rfl⟩,rfl⟩;rw[S.new,hr.len];exact hnew
  ·simp only[S.add]at h4;by_cases hj:j<s.it.length
   ·rw[I9 hj]at h4;have hjL:j<L.length:=by rw[<-hr.len];exact hj
    rw[I9 (by simpa using hjL),SZ (S? h3)]at h2;exact(hm.it.2 j a md h4 h2).step (λ_ h=>h) (λk hk=>same k hk.1) hle
   ·have hj':j=s.it.length:=by
     have:=(List.getElem?_eq_some_iff.1 h4).1;simp at this;omega
    subst hj';simp at h4;subst h4;rw[hr.len,hnew]at h2;cases h2;exact⟨rfl,rfl,rfl⟩
theorem Arv{m:Nat}{TB EB:TypeId}{f:Nat}{as:List PV}{k:S->PV->Option R}{vs:List Value}(hP:bQ P (.pr m TB EB) f)(h:gW m TB EB as s k=some r)(hr:Rel Z s σs A L σ w)(ha:Ek (λb=>A b/\Z.R b) w L as vs):
  Calls P f vs.toArray w λe w'=>∃v p s' A' L',e= .returned v/\k s' p=some r/\Rel Z s' σs A' L' σ w'/\p.isV=true/\Ef (λb=>A' b/\Z.R b) w' L' p v:=by
 unfold gW at h;split at h
 ·rename_i i;split at h
  ·rename_i T a v hi;have hh:=Aq h;clear h;obtain⟨hc,h⟩:=hh;simp only[A9]at hc;obtain⟨hT,hw⟩:=hc;obtain rfl:=Bn hT;obtain⟨b,cells,hL,henc⟩:=hr.mem.box hi;have hbk:=St.box hr (hr.Ex hL);obtain⟨v0,_,rfl,hp0,rfl⟩:=ha;have hv0:v0= .pointer (some ⟨b,0,none⟩):=by
    obtain⟨md,b',e1,e2,e3⟩:=(show Ba (λb=>A b/\Z.R b) w L (.ptr i []) [v0]from hp0);rw[hL]at e1;cases e1;cases e2;simpa [Au]using e3
   subst hv0;obtain⟨c1,c2',hcl,h1,c2,_,rfl,h2,rfl⟩:=(show Ba.go (λb=>A b/\Z.R b) w L [a,v] cells from henc);rw[F_]at hcl;have hp:∃p,c1=[p]/\ (p= .pointer none\/p= .pointer (some ⟨b,0,none⟩)):=by
    unfold isW at hw;split at hw
    ·split at hw
     ·exact⟨_,h1.1, .inl rfl⟩
     ·cases hw
    ·rename_i j;obtain rfl:=Bn hw;rcases h1 with h1|⟨md,b',e1,e2,e3⟩
     ·exact⟨_,h1, .inl rfl⟩
     ·rw[hL]at e1;cases e1;cases e2;exact⟨_,e3, .inr rfl⟩
    ·rename_i j q;simp only[A9,List.isEmpty_iff]at hw;obtain⟨hij,rfl⟩:=hw;obtain rfl:=Bn hij;obtain⟨md,b',e1,e2,e3⟩:=h1;rw[hL]at e1;cases e1;cases e2;exact⟨_,e3, .inr rfl⟩
    ·cases hw
   obtain⟨p,rfl,hp⟩:=hp;split at h
   ·
    have hh:=Aq h;clear h;obtain⟨hsz,h⟩:=hh;simp only[A9,O1]at hsz;have hlen:=h2.len;rw[Bn hsz.1]at hlen;obtain⟨u,rfl⟩:∃u,c2=[u]:=by match c2,hlen with|[u],_=>exact⟨u,rfl⟩
    subst hcl;refine(hP w b p u hbk hp).mono ?_;rintro e w' ⟨rfl,rfl⟩;have hle:RI L (L.set i (.box b [.pointer (some ⟨b,0,none⟩),u] T)):=RI.set hL (λs E v c e=>by cases e) (λb' e=>e);have hnA:¬A b:=(Cu.Y5 (St.mobs hr) (hr.Ex hL)).elim λo ho=>by
     obtain⟨⟨rfl,_⟩,ho2⟩:=ho;exact ho2 b rfl
    refine⟨_,_,_,A,_,rfl,h,Rel.change (St.jD (cells':=[.pointer (some ⟨b,0,none⟩),u]) hr (hr.Ex hL)) hL hle ⟨rfl,?_⟩,rfl,[],rfl,rfl⟩;exact⟨[_],[u],rfl, .inr ⟨_,b,U2 (List.getElem?_eq_some_iff.1 hL).1,rfl,rfl⟩,[u],[],rfl,Ba.step (λ_ h=>h) (λk hk=>Ahk (b:=b) λ(e:k=b)=>hnA (e▸hk.1)) hle h2,rfl⟩
   ·
    obtain⟨hr1,o1,g1,g2,g3⟩:=P3 hr hL;split at h
    ·obtain rfl:c2=[.slice none 0 0]:=h2;subst hcl;refine(hP w b p _ none [] hbk ⟨none,0,0,rfl,rfl,C4 _,λ_=>rfl,λ_=>rfl,λb h=>by cases h⟩ F8).mono ?_;rintro e w' ⟨rfl,hg,hs⟩;have hs':∀k,k<w.heap.size->w'.heap[k]? =w.heap[k]? :=λk hk=>hs k hk F8;exact⟨_,_,_,A,_,rfl,h,Rel.world hr1 (λk hk=>hs' k (St.lt hr1 k hk)) hg ((St.mobs hr1).step hg.le λk hk _=>hs' k hk),rfl,rfl⟩
    ·rename_i j;split at h
     ·rename_i E e l hj;split at h
      ·rename_i l;have hh:=Aq h;clear h;obtain⟨hE,h⟩:=hh;obtain rfl:=Bn hE;obtain⟨_,hok,h⟩:=Go.Lv.bind_some h;have hlen:l.length<=17179869184:=by
        unfold Gi at hok;split at hok
        ·rename_i hd;have hd':=UT hd;unfold Ad at hd';omega
        ·cases hok
       obtain⟨u,cs,hLj,hall⟩:=hr.mem.arr hj;have hij:i≠j:=λe=>by subst e;rw[hL]at hLj;cases hLj
       have Bbi:(L.set i .dead)[j]? =some (.own 1 E u cs):=by rw[SZ hij];exact hLj
       obtain⟨z,E',u',c',q1,q2⟩:=(show∃s E v c0,L[j]? =some (.own s E v c0)/\c2=[v]from h2);rw[hLj]at q1;cases q1;subst q2;obtain rfl:=Ao6 hall;subst hcl;obtain⟨hr2,o2,k1,k2,k3⟩:=P3 hr1 Bbi;refine(hP w b p u o2 l hbk k1 hlen).mono ?_;rintro e w' ⟨rfl,hg,hs⟩;refine⟨_,_,_,A,_,rfl,h,Rel.world hr2 (λk hk=>hs k (St.lt hr2 k hk) λe=>(k2 k e).1 hk) hg ((k3.step hg.le λk hk hn=>hs k hk λe=>hn (.inr e)).Ii λ_ h=> .inl h),rfl,rfl⟩
      ·cases h
     ·cases h
    ·cases h
   ·cases h
  ·cases h
 ·
  rename_i i n;split at h
  ·split at h
   ·rename_i T a hi;split at h
    ·have hh:=Aq h;clear h;obtain⟨hT,h⟩:=hh;obtain rfl:=Bn hT;obtain⟨_,hok,h⟩:=Go.Lv.bind_some h;have hn:0<=n/\n<=281474976710656:=by
      unfold Gi at hok;split at hok
      ·rename_i hd;exact UT hd
      ·cases hok
     obtain⟨b,cells,hL,henc⟩:=hr.mem.box hi;have hbk:=St.box hr (hr.Ex hL);obtain⟨v0,_,rfl,hp0,v1,_,rfl,hp1,rfl⟩:=ha;have hv0:v0= .pointer (some ⟨b,0,none⟩):=by
      obtain⟨md,b',e1,e2,e3⟩:=(show Ba (λb=>A b/\Z.R b) w L (.ptr i []) [v0]from hp0);rw[hL]at e1;cases e1;cases e2;simpa [Au]using e3
     subst hv0;obtain rfl:v1= .int .i64 n:=by cases(show [v1]=[.int .i64 n]from hp1);rfl
     obtain⟨c1,c2',hcl,h1,c2,_,rfl,h2,rfl⟩:=(show Ba.go (λb=>A b/\Z.R b) w L [.cst (.pointer none), .nils] cells from henc);obtain rfl:c1=[.pointer none]:=h1.1;obtain rfl:c2=[.slice none 0 0]:=h2;obtain rfl:cells=[.pointer none, .slice none 0 0]:=hcl;have hP':=hP w b (Int.toNat n) hbk (Int.toNat_le.2 hn.2);rw[Int.toNat_of_nonneg hn.1]at hP';refine hP'.mono ?_;rintro e w' ⟨rfl,hg,hs,v,o,q1,q2,q3⟩;exact⟨_,_,_,A,_,rfl,h,Ako hr hL hg hs q1 q2 q3,rfl,[],rfl,rfl⟩
    ·cases h
   ·cases h
  ·cases h
 ·cases h
theorem RV(HI:P.follows .mixedOrders=true)(hT:Sk P T){VK:List (Nat×An)}(hA:∀p∈VK,AnE P p):∀(q:Nat),Qi (R:=R) P T.gl (Xp P T q VK)
 |0=>λZ hZ f as s k r σs A L σ w vs h hr ha=>by cases h
 |q+1=>λZ hZ f as s k r σs A L σ w vs h hr ha=>by
  have hI:=RV HI hT hA q;unfold Xp at h;split at h
  ·rename_i an fn han hfn;have hmem:=Amh han;split at h
   ·exact⟨(hA _ hmem).1,Arv (hA _ hmem).2 h hr ha⟩
   split at h
   ·cases h
   ·rename_i c hc;obtain⟨hle,h⟩:=Aq h;refine⟨(hA _ hmem).1,?_⟩;have hr1:Rel Z ⟨Xh 0 as,s.it,s.sl::s.st⟩ (σ::σs) A L (QW vs) w:=
     Rel.as hr (i:=1) rfl ⟨hr.mem.it,jM ha (λi v hi=>by rw[K1];exact Anl hi),hr.mem.sl,hr.mem.stk⟩ rfl
    refine S4 (rs:=fn.results.toList) hfn hc rfl F8 (by rw[ha.length];exact hle) (W.mono (tQ HI ⟨hT,hZ⟩ hI c h hr1) ?_);rintro e σ' w' ⟨s',A',L',h1,hr'⟩;have fin:Xp.YK P fn.results.toList k s'=some r->∃us,bA P σ' w' fn.results.toList us/\∃v p s'' A'' L'',Ending.returned (GB us)= .returned v/\k s'' p=some r/\Rel Z s'' σs A'' L'' σ w'/\p.isV=true/\Ef (λb=>A'' b/\Z.R b) w' L'' p v:=by
     intro h1;unfold Xp.YK at h1;split at h1
     ·rename_i ps sl st hps hst;obtain⟨us,h2,h3⟩:=lS hr' hps;obtain⟨h4,h5⟩:=E? h3;have nJ:=hr'.mem.stk;rw[hst]at nJ;exact⟨us,h2,_,_,_,A',L',rfl,h1,Rel.as hr' (i:=1) rfl ⟨hr'.mem.it,nJ.1,nJ.2⟩ rfl,h4,h5⟩
     ·cases h1
    cases e with
    |normal=>exact⟨.inr rfl,fin h1⟩
    |ret=>exact⟨.inl rfl,fin h1⟩
    |exit id=>cases h1
    |goto l=>cases h1
    |panic c=>cases h1
    |outgrown=>cases h1
  ·cases h
end Go.Rx
namespace Go.Rx
open Go Go.Lv
variable{e:ET}{fn:Func}{o:Option TypeId}
variable {P:Program} {B B':Reg} {w w':World} {L L':List MD} {s:S} {σs:List Env} {σ:Env} {Z:Fix} {A A':Reg} {n:Nat} {ops:Array Oper}
variable {R:Type} {r:R} {T:Tab} {inl:fN R}
abbrev LS:=List (ET×Option TypeId)
def Ho:LS->List PV->Nat->List Nat
 |p::r,v::vs,c=>match p.2 with
  |none=>Ho r vs c
  |some _=>(match v with| .own i=>i|_=>c)::Ho r vs (c+1)
 |_,_,_=>[]
def UI:LS->List MD
 |p::r=>match p.2 with
  |none=>UI r
  |some E=>(match p.1 with| .list a=> .own a.size E (.slice none 0 0) []|_=> .dead)::UI r
 |[]=>[]
theorem Akb(h:Cu w A (L.map MD.Ex)):∀(ls:LS),Cu w A ((L++UI ls).map MD.Ex):=by
 have one:∀(m:MD) (ms:List MD),m.Ex.holds none w->Cu w A ((L++ms).map MD.Ex)->Cu w A ((L++m::ms).map MD.Ex):=by
  intro m ms hm h;have:Cu w A (m.Ex::(L++ms).map MD.Ex):=⟨none,hm,λb hb=>(by cases hb),h.Ii λb hb=>hb.elim id (λh=>by cases h)⟩;refine this.perm ?_;rw[Tx,Tx,IZ];exact(List.perm_middle).symm
 intro ls
 induction ls with
 |nil=>simpa [UI]using h
 |cons p ls ih=>
  obtain⟨e,o⟩:=p;cases o with
  |none=>exact ih
  |some E=>cases e<;>exact one _ _ (by first|exact pC|exact⟨none,0,0,rfl,F8,C4 _,λ_=>rfl,λ_=>rfl,λb h=>by cases h⟩) ih
theorem mH:∀{ls:LS} {vs:List PV} {seen:List Nat} {c:Nat},WO s ls vs seen=true->s.it.length<=c->distinct (Ho ls vs c)=true/\∀i∈Ho ls vs c,(i<s.it.length/\i∉seen)\/c<=i
 |[],[],_,_,_,_=>⟨rfl,by simp[Ho]⟩
 |[],_::_,_,_,h,_=>by simp[WO]at h
 |_::_,[],_,_,h,_=>by simp[WO]at h
 |(e,none)::ls,v::vs,seen,c,h,hc=>by
  simp only[WO,A9]at h;exact mH (ls:=ls) (vs:=vs) (seen:=seen) (c:=c) h.2 hc
 |(e,some E)::ls,v::vs,seen,c,h,hc=>by
  simp only[WO]at h;split at h
  ·obtain⟨h1,h2⟩:=mH h (c:=c+1) F0;refine⟨?_,λi hi=>?_⟩
   ·simp only[Ho,distinct,A9,O1];refine⟨?_,h1⟩;cases hx:Wy c (Ho ls vs (c+1))with
    |false=>rfl
    |true=>rcases h2 c (AP.1 hx)with⟨h3,_⟩|h3<;>omega
   ·simp only[Ho,VQ]at hi;rcases hi with rfl|hi
    ·exact .inr (C4 _)
    ·rcases h2 i hi with h3|h3
     ·exact .inl h3
     ·exact .inr F0
  ·rename_i a i;simp only[A9,O1]at h;obtain⟨⟨h0,hit⟩,h⟩:=h;have hlt:i<s.it.length:=by
    split at hit
    ·rename_i E' a' l hi;exact(List.getElem?_eq_some_iff.1 (oV hi (by intro e;cases e))).1
    ·cases hit
   obtain⟨h1,h2⟩:=mH h (c:=c+1) F0;refine⟨?_,λj hj=>?_⟩
   ·simp only[Ho,distinct,A9,O1];refine⟨?_,h1⟩;cases hx:Wy i (Ho ls vs (c+1))with
    |false=>rfl
    |true=>
     rcases h2 i (AP.1 hx)with⟨_,h3⟩|h3
     ·exact absurd (KM) h3
     ·omega
   ·simp only[Ho,VQ]at hj;rcases hj with rfl|hj
    ·exact .inl ⟨hlt,λhm=>by have:=AP.2 hm;rw[h0]at this;cases this⟩
    ·rcases h2 j hj with⟨h3,h4⟩|h3
     ·exact .inl ⟨h3,λhm=>h4 (H9 _ hm)⟩
     ·exact .inr F0
  ·cases h
theorem Arf{q:PV}{x:e.T}(hr:Rel Z s σs A L σ w)(h:jZ s e q=some x)(ho:owns q=[])(hb:e.X3=true->∀b,A b/\Z.R b->B' b){L':List MD}:dS (λb=>A b/\Z.R b) w L B' w L' q (.val e x):=by
 obtain⟨h1,h2⟩:=G? (L':=L') hr h (B':=λb=>A b/\Z.R b) (λ_ h=>h) (λi hi=>by rw[ho]at hi;cases hi);refine⟨h1,λcs hcs=>?_⟩;have h3:Ax (λb=>A b/\Z.R b) w e x cs:=h2 cs hcs;cases hl:e.X3 with
 |true=>exact Ax.step (hb hl) (λ_ _=>rfl) h3
 |false=>exact Ax.noL hl h3
theorem Aq7{l:List e.T}{cs:List Value}(hb:e.X3=true->∀b,B b->B' b)(h:Cj (Ax B w e) l cs):Cj (Ax B' w e) l cs:=by
 cases hl:e.X3 with
 |true=>exact h.mono λx c hx=>Ax.step (hb hl) (λ_ _=>rfl) hx
 |false=>exact h.mono λx c hx=>Ax.noL hl hx
theorem Ab3(hr:Rel Z s σs A L σ w){LP:List MD}(hP:∀(i:Nat) (m:MD),L[i]? =some m->LP[i]? =some m):∀(ls:LS) (vs:List PV) (y:Zb ls) (seen:List Nat) (c:Nat) (s0:S) (Lx LF:List MD),
  WO s ls vs seen=true->LW s ls vs=some y-> (∀p∈ls,jl p=true->∀b,A b/\Z.R b->B' b)-> (∀i m,(UI ls)[i]? =some m->LP[c+i]? =some m)->Lx.length=s0.it.length->LF=Lx++(Ho ls vs c).map (λi=>LP.getD i .dead)->
  ∃its,(Es ls y s0).2=⟨s0.sl,s0.it++its,s0.st⟩/\its.length=(Ho ls vs c).length/\All2 (dS (λb=>A b/\Z.R b) w L B' w LF) vs (Es ls y s0).1/\
   ∀(i:Nat) (a:Item) (m:MD),its[i]? =some a-> ((Ho ls vs c).map (λi=>LP.getD i .dead))[i]? =some m->Xo B' w LF a m
 |[],vs,y,seen,c,s0,Lx,LF,ho,hp,_,_,_,_=>by
  rw[Q! hp];refine⟨[],?_,rfl,All2.nil,λi a m h=>by simp at h⟩;rw[Aas];simp
 |p::ls,vs,y,seen,c,s0,Lx,LF,ho,hp,hb,hn,hlen,hLF=>by
  have main:∀(v:PV) (vs':List PV) (x:p.1.T) (rest:S->List PV×S),vs=v::vs'->jZ s p.1 v=some x->
    (Es (p::ls) y s0=((Ff p.1 p.2 x s0).1::(rest (Ff p.1 p.2 x s0).2).1,(rest (Ff p.1 p.2 x s0).2).2))->
    (∀(seen:List Nat) (c:Nat) (s1:S) (Lx:List MD),WO s ls vs' seen=true-> (∀i m,(UI ls)[i]? =some m->LP[c+i]? =some m)->Lx.length=s1.it.length->LF=Lx++(Ho ls vs' c).map (λi=>LP.getD i .dead)->
     ∃its,(rest s1).2=⟨s1.sl,s1.it++its,s1.st⟩/\its.length=(Ho ls vs' c).length/\All2 (dS (λb=>A b/\Z.R b) w L B' w LF) vs' (rest s1).1/\
      ∀(i:Nat) (a:Item) (m:MD),its[i]? =some a-> ((Ho ls vs' c).map (λi=>LP.getD i .dead))[i]? =some m->Xo B' w LF a m)->
    ∃its,(Es (p::ls) y s0).2=⟨s0.sl,s0.it++its,s0.st⟩/\its.length=(Ho (p::ls) vs c).length/\All2 (dS (λb=>A b/\Z.R b) w L B' w LF) vs (Es (p::ls) y s0).1/\
     ∀(i:Nat) (a:Item) (m:MD),its[i]? =some a-> ((Ho (p::ls) vs c).map (λi=>LP.getD i .dead))[i]? =some m->Xo B' w LF a m:=by
   intro v vs' x rest hvs hx hu hrest;subst hvs;rw[hu];have hbp:=hb p (.head _);obtain⟨e,o⟩:=p;cases o with
   |none=>
    simp only[WO,A9]at ho;have e1:Ff e none x s0=(.val e x,s0):=rN;simp only[e1];obtain⟨its,h1,h2,h3,h4⟩:=hrest seen c s0 Lx ho.2 hn hlen hLF;refine⟨its,h1,h2, .cons (Arf hr hx (isEmpty_nil ho.1) (λhl=>hbp ?_)) h3,h4⟩;cases e<;>first|exact hl|cases hl
   |some E=>
    simp only[WO]at ho;split at ho
    ·
     rename_i a;have hx':x=[]:=by
      have:elems s a .nils=some x:=hx;simpa [elems]using this.symm
     subst hx';have hc:LP[c]? =some (.own a.size E (.slice none 0 0) []):=hn 0 _ rfl;have e1:Ff (.list a) (some E) [] s0=(.own s0.new,s0.add (.arr E a [])):=rfl;simp only[e1];obtain⟨its,h1,h2,h3,h4⟩:=hrest seen (c+1) (s0.add (.arr E a [])) (Lx++[.own a.size E (.slice none 0 0) []]) ho (λi m hi=>by rw[K7,VF 1 i];exact hn (i+1) m (by simpa [UI]using hi))
      (by simp[S.add,hlen]) (by rw[hLF];simp[Ho,B4,hc])
     refine⟨.arr E a []::its,by rw[h1];simp[S.add],by simp[Ho,h2], .cons ⟨rfl,λcs hcs=>?_⟩ h3,λi b m hi hm=>?_⟩
     ·refine⟨a.size,E, .slice none 0 0,[],?_,hcs⟩;rw[hLF,S.new,<-hlen];simp[Ho,B4,hc]
     ·cases i with
      |zero=>
       simp[Ho,B4,hc]at hi hm;subst hi hm;exact⟨rfl,rfl,rfl⟩
      |succ i=>exact h4 i b m (by simpa using hi) (by simpa [Ho]using hm)
    ·
     rename_i a i;simp only[A9,O1]at ho;obtain⟨⟨h0,hit⟩,ho⟩:=ho;split at hit
     ·rename_i E' a' l hi;simp only[A9,B2]at hit;obtain⟨hE,rfl⟩:=hit;have:=Bn hE;subst this;obtain⟨u,cs0,g1,g2⟩:=hr.mem.arr hi;have hx':x=l:=by
       have:elems s a' (.own i)=some x:=hx;simp[elems,hi]at this;exact this.symm
      subst hx';have hc:LP[i]? =some (.own a'.size E' u cs0):=hP i _ g1;have e1:Ff (.list a') (some E') x s0=(.own s0.new,s0.add (.arr E' a' x)):=rfl;simp only[e1];obtain⟨its,h1,h2,h3,h4⟩:=hrest (i::seen) (c+1) (s0.add (.arr E' a' x)) (Lx++[.own a'.size E' u cs0]) ho (λi m hi=>by rw[K7,VF 1 i];exact hn (i+1) m (by simpa [UI]using hi))
       (by simp[S.add,hlen]) (by rw[hLF];simp[Ho,B4,hc])
      refine⟨.arr E' a' x::its,by rw[h1];simp[S.add],by simp[Ho,h2], .cons ⟨rfl,λcs hcs=>?_⟩ h3,λq b m hq hm=>?_⟩
      ·obtain⟨z,E2,v2,c2,k1,k2⟩:=hcs;rw[g1]at k1;cases k1;refine⟨a'.size,E',u,cs0,?_,k2⟩;rw[hLF,S.new,<-hlen];simp[Ho,B4,hc]
      ·cases q with
       |zero=>
        simp[Ho,B4,hc]at hq hm;subst hq hm;exact⟨rfl,rfl,Aq7 hbp g2⟩
       |succ q=>exact h4 q b m (by simpa using hq) (by simpa [Ho]using hm)
     ·cases hit
    ·cases ho
  cases ls with
  |nil=>
   obtain⟨v,rfl,hx⟩:=Ad1 hp;exact main v [] y (λs1=>([],s1)) rfl hx (aS p y s0) (λseen c s1 Lx _ _ hlen hLF=>⟨[],F8,rfl,All2.nil,λi a m h=>by simp at h⟩)
  |cons q r=>
   obtain⟨v,vs',x,y',rfl,rfl,hx,hy⟩:=Ajz hp;exact main v vs' x (λs1=>Es (q::r) y' s1) rfl hx (SP p q r x y' s0)
    (λseen c s1 Lx ho hn hlen hLF=>Ab3 hr hP (q::r) vs' y' seen c s1 Lx LF ho hy (λp hp=>hb p (.tail _ hp)) hn hlen hLF)
theorem Yx{e:ET}{x:e.T}{cs:List Value}(h:Ax B w e x cs):Ax (λb=>b<w.heap.size/\B b) w e x cs:=
 match e,x,h with
 | .int _,_,h=>h
 | .bool,_,h=>h
 | .str,_,h=>h
 | .list _,_,⟨v,c0,h1,h2,h3⟩=>⟨v,c0,h1,h2.start,h3.mono λ_ _ h=>Yx h⟩
 | .vec _ _,_,⟨h1,h2⟩=>⟨h1,h2.mono λ_ _ h=>Yx h⟩
 | .cons _ _,_,⟨c1,c2,e,h1,h2⟩=>⟨c1,c2,e,Yx h1,Yx h2⟩
 | .nil,_,h=>h
def Da:PV->Bool
 | .val _ _=>true
 | .own _=>true
 | .agg l=>go l
 |_=>false
where go:List PV->Bool
 |[]=>true
 |a::r=>Da a&&go r
mutual
theorem Aln:∀{p:PV} {cs:List Value},Da p=true->Ba B w L p cs->Ba (λb=>b<w.heap.size/\B b) w L p cs
 | .val e x,cs,_,h=>Yx (show Ax B w e x cs from h)
 | .own i,cs,_,h=>h
 | .agg l,cs,hv,h=>G1 hv (show Ba.go B w L l cs from h)
 | .tup _,_,hv,_=>by cases hv
 | .nils,_,hv,_=>by cases hv
 | .ptr _ _,_,hv,_=>by cases hv
 | .wp _,_,hv,_=>by cases hv
 | .view _ _ _ _ _ _,_,hv,_=>by cases hv
 | .rptr _,_,hv,_=>by cases hv
 | .fn _ _,_,hv,_=>by cases hv
 | .cap _ _ _,_,hv,_=>by cases hv
 | .mp _ _ _,_,hv,_=>by cases hv
 | .bfn _ _,_,hv,_=>by cases hv
 | .cst _,_,hv,_=>by cases hv
 | .any,_,hv,_=>by cases hv
 | .gd _ _ _,_,hv,_=>by cases hv
 | .off,_,hv,_=>by cases hv
 | .undef,_,hv,_=>by cases hv
theorem G1:∀{l:List PV} {cs:List Value},Da.go l=true->Ba.go B w L l cs->Ba.go (λb=>b<w.heap.size/\B b) w L l cs
 |[],cs,_,h=>h
 |a::l,cs,hv,⟨c1,c2,e,h1,h2⟩=>by
  simp only[Da.go,A9]at hv;exact⟨c1,c2,e,Aln hv.1 h1,G1 hv.2 h2⟩
end
theorem G7:∀{l:List PV} {vs:List Value},Da.go l=true->Ek B w L l vs->Ek (λb=>b<w.heap.size/\B b) w L l vs
 |[],vs,_,h=>h
 |a::l,vs,hv,⟨v,vs',e,h1,h2⟩=>by
  simp only[Da.go,A9]at hv;exact⟨v,vs',e,h1.mono λc h=>Aln hv.1 h,G7 hv.2 h2⟩
theorem Aui{x:e.T}{s0:S}:Da (Ff e o x s0).1=true:=by
 unfold Ff;split<;>rfl
theorem Aua{x:e.T}{s0:S}(h:∀a∈s0.it,∃E e' l,a= .arr E e' l):∀a∈(Ff e o x s0).2.it,∃E e' l,a= .arr E e' l:=by
 unfold Ff;split
 ·intro a ha;simp only[S.add,fC,f?]at ha;rcases ha with ha|ha
  ·exact h a ha
  ·exact⟨_,_,_,ha⟩
 ·exact h
theorem O6:∀(ls:LS) (x:Zb ls) (s0:S),Da.go (Es ls x s0).1=true
 |[],x,s0=>rfl
 |[p],x,s0=>by
  rw[aS];have h1:Da (Ff p.1 p.2 x s0).1=true:=Aui;simp only[Da.go,h1];rfl
 |p::q::r,(x,y),s0=>by
  rw[SP];have h1:Da (Ff p.1 p.2 x s0).1=true:=Aui;simp only[Da.go,h1,O6 (q::r) y _];rfl
theorem S7:∀(ls:LS) (x:Zb ls) (s0:S),(∀a∈s0.it,∃E e' l,a= .arr E e' l)->∀a∈(Es ls x s0).2.it,∃E e' l,a= .arr E e' l
 |[],x,s0,h=>h
 |[p],x,s0,h=>by rw[aS];exact Aua h
 |p::q::r,(x,y),s0,h=>by rw[SP];exact S7 (q::r) y _ (Aua h)
mutual
theorem Ah4:∀{sh:Sh} {vs r:List PV} {u:PV},Rk sh vs=some (u,r)->Da.go vs=true->Da u=true/\Da.go r=true
 | .lf e o,v::vs,r,u,h,hv=>by
  simp only[Rk,HN,SO]at h;obtain⟨rfl,rfl⟩:=h;simpa [Da.go]using hv
 | .lf e o,[],r,u,h,hv=>by simp[Rk]at h
 | .agg l,vs,r,u,h,hv=>by
  simp only[Rk]at h;split at h
  ·rename_i us r' h1;cases h;exact pW h1 hv
  ·cases h
theorem pW:∀{l:List Sh} {vs r us:List PV},Rk.go l vs=some (us,r)->Da.go vs=true->Da.go us=true/\Da.go r=true
 |[],vs,r,us,h,hv=>by
  simp only[Rk.go,HN,SO]at h;obtain⟨rfl,rfl⟩:=h;exact⟨rfl,hv⟩
 |a::l,vs,r,us,h,hv=>by
  simp only[Rk.go]at h;split at h
  ·rename_i u vs' h1;split at h
   ·rename_i us' vs'' h2;cases h;obtain⟨g1,g2⟩:=Ah4 h1 hv;obtain⟨g3,g4⟩:=pW h2 g2;exact⟨by simp[Da.go,g1,g3],g4⟩
   ·cases h
  ·cases h
end
theorem Al2{rs:List Sh}{p:ET×Option TypeId}(hp:p∈Qo rs)(h:jl p=true):eG rs=true:=by
 unfold eG;exact List.any_eq_true.2 ⟨p,hp,h⟩
theorem KI{f:Nat}{ps rs:List Sh}{F:Zb (Qo ps)->Option (Zb (Qo rs))}{RUN:S->Option (Zb (Qo rs))}(hE:Ent P f)
  (hrun:∀x y pvs,args ps x=some pvs->F x=some y->RUN ⟨Xh 0 pvs,f_ ps x,[]⟩=some y)
  (Axf:∀(Z:Fix) (A:Reg) (L:List MD) (w:World) (s:S) (y:Zb (Qo rs)) (vs:List Value) (Q:Ending->World->Prop),Z.gl=T.gl->Rel Z s [] A L (QW vs) w->vs.length=ps.length->RUN s=some y->
   (∀s' A' L' σ' w',nI P rs fn.results.toList s'=some y->Rel Z s' [] A' L' σ' w'->∃us,bA P σ' w' fn.results.toList us/\Q (.returned (GB us)) w')->Calls P f vs.toArray w Q):ConOk P T.gl f ⟨ps,rs,F⟩:=by
 refine⟨hE,λR N w L0 vs pvs x y hx Azw eL Azx hvs hgl hy=>?_⟩;have hx':args ps x=some pvs:=hx;have hy':=hrun x y pvs hx' hy
 ·let Z:Fix:=⟨λb=>((R b/\N b)\/∃p∈T.gl,p.1=b)\/ ¬N b\/w.heap.size<=b,λb=>¬N b,w,λb hb=> .inr (.inr hb),λb hb=> .inr (.inl hb),T.gl,λp hp=>⟨.inl (.inr ⟨p,hp,rfl⟩),λh=>h (hgl p hp).2.1,(hgl p hp).1,(hgl p hp).2.2⟩⟩
  have hval:Da.go pvs=true:=by
   unfold args iK at hx';split at hx'
   ·rename_i us hs;cases hx';exact(pW hs (O6 _ _ _)).1
   ·cases hx'
  have Bbj:Ek (λb=>(b<w.heap.size/\N b)/\Z.R b) w L0 pvs vs:=Ek.step (λb hb=>⟨⟨hb.1,hb.2.2⟩, .inl (.inl hb.2)⟩) (λ_ _=>rfl) (.refl L0) (G7 hval hvs);have hst:St (λb=>b<w.heap.size/\N b) w [.old Z.M Z.w0] (L0.map MD.Ex):=by
   refine⟨λb hb=>hb.1,λf hf=>?_,Azx.Ii λb hb=>hb.2⟩;cases hf with
   |head=>exact⟨.refl _,λb hb hM=>⟨⟨hb,Classical.not_not.1 hM⟩,rfl⟩⟩
   |tail _ h=>cases h
  have hr:Rel Z ⟨Xh 0 pvs,f_ ps x,[]⟩ [] (λb=>b<w.heap.size/\N b) L0 (QW vs) w:=
   Rel.as (L:=L0) hst (i:=0) rfl ⟨⟨Azw,λi a m h1 h2=>by
    have h3:=eL i a m h1 h2;obtain⟨E,e',l,rfl⟩:=S7 (Qo ps) x ⟨[],[],[]⟩ F8 a (UH h1);cases m with
    |dead=>exact h3
    |box _ _ _=>exact h3
    |own z E2 v2 c2=>exact⟨h3.1,h3.2.1,h3.2.2.mono λx c h=>Ax.step (λb hb=>⟨⟨hb.1,hb.2.2⟩, .inl (.inl hb.2)⟩) (λ_ _=>rfl) (Yx h)⟩⟩,
    jM Bbj (λi v hi=>by rw[K1];exact Anl hi),trivial⟩ rfl
  have hlen:vs.length=pvs.length:=hvs.length;have hpl:pvs.length=ps.length:=by
   unfold args iK at hx';split at hx'
   ·rename_i us hs;cases hx';have key:∀(l:List Sh) (vs r us:List PV),Rk.go l vs=some (us,r)->us.length=l.length:=by
     intro l
     induction l with
     |nil=>intro vs r us h;simp only[Rk.go,HN,SO]at h;obtain⟨rfl,_⟩:=h;rfl
     |cons a l ih=>
      intro vs r us h;simp only[Rk.go]at h;split at h
      ·split at h
       ·rename_i h2;cases h;simp[ih _ _ _ h2]
       ·cases h
      ·cases h
    exact key _ _ _ _ hs
   ·cases hx'
  refine Axf Z _ _ w _ y vs _ rfl hr (hlen.trans hpl) hy' ?_;intro s' A' L' σ' w' h1 hr';have fin:nI P rs fn.results.toList s'=some y->∃us,bA P σ' w' fn.results.toList us/\∃us',Ending.returned (GB us)= .returned (GB us')/\jV T.gl R N w w' rs y us':=by
   intro h1;unfold nI at h1;split at h1
   ·cases h1
   ·rename_i ls0 zK;split at h1
    ·cases h1
    ·rename_i s1 hs1;obtain⟨A1,L1,hr1,_⟩:=Qr hr' hs1;split at h1
     ·rename_i ls hls;obtain⟨ho,h1⟩:=Aq h1;unfold lF at hls;split at hls
      ·rename_i vs1 Bbk;obtain⟨us,hus,huv⟩:=lS hr1 Bbk;refine⟨us,hus,us,rfl,?_⟩;have hold:=hr1.fact 1 (f:= .old Z.M Z.w0) rfl;have hA:∀b,b<w.heap.size->N b->A1 b:=λb hb hN=>(hold.2 b hb (λh=>h hN)).1;have hkeep:KeepN N w w':=⟨λb hb hN=>(hold.2 b hb (λh=>h hN)).2,hold.1⟩;have AU:=Akb (St.mobs hr1) (Qo rs);obtain⟨hd,hidx⟩:=mH (s:=s1) (c:=L1.length) ho (by rw[hr1.len];exact C4 _);refine⟨hkeep,λb=>A1 b/\ (¬N b\/w.heap.size<=b),(Ho (Qo rs) ls L1.length).map (λi=>(L1++UI (Qo rs)).getD i .dead),λb hb=>⟨hb.2,St.lt hr1 b hb.1⟩,?_,?_⟩
       ·refine(Anb AU hd).Ii ?_;rintro b (hb|hb)
        ·exact hb.1
        ·exact hA b hb.1 hb.2
       ·intro s0 L0 B' hL0 hB1 hB2;obtain⟨its,g1,g2,g3,g4⟩:=Ab3 hr1 (B':=B') (LP:=L1++UI (Qo rs)) (λi m hi=>by rw[I9 (List.getElem?_eq_some_iff.1 hi).1];exact hi) (Qo rs) ls y [] L1.length s0 L0 _ ho h1
         (λp hp hl b hb=>by
          rcases hb.2 with hR|hN
          ·exact hB2 (Al2 hp hl) b hR
          ·exact hB1 b ⟨hb.1,hN⟩)
         (λi m hi=>by rw[SF F0,YM];exact hi) hL0 rfl
        obtain⟨ps',g5,g6⟩:=Ann hls huv g3;exact⟨ps',its,g1,g5,g6,by rw[g2];simp,g4⟩
      ·cases hls
     ·cases h1
  obtain⟨us,k1,us',k2,k3⟩:=fin h1;exact⟨us,k1,us',k2,k3⟩
theorem Adv(HI:P.follows .mixedOrders=true){f:Nat}{VK:List (Nat×An)}{an:An}{ps rs:List Sh}{F:Zb (Qo ps)->Option (Zb (Qo rs))}(hf:P.funcs[f]? =some fn)(hE:Ent P f)(hT:Sk P T)(hA:∀p∈VK,AnE P p)
  (hle:Nat.ble ps.length fn.ntmps=true) (h:∀x,run P T VK fn an ps rs x=F x):ConOk P T.gl f ⟨ps,rs,F⟩:=by
 cases hc:fn.body with
 |none=>
  refine KI (RUN:=λ_=>none) (fn:=fn) hE (λx y pvs hx hy=>?_) (λ_ _ _ _ _ _ _ _ _ _ _ h=>by cases h);rw[<-h x]at hy;unfold run at hy;rw[hc]at hy;exact hy
 |some c=>
  refine KI (T:=T) (fn:=fn) (RUN:=ex P T (Xp P T 8 VK) fn.ntmps c an {n:=nI P rs fn.results.toList,x:=λ_ _=>none,r:=nI P rs fn.results.toList}) hE (λx y pvs hx hy=>?_) ?_
  ·rw[<-h x]at hy;unfold run at hy;rw[hc,hx]at hy;exact hy
  ·intro Z A L w s y vs Q hZ hr hl hy fin;refine S4 (rs:=fn.results.toList) hf hc rfl F8 (by rw[hl];exact hle) (W.mono (tQ HI ⟨hT,hZ⟩ (RV HI hT hA 8) c hy hr) ?_);rintro e σ' w' ⟨s',A',L',h1,hr'⟩;cases e with
   |normal=>exact⟨.inr rfl,fin s' A' L' σ' w' h1 hr'⟩
   |ret=>exact⟨.inl rfl,fin s' A' L' σ' w' h1 hr'⟩
   |exit id=>cases h1
   |goto l=>cases h1
   |panic c=>cases h1
   |outgrown=>cases h1
end Go.Rx
namespace Go.Rx
open Go Go.Lv
structure Pt (R:Type)where
 q:Nat
 n:Nat
 c:Code
 an:An
 k:K R
inductive PS (R:Type)|l|r|d|lp (kn:S->Option R)|call (i f:Nat)|dcall (i f fuel:Nat) (z listed:Array Bool)
def iN(f:Func):Code:=match f.body with|some c=>c|none=> .skip
variable {R:Type}
noncomputable def Pt.e(P:Program)(T:Tab)(VK:List (Nat×An))(p:Pt R)(s:S):Option R:=match p.c with
 | .loop _=>ex P T (Xp P T p.q VK) p.n p.c p.an p.k s
 |_=>hold (λs=>ex P T (Xp P T p.q VK) p.n p.c p.an p.k s) s
noncomputable def Pt.it(P:Program)(T:Tab)(VK:List (Nat×An))(p:Pt R)(q:Nat)(s:S):Option R:=match p.c with
 | .loop a=>iter p.an (λkn s'=>ex P T (Xp P T p.q VK) p.n a p.an.l {p.k with n:=kn} s') q s
 |_=>none
noncomputable def Pt.step(P:Program)(T:Tab)(VK:List (Nat×An))(p:Pt R):PS R->Pt R
 | .l=>match p.c with
  | .seq a b=>⟨p.q,p.n,a,p.an.l,{p.k with n:=Q0 p.an λs'=>ex P T (Xp P T p.q VK) p.n b p.an.r p.k s'}⟩
  | .cond _ a _=>⟨p.q,p.n,a,p.an.l,p.k⟩
  |_=>p
 | .r=>match p.c with
  | .seq _ b=>⟨p.q,p.n,b,p.an.r,p.k⟩
  | .cond _ _ b=>⟨p.q,p.n,b,p.an.r,p.k⟩
  |_=>p
 | .d=>match p.c with
  | .block id a=>⟨p.q,p.n,a,p.an.l,{p.k with x:=λid' s'=>Cp (Nat.beq id' id) (p.k.n s')<|p.k.x id' s'}⟩
  |_=>p
 | .lp kn=>match p.c with
  | .loop a=>⟨p.q,p.n,a,p.an.l,{p.k with n:=RY p.an kn}⟩
  |_=>p
 | .call i f=>match p.c,p.q,P.funcs[f]?,Xp.X7 VK f with
  | .region _ ops false,q+1,some fn,some an=>
   let fin:=Xp.YK P fn.results.toList λs v=>SA P T (O_ p.an (Xp P T (q+1) VK)) p.n ops (ops.toList.drop (i+1)) (s.Gc ((ops[i]?).bind (·.dst)) v) p.k.n
   ⟨q,fn.ntmps,iN fn,an,{n:=fin,x:=λ_ _=>none,r:=fin}⟩
  |_,_,_,_=>p
 | .dcall i f fuel z listed=>match p.c,p.q,P.funcs[f]?,Xp.X7 VK f with
  | .region _ ops true,q+1,some fn,some an=>
   let fin:=Xp.YK P fn.results.toList λs v=>QX P T (O_ p.an (Xp P T (q+1) VK)) p.n (wM p.an) ops fuel z listed (s.Gc ((ops[i]?).bind (·.dst)) v) p.k.n
   ⟨q,fn.ntmps,iN fn,an,{n:=fin,x:=λ_ _=>none,r:=fin}⟩
  |_,_,_,_=>p
noncomputable def Pt.at(P:Program)(T:Tab)(VK:List (Nat×An)):Pt R->List (PS R)->Pt R
 |p,[]=>p
 |p,x::l=>Pt.at P T VK (p.step P T VK x) l
noncomputable def Pt.root(P:Program)(fn:Func)(an:An)(rs:List Sh):Pt (Zb (Qo rs)):=
 ⟨8,fn.ntmps,iN fn,an,{n:=nI P rs fn.results.toList,x:=λ_ _=>none,r:=nI P rs fn.results.toList}⟩
noncomputable def PE(P:Program)(T:Tab)(VK:List (Nat×An))(fn:Func)(an:An)(rs:List Sh)(l:List (PS (Zb (Qo rs))))(s:S):Option (Zb (Qo rs)):=(Pt.at P T VK (Pt.root P fn an rs) l).e P T VK s
noncomputable def PI(P:Program)(T:Tab)(VK:List (Nat×An))(fn:Func)(an:An)(rs:List Sh)(l:List (PS (Zb (Qo rs))))(q:Nat)(s:S):Option (Zb (Qo rs)):=(Pt.at P T VK (Pt.root P fn an rs) l).it P T VK q s
theorem Acg(a:Option R):both a [a,a]=a:=by simp[both]
theorem M7(a:Option R):both a [a,a,a]=a:=by simp[both]
end Go.Rx
namespace Go.Rx
open Go Go.Lv
variable{a:An}{vw cp:Bool}{g:Nat}{P:Program}
theorem ConOk.mono{P:Program}{gl gl':List (Nat×List Value)}{f:Nat}{c:Con}(h:ConOk P gl f c)(hs:gl.Sublist gl'):ConOk P gl' f c:=by
 refine⟨h.ent,λR N w L0 vs ps x y h1 h2 h3 h4 h5 h6 h7=>(h.ok R N w L0 vs ps x y h1 h2 h3 h4 h5 (λp hp=>h6 p (hs.subset hp)) h7).mono ?_⟩;rintro e w' ⟨us,he,hk,A1,L1,g1,g2,g3⟩;exact⟨us,he,hk,A1,L1,g1,g2,λs L B' k1 k2 k3=>g3 s L B' k1 k2 λhr b hb=>k3 hr b (hb.imp id λ⟨p,hp,he⟩=>⟨p,hs.subset hp,he⟩)⟩
theorem Sk.nil{gl:List (Nat×List Value)}:Sk P ⟨[],gl,vw,cp⟩:=λf c h=>by cases h
theorem Sk.cons{c:Con}{r:List (Nat×Con)}{gl:List (Nat×List Value)}(h:ConOk P gl g c)(hr:Sk P ⟨r,gl,vw,cp⟩):Sk P ⟨(g,c)::r,gl,vw,cp⟩:=λf c' h'=>by
 simp only[Tab.get,lG]at h';cases hb:Nat.beq g f with
 |true=>
  rw[hb]at h';have:=Bn hb;subst this;cases h';exact h
 |false=>rw[hb]at h';exact hr f c' h'
theorem Is.nil:∀p∈([]:List (Nat×An)),AnE P p:=by simp
theorem Is.cons{r:List (Nat×An)}(h:Ent P g)(hr:∀p∈r,AnE P p)(hp:bQ P a g:=by exact trivial):∀p∈(g,a)::r,AnE P p:=by
 intro p hp';rcases List.mem_cons.1 hp' with rfl|hp'
 ·exact⟨h,hp⟩
 ·exact hr p hp'
def yQ:An->Bool| .pr _ _ _=>false|_=>true
theorem Asn{f:Nat}(h:yQ a=true):bQ P a f:=by cases a<;>first|trivial|cases h
end Go.Rx
namespace Go.Rx
variable {R α:Type}
theorem Gu{a b c:Option R}(h:a=c)(h1:b=c):both a [b]=c:=by subst h;subst h1;exact wJ _
theorem Gm{a b d c:Option R}(h:a=c)(h1:b=c)(h2:d=c):both a [b,d]=c:=by subst h;subst h1;subst h2;exact Acg _
theorem Gs{a b d e c:Option R}(h:a=c)(h1:b=c)(h2:d=c)(h3:e=c):both a [b,d,e]=c:=by subst h;subst h1;subst h2;subst h3;exact M7 _
theorem Jj{l:List α}{a b c:Option R}(h:l=[]->a=c)(h1:b=c):G5 l a b=c:=by subst h1;exact Ar0 h
theorem Jm{o:Option α}{f g:α->Option R}(h:∀x,f x=g x):Option.bind o f=Option.bind o g:=by rw[funext h]
theorem Ea{o:Option α}{f:α->Option R}{t:Option R}(h:o=none->none=t)(h1:∀x,o=some x->f x=t):Option.bind o f=t:=by
 cases o with
 |none=>exact h rfl
 |some x=>exact h1 x rfl
theorem Ji(f:α->Option R):Option.bind none f=none:=rfl
theorem Di(x:α)(f:α->Option R):Option.bind (some x) f=f x:=rfl
theorem De(o:Option α):Option.bind o (λ_=>(none:Option R))=none:=by cases o<;>rfl
theorem Nw{c:Prop} [Decidable c]{a b a' b':Option R}(h:c->a=a')(h1:¬c->b=b'):(if c then a else b)=if c then a' else b':=by
 by_cases hc:c
 ·rw[A7 hc,A7 hc];exact h hc
 ·rw[A4 hc,A4 hc];exact h1 hc
theorem Ew{c:Prop} [Decidable c]{a b t:Option R}(h:c->a=t)(h1:¬c->b=t):(if c then a else b)=t:=by
 by_cases hc:c
 ·rw[A7 hc];exact h hc
 ·rw[A4 hc];exact h1 hc
abbrev vi(x:Int):PV:= .val (.int .i64) x
abbrev vc(x:UInt8):PV:= .val (.int .u8) x
abbrev vu(x:UInt32):PV:= .val (.int .u32) x
abbrev vq(x:UInt64):PV:= .val (.int .u64) x
abbrev vx(x:Int32):PV:= .val (.int .i32) x
abbrev vt(x:Bool):PV:= .val .bool x
abbrev vs(x:List UInt8):PV:= .val .str x
abbrev vb(x:List UInt8):PV:= .val (.list (.int .u8)) x
abbrev vl(x:List Int):PV:= .val (.list (.int .i64)) x
abbrev vw(x:List Int32):PV:= .val (.list (.int .i32)) x
abbrev vv(x:List UInt32):PV:= .val (.list (.int .u32)) x
end Go.Rx
namespace Go.Rx
open Go Go.Lv
variable{f:Nat}{P:Program}
structure Hd where
 p:List Sh
 r:List Sh
 a:An
 T:Tab
 s:List (Nat×An)
 f:Func
noncomputable def Hd.e(P:Program)(H:Hd):List (PS (Zb (Qo H.r)))->S->Option (Zb (Qo H.r)):=PE P H.T H.s H.f H.a H.r
noncomputable def Hd.i(P:Program)(H:Hd):List (PS (Zb (Qo H.r)))->Nat->S->Option (Zb (Qo H.r)):=PI P H.T H.s H.f H.a H.r
noncomputable def Hd.u(P:Program)(H:Hd)(x:Zb (Qo H.p)):Option (Zb (Qo H.r)):=run P H.T H.s H.f H.a H.p H.r x
def okH(H:Hd):Bool:=(!(H.f.name== "runtime.NumGoroutine")&&H.f.body.isSome)&&Nat.ble H.p.length H.f.ntmps
theorem Hd.con(hM:P.follows .mixedOrders=true)(H:Hd){F:Zb (Qo H.p)->Option (Zb (Qo H.r))}(hf:P.funcs[f]? =some H.f)(hT:Sk P H.T)(hA:∀p∈H.s,AnE P p)
  (hb:okH H=true) (h:∀x,H.u P x=F x):ConOk P H.T.gl f ⟨H.p,H.r,F⟩:=by
 simp only[okH,A9,O1]at hb;obtain⟨c,hc⟩:=Option.isSome_iff_exists.1 hb.1.2;exact Adv (T:=H.T) hM hf (Ent.mk hf hb.1.1 hc) hT hA hb.2 h
def eA(P:Program)(f:Nat):Bool:=match P.funcs[f]? with|some fn=>!(fn.name== "runtime.NumGoroutine")&&fn.body.isSome|none=>false
theorem uW(h:eA P f=true):Ent P f:=by
 unfold eA at h;split at h
 ·rename_i fn hf;simp only[A9,O1]at h;obtain⟨c,hc⟩:=Option.isSome_iff_exists.1 h.2;exact Ent.mk hf h.1 hc
 ·cases h
def okA(P:Program)(H:Hd):Bool:=(H.s.all λp=>eA P p.1&&yQ p.2)&&okH H
theorem Hd.cn(hM:P.follows .mixedOrders=true)(H:Hd){F:Zb (Qo H.p)->Option (Zb (Qo H.r))}(hf:P.funcs[f]? =some H.f)(hT:Sk P H.T)
  (hb:okA P H=true) (h:∀x,H.u P x=F x):ConOk P H.T.gl f ⟨H.p,H.r,F⟩:=by
 simp only[okA,A9,XY]at hb;exact Hd.con hM H hf hT (λp hp=>⟨uW (hb.1 p hp).1,Asn (hb.1 p hp).2⟩) hb.2 h
def okP(P:Program)(H:Hd):Bool:=(H.s.all λp=>eA P p.1)&&okH H
theorem Hd.cp(hM:P.follows .mixedOrders=true)(H:Hd){F:Zb (Qo H.p)->Option (Zb (Qo H.r))}(hf:P.funcs[f]? =some H.f)(hT:Sk P H.T)(hP:∀p∈H.s,bQ P p.2 p.1)
  (hb:okP P H=true) (h:∀x,H.u P x=F x):ConOk P H.T.gl f ⟨H.p,H.r,F⟩:=by
 simp only[okP,A9,XY]at hb;exact Hd.con hM H hf hT (λp hp=>⟨uW (hb.1 p hp),hP p hp⟩) hb.2 h
abbrev Kc(P:Program)(gl:List (Nat×List Value)):={p:Nat×Con//ConOk P gl p.1 p.2}
def yU{P:Program}{gl:List (Nat×List Value)}(l:List (Kc P gl))(v c:Bool):Tab:=⟨l.map (·.1),gl,v,c⟩
theorem lN{P:Program}{gl:List (Nat×List Value)}:∀(l:List (Kc P gl)) (v c:Bool),Sk P (yU l v c)
 |[],_,_=> .nil
 |a::l,v,c=> .cons a.2 (lN l v c)
theorem ind{p:Nat->Prop}(h:p 0)(hs:∀q,p q->p (q+1)):∀q,p q:=λq=>Nat.rec h hs q
variable {R α:Type}
noncomputable abbrev bo(a:Option R):Option R:=both a [a]
noncomputable abbrev bo2(a:Option R):Option R:=both a [a,a]
theorem EC(a:Option R):both a [a]=a:=wJ a
theorem Ti(a:Option R):both a [a,a]=a:=Acg a
theorem Tg(a:Option R):both a [a,a,a]=a:=M7 a
abbrev Si:Sh:= .lf (.int .i64) none
abbrev Sc:Sh:= .lf (.int .u8) none
abbrev Su:Sh:= .lf (.int .u32) none
abbrev Sq:Sh:= .lf (.int .u64) none
abbrev Sx:Sh:= .lf (.int .i32) none
abbrev Sz:Sh:= .lf .bool none
abbrev Ss:Sh:= .lf .str none
abbrev Sb:Sh:= .lf (.list (.int .u8)) none
abbrev Sl:Sh:= .lf (.list (.int .i64)) none
abbrev Sw:Sh:= .lf (.list (.int .i32)) none
abbrev Sv:Sh:= .lf (.list (.int .u32)) none
abbrev Ob(e:Nat):Sh:= .lf (.list (.int .u8)) (some e)
abbrev Ol(e:Nat):Sh:= .lf (.list (.int .i64)) (some e)
abbrev Ow(e:Nat):Sh:= .lf (.list (.int .i32)) (some e)
abbrev Ov(e:Nat):Sh:= .lf (.list (.int .u32)) (some e)
abbrev Ai(e:Nat)(l:List Int):Item:= .arr e (.int .i64) l
abbrev Ab(e:Nat)(l:List UInt8):Item:= .arr e (.int .u8) l
abbrev Aw(e:Nat)(l:List Int32):Item:= .arr e (.int .i32) l
abbrev Av(e:Nat)(l:List UInt32):Item:= .arr e (.int .u32) l
abbrev An.q(a:An):An:= .seq .d a
end Go.Rx
namespace Go.Rx
open Go Go.Lv Go.RowKit
variable{k:Kd}{cs vs:List Value}{B:Reg}{v:Value}{w:World}
variable {P:Program}
theorem HG{B:Reg}{w:World}{k:Kd}:∀(l:List k.T),Cj (Ax B w (.int k)) l (Go.Lv.We (k:=k.k) l)
 |[]=>rfl
 |x::l=>⟨[iv (T:=k.T) (k:=k.k) x],Go.Lv.We (k:=k.k) l,rfl,rfl,HG l⟩
theorem Rd.Ii{A:Reg}{s:Nat}(h:Rd A w s v cs)(ha:∀b,A b->B b):Rd B w s v cs:=h.step ha λ_ _=>rfl
theorem enc_row{l:List k.T}(h:Rd (λ_=>True) w 1 v (Go.Lv.We (k:=k.k) l)):Ga (λ_=>True/\True) w [] (.val (.list (.int k)) l) v:=
 ⟨v,_,rfl,Rd.Ii h λ_ _=>⟨trivial,trivial⟩,HG l⟩
theorem enc_iv(x:k.T):Ga (λ_=>True/\True) w [] (.val (.int k) x) (iv (T:=k.T) (k:=k.k) x):=rfl
theorem enc_bool(b:Bool):Ga (λ_=>True/\True) w [] (.val .bool b) (.bool b):=rfl
theorem encs_nil:Ek B w [] [] []:=rfl
theorem encs_cons{p:PV}{ps:List PV}(h:Ga B w [] p v)(hs:Ek B w [] ps vs):Ek B w [] (p::ps) (v::vs):=⟨v,vs,rfl,h,hs⟩
theorem row_true{gl:List (Nat×List Value)}{f:Nat}{ps:List Sh}{F:Zb (Qo ps)->Option Bool}(hC:ConOk P gl f ⟨ps,[.lf .bool none],F⟩){x:Zb (Qo ps)}{pvs:List PV}(ha:args ps x=some pvs)(hi:f_ ps x=[])
  (hv:Ek (λ_=>True/\True) w [] pvs vs) (hg:GlOk gl (λ_=>True) w) (hF:F x=some true):Calls P f vs.toArray w λe w'=>e= .returned (.bool true)/\Below w.heap.size w w':=by
 refine(hC.ok (λ_=>True) (λ_=>True) w [] vs pvs x true ha (by rw[hi];rfl) (λi a m h=>by rw[hi]at h;simp at h) trivial hv hg hF).mono ?_;rintro e w' ⟨us,rfl,hk,A1,L1,g1,g2,g3⟩;obtain⟨qs,its,k1,k2,k3,k4,k5⟩:=g3 ⟨[],[],[]⟩ [] (λ_=>True) rfl (λ_ _=>trivial) (λ_ _ _=>trivial);refine⟨?_,⟨hk.gr.os,hk.gr.tape,hk.gr.output,hk.gr.le,λb hb=>hk.same b hb trivial⟩⟩;obtain rfl:=Z6 (show some [PV.val .bool true]=some qs from k2);obtain⟨_,_,rfl,e1,rfl⟩:=k3;cases(show [_]=[Value.bool true]from e1);rfl
theorem laid_ints{H:Type}{enc:TypeId×Value->H}{fuel:Nat}{t e n:Nat}{k:IntKind}{zs:List Int}{p:List MemPlace}(hu:P.underlying t=some (.array n e))(he:P.underlying e=some (.int k))(hc:P.cellsOf e=1)(ht:P.cellsOf t=n)
  (h:DataW.trod enc P w 0 (λ_=>true) false fuel t cs=some (.agg (zs.map λz=> .lit (.int k z)),p)):cs=zs.map λz=>Value.int k z:=by
 obtain⟨xs,m,rfl,hx,hlen,hn,hel⟩:=DataW.trod_array hu h;simp only[SO,DataW.agg.injEq]at hx;rw[ht]at hlen;have hz:zs.length=n:=by
  have:=congrArg List.length hx.1;simpa [hn]using this
 apply Z2;intro i;by_cases hi:i<n
 ·have h0:=hel i hi;rw[hc,cG]at h0;have hxi:xs[i]? =some xs[i]:=C? F0;rw[hxi]at h0;obtain⟨q,e1,e2,_⟩:=nT he h0;have e3:(cs.drop i).take 1=[cs[i]' F0]:=by
   rw[eR F0];rfl
  rw[e3]at e1;have e4:(xs.map (·.1))[i]? =(zs.map λz=>(DataW.lit (.int k z):DataW H))[i]? :=by rw[<-hx.1]
  rw[V?,V?,hxi,C? F0,e2]at e4;simp only[VN,HN,DataW.lit.injEq,Lit.int.injEq,true_and]at e4;rw[V?,C? F0,C? F0];simp only[W9,XA]at e1;rw[e1,e4];rfl
 ·rw[Vx F0,Vx F5]
theorem glOk_cons{n:String}{g:Nat}{cs:Array Value}{l:List Value}{gl:List (Nat×List Value)}(hg:P.globalNamed n=some g)(hv:w.var? P n=some cs)(hl:cs.toList=l)(h:GlOk gl (λ_=>True) w):GlOk ((g,l)::gl) (λ_=>True) w:=by
 intro p hp;rcases List.mem_cons.1 hp with rfl|hp
 ·simp only[World.var?,hg,A8]at hv;split at hv
  ·rename_i cs' T fr hh;cases hv;refine⟨(Array.getElem?_eq_some_iff.1 hh).1,trivial,T,fr,?_⟩;rw[hh,<-hl]
  ·cases hv
 ·exact h p hp
theorem glOk_nil{N:Reg}:GlOk [] N w:=λp hp=>by simp at hp
end Go.Rx
namespace Go.Rx
open Go Go.Lv Go.RowKit Go.ChangeShapes Go.WideShapes
variable{k:IntKind}{B:Reg}
variable {P:Program}
theorem agg_nil{w:World}:Ba.go B w [] [] []:=rfl
theorem agg_leaf{w:World}{p:PV}{ps:List PV}{v:Value}{vs:List Value}(ha:p.isA=false)(h:Ga B w [] p v)(hs:Ba.go B w [] ps vs):Ba.go B w [] (p::ps) (v::vs):=by
 refine⟨[v],vs,rfl,?_,hs⟩;unfold Ga at h;rw[ha]at h;exact h
theorem enc_agg{w:World}{l:List PV}{c:List Value}(h:Ba.go B w [] l c):Ga B w [] (.agg l) (.agg c.toArray):=⟨c,rfl,h⟩
theorem laid_bool_int{H:Type}{enc:TypeId×Value->H}{w:World}{fuel:Nat}{t:TypeId}{f0 f1:Field}{cs:List Value}{b:Bool}{z:Int}{p:List MemPlace}(hu:P.underlying t=some (.struct #[f0,f1]))
  (h0:P.underlying f0.type=some .bool) (h1:P.underlying f1.type=some (.int k)) (o0:f0.offset=0) (o1:f1.offset=1) (c0:P.cellsOf f0.type=1) (c1:P.cellsOf f1.type=1) (ct:P.cellsOf t=2)
  (h:DataW.trod enc P w 0 (λ_=>true) false fuel t cs=some (.agg [.lit (.bool b), .lit (.int k z)],p)):cs=[.bool b, .int k z]:=by
 obtain⟨xs,m,rfl,hx,hlen,hn,hel⟩:=DataW.trod_struct hu h;rw[ct]at hlen
 match cs,hlen with
 |[a,c],_=>
  match xs,hn with
  |[y0,y1],_=>
   simp only[SO,DataW.agg.injEq,IZ,VH,W9,XA]at hx;have e0:=hel 0 f0 rfl;have e1:=hel 1 f1 rfl;rw[o0,c0]at e0;rw[o1,c1]at e1;obtain⟨b',q0,r0⟩:=DataW.trod_bool h0 e0;obtain⟨z',q1,r1,_⟩:=nT h1 e1;simp at q0 q1;rw[r0,r1]at hx;simp at hx;rw[q0,q1,hx.1.1,hx.1.2]
theorem fld{H:Type}{enc:TypeId×Value->H}{w:World}{base:Nat}{spare:Nat->Bool}{held:Bool}{fuel:Nat}{t:TypeId}{fs:Array Field}{cs:List Value}{x:DataW H×List MemPlace}(ht:P.underlying t=some (.struct fs))(h:DataW.trod enc P w base spare held fuel t cs=some x)
  (i:Nat) {ft:TypeId} {off k:Nat} {part:List Value} (hf:(fs[i]?).map (λf=>(f.type,f.offset))=some (ft,off)) (hc:P.cellsOf ft=k) (hd:(cs.drop off).take k=part):∃n y,DataW.trod enc P w base spare held n ft part=some y:=by
 obtain⟨xs,n,_,_,_,hn,hel⟩:=DataW.trod_struct ht h;cases hi:fs[i]? with
 |none=>rw[hi]at hf;cases hf
 |some f=>
  rw[hi]at hf;cases hf;have g:=hel i f hi;rw[hc,hd,C? (by rw[hn];exact(Array.getElem?_eq_some_iff.1 hi).1)]at g;exact⟨n,_,g⟩
section
variable {H:Type} {enc:TypeId×Value->H} {w:World} {base:Nat} {spare:Nat->Bool} {held:Bool} {fuel:Nat} {t:TypeId} {fs:Array Field} {cs:List Value} {x:DataW H×List MemPlace} (ht:P.underlying t=some (.struct fs)) (h:DataW.trod enc P w base spare held fuel t cs=some x)
  (i:Nat) {ft:TypeId} {off:Nat} {e:Value} (hf:(fs[i]?).map (λf=>(f.type,f.offset))=some (ft,off)) (hc:P.cellsOf ft=1)
include ht h hf hc
theorem fld_int(hk:P.underlying ft=some (.int k))(hd:(cs.drop off).take 1=[e]):∃a,e= .int k a/\ (Lit.int k a).wf=true:=by
 obtain⟨n,y,g⟩:=fld ht h i hf hc hd;obtain⟨a,e1,_,hw⟩:=nT hk g;cases e1;exact⟨a,rfl,hw⟩
end
theorem fld_row{H:Type}{enc:TypeId×Value->H}{w:World}{held:Bool}{fuel:Nat}{t:TypeId}{fs:Array Field}{cs:List Value}{x:DataW H×List MemPlace}(ht:P.underlying t=some (.struct fs))(h:DataW.trod enc P w 0 (λ_=>true) held fuel t cs=some x)
  (i:Nat) {ft et:TypeId} {off:Nat} {e:Value} (hf:(fs[i]?).map (λf=>(f.type,f.offset))=some (ft,off)) (hc:P.cellsOf ft=1) {k:IntKind} (hk:P.underlying ft=some (.slice et)) (he:P.underlying et=some (.int k)) (h1:P.cellsOf et=1) (hd:(cs.drop off).take 1=[e]):
  ∃(a:Option Addr) (len cap:Nat) (zs:List Int),e= .slice a len cap/\ ((a=none/\len=0/\cap=0/\zs=[])\/∃x,a=some x/\len<=cap/\cap<=maxLen/\zs.length=cap/\ (∀i,i<zs.length->w.cell? (x.add i)=some (.int k (zs.getD i 0)))/\∀n∈zs,(Lit.int k n).wf=true):=by
 obtain⟨n,y,g⟩:=fld ht h i hf hc hd;rcases open_ints hk he h1 g with⟨e1,_⟩|⟨x,l,c,zs,e1,_,hl,hm,hz,_,hcell,hwz⟩
 ·cases e1;exact⟨none,0,0,[],rfl, .inl ⟨rfl,rfl,rfl,rfl⟩⟩
 ·cases e1;exact⟨some x,l,c,zs,rfl, .inr ⟨x,rfl,hl,hm,by simpa using hz,hcell,hwz⟩⟩
theorem laid_if{H:Type}{enc:TypeId×Value->H}{w:World}{fuel:Nat}{t:TypeId}{m:Array (String×TypeId)}{cs:List Value}{d:DataW H×List MemPlace}(hu:P.underlying t=some (.interface m))(h:DataW.trod enc P w 0 (λ_=>true) false fuel t cs=some d):∃v,cs=[v]/\ (v= .nilIface\/∃te pe,v= .iface te pe):=by
 cases fuel with
 |zero=>cases h
 |succ n=>
  unfold DataW.trod at h;rw[hu]at h;split at h
  all_goals first
   |exact⟨_,rfl, .inl rfl⟩
   |exact⟨_,rfl, .inr ⟨_,_,rfl⟩⟩
   |(rename_i e;cases e;done)
   |cases h
   |simp_all
end Go.Rx
namespace Go.Rx
open Go Go.Lv Go.RowKit Go.ChangeShapes Go.WideShapes
variable {P:Program}
end Go.Rx
