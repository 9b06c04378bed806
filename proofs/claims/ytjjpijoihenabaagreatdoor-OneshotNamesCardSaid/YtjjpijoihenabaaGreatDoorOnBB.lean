/- A part of a proof (see the text that ends in Proof). No conditions. -/
import Derived.Test.YtjjpijoihenabaaGreatDoorOnBA
import Derived.MapKept
import Derived.ProofKit
import Derived.LaidMore
import Derived.DataReads
import Derived.ChangeSame
import Derived.RangeFuncNested
import Derived.RangeFuncLeaves
set_option linter.unusedVariables false
set_option linter.unusedSimpArgs false
namespace Go.Rx
open Go Go.Lv
variable{a:Item}{R:Type}
variable {P:Program} {B:Reg} {w w':World} {L L':List MD} {s:S} {σs:List Env} {σ:Env} {Z:Fix} {A A':Reg} {n:Nat}
theorem Cm.get{α:Type}{f:α->List Value->Prop}{z:Nat}(hz:∀x c,f x c->c.length=z):∀{l:List α} {i:Nat} {x:α} {cs:List Value},Cm f l cs->l[i]? =some x->
  ∃c1 c2 c3,cs=c1++(c2++c3)/\c1.length=i*z/\f x c2/\∀y c2',f y c2'->Cm f (l.set i y) (c1++(c2'++c3))
 |[],_,_,_,_,h=>by simp at h
 |a::l,0,x,cs,⟨c1,c2,e,h1,h2⟩,h=>by
  simp at h;subst h;exact⟨[],c1,c2,by simpa using e,B7,h1,λy c2' hy=>⟨c2',c2,B7,hy,h2⟩⟩
 |a::l,i+1,x,cs,⟨c1,c2,e,h1,h2⟩,h=>by
  obtain⟨d1,d2,d3,e',h3,h4,h5⟩:=Cm.get hz (i:=i) h2 (by simpa using h);refine⟨c1++d1,d2,d3,by rw[e,e'];simp,by rw[CR,hz _ _ h1,h3,ND];omega,h4,λy c2' hy=>?_⟩;exact⟨c1,d1++(c2'++d3),B7,h1,h5 y c2' hy⟩
theorem Cm.append{α:Type}{f:α->List Value->Prop}:∀{l m:List α} {cs ds:List Value},Cm f l cs->Cm f m ds->Cm f (l++m) (cs++ds)
 |[],m,cs,ds,h,h'=>by rw[show cs=[]from h];exact h'
 |a::l,m,cs,ds,⟨c1,c2,e,h1,h2⟩,h'=>⟨c1,c2++ds,by rw[e];simp,h1,Cm.append h2 h'⟩
theorem Az.one:∀{e:ET} {x:e.T} {cs:List Value},Az B w e x cs->∀v∈cs,v.oneCell'=true
 | .int k,x,cs,h,v,hv=>by rw[show cs=_ from h]at hv;simp at hv;subst hv;rfl
 | .bool,x,cs,h,v,hv=>by rw[show cs=_ from h]at hv;simp at hv;subst hv;rfl
 | .str,x,cs,h,v,hv=>by rw[show cs=_ from h]at hv;simp at hv;subst hv;rfl
 | .list e,l,cs,⟨u,c0,e1,h,_⟩,v,hv=>by
  rw[e1]at hv;simp at hv;subst hv;obtain⟨p,len,cap,rfl,_⟩:=h;rfl
 | .vec n e,l,cs,⟨_,h⟩,v,hv=>by
  have key:∀(l:List e.T) (cs:List Value),Cm (Az B w e) l cs->v∈cs->v.oneCell'=true:=by
   intro l
   induction l with
   |nil=>intro cs h hv;rw[show cs=[]from h]at hv;simp at hv
   |cons a l ih=>
    rintro cs ⟨c1,c2,e',h1,h2⟩ hv;subst e';rcases List.mem_append.1 hv with hv|hv
    ·exact Az.one h1 v hv
    ·exact ih _ h2 hv
  exact key l cs h hv
 | .cons a r,x,cs,⟨c1,c2,e,h1,h2⟩,v,hv=>by
  subst e;rcases List.mem_append.1 hv with hv|hv
  ·exact Az.one h1 v hv
  ·exact Az.one h2 v hv
 | .nil,_,cs,h,v,hv=>by rw[show cs=[]from h]at hv;simp at hv
theorem Cm.one{e:ET}:∀{l:List e.T} {cs:List Value},Cm (Az B w e) l cs->∀v∈cs,v.oneCell'=true
 |[],cs,h,v,hv=>by rw[show cs=[]from h]at hv;simp at hv
 |a::l,cs,⟨c1,c2,e',h1,h2⟩,v,hv=>by
  subst e';rcases List.mem_append.1 hv with hv|hv
  ·exact h1.one v hv
  ·exact Cm.one h2 v hv
theorem Cm.eu{e:ET}{l:List e.T}{cs:List Value}(h:Cm (Az B w e) l cs):cs.all (·.oneCell')=true:=List.all_eq_true.2 h.one
theorem ru{R:Type}{k:PV->Option R}{r:R}:∀{p:List Step} {v:PV} {cs:List Value},RI v p k=some r->Bk B w L v cs->
  ∃u c1 c2 c3,k u=some r/\cs=c1++(c2++c3)/\c1.length=Bc p/\Bk B w L u c2
 |[],v,cs,h,hv=>⟨v,[],cs,[],by simpa [RI]using h,B7,rfl,hv⟩
 | .fld m off::p,v,cs,h,hv=>by
  cases v<;>simp only[RI,reduceCtorEq]at h;rename_i l;split at h
  ·rename_i f hf;obtain⟨hb,h⟩:=Be h;obtain⟨c1,c2,c3,e,h1,h2,_⟩:=Bk.field (show Bk.go B w L l cs from hv) hf;obtain⟨u,d1,d2,d3,hk,e',h3,h4⟩:=ru h h2;refine⟨u,c1++d1,d2,d3++c3,hk,by rw[e,e'];simp,?_,h4⟩;rw[CR,h1,h3,Di hb];rfl
  ·cases h
 | .idx j z::p,v,cs,h,hv=>by
  cases v<;>simp only[RI,reduceCtorEq]at h;rename_i e x;split at h
  ·rename_i m a l;obtain⟨hb,h⟩:=Be h;obtain⟨y,hy,h⟩:=bind_some h;obtain⟨hj,_,hl⟩:=Mr hy;obtain⟨c1,c2,c3,e,h1,h2,_⟩:=Cm.get (λx c h=>Az.len h) (show Cm (Az B w a) l cs from hv.2) hl;obtain⟨u,d1,d2,d3,hk,e',h3,h4⟩:=ru h (gJ.2 h2);refine⟨u,c1++d1,d2,d3++c3,hk,by rw[e,e'];simp,?_,h4⟩;rw[CR,h1,h3,Di hb];rfl
  ·cases h
def yL(B:Reg)(w:World)(L:List MD):Item->List Value->Prop
 | .box _ v,cs=>Bk B w L v cs
 | .arr _ e l,cs=>Cm (Az B w e) l cs
 | .dead,_=>False
theorem All {k:PV->Option R}{r:R}{p:List Step}{cs:List Value}(h:getRoot a p k=some r)(hv:yL B w L a cs):
  ∃u c1 c2 c3,k u=some r/\cs=c1++(c2++c3)/\c1.length=Bc p/\Bk B w L u c2:=by
 unfold getRoot at h;split at h
 ·exact ru h hv
 ·rename_i E e l j z p;obtain⟨hb,h⟩:=Be h;obtain⟨y,hy,h⟩:=bind_some h;obtain⟨hj,_,hl⟩:=Mr hy;obtain⟨c1,c2,c3,e',h1,h2,_⟩:=Cm.get (λx c h=>Az.len h) (show Cm (Az B w e) l cs from hv) hl;obtain⟨u,d1,d2,d3,hk,e'',h3,h4⟩:=ru h (gJ.2 h2);refine⟨u,c1++d1,d2,d3++c3,hk,by rw[e',e''];simp,?_,h4⟩;rw[CR,h1,h3,Di hb];rfl
 ·cases h
theorem lU{c1 c2 c3 ns:List Value}(h:ns.length=c2.length):Bs (c1++(c2++c3)) c1.length ns=c1++(ns++c3):=by
 unfold Bs;rw[lA,h,<-LW,NF,NF]
theorem gV{c1 c2 c3 ns:List Value}{o:Nat}(hc:c1.length=o)(off:Nat)(h:off+ns.length<=c2.length):Bs (c1++(c2++c3)) (o+off) ns=c1++(Bs c2 off ns++c3):=by
 subst hc;unfold Bs;rw[Bnv,RJ F0,I!,<-LW,NF,NN F0];simp
theorem E3{R:Type}{new:PV}{ns:List Value}(hn:Bk B w L new ns){r:R}:∀{p:List Step} {v:PV} {cs:List Value} {k:PV->Option R},O6 new v p k=some r->Bk B w L v cs->
  ∃v',k v'=some r/\Bc p+ns.length<=cs.length/\Bk B w L v' (Bs cs (Bc p) ns)
 |[],v,cs,k,h,hv=>by
  simp only[O6]at h;obtain⟨hb,h⟩:=Be h;have h1:=hn.len;have h2:=hv.len;have h3:=Di hb;refine⟨new,h,by simp[Bc];omega,?_⟩;have:Bs cs 0 ns=ns:=by
   unfold Bs;rw[JP,HB,RN F0,GY]
  rw[show Bc []=0 from rfl,this];exact hn
 | .fld m off::p,v,cs,k,h,hv=>by
  cases v<;>simp only[O6,reduceCtorEq]at h;rename_i l;split at h
  ·rename_i f hf;obtain⟨hb,h⟩:=Be h;obtain⟨c1,c2,c3,e,h1,h2,h3⟩:=Bk.field (show Bk.go B w L l cs from hv) hf;obtain⟨f',hk,h4,h5⟩:=E3 hn h h2;have ho:Bc (.fld m off::p)=c1.length+Bc p:=by rw[h1,Di hb];rfl
   refine⟨_,hk,by rw[ho,e];simp;omega,?_⟩;rw[ho,e,gV rfl _ h4];exact h3 f' _ h5
  ·cases h
 | .idx j z::p,v,cs,k,h,hv=>by
  cases v<;>simp only[O6,reduceCtorEq]at h;rename_i e x;split at h
  ·rename_i m a l;obtain⟨hb,h⟩:=Be h;have hz:=Di hb;have key:∀(y y':a.T) (l':List a.T) (f:List Value->List Value),Am l j=some y->Nj l j y'=some l'-> (∀c2,Az B w a y c2->Bc p+ns.length<=c2.length/\Az B w a y' (Bs c2 (Bc p) ns))->
     Bc (.idx j z::p)+ns.length<=cs.length/\Bk B w L (.val (.vec m a) l') (Bs cs (Bc (.idx j z::p)) ns):=by
    intro y y' l' f hy hs hyp;obtain⟨hj,hlt,hl⟩:=Mr hy;obtain⟨_,_,rfl⟩:=jJ hs;obtain⟨c1,c2,c3,e,h1,h2,h3⟩:=Cm.get (λx c h=>Az.len h) (show Cm (Az B w a) l cs from hv.2) hl;obtain⟨h4,h5⟩:=hyp c2 h2;have ho:Bc (.idx j z::p)=c1.length+Bc p:=by rw[h1,hz];rfl
    refine⟨by rw[ho,e];simp;omega,?_⟩;rw[ho,e,gV rfl _ h4];exact⟨by rw[NA];exact hv.1,h3 y' _ h5⟩
   split at h
   ·split at h
    ·rename_i y' hy';obtain⟨l',hs,h⟩:=bind_some h;obtain⟨hj,hlt,_⟩:=jJ hs;have hg:Am l j=some l[j.toNat]:=by
      unfold Am;rw[B0 F0];simp[hlt]
     obtain⟨h1,h2⟩:=key _ y' l' id hg hs (λc2 hc2=>by
      have e1:=(bR hy' hn).len;have e2:=hc2.len;refine⟨by simp[Bc];omega,?_⟩;have:Bs c2 0 ns=ns:=by
       unfold Bs;rw[JP,HB,RN F0,GY]
      rw[show Bc []=0 from rfl,this];exact bR hy' hn)
     exact⟨_,h,h1,h2⟩
    ·cases h
   ·obtain⟨y,hy,h⟩:=bind_some h;obtain⟨hj,hlt,hl⟩:=Mr hy;obtain⟨c1,c2,c3,e,h1,h2,h3⟩:=Cm.get (λx c h=>Az.len h) (show Cm (Az B w a) l cs from hv.2) hl;obtain⟨q,hk,h4,h5⟩:=E3 hn h (gJ.2 h2);split at hk
    ·rename_i y' hy';obtain⟨l',hs,hk⟩:=bind_some hk;obtain⟨_,_,rfl⟩:=jJ hs;have ho:Bc (.idx j z::p)=c1.length+Bc p:=by rw[h1,hz];rfl
     refine⟨_,hk,by rw[ho,e];simp;omega,?_⟩;rw[ho,e,gV rfl _ h4];exact⟨by rw[NA];exact hv.1,h3 y' _ (bR hy' h5)⟩
    ·cases hk
  ·cases h
def sameKind:Item->Item->Prop| .box T _, .box T' _=>T'=T| .arr E e _, .arr E' e' _=>E'=E/\e'=e|_,_=>False
theorem Ak5{new:PV}{ns:List Value}(hn:Bk B w L new ns){r:R}{p:List Step}{cs:List Value}{k:Item->Option R}(h:uh new a p k=some r)(hv:yL B w L a cs):
  ∃a',k a'=some r/\Bc p+ns.length<=cs.length/\yL B w L a' (Bs cs (Bc p) ns)/\sameKind a a':=by
 unfold uh at h;split at h
 ·obtain⟨v',hk,h1,h2⟩:=E3 hn h hv;exact⟨_,hk,h1,h2,rfl⟩
 ·rename_i E a l j z p;obtain⟨hb,h⟩:=Be h;have hz:=Di hb;split at h
  ·split at h
   ·rename_i y' hy';obtain⟨l',hs,h⟩:=bind_some h;obtain⟨hj,hlt,rfl⟩:=jJ hs;have hl:l[j.toNat]? =some l[j.toNat]:=by simp[hlt]
    obtain⟨c1,c2,c3,e,h1,h2,h3⟩:=Cm.get (λx c h=>Az.len h) (show Cm (Az B w a) l cs from hv) hl;have e1:=(bR hy' hn).len;have e2:=h2.len;have ho:Bc [.idx j z]=c1.length:=by rw[h1,hz];rfl
    refine⟨_,h,by rw[ho,e];simp;omega,?_,rfl,rfl⟩;rw[ho,e,lU F0];exact h3 y' _ (bR hy' hn)
   ·cases h
  ·obtain⟨y,hy,h⟩:=bind_some h;obtain⟨hj,hlt,hl⟩:=Mr hy;obtain⟨c1,c2,c3,e,h1,h2,h3⟩:=Cm.get (λx c h=>Az.len h) (show Cm (Az B w a) l cs from hv) hl;obtain⟨q,hk,h4,h5⟩:=E3 hn h (gJ.2 h2);split at hk
   ·rename_i y' hy';obtain⟨l',hs,hk⟩:=bind_some hk;obtain⟨_,_,rfl⟩:=jJ hs;have ho:Bc (.idx j z::p)=c1.length+Bc p:=by rw[h1,hz];rfl
    refine⟨_,hk,by rw[ho,e];simp;omega,?_,rfl,rfl⟩;rw[ho,e,gV rfl _ h4];exact h3 y' _ (bR hy' h5)
   ·cases hk
 ·cases h
end Go.Rx
namespace Go.Rx
open Go Go.Lv
variable{j:Int}{q:IntKind}{x ix:Operand}{p u:PV}{v:Value}
variable {P:Program} {w w':World} {L L':List MD} {s:S} {σs:List Env} {σ:Env} {Z:Fix} {A A':Reg} {n:Nat} {ops:Array Oper} {rest:List Oper} {K:Env->World->Prop}
variable {R:Type} {k:S->Option R} {r:R} {d:Option Nat} {ty:TypeId} {pos:String} {after:Array Edge}
theorem WL.SY{o:Oper}{w':World}(hg:o.guard=none)(hdn:Ng n o=true)
  (hx:(execOp (ev σ) o).run P w= .ok (.value v) w') (h:WL P n ops rest K (WA σ o.dst v) w'):WL P n ops (o::rest) K σ w:=by
 intro ds a ha;refine lQ hg λK' hK'=>?_;unfold Oper.wp;rw[ha.eval,hx];refine hK' _ _ ?_;cases hd:o.dst with
 |none=>rw[hd]at h;exact h _ _ (ha.z_ v)
 |some d=>
  rw[hd]at h;unfold Ng at hdn;rw[hd]at hdn;exact h _ _ (ha.put hdn v)
def y? (Z:Fix)(σs:List Env)(k:S->Option R)(r:R)(G:Prop)(A:Reg)(L:List MD)(it:List Item)(w:World)(σ':Env)(w':World):Prop:=
 ∃s' A' L',k s'=some r/\Rel Z s' σs A' L' σ' w'/\ (G->Grow A L it w A' L' s'.it w')
abbrev FQ(P:Program)(n:Nat)(ops:Array Oper)(o:Oper)(Z:Fix)(s:S)(σs:List Env)(k:S->Option R)(r:R)(G:Prop)(A:Reg)(L:List MD)(σ:Env)(w:World):Prop:=
 WL P n ops [o] (y? Z σs k r G A L s.it w) σ w
theorem Fg{o:Op}{val:Value}{G:Prop}(hr:Rel Z s σs A L σ w)(hd:Ng n ⟨d,o,ty,pos,after,none⟩=true)(hx:XO P σ w o val)(hv:p.isV=true)(h:Gi (λb=>A b/\Z.R b) w L p val)
  (hk:k (s.Ij d p)=some r):FQ P n ops ⟨d,o,ty,pos,after,none⟩ Z s σs k r G A L σ w:=by
 refine WL.SY rfl hd (hx _ _ _ _ _) (WL.nil ⟨_,A,L,hk,hr.Ij hv h,λ_=>?_⟩);have:(s.Ij d p).it=s.it:=by cases d<;>rfl
 rw[this];exact .refl
theorem RV{B:Reg}(h:oG p=some j)(hv:Gi B w L p v):∃q,v= .int q j:=by
 unfold oG at h;split at h
 ·rename_i e x;split at h
  ·cases h;exact⟨_,UA hv⟩
  ·cases h
 ·cases h
theorem dR(h:oG p=some j):p.isV=true:=by unfold oG at h;split at h;rfl;cases h
theorem zi{B:Reg}(h:asInt p=some j)(hv:Gi B w L p v):v=iv j:=by
 unfold asInt at h;split at h
 ·rename_i e x;split at h
  ·rename_i q y;split at h
   ·cases h;exact UA hv
   ·cases h
  ·cases h
 ·cases h
theorem o_(h:asInt p=some j):p.isV=true:=by unfold asInt at h;split at h;rfl;cases h
theorem Pn{o:Option Operand}{dflt:Int}{B:Reg}(hm:Ie B w L σ s.sl)(h:fL s.sl o dflt=some j):(∃q,o.map (ev σ)=some (.int q j))\/ (o=none/\j=dflt):=by
 unfold fL at h;split at h
 ·cases h;exact .inr ⟨rfl,rfl⟩
 ·rename_i x;obtain⟨q,hq⟩:=RV h (Uo hm x (dR h));exact .inl ⟨q,by rw[P4,hq]⟩
theorem X.Ata{t:TypeId}{l:List UInt8}{y:UInt8}(ht:P.underlying t=some .string)(hx:ev σ x=sv l)(hi:ev σ ix= .int q j)(hg:Am l j=some y):
  XO P σ w (.index t x ix) (iv y):=λ_ _ _ _ _=>by
 obtain⟨h1,h2,h3⟩:=Mr hg;have h4:=run_index_string (P:=P) w t ⟨l.toArray⟩ q j ht;have h5:0<=j/\j<(⟨l.toArray⟩:ByteArray).size:=by simp[ByteArray.size];omega
 rw[dif_pos h5]at h4;have h6:(⟨l.toArray⟩:ByteArray)[j.toNat]'(by simp[ByteArray.size];omega)=y:=by
  have e1:l[j.toNat]=y:=by rw[HS h2]at h3;simpa using h3
  rw[<-e1];rfl
 simp only[execOp,hx,hi,E_,h4,EN,H8,iC];rw[h6]
theorem Ayj{t et:TypeId}{m:Nat}{e:ET}{l:List e.T}{y:e.T}{cs:List Value}{B:Reg}(ht:P.underlying t=some (.array m et))(hsz:Lu P et e.size)
  (hag:∃u,P.underlying et=some u/\WB u=(e.pv y).isA) (h1:(e.pv y).isA=false->e.size=1) (hlen:l.length=m)
  (hx:ev σ x= .agg cs.toArray) (hl:Cm (Az B w e) l cs) (hi:ev σ ix= .int q j) (hg:Am l j=some y):∃val,XO P σ w (.index t x ix) val/\Ln B w L (e.pv y) val:=by
 obtain⟨h3,h4,h5⟩:=Mr hg;obtain⟨c1,c2,c3,he,h6,h7,_⟩:=Cm.get (λx c h=>Az.len h) hl h5;have h8:0<=j/\j<(m:Int):=F0
 obtain⟨u,hu,ha⟩:=hag;have hc2:=h7.len;cases hA:(e.pv y).isA with
 |true=>
  refine⟨.agg c2.toArray,λ_ _ _ _ _=>?_,by unfold Ln;rw[hA];exact⟨c2,rfl,gJ.2 h7⟩⟩;have e1:(cs.drop (j.toNat*e.size)).take e.size=c2:=by rw[he,<-h6,<-hc2];simp
  simp[execOp,hx,hi,Instr.index,asIntOf,EE ht,h8,Cj hsz,asAgg,part,Gy hu (ha.trans hA),e1]
 |false=>
  rw[h1 hA]at hc2
  match c2,hc2 with
  |[v],_=>
   refine⟨v,λ_ _ _ _ _=>?_,by unfold Ln;rw[hA];exact gJ.2 h7⟩;have e1:cs[j.toNat*e.size]? =some v:=by rw[he,<-h6];simp
   simp[execOp,hx,hi,Instr.index,asIntOf,EE ht,h8,Cj hsz,asAgg,part,Gy hu (ha.trans hA),e1]
theorem Xy{t et:TypeId}{b o len cap z:Nat}(ht:P.underlying t=some (.slice et))(hsz:Lu P et z)(hx:ev σ x= .slice (some ⟨b,o,none⟩) len cap)(hi:ev σ ix= .int q j)
  (h0:0<=j) (h1:j<len) (w:World):XO P σ w (.indexAddr t x ix) (.pointer (some ⟨b,o+j.toNat*z,none⟩)):=λ_ _ _ _ _=>by
 simp only[execOp,hx,hi,Instr.indexAt,E_,asIntOf,H8,EN,EE ht,h0,h1,and_self,LD,Cj hsz,Sm]
theorem gC{t et:TypeId}{b o m z:Nat}(ht:P.underlying t=some (.array m et))(hsz:Lu P et z)(hx:ev σ x= .pointer (some ⟨b,o,none⟩))(hi:ev σ ix= .int q j)
  (h0:0<=j) (h1:j<m) (w:World):XO P σ w (.indexAddr t x ix) (.pointer (some ⟨b,o+j.toNat*z,none⟩)):=λ_ _ _ _ _=>by
 simp only[execOp,hx,hi,Instr.indexAt,Instr.sureAddr,E_,asIntOf,H8,EN,EE ht,h0,h1,and_self,LD,Cj hsz,Sm]
theorem Hc{t:TypeId}{i:TypeInfo}{z:Nat}(h:P.info? t=some i)(hz:Nat.beq i.size z=true):Lu P t z:=⟨i,h,Di hz⟩
theorem Rel.base(hr:Rel Z s σs A L σ w){i z:Nat}{E:TypeId}{cs:List Value}(h:L[i]? =some (.own z E v cs))(hne:0<cs.length):∃b len cap,v= .slice (some ⟨b,0,none⟩) len cap/\cs.length=len*z:=by
 obtain⟨b,m,c,hv,_⟩:=St.gZ hr (hr.Ki h) hne;obtain⟨p,len,cap,h1,h2,_⟩:=hr.Yk h;subst hv;cases h1;exact⟨b,m,c,rfl,h2⟩
theorem nD(st:Step):∀(p:List Step),Bc (p++[st])=Bc p+vL st
 |[]=>by simp[Bc]
 |a::p=>by simp[Bc,nD st p,I!]
theorem Ajy{t:TypeId}{G:Prop}(hr:Rel Z s σs A L σ w)(hd:Ng n ⟨d, .indexAddr t x ix,ty,pos,after,none⟩=true)(h:R6 P s d t x ix k=some r):
  FQ P n ops ⟨d, .indexAddr t x ix,ty,pos,after,none⟩ Z s σs k r G A L σ w:=by
 have hm:=hr.mem;unfold R6 at h;split at h
 ·cases h
 ·rename_i j hj;obtain⟨q,hix⟩:=RV hj (Uo hm.sl ix (dR hj));split at h
  ·rename_i et ht;split at h
   ·cases h
   ·rename_i inf Xs;split at h
    ·rename_i e0 l0 hx;split at h
     ·rename_i e l;obtain⟨hb,h⟩:=Be h;simp only[CT]at hb;obtain⟨y,hy,h⟩:=bind_some h;obtain⟨hj0,hj1,hj2⟩:=Mr hy;obtain⟨c0,h1,h2⟩:=HF (Dz hm.sl hx rfl);obtain⟨p,len,cap,h3,h4,h5,h6,h7⟩:=h1;have hlen:=h2.len λx c h=>Az.len h;have hz:0<e.size:=by have:=M0 hb.2;omega
      have hl:len=l.length:=K8 hz (h4.symm.trans hlen);subst hl;obtain⟨b,off,arr,T,fr,rfl,hB,hbl,hcap,hc⟩:=h7 F0;obtain⟨c1,c2,c3,he,h8,h9,_⟩:=Cm.get (λx c h=>Az.len h) h2 hj2;have h10:c2.length=e.size:=h9.len;have h11:(j.toNat+1)*e.size<=l.length*e.size:=EK _ hj1;rw[ND]at h11;have hp:O3 (λb=>A b/\Z.R b) w (.pointer (some ⟨b,off+j.toNat*e.size,none⟩)) c2:=by
       refine⟨b,off+j.toNat*e.size,arr,T,fr,rfl,hB,hbl,λq hq=>?_⟩;rw[I!,hc _ F0,he,JG F0,h8,show j.toNat*e.size+q-j.toNat*e.size=q by omega,HQ hq]
      have hvr:Gi (λb=>A b/\Z.R b) w L (.rptr (e.pv y)) (.pointer (some ⟨b,off+j.toNat*e.size,none⟩)):=⟨_,c2,rfl,hp,gJ.2 h9⟩;exact Fg hr hd (Xy ht (Hc Xs hb.1) h3 hix F0 F0 w) rfl hvr h
     ·cases h
    ·rename_i i hx;split at h
     ·rename_i E e l hi;obtain⟨hb,h⟩:=Be h;simp only[CT]at hb;obtain⟨y,hy,h⟩:=bind_some h;obtain⟨hj0,hj1,hj2⟩:=Mr hy;obtain⟨v,cs,h1,h2⟩:=hm.arr hi;obtain⟨z',E',c',h3⟩:=UB (Dz hm.sl hx rfl);rw[h1]at h3;cases h3;have hlen:=h2.len λx c h=>Az.len h;have hz:0<e.size:=by have:=M0 hb.2;omega
      have hpos:0<cs.length:=by rw[hlen];exact N_ F0 hz
      obtain⟨b,len,cap,h4,h5⟩:=hr.base h1 hpos;have hl:len=l.length:=K8 hz (h5.symm.trans hlen);subst hl;have:=Xy ht (Hc Xs hb.1) h4 hix F0 F0 w;refine Fg hr hd this rfl ?_ h;rw[show(0:Nat)+j.toNat*e.size=Bc [.idx j e.size] by simp[Bc,vL]];refine TO h1 ?_;rw[h4];rfl
     ·cases h
    ·rename_i o i p e lo n' hx;obtain⟨hb,h⟩:=Be h;simp only[CT]at hb;obtain⟨_,hok,h⟩:=bind_some h;have hj':0<=j/\j<n':=NT (BM hok);obtain⟨md,v1,h3,h4,k1,k2,⟨pt,cap,k3,k4,k5,k6⟩,_⟩:=Dz hm.sl hx rfl;have h6:ev σ x=v1:=by simpa using h4
     obtain⟨b,e1,rfl⟩:=k6 F0;have:=Xy ht (Hc Xs hb.1) (h6.trans k3) hix hj'.1 F0 w;refine Fg hr hd this rfl ?_ h;rw[show Bc p+lo.toNat*e.size+j.toNat*e.size=Bc (p++[.idx (lo+j) e.size]) by
      rw[nD,I!,<-E9]
      show _=Bc p+(lo+j).toNat*e.size;rw[Int.toNat_add k1 hj'.1]]
     exact TO h3 e1
    ·cases h
  ·rename_i m et ht;split at h
   ·cases h
   ·rename_i inf Xs;split at h
    ·rename_i i p hx;split at h
     ·rename_i T v hi;split at h
      ·rename_i e0 l0 hg;split at h
       ·rename_i m' e l;obtain⟨hb,h⟩:=Be h;simp only[CT]at hb;obtain⟨y,hy,h⟩:=bind_some h;obtain⟨hj0,hj1,hj2⟩:=Mr hy;obtain⟨b,cells,h1,h2⟩:=hm.box hi;obtain⟨c1,c2,c3,he,h3,h4⟩:=oA hg h2;obtain⟨md,b',h5,h6,h7⟩:=ED (Dz hm.sl hx rfl);rw[h1]at h5;cases h5;cases h6;have hl:l.length=m:=(show l.length=m'/\ _ from h4).1.trans (Di hb.2);have:=gC ht (Hc Xs hb.1.1) h7 hix F0 F0 w;refine Fg hr hd this rfl ?_ h;rw[show Bc p+j.toNat*e.size=Bc (p++[.idx j e.size]) by simp[bS,Bc,vL]];exact TO h1 rfl
       ·cases h
      ·cases h
     ·cases h
    ·cases h
  ·cases h
def MD.cells:MD->List Value| .box _ c _=>c| .own _ _ _ c=>c| .dead=>[]
theorem Rel.cells(hr:Rel Z s σs A L σ w){i b:Nat}{md:MD}(h:L[i]? =some md)(hb:md.base=some b):∀j,j<md.cells.length->w.cell? ⟨b,j,none⟩=md.cells[j]? :=by
 intro j hj;cases md with
 |dead=>cases hb
 |box b' cells T=>cases hb;rw[cell_of (St.box hr (hr.Ki h))];simp[MD.cells]
 |own z E v cells=>
  obtain⟨b',m,c,hv,hs'⟩:=St.gZ hr (hr.Ki h) (by simp[MD.cells]at hj;omega);subst hv;cases hb;obtain⟨o,rfl,h2⟩:=Ea.mem (A:=A) hs'.mobs (i:=i) (m:= .at_ b z E m c cells) (by rw[P0 (by simpa using(List.getElem?_eq_some_iff.1 h).1)]);obtain⟨_,len,cap,e,h3,_,_,_,h6⟩:=h2;obtain⟨arr,fr,_,hb,_,_,hc⟩:=h6 b rfl;rw[cell_of hb];exact hc j (by rw[<-h3];exact hj)
theorem rH{t:TypeId}{c2:List Value}{b off:Nat}{B:Reg}(h:OkLoad P t u)(hu:Bk B w L u c2)
  (hx:ev σ x= .pointer (some ⟨b,off,none⟩)):∃val,Ln B w L u val/\∀w':World,(∀j,j<c2.length->w'.cell? ⟨b,off+j,none⟩=c2[j]?)->XO P σ w' (.load t x) val:=by
 obtain⟨d,hd,ha⟩:=h.agg;have hlen:=hu.len;cases hA:u.isA with
 |true=>
  refine⟨.agg c2.toArray,by unfold Ln;rw[hA];exact⟨c2,rfl,hu⟩,λw' hc _ _ _ _ _=>?_⟩;have h1:=Qc (P:=P) (w:=w') (b:=b) (off:=off) c2 hc;rw[hlen]at h1;simp only[execOp,hx,Instr.loadAt,Instr.sureAddr,E_,H8,EN,loadVar,Gy hd (ha.trans hA),LD,Cj h.size,h1]
 |false=>
  have h1:=h.one hA;rw[h1]at hlen
  match c2,hlen with
  |[v],_=>
   refine⟨v,by unfold Ln;rw[hA];exact hu,λw' hc _ _ _ _ _=>?_⟩;have h2:w'.cell? ⟨b,off,none⟩=some v:=by simpa using hc 0 B7
   simp only[execOp,hx,Instr.loadAt,Instr.sureAddr,E_,H8,EN,loadVar,Gy hd (ha.trans hA),J3,I1,QX h2]
theorem Anc {t:TypeId}{c2:List Value}{b off:Nat}{B:Reg}(h:OkLoad P t u)(hu:Bk B w L u c2)(hc:∀j,j<c2.length->w.cell? ⟨b,off+j,none⟩=c2[j]?)
  (hx:ev σ x= .pointer (some ⟨b,off,none⟩)):∃val,Ln B w L u val/\XO P σ w (.load t x) val:=by
 obtain⟨val,h1,h2⟩:=rH (P:=P) (σ:=σ) h hu hx;exact⟨val,h1,h2 w hc⟩
def Bec:Item->MD->Prop| .box T _,md=>∃b c,md= .box b c T| .arr E e _,md=>∃v c,md= .own e.size E v c| .dead,_=>False
def DZ(off:Nat)(ns:List Value):MD->MD->Prop
 | .box b c T,md'=>md'= .box b (Bs c off ns) T
 | .own z E v c,md'=>md'= .own z E v (Bs c off ns)
 | .dead,_=>False
theorem MemR.root{B:Reg}(hm:MemR B w L s σs σ){i:Nat}{md:MD}(h:L[i]? =some md)(hd:Dj s.it i≠ .dead):yL B w L (Dj s.it i) md.cells/\Bec (Dj s.it i) md:=by
 obtain⟨md',h1,h2⟩:=hm.item rfl hd;rw[h]at h1;cases h1
 revert h2 hd
 cases Dj s.it i with
 |dead=>intro hd _;exact absurd rfl hd
 |box T v=>
  intro _ h2;cases md with
  |box b c T'=>obtain⟨rfl,h3⟩:=h2;exact⟨h3,b,c,rfl⟩
  |_=>exact h2.elim
 |arr E e l=>
  intro _ h2;cases md with
  |own z E' v c=>obtain⟨rfl,rfl,h3⟩:=h2;exact⟨h3,v,c,rfl⟩
  |_=>exact h2.elim
theorem Bax{t:TypeId}{G:Prop}(hr:Rel Z s σs A L σ w)(hd:Ng n ⟨d, .load t x,ty,pos,after,none⟩=true)(h:pT P s d t x k=some r):
  FQ P n ops ⟨d, .load t x,ty,pos,after,none⟩ Z s σs k r G A L σ w:=by
 have hm:=hr.mem;unfold pT at h;split at h
 ·rename_i i p hx;obtain⟨md,b,h1,h2,h3⟩:=ED (Dz hm.sl hx rfl);have hne:Dj s.it i≠ .dead:=by intro e;rw[e]at h;simp[getRoot]at h
  obtain⟨h4,_⟩:=hm.root h1 hne;obtain⟨u,c1,c2,c3,hk,he,h5,h6⟩:=All h h4;obtain⟨hb,hk⟩:=Be hk;have hc:=hr.cells h1 h2;obtain⟨val,h7,h8⟩:=Anc (P:=P) (σ:=σ) (x:=x) (b:=b) (off:=Bc p) (Vp hb) h6 (λj hj=>by
   rw[hc _ (by rw[he];simp;omega),he,JG F0,h5,show Bc p+j-Bc p=j by omega,HQ hj]) h3
  obtain⟨hv,hv'⟩:=Mu h7;exact Fg hr hd h8 hv hv' hk
 ·cases h
mutual
theorem Bk.one{B:Reg}:∀{p:PV} {cs:List Value},Bk B w L p cs->L.all (λm=>match m with| .own _ _ v _=>v.oneCell'|_=>true)=true->∀v∈cs,v.oneCell'=true
 | .val e x,cs,h,_,v,hv=>Az.one (show Az B w e x cs from h) v hv
 | .agg l,cs,h,hL,v,hv=>Bk.wZ (show Bk.go B w L l cs from h) hL v hv
 | .tup _,_,h,_,_,_=>h.elim
 | .nils,cs,h,_,v,hv=>by rw[show cs=_ from h]at hv;simp at hv;subst hv;rfl
 | .own i,cs,⟨z,E,u,c,h1,h2⟩,hL,v,hv=>by
  rw[h2]at hv;simp at hv;subst hv;exact List.all_eq_true.1 hL _ (RP h1)
 | .ptr i p,cs,⟨_,_,_,_,h⟩,_,v,hv=>by rw[h]at hv;simp at hv;subst hv;rfl
 | .rptr q,cs,⟨pv,_,h,⟨_,_,_,_,_,e,_⟩,_⟩,_,v,hv=>by rw[h]at hv;simp at hv;subst hv;rw[e];rfl
 | .fn f caps,cs,⟨_,h,_⟩,_,v,hv=>by rw[h]at hv;simp at hv;subst hv;rfl
 | .cap _ _ _,cs,⟨_,_,h,_,_,_,_,_,e⟩,_,v,hv=>by rw[h]at hv;simp at hv;subst hv;rw[e];rfl
 | .bfn _ _,cs,⟨_,h,_⟩,_,v,hv=>by rw[h]at hv;simp at hv;subst hv;rfl
 | .mp _ _,cs,⟨_,_,_,h,_⟩,_,v,hv=>by rw[h]at hv;simp at hv;subst hv;rfl
 | .cst u,cs,h,_,v,hv=>by rw[show cs=_ from h.1]at hv;simp at hv;subst hv;exact h.2
 | .any,cs,⟨u,h,h'⟩,_,v,hv=>by rw[h]at hv;simp at hv;subst hv;exact h'
 | .view _ _ _ _ _ _,cs,⟨_,u,_,h,_,_,⟨_,_,e,_⟩,_⟩,_,v,hv=>by rw[h]at hv;simp at hv;subst hv;rw[e];rfl
 | .gd _ _ _,_,h,_,_,_=>h.elim
 | .off,_,h,_,_,_=>h.elim
 | .undef,_,h,_,_,_=>h.elim
theorem Bk.wZ{B:Reg}:∀{l:List PV} {cs:List Value},Bk.go B w L l cs->L.all (λm=>match m with| .own _ _ v _=>v.oneCell'|_=>true)=true->∀v∈cs,v.oneCell'=true
 |[],cs,h,_,v,hv=>by rw[show cs=[]from h]at hv;simp at hv
 |a::q,cs,⟨c1,c2,e,h1,h2⟩,hL,v,hv=>by
  subst e;rcases List.mem_append.1 hv with hv|hv
  ·exact Bk.one h1 hL v hv
  ·exact Bk.wZ h2 hL v hv
end
theorem Rel.wZ(hr:Rel Z s σs A L σ w):L.all (λm=>match m with| .own _ _ v _=>v.oneCell'|_=>true)=true:=by
 refine List.all_eq_true.2 λm hm=>?_;obtain⟨i,hi,he⟩:=uA hm;cases m with
 |own z E v c=>
  obtain⟨p,len,cap,rfl,_⟩:=hr.Yk (i:=i) (by rw[HS hi,he]);rfl
 |_=>rfl
theorem ZT{B:Reg}(hr:Rel Z s σs A L σ w)(h:Ln B w L p v):∃cs:List Value,v.cells=cs.toArray/\Bk B w L p cs:=by
 unfold Ln asV at h;split at h
 ·obtain⟨cs,rfl,h⟩:=h;exact⟨cs,rfl,h⟩
 ·refine⟨[v],?_,h⟩;have:=h.one hr.wZ v (.head _);cases v<;>first|rfl|cases this
theorem pI.own{i z:Nat}{E:TypeId}{cs cs':List Value}(h:L[i]? =some (.own z E v cs)):pI L (L.set i (.own z E v cs')):=
 pI.set h (λ_ _ _ _ e=>by cases e;exact⟨_,_,_,rfl⟩) (λb hb=>by
  unfold MD.base at hb⊢;split at hb
  ·rename_i e;cases e
  ·rename_i e;cases e;exact hb
  ·cases hb)
theorem pI.box{i b:Nat}{T:TypeId}{cs cs':List Value}(h:L[i]? =some (.box b cs T)):pI L (L.set i (.box b cs' T)):=
 pI.set h (λ_ _ _ _ e=>by cases e) (λb hb=>hb)
theorem eQ{i:Nat}{md:MD}(h:L[i]? =some md):(L.map MD.Ki)[i]? =some md.Ki:=by simp[h]
theorem Ar7{t:TypeId}{a:Operand}{i b off z:Nat}{md:MD}{ns:List Value}{K:Env->World->Prop}{F:List Fact}(hr:St A w F (L.map MD.Ki))(h:L[i]? =some md)(hb:md.base=some b)
  (hsz:Lu P t z) (ha:ev σ a= .pointer (some ⟨b,off,none⟩)) (hx:ev σ x=v) (hv:v.cells=ns.toArray) (hl:ns.length=z) (h1:ns.all (·.oneCell')=true) (hle:off+z<=md.cells.length) (hz:0<z)
  (hK:∀(w':World) (md':MD),St A w' F ((L.map MD.Ki).set i md'.Ki)->DZ off ns md md'->K σ w'):
  WL P n ops [⟨none, .store t a x,ty,pos,after,none⟩] K σ w:=by
 cases md with
 |dead=>cases hb
 |box b' cells T=>
  cases hb;exact WL.Ap6 hr (eQ h) hsz ha hx hv hl h1 (by simpa [Nat.ble_eq,MD.cells]using hle) rfl rfl (λw' hs'=>WL.nil (hK w' (.box b (Bs cells off ns) T) hs' rfl))
 |own z' E u cells=>
  obtain⟨b',m,c,hu,hs'⟩:=St.gZ hr (eQ h) (by simp[MD.cells]at hle;omega);subst hu;cases hb;have hlen:i<(L.map MD.Ki).length:=by simpa using(List.getElem?_eq_some_iff.1 h).1
  have hL1:((L.map MD.Ki).set i (.at_ b z' E m c cells))[i]? =some (.at_ b z' E m c cells):=by rw[P0 hlen]
  refine WL.Asv hs' hL1 hsz ha hx hv hl h1 hle rfl rfl (λw' hs2=>WL.nil ?_);have hs3:=hs2.Bgf (i:=i) (b:=b) (s:=z') (m:=m) (c:=c) (E:=E) (cs:=Bs cells off ns) (by rw[P0 (by simpa using hlen)]);rw[kW,kW]at hs3;exact hK w' (.own z' E (.slice (some ⟨b,0,none⟩) m c) (Bs cells off ns)) hs3 rfl
end Go.Rx
namespace Go.Rx
open Go Go.Lv
variable{a x:Operand}{m p:PV}{v:Value}
variable {P:Program} {B:Reg} {w w':World} {L L':List MD} {s:S} {σs:List Env} {σ:Env} {Z:Fix} {A A':Reg} {n:Nat} {ops:Array Oper} {rest:List Oper} {K:Env->World->Prop}
variable {R:Type} {k:S->Option R} {r:R} {d:Option Nat} {ty:TypeId} {pos:String} {after:Array Edge}
structure Frz (B:Reg) (w:World) (L:List MD) (i:Nat) (m:PV):Prop where
 enc:∀z E v c,L[i]? =some (.own z E v c)->Bk B w (L.set i .dead) m [v]
 isA:m.isA=false
 isV:m.isV=true
theorem yC{i:Nat}(hm:m.isA=false):(subst i m p).isA=p.isA:=by
 cases p<;>try rfl
 ·rename_i j;simp only[subst];cases hb:Nat.beq i j with
  |true=>exact hm
  |false=>rfl
 ·rename_i j q;simp only[subst];cases hb:Nat.beq i j<;>rfl
 ·rename_i o j q e lo n;simp only[subst];cases hb:Nat.beq i j<;>rfl
theorem tV{i j:Nat}(h:Nat.beq i j=false):(L.set i .dead)[j]? =L[j]? :=by
 rw[N6];intro e;subst e;simp at h
mutual
theorem iW{i:Nat}{m:PV}(hf:Frz B w L i m):∀{p:PV} {cs:List Value},Bk B w L p cs->Bk B w (L.set i .dead) (subst i m p) cs
 | .val _ x,cs,h=>h
 | .agg q,cs,h=>Bm5 hf (show Bk.go B w L q cs from h)
 | .tup _,_,h=>h.elim
 | .nils,cs,h=>h
 | .own j,cs,⟨z,E,v,c,h1,h2⟩=>by
  simp only[subst];cases hb:Nat.beq i j with
  |true=>
   have:=Di hb;subst this;rw[h2];exact hf.enc _ _ _ _ h1
  |false=>exact⟨z,E,v,c,by rw[tV hb];exact h1,h2⟩
 | .ptr j q,cs,⟨md,b,h1,h2,h3⟩=>by
  simp only[subst];cases hb:Nat.beq i j with
  |true=>exact⟨_,h3,rfl⟩
  |false=>exact⟨md,b,by rw[tV hb];exact h1,h2,h3⟩
 | .view o j q e lo n,cs,⟨md,v,h1,h2,h3⟩=>by
  simp only[subst];cases hb:Nat.beq i j with
  |true=>
   obtain⟨_,_,⟨pt,cap,e',_⟩,_⟩:=h3;exact⟨v,h2,by rw[e'];rfl⟩
  |false=>exact⟨md,v,by rw[tV hb];exact h1,h2,h3⟩
 | .rptr v,cs,⟨pv,c0,h1,h2,h3⟩=>by
  exact⟨pv,c0,h1,h2,iW hf h3⟩
 | .fn f caps,cs,⟨vs,h1,h2⟩=>⟨vs,h1,bT hf h2⟩
 | .cap _ _ _,cs,h=>h
 | .bfn f fs,cs,⟨vs,h1,h2⟩=>⟨vs,h1,bT hf h2⟩
 | .mp ks l,cs,⟨r,es,n,h1,h2,h3,h4,h5⟩=>⟨r,es,n,h1,h2,h3,h4,bT hf h5⟩
 | .cst v,cs,h=>h
 | .any,cs,h=>h
 | .gd _ _ _,_,h=>h.elim
 | .off,_,h=>h.elim
 | .undef,_,h=>h.elim
theorem Bm5{i:Nat}{m:PV}(hf:Frz B w L i m):∀{q:List PV} {cs:List Value},Bk.go B w L q cs->Bk.go B w (L.set i .dead) (subst.go i m q) cs
 |[],cs,h=>h
 |a::q,cs,⟨c1,c2,e',h1,h2⟩=>⟨c1,c2,e',iW hf h1,Bm5 hf h2⟩
theorem bT{i:Nat}{m:PV}(hf:Frz B w L i m):∀{q:List PV} {vs:List Value},Gp B w L q vs->Gp B w (L.set i .dead) (subst.go i m q) vs
 |[],vs,h=>h
 |a::q,vs,⟨v,vs',e',h1,h2⟩=>⟨v,vs',e',by rw[yC hf.isA];exact h1.mono λc h=>iW hf h,bT hf h2⟩
end
theorem Ain{i:Nat}(hf:Frz B w L i m)(h:Ln B w L p v):Ln B w (L.set i .dead) (subst i m p) v:=by
 unfold Ln;rw[yC hf.isA];exact asV.mono (λc h=>iW hf h) h
theorem Axn {i:Nat}(hf:Frz B w L i m)(h:Gi B w L p v):Gi B w (L.set i .dead) (subst i m p) v:=by
 cases hp:p.isP with
 |true=>exact(Mu (Ain hf ((lV hp).1 h))).2
 |false=>
  cases p
  case tup q=>obtain⟨vs,h1,h2⟩:=h;exact⟨vs,h1,bT hf h2⟩
  case undef=>exact(show False from h).elim
  case off=>exact(show False from h).elim
  case gd=>exact(show False from h).elim
  all_goals cases hp
theorem Ahq{i:Nat}(hf:Frz B w L i m){t:Nat}(h:Kh B w L σ t p):Kh B w (L.set i .dead) σ t (subst i m p):=by
 cases hv:p.isV with
 |true=>
  have h1:=Axn hf ((Kh.iff hv).1 h);have h2:(subst i m p).isV=true:=by
   cases p<;>first|rfl|cases hv|skip
   ·rename_i j;simp only[subst];cases Nat.beq i j;rfl;exact hf.isV
   ·rename_i j q;simp only[subst];cases Nat.beq i j<;>rfl
   ·rename_i o j q e lo n;simp only[subst];cases Nat.beq i j<;>rfl
  exact(Kh.iff h2).2 h1
 |false=>
  rcases BZ hv with rfl|rfl|⟨j,u,q,rfl⟩
  ·exact trivial
  ·exact h
  ·obtain⟨b,h1,h2,h3⟩:=h;exact⟨b,h1,λe=>Axn hf (h2 e),h3⟩
theorem Abe{i:Nat}(hf:Frz B w L i m){sl:Slots}(h:Ie B w L σ sl):Ie B w (L.set i .dead) σ (iN i m sl):=by
 intro p hp;obtain⟨q,hq,rfl⟩:=List.mem_map.1 hp;exact Ahq hf (h q hq)
theorem Acd{i:Nat}{m:PV}(hf:Frz B w L i m):∀{σs:List Env} {st:List Slots},lJ B w L σs st->lJ B w (L.set i .dead) σs (st.map (iN i m))
 |[],[],h=>h
 |_::_,_::_,⟨h1,h2⟩=>⟨Abe hf h1,Acd hf h2⟩
theorem Aiw{i:Nat}(hf:Frz B w L i m){a:Item}{md:MD}(h:EJ B w L a md):EJ B w (L.set i .dead) (Am1 i m a) md:=by
 cases a<;>cases md<;>first
  |exact h
  |exact⟨h.1,iW hf h.2⟩
theorem MemR.subst(hm:MemR B w L s σs σ){i:Nat}(hf:Frz B w L i m):MemR B w (L.set i .dead) ((s.Xz i .dead).sub i m) σs σ:=by
 refine⟨⟨?_,?_⟩,Abe hf hm.sl,Acd hf hm.stk⟩
 ·simp[S.sub,S.Xz,vW,hm.it.1]
 ·intro j a md g1 g2;simp only[S.sub,S.Xz,RY,X2]at g1;obtain⟨a0,g3,rfl⟩:=g1;rcases vT g3 with⟨rfl,rfl⟩|⟨g4,g5⟩
  ·trivial
  ·rw[N6 (LC g4)]at g2;exact Aiw hf (hm.it.2 j a0 md g5 g2)
theorem yZ(hr:Rel Z s σs A L σ w){i:Nat}{s':S}(h:s.freeze i=some s'):∃A',Rel Z s' σs A' (L.set i .dead) σ w/\∃E e l,Dj s.it i= .arr E e l/\s'=(s.Xz i .dead).sub i (.val (.list e) l):=by
 unfold S.freeze at h;split at h
 ·rename_i E e l hi;cases h;have hm:=hr.mem;obtain⟨v,cs,h1,h2⟩:=hm.arr hi;have hR:∀b,¬A b->Z.R b:=λb hb=>by
   rcases NC b Z.w0.heap.size with hlt|hge
   ·have hold:=(hr.fact 1 (f:= .old Z.M Z.w0) rfl).2 b hlt;exact Z.mod b (WY λhM=>hb (hold hM).1)
   ·exact Z.new b hge
  obtain⟨A',hA,hs'⟩:=St.freeze hr (hr.Ki h1) rfl Z.R hR;have hs2:=Ea.nY (hs'.a! 1 0) (bF (m':=MD.dead.Ki) (hr.Ki h1));have hm2:MemR (λb=>A' b/\Z.R b) w L s σs σ:=hs2.fact 1 rfl;have hrd:Rd (λb=>A' b/\Z.R b) w e.size v cs:=hs2.fact 0 (f:= .rd Z.R e.size v cs) rfl;have hall:=h2.mono (g:=Az (λb=>A' b/\Z.R b) w e) λx c h=>Az.step (λb hb=>⟨hA b hb.1,hb.2⟩) (λ_ _=>rfl) h;have hf:Frz (λb=>A' b/\Z.R b) w L i (.val (.list e) l):=⟨λz E' v' c' h=>by rw[h1]at h;cases h;exact⟨v,cs,rfl,hrd,hall⟩,rfl,rfl⟩;exact⟨A',Rel.as hs2 (i:=2) rfl (hm2.subst hf) (by rw[TU]),E,e,l,hi,rfl⟩
 ·cases h
theorem Vy:∀{is:List Nat} {s s':S} {A:Reg} {L:List MD},Rel Z s σs A L σ w->s.MR is=some s'->∃A' L',Rel Z s' σs A' L' σ w/\ (is=[]->s'=s/\A'=A/\L'=L)
 |[],s,s',A,L,hr,h=>by simp only[S.MR,D6]at h;subst h;exact⟨A,L,hr,λ_=>⟨rfl,rfl,rfl⟩⟩
 |i::is,s,s',A,L,hr,h=>by
  simp only[S.MR]at h;split at h
  ·obtain⟨A',L',h1,_⟩:=Vy hr h;exact⟨A',L',h1,λe=>by cases e⟩
  ·cases h
  ·split at h
   ·rename_i s1 h1;obtain⟨A1,h2,_⟩:=yZ hr h1;obtain⟨A',L',h3,_⟩:=Vy h2 h;exact⟨A',L',h3,λe=>by cases e⟩
   ·cases h
theorem Acm(h:uw p=true):p.isP=true:=by cases p<;>first|rfl|cases h
theorem YT{B:Reg}(hm:Ie B w L σ s.sl)(h:(Fh s.sl x).isP=true):Ln B w L (Fh s.sl x) (ev σ x):=(lV h).1 (Uo hm x (PV.UK h))
theorem Ail{s':S}(hr:Rel Z s σs A L σ w)(h:i? s a x=some s'):∃A' L',Rel Z s' σs A' L' σ w:=by
 unfold i? at h;split at h
 ·split at h
  ·obtain⟨A',L',h1,_⟩:=Vy hr h;exact⟨A',L',h1⟩
  ·cases h;exact⟨A,L,hr⟩
 ·cases h
theorem yL.step{B B':Reg}{w w':World}(hb:∀b,B b->B' b)(hs:Same B w w')(hl:pI L L'){a:Item}{cs:List Value}(h:yL B w L a cs):yL B' w' L' a cs:=by
 cases a with
 |dead=>exact h
 |box T v=>exact Bk.step hb hs hl h
 |arr E e l=>exact Cm.mono (λx c h=>Az.step hb hs h) h
def zu(R:Reg)(L:List MD)(a:Item)(cs:List Value):Fact where
 holds A w:=yL (λb=>A b/\R b) w L a cs
 step h ha hs _:=h.step (λb ⟨h1,h2⟩=>⟨ha b h1,h2⟩) (λb ⟨h1,_⟩=>hs b h1) (.refl L)
theorem Av3{t:TypeId}(hr:Rel Z s σs A L σ w)(h:oU P s t a x k=some r):
  FQ P n ops ⟨none, .store t a x,ty,pos,after,none⟩ Z s σs k r False A L σ w:=by
 unfold oU at h;split at h
 ·cases h
 ·rename_i s1 hs1;obtain⟨A1,L1,hr1⟩:=Ail hr hs1;have hm:=hr1.mem;split at h
  ·rename_i i p ha;split at h
   ·rename_i inf Xs;obtain⟨hb,h⟩:=Be h;simp only[CT]at hb;obtain⟨md,b,h1,h2,h3⟩:=ED (Dz hm.sl ha rfl);obtain⟨ns,h4,h5⟩:=ZT hr1 (YT hm.sl (Acm hb.1.1));have hne:Dj s1.it i≠ .dead:=by intro e;rw[e]at h;simp[uh]at h
    obtain⟨h6,h7⟩:=hm.root h1 hne;obtain⟨a',hk,h8,h9,h10⟩:=Ak5 h5 h h6;have hlen:=h5.len;have hz:=Di hb.1.2;have hz0:0<inf.size:=by simpa [Nat.blt_eq]using hb.2
    have hrF:=St.K4 (f:=zu Z.R L1 a' (Bs md.cells (Bc p) ns)) hr1 h9;refine Ar7 hrF h1 h2 ⟨inf,Xs,rfl⟩ h3 rfl h4 (hlen.trans hz.symm) (List.all_eq_true.2 (h5.one hr1.wZ)) (by rw[hz,<-hlen];exact h8) hz0 (λw' md' hs' hmd=>?_);have h11:yL (λb=>A1 b/\Z.R b) w' L1 a' (Bs md.cells (Bc p) ns):=hs'.fact 0 rfl;have hs2:=hs'.jl
    revert h7 h10
    cases hi:Dj s1.it i with
    |dead=>exact absurd hi hne
    |box T v0=>
     rintro⟨b0,c0,rfl⟩ h10;simp only[DZ]at hmd;subst hmd;have key:=pI.box (cs':=Bs (MD.box b0 c0 T).cells (Bc p) ns) h1;refine⟨_,A1,_,hk,Rel.change hs2 h1 key ?_,λh=>h.elim⟩;cases a' with
     |box T' v'=>simp only[sameKind]at h10;subst h10;exact⟨rfl,Bk.step (λ_ h=>h) (λ_ _=>rfl) key h11⟩
     |dead=>exact h11.elim
     |arr _ _ _=>exact h10.elim
    |arr E e l=>
     rintro⟨v0,c0,rfl⟩ h10;simp only[DZ]at hmd;subst hmd;have key:=pI.own (cs':=Bs (MD.own e.size E v0 c0).cells (Bc p) ns) h1;refine⟨_,A1,_,hk,Rel.change hs2 h1 key ?_,λh=>h.elim⟩;cases a' with
     |arr E' e' l'=>obtain⟨rfl,rfl⟩:=h10;exact⟨rfl,rfl,h11⟩
     |dead=>exact h11.elim
     |box _ _=>exact h10.elim
   ·cases h
  ·cases h
end Go.Rx
namespace Go.Rx
open Go Go.Lv
variable{x:Operand}{p:PV}{v:Value}
variable {P:Program} {B:Reg} {w w':World} {L L':List MD} {s:S} {σs:List Env} {σ:Env} {Z:Fix} {A A':Reg} {n:Nat} {ops:Array Oper} {rest:List Oper} {K:Env->World->Prop}
variable {R:Type} {k:S->Option R} {r:R} {d:Option Nat} {ty:TypeId} {pos:String} {after:Array Edge}
theorem bY{t:TypeId}(h:zeroOf P t=some p):∃z,(∃i,P.info? t=some i/\i.zero=some z)/\∀(B:Reg) (w:World) (L:List MD),Bk B w L p z.cells.toList:=by
 unfold zeroOf at h;split at h
 ·rename_i i hi;split at h
  ·rename_i z hz;exact⟨z,⟨i,hi,hz⟩,λB w L=>yU h⟩
  ·cases h
 ·cases h
theorem Ant{md:MD}{b:Nat}(hb:md.base=some b){B:Reg}:Gi B w (L++[md]) (.ptr L.length []) (.pointer (some ⟨b,0,none⟩)):=⟨md,b,B7,hb,rfl⟩
theorem D7{z:Nat}{E:TypeId}{c:List Value}{B:Reg}:Gi B w (L++[.own z E v c]) (.own L.length) v:=⟨z,E,v,c,B7,rfl⟩
theorem Rel.len(hr:Rel Z s σs A L σ w):s.it.length=L.length:=hr.mem.it.1
theorem Rel.lt(hr:Rel Z s σs A L σ w):∀b,A b->b<w.heap.size:=St.lt hr
def ql(A0:Reg)(w0:World):Fact where
 holds A w:=(∀b,A0 b->A b)/\Same A0 w0 w
 step h ha hs _:=⟨λb hb=>ha b (h.1 b hb),λb hb=>(hs b (h.1 b hb)).trans (h.2 b hb)⟩
theorem Rel.same(hr:Rel Z s σs A L σ w):St A w [ql A w,Pp Z.R L s σs σ, .old Z.M Z.w0] (L.map MD.Ki):=St.K4 (f:=ql A w) hr ⟨λ_ h=>h,λ_ _=>rfl⟩
theorem kD{w':World}{A':Reg}{a:Item}{md:MD}{dn:Nat}{G:Prop}(hr:Rel Z s σs A L σ w)(hs:St A' w' [ql A w,Pp Z.R L s σs σ, .old Z.M Z.w0] (md.Ki::L.map MD.Ki))
  (ha:EJ (λb=>A' b/\Z.R b) w' (L++[md]) a md) (hv:p.isV=true) (hp:∀B,Gi B w' (L++[md]) p v) (hk:k ((s.add a).Ij (some dn) p)=some r):
  y? Z σs k r G A L s.it w (Xz σ dn v) w':=by
 obtain⟨h1,h2⟩:(∀b,A b->A' b)/\Same A w w':=hs.fact 0 rfl;have hr':=Rel.push hs.jl ha;exact⟨_,A',L++[md],hk,hr'.Ij (d:=some dn) hv (hp _),λ_=>⟨h1,h2,⟨[md],rfl⟩,⟨[a],rfl⟩⟩⟩
theorem cJ{o:Op}{dn:Nat}(h:Ng n ⟨some dn,o,ty,pos,after,none⟩=true):Nat.blt dn n=true:=h
theorem Ath{t:TypeId}{v:PV}{dn:Nat}{G:Prop}(hr:Rel Z s σs A L σ w)(hd:Ng n ⟨some dn, .alloc t,ty,pos,after,none⟩=true)(hz:zeroOf P t=some v)
  (hk:k ((s.add (.box t v)).Ij (some dn) (.ptr s.new []))=some r):FQ P n ops ⟨some dn, .alloc t,ty,pos,after,none⟩ Z s σs k r G A L σ w:=by
 obtain⟨z,h1,h2⟩:=bY hz;refine WL.alloc (cells:=z.cells.toList) hr.same (cJ hd) h1 B7 (λb w' hs'=>WL.nil ?_);refine kD (a:= .box t v) (md:= .box b z.cells.toList t) hr hs' ⟨rfl,h2 _ _ _⟩ rfl (λB=>?_) hk;rw[S.new,hr.len];exact Ant rfl
theorem Bcx{t:TypeId}{dn:Nat}{G:Prop}(hr:Rel Z s σs A L σ w)(hd:Ng n ⟨some dn, .box t x,ty,pos,after,none⟩=true)(hx:uw (Fh s.sl x)=true)
  (hk:k ((s.add (.box t (Fh s.sl x))).Ij (some dn) (.ptr s.new []))=some r):FQ P n ops ⟨some dn, .box t x,ty,pos,after,none⟩ Z s σs k r G A L σ w:=by
 obtain⟨cs,h1,h2⟩:=ZT hr (YT hr.mem.sl (Acm hx));have hF:=St.K4 (f:=zu Z.R L (.box t (Fh s.sl x)) cs) hr.same h2;refine WL.box hF (cJ hd) rfl h1 (λb w' hs'=>WL.nil ?_);have h3:yL (λb=>A b/\Z.R b) w' L (.box t (Fh s.sl x)) cs:=hs'.fact 0 rfl;refine kD (a:= .box t (Fh s.sl x)) (md:= .box b cs t) hr hs'.jl ⟨rfl,Bk.step (λ_ h=>h) (λ_ _=>rfl) (pI.append _ _) h3⟩ rfl (λB=>?_) hk;rw[S.new,hr.len];exact Ant rfl
theorem dZ{a t e:TypeId}{l:List UInt8}{dn:Nat}{G:Prop}(hr:Rel Z s σs A L σ w)(hd:Ng n ⟨some dn, .convert a t x,ty,pos,after,none⟩=true)(ha:P.underlying a=some .string)(ht:P.underlying t=some (.slice e))
  (he:P.underlying e=some (.int .u8)) (hx:Fh s.sl x= .val .str l) (hk:k ((s.add (.arr e (.int .u8) l)).Ij (some dn) (.own s.new))=some r):FQ P n ops ⟨some dn, .convert a t x,ty,pos,after,none⟩ Z s σs k r G A L σ w:=by
 refine WL.s2b ha ht he hr.same (cJ hd) (Wo hr.mem.sl hx) (λp m c w' hs'=>WL.nil ?_);refine kD (a:= .arr e (.int .u8) l) (md:= .own 1 e (.slice p m c) (VQ l)) hr hs' ⟨rfl,rfl,ZP⟩ rfl (λB=>?_) hk;rw[S.new,hr.len];exact D7
where ZP:∀{B:Reg} {w:World} {l:List UInt8},Cm (Az B w (.int .u8)) l (VQ l)
 |_,_,[]=>rfl
 |_,_,x::l=>⟨[iv x],VQ l,rfl,rfl,ZP⟩
theorem Ax8{t e E:TypeId}{i:Nat}{y:UInt8}{ys:List UInt8}{dn:Nat}{G:Prop}(hr:Rel Z s σs A L σ w)(hd:Ng n ⟨some dn, .convert t t x,ty,pos,after,none⟩=true)(ht:P.underlying t=some (.slice e))
  (he:P.underlying e=some (.int .u8)) (hx:Fh s.sl x= .own i) (hi:Dj s.it i= .arr E (.int .u8) (y::ys)) (hk:k (s.Ij (some dn) (.own i))=some r):FQ P n ops ⟨some dn, .convert t t x,ty,pos,after,none⟩ Z s σs k r G A L σ w:=by
 obtain⟨v,cs,h1,h2⟩:=hr.mem.arr hi;have hne:0<cs.length:=by
  obtain⟨c,c',e1,e2,_⟩:=h2;rw[e1,CR];have:c.length=(ET.int .u8).size:=Az.len e2;rw[this];have:(ET.int Kd.u8).size=1:=rfl;omega
 have hvr:Gi (λb=>A b/\Z.R b) w L (.own i) (ev σ x):=by
  have:=Dz hr.mem.sl hx rfl;exact this
 have hev:ev σ x=v:=by
  obtain⟨z,E',v',c,g1,g2⟩:=hvr;rw[h1]at g1;cases g1;simpa using g2
 have hL:(L.map MD.Ki)[i]? =some (.own 1 E v cs):=by rw[RY,h1];rfl
 refine WL.Bhd ht he hr.same hL hne (cJ hd) hev (λw' hs'=>WL.nil ?_);obtain⟨g1,g2⟩:(∀b,A b->A b)/\Same A w w':=hs'.fact 0 rfl;have hr':Rel Z s σs A L σ w':=hs'.jl;exact⟨_,A,L,hk,hr'.Ij (d:=some dn) (p:= .own i) rfl ⟨_,_,_,_,h1,rfl⟩,λ_=>⟨g1,g2,⟨[],B7⟩,⟨[],by simp[S.Ij,S.set]⟩⟩⟩
theorem U3{t:TypeId}{e:ET}(h:H! P t e=true):ElemOk P t e.size:=by
 unfold H! at h;split at h
 ·rename_i i hi;simp only[CT]at h;obtain⟨⟨⟨h1,h2⟩,h3⟩,h4⟩:=h;split at h3
  ·rename_i z hz;exact⟨⟨i,z,hi,Di h1,hz,Di h3,M0 h2⟩,by have:=M0 h4;omega⟩
  ·cases h3
 ·cases h
theorem jA{t E:TypeId}(h:U9 P t=some E):P.underlying t=some (.slice E):=by
 unfold U9 at h;split at h
 ·rename_i e he;cases h;exact he
 ·cases h
theorem oS{e:ET}{x:e.T}{c:List Value}(h:Az B w e x c):∀m,Cm (Az B w e) (List.replicate m x) (List.replicate m c).flatten
 |0=>rfl
 |m+1=>⟨c,(List.replicate m c).flatten,rfl,h,oS h m⟩
theorem Az3{t:TypeId}{a b:Operand}{dn:Nat}{G:Prop}(hr:Rel Z s σs A L σ w)(hd:Ng n ⟨some dn, .makeSlice t a b,ty,pos,after,none⟩=true)(h:pO P s (some dn) t a b k=some r):
  FQ P n ops ⟨some dn, .makeSlice t a b,ty,pos,after,none⟩ Z s σs k r G A L σ w:=by
 unfold pO at h;split at h
 ·cases h
 ·rename_i E hE;split at h
  ·cases h
  ·rename_i e he;obtain⟨hb,h⟩:=Be h;split at h
   ·rename_i m m' z hm hm' hz;split at h
    ·rename_i x hx;obtain⟨l,hl,h⟩:=bind_some h;obtain⟨_,hq,h⟩:=bind_some h;obtain⟨h1,h2,rfl⟩:=Ag6 hl;have h3:m'=m:=by have:=BM hq;simpa [geq,GI.toZ]using this
     subst h3;obtain⟨zv,hz1,hz2⟩:=bY hz;have ea:=zi hm (Uo hr.mem.sl a (o_ hm));have eb:=zi hm' (Uo hr.mem.sl b (o_ hm'));refine WL.makeSlice (jA hE) (U3 hb) hz1 (zs:=zv.cells.toList) B7 hr.same (cJ hd) (m:=m'.toNat) (by rw[<-h1];exact ea) (by rw[<-h1];exact eb) h2 (λp q c w' hs'=>WL.nil ?_);refine kD (a:= .arr E e (List.replicate m'.toNat x)) (md:= .own e.size E (.slice p q c) (List.replicate m'.toNat zv.cells.toList).flatten) hr hs' ⟨rfl,rfl,oS (bR hx (hz2 _ _ (L++[]))) _⟩ rfl (λB=>?_) h;rw[S.new,hr.len];exact D7
    ·cases h
   ·cases h
end Go.Rx
namespace Go.Rx
open Go Go.Lv
variable{vw:Bool}{e:ET}{x y:Operand}{p:PV}{v:Value}
variable {P:Program} {B:Reg} {w w':World} {L L':List MD} {s:S} {σs:List Env} {σ:Env} {Z:Fix} {A A':Reg} {n:Nat} {ops:Array Oper} {rest:List Oper} {K:Env->World->Prop}
variable {R:Type} {k:S->Option R} {r:R} {d:Option Nat} {ty:TypeId} {pos:String} {after:Array Edge}
theorem y?.of{G:Prop}{s1:S}{A1:Reg}{L1:List MD}{σ':Env}(h:G->s1=s/\A1=A/\L1=L)(hp:y? Z σs k r G A1 L1 s1.it w σ' w'):y? Z σs k r G A L s.it w σ' w':=by
 obtain⟨s',A',L',h1,h2,h3⟩:=hp;refine⟨s',A',L',h1,h2,λg=>?_⟩;obtain⟨e1,e2,e3⟩:=h g;subst e1 e2 e3;exact h3 g
theorem isEmpty_nil{α:Type}{l:List α}(h:l.isEmpty=true):l=[]:=by cases l<;>simp_all
theorem pH{z:Nat}(h:Nat.ble 1 z=true):0<z:=by have:=M0 h;omega
theorem Rel.rU(hr:Rel Z s σs A L σ w){i z:Nat}{E:TypeId}{cs:List Value}(h:L[i]? =some (.own z E v cs)):
  ∃q len cap,v= .slice q len cap/\cs.length=len*z/\len<=cap/\ (q=none->cap=0)/\ (0<cap->∃b,q=some ⟨b,0,none⟩/\ (MD.own z E v cs).base=some b):=by
 obtain⟨o,q,len,cap,h1,h2,h3,h4,h5,h6⟩:=Ea.mem (A:=A) (St.mobs hr) (hr.Ki h);refine⟨q,len,cap,h1,h2,h3,h4,λhc=>?_⟩;cases o with
 |none=>have:=h5 rfl;omega
 |some b=>
  obtain⟨arr,fr,e1,_⟩:=h6 b rfl;subst h1 e1;exact⟨b,rfl,rfl⟩
theorem X.Q3{t e:TypeId}{z len cap a b:Nat}{p:Option Addr}{lo hi:Option Operand}(ht:P.underlying t=some (.slice e))(hsz:Lu P e z)(h1:a<=b)(h2:b<=len)(h3:len<=cap)(hx:ev σ x= .slice p len cap)
  (hlo:(∃q,lo.map (ev σ)=some (.int q (a:Int)))\/ (lo=none/\a=0)) (hhi:(∃q,hi.map (ev σ)=some (.int q (b:Int)))\/ (hi=none/\b=len)):
  XO P σ w (.slice t x lo hi none) (.slice (if cap=a then p else p.map (·.add (a*z))) (b-a) (cap-a)):=λ_ _ _ _ _=>by
 have hr:=zR (P:=P) (w:=w) (p:=p) (vlo:=lo.map (ev σ)) (vhi:=hi.map (ev σ)) ht hsz h1 h2 h3 (by rcases hlo with h|⟨h,h'⟩;exact .inl h;exact .inr ⟨by rw[h];rfl,h'⟩)
   (by rcases hhi with h|⟨h,h'⟩;exact .inl h;exact .inr ⟨by rw[h];rfl,h'⟩)
 simp only[execOp,hx,Instr.sliceAt,E_,EE ht,EN,TQ,hr,H8]
theorem X.zl{t u e:TypeId}{z m a b:Nat}{ad:Addr}{lo hi:Option Operand}(ht:iA P t=some (u,m,e))(hsz:Lu P e z)(h1:a<=b)(h2:b<=m)(hx:ev σ x= .pointer (some ad))
  (hlo:(∃q,lo.map (ev σ)=some (.int q (a:Int)))\/ (lo=none/\a=0)) (hhi:(∃q,hi.map (ev σ)=some (.int q (b:Int)))\/ (hi=none/\b=m)):
  XO P σ w (.slice t x lo hi none) (.slice (some (if m=a then ad else ad.add (a*z))) (b-a) (m-a)):=λ_ _ _ _ _=>by
 have hlo':(∃q,lo.map (ev σ)=some (.int q (a:Int)))\/ (lo.map (ev σ)=none/\a=0):=hlo.imp id λh=>⟨by rw[h.1];rfl,h.2⟩;have hhi':(∃q,hi.map (ev σ)=some (.int q (b:Int)))\/ (hi.map (ev σ)=none/\b=m):=hhi.imp id λh=>⟨by rw[h.1];rfl,h.2⟩;unfold iA at ht;split at ht
 ·rename_i m' et hu;cases ht;simp only[execOp,hx,Instr.sliceAt,E_,EE hu,EN,TQ];generalize lo.map (ev σ)=vlo at hlo'⊢;generalize hi.map (ev σ)=vhi at hhi'⊢;clear hlo hhi;rcases hlo' with⟨q,rfl⟩|⟨rfl,rfl⟩<;>rcases hhi' with⟨q',rfl⟩|⟨rfl,rfl⟩<;>
   simp[Instr.sureAddr,Instr.sliceBounds,Instr.sliceBound,asIntOf,Cj hsz,h1,h2]
 ·rename_i u' hp;split at ht
  ·rename_i m' et hu;cases ht;simp only[execOp,hx,Instr.sliceAt,E_,EE hp,EN,TQ];generalize lo.map (ev σ)=vlo at hlo'⊢;generalize hi.map (ev σ)=vhi at hhi'⊢;clear hlo hhi;rcases hlo' with⟨q,rfl⟩|⟨rfl,rfl⟩<;>rcases hhi' with⟨q',rfl⟩|⟨rfl,rfl⟩<;>
    simp[Instr.slice,EE hp,EE hu,Instr.sliceBounds,Instr.sliceBound,asIntOf,Cj hsz,h1,h2,asAddr]
  ·cases ht
 ·cases ht
theorem Azz{t et:TypeId}{lo hi:Option Operand}{G:Prop}(hr:Rel Z s σs A L σ w)(hd:Ng n ⟨d, .slice t x lo hi none,ty,pos,after,none⟩=true)(ht:P.underlying t=some (.slice et))(h:qV P s d et (Fh s.sl x) lo hi k=some r):
  FQ P n ops ⟨d, .slice t x lo hi none,ty,pos,after,none⟩ Z s σs k r G A L σ w:=by
 have hm:=hr.mem;unfold qV at h;split at h
 ·cases h
 ·rename_i inf Xs;split at h
  ·rename_i i hx;split at h
   ·rename_i E e l hi';obtain⟨hb,h⟩:=Be h;simp only[CT]at hb;split at h
    ·rename_i a b ha hb';obtain⟨_,hok,h⟩:=bind_some h;have hab:0<=a/\a<=b/\b<=Ac l:=NT (BM hok);obtain⟨u,cs,h1,h2⟩:=hm.arr hi';obtain⟨z',E',c',h3⟩:=UB (Dz hm.sl hx rfl);rw[h1]at h3;have h3':=h3;cases h3;obtain⟨q,len,cap,g1,g2,g3,g4,g5⟩:=hr.rU h1;have hz:0<e.size:=by have:=M0 hb.2;omega
     have hl:len=l.length:=K8 hz (g2.symm.trans (h2.len λx c h=>Az.len h));obtain⟨a1,ha1⟩:=HU hab.1;obtain⟨b1,hb1⟩:=HU (show 0<=b by omega);subst ha1 hb1;have hbl:b1<=len:=by rw[hl];have:=hab.2.2;unfold Ac at this;omega
     have hxo:=X.Q3 (P:=P) (σ:=σ) (w:=w) (x:=x) (lo:=lo) (hi:=hi) (a:=a1) (b:=b1) ht (Hc Xs hb.1) F0 hbl g3 g1
      (by rcases Pn hm.sl ha with h|⟨h,h'⟩;exact .inl h;exact .inr ⟨h,F0⟩) (by rcases Pn hm.sl hb' with h|⟨h,h'⟩;exact .inl h;exact .inr ⟨h,by unfold Ac at h';omega⟩)
     rw[g1]at h1;refine Fg (p:= .view true i [] e a1 (b1-a1)) hr hd hxo rfl ⟨_,_,h1,rfl,F0,F0,⟨_,_,by rw[show((b1:Int)-a1).toNat=b1-a1 by omega],F0,λhn=>?_,λhc=>?_⟩,
      (λ_=>⟨_,_,q,len,cap,cs,rfl,rfl,F0,λpt m c' hv=>?_,λh0=>?_⟩),(λh=>by cases h)⟩ h
     ·split at hn
      ·omega
      ·have:q=none:=by simpa using hn
       have:=g4 this;omega
     ·obtain⟨bb,e1,e2⟩:=g5 F0;rw[g1]at e2;refine⟨bb,e2,?_⟩;rw[B! F0,e1];simp[Sm,Bc]
     ·cases hv;simp only[F!];omega
     ·have ha0:a1=0:=F0
      subst ha0;rw[show((b1:Int)-(0:Nat)).toNat=b1 by omega];simp only[cM];congr 1;split
      ·rfl
      ·by_cases hc:0<cap
       ·obtain⟨bb,e1,_⟩:=g5 hc;rw[e1];simp[Sm]
       ·omega
    ·cases h
   ·cases h
  ·rename_i o i p e l0 n' hx;obtain⟨hb,h⟩:=Be h;simp only[CT]at hb;split at h
   ·rename_i a b ha hb';obtain⟨_,hok,hk⟩:=bind_some h;have hab:0<=a/\a<=b/\b<=n':=NT (BM hok);obtain⟨md,v1,h3,h4,k1,k2,⟨pt,cap,k3,k4,k5,k6⟩,k7,k8⟩:=Dz hm.sl hx rfl;have h6:ev σ x=v1:=by simpa using h4
    obtain⟨a1,ha1⟩:=HU hab.1;obtain⟨b1,hb1⟩:=HU (show 0<=b by omega);obtain⟨l1,hl1⟩:=HU k1;obtain⟨n1,hn1⟩:=HU k2;subst ha1 hb1 hl1 hn1;simp only[F!]at k3 k4 k6 k7;have hxo:=X.Q3 (P:=P) (σ:=σ) (w:=w) (x:=x) (lo:=lo) (hi:=hi) (a:=a1) (b:=b1) ht (Hc Xs hb.1) F0 F0 k4 (h6.trans k3)
     (by rcases Pn hm.sl ha with h|⟨h,h'⟩;exact .inl h;exact .inr ⟨h,F0⟩) (by rcases Pn hm.sl hb' with h|⟨h,h'⟩;exact .inl h;exact .inr ⟨h,F0⟩)
    have e0:((l1:Int)+a1).toNat=l1+a1:=F0
    refine Fg (p:= .view o i p e (l1+a1) (b1-a1)) hr hd hxo rfl ⟨md,_,h3,rfl,F0,F0,⟨_,_,by rw[show((b1:Int)-a1).toNat=b1-a1 by omega],F0,λhn=>?_,λhc=>?_⟩,(λho=>?_),k8⟩ hk
    ·split at hn
     ·omega
     ·have:pt=none:=by simpa using hn
      have:=k5 this;omega
    ·obtain⟨bb,e1,e2⟩:=k6 F0;refine⟨bb,e1,?_⟩;rw[B! F0,e2,e0];simp[Sm,E9,I!]
    ·obtain⟨s',E',q,len,cap0,c0,e1,e2,e3,e4,e5⟩:=k7 ho;have e6:=e4 _ _ _ k3;refine⟨s',E',q,len,cap0,c0,e1,e2,F0,λpt' m c' hv=>?_,λh0=>?_⟩
     ·cases hv;omega
     ·have h00:l1=0/\a1=0:=F0
      obtain⟨rfl,rfl⟩:=h00;have e7:=e5 rfl;rw[k3]at e7;cases e7;rw[show((b1:Int)-(0:Nat)).toNat=b1 by omega];simp only[cM];congr 1;split
      ·rfl
      ·by_cases hc:0<cap
       ·obtain⟨bb,_,e8⟩:=k6 hc;rw[e8];simp[Sm]
       ·omega
   ·cases h
  ·cases h
theorem At1{t:TypeId}{lo hi:Option Operand}{G:Prop}(hr0:Rel Z s σs A L σ w)(hd:Ng n ⟨d, .slice t x lo hi none,ty,pos,after,none⟩=true)(h:oO vw s d t x lo hi k P=some r)(hG:G-> (owns (Fh s.sl x)).isEmpty=true):
  FQ P n ops ⟨d, .slice t x lo hi none,ty,pos,after,none⟩ Z s σs k r G A L σ w:=by
 unfold oO at h;split at h
 ·rename_i ht;split at h
  ·rename_i l hx;split at h
   ·rename_i a b ha hb;obtain⟨y,hy,h⟩:=bind_some h;exact Fg (p:= .val .str y) hr0 hd (X.Bgj ht (Wo hr0.mem.sl hx) hy (Pn hr0.mem.sl ha) (Pn hr0.mem.sl hb)) rfl rfl h
   ·cases h
  ·cases h
 ·rename_i et ht;cases hvw:(vw&&Ahw (Fh s.sl x))with
  |true=>
   rw[hvw]at h;exact Azz hr0 hd ht h
  |false=>
  rw[hvw]at h;dsimp only[Dk,cond]at h;split at h
  ·cases h
  ·rename_i s1 hs1;obtain⟨A1,L1,hr,hsame⟩:=Vy hr0 hs1;have hm:=hr.mem;split at h
   ·rename_i e0 l0 hx;split at h
    ·rename_i e l;split at h
     ·rename_i inf Xs;obtain⟨hb,h⟩:=Be h;simp only[CT]at hb;split at h
      ·rename_i a b ha hb';obtain⟨y,hy,h⟩:=bind_some h;obtain⟨h1,h2,h3,h4,rfl⟩:=YM hy;obtain⟨c0,h5,h6⟩:=HF (Dz hm.sl hx rfl);have hlen:=h6.len λx c h=>Az.len h;obtain⟨p',l',c',h7,h8⟩:=X.Aia (P:=P) (l:=a.toNat) (k:=b.toNat) (m:=l.length) ht (Hc Xs hb.1) (St.qj hr h5) (j:=0) rfl hlen (pH hb.2) h3 h4;have hxo:=h7 σ w x lo hi rfl (by rcases Pn hm.sl ha with h|⟨h,h'⟩;exact .inl (by rw[<-h1];exact h);exact .inr ⟨h,F0⟩)
        (by rcases Pn hm.sl hb' with h|⟨h,h'⟩;exact .inl (by rw[<-h2];exact h);exact .inr ⟨h,by rw[h'];simp[Ac]⟩)
       have hv:Gi (λb=>A1 b/\Z.R b) w L1 (.val (.list e) ((l.take b.toNat).drop a.toNat)) (.slice p' l' c'):=
        wR (h8.fact 0 rfl) (Cm.drop (λx c h=>Az.len h) _ (Cm.take (λx c h=>Az.len h) _ h6))
       refine WL.SY rfl hd (hxo _ _ _ _ _) (WL.nil ⟨_,A1,L1,h,hr.Ij rfl hv,λg=>?_⟩);obtain⟨e1,e2,e3⟩:=hsame (isEmpty_nil (hG g));subst e1 e2 e3;have:(s1.Ij d (.val (.list e) ((l.take b.toNat).drop a.toNat))).it=s1.it:=by cases d<;>rfl
       rw[this];exact .refl
      ·cases h
     ·cases h
    ·cases h
   ·rename_i hx;split at h
    ·rename_i inf a b Xs ha hb';obtain⟨_,hok,hk⟩:=bind_some h;have hab:0<=a/\a<=b/\b<=0:=NT (BM hok);have ha0:a=0:=F0
     have hb0:b=0:=F0
     subst ha0 hb0;have hv:=OW (Dz hm.sl hx rfl);have hxo:=X.Q3 (P:=P) (σ:=σ) (w:=w) (x:=x) (lo:=lo) (hi:=hi) (a:=0) (b:=0) (z:=inf.size) ht ⟨inf,Xs,rfl⟩ (E1 _) (E1 _) (E1 _) hv
      (by rcases Pn hm.sl ha with h|⟨h,h'⟩;exact .inl h;exact .inr ⟨h,rfl⟩) (by rcases Pn hm.sl hb' with h|⟨h,h'⟩;exact .inl h;exact .inr ⟨h,rfl⟩)
     refine WL.SY rfl hd (hxo _ _ _ _ _) (WL.nil ⟨_,A1,L1,hk,hr.Ij rfl rfl,λg=>?_⟩);obtain⟨e1,e2,e3⟩:=hsame (isEmpty_nil (hG g));subst e1 e2 e3;have:(s1.Ij d .nils).it=s1.it:=by cases d<;>rfl
     rw[this];exact .refl
    ·cases h
   ·cases h
 ·split at h
  ·rename_i u m et hat;split at h
   ·cases h
   ·rename_i inf Xs;split at h
    ·rename_i i p hx;split at h
     ·rename_i T v hit;split at h
      ·rename_i e0 l0 hg;split at h
       ·rename_i m' e l;obtain⟨hb,h⟩:=Be h;simp only[CT]at hb;split at h
        ·rename_i a b ha hb';obtain⟨_,hok,hk⟩:=bind_some h;have hab:0<=a/\a<=b/\b<=m:=NT (BM hok);have hm:=hr0.mem;obtain⟨md,bb,h1,h2,h3⟩:=ED (Dz hm.sl hx rfl);obtain⟨a1,ha1⟩:=HU hab.1;obtain⟨b1,hb1⟩:=HU (show 0<=b by omega);subst ha1 hb1;have hxo:=X.zl (P:=P) (σ:=σ) (w:=w) (x:=x) (lo:=lo) (hi:=hi) (a:=a1) (b:=b1) hat (Hc Xs hb.1.2) F0 F0 h3
          (by rcases Pn hm.sl ha with h|⟨h,h'⟩;exact .inl h;exact .inr ⟨h,F0⟩) (by rcases Pn hm.sl hb' with h|⟨h,h'⟩;exact .inl h;exact .inr ⟨h,F0⟩)
         refine Fg (p:= .view false i p e a1 (b1-a1)) hr0 hd hxo rfl ⟨md,_,h1,rfl,F0,F0,⟨_,_,(by rw[show((b1:Int)-a1).toNat=b1-a1 by omega]),F0,(λh=>by cases h),λhc=>⟨bb,h2,?_⟩⟩,(λh=>by cases h),λ_=>⟨bb,h2⟩⟩ hk;rw[B! F0,Sm];rfl
        ·cases h
       ·cases h
      ·cases h
     ·cases h
    ·cases h
  ·cases h
theorem Ar0{t:TypeId}{hi mx:Operand}{lo:Option Operand}{G:Prop}(hr0:Rel Z s σs A L σ w)(hd:Ng n ⟨d, .slice t x lo (some hi) (some mx),ty,pos,after,none⟩=true)(h:g_ vw s d t x lo hi mx k P=some r)(hG:G-> (owns (Fh s.sl x)).isEmpty=true):
  FQ P n ops ⟨d, .slice t x lo (some hi) (some mx),ty,pos,after,none⟩ Z s σs k r G A L σ w:=by
 unfold g_ at h;split at h
 ·rename_i et ht;split at h
  ·cases h
  ·rename_i s1 hs1;obtain⟨A1,L1,hr,hsame⟩:=Vy hr0 hs1;have hm:=hr.mem;split at h
   ·rename_i e0 l0 hx;split at h
    ·rename_i e l;split at h
     ·rename_i inf Xs;obtain⟨hb,h⟩:=Be h;simp only[CT]at hb;split at h
      ·rename_i a b c ha hb' hc';obtain⟨_,hok,h⟩:=bind_some h;have hbc:b<=c/\c<=Ac l:=NT (BM hok);obtain⟨y,hy,h⟩:=bind_some h;obtain⟨h1,h2,h3,h4,rfl⟩:=YM hy;obtain⟨c0,h5,h6⟩:=HF (Dz hm.sl hx rfl);have hlen:=h6.len λx c h=>Az.len h;obtain⟨q1,hq1⟩:=RV hb' (Uo hm.sl hi (dR hb'));obtain⟨q2,hq2⟩:=RV hc' (Uo hm.sl mx (dR hc'));unfold Ac at hbc;obtain⟨p',l',c',h7,h8,hc9⟩:=X.Ap7 (P:=P) (l:=a.toNat) (k:=b.toNat) (c:=c.toNat) (m:=l.length) ht (Hc Xs hb.1) (St.qj hr h5) (j:=0) rfl hlen (pH hb.2) h3 F0 F0;have hxo:=h7 σ w x lo hi mx rfl (by rcases Pn hm.sl ha with h|⟨h,h'⟩;exact .inl (by rw[<-h1];exact h);exact .inr ⟨h,F0⟩)
        ⟨q1,by rw[hq1,<-h2]⟩ ⟨q2,by rw[hq2,show((c.toNat:Nat):Int)=c by omega]⟩
       have hall:Cm (Az (λb=>A1 b/\Z.R b) w e) ((l.take b.toNat).drop a.toNat) ((c0.take (b.toNat*e.size)).drop (a.toNat*e.size)):=Cm.drop (λx c h=>Az.len h) _ (Cm.take (λx c h=>Az.len h) _ h6);have hv:Gi (λb=>A1 b/\Z.R b) w L1 (Dk vw (.cap e ((l.take b.toNat).drop a.toNat) (c-a))<| .val (.list e) ((l.take b.toNat).drop a.toNat)) (.slice p' l' c'):=by
        cases vw with
        |true=>exact⟨_,_,rfl,h8.fact 0 rfl,hall,F0,p',l',by rw[hc9];congr 1;omega⟩
        |false=>exact wR (h8.fact 0 rfl) hall
       have hV:(Dk vw (PV.cap e ((l.take b.toNat).drop a.toNat) (c-a))<| .val (.list e) ((l.take b.toNat).drop a.toNat)).isV=true:=by cases vw<;>rfl
       refine WL.SY rfl hd (hxo _ _ _ _ _) (WL.nil ⟨_,A1,L1,h,hr.Ij hV hv,λg=>?_⟩);obtain⟨e1,e2,e3⟩:=hsame (isEmpty_nil (hG g));subst e1 e2 e3;have:∀q,(s1.Ij d q).it=s1.it:=λq=>by cases d<;>rfl
       rw[this];exact .refl
      ·cases h
     ·cases h
    ·cases h
   ·cases h
 ·cases h
theorem Bhp{x:e.T}(h:e.of p=some x):p.isP=true:=by
 unfold ET.of YV at h;split at h
 ·rfl
 ·rfl
 ·rfl
 ·cases h
theorem xZ{e:ET}(hr:Rel Z s σs A L σ w):∀{xs:List Operand} {l:List e.T},UF e (xs.map (Fh s.sl))=some l->
  Cm (Az (λb=>A b/\Z.R b) w e) l ((xs.map (ev σ)).map λv:Value=>v.cells.toList).flatten/\l.length=xs.length/\∀v∈xs.map (ev σ),v.cells.size=e.size
 |[],l,h=>by simp only[Y!,UF,D6]at h;subst h;exact⟨rfl,rfl,B7⟩
 |x::xs,l,h=>by
  simp only[J8,UF]at h;split at h
  ·rename_i y ys hy hys;cases h;obtain⟨h1,h2,h3⟩:=xZ hr hys;obtain⟨cs,h4,h5⟩:=ZT hr (YT hr.mem.sl (x:=x) (Bhp hy));have h6:=bR hy h5;refine⟨⟨cs,_,by simp[h4],h6,h1⟩,by simp[h2],λv hv=>?_⟩;simp only[J8,Xn]at hv;rcases hv with rfl|hv
   ·rw[h4];simpa using h6.len
   ·exact h3 v hv
  ·cases h
theorem Air:∀{ps:List (Nat×Operand)} {m:Nat},iI m ps=true-> (ps.map λp=>(p.1,ev σ p.2))=(((ps.map Prod.snd).map (ev σ)).zipIdx m).map λp=>(p.2,p.1)
 |[],_,_=>rfl
 |(i,x)::ps,m,h=>by
  simp only[iI,CT]at h;simp only[J8,uM,Air h.2,Di h.1]
theorem Bpz {t:TypeId}{len:Nat}{ps:Array (Nat×Operand)}{dn:Nat}{G:Prop}(hr0:Rel Z s σs A L σ w)(hd:Ng n ⟨some dn, .buildSlice t len ps,ty,pos,after,none⟩=true)
  (h:nH P s (some dn) t len ps.toList k=some r) (hG:G-> (owns.go (ps.toList.map λp=>Fh s.sl p.2)).isEmpty=true):FQ P n ops ⟨some dn, .buildSlice t len ps,ty,pos,after,none⟩ Z s σs k r G A L σ w:=by
 unfold nH at h;split at h
 ·cases h
 ·rename_i E hE;split at h
  ·cases h
  ·rename_i e he;obtain⟨hb,h⟩:=Be h;simp only[CT]at hb;obtain⟨⟨⟨hb1,hb2⟩,hb3⟩,hb4⟩:=hb;split at h
   ·cases h
   ·rename_i s1 hs1;obtain⟨A1,L1,hr,hsame⟩:=Vy hr0 hs1;split at h
    ·rename_i l hl;have hl':UF e ((ps.toList.map Prod.snd).map (Fh s1.sl))=some l:=by rw[List.map_map];exact hl
     obtain⟨h1,h2,h3⟩:=xZ hr hl';have hps:ps=ps.toList.toArray:=by simp
     rw[show(⟨some dn, .buildSlice t len ps,ty,pos,after,none⟩:Oper)=⟨some dn, .buildSlice t len ps.toList.toArray,ty,pos,after,none⟩ by rw[<-hps]];have hlen:((ps.toList.map Prod.snd).map (ev σ)).length=len:=by simpa using Di hb3
     have hF:=St.K4 (f:=zu Z.R L1 (.arr E e l) (((ps.toList.map Prod.snd).map (ev σ)).map λv:Value=>v.cells.toList).flatten) hr.same h1;refine WL.buildSlice (vs:=(ps.toList.map Prod.snd).map (ev σ)) (jA hE) (U3 hb1) hF (cJ (o:= .buildSlice t len ps) hd) (Air hb2) hlen hb4 h3 rfl (λp q c w' hs'=>WL.nil ?_);have h4:Cm (Az (λb=>A1 b/\Z.R b) w' e) l (((ps.toList.map Prod.snd).map (ev σ)).map λv:Value=>v.cells.toList).flatten:=hs'.fact 0 rfl;refine y?.of (λg=>hsame (isEmpty_nil (hG g))) (kD (a:= .arr E e l) (md:= .own e.size E (.slice p q c) _) hr hs'.jl ⟨rfl,rfl,h4⟩ rfl (λB=>?_) h);rw[S.new,hr.len];exact D7
    ·cases h
theorem Ary{E:TypeId}{i len cap m:Nat}{q:Option Addr}{cs:List Value}{l:List e.T}(hr:Rel Z s σs A L σ w)(hi:L[i]? =some (.own e.size E (.slice q len cap) cs))(hm:m<=len)(hl:Cm (Az (λb=>A b/\Z.R b) w e) l (cs.take (m*e.size))):
  Rel Z (((s.Xz i .dead).sub i .any).add (.arr E e l)) σs A (L.set i .dead++[.own e.size E (.slice q m cap) (cs.take (m*e.size))]) σ w:=by
 have hf:Frz (λb=>A b/\Z.R b) w L i .any:=⟨λz E' u c h=>⟨u,rfl,by rw[hi]at h;cases h;rfl⟩,rfl,rfl⟩;have hm2:=hr.mem.subst hf;have vC:(L.map MD.Ki)[i]? =some (Mob.own e.size E (.slice q len cap) cs):=hr.Ki hi;obtain⟨o,h1,h2,h3⟩:=(St.mobs hr).perm (A4 vC).symm;have h4:(Mob.own e.size E (.slice q m cap) (cs.take (m*e.size))).holds o w:=by
  obtain⟨q',len',cap',g1,g2,g3,g4,g5,g6⟩:=h1;cases g1;have e5:m*e.size<=len*e.size:=EK _ hm;refine⟨q,m,cap,rfl,by rw[G!];omega,F0,g4,g5,λb hb=>?_⟩;obtain⟨arr,fr,k1,k2,k3,k4,k5⟩:=g6 b hb;exact⟨arr,fr,k1,k2,k3,k4,λj hj=>by rw[k5 j F0,JL,B0 hj]⟩
 have h5:Ea w A (Mob.own e.size E (.slice q m cap) (cs.take (m*e.size))::(L.map MD.Ki).eraseIdx i):=⟨o,h4,h2,h3⟩;have h6:Ea w A (MD.dead.Ki::Mob.own e.size E (.slice q m cap) (cs.take (m*e.size))::(L.map MD.Ki).eraseIdx i):=⟨none,⟨none,0,0,rfl,B7,E1 _,λ_=>rfl,λ_=>rfl,λb h=>by cases h⟩,λb hb=>(by cases hb),h5.DG λb hb=>hb.elim id λh=>by cases h⟩;have h7:Ea w A ((MD.own e.size E (.slice q m cap) (cs.take (m*e.size))).Ki::(L.set i .dead).map MD.Ki):=by
  rw[TU];exact h6.perm ((List.Perm.swap _ _ _).trans ((bF (m':=MD.dead.Ki) vC).cons _))
 have h8:St A w [Pp Z.R (L.set i .dead) ((s.Xz i .dead).sub i .any) σs σ, .old Z.M Z.w0] ((MD.own e.size E (.slice q m cap) (cs.take (m*e.size))).Ki::(L.set i .dead).map MD.Ki):=by
  refine⟨St.lt hr,λf hf=>?_,h7⟩;cases hf with
  |head=>exact hm2
  |tail _ hf=>exact hr.facts f (.tail _ hf)
 exact Rel.push (a:= .arr E e l) h8 ⟨rfl,rfl,hl⟩
theorem Aij{E:TypeId}{s1:S}{i:Nat}(hr:Rel Z s σs A L σ w)(hz:0<e.size)(hx:(Fh s.sl x).isP=true)(h:iH s E e (Fh s.sl x)=some (s1,i)):
  ∃L1,Rel Z s1 σs A L1 σ w/\∃c0,L1[i]? =some (.own e.size E (ev σ x) c0):=by
 have hv:=Uo hr.mem.sl x (PV.UK hx);unfold iH at h;split at h
 ·rename_i hp;cases h;rw[hp]at hv;have hev:=OW hv;have hr':=Rel.push (a:= .arr E e []) (md:= .own e.size E (.slice none 0 0) []) (St.a! hr e.size E) ⟨rfl,rfl,rfl⟩;refine⟨_,hr',[],?_⟩;rw[S.new,hr.len,hev];simp
 ·rename_i j hp;rw[hp]at hv;split at h
  ·rename_i E' e' l hj;obtain⟨hb,h⟩:=Be h;split at h
   ·rename_i he;cases h;subst he;have:=Di hb;subst this;obtain⟨v,cs,h1,h2⟩:=hr.mem.arr hj;obtain⟨z,E',c,h3⟩:=UB hv;rw[h1]at h3;cases h3;exact⟨L,hr,cs,h1⟩
   ·cases h
  ·cases h
 ·rename_i j p e1 lo n' hp;rw[hp]at hv;split at h
  ·rename_i E' e' l hj;obtain⟨hb,h⟩:=Be h;simp only[CT,D!]at hb;obtain⟨⟨hE,h0⟩,he1⟩:=hb;split at h
   ·rename_i he;cases h;subst he he1;have:=Di hE;subst this;subst h0;obtain⟨u,cs,h1,h2⟩:=hr.mem.arr hj;obtain⟨md,v1,h3,h4,k1,k2,_,k7,_⟩:=hv;rw[h1]at h3;cases h3;have h6:ev σ x=v1:=by simpa using h4
    obtain⟨s',E2,q,len,cap,c0,e1,e2,e3,_,e5⟩:=k7 rfl;cases e1;have e7:=e5 rfl;have hl:Cm (Az (λb=>A b/\Z.R b) w e1) (aW l 0 n') (cs.take (n'.toNat*e1.size)):=by
     have:=Cm.take (λx c h=>Az.len h) n'.toNat h2;simpa [aW]using this
    have hr':=Ary hr h1 (m:=n'.toNat) (by simpa using e3) hl;refine⟨_,hr',cs.take (n'.toNat*e1.size),?_⟩;rw[h6,e7,S.new,hr.len];have:L.length=(L.set j .dead).length:=by simp
    rw[this,JG (E1 _)];simp
   ·cases h
  ·cases h
 ·cases h
theorem Ayo{a:Item}{l:List e.T}(h:rR e a=some l):∃E,a= .arr E e l:=by
 unfold rR at h;split at h
 ·rename_i E e' l';split at h
  ·rename_i he;subst he;cases h;exact⟨E,rfl⟩
  ·cases h
 ·cases h
theorem Aiv{E:TypeId}{i dn:Nat}{l m:List e.T}{cs ys:List Value}{v':Value}{w':World}{s0:S}{A0:Reg}{L0:List MD}{w0:World}(hr:Rel Z s σs A L σ w)(hi:L[i]? =some (.own e.size E v cs))(hl:Cm (Az (λb=>A b/\Z.R b) w e) (l++m) (cs++ys))
  (hs:St A w' [zu Z.R L (.arr E e (l++m)) (cs++ys),Pp Z.R L s σs σ, .old Z.M Z.w0] ((L.map MD.Ki).set i (.own e.size E v' (cs++ys))))
  (hk:k ((((s.Xz i .dead).sub i .any).add (.arr E e (l++m))).Ij (some dn) (.own s.new))=some r):y? Z σs k r False A0 L0 s0.it w0 (Xz σ dn v') w':=by
 have h1:Cm (Az (λb=>A b/\Z.R b) w' e) (l++m) (cs++ys):=hs.fact 0 rfl;have hone:v.oneCell'=true:=by obtain⟨p,len,cap,rfl,_⟩:=hr.Yk hi;rfl
 have hs1:=hs.jl;have hm:MemR (λb=>A b/\Z.R b) w' L s σs σ:=hs1.fact 0 rfl;have hf:Frz (λb=>A b/\Z.R b) w' L i .any:=⟨λz E' u c h=>⟨u,rfl,by rw[hi]at h;cases h;exact hone⟩,rfl,rfl⟩;have hm2:=hm.subst hf;have vC:(L.map MD.Ki)[i]? =some (Mob.own e.size E v cs):=hr.Ki hi;have hs2:=Ea.nY hs1 (bF (m':=Mob.own e.size E v' (cs++ys)) vC).symm;have hs3:=Ea.nY (hs2.a! 1 0) (List.Perm.swap _ _ _);have hs4:=Ea.nY hs3 ((bF (m':=MD.dead.Ki) vC).cons _);have hs5:St A w' [Pp Z.R (L.set i .dead) ((s.Xz i .dead).sub i .any) σs σ, .old Z.M Z.w0] ((MD.own e.size E v' (cs++ys)).Ki::(L.set i .dead).map MD.Ki):=by
  rw[TU];exact(hs4.noF.K4 (f:= .old Z.M Z.w0) (hs4.fact 1 rfl)).K4 (f:=Pp Z.R (L.set i .dead) ((s.Xz i .dead).sub i .any) σs σ) hm2
 have hr2:=Rel.push (a:= .arr E e (l++m)) hs5 ⟨rfl,rfl,h1⟩;have hnew:s.new=(L.set i .dead).length:=by rw[NA,<-hr.len];rfl
 refine⟨_,A,_,hk,hr2.Ij (d:=some dn) rfl ?_,λg=>g.elim⟩;rw[hnew];exact D7
theorem Avx(z:Array Value)(hz:0<z.size)(m:Nat):((List.replicate m z.toList).flatten).toArray=Builtin.zeroCells z m:=by
 apply Array.ext
 ·simp[Builtin.zeroCells]
 ·intro j h1 h2;simp only[Builtin.zeroCells,Array.getElem_map,Array.getElem_range];have h3:j<m*z.size:=by simpa [Builtin.zeroCells]using h2
  have h4:=p_ z.toList z.size B7 hz m j h3;have h5:j %z.size<z.size:=I7 _ hz;simp only[List.getElem_toArray];rw[HS (by simpa using h1)]at h4;simp[h5]at h4;simp[h4,h5]
theorem Aze{E t t2:TypeId}{kk:List e.T->Option R}(hr:Rel Z s σs A L σ w)(ht:P.underlying t=some (.slice E))(hel:ElemOk P E e.size)(h:rQ P s E e t2 y kk=some r):
  ∃m ys,kk m=some r/\Cm (Az (λb=>A b/\Z.R b) w e) m ys/\∀(A1:Reg) (F:List Fact) (LL:List Mob) (i ll:Nat) (vx:Value) (cs:List Value),St A1 w F LL->LL[i]? =some (.own e.size E vx cs)->cs.length=ll*e.size->ll+m.length<=LIM->
   ∃v' w',(Builtin.append_ #[t,t2] ty #[vx,ev σ y]).run P w= .ok v' w'/\St A1 w' F (LL.set i (.own e.size E v' (cs++ys))):=by
 unfold rQ at h;split at h
 ·rename_i ht2;split at h
  ·rename_i m0 hy;split at h
   ·rename_i m hm;unfold kQ at hm;split at hm
    ·rename_i he;cases he;cases hm;refine⟨m0,VQ m0,h,dZ.ZP,λA1 F LL i ll vx cs hs hL hlen hlim=>?_⟩;rw[Wo hr.mem.sl hy];exact zZ (x:=y) (y:=y) ht hel hs hL (Src.string ht2) (Aza m0) hlen (by simp[VQ,ET.size]) hlim
    ·cases hm
   ·cases h
  ·cases h
 ·rename_i et2 ht2;split at h
  ·rename_i m hm;have hV:(Fh s.sl y).isV=true:=by
    cases hq:(Fh s.sl y).isV with
    |true=>rfl
    |false=>rcases BZ hq with h|h|⟨_,_,_,h⟩<;>rw[h]at hm<;>cases hm
   obtain⟨c0,h1,h2⟩:=sI hr.mem hm (Uo hr.mem.sl y hV);have hrd:Rd (λ_=>True) w e.size (ev σ y) c0:=by
    rcases h2 with h2|⟨j,E',u,cs',_,h2,hpart⟩
    ·exact h2.step (λ_ _=>trivial) (λ_ _=>rfl)
    ·exact hpart _ _ (hr.Yk h2)
   have hly:=h1.len λx c h=>Az.len h;exact⟨m,c0,h,h1,λA1 F LL i ll vx cs hs hL hlen hlim=>zZ (x:=y) (y:=y) ht hel hs hL (Src.slice ⟨_,ht2⟩ hrd hly hel.pos) h1.eu hlen hly hlim⟩
  ·cases h
 ·rename_i kk2 ht2;split at h
  ·rename_i q z hq hz;split at h
   ·rename_i x0 hx0;obtain⟨m,hm,h⟩:=bind_some h;obtain⟨h1,h2,rfl⟩:=Ag6 hm;obtain⟨zv,⟨i0,hi0,hz0⟩,hz2⟩:=bY hz;have hx1:=bR hx0 (hz2 (λb=>A b/\Z.R b) w L);have hall:=oS hx1 q.toNat;refine⟨_,_,h,hall,λA1 F LL i ll vx cs hs hL hlen hlim=>?_⟩;rw[zi hq (Uo hr.mem.sl y (o_ hq)),h1];have hzs:zv.cells.size=e.size:=by have:=hx1.len;simpa using this
    rw[HR]at hlim;exact Ae8 (x:=y) (y:=y) (ly:=q.toNat) ht hel hs hL ⟨_,ht2⟩ (λi z' hi hz'=>by rw[hi0]at hi;cases hi;rw[hz0]at hz';cases hz';exact Avx zv.cells (by rw[hzs];exact hel.pos) _)
     hall.eu hlen ((hall.len λx c h=>Az.len h).trans B7) hlim
   ·cases h
  ·cases h
 ·cases h
theorem Ay9{t2:TypeId}{m:List e.T}(hr:Rel Z s σs A L σ w)(hz:0<e.size)(h:r_ P s e t2 y=some m):∃ys,Cm (Az (λb=>A b/\Z.R b) w e) m ys/\Src P w t2 (ev σ y) e.size m.length ys:=by
 unfold r_ at h;split at h
 ·rename_i ht2;split at h
  ·rename_i m0 hy;unfold kQ at h;split at h
   ·rename_i he;cases he;cases h;refine⟨VQ m0,dZ.ZP,?_⟩;rw[Wo hr.mem.sl hy];exact Src.string ht2
   ·cases h
  ·cases h
 ·rename_i et2 ht2;have hV:(Fh s.sl y).isV=true:=by
   cases hq:(Fh s.sl y).isV with
   |true=>rfl
   |false=>rcases BZ hq with h'|h'|⟨_,_,_,h'⟩<;>rw[h']at h<;>cases h
  obtain⟨c0,h1,h2⟩:=sI hr.mem h (Uo hr.mem.sl y hV);have hrd:Rd (λ_=>True) w e.size (ev σ y) c0:=by
   rcases h2 with h2|⟨j,E',u,cs',_,h2,hpart⟩
   ·exact h2.step (λ_ _=>trivial) (λ_ _=>rfl)
   ·exact hpart _ _ (hr.Yk h2)
  exact⟨c0,h1,Src.slice ⟨_,ht2⟩ hrd (h1.len λx c h=>Az.len h) hz⟩
 ·cases h
theorem Bao{l:List e.T}{c:Int}(h:rW e p=some (l,c)):p= .cap e l c:=by
 unfold rW at h;split at h
 ·split at h
  ·rename_i he;subst he;cases h;rfl
  ·cases h
 ·cases h
theorem Asg{t t2:TypeId}{dn:Nat}(hr0:Rel Z s σs A L σ w)(hd:Ng n ⟨some dn, .call ⟨.builtin .append, #[x,y], #[t,t2]⟩,ty,pos,after,none⟩=true)
  (h:I' P s (some dn) x y t t2 k=some r):FQ P n ops ⟨some dn, .call ⟨.builtin .append, #[x,y], #[t,t2]⟩,ty,pos,after,none⟩ Z s σs k r False A L σ w:=by
 unfold I' at h;split at h
 ·cases h
 ·rename_i E hE;split at h
  ·cases h
  ·rename_i e he;obtain⟨hb,h⟩:=Be h;simp only[CT]at hb;have hel:=U3 hb.1;split at h
   ·rename_i l c hcap;split at h
    ·rename_i m hm;obtain⟨r',ha,hk⟩:=bind_some h;obtain⟨h3,rfl⟩:=R7 ha;obtain⟨_,hok,hk⟩:=bind_some hk;have hlt:c<Ac (l++m):=NT (BM hok);obtain⟨ys,hy1,hy2⟩:=Ay9 hr0 hel.pos hm;obtain⟨v0,c0,g1,g2,g3,g4,p,len,g5⟩:=Dz hr0.mem.sl (Bao hcap) rfl;cases g1;have hlen:=g3.len λx c h=>Az.len h;have hly:=hy1.len λx c h=>Az.len h;unfold Ac at hlt;rw[CR]at hlt;obtain⟨v',w',h4,h5⟩:=Ahf (ty:=ty) (jA hE) hel hr0.same (g2.step (A':=λ_=>True) (λ_ _=>trivial) (λ_ _=>rfl)) g5 F0 hy2 hlen hly h3;refine WL.val (v:=v') (w':=w') rfl rfl (cJ hd) ?_ (WL.nil (kD (a:= .arr E e (l++m)) (md:= .own e.size E v' (c0++ys)) hr0 h5 ⟨rfl,rfl,?_⟩ rfl (λB=>?_) hk))
     ·simp[execOp,resolve,invoke,builtin,h4]
     ·obtain⟨k1,k2⟩:(∀b,A b->A b)/\Same A w w':=h5.fact 0 rfl;exact(g3.append hy1).mono λx c h=>Az.step (λ_ h=>h) (λb hb=>k2 b hb.1) h
     ·rw[S.new,hr0.len];exact D7
    ·cases h
   split at h
   ·cases h
   ·rename_i s1 i hown;obtain⟨L1,hr,cs,hi⟩:=Aij hr0 hel.pos hb.2 hown;split at h
    ·cases h
    ·rename_i l hl;obtain⟨E',hit⟩:=Ayo hl;obtain⟨v1,cs1,h1,h2⟩:=hr.mem.arr hit;rw[hi]at h1;cases h1;have hlen:=h2.len λx c h=>Az.len h;obtain⟨m,ys,hk,hm,hrun⟩:=Aze (ty:=ty) hr0 (jA hE) hel h;obtain⟨r',ha,hk⟩:=bind_some hk;obtain⟨h3,rfl⟩:=R7 ha;have hF:=St.K4 (f:=zu Z.R L1 (.arr E e (l++m)) (cs++ys)) hr (h2.append hm);obtain⟨v',w',h4,h5⟩:=hrun A _ _ i l.length (ev σ x) cs hF (hr.Ki hi) hlen h3;refine WL.val (v:=v') (w':=w') rfl rfl (cJ hd) ?_ (WL.nil (Aiv hr hi (h2.append hm) h5 hk));simp[execOp,resolve,invoke,builtin,h4]
end Go.Rx
namespace Go.Rx
open Go Go.Lv
variable {P:Program} {B:Reg} {w w':World} {L L':List MD} {s:S} {σs:List Env} {σ:Env} {Z:Fix} {A A':Reg} {n:Nat} {ops:Array Oper} {rest:List Oper} {K:Env->World->Prop}
variable {R:Type} {k:S->Option R} {r:R} {d:Option Nat} {ty:TypeId} {pos:String} {after:Array Edge}
theorem xX{place:Nat->Option (Nat×Nat)}{acc ns:List Value}{i off z:Nat}{v:Value}{rest:List (Nat×Value)}(hp:place i=some (off,z))(hv:v.cells=ns.toArray)(hz:ns.length=z)(hl:off+z<=acc.length):
  Instr.fill place acc.toArray ((i,v)::rest)=Instr.fill place (Bs acc off ns).toArray rest:=by
 have hf:=sN off ns 0 acc F0;have rA:v.cells.zipIdx.foldl (λcs (x:Value×Nat)=>cs.setIfInBounds (off+x.2) x.1) acc.toArray=(Bs acc off ns).toArray:=by
  rw[hv,<-Array.foldl_toList,Array.toList_zipIdx];simpa using hf
 simp only[Instr.fill,hp];have hc:(decide (v.cells.size≠z)||decide (off+v.cells.size>acc.toArray.size))=false:=by rw[hv];simp;omega
 rw[B! (by rw[hc];simp)]
 show Instr.fill _ (v.cells.zipIdx.foldl (λcs (x:Value×Nat)=>cs.setIfInBounds (off+x.2) x.1) acc.toArray) _=_;rw[rA]
def places:List PV->Nat->List (Nat×Nat)
 |[],_=>[]
 |v::vs,off=>(off,v.size)::places vs (off+v.size)
theorem Abm:∀{l:List PV} {i off:Nat} {u:PV},l[i]? =some u-> (places l off)[i]? =some (off+zw l i,u.size)
 |[],_,_,_,h=>by simp at h
 |a::l,0,off,u,h=>by simp at h;subst h;rfl
 |a::l,i+1,off,u,h=>by
  have:=Abm (l:=l) (i:=i) (off:=off+a.size) (by simpa using h);simpa [places,zw,I!]using this
theorem Bm6:∀{l:List PV} {i off:Nat} {u v:PV},l[i]? =some u->u.size=v.size->places (l.set i v) off=places l off
 |[],_,_,_,_,h,_=>by simp at h
 |a::l,0,off,u,v,h,hs=>by simp at h;subst h;simp[places,hs]
 |a::l,i+1,off,u,v,h,hs=>by simp[places,Bm6 (l:=l) (i:=i) (by simpa using h) hs]
theorem Bfu:∀{fs:List Field} {vs:List PV} {off:Nat},iO P fs vs off=true-> (fs.map λf=>(f.offset,(P.info? f.type).map (·.size)))=(places vs off).map λp=>(p.1,some p.2)
 |[],[],_,_=>rfl
 |[],_::_,_,h=>by simp[iO]at h
 |_::_,[],_,h=>by simp[iO]at h
 |f::fs,v::vs,off,h=>by
  simp only[iO,CT]at h;obtain⟨⟨h1,h2⟩,h3⟩:=h;split at h2
  ·rename_i i hi;simp[places,Bfu h3,hi,Di h1,Di h2]
  ·cases h2
theorem Bcn(hr:Rel Z s σs A L σ w){pl:List (Nat×Nat)}:∀{parts:List (Nat×Operand)} {zs l:List PV} {acc:List Value},uJ (parts.map λp=>(p.1,Fh s.sl p.2)) zs=some l->
  places zs 0=pl->Bk.go (λb=>A b/\Z.R b) w L zs acc->∃cells,Instr.fill (pl[·]?) acc.toArray (parts.map λp=>(p.1,ev σ p.2))=some cells.toArray/\Bk.go (λb=>A b/\Z.R b) w L l cells
 |[],zs,l,acc,h,_,ha=>by simp only[Y!,uJ,D6]at h;subst h;exact⟨acc,rfl,ha⟩
 |(i,x)::ps,zs,l,acc,h,hpl,ha=>by
  subst hpl;simp only[J8,uJ]at h;split at h
  ·rename_i u hu;obtain⟨hb,h⟩:=Be h;simp only[CT]at hb;have hsz:=Di hb.1;obtain⟨ns,h1,h2⟩:=ZT hr (YT hr.mem.sl (x:=x) hb.2);obtain⟨c1,c2,c3,e,h3,h4,h5⟩:=Bk.field ha hu;have hlen:=h2.len;have yQ:=h4.len;obtain⟨cells,h6,h7⟩:=Bcn hr (zs:=zs.set i (Fh s.sl x)) (acc:=c1++(ns++c3)) h (by rw[Bm6 hu hsz]) (h5 _ _ h2);refine⟨cells,?_,h7⟩;rw[J8,xX (off:=c1.length) (z:=u.size) (ns:=ns) (by rw[Abm hu,HL,h3]) h1 F0 (by rw[e];simp;omega),e,lU F0];exact h6
  ·cases h
theorem Agf(hr:Rel Z s σs A L σ w){e:ET}:∀{parts:List (Nat×Operand)} {l l':List e.T} {acc:List Value},A! e (parts.map λp=>(p.1,Fh s.sl p.2)) l=some l'->
  Cm (Az (λb=>A b/\Z.R b) w e) l acc->∃cells,Instr.fill (λi=>some (i*e.size,e.size)) acc.toArray (parts.map λp=>(p.1,ev σ p.2))=some cells.toArray/\Cm (Az (λb=>A b/\Z.R b) w e) l' cells/\l'.length=l.length
 |[],l,l',acc,h,ha=>by simp only[Y!,A!,D6]at h;subst h;exact⟨acc,rfl,ha,rfl⟩
 |(i,x)::ps,l,l',acc,h,ha=>by
  simp only[J8,A!]at h;split at h
  ·rename_i u y hu hy;obtain⟨ns,h1,h2⟩:=ZT hr (YT hr.mem.sl (x:=x) (Bhp hy));have h3:=bR hy h2;obtain⟨c1,c2,c3,e',h4,h5,h6⟩:=Cm.get (λx c h=>Az.len h) ha hu;have hlen:=h3.len;have yQ:=h5.len;obtain⟨cells,h7,h8,h9⟩:=Agf hr (l:=l.set i y) (acc:=c1++(ns++c3)) h (h6 _ _ h3);refine⟨cells,?_,h8,by rw[h9,NA]⟩;rw[J8,xX (off:=c1.length) (z:=e.size) (ns:=ns) (by rw[h4]) h1 hlen (by rw[e'];simp;omega),e',lU F0];exact h7
  ·cases h
theorem Arb{t et:TypeId}{m z:Nat}{parts:List (Nat×Operand)}{zv:Value}{cells:List Value}(ht:P.underlying t=some (.array m et))(hz:∃i,P.info? t=some i/\i.zero=some zv)(hsz:Lu P et z)
  (hf:Instr.fill (λi=>some (i*z,z)) zv.cells (parts.map λp=>(p.1,ev σ p.2))=some cells.toArray) (w:World):XO P σ w (.build t parts.toArray) (.agg cells.toArray):=λ_ _ _ _ _=>by
 obtain⟨i,hi,hz⟩:=hz;simp only[execOp,Instr.build,E_,zeroValue,typeInfo];simp[hi,hz,EE ht,Cj hsz,hf]
theorem Asy{t:TypeId}{ps:Array (Nat×Operand)}{G:Prop}(hr:Rel Z s σs A L σ w)(hd:Ng n ⟨d, .build t ps,ty,pos,after,none⟩=true)(h:nk P s d t ps.toList k=some r):
  FQ P n ops ⟨d, .build t ps,ty,pos,after,none⟩ Z s σs k r G A L σ w:=by
 have hps:ps=ps.toList.toArray:=by simp
 rw[show(⟨d, .build t ps,ty,pos,after,none⟩:Oper)=⟨d, .build t ps.toList.toArray,ty,pos,after,none⟩ by rw[<-hps]];unfold nk at h;split at h
 ·rename_i fs zs ht hz;obtain⟨hb,h⟩:=Be h;obtain⟨z,⟨i,hi,hz0⟩,hz2⟩:=bY hz;split at h
  ·rename_i l hl;obtain⟨cells,h1,h2⟩:=Bcn hr (pl:=places zs 0) hl rfl (show Bk.go _ w L zs _ from hz2 _ _ _);have hst:kI P t (places zs 0) z.cells.toList:=by
    unfold kI nL;rw[ht];simp only[Bfu hb,hi,hz0,P4]
   exact Fg hr (d:=d) (o:= .build t ps.toList.toArray) (by simpa using hd) (X.build hst rfl (by simpa using h1)) rfl (show Gi _ w L (.agg l) _ from⟨cells,rfl,h2⟩) h
  ·cases h
 ·rename_i m et e0 l0 ht hz;split at h
  ·rename_i m' a l;split at h
   ·rename_i inf l' Xs hl;obtain⟨hb,h⟩:=Be h;obtain⟨z,hz1,hz2⟩:=bY hz;obtain⟨h0,h0'⟩:l.length=m'/\Cm (Az (λb=>A b/\Z.R b) w a) l z.cells.toList:=hz2 _ _ L;obtain⟨cells,h1,h2,h3⟩:=Agf hr hl h0';have:=Arb (σ:=σ) (parts:=ps.toList) ht hz1 (Hc Xs hb) (by simpa using h1) w;exact Fg hr (d:=d) (o:= .build t ps.toList.toArray) (by simpa using hd) this rfl (show Gi _ w L (.val (.vec m' a) l') _ from⟨cells,rfl,h3.trans h0,h2⟩) h
   ·cases h
  ·cases h
 ·cases h
end Go.Rx
namespace Go.Rx
open Go Go.Lv
variable{e:ET}{q:PV}
variable {P:Program} {B B':Reg} {w w':World} {L L':List MD} {s:S} {σs:List Env} {σ:Env} {Z:Fix} {A A':Reg} {n:Nat}
def oQ(B:Reg)(w:World)(L:List MD)(B':Reg)(w':World)(L':List MD)(q q':PV):Prop:=q'.isA=q.isA/\∀cs,Bk B w L q cs->Bk B' w' L' q' cs
inductive All2 {α β:Type} (f:α->β->Prop):List α->List β->Prop
 |nil:All2 f [] []
 |cons {a b l m}:f a b->All2 f l m->All2 f (a::l) (b::m)
theorem All2.split{α β:Type}{f:α->β->Prop}:∀{l1 l2:List α} {m:List β},All2 f (l1++l2) m->∃m1 m2,m=m1++m2/\All2 f l1 m1/\All2 f l2 m2
 |[],_,m,h=>⟨[],m,rfl, .nil,h⟩
 |a::l1,l2,_, .cons h1 h2=>let⟨m1,m2,e,h3,h4⟩:=All2.split h2;⟨_::m1,m2,by rw[e];rfl, .cons h1 h3,h4⟩
mutual
theorem zO:∀{sh:Sh} {p:PV} {ls ls' rest:List PV} {cs:List Value},BB sh p=some ls->Bk B w L p cs->All2 (oQ B w L B' w' L') ls ls'->∃p',Xi sh (ls'++rest)=some (p',rest)/\p'.isA=p.isA/\Bk B' w' L' p' cs
 | .lf e o,p,ls,ls',rest,cs,h,hp,ha=>by
  simp only[BB,D6]at h;subst h;cases ha with
  |cons h1 h2=>
   cases h2;exact⟨_,rfl,h1.1,h1.2 _ hp⟩
 | .agg l,p,ls,ls',rest,cs,h,hp,ha=>by
  cases p<;>simp only[BB,reduceCtorEq]at h;rename_i vs;obtain⟨us,h1,h2⟩:=Ame (rest:=rest) h (show Bk.go B w L vs cs from hp) ha;exact⟨.agg us,by simp only[Xi,h1],rfl,h2⟩
theorem Ame:∀{l:List Sh} {ps:List PV} {ls ls' rest:List PV} {cs:List Value},BB.go l ps=some ls->Bk.go B w L ps cs->All2 (oQ B w L B' w' L') ls ls'->∃ps',Xi.go l (ls'++rest)=some (ps',rest)/\Bk.go B' w' L' ps' cs
 |[],[],ls,ls',rest,cs,h,hp,ha=>by
  simp only[BB.go,D6]at h;subst h;cases ha;exact⟨[],rfl,hp⟩
 |a::l,p::ps,ls,ls',rest,cs,h,⟨c1,c2,e,hp1,hp2⟩,ha=>by
  simp only[BB.go]at h;split at h
  ·rename_i x y hx hy;cases h;obtain⟨m1,m2,rfl,h1,h2⟩:=ha.split;obtain⟨p',h3,_,h4⟩:=zO (rest:=m2++rest) hx hp1 h1;obtain⟨ps',h5,h6⟩:=Ame (rest:=rest) hy hp2 h2;exact⟨p'::ps',by simp only[Xi.go,E?,h3,h5],c1,c2,e,h4,h6⟩
  ·cases h
 |[],_::_,_,_,_,_,h,_,_=>by simp[BB.go]at h
 |_::_,[],_,_,_,_,h,_,_=>by simp[BB.go]at h
end
theorem Bl8:∀{l:List Sh} {ps:List PV} {ls ls' rest:List PV} {us:List Value},BB.go l ps=some ls->Gp B w L ps us->All2 (oQ B w L B' w' L') ls ls'->∃ps',Xi.go l (ls'++rest)=some (ps',rest)/\Gp B' w' L' ps' us
 |[],[],ls,ls',rest,us,h,hp,ha=>by
  simp only[BB.go,D6]at h;subst h;cases ha;exact⟨[],rfl,hp⟩
 |a::l,p::ps,ls,ls',rest,us,h,⟨v,us',e,hp1,hp2⟩,ha=>by
  simp only[BB.go]at h;split at h
  ·rename_i x y hx hy;cases h;obtain⟨m1,m2,rfl,h1,h2⟩:=ha.split;have key:∃p',Xi a (m1++(m2++rest))=some (p',m2++rest)/\asV p'.isA (Bk B' w' L' p') v:=by
    cases hA:p.isA with
    |true=>
     rw[hA]at hp1;obtain⟨cs,e1,hc⟩:=hp1;obtain⟨p',h3,h4,h5⟩:=zO (rest:=m2++rest) hx hc h1;exact⟨p',h3,by rw[h4,hA];exact⟨cs,e1,h5⟩⟩
    |false=>
     rw[hA]at hp1;obtain⟨p',h3,h4,h5⟩:=zO (rest:=m2++rest) hx hp1 h1;exact⟨p',h3,by rw[h4,hA];exact h5⟩
   obtain⟨p',h3,h4⟩:=key;obtain⟨ps',h5,h6⟩:=Bl8 (rest:=rest) hy hp2 h2;exact⟨p'::ps',by simp only[Xi.go,E?,h3,h5],v,us',e,h4,h6⟩
  ·cases h
 |[],_::_,_,_,_,_,h,_,_=>by simp[BB.go]at h
 |_::_,[],_,_,_,_,h,_,_=>by simp[BB.go]at h
theorem Adc{l:List Sh}{ps ls ls':List PV}{us:List Value}(h:iZ l ps=some ls)(hp:Gp B w L ps us)(ha:All2 (oQ B w L B' w' L') ls ls'):∃ps',rM l ls'=some ps'/\Gp B' w' L' ps' us:=by
 obtain⟨ps',h1,h2⟩:=Bl8 (rest:=[]) h hp ha;rw[GY]at h1;exact⟨ps',by simp only[rM,h1],h2⟩
theorem Af2{x:e.T}(h:uW s e q=some x):(∃e0,e= .list e0)\/ (∃e' x',q= .val e' x'/\kQ e' e x'=some x):=by
 unfold uW at h;split at h
 ·exact .inl ⟨_,rfl⟩
 ·exact .inr ⟨_,_,rfl,h⟩
 ·cases h
theorem cast_eq{e':ET}{x:e.T}{y:e'.T}(h:kQ e e' x=some y):PV.val e x=PV.val e' y:=by
 unfold kQ at h;split at h
 ·rename_i he;subst he;cases h;rfl
 ·cases h
theorem Asc{l:List e.T}(h:eU s e q=some l):elems s e q=some l/\q.isA=false/\q.size=1:=by
 unfold eU at h;refine⟨h,?_⟩;unfold elems at h;split at h
 ·split at h
  ·exact⟨rfl,rfl⟩
  ·cases h
 ·exact⟨rfl,rfl⟩
 ·exact⟨rfl,rfl⟩
 ·exact⟨rfl,rfl⟩
 ·exact⟨rfl,rfl⟩
 ·cases h
theorem Ah7(hr:Rel Z s σs A L σ w){x:e.T}(h:uW s e q=some x)(hb:∀b,A b/\Z.R b->B' b)(ho:∀i∈owns q,∀z E v c,L[i]? =some (.own z E v c)->Rd B' w z v c):oQ (λb=>A b/\Z.R b) w L B' w L' q (.val e x):=by
 rcases Af2 h with⟨e0,rfl⟩|⟨e',x',rfl,hc⟩
 ·obtain⟨h1,hA,h2⟩:=Asc (show eU s e0 q=some x from h);refine⟨by rw[hA];rfl,λcs hcs=>?_⟩;have hP:=hcs.U1;have hlen:=hcs.len;have:∃v,cs=[v]:=by
   rw[h2]at hlen
   match cs,hlen with
   |[v],_=>exact⟨v,rfl⟩
  obtain⟨v,rfl⟩:=this;have hv:Gi (λb=>A b/\Z.R b) w L q v:=(lV hP).2 (by unfold Ln;rw[hA];exact hcs);obtain⟨c0,h3,h4⟩:=sI hr.mem h1 hv;refine⟨v,c0,rfl,?_,h3.mono λx c h=>Az.step hb (λ_ _=>rfl) h⟩;rcases h4 with h4|⟨i,E,u,cs,hi,h4,hpart⟩
  ·exact h4.step hb (λ_ _=>rfl)
  ·exact hpart _ _ (ho i hi _ _ _ _ h4)
 ·have:=cast_eq hc;rw[this];exact⟨rfl,λcs h=>Az.step hb (λ_ _=>rfl) (show Az _ w e x cs from h)⟩
theorem An9{x:e.T}{s0:S}:Ha e none x s0=(.val e x,s0):=by cases e<;>rfl
theorem Bm1(x:KP [])(s0:S):Hg [] x s0=([],s0):=rfl
theorem lH(p:ET×Option TypeId)(x:KP [p])(s0:S):Hg [p] x s0=([(Ha p.1 p.2 x s0).1],(Ha p.1 p.2 x s0).2):=rfl
theorem dH(p q:ET×Option TypeId)(r:List (ET×Option TypeId))(x:p.1.T)(y:KP (q::r))(s0:S):Hg (p::q::r) (x,y) s0=
  ((Ha p.1 p.2 x s0).1::(Hg (q::r) y (Ha p.1 p.2 x s0).2).1,(Hg (q::r) y (Ha p.1 p.2 x s0).2).2):=rfl
theorem pk0{p:ET×Option TypeId}:ZU s [p] []=none:=rfl
theorem pk2{p:ET×Option TypeId}{r:PV}{qs:List PV}:ZU s [p] (q::r::qs)=none:=rfl
theorem pk3{qs:List PV}:ZU s [] (q::qs)=none:=rfl
theorem pk4{p q:ET×Option TypeId}{r:List (ET×Option TypeId)}:ZU s (p::q::r) []=none:=rfl
theorem pk5{p q:ET×Option TypeId}{r:List (ET×Option TypeId)}{v:PV}{vs:List PV}:ZU s (p::q::r) (v::vs)=(match uW s p.1 v,ZU s (q::r) vs with|some x,some y=>some ((x,y):p.1.T×KP (q::r))|_,_=>none):=rfl
theorem Ah2{qs:List PV}{x:KP []}(h:ZU s [] qs=some x):qs=[]:=by
 match qs,h with
 |[],_=>rfl
 |_::_,h=>rw[pk3]at h;cases h
theorem Agz{p:ET×Option TypeId}{qs:List PV}{x:KP [p]}(h:ZU s [p] qs=some x):∃q,qs=[q]/\uW s p.1 q=some x:=by
 match qs,h with
 |[],h=>rw[pk0]at h;cases h
 |[q],h=>exact⟨q,rfl,h⟩
 |q::r::qs,h=>rw[pk2]at h;cases h
theorem yw{p q:ET×Option TypeId}{r:List (ET×Option TypeId)}{qs:List PV}{z:KP (p::q::r)}(h:ZU s (p::q::r) qs=some z):
  ∃v vs,∃(x:p.1.T) (y:KP (q::r)),qs=v::vs/\z=(x,y)/\uW s p.1 v=some x/\ZU s (q::r) vs=some y:=by
 match qs,h with
 |[],h=>rw[pk4]at h;cases h
 |v::vs,h=>
  rw[pk5]at h;split at h
  ·rename_i x y hx hy;cases h;exact⟨v,vs,x,y,rfl,rfl,hx,hy⟩
  ·cases h
def Qu(L:List MD):List (ET×Option TypeId)->List PV->List MD
 |p::r,v::vs=>match p.2 with
  |none=>Qu L r vs
  |some E=>(match p.1,v with
   | .list _, .own i=>L.getD i .dead
   | .list a,_=> .own a.size E (.slice none 0 0) []
   |_,_=> .dead)::Qu L r vs
 |_,_=>[]
theorem Aef:∀{ls:List (ET×Option TypeId)} {vs:List PV} {is:List Nat},UG ls=true->consume s ls vs=some is->is=[]
 |[],[],is,_,h=>by simp[consume]at h;exact h
 |[],_::_,_,_,h=>by simp[consume]at h
 |_::_,[],_,_,h=>by simp[consume]at h
 |(e,none)::r,v::vs,is,hn,h=>Aef (ls:=r) (vs:=vs) (by simpa [UG]using hn) (by simpa [consume]using h)
 |(e,some _)::r,v::vs,is,hn,h=>by simp[UG]at hn
theorem E0{N:Reg}:∀{ls:List (ET×Option TypeId)} {vs:List PV} {is:List Nat} {A:Reg},consume s ls vs=some is->Ea w A (is.map λi=>(L.getD i .dead).Ki)->Ea w A ((Qu L ls vs).map MD.Ki)
 |[],[],_,_,_,_=>trivial
 |[],_::_,_,_,h,_=>by simp[consume]at h
 |_::_,[],_,_,h,_=>by simp[consume]at h
 |(e,none)::r,v::vs,is,A,h,hm=>E0 (N:=N) (ls:=r) (vs:=vs) (by simpa [consume]using h) hm
 |(e,some E)::r,v::vs,is,A,h,hm=>by
  simp only[consume]at h;split at h
  ·rename_i a;exact⟨none,⟨none,0,0,rfl,B7,E1 _,λ_=>rfl,λ_=>rfl,λb h=>by cases h⟩,λb hb=>(by cases hb),(E0 (N:=N) h hm).DG λb hb=>hb.elim id (λh=>by cases h)⟩
  ·rename_i a i;split at h
   ·rename_i E' a' l hi;obtain⟨_,h⟩:=Be h;simp only[X2]at h;obtain⟨is',h1,rfl⟩:=h;obtain⟨o,g1,g2,g3⟩:=hm;exact⟨o,g1,g2,E0 (N:=N) h1 g3⟩
   ·cases h
  ·cases h
theorem zy{B1:Reg}(hr:Rel Z s σs A L σ w)(hb:∀b,A b/\Z.R b->B1 b):∀(ls:List (ET×Option TypeId)) (vs:List PV) (x:KP ls) (is:List Nat) (s0:S) (Lx LF:List MD),
  ZU s ls vs=some x->consume s ls vs=some is-> (∀i∈Yn ls vs,∀z E v c,L[i]? =some (.own z E v c)->Rd B1 w z v c)->Lx.length=s0.it.length->LF=Lx++Qu L ls vs->
  ∃its,(Hg ls x s0).2=⟨s0.sl,s0.it++its,s0.st⟩/\its.length=(Qu L ls vs).length/\All2 (oQ (λb=>A b/\Z.R b) w L B1 w LF) vs (Hg ls x s0).1/\
   ∀(i:Nat) (a:Item) (m:MD),its[i]? =some a-> (Qu L ls vs)[i]? =some m->EJ B1 w LF a m
 |[],vs,x,is,s0,Lx,LF,hp,hc,_,_,_=>by
  rw[Ah2 hp];refine⟨[],?_,rfl,All2.nil,λi a m h=>by simp at h⟩;rw[Bm1];simp
 |p::ls,vs,x,is,s0,Lx,LF,hp,hc,ho,hlen,hLF=>by
  have main:∀(v:PV) (vs':List PV) (x1:p.1.T) (rest:S->List PV×S),vs=v::vs'->uW s p.1 v=some x1->
    (Hg (p::ls) x s0=((Ha p.1 p.2 x1 s0).1::(rest (Ha p.1 p.2 x1 s0).2).1,(rest (Ha p.1 p.2 x1 s0).2).2))->
    (∀(is:List Nat) (s1:S) (Lx:List MD),consume s ls vs'=some is-> (∀i∈Yn ls vs',∀z E v c,L[i]? =some (.own z E v c)->Rd B1 w z v c)->Lx.length=s1.it.length->LF=Lx++Qu L ls vs'->
     ∃its,(rest s1).2=⟨s1.sl,s1.it++its,s1.st⟩/\its.length=(Qu L ls vs').length/\All2 (oQ (λb=>A b/\Z.R b) w L B1 w LF) vs' (rest s1).1/\
      ∀(i:Nat) (a:Item) (m:MD),its[i]? =some a-> (Qu L ls vs')[i]? =some m->EJ B1 w LF a m)->
    ∃its,(Hg (p::ls) x s0).2=⟨s0.sl,s0.it++its,s0.st⟩/\its.length=(Qu L (p::ls) vs).length/\All2 (oQ (λb=>A b/\Z.R b) w L B1 w LF) vs (Hg (p::ls) x s0).1/\
     ∀(i:Nat) (a:Item) (m:MD),its[i]? =some a-> (Qu L (p::ls) vs)[i]? =some m->EJ B1 w LF a m:=by
   intro v vs' x1 rest hvs hx hu hrest;subst hvs;rw[hu];obtain⟨e,o⟩:=p;cases o with
   |none=>
    have hc':consume s ls vs'=some is:=by simpa [consume]using hc
    have e1:Ha e none x1 s0=(.val e x1,s0):=An9;simp only[e1];obtain⟨its,h1,h2,h3,h4⟩:=hrest is s0 Lx hc' (λi hi=>ho i (by simp[Yn,hi])) hlen hLF;refine⟨its,h1,h2, .cons (Ah7 hr hx hb (λi hi z E v c hL=>ho i (by simp[Yn,hi]) z E v c hL)) h3,h4⟩
   |some E=>
    simp only[consume]at hc;split at hc
    ·rename_i a;have hx':x1=[]:=by
      have:elems s a .nils=some x1:=hx;simpa [elems]using this.symm
     subst hx';have e1:Ha (.list a) (some E) [] s0=(.own s0.new,s0.add (.arr E a [])):=rfl;simp only[e1];obtain⟨its,h1,h2,h3,h4⟩:=hrest is (s0.add (.arr E a [])) (Lx++[.own a.size E (.slice none 0 0) []]) hc (λi hi=>ho i (by simpa [Yn]using hi)) (by simp[S.add,hlen]) (by rw[hLF];simp[Qu]);refine⟨.arr E a []::its,by rw[h1];simp[S.add],by simp[Qu,h2], .cons ⟨rfl,λcs hcs=>?_⟩ h3,λi b m hi hm=>?_⟩
     ·refine⟨a.size,E, .slice none 0 0,[],?_,hcs⟩;rw[hLF,S.new,<-hlen];simp[Qu]
     ·cases i with
      |zero=>
       simp[Qu]at hi hm;subst hi hm;exact⟨rfl,rfl,rfl⟩
      |succ i=>exact h4 i b m (by simpa using hi) (by simpa [Qu]using hm)
    ·rename_i a i;split at hc
     ·rename_i E' a' l hi;obtain⟨hb1,hc1⟩:=Be hc;clear hc;simp only[CT,D!]at hb1;obtain⟨hE,rfl⟩:=hb1;have:=Di hE;subst this;simp only[X2]at hc1;obtain⟨is',hc',rfl⟩:=hc1;obtain⟨u,cs0,g1,g2⟩:=hr.mem.arr hi;have hx':x1=l:=by
       have:elems s a' (.own i)=some x1:=hx;simp[elems,hi]at this;exact this.symm
      subst hx';have hg:L.getD i .dead= .own a'.size E' u cs0:=by simp[D9,g1]
      have e1:Ha (.list a') (some E') x1 s0=(.own s0.new,s0.add (.arr E' a' x1)):=rfl;simp only[e1];obtain⟨its,h1,h2,h3,h4⟩:=hrest is' (s0.add (.arr E' a' x1)) (Lx++[.own a'.size E' u cs0]) hc' (λi hi=>ho i (by simpa [Yn]using hi)) (by simp[S.add,hlen]) (by rw[hLF];simp only[Qu,hg];simp);refine⟨.arr E' a' x1::its,by rw[h1];simp[S.add],by simp[Qu,h2], .cons ⟨rfl,λcs hcs=>?_⟩ h3,λq b m hq hm=>?_⟩
      ·obtain⟨z,E2,v2,c2,k1,k2⟩:=hcs;rw[g1]at k1;cases k1;refine⟨a'.size,E',u,cs0,?_,k2⟩;rw[hLF,S.new,<-hlen];simp only[Qu,hg];simp
      ·cases q with
       |zero=>
        simp only[Qu,hg]at hq hm;simp at hq hm;subst hq hm;exact⟨rfl,rfl,g2.mono λx c h=>Az.step hb (λ_ _=>rfl) h⟩
       |succ q=>exact h4 q b m (by simpa using hq) (by simpa [Qu]using hm)
     ·cases hc
    ·cases hc
  cases ls with
  |nil=>
   obtain⟨v,rfl,hx⟩:=Agz hp;exact main v [] x (λs1=>([],s1)) rfl hx (lH p x s0) (λis s1 Lx _ _ hlen hLF=>⟨[],B7,rfl,All2.nil,λi a m h=>by simp at h⟩)
  |cons q r=>
   obtain⟨v,vs',x1,y',rfl,rfl,hx,hy⟩:=yw hp;exact main v vs' x1 (λs1=>Hg (q::r) y' s1) rfl hx (dH p q r x1 y' s0)
    (λis s1 Lx hc ho hlen hLF=>zy hr hb (q::r) vs' y' is s1 Lx LF hy hc ho hlen hLF)
theorem Agd:∀(a b:List PV),owns.go (a++b)=owns.go a++owns.go b
 |[],b=>rfl
 |x::a,b=>by simp[owns.go,Agd a b]
mutual
theorem Aku:∀{sh:Sh} {p:PV} {ls:List PV},BB sh p=some ls->owns.go ls=owns p
 | .lf e o,p,ls,h=>by simp only[BB,D6]at h;subst h;simp[owns.go]
 | .agg l,p,ls,h=>by cases p<;>simp only[BB,reduceCtorEq]at h;exact zQ h
theorem zQ:∀{l:List Sh} {ps ls:List PV},BB.go l ps=some ls->owns.go ls=owns.go ps
 |[],[],ls,h=>by simp only[BB.go,D6]at h;subst h;rfl
 |a::l,p::ps,ls,h=>by
  simp only[BB.go]at h;split at h
  ·rename_i x y hx hy;cases h;rw[Agd,Aku hx,zQ hy];rfl
  ·cases h
 |[],_::_,_,h=>by simp[BB.go]at h
 |_::_,[],_,h=>by simp[BB.go]at h
end
structure KeepN (N:Reg) (w w':World):Prop where
 same:∀b,b<w.heap.size->N b->w'.heap[b]? =w.heap[b]?
 gr:Gr w w'
def GlOk(gl:List (Nat×List Value))(N:Reg)(w:World):Prop:=∀p∈gl,p.1<w.heap.size/\N p.1/\∃T fr,w.heap[p.1]? =some (.cells p.2.toArray T fr)
def Bci(gl:List (Nat×List Value))(R N:Reg)(w w':World)(rs:List Sh)(y:KP (Ya rs))(us:List Value):Prop:=
 KeepN N w w'/\∃(A1:Reg) (L1:List MD),(∀b,A1 b-> (¬N b\/w.heap.size<=b)/\b<w'.heap.size)/\Ea w' (λb=>A1 b\/ (b<w.heap.size/\N b)) (L1.map MD.Ki)/\
  ∀(s:S) (L:List MD) (B':Reg),L.length=s.it.length-> (∀b,A1 b->B' b)-> (jN rs=true->∀b,(R b/\N b)\/ (∃p∈gl,p.1=b)->B' b)->
   ∃ps its,(Hg (Ya rs) y s).2=⟨s.sl,s.it++its,s.st⟩/\rM rs (Hg (Ya rs) y s).1=some ps/\Gp B' w' (L++L1) ps us/\its.length=L1.length/\
   ∀(i:Nat) (a:Item) (m:MD),its[i]? =some a->L1[i]? =some m->EJ B' w' (L++L1) a m
structure ConOk (P:Program) (gl:List (Nat×List Value)) (f:Nat) (c:Con):Prop where
 ent:Ent P f
 ok:∀(R N:Reg) (w:World) (L0:List MD) (vs:List Value) (ps:List PV) (x:KP (Ya c.ps)) (y:KP (Ya c.rs)),args c.ps x=some ps-> (OG c.ps x).length=L0.length->
  (∀(i:Nat) (a:Item) (m:MD),(OG c.ps x)[i]? =some a->L0[i]? =some m->EJ (λb=>R b/\N b) w L0 a m)->Ea w N (L0.map MD.Ki)->Gp (λb=>R b/\N b) w L0 ps vs->GlOk gl N w->c.fn x=some y->
  Calls P f vs.toArray w λe w'=>∃us,e= .returned (XL us)/\Bci gl R N w w' c.rs y us
end Go.Rx
namespace Go.Rx
open Go Go.Lv
variable{g:Operand}{G:Prop}
variable {P:Program} {B B':Reg} {w w':World} {L L':List MD} {s:S} {σs:List Env} {σ:Env} {Z:Fix} {A A':Reg} {n:Nat} {ops:Array Oper}
variable {R:Type} {k:S->Option R} {r:R} {d:Option Nat} {ty:TypeId} {pos:String} {after:Array Edge} {T:Tab} {inl:P1 R}
def HI(P:Program)(gl:List (Nat×List Value))(inl:P1 R):Prop:=∀(Z:Fix),Z.gl=gl->∀(f:Nat) (as:List PV) (s:S) (k:S->PV->Option R) (r:R) (σs:List Env) (A:Reg) (L:List MD) (σ:Env) (w:World) (vs:List Value),
 inl f as s k=some r->Rel Z s σs A L σ w->Gp (λb=>A b/\Z.R b) w L as vs->Ent P f/\Calls P f vs.toArray w λe w'=>∃v p s' A' L',e= .returned v/\k s' p=some r/\Rel Z s' σs A' L' σ w'/\p.isV=true/\Gi (λb=>A' b/\Z.R b) w' L' p v
def NK(P:Program)(T:Tab):Prop:=∀f c,T.get f=some c->ConOk P T.gl f c
def pL(P:Program)(T:Tab)(Z:Fix):Prop:=NK P T/\Z.gl=T.gl
theorem Gp.step{q:List PV}{vs:List Value}(hb:∀b,B b->B' b)(hs:Same B w w')(hl:pI L L')(h:Gp B w L q vs):Gp B' w' L' q vs:=Bk.jv hb hs hl h
theorem Gp.append:∀{p q:List PV} {us vs:List Value},Gp B w L p us->Gp B w L q vs->Gp B w L (p++q) (us++vs)
 |[],q,us,vs,h,h'=>by rw[show us=[]from h];exact h'
 |a::p,q,us,vs,⟨v,us',e,h1,h2⟩,h'=>⟨v,us'++vs,by rw[e];rfl,h1,Gp.append h2 h'⟩
theorem Aim{ps:List PV}{us:List Value}(h:Gp B w L ps us):(YF ps).isV=true/\Gi B w L (YF ps) (XL us):=by
 match ps,us,h with
 |[],us,h=>rw[show us=[]from h];exact⟨rfl,[],rfl,rfl⟩
 |[p],us,⟨v,us',e,h1,h2⟩=>
  rw[show us'=[]from h2]at e;subst e;exact Mu h1
 |p::q::r,us,h=>
  obtain⟨v,us',e,h1,v2,us2,e2,h2,h3⟩:=h;subst e2 e;exact⟨rfl,v::v2::us2,rfl,v,_,rfl,h1,v2,us2,rfl,h2,h3⟩
theorem Rel.Asd{w':World}{A1 BX:Reg}{L1:List MD}{its:List Item}(hr:Rel Z s σs A L σ w)(hBX:∀b,BX b-> ¬A b/\b<w.heap.size)(hY:Ea w (λb=>A b\/BX b) (L.map MD.Ki))
  (hk:KeepN (λb=>¬BX b) w w') (hA1:∀b,A1 b-> (¬ ¬BX b\/w.heap.size<=b)/\b<w'.heap.size)
  (hm:Ea w' (λb=>A1 b\/ (b<w.heap.size/\ ¬BX b)) (L1.map MD.Ki)) (hlen:its.length=L1.length)
  (hit:∀(i:Nat) (a:Item) (m:MD),its[i]? =some a->L1[i]? =some m->EJ (λb=>(A b\/A1 b)/\Z.R b) w' (L++L1) a m):
  Rel Z ⟨s.sl,s.it++its,s.st⟩ σs (λb=>A b\/A1 b) (L++L1) σ w':=by
 have hlt:=St.lt hr;have hsame:Same A w w':=λb hb=>hk.same b (hlt b hb) λh=>(hBX b h).1 hb;have hmem:MemR (λb=>A b/\Z.R b) w' L s σs σ:=Fact.step _ (hr.fact 0 (f:=Pp Z.R L s σs σ) rfl) (λ_ h=>h) hsame hk.gr;have hold:(Fact.old Z.M Z.w0).holds A w':=Fact.step _ (hr.fact 1 (f:= .old Z.M Z.w0) rfl) (λ_ h=>h) hsame hk.gr;have hl:=pI.append L L1;have hst:St (λb=>A b\/A1 b) w' [.old Z.M Z.w0] (L1.map MD.Ki++L.map MD.Ki):=by
  refine⟨λb hb=>hb.elim (λh=>HJ (hlt b h) hk.gr.le) (λh=>(hA1 b h).2),λf hf=>?_,?_⟩
  ·cases hf with
   |head=>exact Fact.step _ hold (λ_ h=> .inl h) (λ_ _=>rfl) (.refl _)
   |tail _ h=>cases h
  ·refine Ea.append (λb=>b<w.heap.size/\ ¬BX b) (λb hb=>HJ hb.1 hk.gr.le) (hm.DG ?_) ?_
   ·rintro b ((h|h)|h)
    ·exact .inr ⟨hlt b h,λhx=>(hBX b hx).1 h⟩
    ·exact .inl h
    ·exact .inr h
   ·refine(hY.lt.step hk.gr.le λb hb hn=>hk.same b hb λh=>hn (.inl (.inr h))).DG ?_;rintro b ((h|h)|h)
    ·exact .inl (.inl h)
    ·rcases(hA1 b h).1 with h|h
     ·exact .inl (.inr (Classical.not_not.1 h))
     ·exact .inr h
    ·by_cases hx:BX b
     ·exact .inl (.inr hx)
     ·exact .inr (v! λhl=>h ⟨hl,hx⟩)
 have hb:∀b,A b/\Z.R b-> (A b\/A1 b)/\Z.R b:=λb h=>⟨.inl h.1,h.2⟩;refine Rel.as (Ea.nY hst tD) (i:=0) rfl ⟨⟨?_,?_⟩,hmem.sl.step hb (λ_ _=>rfl) hl,hmem.stk.step hb (λ_ _=>rfl) hl⟩ (by rw[NV])
 ·simp[hmem.it.1,hlen]
 ·intro i a m g1 g2;simp only at g1;rcases NC i s.it.length with hi|hi
  ·rw[HQ hi]at g1;rw[HQ (by rw[<-hmem.it.1];exact hi)]at g2;exact(hmem.it.2 i a m g1 g2).step hb (λ_ _=>rfl) hl
  ·rw[JG hi]at g1;rw[JG (by rw[<-hmem.it.1];exact hi)]at g2;rw[hmem.it.1]at g1;exact hit _ a m g1 g2
theorem Ea.split:∀{X Y:List Mob} {A:Reg},Ea w A (X++Y)->∃BX:Reg,(∀b,BX b-> ¬A b/\b<w.heap.size)/\Ea w (λb=>¬BX b) X/\Ea w (λb=>A b\/BX b) Y
 |[],Y,A,h=>⟨λ_=>False,λb hb=>hb.elim,trivial,h.DG λb hb=>hb.elim id λh=>h.elim⟩
 |m::X,Y,A,⟨o,h1,h2,h3⟩=>by
  obtain⟨BX,g1,g2,g3⟩:=Ea.split h3;refine⟨λb=>BX b\/o=some b,λb hb=>?_,⟨o,h1,λb hb=>⟨λh=>h (.inr hb),(h2 b hb).2⟩,g2.DG ?_⟩,g3.DG ?_⟩
  ·rcases hb with hb|hb
   ·exact⟨λh=>(g1 b hb).1 (.inl h),(g1 b hb).2⟩
   ·exact h2 b hb
  ·rintro b (hb|hb)
   ·exact λh=>hb (.inl h)
   ·exact λh=>(g1 b h).1 (.inr hb)
  ·rintro b (hb|hb|hb)
   ·exact .inl (.inl hb)
   ·exact .inr hb
   ·exact .inl (.inr hb)
theorem Ea.Bf0:∀{Y:List Mob} {A:Reg} {i:Nat} {m:Mob},Ea w A Y->Y[i]? =some m->∃o,m.holds o w/\∀b,o=some b-> ¬A b
 |_::_,A,0,m,⟨o,h1,h2,_⟩,h=>⟨o,by simp at h;exact h▸h1,λb hb=>(h2 b hb).1⟩
 |_::Y,A,i+1,m,⟨o,_,_,h3⟩,h=>by
  obtain⟨q,g1,g2⟩:=Ea.Bf0 h3 (i:=i) (by simpa using h);exact⟨q,g1,λb hb hA=>g2 b hb (.inl hA)⟩
theorem Ai1{w:World}:MD.dead.Ki.holds none w:=⟨none,0,0,rfl,B7,E1 _,λ_=>rfl,λ_=>rfl,λb h=>by cases h⟩
theorem HH{i:Nat}:∀{l:List Nat},EH i l=true↔i∈l
 |[]=>by simp[EH]
 |j::l=>by
  simp only[EH,HV,Xn,HH (l:=l)];exact or_congr ⟨Di,λh=>by subst h;simp⟩ SJ
theorem T7{f:Item->Item}(hf:f .dead= .dead):∀{l:List Item} {i:Nat},Dj (l.map f) i=f (Dj l i)
 |[],_=>by simp[Dj,hf]
 |_::_,0=>rfl
 |_::r,i+1=>by simpa [Dj]using T7 hf (l:=r) (i:=i)
theorem Bkn:∀{l:List Item} {i j:Nat},Dj l i= .dead->Dj (KV l j .dead) i= .dead
 |[],_,_,h=>by simpa [KV]using h
 |_::_,0,0,_=>rfl
 |_::_,0,j+1,h=>by simpa [KV,Dj]using h
 |_::_,i+1,0,h=>by simpa [KV,Dj]using h
 |_::r,i+1,j+1,h=>by simpa [KV,Dj]using Bkn (l:=r) (i:=i) (j:=j) (by simpa [Dj]using h)
theorem Bht:∀{l:List Item} {i:Nat},Dj (KV l i .dead) i= .dead
 |[],_=>rfl
 |_::_,0=>rfl
 |_::r,i+1=>by simpa [KV,Dj]using Bht (l:=r) (i:=i)
theorem Amd{i:Nat}:∀{is:List Nat} {s s':S},Dj s.it i= .dead->s.ni is=some s'->EH i is=false
 |[],_,_,_,_=>rfl
 |j::is,s,s',hd,h=>by
  simp only[S.ni]at h;split at h
  ·rename_i s1 h1;unfold S.kill at h1;split at h1
   ·rename_i E e l hj;cases h1;have hij:Nat.beq i j=false:=by
     cases hb:Nat.beq i j with
     |false=>rfl
     |true=>rw[Di hb]at hd;rw[hd]at hj;cases hj
    have:Dj ((s.Xz j .dead).sub j .any).it i= .dead:=by
     show Dj ((KV s.it j .dead).map _) i=_;rw[T7 rfl,Bkn hd];rfl
    simp[EH,hij,Amd this h]
   ·cases h1
  ·cases h
theorem Aic:∀{is:List Nat} {s s':S} {L:List MD},MemR B w L s σs σ-> (∀(i z:Nat) (E:TypeId) (v:Value) (c:List Value),L[i]? =some (.own z E v c)->v.oneCell'=true)->s.ni is=some s'->
  ∃L',MemR B w L' s' σs σ/\ (is=[]->L'=L)/\ (∀j,EH j is=false->L'[j]? =L[j]?)/\∀(A:Reg) (X:List Mob),Ea w A (X++L.map MD.Ki)->Ea w A (X++(is.map λi=>(L.getD i .dead).Ki)++L'.map MD.Ki)
 |[],s,s',L,hm,_,h=>by
  simp only[S.ni,D6]at h;subst h;exact⟨L,hm,λ_=>rfl,λ_ _=>rfl,λA X hX=>by simpa using hX⟩
 |i::is,s,s',L,hm,hone,h=>by
  simp only[S.ni]at h;split at h
  ·rename_i s1 h1;unfold S.kill at h1;split at h1
   ·rename_i E e l hi;cases h1;obtain⟨v,cs,hL,_⟩:=hm.arr hi;have hf:Frz B w L i .any:=⟨λz E' u c h=>⟨u,rfl,by rw[hL]at h;cases h;exact hone _ _ _ _ _ hL⟩,rfl,rfl⟩;have hm2:=hm.subst hf;have hlt:=(List.getElem?_eq_some_iff.1 hL).1;obtain⟨L',g1,g2,g3,g4⟩:=Aic hm2 (λj z E v c hj=>by
     by_cases hji:j=i
     ·subst hji;rw[P0 hlt]at hj;cases hj
     ·rw[N6 (LC hji)]at hj;exact hone _ _ _ _ _ hj) h
    refine⟨L',g1,(λe=>by cases e),λj hj=>?_,λA X hX=>?_⟩
    ·simp only[EH,TM]at hj;rw[g3 j hj.2,N6 (λe=>by subst e;simp at hj)]
    ·have vC:(L.map MD.Ki)[i]? =some (L.getD i .dead).Ki:=by simp[hL,D9]
     have hX1:Ea w A (MD.dead.Ki::(L.map MD.Ki).eraseIdx i++(X++[(L.getD i .dead).Ki])):=by
      have h1:Ea w A (MD.dead.Ki::(X++L.map MD.Ki)):=⟨none,Ai1,λb hb=>(by cases hb),hX.DG λb hb=>hb.elim id λh=>by cases h⟩;refine h1.perm (.cons _ ?_);have hp:=(A4 vC).symm;refine(List.Perm.append_left X hp).trans ?_;rw[show X++(L.getD i .dead).Ki::(L.map MD.Ki).eraseIdx i=(X++[(L.getD i .dead).Ki])++(L.map MD.Ki).eraseIdx i by simp];exact tD
     have hX2:Ea w A ((X++[(L.getD i .dead).Ki])++(L.set i .dead).map MD.Ki):=by
      refine hX1.perm (List.perm_append_comm.trans (List.Perm.append_left _ ?_));rw[TU];exact bF vC
     have:=g4 A _ hX2;have hni:EH i is=false:=Amd (s:=(s.Xz i .dead).sub i .any) (by
      show Dj ((KV s.it i .dead).map _) i=_;rw[T7 rfl,Bht];rfl) h
     have he:(is.map λj=>((L.set i .dead).getD j .dead).Ki)=is.map λj=>(L.getD j .dead).Ki:=by
      refine TN λj hj=>?_;have:j≠i:=λe=>by
       subst e;rw[HH.2 hj]at hni;cases hni
      simp only[D9,N6 (LC this)]
     rw[he]at this;simpa using this
   ·cases h1
  ·cases h
theorem Az.noL:∀{e:ET} {x:e.T} {cs:List Value},e.R? =false->Az B w e x cs->Az B' w' e x cs
 | .int k,x,cs,_,h=>h
 | .bool,x,cs,_,h=>h
 | .str,x,cs,_,h=>h
 | .list e,l,cs,hL,h=>by cases hL
 | .vec m e,l,cs,hL,⟨h1,h2⟩=>⟨h1,h2.mono λx c h=>Az.noL (e:=e) hL h⟩
 | .cons a q,x,cs,hL,⟨c1,c2,e,h1,h2⟩=>by
  simp only[ET.R?,TM]at hL;exact⟨c1,c2,e,Az.noL hL.1 h1,Az.noL hL.2 h2⟩
 | .nil,_,cs,_,h=>h
theorem Ajp:∀{ls:List (ET×Option TypeId)} {vs:List PV},owns.go vs=[]->Yn ls vs=[]
 |[],_,_=>by unfold Yn;rfl
 |_::_,[],_=>by unfold Yn;rfl
 |(e,o)::ls,v::vs,h=>by
  simp only[owns.go,List.append_eq_nil_iff]at h;cases o<;>simp[Yn,h.1,Ajp h.2]
theorem Rel.out(hr:Rel Z s σs A L σ w){b:Nat}(hb:¬A b):Z.R b:=by
 rcases NC b Z.w0.heap.size with hlt|hge
 ·have hold:=(hr.fact 1 (f:= .old Z.M Z.w0) rfl).2 b hlt;exact Z.mod b (WY λhM=>hb (hold hM).1)
 ·exact Z.new b hge
theorem Avk{f:Nat}{fs:List PV}{as:Array Operand}{ts:Array TypeId}{dn:Nat}(hT:pL P T Z)(hI:HI P T.gl inl)(hr0:Rel Z s σs A L σ w)(hg:Fh s.sl g= .bfn f fs)
  (hd:Ng n ⟨some dn, .call ⟨.value g,as,ts⟩,ty,pos,after,none⟩=true) (hP:k! (as.toList.map (Fh s.sl))=true) (h:inl f (fs++as.toList.map (Fh s.sl)) s (λs v=>k (s.Ij (some dn) v))=some r) (hG:¬G):
  FQ P n ops ⟨some dn, .call ⟨.value g,as,ts⟩,ty,pos,after,none⟩ Z s σs k r G A L σ w:=by
 obtain⟨fvs,hgv,hfs⟩:∃vs:List Value,ev σ g= .func (.func f) vs.toArray #[]/\Gp (λb=>A b/\Z.R b) w L fs vs:=by
  obtain⟨vs,h1,h2⟩:=Dz hr0.mem.sl hg rfl;exact⟨vs,by simpa using h1,h2⟩
 have hpv:=Gp.append hfs (wA hr0.mem.sl _ hP);obtain⟨he,hcall⟩:=hI Z hT.2 f _ s _ r σs A L σ w _ h hr0 hpv;have hxe:XE P σ w (.call ⟨.value g,as,ts⟩) f (fvs++as.toList.map (ev σ)).toArray:=λ_ _ _ _ _=>by
  have h1:(callFunc f (fvs.toArray++as.map (ev σ))).run P w= .ok (.enter f (fvs.toArray++as.map (ev σ))) w:=he _ w;have h2:(fvs++as.toList.map (ev σ)).toArray=fvs.toArray++as.map (ev σ):=by apply Y6;simp
  rw[h2];simp[execOp,resolve,hgv,Deferred.ofValue,invoke,h1]
 refine WL.e (cJ hd) hxe hcall ?_;rintro e w' ⟨v,p,s',A',L',rfl,hk,hr',hv,hv'⟩;exact⟨_,rfl,WL.nil ⟨_,A',L',hk,hr'.Ij (d:=some dn) hv hv',λgg=>absurd gg hG⟩⟩
theorem Azn{f:Nat}{caps:List PV}{as:Array Operand}{ts:Array TypeId}{dn:Nat}(hT:pL P T Z)(hI:HI P T.gl inl)(hr0:Rel Z s σs A L σ w)(hg:Fh s.sl g= .fn f caps)
  (hd:Ng n ⟨some dn, .call ⟨.value g,as,ts⟩,ty,pos,after,none⟩=true) (h:qI P T inl s (some dn) f caps as.toList k=some r)
  (hG:G->∃c,T.get f=some c/\UG (Ya c.ps)=true/\ (O_ c=false\/owns.go (as.toList.map (Fh s.sl))=[])):
  FQ P n ops ⟨some dn, .call ⟨.value g,as,ts⟩,ty,pos,after,none⟩ Z s σs k r G A L σ w:=by
 obtain⟨cvs,hgv,Bcs⟩:=Amw (Dz hr0.mem.sl hg rfl);have has:as=as.toList.toArray:=by simp
 have hxe:Ent P f->XE P σ w (.call ⟨.value g,as,ts⟩) f (as.toList.map (ev σ)++cvs).toArray:=λhe=>by
  have:=X.Bgs (P:=P) (σ:=σ) (w:=w) (args:=as.toList) (ts:=ts) he hgv rfl;rw[<-has]at this;exact this
 unfold qI at h;split at h
 ·rename_i c hc;have hcon:=hT.1 f c hc;split at h
  ·have hc0:cvs=[]:=Bcs;subst hc0;split at h
   ·cases h
   ·rename_i ls0 Bhw;split at h
    ·cases h
    ·rename_i s1 hs1;obtain⟨A1,L1,hr,hsame⟩:∃A1 L1,Rel Z s1 σs A1 L1 σ w/\ (G->s1=s/\A1=A/\L1=L):=by
      split at hs1
      ·rename_i hro;obtain⟨A1,L1,h1,h2⟩:=Vy hr0 hs1;refine⟨A1,L1,h1,λg=>h2 ?_⟩;obtain⟨c',hc',_,h3⟩:=hG g;rw[hc]at hc';cases hc';rcases h3 with h3|h3
       ·rw[hro]at h3;cases h3
       ·exact Ajp (by rw[zQ Bhw];exact h3)
      ·cases hs1;exact⟨A,L,hr0,λ_=>⟨rfl,rfl,rfl⟩⟩
     cases hP:k! (as.toList.map (Fh s1.sl))with
     |false=>rw[hP]at h;cases h
     |true=>
     rw[hP]at h;simp only[Pw,SC]at h;try dsimp only[Dk]at h
     split at h
     ·cases h
     ·rename_i ls hls;cases ZF:(O_ c&& !(Yn (Ya c.ps) ls).isEmpty)with
      |true=>rw[ZF]at h;cases h
      |false=>
      rw[ZF]at h;dsimp only[Dk,cond]at h;split at h
      ·cases h
      ·rename_i x hx;split at h
       ·cases h
       ·rename_i is his;cases sD:(!((Yn (Ya c.ps) ls).all λi=>!EH i is))with
        |true=>rw[sD]at h;cases h
        |false=>
        rw[sD]at h;dsimp only[Dk,cond]at h;split at h
        ·cases h
        ·rename_i s2 hs2;obtain⟨y,hy,h⟩:=bind_some h;change (match rM c.rs (Hg (Ya c.rs) y s2).1 with|some vs=>k ((Hg (Ya c.rs) y s2).2.Ij (some dn) (YF vs))|none=>none)=some r at h;have hpv:=wA hr.mem.sl _ hP;have hone:∀(i z:Nat) (E:TypeId) (v:Value) (c:List Value),L1[i]? =some (.own z E v c)->v.oneCell'=true:=λi z E v c hi=>by
          obtain⟨p,len,cap,rfl,_⟩:=hr.Yk hi;rfl
         obtain⟨L2,hm2,hnil,hget,Bhx⟩:=Aic hr.mem hone hs2;obtain⟨BX,hBX,hX,hY⟩:=Ea.split (Bhx A1 [] (by simpa using St.mobs hr));have hr2:Rel Z s2 σs A1 L2 σ w:=Rel.as (h:=(⟨St.lt hr,hr.facts,hY.DG λ_ h=> .inl h⟩:St A1 w _ (L2.map MD.Ki))) (i:=1) rfl hm2 rfl;have hL0:Ea w (λb=>¬BX b) ((Qu L1 (Ya c.ps) ls).map MD.Ki):=E0 (N:=λ_=>True) his (by simpa using hX);have key:∀R0:Reg,(∀b,A1 b/\Z.R b->R0 b)-> (Yn (Ya c.ps) ls=[]\/∀b,R0 b)-> (O_ c=true->∀b,R0 b->A1 b/\Z.R b)->
           FQ P n ops ⟨some dn, .call ⟨.value g,as,ts⟩,ty,pos,after,none⟩ Z s σs k r G A L σ w:=by
          intro R0 h1 h2 h3;have hb1:∀b,A1 b/\Z.R b->R0 b/\ ¬BX b:=λb hb=>⟨h1 b hb,λhx=>(hBX b hx).1 hb.1⟩;obtain⟨Bjt,e1,e2,e3,e4⟩:=zy (B1:=λb=>R0 b/\ ¬BX b) hr hb1 (Ya c.ps) ls x is ⟨[],[],[]⟩ [] (Qu L1 (Ya c.ps) ls) hx his (λi hi z E v cc hLi=>by
           rcases h2 with h2|h2
           ·rw[h2]at hi;cases hi
           ·have hni:EH i is=false:=by
             have:=sD;simp only[jw,XB,IC]at this;exact this i hi
            have Bju:=(hget i hni).trans hLi;obtain⟨o,g1,g2⟩:=Ea.Bf0 hY (hr2.Ki Bju);exact(Go.Lv.Yk g1).step (λb hb=>⟨h2 b,λhx=>g2 b hb (.inr hx)⟩) (λ_ _=>rfl)) rfl rfl
          obtain⟨ps,h5,h6⟩:=Adc hls hpv e3;have jO:OG c.ps x=Bjt:=by unfold OG;rw[e1];rfl
          have hcall:=hcon.ok R0 (λb=>¬BX b) w _ _ ps x y h5 (by rw[jO];exact e2) (by rw[jO];exact e4) hL0 h6 (λp hp=>by
           obtain⟨hA,T1,fr,hh⟩:=hr.SO (hT.2▸hp);exact⟨lt_of_heap hh,λhx=>(hBX _ hx).1 hA.1,T1,fr,hh⟩) hy
          have hxe':=hxe hcon.ent;rw[GY]at hxe';refine WL.e (cJ hd) hxe' hcall ?_;rintro e w' ⟨us,rfl,hk,A2,LL,hA2,hm3,hres⟩;refine⟨_,rfl,WL.nil ?_⟩;have hnew:∀b,A2 b->Z.R b:=λb hb=>by
           rcases(hA2 b hb).1 with h7|h7
           ·exact hr.out (hBX b (Classical.not_not.1 h7)).1
           ·refine Z.new b ?_;have h8:Z.w0.heap.size<=w.heap.size:=(hr.fact 1 (f:= .old Z.M Z.w0) rfl).1.le;omega
          obtain⟨ps',its,g1,g2,g3,g4,g5⟩:=hres s2 L2 (λb=>(A1 b\/A2 b)/\Z.R b) hr2.len.symm (λb hb=>⟨.inr hb,hnew b hb⟩) (λhro b hb=>by
           rcases hb with hb|⟨p,hp,rfl⟩
           ·exact⟨.inl (h3 hro b hb.1).1,(h3 hro b hb.1).2⟩
           ·exact⟨.inl (hr.SO (hT.2▸hp)).1.1,(hr.SO (hT.2▸hp)).1.2⟩)
          have hr':=Rel.Asd hr2 hBX hY hk hA2 hm3 g4 g5;obtain⟨hv,hv'⟩:=Aim g3;rw[g2]at h;refine⟨_,λb=>A1 b\/A2 b,L2++LL,h,?_,λgg=>?_⟩
          ·rw[g1];exact hr'.Ij (d:=some dn) hv hv'
          ·obtain⟨e1',e2',e3'⟩:=hsame gg;obtain⟨c',hc',hno,_⟩:=hG gg;rw[hc]at hc';cases hc';have Bjw:=Aef hno his;subst Bjw;have Bjx:s1=s2:=by simpa [S.ni]using hs2
           have Bjy:=hnil rfl;subst Bjx Bjy e1' e2' e3';rw[g1];exact⟨λb hb=> .inl hb,λb hb=>hk.same b (St.lt hr b hb) λhx=>(hBX b hx).1 hb,⟨LL,rfl⟩,⟨its,rfl⟩⟩
         cases hro':O_ c with
         |true=>
          refine key (λb=>A1 b/\Z.R b) (λ_ h=>h) (.inl ?_) (λ_ _ h=>h);rw[hro']at ZF;simp only[JY,jw]at ZF;exact isEmpty_nil ZF
         |false=>exact key (λ_=>True) (λ_ _=>trivial) (.inr λ_=>trivial) (λh=>by rw[hro']at h;cases h)
  ·cases h
 ·rename_i hn;obtain⟨hP,h⟩:=Be h;have hpv:=Gp.append (wA hr0.mem.sl _ hP) Bcs;obtain⟨he,hcall⟩:=hI Z hT.2 f _ s _ r σs A L σ w _ h hr0 hpv;refine WL.e (cJ hd) (hxe he) hcall ?_;rintro e w' ⟨v,p,s',A',L',rfl,hk,hr',hv,hv'⟩;refine⟨_,rfl,WL.nil ⟨_,A',L',hk,hr'.Ij (d:=some dn) hv hv',λgg=>?_⟩⟩;obtain⟨c,hc,_⟩:=hG gg;rw[hn]at hc;cases hc
end Go.Rx
namespace Go.Rx
open Go Go.Lv
variable{o:BinOp}{e:ET}{x y:Operand}{v:PV}{G:Prop}{vy:Value}
variable {P:Program} {B B':Reg} {w w':World} {L L':List MD} {s:S} {σs:List Env} {σ:Env} {Z:Fix} {A A':Reg} {n:Nat} {ops:Array Oper}
variable {R:Type} {k:S->Option R} {r:R} {d:Option Nat} {ty:TypeId} {pos:String} {after:Array Edge} {T:Tab} {inl:P1 R}
theorem YE{l:List Oper}{K K':Env->World->Prop}(h:WL P n ops l K σ w)(hk:∀σ w,K σ w->K' σ w):WL P n ops l K' σ w:=by
 have:=WL.cut (rest:=[]) K l h (λσ w h=>WL.nil (hk σ w h));rwa [GY]at this
theorem look_ok{a:UInt8}{z:PV}{kk:PV->Option R}:∀{es:List MapEntry} {ks:List UInt8} {vs:List PV} {i:Nat},es.map (·.key)=ks.map (λk=>iv (T:=UInt8) (k:= .u8) k)->Gp B w L vs (es.map (·.val))->lkC a kk z ks vs=some r->
  ∃res,Instr.findNow (.int .u8) (iv (T:=UInt8) (k:= .u8) a) es i=some res/\match res with
   |some (_,v)=>∃p:PV,asV p.isA (Bk B w L p) v/\kk (.tup [p, .b true])=some r
   |none=>kk (.tup [z, .b false])=some r
 |[],[],[],i,_,_,h=>⟨none,rfl,h⟩
 |[],[],_::_,i,_,⟨_,_,e,_⟩,h=>by cases e
 |[],_::_,_,i,h,_,_=>by cases h
 |_::_,[],_,i,h,_,_=>by cases h
 |e::es,q::ks,[],i,_,h,_=>by cases h
 |e::es,q::ks,p::vs,i,hk,⟨v,vs',hv,h1,h2⟩,h=>by
  simp only[J8,X4]at hk hv;obtain⟨hk1,hk2⟩:=hk;obtain⟨rfl,rfl⟩:=hv;have hs:Instr.sameNow (.int .u8) (iv (T:=UInt8) (k:= .u8) a) e.key=some (geq a q):=by
   rw[hk1];rfl
  unfold lkC at h;cases hb:geq a q with
  |true=>
   rw[hb,B0 rfl]at h;exact⟨some (i,e.val),by simp only[Instr.findNow,hs,hb],p,h1,h⟩
  |false=>
   rw[hb,B! B7]at h;obtain⟨res,g1,g2⟩:=look_ok (i:=i+1) hk2 h2 h;exact⟨res,by simp only[Instr.findNow,hs,hb];exact g1,g2⟩
theorem Ap3{t:TypeId}{ix:Operand}{dn:Nat}(hr:Rel Z s σs A L σ w)(hd:Ng n ⟨some dn, .lookup t x ix true,ty,pos,after,none⟩=true)(h:pY P s dn t x ix k=some r):
  FQ P n ops ⟨some dn, .lookup t x ix true,ty,pos,after,none⟩ Z s σs k r G A L σ w:=by
 have hm:=hr.mem;unfold pY at h;split at h
 ·rename_i ks vs e a kt et hx hix ht;split at h
  ·rename_i a' hkt;split at h
   ·rename_i inf Xs;split at h
    ·rename_i hz;obtain⟨rr,es,c,h1,h2,h3,h4,h5⟩:=Dz hm.sl hx rfl;have hxv:ev σ x= .map (some rr):=by simpa using h1
     have hiv:ev σ ix=iv (T:=UInt8) (k:= .u8) a':=UA (Dz hm.sl hix rfl);obtain⟨res,g1,g2⟩:=look_ok (i:=0) h4 h5 h;have hzr:(zeroValue et).run P w= .ok .nilFunc w:=by simp[zeroValue,typeInfo,Xs,hz]
     have hck:(Instr.checkKey es.isEmpty 10000 kt (iv (T:=UInt8) (k:= .u8) a')).run P w= .ok () w:=MapKept.run_checkKey hkt (show MapKept.IsKey (.int .u8) (.int .u8 _)from rfl) _ 9999;have hfk:=MapKept.run_findKey (P:=P) (w:=w) hkt g1;have hgo:=MapKept.run_getObj_map (P:=P) h3;cases res with
     |none=>
      refine Fg (p:= .tup [.cst .nilFunc, .b false]) (val:= .tuple #[.nilFunc, .bool false]) (d:=some dn) hr hd (λ_ _ _ _ _=>?_) rfl ?_ g2
      ·simp[execOp,hxv,hiv,Instr.lookup,EE ht,hgo,hck,hfk,hzr,Result.andThen]
      ·exact⟨[.nilFunc, .bool false],rfl, .nilFunc,[.bool false],rfl,⟨rfl,rfl⟩,_,[],rfl,rfl,rfl⟩
     |some q=>
      obtain⟨j,v⟩:=q;obtain⟨p,k1,k2⟩:=g2;refine Fg (p:= .tup [p, .b true]) (val:= .tuple #[v, .bool true]) (d:=some dn) hr hd (λ_ _ _ _ _=>?_) rfl ?_ k2
      ·simp[execOp,hxv,hiv,Instr.lookup,EE ht,hgo,hck,hfk,Result.andThen]
      ·exact⟨[v, .bool true],rfl,v,[.bool true],rfl,k1,_,[],rfl,rfl,rfl⟩
    ·cases h
   ·cases h
  ·cases h
 ·cases h
theorem xF{cs:Array Value}(h:zD P ty (.agg cs)=some v)(hA:v.isA=true):v.isV=true/\Gi B w L v (.agg cs):=by
 have h1:=yU (B:=B) (w:=w) (L:=L) h;have h2:Ln B w L v (.agg cs):=by
  unfold Ln;rw[hA];exact⟨cs.toList,B7,h1⟩
 exact Mu h2
theorem p?{a:Option R}:∀{l:List (Option R)},both a l=some r->a=some r/\∀b∈l,b=some r
 |[],h=>⟨h,B7⟩
 |b::l,h=>by
  unfold both at h;split at h
  ·rename_i hab;obtain⟨h1,h2⟩:=p? h;exact⟨h1,λc hc=>by
    rcases List.mem_cons.1 hc with rfl|hc
    ·exact hab▸h1
    ·exact h2 c hc⟩
  ·cases h
theorem Azy{α:Type}{l:List α}{a b:Option R}(h:wh l a b=some r):b=some r/\ (l=[]->a=some r):=by
 cases l with
 |nil=>
  obtain⟨h1,h2⟩:=p? h;exact⟨h2 _ (.head _),λ_=>h1⟩
 |cons x l=>exact⟨h,λe=>by cases e⟩
theorem R5{t e t':TypeId}{q:Bool}{p:Option Addr}{l c:Nat}(h:X_ o=some q)(ht:P.underlying t=some (.slice e))(hx:ev σ x= .slice p l c)(hy:ev σ y= .slice none 0 0):
  XO P σ w (.binOp o t x y t') (.bool (p.isNone==q)):=by
 cases o<;>simp only[X_,D6,reduceCtorEq]at h<;>subst h
 ·have:=X.bin (w:=w) (t':=t') hx hy (Bin.Bai ht p l c);simpa using this
 ·have:=X.bin (w:=w) (t':=t') hx hy (Bin.Ax6 ht p l c);cases p<;>simpa using this
theorem elem_nil{B:Reg}{l:List e.T}(hz:Nat.ble 1 e.size=true)(h:Cm (Az B w e) l []):l=[]:=by
 have h1:=Cm.len (λx c h=>Az.len h) h;have h2:1<=e.size:=by simpa using hz
 cases l with
 |nil=>rfl
 |cons a l=>
  simp only[G2,NU]at h1;have:0<(l.length+1)*e.size:=N_ F0 F0;omega
theorem Awc{t t':TypeId}{a:PV}{dn:Nat}(hr:Rel Z s σs A L σ w)(hd:Ng n ⟨some dn, .binOp o t x y t',ty,pos,after,none⟩=true)(hx:Fh s.sl x=a)(hy:Fh s.sl y= .nils)
  (h:qb P s dn o t a k=some r):FQ P n ops ⟨some dn, .binOp o t x y t',ty,pos,after,none⟩ Z s σs k r G A L σ w:=by
 have hm:=hr.mem;have hy':=OW (Dz hm.sl hy rfl);unfold qb at h;split at h
 ·rename_i q e hq ht;have main:∀{α:Type} {l:List α} {p:Option Addr} {len c:Nat},ev σ x= .slice p len c-> (p=none->l=[])->wh l (k (s.set dn (.b q))) (k (s.set dn (.b (!q))))=some r->FQ P n ops ⟨some dn, .binOp o t x y t',ty,pos,after,none⟩ Z s σs k r G A L σ w:=by
   intro α l p len c hv hp h;obtain⟨h1,h2⟩:=Azy h;cases hn:p.isNone with
   |true=>
    have hk:=h2 (hp (by simpa using hn));have hxo:=R5 (w:=w) (t':=t') hq ht hv hy';rw[hn]at hxo;have hb:(true==q)=q:=by cases q<;>rfl
    rw[hb]at hxo;exact Fg (p:= .b q) hr hd hxo rfl rfl hk
   |false=>
    have hxo:=R5 (w:=w) (t':=t') hq ht hv hy';rw[hn]at hxo;have hb:(false==q)=!q:=by cases q<;>rfl
    rw[hb]at hxo;exact Fg (p:= .b (!q)) hr hd hxo rfl rfl h1
  split at h
  ·have hv:=OW (Dz hm.sl hx rfl);have hxo:=R5 (w:=w) (t':=t') hq ht hv hy';have hb:((none:Option Addr).isNone==q)=q:=by cases q<;>rfl
   rw[hb]at hxo;exact Fg (p:= .b q) hr hd hxo rfl rfl h
  ·split at h
   ·obtain⟨hz,h⟩:=Be h;obtain⟨c0,h1,h2⟩:=HF (Dz hm.sl hx rfl);have h1':=h1;obtain⟨p,len,cap,hv,h3,h4,h5,h6⟩:=h1;refine main hv (λhp=>?_) h;subst hp;have:c0=[]:=Go.Lv.Rd.Ais (by rw[<-hv];exact h1');subst this;have:=h5 rfl;exact elem_nil hz h2
   ·cases h
  ·rename_i i;split at h
   ·rename_i E e' l hi;obtain⟨hz,h⟩:=Be h;obtain⟨v,cs,h1,h2⟩:=hm.arr hi;obtain⟨z,E',c0,h3⟩:=UB (Dz hm.sl hx rfl);rw[h1]at h3;cases h3;have hrd:=hr.Yk h1;have h1':=hrd;obtain⟨p,len,cap,hv,h4,h5,h6,h7⟩:=hrd;refine main hv (λhp=>?_) h;subst hp;have:cs=[]:=Go.Lv.Rd.Ais (by rw[<-hv];exact h1');subst this;exact elem_nil hz h2
   ·cases h
  ·cases h
 ·cases h
theorem Ajs{i b off:Nat}{md:MD}{ns:List Value}{F:List Fact}(hr:St A w F (L.map MD.Ki))(h:L[i]? =some md)(hb:md.base=some b)(h1:ns.all (·.oneCell')=true)(hle:off+ns.length<=md.cells.length)(hz:0<ns.length):
  ∃w' md',(storeCells ⟨b,off,none⟩ ns).run P w= .ok () w'/\St A w' F ((L.map MD.Ki).set i md'.Ki)/\DZ off ns md md':=by
 cases md with
 |dead=>cases hb
 |box b' cells T=>
  cases hb;have hL:(L.map MD.Ki)[i]? =some (Mob.box b cells T):=eQ h;have hr':=Jl (P:=P) b T (0,0) ns off 0 cells w (hr.box hL) (by simpa [MD.cells]using hle) (.inr (.inr (E1 _))) (λv hv=>by simpa using List.all_eq_true.1 h1 v hv);simp only[J6]at hr';exact⟨_, .box b (Bs cells off ns) T,hr',hr.Au8 hL,rfl⟩
 |own z' E u cs=>
  obtain⟨b',m,c,hu,hs'⟩:=St.gZ hr (eQ h) (by simp[MD.cells]at hle;omega);subst hu;cases hb;have hlen:i<(L.map MD.Ki).length:=by simpa using(List.getElem?_eq_some_iff.1 h).1
  have hL:((L.map MD.Ki).set i (.at_ b z' E m c cs))[i]? =some (.at_ b z' E m c cs):=by rw[P0 hlen]
  have hle':off+ns.length<=cs.length:=hle;have hcore:∃w',(storeCells ⟨b,off,none⟩ ns).run P w= .ok () w'/\St A w' F (((L.map MD.Ki).set i (.at_ b z' E m c cs)).set i (.at_ b z' E m c (Bs cs off ns))):=by
   obtain⟨o,ho,_,_⟩:=(hs'.front hL).mobs;obtain⟨rfl,ho⟩:=ho;have ho':=ho;obtain⟨_,len,cap,e,h3,h4,h5,h5',h6⟩:=ho;cases e;obtain⟨arr,fr,e,hbb,hsz',hfz,hcells⟩:=h6 b rfl;have hcl:cs.length<=arr.size:=by rw[h3,hsz'];exact EK _ h4
   have hr':=Jl (P:=P) b E fr ns off 0 arr.toList w (by simpa using hbb) B8 (by simp;rcases hfz with h|h;exact .inr (.inr (cH h.symm));exact .inr (.inl h)) (λv hv=>by simpa using List.all_eq_true.1 h1 v hv);simp only[J6]at hr';have hbl:=lt_of_heap hbb;have hcs':(Bs cs off ns).length=cs.length:=Hv F0;have hget:∀i,i<m*z'-> (Bs arr.toList off ns)[i]? =(Bs cs off ns)[i]? :=λi hi=>by
    have rB:min off arr.toList.length=off:=by simp;omega
    have rC:min off cs.length=off:=F0
    simp only[Bs,aQ,G!,rB,rC,JL,N?];by_cases g1:i<off
    ·rw[B0 g1,B0 g1,B0 g1,B0 g1];simpa using hcells i hi
    ·rw[B! g1,B! g1];by_cases g2:i-off<ns.length
     ·rw[B0 g2,B0 g2]
     ·rw[B! g2,B! g2];have e1:off+ns.length+(i-off-ns.length)=i:=F0
      rw[e1];simpa using hcells i hi
   refine⟨_,hr',hs'.rY hL (b:=b) ⟨rfl,ho'⟩ ⟨rfl,_,m,c,rfl,by rw[hcs',h3],h4,h5,h5',λb' hb'=>?_⟩ ?_⟩
   ·cases hb';refine⟨(Bs arr.toList off ns).toArray,fr,rfl,by simp[Hy,hbl],?_,?_,λi hi=>?_⟩
    ·simp only[LN];rw[Hv B8];simpa using hsz'
    ·simp only[LN];rw[Hv B8];simpa using hfz
    ·simpa using hget i hi
   ·rintro⟨q,hq,q1,q2⟩;exact⟨q,hq,q1,q2,hq.1⟩
  obtain⟨w',g1,g2⟩:=hcore;have hs3:=g2.Bgf (i:=i) (b:=b) (s:=z') (m:=m) (c:=c) (E:=E) (cs:=Bs cs off ns) (by rw[P0 (by simpa using hlen)]);rw[kW,kW]at hs3;exact⟨w', .own z' E (.slice (some ⟨b,0,none⟩) m c) (Bs cs off ns),g1,hs3,rfl⟩
structure SrcW (P:Program) (w:World) (vy:Value) (z ly:Nat) (ys:List Value):Prop where
 len:(Builtin.lenOf vy).run P w= .ok ly w
 first:∀m,m<=ly-> (Builtin.firstCells z m vy).run P w= .ok (ys.take (m*z)).toArray w
theorem SrcW.rd{z ly:Nat}{ys:List Value}(h:Rd (λ_=>True) w z vy ys)(hl:ys.length=ly*z)(hz:0<z):SrcW P w vy z ly ys:=by
 obtain⟨p,len,cap,rfl,h2,h3,h4,h5⟩:=h;have he:len=ly:=K8 hz (h2.symm.trans hl);subst he;refine⟨rfl,λm hm=>?_⟩;cases p with
 |none=>
  have:m=0:=by have:=h4 rfl;omega
  subst this;simp[Builtin.firstCells]
 |some a=>
  have hlen:(ys.take (m*z)).length=m*z:=by
   rw[G!,h2];have:=EK z hm;omega
  simp only[Builtin.firstCells];by_cases hc:0<cap
  ·obtain⟨b,off,arr,T,fr,e1,_,e2,_,e4⟩:=h5 hc;cases e1;have:=Qc (P:=P) (w:=w) (b:=b) (off:=off) (ys.take (m*z)) (λi hi=>by
    rw[hlen]at hi;have h6:i<len*z:=HJ hi (EK z hm);rw[cell_of e2,e4 i h6,JL,B0 hi])
   rw[hlen]at this;exact this
  ·have:m=0:=F0
   subst this;simp[loadCells,loadCellsFrom]
theorem SrcW.str{l:List UInt8}:SrcW P w (sv l) 1 l.length (VQ (k:= .u8) l):=by
 refine⟨by simp[Builtin.lenOf,ByteArray.size],λm hm=>?_⟩;simp only[Builtin.firstCells,yY,H8];congr 1;simp[VQ,List.map_take];rfl
theorem n_{t2:TypeId}{m:List e.T}(hr:Rel Z s σs A L σ w)(hz:0<e.size)(h:ZC P s e t2 y=some m):∃ys,Cm (Az (λb=>A b/\Z.R b) w e) m ys/\SrcW P w (ev σ y) e.size m.length ys:=by
 have hm:=hr.mem;have plain:elems s e (Fh s.sl y)=some m->∃ys,Cm (Az (λb=>A b/\Z.R b) w e) m ys/\SrcW P w (ev σ y) e.size m.length ys:=by
  intro h;have hV:(Fh s.sl y).isV=true:=by
   cases hq:(Fh s.sl y).isV with
   |true=>rfl
   |false=>rcases BZ hq with h'|h'|⟨_,_,_,h'⟩<;>rw[h']at h<;>cases h
  obtain⟨c0,h1,h2⟩:=sI hm h (Uo hm.sl y hV);have hrd:Rd (λ_=>True) w e.size (ev σ y) c0:=by
   rcases h2 with h2|⟨j,E',u,cs',_,h2,hpart⟩
   ·exact h2.step (λ_ _=>trivial) (λ_ _=>rfl)
   ·exact hpart _ _ (hr.Yk h2)
  exact⟨c0,h1, .rd hrd (h1.len λx c h=>Az.len h) hz⟩
 unfold ZC at h;split at h
 ·split at h
  ·rename_i m0 hy;unfold kQ at h;split at h
   ·rename_i he;cases he;cases h;rw[Wo hm.sl hy];exact⟨VQ m0,dZ.ZP, .str⟩
   ·cases h
  ·cases h
 ·unfold Atv at h;split at h
  ·rename_i i p e1 lo n' hy;split at h
   ·rename_i T v hi;split at h
    ·rename_i a x hg;split at h
     ·rename_i q a l;obtain⟨hb,h⟩:=Be h;simp only[CT,D!]at hb;obtain⟨⟨k1,k2,k3⟩,rfl⟩:=hb;split at h
      ·rename_i ha;subst ha;cases h;obtain⟨md,v1,h3,h4,g1,g2,⟨pt,cap,g3,g4,g5,g6⟩,_⟩:=Dz hm.sl hy rfl;have h6:ev σ y=v1:=by simpa using h4
       obtain⟨b,cells,h7,h8⟩:=hm.box hi;rw[h7]at h3;cases h3;obtain⟨c1,c2,c3,he,h9,h10,h11⟩:=oA hg h8;have yQ:=h11.len λx c h=>Az.len h;obtain⟨lo',rfl⟩:=HU k1;obtain⟨n1,rfl⟩:=HU k2;simp only[F!]at g3 g4 g6;have hq:lo'+n1<=l.length:=by rw[h10];omega
       have hsub:(aW l lo' n1).length=n1:=by simp[aW];omega
       have e5:lo'*a.size+n1*a.size<=l.length*a.size:=by rw[<-E9];exact EK _ hq
       refine⟨(c2.drop (lo'*a.size)).take (n1*a.size),Cm.take (λx c h=>Az.len h) _ (Cm.drop (λx c h=>Az.len h) _ h11),?_,λm hm'=>?_⟩
       ·rw[h6,g3,hsub];rfl
       ·rw[hsub]at hm';rw[h6,g3];have hml:m*a.size<=n1*a.size:=EK _ hm';cases pt with
        |none=>
         have:m=0:=by have:=g5 rfl;omega
         subst this;simp[Builtin.firstCells]
        |some ad=>
         simp only[Builtin.firstCells];by_cases hc:0<cap
         ·obtain⟨bb,e1,e2⟩:=g6 hc;cases e1;cases e2;have hlen3:(((c2.drop (lo'*a.size)).take (n1*a.size)).take (m*a.size)).length=m*a.size:=by
           simp only[G!,H4,yQ];omega
          have:=Qc (P:=P) (w:=w) (b:=b) (off:=Bc p+lo'*a.size) (((c2.drop (lo'*a.size)).take (n1*a.size)).take (m*a.size)) (λi hi=>by
           rw[hlen3]at hi;have hcl:Bc p+lo'*a.size+i<(MD.box b cells T).cells.length:=by
            simp only[MD.cells,he,CR,h9,yQ];omega
           rw[hr.cells h7 rfl _ hcl];simp only[MD.cells];rw[he,JG F0,h9,show Bc p+lo'*a.size+i-Bc p=lo'*a.size+i by omega,HQ (by rw[yQ];omega),
            JL,B0 hi,JL,B0 F0,N?])
          rw[hlen3]at this;exact this
         ·have:m=0:=F0
          subst this;simp[loadCells,loadCellsFrom]
      ·cases h
     ·cases h
    ·cases h
   ·cases h
  ·exact plain h
 ·cases h
theorem Aot(cs:List Value)(o:Nat):Bs cs o []=cs:=by simp[Bs]
theorem Ag9{t t2 E:TypeId}{vx:Value}{z ly nv NH off i:Nat}{pt:Option Addr}{ys:List Value}{md:MD}{F:List Fact}(ht:P.underlying t=some (.slice E))(hsz:Lu P E z)(hsrc:SrcW P w vy z ly ys)(hys:ys.length=ly*z)(h1:ys.all (·.oneCell')=true)
  (hr:St A w F (L.map MD.Ki)) (h:L[i]? =some md) (hne:md≠ .dead) (hx:vx= .slice pt nv NH) (hcap:nv<=NH) (hpt:pt=none->NH=0) (hb:0<NH->∃b,md.base=some b/\pt=some ⟨b,off,none⟩) (hle:off+nv*z<=md.cells.length) (hz:0<z):
  ∃w' md',(Builtin.copy_ #[t,t2] ty #[vx,vy]).run P w= .ok (goInt (Nat.min ly nv)) w'/\St A w' F ((L.map MD.Ki).set i md'.Ki)/\DZ off (ys.take (nv*z)) md md':=by
 subst hx;have hmin:Nat.min ly nv<=ly:=Nat.min_le_left _ _;have i!:=hsrc.first _ hmin
 have htake:ys.take (Nat.min ly nv*z)=ys.take (nv*z):=by
  rcases S! ly nv with h'|h'
  ·rw[show Nat.min ly nv=ly from J5 h',<-hys,ID,IU (by rw[hys];exact EK z h')]
  ·rw[show Nat.min ly nv=nv from P? h']
 rw[htake]at i!;have hmul:Nat.min ly nv*z<=nv*z:=EK z (Nat.min_le_right _ _);have hlen:(ys.take (nv*z)).length=Nat.min ly nv*z:=by
  rw[<-htake,G!,hys];have:=EK z hmin;omega
 have hnone:(ys.take (nv*z))=[]->∃w' md',(Builtin.copy_ #[t,t2] ty #[.slice pt nv NH,vy]).run P w= .ok (goInt (Nat.min ly nv)) w'/\St A w' F ((L.map MD.Ki).set i md'.Ki)/\DZ off (ys.take (nv*z)) md md':=by
  intro he;refine⟨w,md,?_,?_,?_⟩
  ·rw[he]at i!;cases pt<;>simp[Builtin.copy_,EE ht,hsrc.len,Cj hsz,i!,storeCells]
  ·rw[List.getElem?_eq_some_iff]at h;obtain⟨hlt,h⟩:=h;have:(L.map MD.Ki).set i md.Ki=L.map MD.Ki:=by
    rw[<-TU,<-h,List.set_getElem_self]
   rw[this];exact hr
  ·rw[he];cases md with
   |dead=>exact absurd rfl hne
   |box b c T=>simp only[DZ,Aot]
   |own z' E' v c=>simp only[DZ,Aot]
 by_cases he:(ys.take (nv*z))=[]
 ·exact hnone he
 ·have hpos:0<(ys.take (nv*z)).length:=List.length_pos_iff.2 he;have hm0:0<Nat.min ly nv:=by
   rcases WX (Nat.min ly nv)with h'|h'
   ·rw[hlen,h']at hpos;simp at hpos
   ·exact h'
  have hnv:0<nv:=HJ hm0 (Nat.min_le_right _ _);obtain⟨b,e1,e2⟩:=hb F0;subst e2;obtain⟨w',md',g1,g2,g3⟩:=Ajs (P:=P) (off:=off) hr h e1 (ns:=ys.take (nv*z)) (List.all_eq_true.2 λv hv=>List.all_eq_true.1 h1 v (aS hv)) (by rw[hlen];omega) hpos;refine⟨w',md',?_,g2,g3⟩;simp[Builtin.copy_,EE ht,hsrc.len,Cj hsz,i!,g1]
theorem Ah6(nv k:Nat):bE (nv:Int) k=((Nat.min k nv:Nat):Int):=by
 unfold bE;rcases NC k nv with h|h
 ·rw[B0 F0,show Nat.min k nv=k from J5 F0]
 ·rw[B! F0,show Nat.min k nv=nv from P? h]
theorem Blx{B:Reg}{l m:List e.T}{cs ys:List Value}{lo nv:Nat}(hl:Cm (Az B w e) l cs)(hm:Cm (Az B w e) m ys):Cm (Az B w e) (Yh l lo nv m) (Bs cs (lo*e.size) (ys.take (nv*e.size))):=by
 have h1:=Cm.take (λx c h=>Az.len h) nv hm;have h2:=h1.len λx c h=>Az.len h;have h3:=Cm.take (λx c h=>Az.len h) lo hl;have h4:=Cm.drop (λx c h=>Az.len h) (lo+(m.take nv).length) hl;unfold Yh Bs;simp only[F!];refine Cm.append h3 (Cm.append h1 ?_);rw[h2,<-E9];exact h4
theorem As5{α:Type}(l m:List α):XF l m=Yh l ((0:Nat):Int) ((l.length:Nat):Int) m:=by
 unfold XF Yh;simp only[F!,JP,HB,HL,G!];congr 1;rcases S! m.length l.length with h|h
 ·rw[P? h]
 ·rw[J5 h,RN (E1 _),RN h]
theorem Af1{t t2 E E':TypeId}{l m:List e.T}{ys cs:List Value}{u:Value}{lo nv NH i:Nat}{pt:Option Addr}{ow:Option Nat}(hr:Rel Z s σs A L σ w)(hd:Ng n ⟨ow, .call ⟨.builtin .copy, #[x,y], #[t,t2]⟩,ty,pos,after,none⟩=true)
  (ht:P.underlying t=some (.slice E)) (hsz:Lu P E e.size) (hz:0<e.size) (hit:Dj s.it i= .arr E' e l) (hL:L[i]? =some (.own e.size E' u cs)) (hl:Cm (Az (λb=>A b/\Z.R b) w e) l cs) (hm:Cm (Az (λb=>A b/\Z.R b) w e) m ys) (hsrc:SrcW P w (ev σ y) e.size m.length ys)
  (hx:ev σ x= .slice pt nv NH) (hcap:nv<=NH) (hpt:pt=none->NH=0) (hb:0<NH->∃b,(MD.own e.size E' u cs).base=some b/\pt=some ⟨b,lo*e.size,none⟩) (hle:lo+nv<=l.length)
  (hk:k ((s.Xz i (.arr E' e (Yh l lo nv m))).Ij ow (.i .i64 (bE (nv:Int) m.length)))=some r):FQ P n ops ⟨ow, .call ⟨.builtin .copy, #[x,y], #[t,t2]⟩,ty,pos,after,none⟩ Z s σs k r False A L σ w:=by
 have hcl:=hl.len λx c h=>Az.len h;have hyl:=hm.len λx c h=>Az.len h;have hF:=St.K4 (f:=zu Z.R L (.arr E' e (Yh l lo nv m)) (Bs cs (lo*e.size) (ys.take (nv*e.size)))) hr (Blx hl hm);obtain⟨w',md',g1,g2,g3⟩:=Ag9 (P:=P) (ty:=ty) (t2:=t2) (off:=lo*e.size) ht hsz hsrc hyl hm.eu hF hL (by intro h;cases h) rfl hcap hpt hb (by
  show lo*e.size+nv*e.size<=cs.length;rw[hcl,<-E9];exact EK _ hle) hz
 simp only[DZ]at g3;subst g3;have key:=pI.own (cs':=Bs cs (lo*e.size) (ys.take (nv*e.size))) hL;have hr2:=Rel.change (a:= .arr E' e (Yh l lo nv m)) g2.jl hL key ⟨rfl,rfl,g2.fact 0 rfl⟩;refine WL.SY (v:=goInt (Nat.min m.length nv)) rfl hd ?_ (WL.nil ⟨_,A,_,hk,hr2.Ij rfl ?_,λh=>h.elim⟩)
 ·simp[execOp,resolve,invoke,builtin,hx,g1]
 ·rw[Ah6];rfl
theorem An8{t t2:TypeId}{ow:Option Nat}(hr:Rel Z s σs A L σ w)(hd:Ng n ⟨ow, .call ⟨.builtin .copy, #[x,y], #[t,t2]⟩,ty,pos,after,none⟩=true)
  (h:e! P s ow x y t t2 k=some r):FQ P n ops ⟨ow, .call ⟨.builtin .copy, #[x,y], #[t,t2]⟩,ty,pos,after,none⟩ Z s σs k r False A L σ w:=by
 have hmm:=hr.mem;unfold e! at h;split at h
 ·cases h
 ·rename_i E hE;have ht:=jA hE;split at h
  ·cases h
  ·rename_i inf Xs;split at h
   ·rename_i i hx;split at h
    ·rename_i E' e l hit;obtain⟨hb,h⟩:=Be h;simp only[CT]at hb;have hz:0<e.size:=by have:=M0 hb.2;omega
     split at h
     ·rename_i m hsrc;obtain⟨ys,h1,h2⟩:=n_ hr hz hsrc;obtain⟨u,cs,h3,h4⟩:=hmm.arr hit;obtain⟨z',E2,c',h5⟩:=UB (Dz hmm.sl hx rfl);rw[h3]at h5;cases h5;obtain⟨q,len,cap,g1,g2,g3,g4,g5⟩:=hr.rU h3;have hl:len=l.length:=K8 hz (g2.symm.trans (h4.len λx c h=>Az.len h));rw[As5]at h;exact Af1 (lo:=0) (nv:=l.length) (ys:=ys) hr hd ht (Hc Xs hb.1) hz hit h3 h4 h1 h2 (by rw[g1,hl]) F0 g4 (λhc=>by obtain⟨b,e1,e2⟩:=g5 hc;exact⟨b,e2,by rw[e1];simp⟩) F0 h
     ·cases h
    ·cases h
   ·rename_i i p e1 lo n' hx;split at h
    ·rename_i E' e l hit;obtain⟨hb,h⟩:=Be h;simp only[CT,D!]at hb;obtain⟨⟨hb1,hb2⟩,rfl⟩:=hb;have hz:0<e1.size:=by have:=M0 hb2;omega
     split at h
     ·rename_i m hsrc;obtain⟨ys,h1,h2⟩:=n_ hr hz hsrc;obtain⟨u,cs,h3,h4⟩:=hmm.arr hit;obtain⟨md,v1,h5,h6,k1,k2,⟨pt,cap,k3,k4,k5,k6⟩,k7,_⟩:=Dz hmm.sl hx rfl;rw[h3]at h5;cases h5;have h7:ev σ x=v1:=by simpa using h6
      obtain⟨lo',rfl⟩:=HU k1;obtain⟨n1,rfl⟩:=HU k2;simp only[F!]at k3 k4 k6 k7;obtain⟨s',E2,q,len,cap0,c0,e1',rfl,e3,_⟩:=k7 trivial;cases e1';obtain⟨q',len',cap',g1,g2,_⟩:=hr.rU h3;cases g1;have hl:len=l.length:=K8 hz (g2.symm.trans (h4.len λx c h=>Az.len h));exact Af1 (lo:=lo') (nv:=n1) (ys:=ys) hr hd ht (Hc Xs hb1) hz hit h3 h4 h1 h2 (h7.trans k3) k4 k5 (λhc=>by obtain⟨b,e4,e5⟩:=k6 hc;exact⟨b,e4,by rw[e5];simp[Bc]⟩) F0 h
     ·cases h
    ·cases h
   ·rename_i i p e1 lo n' hx;split at h
    ·rename_i T v hit;split at h
     ·rename_i a0 x0 hg;split at h
      ·rename_i q e l;obtain⟨hb,h⟩:=Be h;simp only[CT,D!]at hb;obtain⟨⟨⟨hb1,hb2⟩,rfl⟩,k1,k2,k3⟩:=hb;have hz:0<e1.size:=by have:=M0 hb2;omega
       split at h
       ·rename_i m hsrc;obtain⟨ys,h1,h2⟩:=n_ hr hz hsrc;obtain⟨md,v1,h5,h6,_,_,⟨pt,cap,g3,g4,g5,g6⟩,_⟩:=Dz hmm.sl hx rfl;have h7:ev σ x=v1:=by simpa using h6
        obtain⟨b,cells,h8,h9⟩:=hmm.box hit;rw[h8]at h5;cases h5;obtain⟨c1,c2,c3,he,h10,h11,h12⟩:=oA hg h9;have yQ:=h12.len λx c h=>Az.len h;have hyl:=h1.len λx c h=>Az.len h;obtain⟨lo',rfl⟩:=HU k1;obtain⟨n1,rfl⟩:=HU k2;simp only[F!]at g3 g4 g6;have hq:lo'+n1<=l.length:=by rw[h11];omega
        have e5:lo'*e1.size+n1*e1.size<=l.length*e1.size:=by rw[<-E9];exact EK _ hq
        have hk1:=Cm.take (λx c h=>Az.len h) n1 h1;have hk2:=hk1.len λx c h=>Az.len h;have hk3:(ys.take (n1*e1.size)).length<=n1*e1.size:=by rw[G!];omega
        have hcp:=Blx (lo:=lo') (nv:=n1) h12 h1;have Bhy:(Bs c2 (lo'*e1.size) (ys.take (n1*e1.size))).length=c2.length:=Hv (by rw[yQ];omega);have Bjz:Bk (λb=>A b/\Z.R b) w L (.val (.vec q e1) (Yh l lo' n1 m)) (Bs c2 (lo'*e1.size) (ys.take (n1*e1.size))):=by
         refine⟨?_,hcp⟩;have:=hcp.len λx c h=>Az.len h;rw[Bhy,yQ]at this;rw[<-h11];exact(K8 hz this).symm
        obtain⟨v',hk,_,hv'⟩:=E3 Bjz h h9;have hcells:Bs cells (Bc p) (Bs c2 (lo'*e1.size) (ys.take (n1*e1.size)))=Bs cells (Bc p+lo'*e1.size) (ys.take (n1*e1.size)):=by
         rw[he,gV h10 _ (by rw[yQ];omega),<-h10,lU Bhy]
        rw[hcells]at hv';have hF:=St.K4 (f:=zu Z.R L (.box T v') (Bs cells (Bc p+lo'*e1.size) (ys.take (n1*e1.size)))) hr hv';obtain⟨w',md',g1,g2,g3'⟩:=Ag9 (P:=P) (ty:=ty) (t2:=t2) (off:=Bc p+lo'*e1.size) ht (Hc Xs hb1) h2 hyl h1.eu hF h8 (by intro h;cases h) rfl g4 g5 (λhc=>by obtain⟨b,e4,e5⟩:=g6 hc;exact⟨b,e4,e5⟩) (by
         show Bc p+lo'*e1.size+n1*e1.size<=cells.length;rw[he];simp only[CR,h10,yQ];omega) hz
        simp only[DZ]at g3';subst g3';have key:=pI.box (cs':=Bs cells (Bc p+lo'*e1.size) (ys.take (n1*e1.size))) h8;have hr2:=Rel.change (a:= .box T v') g2.jl h8 key ⟨rfl,Bk.step (λ_ h=>h) (λ_ _=>rfl) key (g2.fact 0 rfl)⟩;refine WL.SY (v:=goInt (Nat.min m.length n1)) rfl hd ?_ (WL.nil ⟨_,A,_,hk,hr2.Ij rfl ?_,λh=>h.elim⟩)
        ·rw[<-g3,<-h7]at g1;simp[execOp,resolve,invoke,builtin,g1]
        ·rw[Ah6];rfl
       ·cases h
      ·cases h
     ·cases h
    ·cases h
   ·cases h
theorem yx{g:Nat}{cs:List Value}:∀{l:List (Nat×List Value)},ig l g=some cs-> (g,cs)∈l
 |[],h=>by cases h
 |(q,c)::r,h=>by
  simp only[ig]at h;cases hb:Nat.beq q g with
  |true=>
   rw[hb]at h;have:=Di hb;subst this;cases h;exact .head _
  |false=>rw[hb]at h;exact .tail _ (yx h)
theorem pW{g:Nat}{t:TypeId}(hT:pL P T Z)(hr:Rel Z s σs A L σ w)(h:T.glv P g t=some v):∃cs T1 fr,w.heap[g]? =some (.cells cs.toArray T1 fr)/\ (A g/\Z.R g)/\Bk (λb=>A b/\Z.R b) w L v cs:=by
 unfold Tab.glv at h;split at h
 ·rename_i cs hg;split at h
  ·rename_i v' hp;cases h;obtain⟨h1,T1,fr,h2⟩:=hr.SO (p:=(g,cs)) (by rw[hT.2];exact yx hg);obtain⟨c,e1,h3⟩:=jG (B:=λb=>A b/\Z.R b) (w:=w) (L:=L) Q hp;rw[GY]at e1;subst e1;exact⟨_,T1,fr,h2,h1,h3⟩
  ·cases h
 ·cases h
theorem p!{o:Op}{g dn:Nat}(hT:pL P T Z)(hr:Rel Z s σs A L σ w)(hd:Ng n ⟨some dn,o,ty,pos,after,none⟩=true)
  (ho:(∃t,o= .load t (.global g))\/ (∃t ix,o= .indexAddr t (.global g) ix)\/ (∃t lo hi,o= .slice t (.global g) lo hi none)) (h:B4 P T s dn g o k=some r):
  FQ P n ops ⟨some dn,o,ty,pos,after,none⟩ Z s σs k r G A L σ w:=by
 have hm:=hr.mem;rcases ho with⟨t,rfl⟩|⟨t,ix,rfl⟩|⟨t,lo,hi,rfl⟩
 ·simp only[B4]at h;split at h
  ·rename_i v hv;obtain⟨hb,hk⟩:=Be h;obtain⟨cs,T1,fr,h1,h2,h3⟩:=pW hT hr hv;obtain⟨val,h7,h8⟩:=Anc (P:=P) (σ:=σ) (x:= .global g) (b:=g) (off:=0) (Vp hb) h3 (λj hj=>by rw[cell_of h1];simp) rfl;obtain⟨hv,hv'⟩:=Mu h7;exact Fg hr hd h8 hv hv' hk
  ·cases h
 ·simp only[B4]at h;split at h
  ·rename_i j m et e0 l0 hj ht hv;obtain⟨q,hix⟩:=RV hj (Uo hm.sl ix (dR hj));split at h
   ·rename_i inf m' e l Xs;obtain⟨hb,h⟩:=Be h;simp only[CT]at hb;obtain⟨y,hy,hk⟩:=bind_some h;obtain⟨hj0,hj1,hj2⟩:=Mr hy;obtain⟨cs,T1,fr,h1,h2,h3,h4⟩:=pW hT hr hv;obtain⟨c1,c2,c3,he,h8,h9,_⟩:=Cm.get (λx c h=>Az.len h) h4 hj2;have hmm:=Di hb.1.1;subst hmm;have h10:c2.length=e.size:=h9.len;have hp:O3 (λb=>A b/\Z.R b) w (.pointer (some ⟨g,0+j.toNat*e.size,none⟩)) c2:=by
     refine⟨g,0+j.toNat*e.size,_,T1,fr,rfl,h2,h1,λq hq=>?_⟩;rw[P2,he,HL,JG F0,h8,show j.toNat*e.size+q-j.toNat*e.size=q by omega,HQ hq]
    have hvr:Gi (λb=>A b/\Z.R b) w L (.rptr (e.pv y)) (.pointer (some ⟨g,0+j.toNat*e.size,none⟩)):=⟨_,c2,rfl,hp,gJ.2 h9⟩;exact Fg hr hd (gC (x:= .global g) ht (Hc Xs hb.1.2) rfl hix F0 (by rw[<-show l.length=m' from h3];omega) w) rfl hvr hk
   ·cases h
  ·cases h
 ·simp only[B4]at h;split at h
  ·rename_i u m et hat;split at h
   ·rename_i e0 l0 hv;split at h
    ·rename_i inf m' e l Xs;obtain⟨hb,h⟩:=Be h;simp only[CT]at hb;split at h
     ·rename_i a b ha hb';obtain⟨y,hy,hk⟩:=bind_some h;obtain⟨k1,k2,k3,k4,rfl⟩:=YM hy;obtain⟨cs,T1,fr,h1,h2,h3,h4⟩:=pW hT hr hv;have hmm:=Di hb.1.1;subst hmm;have hlen:=h4.len λx c h=>Az.len h;have hz:0<e.size:=by have:=M0 hb.2;omega
      have hm3:l.length=m':=h3;have hxo:=X.zl (P:=P) (σ:=σ) (w:=w) (x:= .global g) (lo:=lo) (hi:=hi) (a:=a.toNat) (b:=b.toNat) (ad:=⟨g,0,none⟩) hat (Hc Xs hb.1.2) k3 F0 rfl
       (by rcases Pn hm.sl ha with h|⟨h,h'⟩;exact .inl (by rw[<-k1];exact h);exact .inr ⟨h,F0⟩) (by rcases Pn hm.sl hb' with h|⟨h,h'⟩;exact .inl (by rw[<-k2];exact h);exact .inr ⟨h,F0⟩)
      have e5:a.toNat*e.size<=b.toNat*e.size:=EK _ k3;have e6:b.toNat*e.size<=l.length*e.size:=EK _ k4;have e7:(b.toNat-a.toNat)*e.size=b.toNat*e.size-a.toNat*e.size:=NY _ _ _;refine Fg hr hd hxo rfl (wR ⟨_,_,_,rfl,?_,F0,(λh=>by cases h),λhc=>?_⟩ (Cm.drop (λx c h=>Az.len h) _ (Cm.take (λx c h=>Az.len h) _ h4))) hk
      ·rw[H4,G!,hlen,e7];omega
      ·rw[B! F0,Sm];refine⟨g,0+a.toNat*e.size,_,T1,fr,rfl,h2,h1,?_,λi hi=>?_⟩
       ·simp only[LN,hlen,hm3];have:(m'-a.toNat)*e.size=m'*e.size-a.toNat*e.size:=NY _ _ _;have:a.toNat*e.size<=m'*e.size:=EK _ F0;omega
       ·rw[P2,HL,N?,JL,B0 F0]
     ·cases h
    ·cases h
   ·cases h
  ·cases h
theorem Bd7{o:Op}{dn:Nat}(hT:pL P T Z)(hI:HI P T.gl inl)(hr:Rel Z s σs A L σ w)(hd:Ng n ⟨some dn,o,ty,pos,after,none⟩=true)(h:op2 P T inl s dn ty o k=some r):
  FQ P n ops ⟨some dn,o,ty,pos,after,none⟩ Z s σs k r (z? T s ⟨some dn,o,ty,pos,after,none⟩=true) A L σ w:=by
 have hm:=hr.mem;unfold op2 at h;split at h
 ·
  rename_i o t x y t';split at h
  ·rename_i a u b v hx hy;split at h
   ·rename_i c q hc hq;obtain⟨_,hok,h⟩:=bind_some h;have:=BM hok;subst this;obtain⟨hv,val,hb,hvr⟩:=su (P:=P) (w:=w) (L:=L) (B:=λb=>A b/\Z.R b) (t:=t) hq hc;exact Fg hr hd (X.bin (FF hm.sl hx) (FF hm.sl hy) hb) hv hvr h
   ·cases h
  ·rename_i u v hx hy;split at h
   ·obtain⟨q,hq,h⟩:=bind_some h;exact Fg (p:= .val .str q) hr hd (X.Avq (Wo hm.sl hx) (Wo hm.sl hy) hq) rfl rfl h
   ·cases h
  ·rename_i a h1 h2 hy;exact Awc hr hd rfl hy h
  ·cases h
 ·
  rename_i t x ix;split at h
  ·rename_i j e0 l0 hj hx;obtain⟨q,hix⟩:=RV hj (Uo hm.sl ix (dR hj));split at h
   ·rename_i l ht;obtain⟨y,hy,h⟩:=bind_some h;exact Fg (p:= .i .u8 y) hr hd (X.Ata ht (Wo hm.sl hx) hix hy) rfl rfl h
   ·rename_i m e l m' et ht;obtain⟨hb,h⟩:=Be h;obtain⟨y,hy,h⟩:=bind_some h;obtain⟨hk,hkk⟩:=Be h;have hok:=Vp hk;have hv:Ln (λb=>A b/\Z.R b) w L (.val (.vec m e) l) (ev σ x):=Dz hm.sl hx rfl;obtain⟨cs,h1,h2,h3⟩:=hv;have hsz:(e.pv y).size=e.size:=by
     obtain⟨_,_,h5⟩:=Mr hy;obtain⟨_,c2,_,_,_,h6,_⟩:=Cm.get (λx c h=>Az.len h) h3 h5;rw[<- (gJ (L:=L).2 h6).len,h6.len]
    have hmm:=Di hb;subst hmm;obtain⟨d0,hd0,ha0⟩:=hok.agg;obtain⟨val,h4,h5⟩:=Ayj (L:=L) ht (by rw[<-hsz];exact hok.size) ⟨d0,hd0,ha0⟩ (λhA=>by rw[<-hsz];exact hok.one hA) h2 h1 h3 hix hy;obtain⟨hv,hv'⟩:=Mu h5;exact Fg hr hd h4 hv hv' hkk
   ·cases h
  ·cases h
 ·split at h
  ·exact p! hT hr hd (.inr (.inr ⟨_,_,_,rfl⟩)) h
  ·exact At1 hr hd h (λg=>g)
 ·split at h
  ·exact p! hT hr hd (.inr (.inl ⟨_,_,rfl⟩)) h
  ·exact Ajy hr hd h
 ·split at h
  ·exact p! hT hr hd (.inl ⟨_,rfl⟩) h
  ·exact Bax hr hd h
 ·
  split at h
  ·rename_i v hz;exact Ath hr hd hz h
  ·cases h
 ·obtain⟨hb,h⟩:=Be h;exact Bcx hr hd hb h
 ·split at h
  ·rename_i v hv;obtain⟨hA,h⟩:=Be h;obtain⟨h1,h2⟩:=xF (B:=λb=>A b/\Z.R b) (w:=w) (L:=L) hv hA;exact Fg hr hd (X.assign rfl) h1 h2 h
  ·cases h
 ·split at h
  ·rename_i v hv;obtain⟨hA,h⟩:=Be h;obtain⟨h1,h2⟩:=xF (B:=λb=>A b/\Z.R b) (w:=w) (L:=L) hv hA;exact Fg hr hd (X.move rfl) h1 h2 h
  ·cases h
 ·exact Asy hr hd h
 ·exact Bpz hr hd h (λg=>g)
 ·exact Az3 hr hd h
 ·
  split at h
  ·rename_i e ha ht;split at h
   ·rename_i l he hx;exact dZ hr hd ha ht he hx h
   ·cases h
  ·rename_i e ha ht;obtain⟨hb,h1⟩:=Be h;clear h;have:=Di hb;subst this;split at h1
   ·rename_i i he hx;split at h1
    ·rename_i E e' l hi;split at h1
     ·rename_i y ys;exact Ax8 hr hd ht he hx hi h1
     ·cases h1
    ·cases h1
   ·cases h1
  ·cases h
 ·
  rename_i as ts;split at h
  ·rename_i x y t t2 has hts;have h1:=MC has;have h2:=MC hts;subst h1 h2;refine YE (Asg hr hd h) ?_;rintro σ' w' ⟨s',A',L',g1,g2,g3⟩;exact⟨s',A',L',g1,g2,λg=>by simp[z?,brk]at g⟩
  ·cases h
 ·
  rename_i as ts;split at h
  ·rename_i x y t t2 has hts;have h1:=MC has;have h2:=MC hts;subst h1 h2;refine YE (An8 hr hd h) ?_;rintro σ' w' ⟨s',A',L',g1,g2,g3⟩;exact⟨s',A',L',g1,g2,λg=>by simp[z?,brk]at g⟩
  ·cases h
 ·
  rename_i as ts;split at h
  ·rename_i x t has hts;have h1:=MC has;have h2:=MC hts;subst h1 h2;split at h
   ·rename_i e ht hx;refine Fg (p:= .i .i64 (0:Int)) hr hd (val:=iv (0:Int)) (λ_ _ _ _ _=>?_) rfl rfl h;have hv:=OW (Dz hm.sl hx rfl);simp[execOp,resolve,invoke,builtin,hv,Builtin.cap_,EE ht,goInt];rfl
   ·cases h
  ·cases h
 ·
  rename_i g as ts;split at h
  ·rename_i f caps hg;refine Azn hT hI hr hg hd h (λgg=>?_);unfold z? at gg;split at gg
   ·rename_i heq;cases heq
   ·rename_i heq;cases heq
   ·rename_i f' as' ts' heq;cases heq;cases hg;split at gg
    ·rename_i c hc;simp only[CT,HV,IC]at gg;exact⟨c,hc,gg.1,gg.2.imp id isEmpty_nil⟩
    ·cases gg
   ·rename_i h1 h2 h3;simp only[brk]at gg;split at gg<;>simp_all
  ·rename_i f fs hg;obtain⟨hb,h⟩:=Be h;simp only[CT]at hb;refine Avk hT hI hr hg hd hb.2 h (λgg=>?_);unfold z? at gg;split at gg
   ·rename_i heq;cases heq
   ·rename_i heq;cases heq
   ·rename_i f' as' ts' heq;cases heq;cases hg
   ·rename_i h1 h2 h3;simp only[brk]at gg;split at gg<;>simp_all
  ·cases h
 ·exact Ar0 hr hd h (λg=>g)
 ·exact Ap3 hr hd h
 ·cases h
end Go.Rx
namespace Go.Rx
open Go Go.Lv
variable {P:Program} {w w':World} {L:List MD} {s:S} {σs:List Env} {σ:Env} {Z:Fix} {A:Reg}
theorem kJ{α:Type 1}{c:Bool}{x:Option α}{y:α}(h:(Dk (c) (x)<|none)=some y):c=true/\x=some y:=by cases c<;>simp_all
theorem pP{o:Op}{b:BV}{x:b.X}(hr:Rel Z s σs A L σ w)(h:dL P s o=some b)(hx:b.E=some x):(b.v x).isV=true/\∃val,(∀w',XO P σ w' o val)/\Gi (λb=>A b/\Z.R b) w L (b.v x) val:=by
 have hm:=hr.mem;unfold dL at h;split at h
 ·
  rename_i o t x y t';split at h
  ·rename_i a u b v hx' hy;split at h
   ·rename_i c q hc hq;cases h;have:=BM hx;subst this;obtain⟨hv,val,hb,hvr⟩:=su (P:=P) (w:=w) (L:=L) (B:=λb=>A b/\Z.R b) (t:=t) hq hc;exact⟨hv,val,λw'=>X.bin (FF hm.sl hx') (FF hm.sl hy) hb,hvr⟩
   ·cases h
  ·rename_i u v hx' hy;split at h
   ·cases h;exact⟨rfl,_,λw'=>X.Avq (Wo hm.sl hx') (Wo hm.sl hy) hx,rfl⟩
   ·cases h
  ·cases h
 ·
  split at h
  ·rename_i j l hj hx' ht;cases h;obtain⟨q,hix⟩:=RV hj (Uo hm.sl _ (dR hj));exact⟨rfl,_,λw'=>X.Ata ht (Wo hm.sl hx') hix hx,rfl⟩
  ·cases h
 ·
  split at h
  ·rename_i ht;split at h
   ·rename_i l hx';split at h
    ·rename_i a b ha hb;cases h;exact⟨rfl,_,λw'=>X.Bgj ht (Wo hm.sl hx') hx (Pn hm.sl ha) (Pn hm.sl hb),rfl⟩
    ·cases h
   ·cases h
  ·rename_i et ht;split at h
   ·rename_i e0 l0 hx';split at h
    ·rename_i e l;split at h
     ·rename_i inf Xs;obtain⟨hb,h⟩:=kJ h;simp only[CT]at hb;split at h
      ·rename_i a b ha hb';cases h;obtain⟨h1,h2,h3,h4,h5'⟩:=YM hx;obtain⟨c0,h5,h6⟩:=HF (Dz hm.sl hx' rfl);have hlen:=h6.len λx c h=>Az.len h;obtain⟨p',l',c',h7,h8⟩:=X.Aia (P:=P) (l:=a.toNat) (k:=b.toNat) (m:=l.length) ht (Hc Xs hb.1) (St.qj hr h5) (j:=0) rfl hlen (pH hb.2) h3 h4;refine⟨rfl, .slice p' l' c',λw'=>h7 σ w' _ _ _ rfl (by rcases Pn hm.sl ha with h|⟨h,h'⟩;exact .inl (by rw[<-h1];exact h);exact .inr ⟨h,F0⟩)
        (by rcases Pn hm.sl hb' with h|⟨h,h'⟩;exact .inl (by rw[<-h2];exact h);exact .inr ⟨h,by rw[h'];simp[Ac]⟩),?_⟩
       rw[h5'];exact wR (h8.fact 0 rfl) (Cm.drop (λx c h=>Az.len h) _ (Cm.take (λx c h=>Az.len h) _ h6))
      ·cases h
     ·cases h
    ·cases h
   ·cases h
  ·cases h
 ·
  split at h
  ·cases h
  ·rename_i j hj;obtain⟨q,hix⟩:=RV hj (Uo hm.sl _ (dR hj));split at h
   ·rename_i et ht;split at h
    ·cases h
    ·rename_i inf Xs;split at h
     ·rename_i e0 l0 hx';split at h
      ·rename_i e l;obtain⟨hb,h⟩:=kJ h;cases h;simp only[CT]at hb;obtain⟨hj0,hj1,hj2⟩:=Mr hx;obtain⟨c0,h1,h2⟩:=HF (Dz hm.sl hx' rfl);obtain⟨p,len,cap,h3,h4,h5,h6,h7⟩:=h1;have hlen:=h2.len λx c h=>Az.len h;have hz:0<e.size:=by have:=M0 hb.2;omega
       have hl:len=l.length:=K8 hz (h4.symm.trans hlen);subst hl;obtain⟨b,off,arr,T,fr,rfl,hB,hbl,hcap,hc⟩:=h7 F0;obtain⟨c1,c2,c3,he,h8,h9,_⟩:=Cm.get (λx c h=>Az.len h) h2 hj2;have h10:c2.length=e.size:=h9.len;have h11:(j.toNat+1)*e.size<=l.length*e.size:=EK _ hj1;rw[ND]at h11;have hp:O3 (λb=>A b/\Z.R b) w (.pointer (some ⟨b,off+j.toNat*e.size,none⟩)) c2:=by
        refine⟨b,off+j.toNat*e.size,arr,T,fr,rfl,hB,hbl,λq hq=>?_⟩;rw[I!,hc _ F0,he,JG F0,h8,show j.toNat*e.size+q-j.toNat*e.size=q by omega,HQ hq]
       have hvr:Gi (λb=>A b/\Z.R b) w L (.rptr (e.pv x)) (.pointer (some ⟨b,off+j.toNat*e.size,none⟩)):=⟨_,c2,rfl,hp,gJ.2 h9⟩;exact⟨rfl,_,λw'=>Xy ht (Hc Xs hb.1) h3 hix F0 F0 w',hvr⟩
      ·cases h
     ·rename_i i hx';split at h
      ·rename_i E e l hi;obtain⟨hb,h⟩:=kJ h;cases h;simp only[CT]at hb;obtain⟨hj0,hj1,hj2⟩:=Mr hx;obtain⟨v,cs,h1,h2⟩:=hm.arr hi;obtain⟨z',E',c',h3⟩:=UB (Dz hm.sl hx' rfl);rw[h1]at h3;cases h3;have hlen:=h2.len λx c h=>Az.len h;have hz:0<e.size:=by have:=M0 hb.2;omega
       have hpos:0<cs.length:=by rw[hlen];exact N_ F0 hz
       obtain⟨b,len,cap,h4,h5⟩:=hr.base h1 hpos;have hl:len=l.length:=K8 hz (h5.symm.trans hlen);subst hl;refine⟨rfl,_,λw'=>Xy ht (Hc Xs hb.1) h4 hix F0 F0 w',?_⟩;rw[show(0:Nat)+j.toNat*e.size=Bc [.idx j e.size] by simp[Bc,vL]];refine TO h1 ?_;rw[h4];rfl
      ·cases h
     ·rename_i o i p e lo n' hx';obtain⟨hb,h⟩:=kJ h;cases h;simp only[CT]at hb;have hj':0<=j/\j<n':=NT (BM hx);obtain⟨md,v1,h3,h4,k1,k2,⟨pt,cap,k3,k4,k5,k6⟩,_⟩:=Dz hm.sl hx' rfl;have h6:=List.cons.inj h4;obtain⟨b,e1,rfl⟩:=k6 F0;refine⟨rfl,_,λw'=>Xy ht (Hc Xs hb.1) (h6.1.trans k3) hix hj'.1 F0 w',?_⟩;rw[show Bc p+lo.toNat*e.size+j.toNat*e.size=Bc (p++[.idx (lo+j) e.size]) by
       rw[nD,I!,<-E9]
       show _=Bc p+(lo+j).toNat*e.size;rw[Int.toNat_add k1 hj'.1]]
      exact TO h3 e1
     ·cases h
   ·rename_i m et ht;split at h
    ·cases h
    ·rename_i inf Xs;split at h
     ·rename_i i p hx';split at h
      ·rename_i T v hi;split at h
       ·rename_i e0 l0 hg;split at h
        ·rename_i m' e l;obtain⟨hb,h⟩:=kJ h;cases h;simp only[CT]at hb;obtain⟨hj0,hj1,hj2⟩:=Mr hx;obtain⟨md,b,h1,h2,h3⟩:=ED (Dz hm.sl hx' rfl);obtain⟨b',cells,h4,h5⟩:=hm.box hi;rw[h4]at h1;cases h1;cases h2;obtain⟨c1,c2,c3,he,h6,h7,h8⟩:=oA hg h5;have hmm:=Di hb.2;subst hmm;have hl:l.length=m':=h7;refine⟨rfl,_,λw'=>gC ht (Hc Xs hb.1.1) h3 hix F0 F0 w',?_⟩;rw[show Bc p+j.toNat*e.size=Bc (p++[.idx j e.size]) by simp[bS,Bc,vL]];exact TO h4 rfl
        ·cases h
       ·cases h
      ·cases h
     ·cases h
   ·cases h
 ·cases h
end Go.Rx
namespace Go.Rx
open Go Go.Lv
variable{want b:Bool}{v:PV}{G:Prop}
variable {P:Program} {B B':Reg} {w w':World} {L L':List MD} {s:S} {σs:List Env} {σ:Env} {Z:Fix} {A A':Reg} {n:Nat} {ops:Array Oper}
variable {R:Type} {k:S->Option R} {r:R} {d:Option Nat} {ty:TypeId} {pos:String} {after:Array Edge} {T:Tab} {inl:P1 R}
theorem At0{o:Oper}(hT:pL P T Z)(hI:HI P T.gl inl)(hr:Rel Z s σs A L σ w)(hd:Ng n o=true)(h:exU P T inl o s k=some r):
  FQ P n ops {o with guard:=none} Z s σs k r (z? T s o=true) A L σ w:=by
 obtain⟨d,op,ty,pos,after,g⟩:=o;have hd':Ng n ⟨d,op,ty,pos,after,none⟩=true:=hd;unfold exU at h;split at h
 ·rename_i v hv;obtain⟨h1,val,h2,h3⟩:=eK (P:=P) (B:=λb=>A b/\Z.R b) (w:=w) (L:=L) (λ_=>True) hr.mem.sl hv;exact Fg hr hd' (h2 w trivial) h1 h3 h
 ·split at h
  ·rename_i v hv;obtain⟨h1,val,h2,h3⟩:=pX (P:=P) hr hv;exact Fg hr hd' (h2 w (.refl hr)) h1 h3 h
  ·cases d with
   |some dn=>exact Bd7 hT hI hr hd' h
   |none=>
    simp only at h;split at h
    ·rename_i t a x;refine YE (Av3 hr h) ?_;rintro σ' w' ⟨s',A',L',g1,g2,g3⟩;exact⟨s',A',L',g1,g2,λg=>by simp[z?,brk]at g⟩
    ·rename_i as ts;split at h
     ·rename_i x y t t2 has hts;have h1:=MC has;have h2:=MC hts;subst h1 h2;refine YE (An8 hr hd' h) ?_;rintro σ' w' ⟨s',A',L',g1,g2,g3⟩;exact⟨s',A',L',g1,g2,λg=>by simp[z?,brk]at g⟩
     ·cases h
    ·cases h
theorem WL.Bf8{rest:List Oper}{K:Env->World->Prop}{o:Oper}{j t:Nat}(hg:o.guard=some (j,want))(hj:(ops[j]?).bind (·.dst)=some t)(hb:σ t= .bool b)(hne:(b==want)=false)
  (hdn:Ng n o=true) (h:WL P n ops rest K (WA σ o.dst Go.undef) w):WL P n ops (o::rest) K σ w:=by
 intro ds a ha;refine wpList_step λK' hK'=>?_;have hw:Region.wanted o (yielded ops a.tmps)=false:=by
  simp only[Region.wanted,hg,cI ha hj hb];cases b<;>cases want<;>simp_all
 rw[B! (by rw[hw];simp)];refine hK' _ _ ?_;cases hd:o.dst with
 |none=>rw[hd]at h;exact h _ _ (ha.z_ _)
 |some d=>rw[hd]at h;unfold Ng at hdn;rw[hd]at hdn;exact h _ _ (ha.put hdn _)
theorem WL.Bgl{rest:List Oper}{K:Env->World->Prop}{o:Oper}{j t:Nat}(hg:o.guard=some (j,want))(hj:(ops[j]?).bind (·.dst)=some t)(hb:σ t=Go.undef)
  (hdn:Ng n o=true) (h:WL P n ops rest K (WA σ o.dst Go.undef) w):WL P n ops (o::rest) K σ w:=by
 intro ds a ha;refine wpList_step λK' hK'=>?_;have hy:yielded ops a.tmps j=none:=by
  unfold yielded;rw[hj];have h1:=ha.get t;rw[hb]at h1;cases h:a.tmps[t]? with
  |none=>simp[h]
  |some v=>
   rw[KL,h]at h1;simp at h1;subst h1;simp[h,undef]
 have hw:Region.wanted o (yielded ops a.tmps)=false:=by
  simp only[Region.wanted,hg,hy];cases want<;>rfl
 rw[B! (by rw[hw];simp)];refine hK' _ _ ?_;cases hd:o.dst with
 |none=>rw[hd]at h;exact h _ _ (ha.z_ _)
 |some d=>rw[hd]at h;unfold Ng at hdn;rw[hd]at hdn;exact h _ _ (ha.put hdn _)
theorem Agm{o:Oper}(hr:Rel Z s σs A L σ w)(h:k (s.Ij o.dst .off)=some r):WL P n ops [] (y? Z σs k r G A L s.it w) (WA σ o.dst Go.undef) w:=by
 refine WL.nil ⟨_,A,L,h,hr.Ax7,λ_=>?_⟩;have:(s.Ij o.dst .off).it=s.it:=by cases o.dst<;>rfl
 rw[this];exact .refl
theorem mX{a:Bool}:yJ a b=(b==a):=by cases a<;>cases b<;>rfl
theorem pN{G':Prop}{σ':Env}{it:List Item}(hp:y? Z σs k r G A L it w σ' w')(h:G'->G):y? Z σs k r G' A L it w σ' w':=by
 obtain⟨s',A',L',h1,h2,h3⟩:=hp;exact⟨s',A',L',h1,h2,λg=>h3 (h g)⟩
theorem uq{t dn:Nat}{val:Value}(ht:σ t= .bool b)(hne:Nat.beq dn t=false)(h1:b=want->Gi B w L v val)(h2:b≠want->val=Go.undef):Kh B w L (Xz σ dn val) dn (.gd t want v):=by
 have htd:t≠dn:=by intro e;subst e;simp at hne
 exact⟨b,by rw[nT _ _ htd];exact ht,λe=>by rw[EO];exact h1 e,λe=>by rw[EO];exact h2 e⟩
theorem Anb{o:Oper}{j t dn:Nat}(hr:Rel Z s σs A L σ w)(hg:o.guard=some (j,want))(hj:(ops[j]?).bind (·.dst)=some t)(ht:σ t= .bool b)(hdn:Ng n o=true)(hd:o.dst=some dn)
  (hne:Nat.beq dn t=false) (hv:b=want->v.isV=true/\∃val,XO P σ w o.op val/\Gi (λb=>A b/\Z.R b) w L v val) (hk:k (s.set dn (.gd t want v))=some r):FQ P n ops o Z s σs k r G A L σ w:=by
 by_cases hbw:b=want
 ·obtain⟨h1,val,h2,h3⟩:=hv hbw;refine WL.on hg hj ht (by simpa using hbw) (WL.SY rfl (by simpa [Ng]using hdn) (h2 _ _ _ _ _) (WL.nil ⟨_,A,L,hk,?_,λ_=> .refl⟩));simp only[hd];exact hr.set (uq ht hne (λ_=>h3) (λe=>absurd hbw e))
 ·refine WL.Bf8 hg hj ht (by simpa using hbw) hdn (WL.nil ⟨_,A,L,hk,?_,λ_=> .refl⟩);rw[hd];exact hr.set (uq ht hne (λe=>absurd e hbw) (λ_=>rfl))
theorem YN{t:Nat}(hm:Ie B w L σ s.sl)(h:IJ s.sl t= .val .bool b):σ t= .bool b:=by
 have h1:=Vu (t:=t) hm;rw[h]at h1;exact QC h1
theorem I5{t:Nat}(hm:Ie B w L σ s.sl)(h:IJ s.sl t= .cst (.bool b)):σ t= .bool b:=by
 have h1:=Vu (t:=t) hm;rw[h]at h1;have: [σ t]=[Value.bool b]:=h1.1;simpa using this
theorem Bdx{o:Oper}{j t:Nat}(hT:pL P T Z)(hI:HI P T.gl inl)(hr:Rel Z s σs A L σ w)(hd:Ng n o=true)(hg:o.guard=some (j,want))(hj:(ops[j]?).bind (·.dst)=some t)
  (h:exG P T inl o t want s k=some r):FQ P n ops o Z s σs k r (z? T s o=true/\∃b,IJ s.sl t= .cst (.bool b)) A L σ w:=by
 have hm:=hr.mem;have lit:∀(G:Prop) (s1:S) (b:Bool),(G->z? T s1 o=true)->Rel Z s1 σs A L σ w->s1.it=s.it->σ t= .bool b-> (Dk (yJ want b) (exU P T inl o s1 k)<|k (s1.Ij o.dst .off))=some r->FQ P n ops o Z s σs k r G A L σ w:=by
  intro G s1 b hG hr1 hit ht h;cases hb:yJ want b with
  |true=>
   rw[hb]at h;refine WL.on hg hj ht (by rw[<-mX];exact hb) (YE (At0 hT hI hr1 hd h) λσ' w' hp=>?_);rw[<-hit];exact pN hp hG
  |false=>
   rw[hb]at h;refine WL.Bf8 hg hj ht (by rw[<-mX];exact hb) hd ?_;rw[<-hit];exact Agm hr1 h
 unfold exG at h;simp only at h;split at h
 ·rename_i b hb;exact lit _ s b (λg=>g.1) hr rfl (I5 hm.sl hb) h
 ·rename_i hb;have h1:=Vu (t:=t) hm.sl;rw[hb]at h1;exact WL.Bgl hg hj h1 hd (Agm hr h)
 ·rename_i b hb;have ht:=YN hm.sl hb;have nog:∀{X:Prop},(∃b,IJ s.sl t= .cst (.bool b))->X:=λ⟨_,g⟩=>by rw[hb]at g;cases g
  split at h
  ·rename_i dn v hdn hv;cases hne:Nat.beq dn t with
   |true=>rw[hne]at h;cases h
   |false=>
    rw[hne]at h;refine Anb hr hg hj ht hd hdn hne (λhbw=>?_) h;subst hbw;obtain⟨h1,val,h2,h3⟩:=eK (P:=P) (λ_=>True) (hr.res ht).mem.sl hv;exact⟨h1,val,h2 w trivial,h3⟩
  ·rename_i dn v hdn hv0 hv;cases hne:Nat.beq dn t with
   |true=>rw[hne]at h;cases h
   |false=>
    rw[hne]at h;refine Anb hr hg hj ht hd hdn hne (λhbw=>?_) h;subst hbw;obtain⟨h1,val,h2,h3⟩:=pX (P:=P) (hr.res ht) hv;exact⟨h1,val,h2 w (.refl (hr.res ht)),h3⟩
  ·cases b with
   |true=>exact lit _ (s.res t true) true (λg=>nog g.2) (hr.res ht) rfl ht (by simpa using h)
   |false=>exact lit _ (s.res t false) false (λg=>nog g.2) (hr.res ht) rfl ht (by simpa using h)
 ·cases h
theorem An5{o:Oper}(hT:pL P T Z)(hI:HI P T.gl inl)(hr:Rel Z s σs A L σ w)(h:zE P T inl n ops o s k=some r):FQ P n ops o Z s σs k r (z? T s o=true/\gOk ops s o=true) A L σ w:=by
 have hm:=hr.mem;unfold zE at h;cases hd:Ng n o with
 |false=>rw[hd]at h;cases h
 |true=>
  rw[hd]at h;simp only[Pw,SC]at h;try dsimp only[Dk]at h
  split at h
  ·rename_i hg;have:({o with guard:=none}:Oper)=o:=by cases o;simp only at hg;subst hg;rfl
   rw[<-this];refine YE (At0 hT hI hr hd h) λσ' w' hp=>pN hp ?_;rintro⟨g,_⟩;rw[this]at g;exact g
  ·rename_i j want hg;split at h
   ·cases h
   ·rename_i t hj;have fin:∀s1:S,(gOk ops s o=true->s1=s)->Rel Z s1 σs A L σ w->s1.it=s.it->exG P T inl o t want s1 k=some r->FQ P n ops o Z s σs k r (z? T s o=true/\gOk ops s o=true) A L σ w:=by
     intro s1 hs hr1 hit h;refine YE (Bdx hT hI hr1 hd hg hj h) λσ' w' hp=>?_;rw[<-hit];refine pN hp (λg=>?_);have:=hs g.2;subst this;refine⟨g.1,?_⟩;have h2:=g.2;unfold gOk at h2;simp only[hg,hj]at h2;split at h2
     ·exact⟨_,by assumption⟩
     ·cases h2
    split at h
    ·rename_i t2 w2 v hv;have nog:∀{X:Prop},gOk ops s o=true->X:=λg=>by
      unfold gOk at g;simp only[hg,hj,hv]at g;cases g
     split at h
     ·rename_i b hb;have ht:=YN hm.sl hb;cases b with
      |true=>exact fin _ nog (hr.res ht) rfl (by simpa using h)
      |false=>exact fin _ nog (hr.res ht) rfl (by simpa using h)
     ·cases h
    ·exact fin s (λ_=>rfl) hr rfl h
theorem Rel.Bhg{rr:Nat}(hr:Rel Z s σs A L σ w)(hl:rr<w.heap.size)(hm:Ea w (λb=>A b\/b=rr) (L.map MD.Ki)):Rel Z s σs (λb=>A b\/b=rr) L σ w:=
 ⟨λb hb=>hb.elim (hr.lt b) (λe=>e▸hl),λf hf=>f.step (hr.facts f hf) (λ_ h=> .inl h) (λ_ _=>rfl) (.refl _),hm⟩
theorem Rel.world{w':World}(hr:Rel Z s σs A L σ w)(hs:Same A w w')(hg:Gr w w')(hm:Ea w' A (L.map MD.Ki)):Rel Z s σs A L σ w':=
 ⟨λb hb=>HJ (hr.lt b hb) hg.le,λf hf=>f.step (hr.facts f hf) (λ_ h=>h) hs hg,hm⟩
def Z9(P:Program)(Z:Fix)(d t:Nat)(ks:List UInt8)(vs:List PV)(A:Reg)(L:List MD)(σ:Env)(w:World):Prop:=
 ∃rr es c kt et,P.underlying t=some (.map kt et)/\P.underlying kt=some (.int .u8)/\σ d= .map (some rr)/\w.heap[rr]? =some (.map es c)/\Z.w0.heap.size<=rr/\ ¬A rr/\Ea w (λb=>A b\/b=rr) (L.map MD.Ki)/\
  es.toList.map (·.key)=ks.map (λk=>iv (T:=UInt8) (k:= .u8) k)/\Gp (λb=>A b/\Z.R b) w L vs (es.toList.map (·.val))
theorem Z9.close{d t:Nat}{ks:List UInt8}{vs:List PV}(hr:Rel Z s σs A L σ w)(h:Z9 P Z d t ks vs A L σ w):∃A',Rel Z (s.set d (.mp ks vs)) σs A' L σ w:=by
 obtain⟨rr,es,c,kt,et,_,_,h3,h4,h5,h6,h7,h8,h9⟩:=h;have hr1:=hr.Bhg (lt_of_heap h4) h7;have hσ:Xz σ d (.map (some rr))=σ:=by
  rw[<-h3];funext q;by_cases hq:q=d
  ·rw[hq,EO]
  ·rw[nT _ _ hq]
 refine⟨λb=>A b\/b=rr,?_⟩;rw[<-hσ];refine hr1.set ?_;rw[hσ];have hv:Bk (λb=>(A b\/b=rr)/\Z.R b) w L (.mp ks vs) [.map (some rr)]:=⟨rr,es,c,rfl,⟨.inr rfl,Z.new _ h5⟩,h4,h8,Bk.jv (λb hb=>⟨.inl hb.1,hb.2⟩) (λ_ _=>rfl) (.refl L) h9⟩
 show Bk _ w L (.mp ks vs) [σ d];rw[h3];exact hv
theorem Amj{u:UInt8}:∀{es:List MapEntry} {ks:List UInt8} (i:Nat),es.map (·.key)=ks.map (λk=>iv (T:=UInt8) (k:= .u8) k)->iJ u ks=false->Instr.findNow (.int .u8) (iv (T:=UInt8) (k:= .u8) u) es i=some none
 |[],_,_,_,_=>rfl
 |e::es,[],_,h,_=>by cases h
 |e::es,q::ks,i,h,hu=>by
  simp only[J8,X4]at h;simp only[iJ,TM]at hu;have hs:Instr.sameNow (.int .u8) (iv (T:=UInt8) (k:= .u8) u) e.key=some (geq u q):=by rw[h.1];rfl
  simp only[Instr.findNow,hs,hu.1];exact Amj (i+1) h.2 hu.2
theorem Gp.push{B:Reg}{p:PV}{v:Value}(h:asV p.isA (Bk B w L p) v):∀{vs:List PV} {us:List Value},Gp B w L vs us->Gp B w L (vs++[p]) (us++[v])
 |[],us,e=>by
  rw[show us=[]from e];exact⟨v,[],rfl,h,rfl⟩
 |a::vs,us,⟨x,us',e,h1,h2⟩=>⟨x,us'++[v],by rw[e];rfl,h1,Gp.push h h2⟩
theorem Atk{d t:Nat}{o:Op}{u:UInt8}{x:Operand}(h:qp d t o=some (u,x)):o= .insert t (.tmp d) (.const (iv (T:=UInt8) (k:= .u8) u)) x:=by
 unfold qp at h;split at h
 ·rename_i t' q m x';obtain⟨hb,h⟩:=Be h;simp only[CT]at hb;cases h;rw[Di hb.1.1,Di hb.1.2];have:=NT hb.2
  show Op.insert t (.tmp d) (.const (.int .u8 m)) x= .insert t (.tmp d) (.const (.int .u8 (((GI.ofZ m:UInt8).toNat:Nat):Int))) x;rw[this]
 ·cases h
theorem Ba2{o:Oper}{d t:Nat}(h:rZ P n o=some (d,t)):o.op= .makeMap t none/\o.dst=some d/\o.guard=none/\Nat.blt d n=true/\∃kt et,P.underlying t=some (.map kt et)/\P.underlying kt=some (.int .u8):=by
 unfold rZ at h;split at h
 ·rename_i t' ho;split at h
  ·rename_i d' kt et hd hg ht;split at h
   ·rename_i hk;obtain⟨hb,h⟩:=Be h;cases h;exact⟨ho,hd,hg,hb,kt,et,ht,hk⟩
   ·cases h
  ·cases h
 ·cases h
def Bi6(P:Program)(Z:Fix)(σs:List Env)(m:Option (Nat×Nat×List UInt8×List PV))(A:Reg)(L:List MD)(σ:Env)(w:World):Prop:=match m with|none=>True|some (d,t,ks,vs)=>Z9 P Z d t ks vs A L σ w
theorem kY(hT:pL P T Z)(hI:HI P T.gl inl):∀{l:List Oper} {m:Option (Nat×Nat×List UInt8×List PV)} {s:S} {A:Reg} {L:List MD} {σ:Env} {w:World},Rel Z s σs A L σ w->Bi6 P Z σs m A L σ w->VH P T inl n ops l m s k=some r->
  WL P n ops l (λσ' w'=>∃s' A' L',k s'=some r/\Rel Z s' σs A' L' σ' w') σ w
 |[],m,s,A,L,σ,w,hr,hm,h=>by
  unfold VH at h;cases m with
  |none=>exact WL.nil ⟨s,A,L,h,hr⟩
  |some q=>
   obtain⟨d,t,ks,vs⟩:=q;obtain⟨A',hr'⟩:=Z9.close hr hm;exact WL.nil ⟨_,A',L,h,hr'⟩
 |o::l,m,s,A,L,σ,w,hr,hm,h=>by
  have op:∀{s:S} {A:Reg},Rel Z s σs A L σ w-> (zE P T inl n ops o s λs'=>VH P T inl n ops l none s' k)=some r->WL P n ops (o::l) (λσ' w'=>∃s' A' L',k s'=some r/\Rel Z s' σs A' L' σ' w') σ w:=by
   intro s A hr h;have h1:=An5 (ops:=ops) hT hI hr h;refine WL.cut _ [o] h1 ?_;rintro σ' w' ⟨s',A',L',g1,g2,_⟩;exact kY (m:=none) hT hI g2 trivial g1
  unfold VH at h;cases m with
  |none=>
   simp only at h;split at h
   ·exact op hr h
   ·rename_i d t hmk;obtain⟨h1,h2,h3,h4,kt,et,h5,h6⟩:=Ba2 hmk;have hsz:(w.alloc (.map #[] 0)).heap.size=w.heap.size+1:=rP w _;have hkeep:Keep w (w.alloc (.map #[] 0)):=Aoe w _;have hr1:Rel Z s σs A L σ (w.alloc (.map #[] 0)):=St.keep hr hkeep;have hr2:Rel Z (s.set d .undef) σs A L (Xz σ d (.map (some w.heap.size))) (w.alloc (.map #[] 0)):=hr1.set trivial;have vC:Ea (w.alloc (.map #[] 0)) (λb=>A b\/b=w.heap.size) (L.map MD.Ki):=
     (Ea.step (by rw[hsz];omega) (St.mobs hr).lt λb hb _=>hkeep.same b hb).DG λb hb=>hb.imp id λe=>cH e.symm
    have hx:(execOp (ev σ) o).run P w= .ok (.value (.map (some w.heap.size))) (w.alloc (.map #[] 0)):=by
     obtain⟨_,_,_,_,_,_⟩:=o;simp only at h1;subst h1;simp[execOp,Instr.makeMap,Result.andThen]
    refine WL.val h3 h2 h4 hx (kY hT hI hr2 ?_ h);exact⟨w.heap.size, #[],0,kt,et,h5,h6,EO _ _ _,AY w _,(hr.fact 1 (f:= .old Z.M Z.w0) rfl).1.le,λhA=>absurd (hr.lt _ hA) F0,vC,rfl,rfl⟩
  |some q=>
   obtain⟨d,t,ks,vs⟩:=q;simp only at h;have cl:∀{s':S},s'=s.set d (.mp ks vs)-> (zE P T inl n ops o s' λs'=>VH P T inl n ops l none s' k)=some r->WL P n ops (o::l) (λσ' w'=>∃s' A' L',k s'=some r/\Rel Z s' σs A' L' σ' w') σ w:=by
    intro s' hs' h;subst hs';obtain⟨A',hr'⟩:=Z9.close hr hm;exact op hr' h
   split at h
   ·rename_i q hg hq;split at h
    ·rename_i v hv;obtain⟨hb,hv⟩:=Be hv;simp only[CT,IC]at hb;obtain⟨h1,val,h2,h3⟩:=eK (P:=P) (B:=λb=>A b/\Z.R b) (w:=w) (L:=L) (λ_=>True) hr.mem.sl hv;have hne:d≠q:=λe=>by rw[e]at hb;simp at hb
     have hx:(execOp (ev σ) o).run P w= .ok (.value val) w:=by
      obtain⟨d0,op0,ty0,Bj0,af0,g0⟩:=o;exact h2 w trivial d0 ty0 Bj0 af0 g0
     refine WL.val hg hq hb.1 hx (kY hT hI (hr.set (Kh.put h1 h3)) ?_ h);obtain⟨rr,es,c,kt,et,g1,g2,g3,g4⟩:=hm;exact⟨rr,es,c,kt,et,g1,g2,by rw[nT _ _ hne];exact g3,g4⟩
    ·exact cl rfl h
   ·rename_i hg hq;split at h
    ·rename_i u x hins;have ho:=Atk hins;obtain⟨hb,h⟩:=Be h;simp only[CT,IC]at hb;obtain⟨rr,es,c,kt,et,g1,g2,g3,g4,g5,g6,g7,g8,g9⟩:=hm;have hxv:Ln (λb=>A b/\Z.R b) w L (Fh s.sl x) (ev σ x):=by
      refine YT hr.mem.sl ?_;cases hp:Fh s.sl x<;>rw[hp]at hb<;>first|rfl|exact absurd hb.1 (by simp[Bgr])
     have hlt:=lt_of_heap g4
     let o':Obj:= .map (es.push {key:=iv (T:=UInt8) (k:= .u8) u,val:=ev σ x,born:=c}) (c+1)
     let w':World:={w with heap:=w.heap.setIfInBounds rr o'}
     have hheap:∀b,b≠rr->w'.heap[b]? =w.heap[b]? :=λb hb=>by simp[w',WO (LC hb)]
     have hnew:w'.heap[rr]? =some o':=by simp[w',hlt]
     have hgr:Gr w w':=⟨by simp[w'],rfl,rfl,rfl⟩;have hsame:Same A w w':=λb hb=>hheap b λe=>g6 (e▸hb);have vC:Ea w' (λb=>A b\/b=rr) (L.map MD.Ki):=Ea.step hgr.le g7 λb _ hb=>hheap b λe=>hb (.inr e);have hck:(Instr.checkKey false 10000 kt (iv (T:=UInt8) (k:= .u8) u)).run P w= .ok () w:=MapKept.run_checkKey g2 (show MapKept.IsKey (.int .u8) (.int .u8 _)from rfl) _ 9999;have hfk:=MapKept.run_findKey (P:=P) (w:=w) g2 (Amj 0 g8 hb.2);have hx:(execOp (ev σ) o).run P w= .ok .skip w':=by
      obtain⟨_,_,_,_,_,_⟩:=o;simp only at ho;subst ho;have e1:ev σ (.tmp d)= .map (some rr):=g3;have e2:ev σ (.const (iv (T:=UInt8) (k:= .u8) u))=iv (T:=UInt8) (k:= .u8) u:=rfl;simp[execOp,e1,e2,Instr.mapUpdate,EE g1,MapKept.run_getObj_map g4,hck,hfk,MapKept.run_setObj_map _ g4,Result.andThen,w',o']
     refine WL.unit hg hq hx (kY hT hI (hr.world hsame hgr (vC.DG λb hb=> .inl hb)) ?_ h);refine⟨rr,_,_,kt,et,g1,g2,g3,hnew,g5,g6,vC,?_,?_⟩
     ·simp only[Array.toList_push,NV,g8,J8,Y!]
     ·simp only[Array.toList_push,NV,J8,Y!];exact Bk.jv (λ_ h=>h) (λb hb=>hsame b hb.1) (.refl L) (Gp.push hxv g9)
    ·exact cl rfl h
   ·cases h
theorem Agn(hT:pL P T Z)(hI:HI P T.gl inl){l:List Oper}{s:S}{A:Reg}{L:List MD}{σ:Env}{w:World}(hr:Rel Z s σs A L σ w)(h:G1 P T inl n ops l s k=some r):
  WL P n ops l (λσ' w'=>∃s' A' L',k s'=some r/\Rel Z s' σs A' L' σ' w') σ w:=kY (m:=none) hT hI hr trivial h
end Go.Rx
namespace Go.Rx
open Go Go.Lv
variable{b:BV}{o:Op}{v:PV}
variable {P:Program} {B B':Reg} {w w':World} {L L':List MD} {s:S} {σs:List Env} {σ:Env} {Z:Fix} {A A':Reg} {n:Nat} {ops:Array Oper}
variable {R:Type} {k:S->Option R} {r:R} {d:Option Nat} {ty:TypeId} {pos:String} {after:Array Edge} {T:Tab} {inl:P1 R} {mem:Bool} {listed:Array Bool}
def T3(Z:Fix)(σs:List Env)(A:Reg)(L:List MD)(it:List Item)(w w':World):Prop:=∃s2 σ2 A' L',Rel Z s2 σs A' L' σ2 w'/\Grow A L it w A' L' s2.it w'
theorem T3.refl(hr:Rel Z s σs A L σ w):T3 Z σs A L s.it w w:=⟨s,σ,A,L,hr, .refl⟩
theorem T3.ext(hr:Rel Z s σs A L σ w)(h:T3 Z σs A L s.it w w'):Ext Z s σs A L σ w w':=by
 obtain⟨s2,σ2,A',L',h1,h2⟩:=h;exact h2.ext hr h1
theorem nN{z:Array Bool}:∀{is:List Nat} {i d:Nat} {v:PV},CF P T n mem ops z listed s is=some (i,d,v)->∃o,ops[i]? =some o/\NX ops (tw z) listed i=true/\eO P T n mem ops o s=some (d,v)
 |[],_,_,_,h=>by simp[CF]at h
 |j::is,i,d,v,h=>by
  simp only[CF]at h;split at h
  ·cases h
  ·rename_i o ho;split at h
   ·rename_i d' v' hp;cases ht:R8 ops (tw z) listed j with
    |true=>rw[ht,BA]at h;cases h;exact⟨o,ho,oZ ht,hp⟩
    |false=>rw[ht,Yc]at h;exact nN h
   ·exact nN h
def GS(Z:Fix)(σs:List Env)(w':World):Prop:=∃s2 σ2 A2 L2,Rel Z s2 σs A2 L2 σ2 w'
theorem Ext.gs(h:Ext Z s σs A L σ w w'):GS Z σs w':=by
 obtain⟨⟨A',L',it',_,hr⟩,_⟩:=h;exact⟨_,_,_,_,hr⟩
theorem Aqy{g:Nat}{t:TypeId}(hT:pL P T Z)(h:T.glv P g t=some v):∃cs,(∀w',GS Z σs w'->∃T1 fr,w'.heap[g]? =some (.cells cs.toArray T1 fr))/\∀(B:Reg) (w:World) (L:List MD),Bk B w L v cs:=by
 unfold Tab.glv at h;split at h
 ·rename_i cs hg;split at h
  ·rename_i v' hp;cases h;refine⟨cs,λw' hw=>?_,λB w L=>?_⟩
   ·obtain⟨s2,σ2,A2,L2,hr⟩:=hw;obtain⟨_,T1,fr,h2⟩:=hr.SO (p:=(g,cs)) (by rw[hT.2];exact yx hg);exact⟨T1,fr,h2⟩
   ·obtain⟨c,e1,h3⟩:=jG (B:=B) (w:=w) (L:=L) Q hp;rw[GY]at e1;subst e1;exact h3
  ·cases h
 ·cases h
theorem Ayx(hT:pL P T Z)(h:rT P T o=some v):v.isV=true/\∃val,(∀w',GS Z σs w'->XO P σ w' o val)/\Gi (λb=>A b/\Z.R b) w L v val:=by
 unfold rT at h;split at h
 ·rename_i t g;split at h
  ·rename_i u hv;obtain⟨hb,hk⟩:=Be h;cases hk;obtain⟨cs,h1,h3⟩:=Aqy (σs:=σs) hT hv;obtain⟨val,h7,h8⟩:=rH (P:=P) (σ:=σ) (x:= .global g) (b:=g) (off:=0) (Vp hb) (h3 (λb=>A b/\Z.R b) w L) rfl;obtain⟨hv1,hv2⟩:=Mu h7;refine⟨hv1,val,λw' hw=>h8 w' λj hj=>?_,hv2⟩;obtain⟨T1,fr,h4⟩:=h1 w' hw;rw[cell_of h4];simp
  ·cases h
 ·cases h
theorem M_{S:World->Prop}(hT:pL P T Z)(hr:Rel Z s σs A L σ w)(h:Z1 P T mem s o=some v)(hS:mem=true->∀w',S w'->Ext Z s σs A L σ w w')(hG:∀w',S w'->GS Z σs w'):v.isV=true/\∃val,(∀w',S w'->XO P σ w' o val)/\Gi (λb=>A b/\Z.R b) w L v val:=by
 unfold Z1 at h;split at h
 ·rename_i u hu;cases h;exact eK (P:=P) S hr.mem.sl hu
 ·split at h
  ·rename_i u hu;cases h;cases mem with
   |true=>
    obtain⟨h1,val,h2,h3⟩:=pX (P:=P) hr hu;exact⟨h1,val,λw' hw=>h2 w' (hS rfl w' hw),h3⟩
   |false=>cases hu
  ·obtain⟨h1,val,h2,h3⟩:=Ayx (σs:=σs) (σ:=σ) (A:=A) (w:=w) (L:=L) hT h;exact⟨h1,val,λw' hw=>h2 w' (hG w' hw),h3⟩
theorem Baf{t:Nat}{b:Bool}{w':World}(h:Ext Z s σs A L σ w w')(ht:σ t= .bool b):Ext Z (s.res t b) σs A L σ w w':=by
 obtain⟨⟨A',L',it',h1,h2⟩,h3⟩:=h;exact⟨⟨A',L',it',h1,Rel.res (s:=⟨s.sl,s.it++it',s.st⟩) h2 ht⟩,h3⟩
theorem WD.gxU{op:Op}{d j t:Nat}{ty:TypeId}{pos:String}{after:Array Edge}{want:Bool}{S:World->Prop}{TT:Nat->Bool}{fuel:Nat}{K:Env->World->Prop}(i:Nat)(hi:ops[i]? =some ⟨some d,op,ty,pos,after,some (j,want)⟩)(hB:NX ops TT listed i=true)(hdn:Nat.blt d n=true)
  (hj:(ops[j]?).bind (·.dst)=some t) (hb:σ t=Go.undef) (hS:S w)
  (h:WD P n ops S TT fuel (listed.setIfInBounds i true) K (Xz σ d Go.undef) w):WD P n ops S TT (fuel+1) listed K σ w:=by
 intro ds a ha;obtain⟨B,hblk,hcl⟩:=A8 hi hB;simp only[NX,CT]at hB;refine nR (v:=Go.undef) hi (tW hB.1) (λc a w h=>absurd h.1 B7) fuel listed a w hblk (HY hcl).1 (HY hcl).2 (by simpa using hB.2.1) ?_ hS (h _ _ (ha.put hdn _));refine .inr ⟨?_,rfl⟩;have hy:yielded ops a.tmps j=none:=by
  unfold yielded;rw[hj];have h1:=ha.get t;rw[hb]at h1;cases h:a.tmps[t]? with
  |none=>simp[h]
  |some v=>
   rw[KL,h]at h1;simp at h1;subst h1;simp[h,Go.undef]
 simp only[Region.wanted,hy];cases want<;>rfl
theorem Aoc{S:World->Prop}{z:Array Bool}{fuel i dn:Nat}{o:Oper}{K:Env->World->Prop}(hT:pL P T Z)(hr:Rel Z s σs A L σ w)(hi:ops[i]? =some o)(hB:NX ops (tw z) listed i=true)(hp:eO P T n mem ops o s=some (dn,v))(hSw:S w)
  (hS:mem=true->∀w',S w'->Ext Z s σs A L σ w w') (hG:∀w',S w'->GS Z σs w') (h:∀σ',Rel Z (s.set dn v) σs A L σ' w->WD P n ops S (tw z) fuel (listed.setIfInBounds i true) K σ' w):WD P n ops S (tw z) (fuel+1) listed K σ w:=by
 obtain⟨d,op,ty,pos,after,g⟩:=o;have hm:=hr.mem;unfold eO at hp;simp only at hp;split at hp
 ·cases hp
 ·rename_i d';cases hn:Nat.blt d' n with
  |false=>rw[hn]at hp;cases hp
  |true=>
   rw[hn]at hp;simp only[Pw,SC]at hp;try dsimp only[Dk]at hp
   split at hp
   ·
    cases hv:Z1 P T mem s op with
    |none=>rw[hv]at hp;cases hp
    |some u=>
     rw[hv]at hp;cases hp;obtain⟨h1,val,h2,h3⟩:=M_ hT hr hv hS hG;exact WD.x i hi hB hn hSw h2 (h _ (hr.set (.put h1 h3)))
   ·rename_i j want;split at hp
    ·cases hp
    ·rename_i t hj;split at hp
     ·rename_i b hb;have ht:=I5 hm.sl hb;cases hw:yJ want b with
      |true=>
       rw[hw]at hp;dsimp only[Dk,cond]at hp;cases hv:Z1 P T mem s op with
       |none=>rw[hv]at hp;cases hp
       |some u=>
        rw[hv]at hp;cases hp;obtain⟨h1,val,h2,h3⟩:=M_ hT hr hv hS hG;have hbw:(b==want)=true:=by rw[<-mX];exact hw
        refine WD.gx (v:=val) i hi hB hn hj ht hSw (λ_=>h2) (h _ ?_);rw[H' hbw];exact hr.set (.put h1 h3)
      |false=>
       rw[hw]at hp;cases hp;have hbw:(b==want)=false:=by rw[<-mX];exact hw
       refine WD.gx (v:=Go.undef) i hi hB hn hj ht hSw (λhg=>by rw[hbw]at hg;cases hg) (h _ ?_);rw[q! hbw];exact hr.set (show Xz σ dn Go.undef dn=Go.undef from EO _ _ _)
     ·rename_i hb;cases hp;have h1:=Vu (t:=t) hm.sl;rw[hb]at h1;exact WD.gxU i hi hB hn hj h1 hSw (h _ (hr.set (show Xz σ dn Go.undef dn=Go.undef from EO _ _ _)))
     ·rename_i b hb;have ht:=YN hm.sl hb;cases hne:Nat.beq d' t with
      |true=>rw[hne]at hp;cases hp
      |false=>
       rw[hne]at hp;dsimp only[Dk,cond]at hp;cases hv:Z1 P T mem (s.res t want) op with
       |none=>rw[hv]at hp;cases hp
       |some u=>
        rw[hv]at hp;cases hp;by_cases hbw:b=want
        ·subst hbw;obtain⟨h1,val,h2,h3⟩:=M_ hT (hr.res ht) hv (λhm w' hw=>Baf (hS hm w' hw) ht) hG;refine WD.gx (v:=val) i hi hB hn hj ht hSw (λ_=>h2) (h _ ?_);rw[H' B7];exact hr.set (uq ht hne (λ_=>h3) (λe=>absurd rfl e))
        ·refine WD.gx (v:=Go.undef) i hi hB hn hj ht hSw (λhg=>absurd (by simpa using hg) hbw) (h _ ?_);rw[q! (by simpa using hbw)];exact hr.set (uq ht hne (λe=>absurd e hbw) (λ_=>rfl))
     ·cases hp
theorem dC{z:Array Bool}:∀{is:List Nat} {i d:Nat} {v:BG},KO P n ops z listed s is=some (i,d,v)->∃o,ops[i]? =some o/\NX ops (tw z) listed i=true/\UI P n ops o s=some (d,v)
 |[],_,_,_,h=>by simp[KO]at h
 |j::is,i,d,v,h=>by
  simp only[KO]at h;split at h
  ·cases h
  ·rename_i o ho;split at h
   ·rename_i d' v' hp;cases ht:R8 ops (tw z) listed j with
    |true=>rw[ht,BA]at h;cases h;exact⟨o,ho,oZ ht,hp⟩
    |false=>rw[ht,Yc]at h;exact dC h
   ·exact dC h
theorem Axk{S:World->Prop}{z:Array Bool}{fuel i dn:Nat}{o:Oper}{x:b.X}{K:Env->World->Prop}(hr:Rel Z s σs A L σ w)(hi:ops[i]? =some o)(hB:NX ops (tw z) listed i=true)(hp:UI P n ops o s=some (dn, .on b))(hx:b.E=some x)(hSw:S w)
  (h:∀σ',Rel Z (s.set dn (b.v x)) σs A L σ' w->WD P n ops S (tw z) fuel (listed.setIfInBounds i true) K σ' w):WD P n ops S (tw z) (fuel+1) listed K σ w:=by
 obtain⟨d,op,ty,pos,after,g⟩:=o;have hm:=hr.mem;unfold UI at hp;simp only at hp;split at hp
 ·cases hp
 ·rename_i d';cases hn:Nat.blt d' n with
  |false=>rw[hn]at hp;cases hp
  |true=>
   rw[hn]at hp;simp only[Pw,SC]at hp;try dsimp only[Dk]at hp
   split at hp
   ·cases hv:dL P s op with
    |none=>rw[hv]at hp;cases hp
    |some u=>
     rw[hv]at hp;cases hp;obtain⟨h1,val,h2,h3⟩:=pP hr hv hx;exact WD.x i hi hB hn hSw (λw' _=>h2 w') (h _ (hr.set (.put h1 h3)))
   ·rename_i j want;split at hp
    ·cases hp
    ·rename_i t hj;split at hp
     ·rename_i c hb;have ht:=I5 hm.sl hb;cases hw:yJ want c with
      |true=>
       rw[hw]at hp;dsimp only[Dk,cond]at hp;cases hv:dL P s op with
       |none=>rw[hv]at hp;cases hp
       |some u=>
        rw[hv]at hp;cases hp;obtain⟨h1,val,h2,h3⟩:=pP hr hv hx;have hbw:(c==want)=true:=by rw[<-mX];exact hw
        refine WD.gx (v:=val) i hi hB hn hj ht hSw (λ_ w' _=>h2 w') (h _ ?_);rw[H' hbw];exact hr.set (.put h1 h3)
      |false=>rw[hw]at hp;cases hp
     ·rename_i c hb;cases hne:Nat.beq d' t with
      |true=>rw[hne]at hp;cases hp
      |false=>
       rw[hne]at hp;dsimp only[Dk,cond]at hp;cases hv:dL P (s.res t want) op with
       |none=>rw[hv]at hp;cases hp
       |some u=>rw[hv]at hp;cases hp
     ·cases hp
theorem Aoj{S:World->Prop}{z:Array Bool}{fuel i dn t:Nat}{want bv:Bool}{o:Oper}{K:Env->World->Prop}{X:Go.Rx.S->Option R}(hr:Rel Z s σs A L σ w)(hi:ops[i]? =some o)(hB:NX ops (tw z) listed i=true)(hp:UI P n ops o s=some (dn, .ask t want bv b))(hSw:S w)
  (hx:(Dk (yJ want bv) (Option.bind b.E λx=>X ((s.res t bv).set dn (b.v x)))<|X ((s.res t bv).set dn .off))=some r)
  (h:∀s',s'.it=s.it->∀σ',Rel Z s' σs A L σ' w->X s'=some r->WD P n ops S (tw z) fuel (listed.setIfInBounds i true) K σ' w):WD P n ops S (tw z) (fuel+1) listed K σ w:=by
 obtain⟨d,op,ty,pos,after,g⟩:=o;have hm:=hr.mem;unfold UI at hp;simp only at hp;split at hp
 ·cases hp
 ·rename_i d';cases hn:Nat.blt d' n with
  |false=>rw[hn]at hp;cases hp
  |true=>
   rw[hn]at hp;simp only[Pw,SC]at hp;try dsimp only[Dk]at hp
   split at hp
   ·cases hv:dL P s op with
    |none=>rw[hv]at hp;cases hp
    |some u=>rw[hv]at hp;cases hp
   ·rename_i j want';split at hp
    ·cases hp
    ·rename_i t' hj;split at hp
     ·rename_i c hb;cases hw:yJ want' c with
      |true=>
       rw[hw]at hp;dsimp only[Dk,cond]at hp;cases hv:dL P s op with
       |none=>rw[hv]at hp;cases hp
       |some u=>rw[hv]at hp;cases hp
      |false=>rw[hw]at hp;cases hp
     ·rename_i c hb;have ht:=YN hm.sl hb;cases hne:Nat.beq d' t' with
      |true=>rw[hne]at hp;cases hp
      |false=>
       rw[hne]at hp;dsimp only[Dk,cond]at hp;cases hv:dL P (s.res t' want') op with
       |none=>rw[hv]at hp;cases hp
       |some u=>
        rw[hv]at hp;cases hp;cases hw:yJ want bv with
        |true=>
         rw[hw]at hx;dsimp only[Dk,cond]at hx;obtain⟨x,hx,hk⟩:=bind_some hx;have hbw:bv=want:=by cases want<;>cases bv<;>simp_all [yJ]
         subst hbw;obtain⟨h1,val,h2,h3⟩:=pP (hr.res ht) hv hx;refine WD.gx (v:=val) i hi hB hn hj ht hSw (λ_ w' _=>h2 w') (h ((s.res t bv).set dn (b.v x)) rfl _ ?_ hk);rw[H' B7];exact(hr.res ht).set (.put h1 h3)
        |false=>
         rw[hw]at hx;dsimp only[Dk,cond]at hx;have hbw:(bv==want)=false:=by rw[<-mX];exact hw
         refine WD.gx (v:=Go.undef) i hi hB hn hj ht hSw (λhg=>by rw[hbw]at hg;cases hg) (h ((s.res t bv).set dn .off) rfl _ ?_ hx);rw[q! hbw];exact(hr.res ht).set (show Xz σ dn Go.undef dn=Go.undef from EO _ _ _)
     ·cases hp
theorem zB{z:Array Bool}:∀{is:List Nat} {i:Nat} {v:Nat×TypeId×Nat×List Step},XT n ops z listed s is=some (i,v)->∃o,ops[i]? =some o/\NX ops (tw z) listed i=true/\j? n ops o s=some v
 |[],_,_,h=>by simp[XT]at h
 |j::is,i,v,h=>by
  simp only[XT]at h;split at h
  ·cases h
  ·rename_i o ho;split at h
   ·rename_i v' hp;cases ht:R8 ops (tw z) listed j with
    |true=>rw[ht,BA]at h;cases h;exact⟨o,ho,oZ ht,hp⟩
    |false=>rw[ht,Yc]at h;exact zB h
   ·exact zB h
theorem Bbx{d dn:Nat}{t:TypeId}{j:Nat}{p:List Step}{u:PV}{kk:PV->Option R}(hr:Rel Z s σs A L σ w)(hp:iy s d o=some (dn,t,j,p))(h:getRoot (Dj s.it j) p kk=some r):
  d=dn/\∃u,kk u=some r/\ (Ru P t u=true->u.isV=true/\∃val,(∀w',Ext Z s σs A L σ w w'->XO P σ w' o val)/\Gi (λb=>A b/\Z.R b) w L u val):=by
 have hm:=hr.mem;unfold iy at hp;split at hp
 ·rename_i t' x;split at hp
  ·rename_i i p' hx;split at hp
   ·cases hp
   ·rename_i hne;cases hp;obtain⟨md,b,h1,h2,h3⟩:=ED (Dz hm.sl hx rfl);obtain⟨h4,_⟩:=hm.root h1 (λe=>hne e);obtain⟨u,c1,c2,c3,hk,he,h5,h6⟩:=All h h4;refine⟨rfl,u,hk,λhb=>?_⟩;obtain⟨val,h7,h8⟩:=rH (P:=P) (σ:=σ) (x:=x) (b:=b) (off:=Bc p) (Vp hb) h6 h3;obtain⟨hv,hv'⟩:=Mu h7;refine⟨hv,val,λw' hext=>h8 w' λq hq=>?_,hv'⟩;obtain⟨A',L',it',ha,hr'⟩:=hext.ex;have h10:(L++L')[j]? =some md:=by rw[HQ (List.getElem?_eq_some_iff.1 h1).1];exact h1
    rw[hr'.cells h10 h2 _ (by rw[he];simp;omega),he,JG F0,h5,show Bc p+q-Bc p=q by omega,HQ hq]
  ·cases hp
 ·cases hp
theorem Bhh{S:World->Prop}{z:Array Bool}{fuel i dn j:Nat}{t:TypeId}{p:List Step}{o:Oper}{kk:PV->Option R}{K:Env->World->Prop}(hr:Rel Z s σs A L σ w)(hi:ops[i]? =some o)(hB:NX ops (tw z) listed i=true)(hp:j? n ops o s=some (dn,t,j,p))(hg:getRoot (Dj s.it j) p kk=some r)(hSw:S w)
  (hS:∀w',S w'->Ext Z s σs A L σ w w') (hkk:∀u,kk u=some r->Ru P t u=true)
  (h:∀u σ',kk u=some r->Rel Z (s.set dn u) σs A L σ' w->WD P n ops S (tw z) fuel (listed.setIfInBounds i true) K σ' w):WD P n ops S (tw z) (fuel+1) listed K σ w:=by
 obtain⟨d,op,ty,pos,after,g⟩:=o;have hm:=hr.mem;unfold j? at hp;simp only at hp;split at hp
 ·cases hp
 ·rename_i d';cases hn:Nat.blt d' n with
  |false=>rw[hn]at hp;cases hp
  |true=>
   rw[hn]at hp;simp only[Pw,SC]at hp;try dsimp only[Dk]at hp
   split at hp
   ·obtain⟨rfl,u,hk,hu⟩:=Bbx (P:=P) (u:= .undef) hr hp hg;obtain⟨h1,val,h2,h3⟩:=hu (hkk u hk);exact WD.x i hi hB hn hSw (λw' hw=>h2 w' (hS w' hw)) (h u _ hk (hr.set (.put h1 h3)))
   ·rename_i q want;split at hp
    ·cases hp
    ·rename_i t' hj;split at hp
     ·rename_i c hb;have ht:=I5 hm.sl hb;cases hw:yJ want c with
      |true=>
       rw[hw]at hp;dsimp only[Dk,cond]at hp;obtain⟨rfl,u,hk,hu⟩:=Bbx (P:=P) (u:= .undef) hr hp hg;obtain⟨h1,val,h2,h3⟩:=hu (hkk u hk);have hbw:(c==want)=true:=by rw[<-mX];exact hw
       refine WD.gx (v:=val) i hi hB hn hj ht hSw (λ_ w' hw=>h2 w' (hS w' hw)) (h u _ hk ?_);rw[H' hbw];exact hr.set (.put h1 h3)
      |false=>rw[hw]at hp;cases hp
     ·cases hp
theorem Aq0{i t:Nat}{b:Bool}(hr:Rel Z s σs A L σ w)(h:pQ ops s i=some (t,b)):σ t= .bool b:=by
 unfold pQ at h;split at h
 ·cases h
 ·split at h
  ·cases h
  ·split at h
   ·cases h
   ·split at h
    ·rename_i hb;cases h;exact YN hr.mem.sl hb
    ·split at h
     ·rename_i hb;cases h;exact YN hr.mem.sl hb
     ·cases h
    ·cases h
theorem wJ{fin:S->Option R}:∀{l:List Nat} {s:Go.Rx.S},Rel Z s σs A L σ w->mB ops l s fin=some r->∃s',Rel Z s' σs A L σ w/\s'.it=s.it/\fin s'=some r
 |[],s,hr,h=>⟨s,hr,rfl,h⟩
 |i::l,s,hr,h=>by
  rw[mB]at h;split at h
  ·rename_i t b hg;have ht:=Aq0 hr hg;cases b with
   |true=>
    obtain⟨s',h1,h2,h3⟩:=wJ (l:=l) (hr.res ht) (by simpa using h);exact⟨s',h1,h2,h3⟩
   |false=>
    obtain⟨s',h1,h2,h3⟩:=wJ (l:=l) (hr.res ht) (by simpa using h);exact⟨s',h1,h2,h3⟩
  ·exact wJ (l:=l) hr h
theorem Bdi(hT:pL P T Z)(hI:HI P T.gl inl):∀{fuel:Nat} {z0:Array Bool} {listed:Array Bool} {s:S} {A:Reg} {L:List MD} {σ:Env} {w:World} {S:World->Prop},Rel Z s σs A L σ w->dK P T inl n mem ops fuel z0 listed s k=some r->
  (mem=true->aZ (tw z0) listed=true\/∀w',T3 Z σs A L s.it w w'->S w')-> (mem=false->∀w',GS Z σs w'->S w')->
  WD P n ops S (tw z0) fuel listed (λσ' w'=>∃s' A' L',k s'=some r/\Rel Z s' σs A' L' σ' w') σ w:=by
 intro fuel
 induction fuel with
 |zero=>
  intro z0 listed s A L σ w S hr h hI1 hI2;unfold dK at h;simp only[Axg,yN,Agt]at h;split at h
  ·rename_i hrd;exact WD.done hrd ⟨s,A,L,h,hr⟩
  ·cases h
 |succ fuel ih=>
  intro z0 listed s A L σ w S hr h hI1 hI2;unfold dK at h;simp only[Axg,yN,Agt]at h;split at h
  ·rename_i hrd;exact WD.done hrd ⟨s,A,L,h,hr⟩
  ·rename_i i is hrd
   try simp only at h
   have rest:∀(z:Array Bool) (S:World->Prop) (s:Go.Rx.S),Rel Z s σs A L σ w-> (mem=true->∀w',T3 Z σs A L s.it w w'->S w')-> (mem=false->∀w',GS Z σs w'->S w')->
     both (match ops[i]? with
        |some o=>Dk (mem&& !((z? T s o&&gOk ops s o)||(!tw z i&&aZ (tw z) (listed.setIfInBounds i true)))) (none)<|
         zE P T inl n ops o s λs'=>dK P T inl n mem ops fuel z (listed.setIfInBounds i true) s' k
        |none=>none) (is.map λi=>match ops[i]? with
        |some o=>Dk (mem&& !((z? T s o&&gOk ops s o)||(!tw z i&&aZ (tw z) (listed.setIfInBounds i true)))) (none)<|
         zE P T inl n ops o s λs'=>dK P T inl n mem ops fuel z (listed.setIfInBounds i true) s' k
        |none=>none)=some r->WD P n ops S (tw z) (fuel+1) listed (λσ' w'=>∃s' A' L',k s'=some r/\Rel Z s' σs A' L' σ' w') σ w:=by
    intro z S s hr hS1 hS2 h;obtain⟨h1,h2⟩:=p? h;refine WD.steps hrd rfl ?_;intro q hq;have hone:(match ops[q]? with
       |some o=>Dk (mem&& !((z? T s o&&gOk ops s o)||(!tw z q&&aZ (tw z) (listed.setIfInBounds q true)))) (none)<|
        zE P T inl n ops o s λs'=>dK P T inl n mem ops fuel z (listed.setIfInBounds q true) s' k
       |none=>none)=some r:=by
     rcases List.mem_cons.1 hq with rfl|hq
     ·exact h1
     ·exact h2 _ (List.mem_map_of_mem hq)
    split at hone
    ·rename_i o ho;refine⟨o,ho,?_⟩;cases hc:(mem&& !((z? T s o&&gOk ops s o)||(!tw z q&&aZ (tw z) (listed.setIfInBounds q true))))with
     |true=>rw[hc]at hone;cases hone
     |false=>
      rw[hc]at hone;dsimp only[Dk,cond]at hone;refine YE (An5 hT hI hr hone) ?_;rintro σ' w' ⟨s',A',L',g1,g2,g3⟩;cases hmem:mem with
      |true=>
       subst hmem;simp only[JY,jw,HV,CT,IC]at hc;rcases hc with hc|⟨hc1,hc2⟩
       ·have g4:=g3 hc;refine⟨λ_=>hS1 rfl _ ⟨s',σ',A',L',g2,g4⟩,ih g2 g1 (λ_=> .inr λw'' hw=>?_) (λe=>by cases e)⟩;obtain⟨s2,σ2,A2,L2,h5,h6⟩:=hw;exact hS1 rfl _ ⟨s2,σ2,A2,L2,h5,g4.trans h6⟩
       ·refine⟨λhlt=>?_,ih g2 g1 (λ_=> .inl hc2) (λe=>by cases e)⟩;rw[hlt]at hc1;cases hc1
      |false=>
       subst hmem;exact⟨λ_=>hS2 rfl _ ⟨_,_,_,_,g2⟩,ih g2 g1 (λe=>by cases e) hS2⟩
    ·cases hone
   have main:∀(z:Array Bool) (S:World->Prop) (s:Go.Rx.S) (F:Option R),Rel Z s σs A L σ w-> (mem=true->∀w',T3 Z σs A L s.it w w'->S w')-> (mem=false->∀w',GS Z σs w'->S w')-> (F=some r->WD P n ops S (tw z) (fuel+1) listed (λσ' w'=>∃s' A' L',k s'=some r/\Rel Z s' σs A' L' σ' w') σ w)->
     (match CF P T n mem ops z listed s (i::is)with
      |some (i,d,v)=>dK P T inl n mem ops fuel z (listed.setIfInBounds i true) (s.set d v) k
      |none=>match KO P n ops z listed s (i::is)with
       |some (i,d, .on b)=>Option.bind b.E λx=>dK P T inl n mem ops fuel z (listed.setIfInBounds i true) (s.set d (b.v x)) k
       |some (i,d, .ask t want bv b)=>if bv=true then
         (Dk (yJ want true) (Option.bind b.E λx=>dK P T inl n mem ops fuel z (listed.setIfInBounds i true) ((s.res t true).set d (b.v x)) k)<|dK P T inl n mem ops fuel z (listed.setIfInBounds i true) ((s.res t true).set d .off) k)
         else(Dk (yJ want false) (Option.bind b.E λx=>dK P T inl n mem ops fuel z (listed.setIfInBounds i true) ((s.res t false).set d (b.v x)) k)<|dK P T inl n mem ops fuel z (listed.setIfInBounds i true) ((s.res t false).set d .off) k)
       |none=>match(Dk (mem) (XT n ops z listed s (i::is))<|none)with
       |some (i,d,t,j,p)=>getRoot (Dj s.it j) p λu=>Dk (Ru P t u) (dK P T inl n mem ops fuel z (listed.setIfInBounds i true) (s.set d u) k)<|none
       |none=>F)=some r->WD P n ops S (tw z) (fuel+1) listed (λσ' w'=>∃s' A' L',k s'=some r/\Rel Z s' σs A' L' σ' w') σ w:=by
    intro z S s F hr hS1 hS2 hfin h;split at h
    ·rename_i i' d v hp;obtain⟨o,ho,hB,hp⟩:=nN hp;cases hmem:mem with
     |true=>
      subst hmem;refine WD.w_ (S':=T3 Z σs A L s.it w) (hS1 rfl) (Aoc hT hr ho hB hp (.refl hr) (λ_ w' hw=>hw.ext hr) (λw' hw=>(hw.ext hr).gs) λσ' hr'=>?_);exact ih hr' h (λ_=> .inr λw' hw=>hw) (λe=>by cases e)
     |false=>
      subst hmem;refine WD.w_ (S':=GS Z σs) (hS2 rfl) (Aoc hT hr ho hB hp ⟨_,_,_,_,hr⟩ (λe=>by cases e) (λw' hw=>hw) λσ' hr'=>?_);exact ih hr' h (λe=>by cases e) (λ_ w' hw=>hw)
    ·split at h
     ·rename_i i' d b hp;obtain⟨o,ho,hB,hp⟩:=dC hp;obtain⟨x,hx,h⟩:=bind_some h;cases hmem:mem with
      |true=>
       subst hmem;refine WD.w_ (S':=T3 Z σs A L s.it w) (hS1 rfl) (Axk hr ho hB hp hx (.refl hr) λσ' hr'=>?_);exact ih hr' h (λ_=> .inr λw' hw=>hw) (λe=>by cases e)
      |false=>
       subst hmem;refine Axk hr ho hB hp hx (hS2 rfl _ ⟨_,_,_,_,hr⟩) λσ' hr'=>?_;exact ih hr' h (λe=>by cases e) hS2
     ·rename_i i' d t want bv b hp;obtain⟨o,ho,hB,hp⟩:=dC hp;have h:(Dk (yJ want bv) (Option.bind b.E λx=>dK P T inl n mem ops fuel z (listed.setIfInBounds i' true) ((s.res t bv).set d (b.v x)) k)<|dK P T inl n mem ops fuel z (listed.setIfInBounds i' true) ((s.res t bv).set d .off) k)=some r:=by
       cases bv with
       |true=>simpa using h
       |false=>simpa using h
      cases hmem:mem with
      |true=>
       subst hmem;refine WD.w_ (S':=T3 Z σs A L s.it w) (hS1 rfl) (Aoj (X:=λs'=>dK P T inl n true ops fuel z (listed.setIfInBounds i' true) s' k) hr ho hB hp (.refl hr) h λs' hs' σ' hr' h=>?_);exact ih hr' h (λ_=> .inr λw' hw=>hs'▸hw) (λe=>by cases e)
      |false=>
       subst hmem;refine Aoj (X:=λs'=>dK P T inl n false ops fuel z (listed.setIfInBounds i' true) s' k) hr ho hB hp (hS2 rfl _ ⟨_,_,_,_,hr⟩) h λs' hs' σ' hr' h=>?_;exact ih hr' h (λe=>by cases e) hS2
     ·split at h
      ·rename_i i' d t j p hp;cases hmem:mem with
       |false=>rw[hmem]at hp;cases hp
       |true=>
        subst hmem;dsimp only[Dk,cond]at hp;obtain⟨o,ho,hB,hp⟩:=zB hp;refine WD.w_ (S':=T3 Z σs A L s.it w) (hS1 rfl) (Bhh (P:=P) hr ho hB hp h (.refl hr) (λw' hw=>hw.ext hr) (λu hu=>(Be hu).1) λu σ' hu hr'=>?_);exact ih hr' (Be hu).2 (λ_=> .inr λw' hw=>hw) (λe=>by cases e)
      exact hfin h
   have all:∀(z:Array Bool) (S:World->Prop),(mem=true->∀w',T3 Z σs A L s.it w w'->S w')-> (mem=false->∀w',GS Z σs w'->S w')->
     (match CF P T n mem ops z listed s (i::is)with
      |some (i,d,v)=>dK P T inl n mem ops fuel z (listed.setIfInBounds i true) (s.set d v) k
      |none=>match KO P n ops z listed s (i::is)with
       |some (i,d, .on b)=>Option.bind b.E λx=>dK P T inl n mem ops fuel z (listed.setIfInBounds i true) (s.set d (b.v x)) k
       |some (i,d, .ask t want bv b)=>if bv=true then
         (Dk (yJ want true) (Option.bind b.E λx=>dK P T inl n mem ops fuel z (listed.setIfInBounds i true) ((s.res t true).set d (b.v x)) k)<|dK P T inl n mem ops fuel z (listed.setIfInBounds i true) ((s.res t true).set d .off) k)
         else(Dk (yJ want false) (Option.bind b.E λx=>dK P T inl n mem ops fuel z (listed.setIfInBounds i true) ((s.res t false).set d (b.v x)) k)<|dK P T inl n mem ops fuel z (listed.setIfInBounds i true) ((s.res t false).set d .off) k)
       |none=>match(Dk (mem) (XT n ops z listed s (i::is))<|none)with
       |some (i,d,t,j,p)=>getRoot (Dj s.it j) p λu=>Dk (Ru P t u) (dK P T inl n mem ops fuel z (listed.setIfInBounds i true) (s.set d u) k)<|none
       |none=>(λs=>Dk mem (mB ops ((i::is)++(i::is)) s λs=>(match CF P T n mem ops z listed s (i::is)with
      |some (i,d,v)=>dK P T inl n mem ops fuel z (listed.setIfInBounds i true) (s.set d v) k
      |none=>match KO P n ops z listed s (i::is)with
       |some (i,d, .on b)=>Option.bind b.E λx=>dK P T inl n mem ops fuel z (listed.setIfInBounds i true) (s.set d (b.v x)) k
       |some (i,d, .ask t want bv b)=>if bv=true then
         (Dk (yJ want true) (Option.bind b.E λx=>dK P T inl n mem ops fuel z (listed.setIfInBounds i true) ((s.res t true).set d (b.v x)) k)<|dK P T inl n mem ops fuel z (listed.setIfInBounds i true) ((s.res t true).set d .off) k)
         else(Dk (yJ want false) (Option.bind b.E λx=>dK P T inl n mem ops fuel z (listed.setIfInBounds i true) ((s.res t false).set d (b.v x)) k)<|dK P T inl n mem ops fuel z (listed.setIfInBounds i true) ((s.res t false).set d .off) k)
       |none=>match(Dk (mem) (XT n ops z listed s (i::is))<|none)with
       |some (i,d,t,j,p)=>getRoot (Dj s.it j) p λu=>Dk (Ru P t u) (dK P T inl n mem ops fuel z (listed.setIfInBounds i true) (s.set d u) k)<|none
       |none=>both (match ops[i]? with
        |some o=>Dk (mem&& !((z? T s o&&gOk ops s o)||(!tw z i&&aZ (tw z) (listed.setIfInBounds i true)))) (none)<|
         zE P T inl n ops o s λs'=>dK P T inl n mem ops fuel z (listed.setIfInBounds i true) s' k
        |none=>none) (is.map λi=>match ops[i]? with
        |some o=>Dk (mem&& !((z? T s o&&gOk ops s o)||(!tw z i&&aZ (tw z) (listed.setIfInBounds i true)))) (none)<|
         zE P T inl n ops o s λs'=>dK P T inl n mem ops fuel z (listed.setIfInBounds i true) s' k
        |none=>none)))<|both (match ops[i]? with
        |some o=>Dk (mem&& !((z? T s o&&gOk ops s o)||(!tw z i&&aZ (tw z) (listed.setIfInBounds i true)))) (none)<|
         zE P T inl n ops o s λs'=>dK P T inl n mem ops fuel z (listed.setIfInBounds i true) s' k
        |none=>none) (is.map λi=>match ops[i]? with
        |some o=>Dk (mem&& !((z? T s o&&gOk ops s o)||(!tw z i&&aZ (tw z) (listed.setIfInBounds i true)))) (none)<|
         zE P T inl n ops o s λs'=>dK P T inl n mem ops fuel z (listed.setIfInBounds i true) s' k
        |none=>none)) s)=some r->WD P n ops S (tw z) (fuel+1) listed (λσ' w'=>∃s' A' L',k s'=some r/\Rel Z s' σs A' L' σ' w') σ w:=by
    intro z S hS1 hS2 h;refine main z S s _ hr hS1 hS2 (λhF=>?_) h;clear h;cases hmem:mem with
    |false=>
     simp only[hmem,Dk]at hF;subst hmem;exact rest z S s hr hS1 hS2 hF
    |true=>
     simp only[hmem,Dk]at hF;subst hmem;obtain⟨s',hr',hit,h'⟩:=wJ hr hF;refine main z S s' _ hr' (by rw[hit];exact hS1) hS2 (λhG=>?_) h';exact rest z S s' hr' (by rw[hit];exact hS1) hS2 hG
   cases hz:(mem&&aZ (tw z0) listed)with
   |true=>
    rw[hz]at h;simp only[CT]at hz;obtain⟨hm,hov⟩:=hz;subst hm;exact WD.next (S':=T3 Z σs A L s.it w) _ hov (all _ _ (λ_ w' hw=>hw) (λe=>by cases e) h)
   |false=>
    rw[hz]at h;refine all _ _ (λhm=>?_) hI2 h;subst hm;rcases hI1 rfl with h1|h1
    ·rw[h1]at hz;cases hz
    ·exact h1
end Go.Rx
namespace Go.Rx
open Go Go.Lv
variable{p:PV}
variable {P:Program} {B B':Reg} {w w':World} {L L':List MD} {s:S} {σs:List Env} {σ:Env} {Z:Fix} {A A':Reg} {n:Nat} {ops:Array Oper}
variable {R:Type} {k:S->Option R} {r:R}
def Bcf(w:World)(A:Reg)(L:List Mob)(os:Nat->Option Nat):Prop:=
 (∀(i:Nat) (m:Mob),L[i]? =some m->m.holds (os i) w/\∀b,os i=some b-> ¬A b/\b<w.heap.size)/\∀i j b,i<L.length->j<L.length->i≠j->os i=some b->os j≠some b
theorem Ea.toI:∀{L:List Mob} {A:Reg},Ea w A L->∃os,Bcf w A L os
 |[],A,_=>⟨λ_=>none,λi m h=>by simp at h,λi j b h=>by simp at h⟩
 |m::L,A,⟨o,h1,h2,h3⟩=>by
  obtain⟨os,g1,g2⟩:=Ea.toI h3;refine⟨λi=>match i with|0=>o|i+1=>os i,λi m' h=>?_,λi j b hi hj hij h=>?_⟩
  ·cases i with
   |zero=>simp at h;subst h;exact⟨h1,h2⟩
   |succ i=>
    obtain⟨g3,g4⟩:=g1 i m' (by simpa using h);exact⟨g3,λb hb=>⟨λhA=>(g4 b hb).1 (.inl hA),(g4 b hb).2⟩⟩
  ·have key:∀q,q<L.length->∀b,os q=some b->o≠some b:=λq hq b hb ho=>by
    exact((g1 q L[q] (by simp[hq])).2 b hb).1 (.inr ho)
   cases i with
   |zero=>
    cases j with
    |zero=>exact absurd rfl hij
    |succ j=>intro hb;exact key j (by simpa using hj) b hb h
   |succ i=>
    cases j with
    |zero=>exact key i (by simpa using hi) b h
    |succ j=>exact g2 i j b (by simpa using hi) (by simpa using hj) F0 h
theorem Ea.ofI:∀{L:List Mob} {A:Reg} {os:Nat->Option Nat},Bcf w A L os->Ea w A L
 |[],_,_,_=>trivial
 |m::L,A,os,⟨g1,g2⟩=>by
  obtain⟨h1,h2⟩:=g1 0 m rfl;refine⟨os 0,h1,h2,Ea.ofI (os:=λi=>os (i+1)) ⟨λi m' h=>?_,λi j b hi hj hij h=>?_⟩⟩
  ·obtain⟨g3,g4⟩:=g1 (i+1) m' (by simpa using h);refine⟨g3,λb hb=>⟨λhA=>?_,(g4 b hb).2⟩⟩;rcases hA with hA|hA
   ·exact(g4 b hb).1 hA
   ·have hlt:i<L.length:=(List.getElem?_eq_some_iff.1 h).1;exact g2 0 (i+1) b B7 (by simpa using hlt) F0 hA hb
  ·exact g2 (i+1) (j+1) b (by simpa using hi) (by simpa using hj) F0 h
def distinct:List Nat->Bool|[]=>true|i::r=>!EH i r&&distinct r
theorem Abn:∀{l:List Nat} {i j q:Nat},distinct l=true->l[i]? =some q->l[j]? =some q->i=j
 |[],_,_,_,_,h,_=>by simp at h
 |a::l,i,j,q,hd,hi,hj=>by
  simp only[distinct,CT,IC]at hd;have hn:a∉l:=λh=>by have:=HH.2 h;rw[hd.1]at this;cases this
  cases i with
  |zero=>
   cases j with
   |zero=>rfl
   |succ j=>simp at hi hj;subst hi;exact absurd (RP hj) hn
  |succ i=>
   cases j with
   |zero=>simp at hi hj;subst hj;exact absurd (RP hi) hn
   |succ j=>exact congrArg (· +1) (Abn (q:=q) hd.2 (by simpa using hi) (by simpa using hj))
theorem Atg{w:World}:MD.dead.Ki.holds none w:=⟨none,0,0,rfl,B7,E1 _,λ_=>rfl,λ_=>rfl,λb h=>by cases h⟩
theorem getD_some{i:Nat}{md:MD}(h:L[i]? =some md):L.getD i .dead=md:=by simp[D9,h]
theorem getD_none{i:Nat}(h:L[i]? =none):L.getD i .dead= .dead:=by simp[D9,h]
def YZ(o:List Nat)(L:List MD)(os:Nat->Option Nat)(j:Nat):Option Nat:=match o[j]? with|some i=>(match L[i]? with|some _=>os i|none=>none)|none=>none
theorem yT{o:List Nat}{os:Nat->Option Nat}{i j:Nat}{md:MD}(h:o[j]? =some i)(hL:L[i]? =some md):YZ o L os j=os i:=by unfold YZ;rw[h];simp only[hL]
theorem C4{o:List Nat}{os:Nat->Option Nat}{i j:Nat}(h:o[j]? =some i)(hL:L[i]? =none):YZ o L os j=none:=by unfold YZ;rw[h];simp only[hL]
theorem xQ{o:List Nat}(h:Ea w A (L.map MD.Ki))(hd:distinct o=true):Ea w A ((o.map λi=>L.getD i .dead).map MD.Ki):=by
 obtain⟨os,g1,g2⟩:=Ea.toI h;refine Ea.ofI (os:=YZ o L os) ⟨λj m hm=>?_,λi j b hi hj hij hb=>?_⟩
 ·simp only[List.map_map,RY,X2,Function.comp]at hm;obtain⟨i,hi,rfl⟩:=hm;cases hL:L[i]? with
  |none=>rw[getD_none hL,C4 hi hL];exact⟨Atg,λb hb=>by cases hb⟩
  |some md=>rw[getD_some hL,yT hi hL];exact g1 i md.Ki (by simp[hL])
 ·simp only[kV]at hi hj;have e1:o[i]? =some o[i]:=by simp[hi]
  have e2:o[j]? =some o[j]:=by simp[hj]
  have hne:o[i]≠o[j]:=λe=>hij (Abn hd e1 (by rw[e2,e]));cases hL1:L[o[i]]? with
  |none=>rw[C4 e1 hL1]at hb;cases hb
  |some m1=>
   rw[yT e1 hL1]at hb;cases hL2:L[o[j]]? with
   |none=>rw[C4 e2 hL2];simp
   |some m2=>
    rw[yT e2 hL2];exact g2 _ _ b (by simpa using(List.getElem?_eq_some_iff.1 hL1).1) (by simpa using(List.getElem?_eq_some_iff.1 hL2).1) hne hb
theorem Aje{i:Nat}:∀{o:List Nat} {m j:Nat},posOf i o m=some j->∃q,j=m+q/\o[q]? =some i
 |[],_,_,h=>by simp[posOf]at h
 |a::o,m,j,h=>by
  simp only[posOf]at h;cases hb:Nat.beq i a with
  |true=>rw[hb]at h;cases h;exact⟨0,rfl,by simp[Di hb]⟩
  |false=>
   rw[hb]at h;obtain⟨q,h1,h2⟩:=Aje (o:=o) h;exact⟨q+1,F0,by simpa using h2⟩
theorem X3{o:List Nat}{i j:Nat}{md:MD}(h:posOf i o 0=some j)(hL:L[i]? =some md):(o.map λi=>L.getD i .dead)[j]? =some md:=by
 obtain⟨q,h1,h2⟩:=Aje h;rw[HL]at h1;subst h1;simp[h2,D9,hL]
theorem Anr{o:List Nat}:(B? o p).isA=p.isA:=by
 cases p<;>try rfl
 ·simp only[B?];split<;>rfl
 ·simp only[B?];split<;>rfl
 ·simp only[B?];split<;>rfl
abbrev wZ(L:List MD):Prop:=L.all (λm=>match m with| .own _ _ v _=>v.oneCell'|_=>true)=true
mutual
theorem H3{o:List Nat}(h1:wZ L):∀{p:PV} {cs:List Value},Bk B w L p cs->Bk B w (o.map λi=>L.getD i .dead) (B? o p) cs
 | .val _ x,cs,h=>h
 | .agg q,cs,h=>Ai9 h1 (show Bk.go B w L q cs from h)
 | .tup _,_,h=>h.elim
 | .nils,cs,h=>h
 | .own j,cs,⟨z,E,v,c,g1,g2⟩=>by
  simp only[B?];split
  ·rename_i j' hj;exact⟨z,E,v,c,X3 hj g1,g2⟩
  ·exact⟨v,g2,List.all_eq_true.1 h1 _ (RP g1)⟩
 | .ptr j q,cs,⟨md,b,g1,g2,g3⟩=>by
  simp only[B?];split
  ·rename_i j' hj;exact⟨md,b,X3 hj g1,g2,g3⟩
  ·exact⟨_,g3,rfl⟩
 | .view u j p e lo n,cs,⟨md,v,g1,g2,g3⟩=>by
  simp only[B?];split
  ·rename_i j' hj;exact⟨md,v,X3 hj g1,g2,g3⟩
  ·obtain⟨_,_,⟨pt,cap,e',_⟩,_⟩:=g3;exact⟨v,g2,by rw[e'];rfl⟩
 | .rptr v,cs,⟨pv,c0,g1,g2,g3⟩=>⟨pv,c0,g1,g2,H3 h1 g3⟩
 | .fn f caps,cs,⟨vs,g1,g2⟩=>⟨vs,g1,qL h1 g2⟩
 | .cap _ _ _,cs,h=>h
 | .bfn f fs,cs,⟨vs,g1,g2⟩=>⟨vs,g1,qL h1 g2⟩
 | .mp ks l,cs,⟨r,es,n,g1,g2,g3,g4,g5⟩=>⟨r,es,n,g1,g2,g3,g4,qL h1 g5⟩
 | .cst v,cs,h=>h
 | .any,cs,h=>h
 | .gd _ _ _,_,h=>h.elim
 | .off,_,h=>h.elim
 | .undef,_,h=>h.elim
theorem Ai9{o:List Nat}(h1:wZ L):∀{q:List PV} {cs:List Value},Bk.go B w L q cs->Bk.go B w (o.map λi=>L.getD i .dead) (B?.go o q) cs
 |[],cs,h=>h
 |a::q,cs,⟨c1,c2,e',g1,g2⟩=>⟨c1,c2,e',H3 h1 g1,Ai9 h1 g2⟩
theorem qL{o:List Nat}(h1:wZ L):∀{q:List PV} {vs:List Value},Gp B w L q vs->Gp B w (o.map λi=>L.getD i .dead) (B?.go o q) vs
 |[],vs,h=>h
 |a::q,vs,⟨v,vs',e',g1,g2⟩=>⟨v,vs',e',by rw[Anr];exact g1.mono λc h=>H3 h1 h,qL h1 g2⟩
end
theorem Ait{o:List Nat}(h1:wZ L){v:Value}(h:Gi B w L p v):Gi B w (o.map λi=>L.getD i .dead) (B? o p) v:=by
 cases hp:p.isP with
 |true=>
  have h2:Ln B w (o.map λi=>L.getD i .dead) (B? o p) v:=by
   unfold Ln;rw[Anr];exact asV.mono (λc h=>H3 h1 h) ((lV hp).1 h)
  exact(Mu h2).2
 |false=>
  cases p
  case tup q=>obtain⟨vs,g1,g2⟩:=h;exact⟨vs,g1,qL h1 g2⟩
  case undef=>exact(show False from h).elim
  case off=>exact(show False from h).elim
  case gd=>exact(show False from h).elim
  all_goals cases hp
theorem Aqh{o:List Nat}(h1:wZ L){t:Nat}(h:Kh B w L σ t p):Kh B w (o.map λi=>L.getD i .dead) σ t (B? o p):=by
 cases hv:p.isV with
 |true=>
  have g1:=Ait (o:=o) h1 ((Kh.iff hv).1 h);have g2:(B? o p).isV=true:=by
   cases p<;>first|rfl|cases hv|skip
   ·simp only[B?];split<;>rfl
   ·simp only[B?];split<;>rfl
   ·simp only[B?];split<;>rfl
  exact(Kh.iff g2).2 g1
 |false=>
  rcases BZ hv with rfl|rfl|⟨j,u,q,rfl⟩
  ·exact trivial
  ·exact h
  ·obtain⟨b,g1,g2,g3⟩:=h;exact⟨b,g1,λe=>Ait h1 (g2 e),g3⟩
theorem Axt{o:List Nat}(h1:wZ L){sl:Slots}(h:Ie B w L σ sl):Ie B w (o.map λi=>L.getD i .dead) σ (iY o sl):=by
 intro p hp;obtain⟨q,hq,rfl⟩:=List.mem_map.1 hp;exact Aqh h1 (h q hq)
theorem Bkw{o:List Nat}(h1:wZ L):∀{σs:List Env} {st:List Slots},lJ B w L σs st->lJ B w (o.map λi=>L.getD i .dead) σs (st.map (iY o))
 |[],[],h=>h
 |_::_,_::_,⟨g1,g2⟩=>⟨Axt h1 g1,Bkw h1 g2⟩
theorem xY{o:List Nat}(h1:wZ L){a:Item}{md:MD}(h:EJ B w L a md):EJ B w (o.map λi=>L.getD i .dead) (Bbw o a) md:=by
 cases a<;>cases md<;>first
  |exact h
  |exact⟨h.1,H3 h1 h.2⟩
theorem kK{sl:Slots}(h:Ie B w L σ sl):∀(lv:List Nat),Ie B w L σ (yD sl lv)
 |[]=>λp hp=>by simp[yD]at hp
 |t::lv=>by
  intro p hp;simp only[yD]at hp;split at hp
  ·exact kK h lv p hp
  ·exact kK h lv p hp
  ·exact kK h lv p hp
  ·rcases List.mem_cons.1 hp with rfl|hp
   ·exact Vu (s:=⟨sl,[],[]⟩) (t:=t) h
   ·exact kK h lv p hp
theorem Ble:∀{l:List Nat} {i:Nat},distinct l=true->EH i l=false->distinct (l++[i])=true
 |[],_,_,_=>rfl
 |a::l,i,hd,hi=>by
  simp only[distinct,CT,IC]at hd;simp only[EH,TM]at hi;simp only[MS,distinct,CT,IC];refine⟨?_,Ble hd.2 hi.2⟩;cases hx:EH a (l++[i])with
  |false=>rfl
  |true=>
   rcases List.mem_append.1 (HH.1 hx)with h|h
   ·have:=HH.2 h;rw[hd.1]at this;cases this
   ·simp at h;subst h;simp at hi
theorem ZH{it:List Item}:∀(q:Nat) (todo seen:List Nat),distinct seen=true->distinct (reach it q todo seen)=true
 |0,_,_,h=>h
 |_+1,[],_,h=>h
 |q+1,i::todo,seen,h=>by
  simp only[reach];cases he:EH i seen with
  |true=>exact ZH q _ _ h
  |false=>exact ZH q _ _ (Ble h he)
theorem Awx(hr:Rel Z s σs A L σ w)(lv:List Nat):∃L',Rel Z (s.canon lv) σs A L' σ w:=by
 have hm:=hr.mem;have h1:wZ L:=hr.wZ;unfold S.canon;simp only;generalize ho:reach s.it 200 (h_ (yD s.sl lv)++(s.st.map h_).flatten) []=o;have hd:distinct o=true:=by rw[<-ho];exact ZH _ _ _ rfl
 refine⟨o.map λi=>L.getD i .dead,?_⟩;have hst:St A w [Pp Z.R L s σs σ, .old Z.M Z.w0] ((o.map λi=>L.getD i .dead).map MD.Ki):=⟨St.lt hr,St.facts hr,xQ (St.mobs hr) hd⟩;refine Rel.as hst (i:=1) rfl ⟨⟨B7,λj a m g1 g2=>?_⟩,Axt h1 (kK hm.sl lv),Bkw h1 hm.stk⟩ rfl;simp only[RY,X2]at g1 g2;obtain⟨i,g3,rfl⟩:=g1;obtain⟨i',g4,rfl⟩:=g2;rw[g3]at g4;cases g4;cases hi:Dj s.it i with
 |dead=>exact trivial
 |box T v=>
  obtain⟨md,g5,g6⟩:=hm.item hi (by intro e;cases e);rw[getD_some g5];exact xY h1 g6
 |arr E e l=>
  obtain⟨md,g5,g6⟩:=hm.item hi (by intro e;cases e);rw[getD_some g5];exact xY h1 g6
theorem C_:∀{p:List Nat} {v u:PV} {cs:List Value},atV v p=some u->Bk B w L v cs-> (∃c,Bk B w L u c)/\∀(B':Reg) (w':World) (L':List MD) (m v':PV),(∀q c,Bk B w L q c->Bk B' w' L' q c)-> (∀c,Bk B w L u c->Bk B' w' L' m c)->m.isA=u.isA->SZ m v p=some v'->Bk B' w' L' v' cs/\v'.isA=v.isA
 |[],v,u,cs,h,hv=>by
  simp only[atV,D6]at h;subst h;refine⟨⟨cs,hv⟩,λB' w' L' m v' _ hm hA hp=>?_⟩;simp only[SZ,D6]at hp;subst hp;exact⟨hm _ hv,hA⟩
 |i::p,v,u,cs,h,hv=>by
  cases v<;>simp only[atV,reduceCtorEq]at h;rename_i l;split at h
  ·rename_i f hf;obtain⟨c1,c2,c3,e,h1,h2,h3⟩:=Bk.field (show Bk.go B w L l cs from hv) hf;obtain⟨g1,g2⟩:=C_ h h2;refine⟨g1,λB' w' L' m v' hq hm hA hp=>?_⟩;simp only[SZ,hf]at hp;split at hp
   ·rename_i f' hf';cases hp;obtain⟨g3,_⟩:=g2 B' w' L' m f' hq hm hA hf';refine⟨?_,rfl⟩;have hl:Bk.go B' w' L' l cs:=show Bk B' w' L' (.agg l) cs from hq _ _ hv;obtain⟨d1,d2,d3,e',k1,k2,k3⟩:=Bk.field hl hf;have:d2=c2:=by
     have l1:d1.length=c1.length:=k1.trans h1.symm;have l2:d2.length=c2.length:=k2.len.trans h2.len.symm;rw[e]at e';obtain⟨e1,e2⟩:=List.append_inj e' l1.symm;obtain⟨e3,_⟩:=List.append_inj e2 l2.symm;exact e3.symm
    rw[e'];exact k3 _ _ (by rw[this];exact g3)
   ·cases hp
  ·cases h
theorem Afy(hr:Rel Z s σs A L σ w)(E:TypeId)(e:ET):Rel Z (s.add (.arr E e [])) σs A (L++[.own e.size E (.slice none 0 0) []]) σ w:=
 Rel.push (a:= .arr E e []) (md:= .own e.size E (.slice none 0 0) []) (St.a! hr e.size E) ⟨rfl,rfl,rfl⟩
theorem Ada{i b:Nat}{T:TypeId}{v':PV}{cells:List Value}(hr:Rel Z s σs A L σ w)(hL:L[i]? =some (.box b cells T))(hv:Bk (λb=>A b/\Z.R b) w L v' cells):Rel Z (s.Xz i (.box T v')) σs A L σ w:=by
 have hm:=hr.mem;refine Rel.as hr (i:=1) rfl ⟨⟨by simp[S.Xz,vW,hm.it.1],λj a m h1 h2=>?_⟩,hm.sl,hm.stk⟩ rfl;simp only[S.Xz]at h1;rcases vT h1 with⟨rfl,rfl⟩|⟨_,h4⟩
 ·rw[hL]at h2;cases h2;exact⟨rfl,hv⟩
 ·exact hm.it.2 j a m h4 h2
theorem Agj{t:Nat}{m:PV}:∀{sl:Slots} {q:Nat} {v:PV},(q,v)∈S_ t m sl-> (q,v)∈sl\/ (q=t/\v=m)
 |[],_,_,h=>by simp[S_]at h
 |(q',v')::r,q,v,h=>by
  simp only[S_]at h;cases hb:Nat.beq q' t with
  |true=>
   rw[hb]at h;rcases List.mem_cons.1 h with h|h
   ·cases h;exact .inr ⟨Di hb,rfl⟩
   ·exact .inl (.tail _ h)
  |false=>
   rw[hb]at h;rcases List.mem_cons.1 h with h|h
   ·cases h;exact .inl (.head _)
   ·exact(Agj h).imp (.tail _) id
theorem E!{t:Nat}{m:PV}(hr:Rel Z s σs A L σ w)(hm:Kh (λb=>A b/\Z.R b) w L σ t m):Rel Z ⟨S_ t m s.sl,s.it,s.st⟩ σs A L σ w:=by
 refine hr.Y? rfl rfl ?_;rintro⟨q,v⟩ hp;rcases Agj hp with h|⟨rfl,rfl⟩
 ·exact hr.mem.sl _ h
 ·exact hm
theorem Ai0{e:ET}{c:List Value}(h:Bk B w L .nils c):Bk B w L (.val (.list e) []) c:=⟨_,[],show c=_ from h,Rd.nil,rfl⟩
theorem Ayz{a:At}{s':S}(hr:Rel Z s σs A L σ w)(h:sC s a=some s'):∃A' L',Rel Z s' σs A' L' σ w:=by
 have hm:=hr.mem;unfold sC at h;simp only at h;split at h
 ·
  rename_i i q hsl;split at h
  ·rename_i T v hi;split at h
   ·rename_i u hu;obtain⟨b,cells,hL,hv⟩:=hm.box hi;split at h
    ·rename_i E e _;split at h
     ·rename_i v' hv';cases h;obtain⟨_,g⟩:=C_ hu hv;have hr2:=Afy hr E e;have hL2:(L++[.own e.size E (.slice none 0 0) []])[i]? =some (.box b cells T):=by rw[HQ (List.getElem?_eq_some_iff.1 hL).1];exact hL
      obtain⟨g1,_⟩:=g (λb=>A b/\Z.R b) w (L++[.own e.size E (.slice none 0 0) []]) (.own s.new) v' (λq c h=>Bk.step (λ_ h=>h) (λ_ _=>rfl) (pI.append _ _) h)
       (λc hc=>⟨e.size,E,_,[],by rw[S.new,hr.len];simp,hc⟩) rfl hv'
      exact⟨_,_,Ada hr2 hL2 g1⟩
     ·cases h
    ·cases h;exact⟨A,L,hr⟩
    ·rename_i e _;split at h
     ·rename_i v' hv';cases h;obtain⟨_,g⟩:=C_ hu hv;obtain⟨g1,_⟩:=g (λb=>A b/\Z.R b) w L (.val (.list e) []) v' (λq c h=>h) (λc hc=>Ai0 hc) rfl hv';exact⟨_,_,Ada hr hL g1⟩
     ·cases h
    ·obtain⟨A',h1,_⟩:=yZ hr h;exact⟨A',_,h1⟩
    ·cases h;exact⟨A,L,hr⟩
    ·cases h
   ·cases h
  ·cases h
 split at h
 ·
  rename_i o i p e1 lo n hsl;split at h
  ·rename_i E e _ _;obtain⟨hb,h⟩:=Be h;split at h
   ·rename_i s1 j h1;cases h;have hx:Fh s.sl (.tmp a.t)= .view o i p e1 lo n:=by simp only[Fh,hsl]
    obtain⟨L1,hr1,c0,hL⟩:=Aij (x:= .tmp a.t) hr (by simpa [Nat.blt_eq]using hb) (by rw[hx];rfl) (by rw[hx];exact h1);exact⟨_,_,E! hr1 ⟨_,_,_,_,hL,rfl⟩⟩
   ·cases h
  ·cases h
 ·
  split at h
  ·rename_i u hu;have hsl:=Vu (t:=a.t) hm.sl;have Bct:∀(B':Reg) (L':List MD) (m v':PV),(∀q c,Bk (λb=>A b/\Z.R b) w L q c->Bk B' w L' q c)-> (∀c,Bk (λb=>A b/\Z.R b) w L u c->Bk B' w L' m c)->m.isA=u.isA->u= .nils->SZ m (IJ s.sl a.t) a.p=some v'->Kh B' w L' σ a.t v':=by
    intro B' L' m v' hq hmu hA hun hp;have hP:(IJ s.sl a.t).isP=true:=by
     revert hu
     generalize IJ s.sl a.t=x;generalize a.p=pp;intro hu;cases pp with
     |nil=>simp only[atV,D6]at hu;rw[hu,hun];rfl
     |cons _ _=>cases x<;>first|rfl|simp[atV]at hu
    have hE:Ln (λb=>A b/\Z.R b) w L (IJ s.sl a.t) (σ a.t):=(lV hP).1 ((Kh.iff (PV.UK hP)).1 hsl);have key:Ln B' w L' v' (σ a.t):=by
     unfold Ln asV at hE;split at hE
     ·rename_i hA';obtain⟨cs,e1,hc⟩:=hE;obtain⟨_,g⟩:=C_ hu hc;obtain⟨g1,g2⟩:=g B' w L' m v' hq hmu hA hp;unfold Ln;rw[g2,hA'];exact⟨cs,e1,g1⟩
     ·rename_i hA';obtain⟨_,g⟩:=C_ hu hE;obtain⟨g1,g2⟩:=g B' w L' m v' hq hmu hA hp;unfold Ln;rw[g2,hA'];exact g1
    obtain⟨k1,k2⟩:=Mu key;exact(Kh.iff k1).2 k2
   split at h
   ·rename_i E e _;split at h
    ·rename_i v' hv';cases h;have hr2:=Afy hr E e;exact⟨_,_,E! (s:=s.add (.arr E e [])) hr2 (Bct _ _ (.own s.new) v' (λq c h=>Bk.step (λ_ h=>h) (λ_ _=>rfl) (pI.append _ _) h) (λc hc=>⟨e.size,E,_,[],by rw[S.new,hr.len];simp,hc⟩) rfl rfl hv')⟩
    ·cases h
   ·cases h;exact⟨A,L,hr⟩
   ·rename_i e _;split at h
    ·rename_i v' hv';cases h;exact⟨_,_,E! hr (Bct _ _ (.val (.list e) []) v' (λq c h=>h) (λc hc=>Ai0 hc) rfl rfl hv')⟩
    ·cases h
   ·obtain⟨A',h1,_⟩:=yZ hr h;exact⟨A',_,h1⟩
   ·cases h;exact⟨A,L,hr⟩
   ·cases h
  ·cases h
theorem An6:∀{l:List At} {s s':S} {A:Reg} {L:List MD},Rel Z s σs A L σ w->Z4 s l=some s'->∃A' L',Rel Z s' σs A' L' σ w
 |[],s,s',A,L,hr,h=>by simp only[Z4,D6]at h;subst h;exact⟨A,L,hr⟩
 |a::l,s,s',A,L,hr,h=>by
  simp only[Z4]at h;split at h
  ·rename_i s1 h1;obtain⟨A1,L1,hr1⟩:=Ayz hr h1;exact An6 hr1 h
  ·cases h
theorem Z7{lv:List Nat}{co:List At}{s':S}(hr:Rel Z s σs A L σ w)(h:s.cn lv co=some s'):∃A' L',Rel Z s' σs A' L' σ w:=by
 unfold S.cn at h;split at h
 ·rename_i s1 h1;cases h;obtain⟨A1,L1,hr1⟩:=An6 hr h1;obtain⟨L',hr2⟩:=Awx hr1 lv;exact⟨A1,L',hr2⟩
 ·cases h
end Go.Rx
namespace Go.Rx
open Go Go.Lv
variable {P:Program} {B B':Reg} {w w':World} {L L':List MD} {s:S} {σs:List Env} {σ:Env} {Z:Fix} {A A':Reg} {n:Nat} {ops:Array Oper}
variable {R:Type} {r:R} {T:Tab} {inl:P1 R}
def kof(k:K R):Exit->S->Option R
 | .normal=>k.n| .exit id=>k.x id| .ret=>k.r|_=>λ_=>none
def QK(Z:Fix)(σs:List Env)(k:K R)(r:R)(e:Exit)(σ':Env)(w':World):Prop:=∃s' A' L',kof k e s'=some r/\Rel Z s' σs A' L' σ' w'
theorem Ano(an:An){gl:List (Nat×List Value)}(hI:HI P gl inl):HI P gl (OD an inl):=by
 unfold OD;split
 ·intro Z hZ f as s k r σs A L σ w vs h hr ha;exact hI Z hZ f as _ k r σs A L σ w vs h (hr.Y? rfl rfl (kK hr.mem.sl _)) ha
 ·exact hI
theorem jg(cX:P.follows .mixedOrders=true)(hT:pL P T Z)(hI:HI P T.gl inl):∀(c:Code) {an:An} {k:K R} {s:S} {A:Reg} {L:List MD} {σ:Env} {w:World},ex P T inl n c an k s=some r->Rel Z s σs A L σ w->W P n c (QK Z σs k r) σ w:=by
 intro c
 induction c with
 |skip=>intro an k s A L σ w h hr;exact W.skip ⟨s,A,L,h,hr⟩
 |ret=>intro an k s A L σ w h hr;exact W.ret ⟨s,A,L,h,hr⟩
 |exit id=>intro an k s A L σ w h hr;exact W.exit ⟨s,A,L,h,hr⟩
 |seq a b iha ihb=>
  intro an k s A L σ w h hr;refine W.seq (W.mono (iha (an:=an.l) (k:={k with n:=K? an λs'=>ex P T inl n b an.r k s'}) h hr) ?_);rintro e σ' w' ⟨s',A',L',h1,hr'⟩;cases e with
  |normal=>
   have h2:K? an (λs'=>ex P T inl n b an.r k s') s'=some r:=h1;unfold K? at h2;split at h2
   ·split at h2
    ·rename_i s2 hs2;obtain⟨A2,L2,hr2⟩:=Z7 hr' hs2;exact ihb h2 hr2
    ·cases h2
   ·exact ihb h2 hr'
  |exit id=>exact⟨s',A',L',h1,hr'⟩
  |ret=>exact⟨s',A',L',h1,hr'⟩
  |goto l=>exact⟨s',A',L',h1,hr'⟩
  |panic c=>exact⟨s',A',L',h1,hr'⟩
  |outgrown=>exact⟨s',A',L',h1,hr'⟩
 |cond c a b iha ihb=>
  intro an k s A L σ w h hr;simp only[ex]at h;split at h
  ·rename_i t hc;refine W.cond (L9 hr.mem.sl hc) (λht=>?_) (λht=>?_)
   ·subst ht;exact iha (by simpa using h) hr
   ·subst ht;exact ihb (by simpa using h) hr
  ·cases h
 |block id a iha=>
  intro an k s A L σ w h hr;refine W.block (W.mono (iha (an:=an.l) (k:={k with x:=λid' s'=>Dk (Nat.beq id' id) (k.n s')<|k.x id' s'}) h hr) ?_);rintro e σ' w' ⟨s',A',L',h1,hr'⟩;cases e with
  |exit id'=>
   have h2:(Dk (Nat.beq id' id) (k.n s')<|k.x id' s')=some r:=h1;simp only[oV];by_cases hid:id'=id
   ·rw[B0 hid];subst hid;simp at h2;exact⟨s',A',L',h2,hr'⟩
   ·rw[B! hid];have hb:Nat.beq id' id=false:=by
     cases hb:Nat.beq id' id with
     |false=>rfl
     |true=>exact absurd (Di hb) hid
    rw[hb]at h2;exact⟨s',A',L',h2,hr'⟩
  |normal=>exact⟨s',A',L',h1,hr'⟩
  |ret=>exact⟨s',A',L',h1,hr'⟩
  |goto l=>exact⟨s',A',L',h1,hr'⟩
  |panic c=>exact⟨s',A',L',h1,hr'⟩
  |outgrown=>exact⟨s',A',L',h1,hr'⟩
 |loop a iha=>
  intro an k s A L σ w h hr;have head:∀(q:Nat) (s:S) (A:Reg) (L:List MD) (σ:Env) (w:World),eE an (iter an (λkn s'=>ex P T inl n a an.l {k with n:=kn} s') q) s=some r->Rel Z s σs A L σ w->
    ∃s' A' L',iter an (λkn s'=>ex P T inl n a an.l {k with n:=kn} s') q s'=some r/\Rel Z s' σs A' L' σ w:=by
   intro q s A L σ w h hr;unfold eE at h;split at h
   ·split at h
    ·rename_i s2 hs2;obtain⟨A2,L2,hr2⟩:=Z7 hr hs2;exact⟨s2,A2,L2,h,hr2⟩
    ·cases h
   ·cases h
  refine W.loop (λq σ w=>∃s A L,iter an (λkn s'=>ex P T inl n a an.l {k with n:=kn} s') q s=some r/\Rel Z s σs A L σ w) Dt (head _ _ _ _ _ _ h hr) ?_;rintro q σ w ⟨s,A,L,h,hr⟩;cases q with
  |zero=>cases h
  |succ q=>
   refine W.mono (iha (k:={k with n:=eE an (iter an (λkn s'=>ex P T inl n a an.l {k with n:=kn} s') q)}) h hr) ?_;rintro e σ' w' ⟨s',A',L',h1,hr'⟩;cases e with
   |normal=>exact⟨q,Nat.lt_succ_self _,head q s' A' L' σ' w' h1 hr'⟩
   |exit id=>exact⟨s',A',L',h1,hr'⟩
   |ret=>exact⟨s',A',L',h1,hr'⟩
   |goto l=>exact⟨s',A',L',h1,hr'⟩
   |panic c=>exact⟨s',A',L',h1,hr'⟩
   |outgrown=>exact⟨s',A',L',h1,hr'⟩
 |region id ops draw=>
  intro an k s A L σ w h hr;cases draw with
  |false=>
   obtain⟨hd,h⟩:=Be (show(Dk (yE ops.toList) (G1 P T (OD an inl) n ops ops.toList s k.n)<|none)=some r from h);have h1:=Agn (ops:=ops) hT (Ano an hI) hr (show G1 P T (OD an inl) n ops ops.toList s k.n=some r from h);have hops:ops=ops.toList.toArray:=by simp
   rw[hops];exact W.region hd (by rw[<-hops];exact h1)
  |true=>
   obtain⟨hd,h⟩:=Be (show(Dk (yE ops.toList) (dK P T (OD an inl) n (S4 an) ops ops.size (Dk (S4 an) (#[])<|Array.replicate ops.size true) (Array.replicate ops.size false) s k.n)<|none)=some r from h);refine W.Az8 hd cX (λ_=>True) (tw (Dk (S4 an) (#[])<|Array.replicate ops.size true)) (λw' hw hg=>?_);have hr':Rel Z s σs A L σ w':=St.Avj hr hw hg;refine Bdi hT (Ano an hI) hr' h (λhm=> .inl ?_) (λ_ _ _=>trivial);rw[hm];simp[aZ,tw]
 |rangeFunc=>intro an k s A L σ w h hr;cases h
 |scope=>intro an k s A L σ w h hr;cases h
 |label=>intro an k s A L σ w h hr;cases h
 |goto=>intro an k s A L σ w h hr;cases h
 |refuse=>intro an k s A L σ w h hr;cases h
theorem Aqr(hr:Rel Z s σs A L σ w){v:ResultVar}{p:PV}(h:qN P s v=some p):∃u,fC P σ w v u/\Ln (λb=>A b/\Z.R b) w L p u:=by
 have hm:=hr.mem;cases v with
 |tmp t=>
  obtain⟨hp,h⟩:=Be h;cases h;exact⟨σ t,rfl,YT hm.sl hp⟩
 |cell a t=>
  simp only[qN]at h;split at h
  ·rename_i i p' hsl;split at h
   ·rename_i T v0 hi;split at h
    ·rename_i u hu;obtain⟨hk,h⟩:=Be h;cases h;have hs1:=Vu (t:=a) hm.sl;rw[hsl]at hs1;obtain⟨md,b,h1,h2,h3⟩:=ED hs1;obtain⟨b',cells,h4,h5⟩:=hm.box hi;rw[h4]at h1;cases h1;cases h2;obtain⟨c1,c2,c3,e,h6,h7⟩:=oA hu h5;have hok:=Vp hk;obtain⟨d,hd,ha⟩:=hok.agg;have hlen:=h7.len;cases hA:p.isA with
     |true=>
      refine⟨.agg c2.toArray,fC.cells hr (hr.Ki h4) ⟨d,hd,ha.trans hA⟩ hok.size h3 ?_ hlen,by unfold Ln;rw[hA];exact⟨c2,rfl,h7⟩⟩;rw[e,<-h6,<-hlen];exact Aog rfl
     |false=>
      rw[hok.one hA]at hlen
      match c2,hlen with
      |[u],_=>exact⟨u,fC.cell hr (hr.Ki h4) ⟨d,hd,ha.trans hA⟩ h3 (by rw[e,<-h6];simp),by unfold Ln;rw[hA];exact h7⟩
    ·cases h
   ·cases h
  ·cases h
theorem R9(hr:Rel Z s σs A L σ w):∀{vs:List ResultVar} {ps:List PV},X6 P s vs=some ps->∃us,uY P σ w vs us/\Gp (λb=>A b/\Z.R b) w L ps us
 |[],ps,h=>by simp only[X6,D6]at h;subst h;exact⟨[],trivial,rfl⟩
 |v::vs,ps,h=>by
  simp only[X6]at h;split at h
  ·rename_i p ps' hp hps;cases h;obtain⟨u,h1,h2⟩:=Aqr hr hp;obtain⟨us,h3,h4⟩:=R9 hr hps;exact⟨u::us,⟨h1,h3⟩,u,us,rfl,h2,h4⟩
  ·cases h
theorem qT:∀{as:List PV} {vs:List Value} {m:Nat} {f:Nat->Value},Gp B w L as vs-> (∀i v,vs[i]? =some v->f (m+i)=v)->∀p∈EB m as,Kh B w L f p.1 p.2
 |[],vs,m,f,_,_,p,hp=>by simp[EB]at hp
 |a::as,vs,m,f,⟨v,vs',e,h1,h2⟩,hf,p,hp=>by
  subst e;simp only[EB]at hp;rcases List.mem_cons.1 hp with rfl|hp
  ·obtain⟨k1,k2⟩:=Mu (show Ln B w L a v from h1);refine(Kh.iff k1).2 ?_;have:=hf 0 v rfl;rw[J6]at this;rw[this];exact k2
  ·exact qT h2 (λi v hi=>by have:=hf (i+1) v (by simpa using hi);rw[<-this];congr 1;omega) p hp
theorem yM{vs:List Value}{i:Nat}{v:Value}(h:vs[i]? =some v):xI vs i=v:=by simp[xI,D9,h]
theorem Gp.length:∀{as:List PV} {vs:List Value},Gp B w L as vs->vs.length=as.length
 |[],vs,h=>by rw[show vs=[]from h];rfl
 |a::as,vs,⟨v,vs',e,h1,h2⟩=>by rw[e,G2,Gp.length h2];rfl
theorem Acl{f:Nat}{an:An}:∀{ans:List (Nat×An)},OZ.l? ans f=some an->∃a,(f,a)∈ans
 |[],h=>by simp[OZ.l?]at h
 |(g,a)::ans,h=>by
  simp only[OZ.l?]at h;cases hb:Nat.beq g f with
  |true=>have:=Di hb;subst this;exact⟨a, .head _⟩
  |false=>rw[hb]at h;obtain⟨a',h1⟩:=Acl h;exact⟨a', .tail _ h1⟩
theorem H2(cX:P.follows .mixedOrders=true)(hT:NK P T){ans:List (Nat×An)}(hA:∀p∈ans,Ent P p.1):∀(q:Nat),HI (R:=R) P T.gl (OZ P T q ans)
 |0=>λZ hZ f as s k r σs A L σ w vs h hr ha=>by cases h
 |q+1=>λZ hZ f as s k r σs A L σ w vs h hr ha=>by
  have hI:=H2 cX hT hA q;unfold OZ at h;split at h
  ·rename_i an fn han hfn;obtain⟨a,hmem⟩:=Acl han;split at h
   ·cases h
   ·rename_i c hc;obtain⟨hle,h⟩:=Be h;refine⟨hA _ hmem,?_⟩;have hr1:Rel Z ⟨EB 0 as,s.it,s.sl::s.st⟩ (σ::σs) A L (xI vs) w:=
     Rel.as hr (i:=1) rfl ⟨hr.mem.it,qT ha (λi v hi=>by rw[HL];exact yM hi),hr.mem.sl,hr.mem.stk⟩ rfl
    refine Ba6 (rs:=fn.results.toList) hfn hc rfl B7 (by rw[ha.length];exact hle) (W.mono (jg cX ⟨hT,hZ⟩ hI c h hr1) ?_);rintro e σ' w' ⟨s',A',L',h1,hr'⟩;have fin:OZ.WM P fn.results.toList k s'=some r->∃us,uY P σ' w' fn.results.toList us/\∃v p s'' A'' L'',Ending.returned (XL us)= .returned v/\k s'' p=some r/\Rel Z s'' σs A'' L'' σ w'/\p.isV=true/\Gi (λb=>A'' b/\Z.R b) w' L'' p v:=by
     intro h1;unfold OZ.WM at h1;split at h1
     ·rename_i ps sl st hps hst;obtain⟨us,h2,h3⟩:=R9 hr' hps;obtain⟨h4,h5⟩:=Aim h3;have SU:=hr'.mem.stk;rw[hst]at SU;exact⟨us,h2,_,_,_,A',L',rfl,h1,Rel.as hr' (i:=1) rfl ⟨hr'.mem.it,SU.1,SU.2⟩ rfl,h4,h5⟩
     ·cases h1
    cases e with
    |normal=>exact⟨.inr rfl,fin h1⟩
    |ret=>exact⟨.inl rfl,fin h1⟩
    |exit id=>cases h1
    |goto l=>cases h1
    |panic c=>cases h1
    |outgrown=>cases h1
  ·cases h
end Go.Rx
namespace Go.Rx
open Go Go.Lv
variable{e:ET}{fn:Func}{o:Option TypeId}
variable {P:Program} {B B':Reg} {w w':World} {L L':List MD} {s:S} {σs:List Env} {σ:Env} {Z:Fix} {A A':Reg} {n:Nat} {ops:Array Oper}
variable {R:Type} {r:R} {T:Tab} {inl:P1 R}
abbrev LS:=List (ET×Option TypeId)
def Kg:LS->List PV->Nat->List Nat
 |p::r,v::vs,c=>match p.2 with
  |none=>Kg r vs c
  |some _=>(match v with| .own i=>i|_=>c)::Kg r vs (c+1)
 |_,_,_=>[]
def gO:LS->List MD
 |p::r=>match p.2 with
  |none=>gO r
  |some E=>(match p.1 with| .list a=> .own a.size E (.slice none 0 0) []|_=> .dead)::gO r
 |[]=>[]
theorem Au2(h:Ea w A (L.map MD.Ki)):∀(ls:LS),Ea w A ((L++gO ls).map MD.Ki):=by
 have one:∀(m:MD) (ms:List MD),m.Ki.holds none w->Ea w A ((L++ms).map MD.Ki)->Ea w A ((L++m::ms).map MD.Ki):=by
  intro m ms hm h;have:Ea w A (m.Ki::(L++ms).map MD.Ki):=⟨none,hm,λb hb=>(by cases hb),h.DG λb hb=>hb.elim id (λh=>by cases h)⟩;refine this.perm ?_;rw[NV,NV,J8];exact(List.perm_middle).symm
 intro ls
 induction ls with
 |nil=>simpa [gO]using h
 |cons p ls ih=>
  obtain⟨e,o⟩:=p;cases o with
  |none=>exact ih
  |some E=>cases e<;>exact one _ _ (by first|exact Atg|exact⟨none,0,0,rfl,B7,E1 _,λ_=>rfl,λ_=>rfl,λb h=>by cases h⟩) ih
theorem wK:∀{ls:LS} {vs:List PV} {seen:List Nat} {c:Nat},iS s ls vs seen=true->s.it.length<=c->distinct (Kg ls vs c)=true/\∀i∈Kg ls vs c,(i<s.it.length/\i∉seen)\/c<=i
 |[],[],_,_,_,_=>⟨rfl,by simp[Kg]⟩
 |[],_::_,_,_,h,_=>by simp[iS]at h
 |_::_,[],_,_,h,_=>by simp[iS]at h
 |(e,none)::ls,v::vs,seen,c,h,hc=>by
  simp only[iS,CT]at h;exact wK (ls:=ls) (vs:=vs) (seen:=seen) (c:=c) h.2 hc
 |(e,some E)::ls,v::vs,seen,c,h,hc=>by
  simp only[iS]at h;split at h
  ·obtain⟨h1,h2⟩:=wK h (c:=c+1) F0;refine⟨?_,λi hi=>?_⟩
   ·simp only[Kg,distinct,CT,IC];refine⟨?_,h1⟩;cases hx:EH c (Kg ls vs (c+1))with
    |false=>rfl
    |true=>rcases h2 c (HH.1 hx)with⟨h3,_⟩|h3<;>omega
   ·simp only[Kg,Xn]at hi;rcases hi with rfl|hi
    ·exact .inr (E1 _)
    ·rcases h2 i hi with h3|h3
     ·exact .inl h3
     ·exact .inr F0
  ·rename_i a i;simp only[CT,IC]at h;obtain⟨⟨h0,hit⟩,h⟩:=h;have hlt:i<s.it.length:=by
    split at hit
    ·rename_i E' a' l hi;exact(List.getElem?_eq_some_iff.1 (C0 hi (by intro e;cases e))).1
    ·cases hit
   obtain⟨h1,h2⟩:=wK h (c:=c+1) F0;refine⟨?_,λj hj=>?_⟩
   ·simp only[Kg,distinct,CT,IC];refine⟨?_,h1⟩;cases hx:EH i (Kg ls vs (c+1))with
    |false=>rfl
    |true=>
     rcases h2 i (HH.1 hx)with⟨_,h3⟩|h3
     ·exact absurd (K3) h3
     ·omega
   ·simp only[Kg,Xn]at hj;rcases hj with rfl|hj
    ·exact .inl ⟨hlt,λhm=>by have:=HH.2 hm;rw[h0]at this;cases this⟩
    ·rcases h2 j hj with⟨h3,h4⟩|h3
     ·exact .inl ⟨h3,λhm=>h4 (I4 _ hm)⟩
     ·exact .inr F0
  ·cases h
theorem Aye{q:PV}{x:e.T}(hr:Rel Z s σs A L σ w)(h:uW s e q=some x)(ho:owns q=[])(hb:e.R? =true->∀b,A b/\Z.R b->B' b){L':List MD}:oQ (λb=>A b/\Z.R b) w L B' w L' q (.val e x):=by
 obtain⟨h1,h2⟩:=Ah7 (L':=L') hr h (B':=λb=>A b/\Z.R b) (λ_ h=>h) (λi hi=>by rw[ho]at hi;cases hi);refine⟨h1,λcs hcs=>?_⟩;have h3:Az (λb=>A b/\Z.R b) w e x cs:=h2 cs hcs;cases hl:e.R? with
 |true=>exact Az.step (hb hl) (λ_ _=>rfl) h3
 |false=>exact Az.noL hl h3
theorem Ayn{l:List e.T}{cs:List Value}(hb:e.R? =true->∀b,B b->B' b)(h:Cm (Az B w e) l cs):Cm (Az B' w e) l cs:=by
 cases hl:e.R? with
 |true=>exact h.mono λx c hx=>Az.step (hb hl) (λ_ _=>rfl) hx
 |false=>exact h.mono λx c hx=>Az.noL hl hx
theorem Acx(hr:Rel Z s σs A L σ w){LP:List MD}(hP:∀(i:Nat) (m:MD),L[i]? =some m->LP[i]? =some m):∀(ls:LS) (vs:List PV) (y:KP ls) (seen:List Nat) (c:Nat) (s0:S) (Lx LF:List MD),
  iS s ls vs seen=true->ZU s ls vs=some y-> (∀p∈ls,qg p=true->∀b,A b/\Z.R b->B' b)-> (∀i m,(gO ls)[i]? =some m->LP[c+i]? =some m)->Lx.length=s0.it.length->LF=Lx++(Kg ls vs c).map (λi=>LP.getD i .dead)->
  ∃its,(Hg ls y s0).2=⟨s0.sl,s0.it++its,s0.st⟩/\its.length=(Kg ls vs c).length/\All2 (oQ (λb=>A b/\Z.R b) w L B' w LF) vs (Hg ls y s0).1/\
   ∀(i:Nat) (a:Item) (m:MD),its[i]? =some a-> ((Kg ls vs c).map (λi=>LP.getD i .dead))[i]? =some m->EJ B' w LF a m
 |[],vs,y,seen,c,s0,Lx,LF,ho,hp,_,_,_,_=>by
  rw[Ah2 hp];refine⟨[],?_,rfl,All2.nil,λi a m h=>by simp at h⟩;rw[Bm1];simp
 |p::ls,vs,y,seen,c,s0,Lx,LF,ho,hp,hb,hn,hlen,hLF=>by
  have main:∀(v:PV) (vs':List PV) (x:p.1.T) (rest:S->List PV×S),vs=v::vs'->uW s p.1 v=some x->
    (Hg (p::ls) y s0=((Ha p.1 p.2 x s0).1::(rest (Ha p.1 p.2 x s0).2).1,(rest (Ha p.1 p.2 x s0).2).2))->
    (∀(seen:List Nat) (c:Nat) (s1:S) (Lx:List MD),iS s ls vs' seen=true-> (∀i m,(gO ls)[i]? =some m->LP[c+i]? =some m)->Lx.length=s1.it.length->LF=Lx++(Kg ls vs' c).map (λi=>LP.getD i .dead)->
     ∃its,(rest s1).2=⟨s1.sl,s1.it++its,s1.st⟩/\its.length=(Kg ls vs' c).length/\All2 (oQ (λb=>A b/\Z.R b) w L B' w LF) vs' (rest s1).1/\
      ∀(i:Nat) (a:Item) (m:MD),its[i]? =some a-> ((Kg ls vs' c).map (λi=>LP.getD i .dead))[i]? =some m->EJ B' w LF a m)->
    ∃its,(Hg (p::ls) y s0).2=⟨s0.sl,s0.it++its,s0.st⟩/\its.length=(Kg (p::ls) vs c).length/\All2 (oQ (λb=>A b/\Z.R b) w L B' w LF) vs (Hg (p::ls) y s0).1/\
     ∀(i:Nat) (a:Item) (m:MD),its[i]? =some a-> ((Kg (p::ls) vs c).map (λi=>LP.getD i .dead))[i]? =some m->EJ B' w LF a m:=by
   intro v vs' x rest hvs hx hu hrest;subst hvs;rw[hu];have hbp:=hb p (.head _);obtain⟨e,o⟩:=p;cases o with
   |none=>
    simp only[iS,CT]at ho;have e1:Ha e none x s0=(.val e x,s0):=An9;simp only[e1];obtain⟨its,h1,h2,h3,h4⟩:=hrest seen c s0 Lx ho.2 hn hlen hLF;refine⟨its,h1,h2, .cons (Aye hr hx (isEmpty_nil ho.1) (λhl=>hbp ?_)) h3,h4⟩;cases e<;>first|exact hl|cases hl
   |some E=>
    simp only[iS]at ho;split at ho
    ·
     rename_i a;have hx':x=[]:=by
      have:elems s a .nils=some x:=hx;simpa [elems]using this.symm
     subst hx';have hc:LP[c]? =some (.own a.size E (.slice none 0 0) []):=hn 0 _ rfl;have e1:Ha (.list a) (some E) [] s0=(.own s0.new,s0.add (.arr E a [])):=rfl;simp only[e1];obtain⟨its,h1,h2,h3,h4⟩:=hrest seen (c+1) (s0.add (.arr E a [])) (Lx++[.own a.size E (.slice none 0 0) []]) ho (λi m hi=>by rw[I!,N! 1 i];exact hn (i+1) m (by simpa [gO]using hi))
      (by simp[S.add,hlen]) (by rw[hLF];simp[Kg,D9,hc])
     refine⟨.arr E a []::its,by rw[h1];simp[S.add],by simp[Kg,h2], .cons ⟨rfl,λcs hcs=>?_⟩ h3,λi b m hi hm=>?_⟩
     ·refine⟨a.size,E, .slice none 0 0,[],?_,hcs⟩;rw[hLF,S.new,<-hlen];simp[Kg,D9,hc]
     ·cases i with
      |zero=>
       simp[Kg,D9,hc]at hi hm;subst hi hm;exact⟨rfl,rfl,rfl⟩
      |succ i=>exact h4 i b m (by simpa using hi) (by simpa [Kg]using hm)
    ·
     rename_i a i;simp only[CT,IC]at ho;obtain⟨⟨h0,hit⟩,ho⟩:=ho;split at hit
     ·rename_i E' a' l hi;simp only[CT,D!]at hit;obtain⟨hE,rfl⟩:=hit;have:=Di hE;subst this;obtain⟨u,cs0,g1,g2⟩:=hr.mem.arr hi;have hx':x=l:=by
       have:elems s a' (.own i)=some x:=hx;simp[elems,hi]at this;exact this.symm
      subst hx';have hc:LP[i]? =some (.own a'.size E' u cs0):=hP i _ g1;have e1:Ha (.list a') (some E') x s0=(.own s0.new,s0.add (.arr E' a' x)):=rfl;simp only[e1];obtain⟨its,h1,h2,h3,h4⟩:=hrest (i::seen) (c+1) (s0.add (.arr E' a' x)) (Lx++[.own a'.size E' u cs0]) ho (λi m hi=>by rw[I!,N! 1 i];exact hn (i+1) m (by simpa [gO]using hi))
       (by simp[S.add,hlen]) (by rw[hLF];simp[Kg,D9,hc])
      refine⟨.arr E' a' x::its,by rw[h1];simp[S.add],by simp[Kg,h2], .cons ⟨rfl,λcs hcs=>?_⟩ h3,λq b m hq hm=>?_⟩
      ·obtain⟨z,E2,v2,c2,k1,k2⟩:=hcs;rw[g1]at k1;cases k1;refine⟨a'.size,E',u,cs0,?_,k2⟩;rw[hLF,S.new,<-hlen];simp[Kg,D9,hc]
      ·cases q with
       |zero=>
        simp[Kg,D9,hc]at hq hm;subst hq hm;exact⟨rfl,rfl,Ayn hbp g2⟩
       |succ q=>exact h4 q b m (by simpa using hq) (by simpa [Kg]using hm)
     ·cases hit
    ·cases ho
  cases ls with
  |nil=>
   obtain⟨v,rfl,hx⟩:=Agz hp;exact main v [] y (λs1=>([],s1)) rfl hx (lH p y s0) (λseen c s1 Lx _ _ hlen hLF=>⟨[],B7,rfl,All2.nil,λi a m h=>by simp at h⟩)
  |cons q r=>
   obtain⟨v,vs',x,y',rfl,rfl,hx,hy⟩:=yw hp;exact main v vs' x (λs1=>Hg (q::r) y' s1) rfl hx (dH p q r x y' s0)
    (λseen c s1 Lx ho hn hlen hLF=>Acx hr hP (q::r) vs' y' seen c s1 Lx LF ho hy (λp hp=>hb p (.tail _ hp)) hn hlen hLF)
theorem AV{e:ET}{x:e.T}{cs:List Value}(h:Az B w e x cs):Az (λb=>b<w.heap.size/\B b) w e x cs:=
 match e,x,h with
 | .int _,_,h=>h
 | .bool,_,h=>h
 | .str,_,h=>h
 | .list _,_,⟨v,c0,h1,h2,h3⟩=>⟨v,c0,h1,h2.start,h3.mono λ_ _ h=>AV h⟩
 | .vec _ _,_,⟨h1,h2⟩=>⟨h1,h2.mono λ_ _ h=>AV h⟩
 | .cons _ _,_,⟨c1,c2,e,h1,h2⟩=>⟨c1,c2,e,AV h1,AV h2⟩
 | .nil,_,h=>h
def Cg:PV->Bool
 | .val _ _=>true
 | .own _=>true
 | .agg l=>go l
 |_=>false
where go:List PV->Bool
 |[]=>true
 |a::r=>Cg a&&go r
mutual
theorem xB:∀{p:PV} {cs:List Value},Cg p=true->Bk B w L p cs->Bk (λb=>b<w.heap.size/\B b) w L p cs
 | .val e x,cs,_,h=>AV (show Az B w e x cs from h)
 | .own i,cs,_,h=>h
 | .agg l,cs,hv,h=>Bet hv (show Bk.go B w L l cs from h)
 | .tup _,_,hv,_=>by cases hv
 | .nils,_,hv,_=>by cases hv
 | .ptr _ _,_,hv,_=>by cases hv
 | .view _ _ _ _ _ _,_,hv,_=>by cases hv
 | .rptr _,_,hv,_=>by cases hv
 | .fn _ _,_,hv,_=>by cases hv
 | .cap _ _ _,_,hv,_=>by cases hv
 | .mp _ _,_,hv,_=>by cases hv
 | .bfn _ _,_,hv,_=>by cases hv
 | .cst _,_,hv,_=>by cases hv
 | .any,_,hv,_=>by cases hv
 | .gd _ _ _,_,hv,_=>by cases hv
 | .off,_,hv,_=>by cases hv
 | .undef,_,hv,_=>by cases hv
theorem Bet:∀{l:List PV} {cs:List Value},Cg.go l=true->Bk.go B w L l cs->Bk.go (λb=>b<w.heap.size/\B b) w L l cs
 |[],cs,_,h=>h
 |a::l,cs,hv,⟨c1,c2,e,h1,h2⟩=>by
  simp only[Cg.go,CT]at hv;exact⟨c1,c2,e,xB hv.1 h1,Bet hv.2 h2⟩
end
theorem Blg:∀{l:List PV} {vs:List Value},Cg.go l=true->Gp B w L l vs->Gp (λb=>b<w.heap.size/\B b) w L l vs
 |[],vs,_,h=>h
 |a::l,vs,hv,⟨v,vs',e,h1,h2⟩=>by
  simp only[Cg.go,CT]at hv;exact⟨v,vs',e,h1.mono λc h=>xB hv.1 h,Blg hv.2 h2⟩
theorem Ber{x:e.T}{s0:S}:Cg (Ha e o x s0).1=true:=by
 unfold Ha;split<;>rfl
theorem Amf{x:e.T}{s0:S}(h:∀a∈s0.it,∃E e' l,a= .arr E e' l):∀a∈(Ha e o x s0).2.it,∃E e' l,a= .arr E e' l:=by
 unfold Ha;split
 ·intro a ha;simp only[S.add,bX,tR]at ha;rcases ha with ha|ha
  ·exact h a ha
  ·exact⟨_,_,_,ha⟩
 ·exact h
theorem Aiz :∀(ls:LS) (x:KP ls) (s0:S),Cg.go (Hg ls x s0).1=true
 |[],x,s0=>rfl
 |[p],x,s0=>by
  rw[lH];have h1:Cg (Ha p.1 p.2 x s0).1=true:=Ber;simp only[Cg.go,h1];rfl
 |p::q::r,(x,y),s0=>by
  rw[dH];have h1:Cg (Ha p.1 p.2 x s0).1=true:=Ber;simp only[Cg.go,h1,Aiz (q::r) y _];rfl
theorem Apb :∀(ls:LS) (x:KP ls) (s0:S),(∀a∈s0.it,∃E e' l,a= .arr E e' l)->∀a∈(Hg ls x s0).2.it,∃E e' l,a= .arr E e' l
 |[],x,s0,h=>h
 |[p],x,s0,h=>by rw[lH];exact Amf h
 |p::q::r,(x,y),s0,h=>by rw[dH];exact Apb (q::r) y _ (Amf h)
mutual
theorem Aqx:∀{sh:Sh} {vs r:List PV} {u:PV},Xi sh vs=some (u,r)->Cg.go vs=true->Cg u=true/\Cg.go r=true
 | .lf e o,v::vs,r,u,h,hv=>by
  simp only[Xi,D6,D5]at h;obtain⟨rfl,rfl⟩:=h;simpa [Cg.go]using hv
 | .lf e o,[],r,u,h,hv=>by simp[Xi]at h
 | .agg l,vs,r,u,h,hv=>by
  simp only[Xi]at h;split at h
  ·rename_i us r' h1;cases h;exact A9 h1 hv
  ·cases h
theorem A9:∀{l:List Sh} {vs r us:List PV},Xi.go l vs=some (us,r)->Cg.go vs=true->Cg.go us=true/\Cg.go r=true
 |[],vs,r,us,h,hv=>by
  simp only[Xi.go,D6,D5]at h;obtain⟨rfl,rfl⟩:=h;exact⟨rfl,hv⟩
 |a::l,vs,r,us,h,hv=>by
  simp only[Xi.go]at h;split at h
  ·rename_i u vs' h1;split at h
   ·rename_i us' vs'' h2;cases h;obtain⟨g1,g2⟩:=Aqx h1 hv;obtain⟨g3,g4⟩:=A9 h2 g2;exact⟨by simp[Cg.go,g1,g3],g4⟩
   ·cases h
  ·cases h
end
theorem Axd{rs:List Sh}{p:ET×Option TypeId}(hp:p∈Ya rs)(h:qg p=true):jN rs=true:=by
 unfold jN;exact List.any_eq_true.2 ⟨p,hp,h⟩
theorem XX{f:Nat}{ps rs:List Sh}{F:KP (Ya ps)->Option (KP (Ya rs))}{RUN:S->Option (KP (Ya rs))}(hE:Ent P f)
  (hrun:∀x y pvs,args ps x=some pvs->F x=some y->RUN ⟨EB 0 pvs,OG ps x,[]⟩=some y)
  (Bfd:∀(Z:Fix) (A:Reg) (L:List MD) (w:World) (s:S) (y:KP (Ya rs)) (vs:List Value) (Q:Ending->World->Prop),Z.gl=T.gl->Rel Z s [] A L (xI vs) w->vs.length=ps.length->RUN s=some y->
   (∀s' A' L' σ' w',wU P rs fn.results.toList s'=some y->Rel Z s' [] A' L' σ' w'->∃us,uY P σ' w' fn.results.toList us/\Q (.returned (XL us)) w')->Calls P f vs.toArray w Q):ConOk P T.gl f ⟨ps,rs,F⟩:=by
 refine⟨hE,λR N w L0 vs pvs x y hx Bh0 jO Bh1 hvs hgl hy=>?_⟩;have hx':args ps x=some pvs:=hx;have hy':=hrun x y pvs hx' hy
 ·let Z:Fix:=⟨λb=>((R b/\N b)\/∃p∈T.gl,p.1=b)\/ ¬N b\/w.heap.size<=b,λb=>¬N b,w,λb hb=> .inr (.inr hb),λb hb=> .inr (.inl hb),T.gl,λp hp=>⟨.inl (.inr ⟨p,hp,rfl⟩),λh=>h (hgl p hp).2.1,(hgl p hp).1,(hgl p hp).2.2⟩⟩
  have hval:Cg.go pvs=true:=by
   unfold args rM at hx';split at hx'
   ·rename_i us hs;cases hx';exact(A9 hs (Aiz _ _ _)).1
   ·cases hx'
  have Bj1:Gp (λb=>(b<w.heap.size/\N b)/\Z.R b) w L0 pvs vs:=Gp.step (λb hb=>⟨⟨hb.1,hb.2.2⟩, .inl (.inl hb.2)⟩) (λ_ _=>rfl) (.refl L0) (Blg hval hvs);have hst:St (λb=>b<w.heap.size/\N b) w [.old Z.M Z.w0] (L0.map MD.Ki):=by
   refine⟨λb hb=>hb.1,λf hf=>?_,Bh1.DG λb hb=>hb.2⟩;cases hf with
   |head=>exact⟨.refl _,λb hb hM=>⟨⟨hb,Classical.not_not.1 hM⟩,rfl⟩⟩
   |tail _ h=>cases h
  have hr:Rel Z ⟨EB 0 pvs,OG ps x,[]⟩ [] (λb=>b<w.heap.size/\N b) L0 (xI vs) w:=
   Rel.as (L:=L0) hst (i:=0) rfl ⟨⟨Bh0,λi a m h1 h2=>by
    have h3:=jO i a m h1 h2;obtain⟨E,e',l,rfl⟩:=Apb (Ya ps) x ⟨[],[],[]⟩ B7 a (RP h1);cases m with
    |dead=>exact h3
    |box _ _ _=>exact h3
    |own z E2 v2 c2=>exact⟨h3.1,h3.2.1,h3.2.2.mono λx c h=>Az.step (λb hb=>⟨⟨hb.1,hb.2.2⟩, .inl (.inl hb.2)⟩) (λ_ _=>rfl) (AV h)⟩⟩,
    qT Bj1 (λi v hi=>by rw[HL];exact yM hi),trivial⟩ rfl
  have hlen:vs.length=pvs.length:=hvs.length;have hpl:pvs.length=ps.length:=by
   unfold args rM at hx';split at hx'
   ·rename_i us hs;cases hx';have key:∀(l:List Sh) (vs r us:List PV),Xi.go l vs=some (us,r)->us.length=l.length:=by
     intro l
     induction l with
     |nil=>intro vs r us h;simp only[Xi.go,D6,D5]at h;obtain⟨rfl,_⟩:=h;rfl
     |cons a l ih=>
      intro vs r us h;simp only[Xi.go]at h;split at h
      ·split at h
       ·rename_i h2;cases h;simp[ih _ _ _ h2]
       ·cases h
      ·cases h
    exact key _ _ _ _ hs
   ·cases hx'
  refine Bfd Z _ _ w _ y vs _ rfl hr (hlen.trans hpl) hy' ?_;intro s' A' L' σ' w' h1 hr';have fin:wU P rs fn.results.toList s'=some y->∃us,uY P σ' w' fn.results.toList us/\∃us',Ending.returned (XL us)= .returned (XL us')/\Bci T.gl R N w w' rs y us':=by
   intro h1;unfold wU at h1;split at h1
   ·cases h1
   ·rename_i ls0 Bhw;split at h1
    ·cases h1
    ·rename_i s1 hs1;obtain⟨A1,L1,hr1,_⟩:=Vy hr' hs1;split at h1
     ·rename_i ls hls;obtain⟨ho,h1⟩:=Be h1;unfold sA at hls;split at hls
      ·rename_i vs1 Bj2;obtain⟨us,hus,huv⟩:=R9 hr1 Bj2;refine⟨us,hus,us,rfl,?_⟩;have hold:=hr1.fact 1 (f:= .old Z.M Z.w0) rfl;have hA:∀b,b<w.heap.size->N b->A1 b:=λb hb hN=>(hold.2 b hb (λh=>h hN)).1;have hkeep:KeepN N w w':=⟨λb hb hN=>(hold.2 b hb (λh=>h hN)).2,hold.1⟩;have vC:=Au2 (St.mobs hr1) (Ya rs);obtain⟨hd,hidx⟩:=wK (s:=s1) (c:=L1.length) ho (by rw[hr1.len];exact E1 _);refine⟨hkeep,λb=>A1 b/\ (¬N b\/w.heap.size<=b),(Kg (Ya rs) ls L1.length).map (λi=>(L1++gO (Ya rs)).getD i .dead),λb hb=>⟨hb.2,St.lt hr1 b hb.1⟩,?_,?_⟩
       ·refine(xQ vC hd).DG ?_;rintro b (hb|hb)
        ·exact hb.1
        ·exact hA b hb.1 hb.2
       ·intro s0 L0 B' hL0 hB1 hB2;obtain⟨its,g1,g2,g3,g4⟩:=Acx hr1 (B':=B') (LP:=L1++gO (Ya rs)) (λi m hi=>by rw[HQ (List.getElem?_eq_some_iff.1 hi).1];exact hi) (Ya rs) ls y [] L1.length s0 L0 _ ho h1
         (λp hp hl b hb=>by
          rcases hb.2 with hR|hN
          ·exact hB2 (Axd hp hl) b hR
          ·exact hB1 b ⟨hb.1,hN⟩)
         (λi m hi=>by rw[JG F0,P'];exact hi) hL0 rfl
        obtain⟨ps',g5,g6⟩:=Adc hls huv g3;exact⟨ps',its,g1,g5,g6,by rw[g2];simp,g4⟩
      ·cases hls
     ·cases h1
  obtain⟨us,k1,us',k2,k3⟩:=fin h1;exact⟨us,k1,us',k2,k3⟩
theorem Aj0(cX:P.follows .mixedOrders=true){f:Nat}{ans:List (Nat×An)}{an:An}{ps rs:List Sh}{F:KP (Ya ps)->Option (KP (Ya rs))}(hf:P.funcs[f]? =some fn)(hE:Ent P f)(hT:NK P T)(hA:∀p∈ans,Ent P p.1)
  (hle:Nat.ble ps.length fn.ntmps=true) (h:∀x,run P T ans fn an ps rs x=F x):ConOk P T.gl f ⟨ps,rs,F⟩:=by
 cases hc:fn.body with
 |none=>
  refine XX (RUN:=λ_=>none) (fn:=fn) hE (λx y pvs hx hy=>?_) (λ_ _ _ _ _ _ _ _ _ _ _ h=>by cases h);rw[<-h x]at hy;unfold run at hy;rw[hc]at hy;exact hy
 |some c=>
  refine XX (T:=T) (fn:=fn) (RUN:=ex P T (OZ P T 8 ans) fn.ntmps c an {n:=wU P rs fn.results.toList,x:=λ_ _=>none,r:=wU P rs fn.results.toList}) hE (λx y pvs hx hy=>?_) ?_
  ·rw[<-h x]at hy;unfold run at hy;rw[hc,hx]at hy;exact hy
  ·intro Z A L w s y vs Q hZ hr hl hy fin;refine Ba6 (rs:=fn.results.toList) hf hc rfl B7 (by rw[hl];exact hle) (W.mono (jg cX ⟨hT,hZ⟩ (H2 cX hT hA 8) c hy hr) ?_);rintro e σ' w' ⟨s',A',L',h1,hr'⟩;cases e with
   |normal=>exact⟨.inr rfl,fin s' A' L' σ' w' h1 hr'⟩
   |ret=>exact⟨.inl rfl,fin s' A' L' σ' w' h1 hr'⟩
   |exit id=>cases h1
   |goto l=>cases h1
   |panic c=>cases h1
   |outgrown=>cases h1
end Go.Rx
namespace Go.Rx
open Go Go.Lv
structure Pt (R:Type)where
 q:Nat
 n:Nat
 c:Code
 an:An
 k:K R
inductive PS (R:Type)|l|r|d|lp (kn:S->Option R)|call (i f:Nat)|dcall (i f fuel:Nat) (z listed:Array Bool)
def pS(f:Func):Code:=match f.body with|some c=>c|none=> .skip
variable {R:Type}
noncomputable def Pt.e(P:Program)(T:Tab)(ans:List (Nat×An))(p:Pt R)(s:S):Option R:=match p.c with
 | .loop _=>ex P T (OZ P T p.q ans) p.n p.c p.an p.k s
 |_=>hold (λs=>ex P T (OZ P T p.q ans) p.n p.c p.an p.k s) s
noncomputable def Pt.it(P:Program)(T:Tab)(ans:List (Nat×An))(p:Pt R)(q:Nat)(s:S):Option R:=match p.c with
 | .loop a=>iter p.an (λkn s'=>ex P T (OZ P T p.q ans) p.n a p.an.l {p.k with n:=kn} s') q s
 |_=>none
noncomputable def Pt.step(P:Program)(T:Tab)(ans:List (Nat×An))(p:Pt R):PS R->Pt R
 | .l=>match p.c with
  | .seq a b=>⟨p.q,p.n,a,p.an.l,{p.k with n:=K? p.an λs'=>ex P T (OZ P T p.q ans) p.n b p.an.r p.k s'}⟩
  | .cond _ a _=>⟨p.q,p.n,a,p.an.l,p.k⟩
  |_=>p
 | .r=>match p.c with
  | .seq _ b=>⟨p.q,p.n,b,p.an.r,p.k⟩
  | .cond _ _ b=>⟨p.q,p.n,b,p.an.r,p.k⟩
  |_=>p
 | .d=>match p.c with
  | .block id a=>⟨p.q,p.n,a,p.an.l,{p.k with x:=λid' s'=>Dk (Nat.beq id' id) (p.k.n s')<|p.k.x id' s'}⟩
  |_=>p
 | .lp kn=>match p.c with
  | .loop a=>⟨p.q,p.n,a,p.an.l,{p.k with n:=eE p.an kn}⟩
  |_=>p
 | .call i f=>match p.c,p.q,P.funcs[f]?,OZ.l? ans f with
  | .region _ ops false,q+1,some fn,some an=>
   let fin:=OZ.WM P fn.results.toList λs v=>G1 P T (OD p.an (OZ P T (q+1) ans)) p.n ops (ops.toList.drop (i+1)) (s.Ij ((ops[i]?).bind (·.dst)) v) p.k.n
   ⟨q,fn.ntmps,pS fn,an,{n:=fin,x:=λ_ _=>none,r:=fin}⟩
  |_,_,_,_=>p
 | .dcall i f fuel z listed=>match p.c,p.q,P.funcs[f]?,OZ.l? ans f with
  | .region _ ops true,q+1,some fn,some an=>
   let fin:=OZ.WM P fn.results.toList λs v=>dK P T (OD p.an (OZ P T (q+1) ans)) p.n (S4 p.an) ops fuel z listed (s.Ij ((ops[i]?).bind (·.dst)) v) p.k.n
   ⟨q,fn.ntmps,pS fn,an,{n:=fin,x:=λ_ _=>none,r:=fin}⟩
  |_,_,_,_=>p
noncomputable def Pt.at(P:Program)(T:Tab)(ans:List (Nat×An)):Pt R->List (PS R)->Pt R
 |p,[]=>p
 |p,x::l=>Pt.at P T ans (p.step P T ans x) l
noncomputable def Pt.root(P:Program)(fn:Func)(an:An)(rs:List Sh):Pt (KP (Ya rs)):=
 ⟨8,fn.ntmps,pS fn,an,{n:=wU P rs fn.results.toList,x:=λ_ _=>none,r:=wU P rs fn.results.toList}⟩
noncomputable def PE(P:Program)(T:Tab)(ans:List (Nat×An))(fn:Func)(an:An)(rs:List Sh)(l:List (PS (KP (Ya rs))))(s:S):Option (KP (Ya rs)):=(Pt.at P T ans (Pt.root P fn an rs) l).e P T ans s
noncomputable def PI(P:Program)(T:Tab)(ans:List (Nat×An))(fn:Func)(an:An)(rs:List Sh)(l:List (PS (KP (Ya rs))))(q:Nat)(s:S):Option (KP (Ya rs)):=(Pt.at P T ans (Pt.root P fn an rs) l).it P T ans q s
theorem Aep (a:Option R):both a [a,a]=a:=by simp[both]
theorem Be4(a:Option R):both a [a,a,a]=a:=by simp[both]
end Go.Rx
namespace Go.Rx
open Go Go.Lv
variable{vw cp:Bool}{g:Nat}{P:Program}
theorem ConOk.mono{P:Program}{gl gl':List (Nat×List Value)}{f:Nat}{c:Con}(h:ConOk P gl f c)(hs:gl.Sublist gl'):ConOk P gl' f c:=by
 refine⟨h.ent,λR N w L0 vs ps x y h1 h2 h3 h4 h5 h6 h7=>(h.ok R N w L0 vs ps x y h1 h2 h3 h4 h5 (λp hp=>h6 p (hs.subset hp)) h7).mono ?_⟩;rintro e w' ⟨us,he,hk,A1,L1,g1,g2,g3⟩;exact⟨us,he,hk,A1,L1,g1,g2,λs L B' k1 k2 k3=>g3 s L B' k1 k2 λhr b hb=>k3 hr b (hb.imp id λ⟨p,hp,he⟩=>⟨p,hs.subset hp,he⟩)⟩
theorem NK.nil{gl:List (Nat×List Value)}:NK P ⟨[],gl,vw,cp⟩:=λf c h=>by cases h
theorem NK.cons{c:Con}{r:List (Nat×Con)}{gl:List (Nat×List Value)}(h:ConOk P gl g c)(hr:NK P ⟨r,gl,vw,cp⟩):NK P ⟨(g,c)::r,gl,vw,cp⟩:=λf c' h'=>by
 simp only[Tab.get,rJ]at h';cases hb:Nat.beq g f with
 |true=>
  rw[hb]at h';have:=Di hb;subst this;cases h';exact h
 |false=>rw[hb]at h';exact hr f c' h'
theorem Y_.nil:∀p∈([]:List (Nat×An)),Ent P p.1:=by simp
theorem Y_.cons{a:An}{r:List (Nat×An)}(h:Ent P g)(hr:∀p∈r,Ent P p.1):∀p∈(g,a)::r,Ent P p.1:=by
 intro p hp;rcases List.mem_cons.1 hp with rfl|hp
 ·exact h
 ·exact hr p hp
end Go.Rx
namespace Go.Rx
variable {R α:Type}
theorem Qx{a b c:Option R}(h:a=c)(h1:b=c):both a [b]=c:=by subst h;subst h1;exact Q5 _
theorem Qj{a b d c:Option R}(h:a=c)(h1:b=c)(h2:d=c):both a [b,d]=c:=by subst h;subst h1;subst h2;exact Aep _
theorem Qz{a b d e c:Option R}(h:a=c)(h1:b=c)(h2:d=c)(h3:e=c):both a [b,d,e]=c:=by subst h;subst h1;subst h2;subst h3;exact Be4 _
theorem Xc{l:List α}{a b c:Option R}(h:l=[]->a=c)(h1:b=c):wh l a b=c:=by subst h1;exact Bbh h
theorem We{o:Option α}{f g:α->Option R}(h:∀x,f x=g x):Option.bind o f=Option.bind o g:=by rw[funext h]
theorem Jg{o:Option α}{f:α->Option R}{t:Option R}(h:o=none->none=t)(h1:∀x,o=some x->f x=t):Option.bind o f=t:=by
 cases o with
 |none=>exact h rfl
 |some x=>exact h1 x rfl
theorem Wu(f:α->Option R):Option.bind none f=none:=rfl
theorem Gg(x:α)(f:α->Option R):Option.bind (some x) f=f x:=rfl
theorem Gb(o:Option α):Option.bind o (λ_=>(none:Option R))=none:=by cases o<;>rfl
theorem FY{c:Prop} [Decidable c]{a b a' b':Option R}(h:c->a=a')(h1:¬c->b=b'):(if c then a else b)=if c then a' else b':=by
 by_cases hc:c
 ·rw[B0 hc,B0 hc];exact h hc
 ·rw[B! hc,B! hc];exact h1 hc
theorem My{c:Prop} [Decidable c]{a b t:Option R}(h:c->a=t)(h1:¬c->b=t):(if c then a else b)=t:=by
 by_cases hc:c
 ·rw[B0 hc];exact h hc
 ·rw[B! hc];exact h1 hc
abbrev vi(x:Int):PV:= .val (.int .i64) x
abbrev vc(x:UInt8):PV:= .val (.int .u8) x
abbrev vu(x:UInt32):PV:= .val (.int .u32) x
abbrev vq(x:UInt64):PV:= .val (.int .u64) x
abbrev vx(x:Int32):PV:= .val (.int .i32) x
abbrev vt(x:Bool):PV:= .val .bool x
abbrev vs(x:List UInt8):PV:= .val .str x
abbrev vb(x:List UInt8):PV:= .val (.list (.int .u8)) x
abbrev vl(x:List Int):PV:= .val (.list (.int .i64)) x
abbrev vw(x:List Int32):PV:= .val (.list (.int .i32)) x
abbrev vv(x:List UInt32):PV:= .val (.list (.int .u32)) x
end Go.Rx
namespace Go.Rx
open Go Go.Lv
variable{f:Nat}{P:Program}
structure Hd where
 p:List Sh
 r:List Sh
 a:An
 T:Tab
 s:List (Nat×An)
 f:Func
noncomputable def Hd.e(P:Program)(H:Hd):List (PS (KP (Ya H.r)))->S->Option (KP (Ya H.r)):=PE P H.T H.s H.f H.a H.r
noncomputable def Hd.i(P:Program)(H:Hd):List (PS (KP (Ya H.r)))->Nat->S->Option (KP (Ya H.r)):=PI P H.T H.s H.f H.a H.r
noncomputable def Hd.u(P:Program)(H:Hd)(x:KP (Ya H.p)):Option (KP (Ya H.r)):=run P H.T H.s H.f H.a H.p H.r x
def okH(H:Hd):Bool:=(!(H.f.name== "runtime.NumGoroutine")&&H.f.body.isSome)&&Nat.ble H.p.length H.f.ntmps
theorem Hd.con(hM:P.follows .mixedOrders=true)(H:Hd){F:KP (Ya H.p)->Option (KP (Ya H.r))}(hf:P.funcs[f]? =some H.f)(hT:NK P H.T)(hA:∀p∈H.s,Ent P p.1)
  (hb:okH H=true) (h:∀x,H.u P x=F x):ConOk P H.T.gl f ⟨H.p,H.r,F⟩:=by
 simp only[okH,CT,IC]at hb;obtain⟨c,hc⟩:=Option.isSome_iff_exists.1 hb.1.2;exact Aj0 (T:=H.T) hM hf (Ent.mk hf hb.1.1 hc) hT hA hb.2 h
def rG(P:Program)(f:Nat):Bool:=match P.funcs[f]? with|some fn=>!(fn.name== "runtime.NumGoroutine")&&fn.body.isSome|none=>false
theorem Bej(h:rG P f=true):Ent P f:=by
 unfold rG at h;split at h
 ·rename_i fn hf;simp only[CT,IC]at h;obtain⟨c,hc⟩:=Option.isSome_iff_exists.1 h.2;exact Ent.mk hf h.1 hc
 ·cases h
def okA(P:Program)(H:Hd):Bool:=(H.s.all λp=>rG P p.1)&&okH H
theorem Hd.cn(hM:P.follows .mixedOrders=true)(H:Hd){F:KP (Ya H.p)->Option (KP (Ya H.r))}(hf:P.funcs[f]? =some H.f)(hT:NK P H.T)
  (hb:okA P H=true) (h:∀x,H.u P x=F x):ConOk P H.T.gl f ⟨H.p,H.r,F⟩:=by
 simp only[okA,CT,XB]at hb;exact Hd.con hM H hf hT (λp hp=>Bej (hb.1 p hp)) hb.2 h
abbrev Kc(P:Program)(gl:List (Nat×List Value)):={p:Nat×Con//ConOk P gl p.1 p.2}
def Bf1{P:Program}{gl:List (Nat×List Value)}(l:List (Kc P gl))(v c:Bool):Tab:=⟨l.map (·.1),gl,v,c⟩
theorem Ao4{P:Program}{gl:List (Nat×List Value)}:∀(l:List (Kc P gl)) (v c:Bool),NK P (Bf1 l v c)
 |[],_,_=> .nil
 |a::l,v,c=> .cons a.2 (Ao4 l v c)
theorem ind{p:Nat->Prop}(h:p 0)(hs:∀q,p q->p (q+1)):∀q,p q:=λq=>Nat.rec h hs q
variable {R α:Type}
noncomputable abbrev bo(a:Option R):Option R:=both a [a]
noncomputable abbrev bo2(a:Option R):Option R:=both a [a,a]
theorem kP(a:Option R):both a [a]=a:=Q5 a
theorem OH(a:Option R):both a [a,a]=a:=Aep a
theorem QB(a:Option R):both a [a,a,a]=a:=Be4 a
abbrev Si:Sh:= .lf (.int .i64) none
abbrev Su:Sh:= .lf (.int .u32) none
abbrev Sq:Sh:= .lf (.int .u64) none
abbrev Sx:Sh:= .lf (.int .i32) none
abbrev Sz:Sh:= .lf .bool none
abbrev Ss:Sh:= .lf .str none
abbrev Sb:Sh:= .lf (.list (.int .u8)) none
abbrev Sl:Sh:= .lf (.list (.int .i64)) none
abbrev Sw:Sh:= .lf (.list (.int .i32)) none
abbrev Sv:Sh:= .lf (.list (.int .u32)) none
abbrev Ob(e:Nat):Sh:= .lf (.list (.int .u8)) (some e)
abbrev Ol(e:Nat):Sh:= .lf (.list (.int .i64)) (some e)
abbrev Ow(e:Nat):Sh:= .lf (.list (.int .i32)) (some e)
abbrev Ov(e:Nat):Sh:= .lf (.list (.int .u32)) (some e)
abbrev Ai(e:Nat)(l:List Int):Item:= .arr e (.int .i64) l
abbrev Ab(e:Nat)(l:List UInt8):Item:= .arr e (.int .u8) l
abbrev Aw(e:Nat)(l:List Int32):Item:= .arr e (.int .i32) l
abbrev Av(e:Nat)(l:List UInt32):Item:= .arr e (.int .u32) l
abbrev An.q(a:An):An:= .seq .d a
end Go.Rx
namespace Go.Rx
open Go Go.Lv Go.RowKit
variable{cs:List Value}{B:Reg}{w:World}
variable {P:Program}
theorem ZP{B:Reg}{w:World}{k:Kd}:∀(l:List k.T),Cm (Az B w (.int k)) l (Go.Lv.VQ (k:=k.k) l)
 |[]=>rfl
 |x::l=>⟨[iv (T:=k.T) (k:=k.k) x],Go.Lv.VQ (k:=k.k) l,rfl,rfl,ZP l⟩
theorem Rd.DG{A:Reg}{s:Nat}{v:Value}(h:Rd A w s v cs)(ha:∀b,A b->B b):Rd B w s v cs:=h.step ha λ_ _=>rfl
theorem encs_nil:Gp B w [] [] []:=rfl
theorem row_true{gl:List (Nat×List Value)}{f:Nat}{ps:List Sh}{F:KP (Ya ps)->Option Bool}(hC:ConOk P gl f ⟨ps,[.lf .bool none],F⟩){x:KP (Ya ps)}{pvs:List PV}{vs:List Value}(ha:args ps x=some pvs)(hi:OG ps x=[])
  (hv:Gp (λ_=>True/\True) w [] pvs vs) (hg:GlOk gl (λ_=>True) w) (hF:F x=some true):Calls P f vs.toArray w λe w'=>e= .returned (.bool true)/\Below w.heap.size w w':=by
 refine(hC.ok (λ_=>True) (λ_=>True) w [] vs pvs x true ha (by rw[hi];rfl) (λi a m h=>by rw[hi]at h;simp at h) trivial hv hg hF).mono ?_;rintro e w' ⟨us,rfl,hk,A1,L1,g1,g2,g3⟩;obtain⟨qs,its,k1,k2,k3,k4,k5⟩:=g3 ⟨[],[],[]⟩ [] (λ_=>True) rfl (λ_ _=>trivial) (λ_ _ _=>trivial);refine⟨?_,⟨hk.gr.os,hk.gr.tape,hk.gr.output,hk.gr.le,λb hb=>hk.same b hb trivial⟩⟩;obtain rfl:=HE (show some [PV.val .bool true]=some qs from k2);obtain⟨_,_,rfl,e1,rfl⟩:=k3;cases(show [_]=[Value.bool true]from e1);rfl
theorem laid_ints{H:Type}{enc:TypeId×Value->H}{fuel:Nat}{t e n:Nat}{k:IntKind}{zs:List Int}{p:List MemPlace}(hu:P.underlying t=some (.array n e))(he:P.underlying e=some (.int k))(hc:P.cellsOf e=1)(ht:P.cellsOf t=n)
  (h:DataW.trod enc P w 0 (λ_=>true) false fuel t cs=some (.agg (zs.map λz=> .lit (.int k z)),p)):cs=zs.map λz=>Value.int k z:=by
 obtain⟨xs,m,rfl,hx,hlen,hn,hel⟩:=DataW.trod_array hu h;simp only[D5,DataW.agg.injEq]at hx;rw[ht]at hlen;have hz:zs.length=n:=by
  have:=congrArg List.length hx.1;simpa [hn]using this
 apply X?;intro i;by_cases hi:i<n
 ·have h0:=hel i hi;rw[hc,SD]at h0;have hxi:xs[i]? =some xs[i]:=HS F0;rw[hxi]at h0;obtain⟨q,e1,e2,_⟩:=DataW.trod_int he h0;have e3:(cs.drop i).take 1=[cs[i]' F0]:=by
   rw[tE F0];rfl
  rw[e3]at e1;have e4:(xs.map (·.1))[i]? =(zs.map λz=>(DataW.lit (.int k z):DataW H))[i]? :=by rw[<-hx.1]
  rw[RY,RY,hxi,HS F0,e2]at e4;simp only[P4,D6,DataW.lit.injEq,Lit.int.injEq,true_and]at e4;rw[RY,HS F0,HS F0];simp only[X4,M4]at e1;rw[e1,e4];rfl
 ·rw[P3 F0,P3 B8]
theorem glOk_cons{n:String}{g:Nat}{cs:Array Value}{l:List Value}{gl:List (Nat×List Value)}(hg:P.globalNamed n=some g)(hv:w.var? P n=some cs)(hl:cs.toList=l)(h:GlOk gl (λ_=>True) w):GlOk ((g,l)::gl) (λ_=>True) w:=by
 intro p hp;rcases List.mem_cons.1 hp with rfl|hp
 ·simp only[World.var?,hg,Option.bind_some]at hv;split at hv
  ·rename_i cs' T fr hh;cases hv;refine⟨(Array.getElem?_eq_some_iff.1 hh).1,trivial,T,fr,?_⟩;rw[hh,<-hl]
  ·cases hv
 ·exact h p hp
theorem glOk_nil{N:Reg}:GlOk [] N w:=λp hp=>by simp at hp
end Go.Rx
namespace Go.Rx
open Go Go.Lv Go.RowKit Go.ChangeShapes Go.WideShapes
variable{cs:List Value}{fuel:Nat}{H:Type}{t:TypeId}{w:World}
variable {P:Program}
theorem laid_bool_int{enc:TypeId×Value->H}{f0 f1:Field}{k:IntKind}{b:Bool}{z:Int}{p:List MemPlace}(hu:P.underlying t=some (.struct #[f0,f1]))
  (h0:P.underlying f0.type=some .bool) (h1:P.underlying f1.type=some (.int k)) (o0:f0.offset=0) (o1:f1.offset=1) (c0:P.cellsOf f0.type=1) (c1:P.cellsOf f1.type=1) (ct:P.cellsOf t=2)
  (h:DataW.trod enc P w 0 (λ_=>true) false fuel t cs=some (.agg [.lit (.bool b), .lit (.int k z)],p)):cs=[.bool b, .int k z]:=by
 obtain⟨xs,m,rfl,hx,hlen,hn,hel⟩:=DataW.trod_struct hu h;rw[ct]at hlen
 match cs,hlen with
 |[a,c],_=>
  match xs,hn with
  |[y0,y1],_=>
   simp only[D5,DataW.agg.injEq,J8,Y!,X4,M4]at hx;have e0:=hel 0 f0 rfl;have e1:=hel 1 f1 rfl;rw[o0,c0]at e0;rw[o1,c1]at e1;obtain⟨b',q0,r0⟩:=DataW.trod_bool h0 e0;obtain⟨z',q1,r1,_⟩:=DataW.trod_int h1 e1;simp at q0 q1;rw[r0,r1]at hx;simp at hx;rw[q0,q1,hx.1.1,hx.1.2]
theorem fld{enc:TypeId×Value->H}{base:Nat}{spare:Nat->Bool}{held:Bool}{fs:Array Field}{x:DataW H×List MemPlace}(ht:P.underlying t=some (.struct fs))(h:DataW.trod enc P w base spare held fuel t cs=some x)
  (i:Nat) {ft:TypeId} {off k:Nat} {part:List Value} (hf:(fs[i]?).map (λf=>(f.type,f.offset))=some (ft,off)) (hc:P.cellsOf ft=k) (hd:(cs.drop off).take k=part):∃n y,DataW.trod enc P w base spare held n ft part=some y:=by
 obtain⟨xs,n,_,_,_,hn,hel⟩:=DataW.trod_struct ht h;cases hi:fs[i]? with
 |none=>rw[hi]at hf;cases hf
 |some f=>
  rw[hi]at hf;cases hf;have g:=hel i f hi;rw[hc,hd,HS (by rw[hn];exact(Array.getElem?_eq_some_iff.1 hi).1)]at g;exact⟨n,_,g⟩
end Go.Rx
namespace Go.Rx
open Go Go.Lv Go.RowKit Go.ChangeShapes Go.WideShapes
variable {P:Program}
end Go.Rx
namespace Go.Rx
open Go Go.Lv Go.RowKit
variable{an:An}{ps:Array Tmp}{assign body:Code}{fn:Func}{g:Operand}
def Bhj(P:Program)(m:Nat)(gf:Nat)(lb:Array Value)(N:Nat)(E:Nat->Reg->World->Value->Prop)(V0:Reg)(w:World):Prop:=
 ∀(l:Nat) (J:Nat->Reg->World->Prop) (Jx:World->Prop) (W:World),KeepN (λ_=>True) w W->
  (∀i V X Y,J i V X->KeepN (λ_=>True) X Y->J i (λb=>V b\/ (X.heap.size<=b/\b<Y.heap.size)) Y)->
  (∀X Y,Jx X->KeepN (λ_=>True) X Y->Jx Y)->
  (∀i V W1 v,i<N->J i V W1->E i V W1 v->YieldAt (wr none) (m-1) P l #[v] W1 λe W'=>
   (e= .returned (.bool true)/\J (i+1) V W'/\Gr W1 W'/\∀b,V b->W'.heap[b]? =W1.heap[b]?)\/ (e= .returned (.bool false)/\Jx W'))->
  J 0 V0 W->
  CallsIn (wr none) m P gf (#[.func (.yield l) #[] #[]]++lb) W λe W'=>(∃v,e= .returned v)/\ ((∃V,J N V W')\/Jx W')
def Beu(B:Nat)(I:Reg->World->Prop)(Ix:Code->World->Prop)(V:Reg)(W:World):Exit->Act->World->Prop
 | .normal,_,W'=>(∀b,(b=B\/b=B+1\/V b)->W'.heap[b]? =W.heap[b]?)/\Gr W W'/\I V W'
 | .ret,_,W'=>(∀b,(b=B\/b=B+1)->W'.heap[b]? =W.heap[b]?)/\Gr W W'/\Ix .ret W'
 | .exit id,_,W'=>(∀b,(b=B\/b=B+1)->W'.heap[b]? =W.heap[b]?)/\Gr W W'/\Ix (.exit id) W'
 |_,_,_=>False
theorem X5(W:World)(l:Nat)(o:Obj):Gr W (W.putObj l o):=by
 have h:=grownBy_putObj' W l o;exact⟨h.size,h.os,h.tape,h.output⟩
theorem Ahx(W:World)(o:Obj):Gr W (W.alloc o):=by
 have h:=World.grownBy_alloc W o none;exact⟨h.size,h.os,h.tape,h.output⟩
theorem Ayt{P:Program}{n:Nat}{Q:Exit->Act->World->Prop}{a:Act}{w:World}
  {gf:Nat} {lb:Array Value} (hg:a.eval g= .func (.func gf) #[] lb) (eg:Ent P gf) {N:Nat} {E:Nat->Reg->World->Value->Prop} {V0:Reg} (hseq:Bhj P (n-1) gf lb N E V0 w) (hps:ps.size=1)
  (I:Nat->Reg->World->Prop) (Ix:Code->World->Prop)
  (hI:∀i V X Y,I i V X->w.heap.size+1<X.heap.size->KeepN (λ_=>True) X Y->I i (λb=>V b\/ (X.heap.size<=b/\b<Y.heap.size)) Y)
  (hIx:∀c X Y,Ix c X->KeepN (λ_=>True) X Y->Ix c Y)
  (hIr:∀i V X (r r':Loop),I i V X->X.heap[w.heap.size+1]? =some (.loop r)->I i V (X.putObj (w.heap.size+1) (.loop r')))
  (ZR:∀c X (r r':Loop),Ix c X->X.heap[w.heap.size+1]? =some (.loop r)->Ix c (X.putObj (w.heap.size+1) (.loop r')))
  (hV:∀i V W,I i V W-> ¬V (w.heap.size+1))
  (h0:∀W,KeepN (λ_=>True) w W->I 0 V0 W)
  (qJ:∀i V W v (r:Loop),i<N->I i V W->E i V W v->W.heap[w.heap.size+1]? =some (.loop r)->W.heap[w.heap.size]? =some (.deferred (some []))->
   assign.wpIn (wr (some (w.heap.size+1))) (n-1-1) P (Exit.then (λa' W'=>(∀b,(b=w.heap.size\/b=w.heap.size+1\/V b)->W'.heap[b]? =W.heap[b]?)/\Gr W W'/\
    ∀r',body.wpIn (wr (some (w.heap.size+1))) (n-1-1) P (Beu w.heap.size (I (i+1)) Ix V (W'.putObj (w.heap.size+1) (.loop r'))) a' (W'.putObj (w.heap.size+1) (.loop r'))) (λ_ _ _=>False))
    {tmps:=(ps.zip #[v]).foldl (λt (p,v)=>t.setIfInBounds p v) a.tmps,defers:=[]} W)
  (hdone:∀V W,I N V W->W.heap[w.heap.size]? =some (.deferred (some []))->Q .normal {a with defers:={target:= .collected w.heap.size,args:= #[]}::a.defers} W)
  (hstop:∀c W,Ix c W->W.heap[w.heap.size]? =some (.deferred (some []))->c.wpIn (wr none) n P Q {a with defers:={target:= .collected w.heap.size,args:= #[]}::a.defers} W):
  (Code.rangeFunc g ps assign body).wpIn (wr none) n P Q a w:=by
 refine wpIn_rangeFunc ?_;intro fn hfn;obtain⟨rec,hrec⟩:∃rec:LoopState->Option Code->Loop,rec=λst pe=>{state:=st,pending:=pe,fn,tmps:=a.tmps,params:=ps,assign,body,defers:=w.heap.size}:=⟨_,rfl⟩;obtain⟨W1,hW1⟩:∃W1,(w.alloc (.deferred (some []))).alloc (.loop (rec .ready none))=W1:=⟨_,rfl⟩;have hL1:W1.heap[w.heap.size+1]? =some (.loop (rec .ready none)):=by
  rw[<-hW1];have:=tZ (w.alloc (.deferred (some []))) (.loop (rec .ready none));rwa [World.size_alloc]at this
 have hK1:W1.heap[w.heap.size]? =some (.deferred (some [])):=by
  rw[<-hW1];exact(Below.heap_alloc _ _ _ B7).trans (tZ w _)
 have hk1:KeepN (λ_=>True) w W1:=by
  rw[<-hW1];refine⟨λb hb _=>?_,(Ahx _ _).trans (Ahx _ _)⟩;exact(Below.heap_alloc _ _ _ B8).trans (Below.heap_alloc _ _ _ hb)
 refine⟨w.heap.size+1,[{target:= .collected w.heap.size,args:= #[]}],W1,{target:= .fn (.func gf) lb,args:= #[.func (.yield (w.heap.size+1)) #[] #[]]},W1,gf,
  #[.func (.yield (w.heap.size + 1)) #[] #[]] ++ lb, W1, ?_, ?_, ?_, ?_, (λh => by simp [wr, Fence.wide] at h), ?_⟩
 ·rw[<-hW1,hrec];exact run_enterLoop_outer _ _ _ _ _
 ·simp only[resolve,hg];simp[go_sem]
 ·intro f' hf';trivial
 ·simp[invoke,go_sem,eg _ _]
 ·refine(hseq (w.heap.size+1)
   (λi V W=>I i V W/\W.heap[w.heap.size+1]? =some (.loop (rec .ready none))/\W.heap[w.heap.size]? =some (.deferred (some [])))
   (λW=>∃c,Ix c W/\W.heap[w.heap.size+1]? =some (.loop (rec .done (some c)))/\W.heap[w.heap.size]? =some (.deferred (some [])))
   W1 hk1 ?_ ?_ ?_ ⟨h0 _ hk1,hL1,hK1⟩).mono ?_
  ·rintro i V X Y ⟨h1,h2,h3⟩ hk;exact⟨hI i V X Y h1 (lt_of_heap h2) hk,(hk.same _ (lt_of_heap h2) trivial).trans h2,(hk.same _ (lt_of_heap h3) trivial).trans h3⟩
  ·rintro X Y ⟨c,h1,h2,h3⟩ hk;exact⟨c,hIx c X Y h1 hk,(hk.same _ (lt_of_heap h2) trivial).trans h2,(hk.same _ (lt_of_heap h3) trivial).trans h3⟩
  ·
   rintro i V W v hlen ⟨hi,hl,hk⟩ hE;have hy:=run_yield (P:=P) (args:= #[v]) hl (by rw[hrec];exact hps.symm);rw[hrec]at hy;have hVl:=hV i V W hi;refine⟨fn,_,assign,body,hy,roundIn_of_wpIn hfn (JA (qJ i V W v _ hlen hi hE hl hk) ?_)⟩;clear hy;rintro e a' W2 hh;cases e with
   |normal=>
    obtain⟨hs,hgr,hb⟩:=hh;have hl2:=(hs _ (.inr (.inl rfl))).trans hl;have hk2:=(hs _ (.inl rfl)).trans hk;refine⟨_,run_beginRound hl2 (by rw[hrec]),?_⟩;refine JA (hb _) ?_;have hlt:=lt_of_heap hl2;have hl3:(W2.putObj (w.heap.size+1) (.loop {rec .ready none with state:= .busy})).heap[w.heap.size+1]? =some (.loop {rec .ready none with state:= .busy}):=tI hlt;have hk3:(W2.putObj (w.heap.size+1) (.loop {rec .ready none with state:= .busy})).heap[w.heap.size]? =some (.deferred (some [])):=(RM F0).trans hk2;have fin:∀(jump:Option Code) (W3:World),(∀b,(b=w.heap.size\/b=w.heap.size+1)->W3.heap[b]? =(W2.putObj (w.heap.size+1) (.loop {rec .ready none with state:= .busy})).heap[b]?)->
      (Instr.endRound (w.heap.size+1) jump).run P W3= .ok (.bool jump.isNone) (W3.putObj (w.heap.size+1) (.loop (rec (if jump.isNone then .ready else .done) jump)))/\
      W3.heap[w.heap.size+1]? =some (.loop {rec .ready none with state:= .busy})/\
      (W3.putObj (w.heap.size+1) (.loop (rec (if jump.isNone then .ready else .done) jump))).heap[w.heap.size+1]? =some (.loop (rec (if jump.isNone then .ready else .done) jump))/\
      (W3.putObj (w.heap.size+1) (.loop (rec (if jump.isNone then .ready else .done) jump))).heap[w.heap.size]? =some (.deferred (some [])):=λjump W3 hs3=>by
     have hl4:=(hs3 _ (.inr rfl)).trans hl3;have:=run_endRound (P:=P) jump hl4;rw[hrec]at this⊢;exact⟨this,by rw[hrec]at hl4;exact hl4,tI (lt_of_heap hl4),(RM F0).trans ((hs3 _ (.inl rfl)).trans hk3)⟩
    rintro e a3 W3 hp;cases e with
    |normal=>
     obtain⟨hs3,hg3,hi3⟩:=hp;obtain⟨hr,hl4,hl5,hk5⟩:=fin none W3 (λb hb=>hs3 b (hb.elim .inl λh=> .inr (.inl h)));refine⟨_,_,hr, .inl ⟨rfl,⟨hIr _ _ _ _ _ hi3 hl4,hl5,hk5⟩,hgr.trans ((X5 _ _ _).trans (hg3.trans (X5 _ _ _))),λb hb=>?_⟩⟩;have hne:b≠w.heap.size+1:=λe=>hVl (e▸hb);exact(RM hne).trans ((hs3 b (.inr (.inr hb))).trans ((RM hne).trans (hs b (.inr (.inr hb)))))
    |ret=>
     obtain⟨hs3,hg3,hi3⟩:=hp;obtain⟨hr,hl4,hl5,hk5⟩:=fin (some .ret) W3 hs3;exact⟨_,_,hr, .inr ⟨rfl, .ret,ZR _ _ _ _ hi3 hl4,hl5,hk5⟩⟩
    |exit id=>
     obtain⟨hs3,hg3,hi3⟩:=hp;obtain⟨hr,hl4,hl5,hk5⟩:=fin (some (.exit id)) W3 hs3;exact⟨_,_,hr, .inr ⟨rfl, .exit id,ZR _ _ _ _ hi3 hl4,hl5,hk5⟩⟩
    |goto t=>exact hp.elim
    |panic ch=>exact hp.elim
    |outgrown=>exact hp.elim
   |_=>exact hh.elim
  ·rintro e W2 ⟨⟨v,rfl⟩,(⟨V,hi,hl,hk⟩|⟨c,hi,hl,hk⟩)⟩
   ·exact⟨none,_,by have:=run_endLoop (P:=P) hl (by rw[hrec];simp);rw[hrec]at this;exact this,hdone _ _ (hIr _ _ _ _ _ hi hl) ((RM F0).trans hk)⟩
   ·exact⟨some c,_,by have:=run_endLoop (P:=P) hl (by rw[hrec];simp);rw[hrec]at this;exact this,hstop c _ (ZR _ _ _ _ hi hl) ((RM F0).trans hk)⟩
variable {P:Program} {B:Reg} {w w':World} {L L':List MD} {s s':S} {σs σs':List Env} {σ σ':Env} {Z:Fix} {A A':Reg} {n:Nat}
theorem Ap1{md:MD}{b:Nat}(h:md.Ki.holds (some b) w):∃arr T fr,w.heap[b]? =some (.cells arr T fr):=by
 cases md with
 |dead=>
  obtain⟨p,len,cap,h1,h2,h3,h4,h5,h6⟩:=h;obtain⟨arr,fr,e1,e2,_⟩:=h6 b rfl;exact⟨_,_,_,e2⟩
 |box b' c T=>obtain⟨h1,h2⟩:=h;cases h1;exact⟨_,_,_,h2⟩
 |own z E v cs=>
  obtain⟨p,len,cap,h1,h2,h3,h4,h5,h6⟩:=h;obtain⟨arr,fr,e1,e2,_⟩:=h6 b rfl;exact⟨_,_,_,e2⟩
theorem Q4:∀{L:List MD} {A:Reg},Ea w A (L.map MD.Ki)->∃O:Reg,(∀b,O b-> ¬A b/\b<w.heap.size/\∃arr T fr,w.heap[b]? =some (.cells arr T fr))/\Ea w (λb=>¬O b) (L.map MD.Ki)
 |[],A,_=>⟨λ_=>False,λb h=>h.elim,trivial⟩
 |md::L,A,⟨o,h1,h2,h3⟩=>by
  obtain⟨O,g1,g2⟩:=Q4 h3;refine⟨λb=>O b\/o=some b,λb hb=>?_,o,h1,λb hb=>⟨λh=>h (.inr hb),(h2 b hb).2⟩,g2.DG λb hb=>?_⟩
  ·rcases hb with hb|hb
   ·exact⟨λh=>(g1 b hb).1 (.inl h),(g1 b hb).2⟩
   ·subst hb;exact⟨(h2 b rfl).1,(h2 b rfl).2,Ap1 h1⟩
  ·rcases hb with hb|hb
   ·exact λh=>hb (.inl h)
   ·exact λh=>(g1 b h).1 (.inr hb)
theorem Rel.gr0(hr:Rel Z s σs A L σ w):Gr Z.w0 w:=(hr.fact 1 (f:= .old Z.M Z.w0) rfl).1
theorem Rel.old(hr:Rel Z s σs A L σ w){b:Nat}(h1:b<Z.w0.heap.size)(h2:¬Z.M b):A b/\w.heap[b]? =Z.w0.heap[b]? :=(hr.fact 1 (f:= .old Z.M Z.w0) rfl).2 b h1 h2
theorem Rel.mk3{Z:Fix}(h1:∀b,A b->b<w.heap.size)(h2:MemR (λb=>A b/\Z.R b) w L s σs σ)(h3:Gr Z.w0 w)(h4:∀b,b<Z.w0.heap.size-> ¬Z.M b->A b/\w.heap[b]? =Z.w0.heap[b]?)(h5:Ea w A (L.map MD.Ki)):Rel Z s σs A L σ w:=
by
 refine⟨h1,λf hf=>?_,h5⟩;cases hf with
 |head=>exact h2
 |tail _ hf=>
  cases hf with
  |head=>exact⟨h3,h4⟩
  |tail _ hf=>cases hf
theorem Rel.grow(hr:Rel Z s σs A L σ w)(hk:KeepN (λ_=>True) w w')(h1:∀b,A b->A' b)(h2:∀b,A' b->A b\/ (w.heap.size<=b/\b<w'.heap.size)):Rel Z s σs A' L σ w':=by
 have same:∀b,b<w.heap.size->w'.heap[b]? =w.heap[b]? :=λb hb=>hk.same b hb trivial;refine Rel.mk3 (λb hb=>?_) (hr.mem.step (λb hb=>⟨h1 b hb.1,hb.2⟩) (λb hb=>same b (St.lt hr b hb.1))) (hr.gr0.trans hk.gr) (λb hb hM=>?_) ?_
 ·rcases h2 b hb with h|h
  ·exact HJ (St.lt hr b h) hk.gr.le
  ·exact h.2
 ·obtain⟨g1,g2⟩:=hr.old hb hM;exact⟨h1 b g1,(same b (St.lt hr b g1)).trans g2⟩
 ·exact((St.mobs hr).lt.step hk.gr.le λb hb _=>same b hb).DG λb hb=>(h2 b hb).imp id And.left
theorem Rel.row(hr:Rel Z s σs A L σ w){l:Nat}{o o':Obj}(hA:¬A l)(hl:w.heap[l]? =some o)(ho:o.isCells=false):Rel Z s σs A L σ (w.putObj l o'):=by
 have hne:∀b,A b->b≠l:=λb hb e=>hA (e▸hb);have hg:=X5 w l o';have same:∀b,b≠l-> (w.putObj l o').heap[b]? =w.heap[b]? :=λb hb=>RM hb;refine Rel.mk3 (λb hb=>HJ (St.lt hr b hb) hg.le) (hr.mem.step (λb hb=>hb) (λb hb=>same b (hne b hb.1))) (hr.gr0.trans hg) (λb hb hM=>?_) ?_
 ·obtain⟨g1,g2⟩:=hr.old hb hM;exact⟨g1,(same b (hne b g1)).trans g2⟩
 ·obtain⟨O,g1,g2⟩:=Q4 (St.mobs hr);refine(g2.step hg.le λb hb hO=>same b λe=>?_).DG λb hb hO=>(g1 b hO).1 hb;subst e;obtain⟨_,_,arr,T,fr,e⟩:=g1 b (Classical.not_not.1 hO);rw[hl]at e;cases e;cases ho
structure Rows (Z:Fix) (A:Reg) (w:World) (X:Reg):Prop where
 out:∀b,X b-> ¬A b
 new:∀b,X b->Z.w0.heap.size<=b
 row:∀b,X b->∃o,w.heap[b]? =some o/\o.isCells=false
def Fix.sub(Z:Fix)(hr:Rel Z s σs A L σ w)(X:Reg)(hX:Rows Z A w X):Fix where
 R b:=Z.R b/\ ¬X b
 M b:=b<w.heap.size/\ ¬A b/\ ¬X b
 w0:=w
 new b hb:=⟨Z.new b (RZ hr.gr0.le hb),λh=>by obtain⟨o,ho,_⟩:=hX.row b h;have:=lt_of_heap ho;omega⟩
 mod b hb:=⟨by
  rcases NC b Z.w0.heap.size with h|h
  ·exact Z.mod b (WY λhM=>hb.2.1 (hr.old h hM).1)
  ·exact Z.new b h,hb.2.2⟩
 gl:=Z.gl
 glok p hp:=by
  obtain⟨⟨h1,h2⟩,T,fr,h3⟩:=hr.SO hp;exact⟨⟨h2,λh=>hX.out _ h h1⟩,λh=>h.2.1 h1,lt_of_heap h3,T,fr,h3⟩
theorem T!(hr:Rel Z s σs A L σ w){X:Reg}(hX:Rows Z A w X):Rel (Z.sub hr X hX) s σs (λb=>A b\/X b) L σ w:=by
 refine Rel.mk3 (λb hb=>?_) (hr.mem.step (λb hb=>⟨.inl hb.1,hb.2,λh=>hX.out b h hb.1⟩) (λ_ _=>rfl)) (.refl _) (λb hb hM=>⟨?_,rfl⟩) ?_
 ·rcases hb with h|h
  ·exact St.lt hr b h
  ·obtain⟨o,ho,_⟩:=hX.row b h;exact lt_of_heap ho
 ·exact WY λh=>hM ⟨hb,λg=>h (.inl g),λg=>h (.inr g)⟩
 ·obtain⟨O,g1,g2⟩:=Q4 (St.mobs hr);refine g2.DG λb hb hO=>?_;rcases hb with h|h
  ·exact(g1 b hO).1 h
  ·obtain⟨o,ho,hc⟩:=hX.row b h;obtain⟨_,_,arr,T,fr,e⟩:=g1 b hO;rw[ho]at e;cases e;cases hc
theorem O2(hr:Rel Z s σs A L σ w){X:Reg}(hX:Rows Z A w X){L2:List MD}{A2:Reg}(h:Rel (Z.sub hr X hX) s' σs' A2 L2 σ' w'):
  Rel Z s' σs' (λb=>A2 b/\ ¬X b) L2 σ' w'/\ (∀b,A b->A2 b/\ ¬X b)/\ (∀b,(X b\/A b)->w'.heap[b]? =w.heap[b]?)/\Gr w w':=by
 have hold:∀b,(X b\/A b)->A2 b/\w'.heap[b]? =w.heap[b]? :=λb hb=>by
  have hlt:b<w.heap.size:=by
   rcases hb with h|h
   ·obtain⟨o,ho,_⟩:=hX.row b h;exact lt_of_heap ho
   ·exact St.lt hr b h
  exact h.old (Z:=Z.sub hr X hX) hlt λhM=>hb.elim hM.2.2 hM.2.1
 have hg:Gr w w':=h.gr0 (Z:=Z.sub hr X hX);refine⟨Rel.mk3 (λb hb=>St.lt h b hb.1) (h.mem.step (λb hb=>⟨⟨hb.1,hb.2.2⟩,hb.2.1⟩) (λ_ _=>rfl)) (hr.gr0.trans hg) (λb hb hM=>?_) ((St.mobs h).DG λb hb=>hb.1),
  λb hb=>⟨(hold b (.inr hb)).1,λhx=>hX.out b hx hb⟩,λb hb=>(hold b hb).2,hg⟩
 obtain⟨g1,g2⟩:=hr.old hb hM;obtain⟨g3,g4⟩:=hold b (.inr g1);exact⟨⟨g3,λhx=>by have:=hX.new b hx;omega⟩,g4.trans g2⟩
def zA:PV->Bool
 | .val _ _=>true
 | .agg l=>go l
 |_=>false
where go:List PV->Bool
 |[]=>true
 |a::r=>zA a&&go r
mutual
theorem y_:∀{p:PV} {cs:List Value},zA p=true->Bk B w L p cs->Bk B w L' p cs
 | .val e x,cs,_,h=>h
 | .agg l,cs,hv,h=>Aen hv (show Bk.go B w L l cs from h)
 | .tup _,_,hv,_=>by cases hv
 | .nils,_,hv,_=>by cases hv
 | .own _,_,hv,_=>by cases hv
 | .ptr _ _,_,hv,_=>by cases hv
 | .view _ _ _ _ _ _,_,hv,_=>by cases hv
 | .rptr _,_,hv,_=>by cases hv
 | .fn _ _,_,hv,_=>by cases hv
 | .cap _ _ _,_,hv,_=>by cases hv
 | .mp _ _,_,hv,_=>by cases hv
 | .bfn _ _,_,hv,_=>by cases hv
 | .cst _,_,hv,_=>by cases hv
 | .any,_,hv,_=>by cases hv
 | .gd _ _ _,_,hv,_=>by cases hv
 | .off,_,hv,_=>by cases hv
 | .undef,_,hv,_=>by cases hv
theorem Aen:∀{l:List PV} {cs:List Value},zA.go l=true->Bk.go B w L l cs->Bk.go B w L' l cs
 |[],cs,_,h=>h
 |a::l,cs,hv,⟨c1,c2,e,h1,h2⟩=>by
  simp only[zA.go,CT]at hv;exact⟨c1,c2,e,y_ hv.1 h1,Aen hv.2 h2⟩
end
theorem Akv(hr:Rel Z s σs A L σ w){i:Nat}{T:TypeId}{v:PV}(hi:Dj s.it i= .box T v)(hv:zA v=true):
  ∃b cells A',L[i]? =some (.box b cells T)/\Rel Z ((s.Xz i .dead).sub i .any) σs A' (L.set i .dead) σ w/\A' b/\Z.R b/\w.heap[b]? =some (.cells cells.toArray T (0,0))/\Bk (λb=>A' b/\Z.R b) w [] v cells:=by
 have hm:=hr.mem;obtain⟨b,cells,h1,h2⟩:=hm.box hi;obtain⟨o,ho,h3,h4⟩:=(St.front hr (hr.Ki h1)).mobs;obtain⟨rfl,hb⟩:=ho;have hR:Z.R b:=by
  rcases NC b Z.w0.heap.size with hlt|hge
  ·exact Z.mod b (WY λhM=>(h3 b rfl).1 (hr.old hlt hM).1)
  ·exact Z.new b hge
 have hs:St (λk=>A k\/some b=some k) w [Pp Z.R L s σs σ, .old Z.M Z.w0] ((L.map MD.Ki).eraseIdx i):=by
  refine⟨λk hk=>hk.elim (St.lt hr k) λe=>(h3 k e).2,λf hf=>f.step (St.facts hr f hf) (λ_ h=> .inl h) (λ_ _=>rfl) (.refl _),h4⟩
 have hs2:=Ea.nY (hs.a! 1 0) (bF (m':=MD.dead.Ki) (hr.Ki h1));have hm2:MemR (λk=>(A k\/some b=some k)/\Z.R k) w L s σs σ:=hs2.fact 0 rfl;have hf:Frz (λk=>(A k\/some b=some k)/\Z.R k) w L i .any:=⟨(λz E' v' c' h=>by rw[h1]at h;cases h),rfl,rfl⟩;refine⟨b,cells,λk=>A k\/some b=some k,h1,Rel.as hs2 (i:=1) rfl (hm2.subst hf) (by rw[TU]), .inr rfl,hR,hb,y_ hv (Bk.step (λb hb=>⟨.inl hb.1,hb.2⟩) (λ_ _=>rfl) (.refl L) h2)⟩
structure ItC where
 T:TypeId
 e:ET
 F:PV->Option (List e.T)
structure ItOk (P:Program) (gl:List (Nat×List Value)) (gf:Nat) (c:ItC):Prop where
 ent:Ent P gf
 ok:∀(m:Nat) (B:Reg) (w:World) (b:Nat) (v:PV) (cells:List Value) (xs:List c.e.T),(∀k,B k->k<w.heap.size)->B b->w.heap[b]? =some (.cells cells.toArray c.T (0,0))->Bk B w [] v cells->GlOk gl B w->c.F v=some xs->
  Bhj P m gf #[.pointer (some ⟨b,0,none⟩)] xs.length (λi V W v=>∀x,xs[i]? =some x->Ln V W [] (.val c.e x) v) B w
def Qa:Code->Bool
 | .rangeFunc _ _ _ _=>false
 | .seq a b=>Qa a&&Qa b
 | .cond _ a b=>Qa a&&Qa b
 | .block _ a=>Qa a
 | .loop a=>Qa a
 | .scope a=>Qa a
 |_=>true
def rnd{R α:Type}(an:An)(body:(S->Option R)->α->S->Option R)(kn:S->Option R):List α->S->Option R
 |[],s=>kn s
 |x::xs,s=>body (eE an (rnd an body kn xs)) x s
def RH{R:Type}(k:S->Option R)(s:S):Option R:=match s.st with|sl::st=>k ⟨sl,s.it,st⟩|[]=>none
def Am:List (Nat×ItC)->Nat->Option ItC|[],_=>none|(g,c)::r,f=>Dk (Nat.beq g f) (some c)<|Am r f
noncomputable def uG{R:Type}(P:Program)(T:Tab)(inl:P1 R)(n:Nat)(p:Nat)(assign body:Code)(an:An)(k:K R)(e:ET)(kn:S->Option R)(x:e.T)(s:S):Option R:=
 ex P T inl n assign an.r {n:=λs2=>ex P T inl n body an.l ⟨RH kn,λid=>RH (k.x id),RH k.r⟩ s2,x:=λ_ _=>none,r:=λ_=>none} ⟨WG s.sl p (.val e x),s.it,s.sl::s.st⟩
noncomputable def iq{R:Type}(P:Program)(T:Tab)(inl:P1 R)(n:Nat)(its:List (Nat×ItC))(g:Operand)(ps:Array Tmp)(assign body:Code)(an:An)(k:K R)(s:S):Option R:=
 match Fh s.sl g with
 | .fn gf caps=>match caps with
  |[.ptr i []]=>match ps.toList with
   |[p]=>match Dj s.it i with
    | .box T' v=>match Am its gf with
     |some c=>Dk (Nat.beq T' c.T&&zA v&&Nat.blt p n) (Option.bind (c.F v) λxs=>eE an (rnd an (uG P T inl n p assign body an k c.e) k.n xs) ((s.Xz i .dead).sub i .any)) none
     |none=>none
    |_=>none
   |_=>none
  |_=>none
 |_=>none
noncomputable def exF{R:Type}(P:Program)(T:Tab)(inl:P1 R)(n:Nat)(its:List (Nat×ItC)):Code->An->K R->S->Option R
 | .seq a b,an,k,s=>match Qa a with
  |true=>ex P T inl n a an.l {k with n:=K? an λs'=>exF P T inl n its b an.r k s'} s
  |false=>exF P T inl n its a an.l {k with n:=K? an λs'=>ex P T inl n b an.r k s'} s
 | .block id a,an,k,s=>exF P T inl n its a an.l {k with x:=λid' s'=>Dk (Nat.beq id' id) (k.n s')<|k.x id' s'} s
 | .rangeFunc g ps assign body,an,k,s=>iq P T inl n its g ps assign body an k s
 |c,an,k,s=>ex P T inl n c an k s
def mark(D:Nat):Deferred:={target:= .collected D,args:= #[]}
def W!:Option Nat->List Deferred|none=>[]|some D=>[mark D]
def W2(P:Program)(n:Nat)(c:Code)(Q:Exit->Env->World->Option Nat->Prop)(σ:Env)(w:World):Prop:=
 ∀(m:Nat) (a:Act),Fits [] n a σ->c.wpIn (wr none) m P (λe a' w'=>∃σ' D,Fits (W! D) n a' σ'/\Q e σ' w' D) a w
variable {R:Type} {r:R} {T:Tab} {inl:P1 R}
def QK2(Z:Fix)(σs:List Env)(k:K R)(r:R)(e:Exit)(σ':Env)(w':World)(D:Option Nat):Prop:=
 ∃s' A' L',kof k e s'=some r/\Rel Z s' σs A' L' σ' w'/\∀d,D=some d->w'.heap[d]? =some (.deferred (some []))/\ ¬A' d/\Z.w0.heap.size<=d
def kx(k:K R):Code->S->Option R| .ret=>k.r| .exit id=>k.x id|_=>λ_=>none
theorem Agy{f:Nat}{c:ItC}:∀{its:List (Nat×ItC)},Am its f=some c-> (f,c)∈its
 |[],h=>by simp[Am]at h
 |(g,a)::its,h=>by
  simp only[Am]at h;cases hb:Nat.beq g f with
  |true=>have:=Di hb;subst this;rw[hb]at h;cases h;exact .head _
  |false=>rw[hb]at h;exact .tail _ (Agy h)
theorem Bii{k:S->Option R}(h:eE an k s=some r):∃lv co s',s.cn lv co=some s'/\k s'=some r:=by
 unfold eE at h;split at h
 ·split at h
  ·rename_i s2 hs2;exact⟨_,_,s2,hs2,h⟩
  ·cases h
 ·cases h
theorem At8{its:List (Nat×ItC)}{k:K R}(h:iq P T inl n its g ps assign body an k s=some r):
  ∃gf i p v c xs,Fh s.sl g= .fn gf [.ptr i []]/\ps.toList=[p]/\Dj s.it i= .box c.T v/\Am its gf=some c/\zA v=true/\Nat.blt p n=true/\c.F v=some xs/\
   eE an (rnd an (uG P T inl n p assign body an k c.e) k.n xs) ((s.Xz i .dead).sub i .any)=some r:=by
 unfold iq at h;split at h
 ·rename_i gf caps hg;split at h
  ·rename_i i;split at h
   ·rename_i p hps;split at h
    ·rename_i T' v hi;split at h
     ·rename_i c hc;obtain⟨hcond,h'⟩:=Be h;simp only[CT]at hcond;obtain⟨⟨hT',hpl⟩,hpn⟩:=hcond;obtain⟨xs,hF,h2⟩:=Go.Lv.bind_some h';exact⟨gf,i,p,v,c,xs,hg,hps,by rw[hi,Di hT'],hc,hpl,hpn,hF,h2⟩
     ·cases h
    ·cases h
   ·cases h
  ·cases h
 ·cases h
theorem Ayg(cX:P.follows .mixedOrders=true)(hT:pL P T Z)(hI:HI P T.gl inl){its:List (Nat×ItC)}(hits:∀p∈its,ItOk P T.gl p.1 p.2){k:K R}
  (h:iq P T inl n its g ps assign body an k s=some r) (hr:Rel Z s σs A L σ w):W2 P n (.rangeFunc g ps assign body) (QK2 Z σs k r) σ w:=by
 intro m a ha;obtain⟨gf,i,p,v,c,xs,hg,hps,hi,hc,hpl,hpn,hF,hrun⟩:=At8 h;clear h;have hit:=hits _ (Agy hc);have hg1:=Amw (by rw[<-hg];exact Uo hr.mem.sl g (by rw[hg];rfl));obtain⟨us,hgv,v0,_,rfl,hp0,rfl⟩:=hg1;obtain⟨b,cells,A1,hLb,hr1,hA1b,hRb,hcell,henc⟩:=Akv hr hi hpl;have hv0:v0= .pointer (some ⟨b,0,none⟩):=by
  obtain⟨md,b',e1,e2,e3⟩:=(show Bk (λb=>A b/\Z.R b) w L (.ptr i []) [v0]from hp0);rw[hLb]at e1;cases e1;cases e2;simpa [Bc]using e3
 subst hv0;have hB1:∀k,(A1 k/\Z.R k)->k<w.heap.size:=λk hk=>St.lt hr1 k hk.1;have hseq:=hit.ok (m-1) (λk=>A1 k/\Z.R k) w b v cells xs hB1 ⟨hA1b,hRb⟩ hcell henc
  (λq hq=>by rw[<-hT.2]at hq;obtain⟨g1,T1,fr,g2⟩:=hr1.SO hq;exact⟨lt_of_heap g2,g1,T1,fr,g2⟩) hF
 have hps':ps= #[p]:=by rw[<-Array.toArray_toList (xs:=ps),hps]
 subst hps';have hrow2:∀(A:Reg) (W:World) (o o':Obj),¬A w.heap.size-> ¬A (w.heap.size+1)->W.heap[w.heap.size]? =some o->o.isCells=false->W.heap[w.heap.size+1]? =some o'->o'.isCells=false->Rows Z A W (λk=>k=w.heap.size\/k=w.heap.size+1):=λA W o o' h1 h2 h3 h4 h5 h6=>
  ⟨λk hk=>by rcases hk with rfl|rfl<;>assumption,λk hk=>by have:=hr.gr0.le;rcases hk with rfl|rfl<;>omega,λk hk=>by rcases hk with rfl|rfl<;>exact⟨_,by assumption,by assumption⟩⟩
 refine Ayt (gf:=gf) (lb:= #[.pointer (some ⟨b,0,none⟩)]) (by rw[ha.eval];exact hgv) hit.ent hseq rfl
  (λi V W=>∃s A L,eE an (rnd an (uG P T inl n p assign body an k c.e) k.n (xs.drop i)) s=some r/\Rel Z s σs A L σ W/\ (∀b,V b->A b/\Z.R b)/\ ¬A w.heap.size/\ ¬A (w.heap.size+1))
  (λc W=>∃s A L,kx k c s=some r/\Rel Z s σs A L σ W/\ ¬A w.heap.size/\ ¬A (w.heap.size+1))
  ?hI ?hIx ?hIr ?ZR ?hV ?h0 ?qJ ?hdone ?hstop
 case hI=>
  rintro i V X Y ⟨s',A',L',h1,h2,h3,h4,h5⟩ hX hk;refine⟨s',λb=>A' b\/ (X.heap.size<=b/\b<Y.heap.size),L',h1,h2.grow hk (λ_ h=> .inl h) (λ_ h=>h),λb hb=>?_,?_,?_⟩
  ·rcases hb with h|h
   ·exact⟨.inl (h3 b h).1,(h3 b h).2⟩
   ·exact⟨.inr h,Z.new b (RZ h2.gr0.le h.1)⟩
  ·rintro(h|h)
   ·exact h4 h
   ·omega
  ·rintro(h|h)
   ·exact h5 h
   ·omega
 case hIx=>
  rintro c X Y ⟨s',A',L',h1,h2,h3,h4⟩ hk;exact⟨s',A',L',h1,h2.grow hk (λ_ h=>h) (λ_ h=> .inl h),h3,h4⟩
 case hIr=>
  rintro i V X rr rr' ⟨s',A',L',h1,h2,h3,h4,h5⟩ hX;exact⟨s',A',L',h1,h2.row h5 hX rfl,h3,h4,h5⟩
 case ZR=>
  rintro c X rr rr' ⟨s',A',L',h1,h2,h3,h4⟩ hX;exact⟨s',A',L',h1,h2.row h4 hX rfl,h3,h4⟩
 case hV=>
  rintro i V W ⟨s',A',L',h1,h2,h3,h4,h5⟩ hV;exact h5 (h3 _ hV).1
 case h0=>
  intro W hk;refine⟨_,A1,_,hrun,hr1.grow hk (λ_ h=>h) (λ_ h=> .inl h),λb hb=>hb,λh=>?_,λh=>?_⟩
  ·have:=St.lt hr1 _ h;omega
  ·have:=St.lt hr1 _ h;omega
 case hdone=>
  rintro V W ⟨s',A',L',h1,h2,h3,h4,h5⟩ hD;rw[MT]at h1;obtain⟨lv,co,s2,hcn,h1⟩:=Bii h1;have hX:Rows Z A' W (λk=>k=w.heap.size):=⟨λk hk=>by subst hk;exact h4,λk hk=>by subst hk;exact hr.gr0.le,λk hk=>by subst hk;exact⟨_,hD,rfl⟩⟩;obtain⟨A2,L2,hr2⟩:=Z7 (T! h2 hX) hcn;obtain⟨g1,g2,g3,g4⟩:=O2 h2 hX hr2;exact⟨σ,some w.heap.size,⟨ha.size,by simp[W!,mark,ha.defers],ha.get⟩,s2,_,L2,h1,g1,λd hd=>by cases hd;exact⟨hD,λh=>h.2 rfl,hr.gr0.le⟩⟩
 case hstop=>
  rintro c W ⟨s',A',L',h1,h2,h3,h4⟩ hD;have key:∀e,kof k e s'=some r->∃σ' D,Fits (W! D) n {a with defers:={target:= .collected w.heap.size,args:= #[]}::a.defers} σ'/\QK2 Z σs k r e σ' W D:=λe he=>
   ⟨σ,some w.heap.size,⟨ha.size,by simp[W!,mark,ha.defers],ha.get⟩,s',A',L',he,h2,λd hd=>by cases hd;exact⟨hD,h3,hr.gr0.le⟩⟩
  cases c<;>first
   |exact wpIn_ret (key .ret h1)
   |exact wpIn_exit (key (.exit _) h1)
   |cases h1
 case qJ=>
  rintro i V W v rr hi ⟨s',A',L',h1,h2,h3,h4,h5⟩ hE hl hD;have hX:=hrow2 A' W _ _ h4 h5 hD rfl hl rfl;have hin:=T! h2 hX;obtain⟨lv,co,s2,hcn,h1⟩:=Bii h1;obtain⟨A2,L2,hr2⟩:=Z7 hin hcn;obtain⟨x,hx⟩:∃x,xs[i]? =some x:=⟨_,HS hi⟩;have hdrop:xs.drop i=x::xs.drop (i+1):=by rw[tE hi];congr 1;rw[HS hi]at hx;exact HE hx
  rw[hdrop]at h1;have h1':uG P T inl n p assign body an k c.e (eE an (rnd an (uG P T inl n p assign body an k c.e) k.n (xs.drop (i+1)))) x s2=some r:=h1;unfold uG at h1';have hlt:=lt_of_heap hl;have hA2:∀b,A' b->A2 b:=λb hb=>(hr2.old (Z:=Z.sub h2 _ hX) (St.lt h2 b hb) (λhM=>hM.2.1 hb)).1;have hval:Gi (λb=>A2 b/\ (Z.sub h2 _ hX).R b) W L2 (.val c.e x) v:=by
   refine(Mu (Ln.step (B:=V) (w:=W) (L:=[]) (λb hb=>⟨hA2 b (h3 b hb).1,(h3 b hb).2,λh=>?_⟩) (λb hb=>rfl) (by have:=pI.append [] L2;rwa [HB]at this) (hE x hx))).2;rcases h with rfl|rfl
   ·exact h4 (h3 _ hb).1
   ·exact h5 (h3 _ hb).1
  have hr3:Rel (Z.sub h2 _ hX) ⟨WG s2.sl p (.val c.e x),s2.it,s2.sl::s2.st⟩ (σ::σs) A2 L2 (Xz σ p v) W:=
   Rel.as hr2 (i:=1) rfl ⟨hr2.mem.it,hr2.mem.sl.set (Kh.put rfl hval),hr2.mem.sl,hr2.mem.stk⟩ rfl
  have hfit:Fits [] n ({tmps:=((#[p]:Array Tmp).zip #[v]).foldl (λt (p,v)=>t.setIfInBounds p v) a.tmps,defers:=[]}:Act) (Xz σ p v):=by
   have hp:=ha.put hpn v;exact⟨by simpa [Act.put]using hp.size,rfl,by simpa [Act.put]using hp.get⟩
  refine JA (jg (Z:=Z.sub h2 _ hX) cX ⟨hT.1,hT.2⟩ hI assign h1' hr3 (some (w.heap.size+1)) (m-1-1) [] _ hfit) ?_;rintro e a2 W2 ⟨σ2,hf2,s3,A3,L3,hk3,hr3'⟩;cases e with
  |normal=>
   have hk3':ex P T inl n body an.l ⟨RH (eE an (rnd an (uG P T inl n p assign body an k c.e) k.n (xs.drop (i+1)))),λid=>RH (k.x id),RH k.r⟩ s3=some r:=hk3;obtain⟨g1,g2,g3,g4⟩:=O2 h2 hX hr3';refine⟨λb hb=>g3 b (by rcases hb with h|h|h;exact .inl (.inl h);exact .inl (.inr h);exact .inr (h3 b h).1),g4,λr'=>?_⟩;have hl2:W2.heap[w.heap.size+1]? =some (.loop rr):=(g3 _ (.inl (.inr rfl))).trans hl;have hD2:W2.heap[w.heap.size]? =some (.deferred (some [])):=(g3 _ (.inl (.inl rfl))).trans hD;have hnl:¬(A3 (w.heap.size+1)/\ ¬(w.heap.size+1=w.heap.size\/w.heap.size+1=w.heap.size+1)):=λh=>h.2 (.inr rfl);have hnD:¬(A3 w.heap.size/\ ¬(w.heap.size=w.heap.size\/w.heap.size=w.heap.size+1)):=λh=>h.2 (.inl rfl);have hr4:=Rel.row (o':= .loop r') g1 hnl hl2 rfl;have hl3:(W2.putObj (w.heap.size+1) (.loop r')).heap[w.heap.size+1]? =some (.loop r'):=tI (lt_of_heap hl2);have hD3:(W2.putObj (w.heap.size+1) (.loop r')).heap[w.heap.size]? =some (.deferred (some [])):=(RM F0).trans hD2;have hX3:=hrow2 (λb=>A3 b/\ ¬(b=w.heap.size\/b=w.heap.size+1)) _ _ _ hnD hnl hD3 rfl hl3 rfl;refine JA (jg (Z:=Z.sub hr4 _ hX3) cX ⟨hT.1,hT.2⟩ hI body hk3' (T! hr4 hX3) (some (w.heap.size+1)) (m-1-1) [] a2 hf2) ?_;rintro e a5 W5 ⟨σ5,hf5,s5,A5,L5,hk5,hr5⟩;have pop:∀(kk:S->Option R),RH kk s5=some r->∃s6 A6,kk s6=some r/\Rel Z s6 σs A6 L5 σ W5/\ (∀b,A3 b/\ ¬(b=w.heap.size\/b=w.heap.size+1)->A6 b)/\ ¬A6 w.heap.size/\ ¬A6 (w.heap.size+1):=by
    intro kk hkk;unfold RH at hkk;split at hkk
    ·rename_i sl st hst;have SU:=hr5.mem.stk;rw[hst]at SU;have hr6:Rel (Z.sub hr4 _ hX3) ⟨sl,s5.it,st⟩ σs A5 L5 σ W5:=Rel.as hr5 (i:=1) rfl ⟨hr5.mem.it,SU.1,SU.2⟩ rfl;obtain⟨q1,q2,q3,q4⟩:=O2 hr4 hX3 hr6;exact⟨_,_,hkk,q1,q2,λh=>h.2 (.inl rfl),λh=>h.2 (.inr rfl)⟩
    ·cases hkk
   obtain⟨_,_,q3,q4⟩:=O2 hr4 hX3 hr5;cases e with
   |normal=>
    obtain⟨s6,A6,p1,p2,p3,p4,p5⟩:=pop _ hk5;refine⟨λb hb=>q3 b ?_,q4,s6,A6,L5,p1,p2,λb hb=>⟨p3 b (g2 b (h3 b hb).1),(h3 b hb).2⟩,p4,p5⟩;rcases hb with h|h|h
    ·exact .inl (.inl h)
    ·exact .inl (.inr h)
    ·exact .inr (g2 b (h3 b h).1)
   |ret=>
    obtain⟨s6,A6,p1,p2,p3,p4,p5⟩:=pop _ hk5;exact⟨λb hb=>q3 b (.inl hb),q4,s6,A6,L5,p1,p2,p4,p5⟩
   |exit id=>
    obtain⟨s6,A6,p1,p2,p3,p4,p5⟩:=pop _ hk5;exact⟨λb hb=>q3 b (.inl hb),q4,s6,A6,L5,p1,p2,p4,p5⟩
   |goto t=>cases hk5
   |panic ch=>cases hk5
   |outgrown=>cases hk5
  |ret=>cases hk3
  |exit id=>cases hk3
  |goto t=>cases hk3
  |panic ch=>cases hk3
  |outgrown=>cases hk3
theorem QK2.exit{e:Exit}{k k':K R}{σ':Env}{w':World}{D:Option Nat}(h:QK2 Z σs k r e σ' w' D)(he:∀s,kof k e s=some r->kof k' e s=some r):QK2 Z σs k' r e σ' w' D:=by
 obtain⟨s',A',L',h1,h2⟩:=h;exact⟨s',A',L',he _ h1,h2⟩
theorem Bdg(cX:P.follows .mixedOrders=true)(hT:pL P T Z)(hI:HI P T.gl inl){its:List (Nat×ItC)}(hits:∀p∈its,ItOk P T.gl p.1 p.2):∀(c:Code) {an:An} {k:K R} {s:S} {A:Reg} {L:List MD} {σ:Env} {w:World},
  exF P T inl n its c an k s=some r->Rel Z s σs A L σ w->W2 P n c (QK2 Z σs k r) σ w:=by
 have dflt:∀(c:Code) {an:An} {k:K R} {s:S} {A:Reg} {L:List MD} {σ:Env} {w:World},ex P T inl n c an k s=some r->Rel Z s σs A L σ w->W2 P n c (QK2 Z σs k r) σ w:=by
  intro c an k s A L σ w h hr m a ha;refine JA (jg cX hT hI c h hr none m [] a ha) ?_;rintro e a' w' ⟨σ',hf,s',A',L',h1,h2⟩;exact⟨σ',none,hf,s',A',L',h1,h2,λd hd=>by cases hd⟩
 intro c
 induction c with
 |seq a b iha ihb=>
  intro an k s A L σ w h hr m act ha;simp only[exF]at h;split at h
  ·refine wpIn_seq (JA (jg cX hT hI a h hr none m [] act ha) ?_);rintro e a' w' ⟨σ',hf,s',A',L',h1,hr'⟩;cases e with
   |normal=>
    have h2:K? an (λs'=>exF P T inl n its b an.r k s') s'=some r:=h1;unfold K? at h2;split at h2
    ·split at h2
     ·rename_i s2 hs2;obtain⟨A2,L2,hr2⟩:=Z7 hr' hs2;exact ihb h2 hr2 m a' hf
     ·cases h2
    ·exact ihb h2 hr' m a' hf
   |_=>exact⟨σ',none,hf,s',A',L',h1,hr',λd hd=>by cases hd⟩
  ·refine wpIn_seq (JA (iha h hr m act ha) ?_);rintro e a' w' ⟨σ',D,hf,s',A',L',h1,hr',hD⟩;cases e with
   |normal=>
    have h2:K? an (λs'=>ex P T inl n b an.r k s') s'=some r:=h1;have hX:Rows Z A' w' (λk=>D=some k):=⟨λk hk=>(hD k hk).2.1,λk hk=>(hD k hk).2.2,λk hk=>⟨_,(hD k hk).1,rfl⟩⟩;have fin:∀{s2:S} {A2:Reg} {L2:List MD},ex P T inl n b an.r k s2=some r->Rel (Z.sub hr' _ hX) s2 σs A2 L2 σ' w'->b.wpIn (wr none) m P (λe a' w'=>∃σ' D,Fits (W! D) n a' σ'/\QK2 Z σs k r e σ' w' D) a' w':=by
     intro s2 A2 L2 h3 hr2;refine JA (jg (Z:=Z.sub hr' _ hX) cX ⟨hT.1,hT.2⟩ hI b h3 hr2 none m (W! D) a' hf) ?_;rintro e a'' w'' ⟨σ'',hf',s3,A3,L3,h4,hr3⟩;obtain⟨g1,g2,g3,g4⟩:=O2 hr' hX hr3;exact⟨σ'',D,hf',s3,_,L3,h4,g1,λd hd=>⟨(g3 d (.inl hd)).trans (hD d hd).1,λh=>h.2 hd,(hD d hd).2.2⟩⟩
    unfold K? at h2;split at h2
    ·split at h2
     ·rename_i s2 hs2;obtain⟨A2,L2,hr2⟩:=Z7 (T! hr' hX) hs2;exact fin h2 hr2
     ·cases h2
    ·exact fin h2 (T! hr' hX)
   |_=>exact⟨σ',D,hf,s',A',L',h1,hr',hD⟩
 |block id a iha=>
  intro an k s A L σ w h hr m act ha;refine wpIn_block (JA (iha (an:=an.l) (k:={k with x:=λid' s'=>Dk (Nat.beq id' id) (k.n s')<|k.x id' s'}) h hr m act ha) ?_);rintro e a' w' ⟨σ',D,hf,hq⟩;cases e with
  |exit id'=>
   simp only[Exit.inBlock];obtain⟨s',A',L',h1,hr'⟩:=hq;have h2:(Dk (Nat.beq id' id) (k.n s')<|k.x id' s')=some r:=h1;by_cases hid:id'=id
   ·rw[B0 hid];subst hid;simp at h2;exact⟨σ',D,hf,s',A',L',h2,hr'⟩
   ·rw[B! hid];have hb:Nat.beq id' id=false:=by
     cases hb:Nat.beq id' id with
     |false=>rfl
     |true=>exact absurd (Di hb) hid
    rw[hb]at h2;exact⟨σ',D,hf,s',A',L',h2,hr'⟩
  |_=>exact⟨σ',D,hf,hq⟩
 |rangeFunc g ps assign body _ _=>intro an k s A L σ w h hr;exact Ayg cX hT hI hits h hr
 |_=>intro an k s A L σ w h hr;exact dflt _ (by simpa only[exF]using h) hr
theorem Asq{vs:List Value}(hle:Nat.ble vs.length fn.ntmps=true):Fits [] fn.ntmps {tmps:=vs.toArray++Array.replicate (fn.ntmps-vs.toArray.size) undef,defers:=[]} (xI vs):=by
 have hle':vs.length<=fn.ntmps:=by simpa using hle
 refine⟨by simp;omega,rfl,λt=>?_⟩;simp only[xI,KL,D9,Array.getElem?_append,LN,P2];by_cases ht:t<vs.length
 ·simp[ht]
 ·rw[B! ht,P3 F0];by_cases h2:t-vs.length<fn.ntmps-vs.length
  ·simp[jZ,h2]
  ·simp[jZ,h2]
noncomputable def iw(P:Program)(T:Tab)(ans:List (Nat×An))(its:List (Nat×ItC))(f:Func)(an:An)(ps rs:List Sh)(x:KP (Ya ps)):Option (KP (Ya rs)):=
 match f.body,args ps x with
 |some c,some vs=>exF P T (OZ P T 8 ans) f.ntmps its c an {n:=wU P rs f.results.toList,x:=λ_ _=>none,r:=wU P rs f.results.toList} ⟨EB 0 vs,OG ps x,[]⟩
 |_,_=>none
theorem Ag2(cX:P.follows .mixedOrders=true){f:Nat}{ans:List (Nat×An)}{its:List (Nat×ItC)}{ps rs:List Sh}{F:KP (Ya ps)->Option (KP (Ya rs))}(hf:P.funcs[f]? =some fn)(hE:Ent P f)(hT:NK P T)(hA:∀p∈ans,Ent P p.1)
  (hits:∀p∈its,ItOk P T.gl p.1 p.2) (hle:Nat.ble ps.length fn.ntmps=true) (h:∀x,iw P T ans its fn an ps rs x=F x):ConOk P T.gl f ⟨ps,rs,F⟩:=by
 cases hc:fn.body with
 |none=>
  refine XX (RUN:=λ_=>none) (fn:=fn) hE (λx y pvs hx hy=>?_) (λ_ _ _ _ _ _ _ _ _ _ _ h=>by cases h);rw[<-h x]at hy;unfold iw at hy;rw[hc]at hy;exact hy
 |some c=>
  refine XX (T:=T) (fn:=fn) (RUN:=exF P T (OZ P T 8 ans) fn.ntmps its c an {n:=wU P rs fn.results.toList,x:=λ_ _=>none,r:=wU P rs fn.results.toList}) hE (λx y pvs hx hy=>?_) ?_
  ·rw[<-h x]at hy;unfold iw at hy;rw[hc,hx]at hy;exact hy
  ·intro Z A L w s y vs Q hZ hr hl hy fin;refine(callsIn_wide (n:=4)).1 (callsIn_of_wp_marks hf hc trivial (JA (Bdg cX ⟨hT,hZ⟩ (H2 cX hT hA 8) hits c hy hr 4 _ (Asq (by rw[hl];exact hle))) ?_) rfl);rintro e a' w' ⟨σ',D,hf',s',A',L',h1,hr',hD⟩;have key:wU P rs fn.results.toList s'=some y->LeavesInM (wr none) 4 P fn a'.tmps Q a'.defers .returning w':=by
    intro h1;rw[hf'.defers];cases D with
    |none=>
     obtain⟨us,h2,h3⟩:=fin s' A' L' σ' w' h1 hr';exact⟨_,dB B7 hf' h2,h3⟩
    |some d=>
     obtain⟨g1,g2,g3⟩:=hD d rfl;obtain⟨us,h2,h3⟩:=fin s' A' L' σ' _ h1 (hr'.row (o':= .deferred none) g2 g1 rfl);exact⟨B7, .inl ⟨d,_,rfl,run_takeDeferred g1,_,dB B7 hf' h2,h3⟩⟩
   cases e with
   |normal=>exact key h1
   |ret=>exact key h1
   |exit id=>cases h1
   |goto l=>cases h1
   |panic c=>cases h1
   |outgrown=>cases h1
end Go.Rx
