/- A part of the proof of a statement of this seat (see the text that ends in Proof): RxPath, RxOp2, RxOp3, RxOp4, RxOp5, RxOp6, RxCon, RxCall, RxU, RxBnd, RxOps, RxD, RxCut, RxMain, RxRun, RxPt, RxTab, RxHd, RxRow, RxAgg, RxOpn. No conditions of its own. -/
import Derived.Test.YtidigmkmfmopgaaGreatDoorDfBA
import Derived.ProofKit
import Derived.LaidMore
import Derived.DataReads
set_option linter.unusedVariables false
set_option linter.unusedSimpArgs false
namespace Go.Rx
open Go Go.Lv
variable {P:Program} {B:Reg} {w w':World} {L L':List MD} {s:S} {σs:List Env} {σ:Env} {Z:Fix} {A A':Reg} {n:Nat}
theorem Bs.get{α:Type}{f:α→List Value→Prop}{z:Nat}(hz:∀x c,f x c→c.length=z):∀{l:List α} {i:Nat} {x:α} {cs:List Value},Bs f l cs→l[i]? =some x→
  ∃c1 c2 c3,cs=c1++(c2++c3)∧c1.length=i*z∧f x c2∧∀y c2',f y c2'→Bs f (l.set i y) (c1++(c2'++c3))
 |[],_,_,_,_,h=>by simp at h
 |a::l,0,x,cs,⟨c1,c2,e,h1,h2⟩,h=>by
  simp at h;subst h
  exact⟨[],c1,c2,by simpa using e,by simp,h1,fun y c2' hy=>⟨c2',c2,by simp,hy,h2⟩⟩
 |a::l,i+1,x,cs,⟨c1,c2,e,h1,h2⟩,h=>by
  obtain⟨d1,d2,d3,e',h3,h4,h5⟩:=Bs.get hz (i:=i) h2 (by simpa using h)
  refine⟨c1++d1,d2,d3,by rw[e,e'];simp,by rw[List.length_append,hz _ _ h1,h3,Nat.succ_mul];omega,h4,fun y c2' hy=>?_⟩
  exact⟨c1,d1++(c2'++d3),by simp,h1,h5 y c2' hy⟩
theorem Bs.append{α:Type}{f:α→List Value→Prop}:∀{l m:List α} {cs ds:List Value},Bs f l cs→Bs f m ds→Bs f (l++m) (cs++ds)
 |[],m,cs,ds,h,h'=>by rw[show cs=[]from h];exact h'
 |a::l,m,cs,ds,⟨c1,c2,e,h1,h2⟩,h'=>⟨c1,c2++ds,by rw[e];simp,h1,Bs.append h2 h'⟩
theorem Ap.one:∀{e:ET} {x:e.T} {cs:List Value},Ap B w e x cs→∀v∈cs,v.oneCell'=true
 | .int k,x,cs,h,v,hv=>by rw[show cs=_ from h]at hv;simp at hv;subst hv;rfl
 | .bool,x,cs,h,v,hv=>by rw[show cs=_ from h]at hv;simp at hv;subst hv;rfl
 | .str,x,cs,h,v,hv=>by rw[show cs=_ from h]at hv;simp at hv;subst hv;rfl
 | .list e,l,cs,⟨u,c0,e1,h,_⟩,v,hv=>by
  rw[e1]at hv;simp at hv;subst hv
  obtain⟨p,len,cap,rfl,_⟩:=h;rfl
 | .vec n e,l,cs,⟨_,h⟩,v,hv=>by
  have key:∀(l:List e.T) (cs:List Value),Bs (Ap B w e) l cs→v∈cs→v.oneCell'=true:=by
   intro l
   induction l with
   |nil=>intro cs h hv;rw[show cs=[]from h]at hv;simp at hv
   |cons a l ih=>
    rintro cs ⟨c1,c2,e',h1,h2⟩ hv
    subst e'
    rcases List.mem_append.1 hv with hv|hv
    ·exact Ap.one h1 v hv
    ·exact ih _ h2 hv
  exact key l cs h hv
 | .cons a r,x,cs,⟨c1,c2,e,h1,h2⟩,v,hv=>by
  subst e
  rcases List.mem_append.1 hv with hv|hv
  ·exact Ap.one h1 v hv
  ·exact Ap.one h2 v hv
 | .nil,_,cs,h,v,hv=>by rw[show cs=[]from h]at hv;simp at hv
theorem Bs.one{e:ET}:∀{l:List e.T} {cs:List Value},Bs (Ap B w e) l cs→∀v∈cs,v.oneCell'=true
 |[],cs,h,v,hv=>by rw[show cs=[]from h]at hv;simp at hv
 |a::l,cs,⟨c1,c2,e',h1,h2⟩,v,hv=>by
  subst e'
  rcases List.mem_append.1 hv with hv|hv
  ·exact h1.one v hv
  ·exact Bs.one h2 v hv
theorem Bs.Boz{e:ET}{l:List e.T}{cs:List Value}(h:Bs (Ap B w e) l cs):cs.all (·.oneCell')=true:=List.all_eq_true.2 h.one
theorem Bgw{R:Type}{k:PV→Option R}{r:R}:∀{p:List Step} {v:PV} {cs:List Value},Brx v p k=some r→EncC B w L v cs→
  ∃u c1 c2 c3,k u=some r∧cs=c1++(c2++c3)∧c1.length=Am p∧EncC B w L u c2
 |[],v,cs,h,hv=>⟨v,[],cs,[],by simpa [Brx]using h,by simp,rfl,hv⟩
 | .fld m off::p,v,cs,h,hv=>by
  cases v<;>simp only[Brx,reduceCtorEq]at h
  rename_i l
  split at h
  ·rename_i f hf
   obtain⟨hb,h⟩:=Ar h
   obtain⟨c1,c2,c3,e,h1,h2,_⟩:=EncC.field (show EncC.go B w L l cs from hv) hf
   obtain⟨u,d1,d2,d3,hk,e',h3,h4⟩:=Bgw h h2
   refine⟨u,c1++d1,d2,d3++c3,hk,by rw[e,e'];simp,?_,h4⟩
   rw[List.length_append,h1,h3,By hb];rfl
  ·cases h
 | .idx j z::p,v,cs,h,hv=>by
  cases v<;>simp only[Brx,reduceCtorEq]at h
  rename_i e x
  split at h
  ·rename_i m a l
   obtain⟨hb,h⟩:=Ar h
   obtain⟨y,hy,h⟩:=bind_some h
   obtain⟨hj,_,hl⟩:=Iz hy
   obtain⟨c1,c2,c3,e,h1,h2,_⟩:=Bs.get (fun x c h=>Ap.len h) (show Bs (Ap B w a) l cs from hv.2) hl
   obtain⟨u,d1,d2,d3,hk,e',h3,h4⟩:=Bgw h (Apj.2 h2)
   refine⟨u,c1++d1,d2,d3++c3,hk,by rw[e,e'];simp,?_,h4⟩
   rw[List.length_append,h1,h3,By hb];rfl
  ·cases h
def Azt(B:Reg)(w:World)(L:List MD):Item→List Value→Prop
 | .box _ v,cs=>EncC B w L v cs
 | .arr _ e l,cs=>Bs (Ap B w e) l cs
 | .dead,_=>False
theorem Biw{R:Type}{k:PV→Option R}{r:R}{a:Item}{p:List Step}{cs:List Value}(h:getRoot a p k=some r)(hv:Azt B w L a cs):
  ∃u c1 c2 c3,k u=some r∧cs=c1++(c2++c3)∧c1.length=Am p∧EncC B w L u c2:=by
 unfold getRoot at h
 split at h
 ·exact Bgw h hv
 ·rename_i E e l j z p
  obtain⟨hb,h⟩:=Ar h
  obtain⟨y,hy,h⟩:=bind_some h
  obtain⟨hj,_,hl⟩:=Iz hy
  obtain⟨c1,c2,c3,e',h1,h2,_⟩:=Bs.get (fun x c h=>Ap.len h) (show Bs (Ap B w e) l cs from hv) hl
  obtain⟨u,d1,d2,d3,hk,e'',h3,h4⟩:=Bgw h (Apj.2 h2)
  refine⟨u,c1++d1,d2,d3++c3,hk,by rw[e',e''];simp,?_,h4⟩
  rw[List.length_append,h1,h3,By hb];rfl
 ·cases h
theorem As5{c1 c2 c3 ns:List Value}(h:ns.length=c2.length):Ax (c1++(c2++c3)) c1.length ns=c1++(ns++c3):=by
 unfold Ax
 rw[List.take_left,h,←List.drop_drop,List.drop_left,List.drop_left]
theorem Aq5{c1 c2 c3 ns:List Value}{o:Nat}(hc:c1.length=o)(off:Nat)(h:off+ns.length≤c2.length):Ax (c1++(c2++c3)) (o+off) ns=c1++(Ax c2 off ns++c3):=by
 subst hc
 unfold Ax
 rw[List.take_length_add_append,List.take_append_of_le_length (by omega),Nat.add_assoc,←List.drop_drop,List.drop_left,List.drop_append_of_le_length (by omega)]
 simp
theorem Bbw{R:Type}{new:PV}{ns:List Value}(hn:EncC B w L new ns){r:R}:∀{p:List Step} {v:PV} {cs:List Value} {k:PV→Option R},Boy new v p k=some r→EncC B w L v cs→
  ∃v',k v'=some r∧Am p+ns.length≤cs.length∧EncC B w L v' (Ax cs (Am p) ns)
 |[],v,cs,k,h,hv=>by
  simp only[Boy]at h
  obtain⟨hb,h⟩:=Ar h
  have h1:=hn.len
  have h2:=hv.len
  have h3:=By hb
  refine⟨new,h,by simp[Am];omega,?_⟩
  have:Ax cs 0 ns=ns:=by
   unfold Ax
   rw[List.take_zero,List.nil_append,List.drop_of_length_le (by omega),List.append_nil]
  rw[show Am []=0 from rfl,this];exact hn
 | .fld m off::p,v,cs,k,h,hv=>by
  cases v<;>simp only[Boy,reduceCtorEq]at h
  rename_i l
  split at h
  ·rename_i f hf
   obtain⟨hb,h⟩:=Ar h
   obtain⟨c1,c2,c3,e,h1,h2,h3⟩:=EncC.field (show EncC.go B w L l cs from hv) hf
   obtain⟨f',hk,h4,h5⟩:=Bbw hn h h2
   have ho:Am (.fld m off::p)=c1.length+Am p:=by rw[h1,By hb];rfl
   refine⟨_,hk,by rw[ho,e];simp;omega,?_⟩
   rw[ho,e,Aq5 rfl _ h4]
   exact h3 f' _ h5
  ·cases h
 | .idx j z::p,v,cs,k,h,hv=>by
  cases v<;>simp only[Boy,reduceCtorEq]at h
  rename_i e x
  split at h
  ·rename_i m a l
   obtain⟨hb,h⟩:=Ar h
   have hz:=By hb
   have key:∀(y y':a.T) (l':List a.T) (f:List Value→List Value),getI l j=some y→Jj l j y'=some l'→(∀c2,Ap B w a y c2→Am p+ns.length≤c2.length∧Ap B w a y' (Ax c2 (Am p) ns))→
     Am (.idx j z::p)+ns.length≤cs.length∧EncC B w L (.val (.vec m a) l') (Ax cs (Am (.idx j z::p)) ns):=by
    intro y y' l' f hy hs hyp
    obtain⟨hj,hlt,hl⟩:=Iz hy
    obtain⟨_,_,rfl⟩:=Aqj hs
    obtain⟨c1,c2,c3,e,h1,h2,h3⟩:=Bs.get (fun x c h=>Ap.len h) (show Bs (Ap B w a) l cs from hv.2) hl
    obtain⟨h4,h5⟩:=hyp c2 h2
    have ho:Am (.idx j z::p)=c1.length+Am p:=by rw[h1,hz];rfl
    refine⟨by rw[ho,e];simp;omega,?_⟩
    rw[ho,e,Aq5 rfl _ h4]
    exact⟨by rw[List.length_set];exact hv.1,h3 y' _ h5⟩
   split at h
   ·split at h
    ·rename_i y' hy'
     obtain⟨l',hs,h⟩:=bind_some h
     obtain⟨hj,hlt,_⟩:=Aqj hs
     have hg:getI l j=some l[j.toNat]:=by
      unfold getI;rw[if_pos (by omega)];simp[hlt]
     obtain⟨h1,h2⟩:=key _ y' l' id hg hs (fun c2 hc2=>by
      have e1:=(Anu hy' hn).len
      have e2:=hc2.len
      refine⟨by simp[Am];omega,?_⟩
      have:Ax c2 0 ns=ns:=by
       unfold Ax
       rw[List.take_zero,List.nil_append,List.drop_of_length_le (by omega),List.append_nil]
      rw[show Am []=0 from rfl,this];exact Anu hy' hn)
     exact⟨_,h,h1,h2⟩
    ·cases h
   ·obtain⟨y,hy,h⟩:=bind_some h
    obtain⟨hj,hlt,hl⟩:=Iz hy
    obtain⟨c1,c2,c3,e,h1,h2,h3⟩:=Bs.get (fun x c h=>Ap.len h) (show Bs (Ap B w a) l cs from hv.2) hl
    obtain⟨q,hk,h4,h5⟩:=Bbw hn h (Apj.2 h2)
    split at hk
    ·rename_i y' hy'
     obtain⟨l',hs,hk⟩:=bind_some hk
     obtain⟨_,_,rfl⟩:=Aqj hs
     have ho:Am (.idx j z::p)=c1.length+Am p:=by rw[h1,hz];rfl
     refine⟨_,hk,by rw[ho,e];simp;omega,?_⟩
     rw[ho,e,Aq5 rfl _ h4]
     exact⟨by rw[List.length_set];exact hv.1,h3 y' _ (Anu hy' h5)⟩
    ·cases hk
  ·cases h
def sameKind:Item→Item→Prop| .box T _, .box T' _=>T'=T| .arr E e _, .arr E' e' _=>E'=E∧e'=e|_,_=>False
theorem Bt5{R:Type}{new:PV}{ns:List Value}(hn:EncC B w L new ns){r:R}{a:Item}{p:List Step}{cs:List Value}{k:Item→Option R}(h:Bg7 new a p k=some r)(hv:Azt B w L a cs):
  ∃a',k a'=some r∧Am p+ns.length≤cs.length∧Azt B w L a' (Ax cs (Am p) ns)∧sameKind a a':=by
 unfold Bg7 at h
 split at h
 ·obtain⟨v',hk,h1,h2⟩:=Bbw hn h hv
  exact⟨_,hk,h1,h2,rfl⟩
 ·rename_i E a l j z p
  obtain⟨hb,h⟩:=Ar h
  have hz:=By hb
  split at h
  ·split at h
   ·rename_i y' hy'
    obtain⟨l',hs,h⟩:=bind_some h
    obtain⟨hj,hlt,rfl⟩:=Aqj hs
    have hl:l[j.toNat]? =some l[j.toNat]:=by simp[hlt]
    obtain⟨c1,c2,c3,e,h1,h2,h3⟩:=Bs.get (fun x c h=>Ap.len h) (show Bs (Ap B w a) l cs from hv) hl
    have e1:=(Anu hy' hn).len
    have e2:=h2.len
    have ho:Am [.idx j z]=c1.length:=by rw[h1,hz];rfl
    refine⟨_,h,by rw[ho,e];simp;omega,?_,rfl,rfl⟩
    rw[ho,e,As5 (by omega)]
    exact h3 y' _ (Anu hy' hn)
   ·cases h
  ·obtain⟨y,hy,h⟩:=bind_some h
   obtain⟨hj,hlt,hl⟩:=Iz hy
   obtain⟨c1,c2,c3,e,h1,h2,h3⟩:=Bs.get (fun x c h=>Ap.len h) (show Bs (Ap B w a) l cs from hv) hl
   obtain⟨q,hk,h4,h5⟩:=Bbw hn h (Apj.2 h2)
   split at hk
   ·rename_i y' hy'
    obtain⟨l',hs,hk⟩:=bind_some hk
    obtain⟨_,_,rfl⟩:=Aqj hs
    have ho:Am (.idx j z::p)=c1.length+Am p:=by rw[h1,hz];rfl
    refine⟨_,hk,by rw[ho,e];simp;omega,?_,rfl,rfl⟩
    rw[ho,e,Aq5 rfl _ h4]
    exact h3 y' _ (Anu hy' h5)
   ·cases hk
 ·cases h
end Go.Rx
set_option linter.unusedVariables false
set_option linter.unusedSimpArgs false
namespace Go.Rx
open Go Go.Lv
variable {P:Program} {w w':World} {L L':List MD} {s:S} {σs:List Env} {σ:Env} {Z:Fix} {A A':Reg} {n:Nat} {ops:Array Oper} {rest:List Oper} {K:Env→World→Prop}
variable {R:Type} {k:S→Option R} {r:R} {d:Option Nat} {ty:TypeId} {pos:String} {after:Array Edge}
theorem WL.Bt4{o:Oper}{v:Value}{w':World}(hg:o.guard=none)(hdn:Jv n o=true)
  (hx:(execOp (ev σ) o).run P w= .ok (.value v) w') (h:WL P n ops rest K (Bz6 σ o.dst v) w'):WL P n ops (o::rest) K σ w:=by
 intro ds a ha
 refine wpList_plain hg fun K' hK'=>?_
 unfold Oper.wp
 rw[ha.eval,hx]
 refine hK' _ _ ?_
 cases hd:o.dst with
 |none=>rw[hd]at h;exact h _ _ (ha.Bje v)
 |some d=>
  rw[hd]at h
  unfold Jv at hdn
  rw[hd]at hdn
  exact h _ _ (ha.put hdn v)
def Bll(Z:Fix)(σs:List Env)(k:S→Option R)(r:R)(G:Prop)(A:Reg)(L:List MD)(it:List Item)(w:World)(σ':Env)(w':World):Prop:=
 ∃s' A' L',k s'=some r∧Rel Z s' σs A' L' σ' w'∧(G→Grow A L it w A' L' s'.it w')
abbrev Ach(P:Program)(n:Nat)(ops:Array Oper)(o:Oper)(Z:Fix)(s:S)(σs:List Env)(k:S→Option R)(r:R)(G:Prop)(A:Reg)(L:List MD)(σ:Env)(w:World):Prop:=
 WL P n ops [o] (Bll Z σs k r G A L s.it w) σ w
theorem Dl{o:Op}{p:PV}{val:Value}{G:Prop}(hr:Rel Z s σs A L σ w)(hd:Jv n ⟨d,o,ty,pos,after,none⟩=true)(hx:XO P σ w o val)(hv:p.isV=true)(h:Dy (fun b=>A b∧Z.R b) w L p val)
  (hk:k (s.Gb d p)=some r):Ach P n ops ⟨d,o,ty,pos,after,none⟩ Z s σs k r G A L σ w:=by
 refine WL.Bt4 rfl hd (hx _ _ _ _ _) (WL.nil ⟨_,A,L,hk,hr.Gb hv h,fun _=>?_⟩)
 have:(s.Gb d p).it=s.it:=by cases d<;>rfl
 rw[this];exact .refl
theorem Ah2{p:PV}{j:Int}{v:Value}{B:Reg}(h:Auq p=some j)(hv:Dy B w L p v):∃q,v= .int q j:=by
 unfold Auq at h
 split at h
 ·rename_i e x
  split at h
  ·cases h;exact⟨_,Ald hv⟩
  ·cases h
 ·cases h
theorem Aoa{p:PV}{j:Int}(h:Auq p=some j):p.isV=true:=by unfold Auq at h;split at h;rfl;cases h
theorem Biv{p:PV}{j:Int}{v:Value}{B:Reg}(h:asInt p=some j)(hv:Dy B w L p v):v=iv j:=by
 unfold asInt at h
 split at h
 ·rename_i e x
  split at h
  ·rename_i q y
   split at h
   ·cases h;exact Ald hv
   ·cases h
  ·cases h
 ·cases h
theorem Bpj{p:PV}{j:Int}(h:asInt p=some j):p.isV=true:=by unfold asInt at h;split at h;rfl;cases h
theorem Ll{o:Option Operand}{dflt j:Int}{B:Reg}(hm:SlotsR B w L σ s.sl)(h:Apd s.sl o dflt=some j):(∃q,o.map (ev σ)=some (.int q j))∨(o=none∧j=dflt):=by
 unfold Apd at h
 split at h
 ·cases h;exact .inr ⟨rfl,rfl⟩
 ·rename_i x
  obtain⟨q,hq⟩:=Ah2 h (Rj hm x (Aoa h))
  exact .inl ⟨q,by rw[Option.map_some,hq]⟩
theorem X.Cer{t:TypeId}{x ix:Operand}{l:List UInt8}{j:Int}{q:IntKind}{y:UInt8}(ht:P.underlying t=some .string)(hx:ev σ x=sv l)(hi:ev σ ix= .int q j)(hg:getI l j=some y):
  XO P σ w (.index t x ix) (iv y):=fun _ _ _ _ _=>by
 obtain⟨h1,h2,h3⟩:=Iz hg
 have h4:=run_index_string (P:=P) w t ⟨l.toArray⟩ q j ht
 have h5:0≤j∧j<(⟨l.toArray⟩:ByteArray).size:=by simp[ByteArray.size];omega
 rw[dif_pos h5]at h4
 have h6:(⟨l.toArray⟩:ByteArray)[j.toNat]'(by simp[ByteArray.size];omega)=y:=by
  have e1:l[j.toNat]=y:=by rw[List.getElem?_eq_getElem h2]at h3;simpa using h3
  rw[←e1]
  rfl
 simp only[execOp,hx,hi,Sem.run_bind,h4,Result.andThen_ok,Sem.run_pure,Bx2]
 rw[h6]
theorem Cib{t et:TypeId}{m:Nat}{e:ET}{x ix:Operand}{l:List e.T}{j:Int}{q:IntKind}{y:e.T}{cs:List Value}{B:Reg}(ht:P.underlying t=some (.array m et))(hsz:SizeIs P et e.size)
  (hag:∃u,P.underlying et=some u∧aggB u=(e.pv y).isA) (h1:(e.pv y).isA=false→e.size=1) (hlen:l.length=m)
  (hx:ev σ x= .agg cs.toArray) (hl:Bs (Ap B w e) l cs) (hi:ev σ ix= .int q j) (hg:getI l j=some y):∃val,XO P σ w (.index t x ix) val∧EncV B w L (e.pv y) val:=by
 obtain⟨h3,h4,h5⟩:=Iz hg
 obtain⟨c1,c2,c3,he,h6,h7,_⟩:=Bs.get (fun x c h=>Ap.len h) hl h5
 have h8:0≤j∧j<(m:Int):=by omega
 obtain⟨u,hu,ha⟩:=hag
 have hc2:=h7.len
 cases hA:(e.pv y).isA with
 |true=>
  refine⟨.agg c2.toArray,fun _ _ _ _ _=>?_,by unfold EncV;rw[hA];exact⟨c2,rfl,Apj.2 h7⟩⟩
  have e1:(cs.drop (j.toNat*e.size)).take e.size=c2:=by rw[he,←h6,←hc2];simp
  simp[execOp,hx,hi,Instr.index,asIntOf,run_underlying ht,h8,Bf hsz,asAgg,part,El hu (ha.trans hA),e1]
 |false=>
  rw[h1 hA]at hc2
  match c2,hc2 with
  |[v],_=>
   refine⟨v,fun _ _ _ _ _=>?_,by unfold EncV;rw[hA];exact Apj.2 h7⟩
   have e1:cs[j.toNat*e.size]? =some v:=by rw[he,←h6];simp
   simp[execOp,hx,hi,Instr.index,asIntOf,run_underlying ht,h8,Bf hsz,asAgg,part,El hu (ha.trans hA),e1]
theorem Td{t et:TypeId}{b o len cap z:Nat}{j:Int}{q:IntKind}{x ix:Operand}(ht:P.underlying t=some (.slice et))(hsz:SizeIs P et z)(hx:ev σ x= .slice (some ⟨b,o,none⟩) len cap)(hi:ev σ ix= .int q j)
  (h0:0≤j) (h1:j<len) (w:World):XO P σ w (.indexAddr t x ix) (.pointer (some ⟨b,o+j.toNat*z,none⟩)):=fun _ _ _ _ _=>by
 simp only[execOp,hx,hi,Instr.indexAt,Sem.run_bind,asIntOf,Sem.run_pure,Result.andThen_ok,run_underlying ht,h0,h1,and_self,if_true,Bf hsz,My]
theorem Apl{t et:TypeId}{b o m z:Nat}{j:Int}{q:IntKind}{x ix:Operand}(ht:P.underlying t=some (.array m et))(hsz:SizeIs P et z)(hx:ev σ x= .pointer (some ⟨b,o,none⟩))(hi:ev σ ix= .int q j)
  (h0:0≤j) (h1:j<m) (w:World):XO P σ w (.indexAddr t x ix) (.pointer (some ⟨b,o+j.toNat*z,none⟩)):=fun _ _ _ _ _=>by
 simp only[execOp,hx,hi,Instr.indexAt,Instr.sureAddr,Sem.run_bind,asIntOf,Sem.run_pure,Result.andThen_ok,run_underlying ht,h0,h1,and_self,if_true,Bf hsz,My]
theorem Eo{t:TypeId}{i:TypeInfo}{z:Nat}(h:P.info? t=some i)(hz:Nat.beq i.size z=true):SizeIs P t z:=⟨i,h,By hz⟩
theorem Rel.base(hr:Rel Z s σs A L σ w){i z:Nat}{E:TypeId}{v:Value}{cs:List Value}(h:L[i]? =some (.own z E v cs))(hne:0<cs.length):∃b len cap,v= .slice (some ⟨b,0,none⟩) len cap∧cs.length=len*z:=by
 obtain⟨b,m,c,hv,_⟩:=St.Bpg hr (hr.Hs h) hne
 obtain⟨p,len,cap,h1,h2,_⟩:=hr.Vf h
 subst hv;cases h1
 exact⟨b,m,c,rfl,h2⟩
theorem Asn(st:Step):∀(p:List Step),Am (p++[st])=Am p+Ax2 st
 |[]=>by simp[Am]
 |a::p=>by simp[Am,Asn st p,Nat.add_assoc]
theorem Buw{t:TypeId}{x ix:Operand}{G:Prop}(hr:Rel Z s σs A L σ w)(hd:Jv n ⟨d, .indexAddr t x ix,ty,pos,after,none⟩=true)(h:Bd8 P s d t x ix k=some r):
  Ach P n ops ⟨d, .indexAddr t x ix,ty,pos,after,none⟩ Z s σs k r G A L σ w:=by
 have hm:=hr.mem
 unfold Bd8 at h
 split at h
 ·cases h
 ·rename_i j hj
  obtain⟨q,hix⟩:=Ah2 hj (Rj hm.sl ix (Aoa hj))
  split at h
  ·rename_i et ht
   split at h
   ·cases h
   ·rename_i inf hinf
    split at h
    ·rename_i e0 l0 hx
     split at h
     ·rename_i e l
      obtain⟨hb,h⟩:=Ar h
      simp only[Bool.and_eq_true]at hb
      obtain⟨y,hy,h⟩:=bind_some h
      obtain⟨hj0,hj1,hj2⟩:=Iz hy
      obtain⟨c0,h1,h2⟩:=Aa1 (Cr hm.sl hx rfl)
      obtain⟨p,len,cap,h3,h4,h5,h6,h7⟩:=h1
      have hlen:=h2.len fun x c h=>Ap.len h
      have hz:0<e.size:=by have:=Nat.le_of_ble_eq_true hb.2;omega
      have hl:len=l.length:=Nat.eq_of_mul_eq_mul_right hz (h4.symm.trans hlen)
      subst hl
      obtain⟨b,off,arr,T,fr,rfl,hB,hbl,hcap,hc⟩:=h7 (by omega)
      obtain⟨c1,c2,c3,he,h8,h9,_⟩:=Bs.get (fun x c h=>Ap.len h) h2 hj2
      have h10:c2.length=e.size:=h9.len
      have h11:(j.toNat+1)*e.size≤l.length*e.size:=Nat.mul_le_mul_right _ hj1
      rw[Nat.succ_mul]at h11
      have hp:Bnv (fun b=>A b∧Z.R b) w (.pointer (some ⟨b,off+j.toNat*e.size,none⟩)) c2:=by
       refine⟨b,off+j.toNat*e.size,arr,T,fr,rfl,hB,hbl,fun q hq=>?_⟩
       rw[Nat.add_assoc,hc _ (by omega),he,List.getElem?_append_right (by omega),h8,show j.toNat*e.size+q-j.toNat*e.size=q by omega,List.getElem?_append_left hq]
      have hvr:Dy (fun b=>A b∧Z.R b) w L (.rptr (e.pv y)) (.pointer (some ⟨b,off+j.toNat*e.size,none⟩)):=⟨_,c2,rfl,hp,Apj.2 h9⟩
      exact Dl hr hd (Td ht (Eo hinf hb.1) h3 hix (by omega) (by omega) w) rfl hvr h
     ·cases h
    ·rename_i i hx
     split at h
     ·rename_i E e l hi
      obtain⟨hb,h⟩:=Ar h
      simp only[Bool.and_eq_true]at hb
      obtain⟨y,hy,h⟩:=bind_some h
      obtain⟨hj0,hj1,hj2⟩:=Iz hy
      obtain⟨v,cs,h1,h2⟩:=hm.arr hi
      obtain⟨z',E',c',h3⟩:=Ag6 (Cr hm.sl hx rfl)
      rw[h1]at h3;cases h3
      have hlen:=h2.len fun x c h=>Ap.len h
      have hz:0<e.size:=by have:=Nat.le_of_ble_eq_true hb.2;omega
      have hpos:0<cs.length:=by rw[hlen];exact Nat.mul_pos (by omega) hz
      obtain⟨b,len,cap,h4,h5⟩:=hr.base h1 hpos
      have hl:len=l.length:=Nat.eq_of_mul_eq_mul_right hz (h5.symm.trans hlen)
      subst hl
      have:=Td ht (Eo hinf hb.1) h4 hix (by omega) (by omega) w
      refine Dl hr hd this rfl ?_ h
      rw[show(0:Nat)+j.toNat*e.size=Am [.idx j e.size] by simp[Am,Ax2]]
      refine Ahb h1 ?_
      rw[h4];rfl
     ·cases h
    ·rename_i o i p e lo n' hx
     obtain⟨hb,h⟩:=Ar h
     simp only[Bool.and_eq_true]at hb
     obtain⟨_,hok,h⟩:=bind_some h
     have hj':0≤j∧j<n':=of_decide_eq_true (Yl hok)
     obtain⟨md,v1,h3,h4,k1,k2,⟨pt,cap,k3,k4,k5,k6⟩,_⟩:=Cr hm.sl hx rfl
     have h6:ev σ x=v1:=by simpa using h4
     obtain⟨b,e1,rfl⟩:=k6 (by omega)
     have:=Td ht (Eo hinf hb.1) (h6.trans k3) hix hj'.1 (by omega) w
     refine Dl hr hd this rfl ?_ h
     rw[show Am p+lo.toNat*e.size+j.toNat*e.size=Am (p++[.idx (lo+j) e.size]) by
      rw[Asn,Nat.add_assoc,←Nat.add_mul]
      show _=Am p+(lo+j).toNat*e.size
      rw[Int.toNat_add k1 hj'.1]]
     exact Ahb h3 e1
    ·cases h
  ·rename_i m et ht
   split at h
   ·cases h
   ·rename_i inf hinf
    split at h
    ·rename_i i p hx
     split at h
     ·rename_i T v hi
      split at h
      ·rename_i e0 l0 hg
       split at h
       ·rename_i m' e l
        obtain⟨hb,h⟩:=Ar h
        simp only[Bool.and_eq_true]at hb
        obtain⟨y,hy,h⟩:=bind_some h
        obtain⟨hj0,hj1,hj2⟩:=Iz hy
        obtain⟨b,cells,h1,h2⟩:=hm.box hi
        obtain⟨c1,c2,c3,he,h3,h4⟩:=Asg hg h2
        obtain⟨md,b',h5,h6,h7⟩:=Yj (Cr hm.sl hx rfl)
        rw[h1]at h5;cases h5;cases h6
        have hl:l.length=m:=(show l.length=m'∧_ from h4).1.trans (By hb.2)
        have:=Apl ht (Eo hinf hb.1.1) h7 hix (by omega) (by omega) w
        refine Dl hr hd this rfl ?_ h
        rw[show Am p+j.toNat*e.size=Am (p++[.idx j e.size]) by simp[Am6,Am,Ax2]]
        exact Ahb h1 rfl
       ·cases h
      ·cases h
     ·cases h
    ·cases h
  ·cases h
def MD.cells:MD→List Value| .box _ c _=>c| .own _ _ _ c=>c| .dead=>[]
theorem Rel.cells(hr:Rel Z s σs A L σ w){i b:Nat}{md:MD}(h:L[i]? =some md)(hb:md.base=some b):∀j,j<md.cells.length→w.cell? ⟨b,j,none⟩=md.cells[j]? :=by
 intro j hj
 cases md with
 |dead=>cases hb
 |box b' cells T=>cases hb;rw[cell_of (St.box hr (hr.Hs h))];simp[MD.cells]
 |own z E v cells=>
  obtain⟨b',m,c,hv,hs'⟩:=St.Bpg hr (hr.Hs h) (by simp[MD.cells]at hj;omega)
  subst hv
  cases hb
  obtain⟨o,rfl,h2⟩:=Mobs.mem (A:=A) hs'.mobs (i:=i) (m:= .at_ b z E m c cells) (by rw[List.getElem?_set_self (by simpa using(List.getElem?_eq_some_iff.1 h).1)])
  obtain⟨_,len,cap,e,h3,_,_,_,h6⟩:=h2
  obtain⟨arr,fr,_,hb,_,_,hc⟩:=h6 b rfl
  rw[cell_of hb]
  exact hc j (by rw[←h3];exact hj)
theorem Awl{t:TypeId}{u:PV}{x:Operand}{c2:List Value}{b off:Nat}{B:Reg}(h:OkLoad P t u)(hu:EncC B w L u c2)
  (hx:ev σ x= .pointer (some ⟨b,off,none⟩)):∃val,EncV B w L u val∧∀w':World,(∀j,j<c2.length→w'.cell? ⟨b,off+j,none⟩=c2[j]?)→XO P σ w' (.load t x) val:=by
 obtain⟨d,hd,ha⟩:=h.agg
 have hlen:=hu.len
 cases hA:u.isA with
 |true=>
  refine⟨.agg c2.toArray,by unfold EncV;rw[hA];exact⟨c2,rfl,hu⟩,fun w' hc _ _ _ _ _=>?_⟩
  have h1:=Ls (P:=P) (w:=w') (b:=b) (off:=off) c2 hc
  rw[hlen]at h1
  simp only[execOp,hx,Instr.loadAt,Instr.sureAddr,Sem.run_bind,Sem.run_pure,Result.andThen_ok,loadVar,El hd (ha.trans hA),if_true,Bf h.size,h1]
 |false=>
  have h1:=h.one hA
  rw[h1]at hlen
  match c2,hlen with
  |[v],_=>
   refine⟨v,by unfold EncV;rw[hA];exact hu,fun w' hc _ _ _ _ _=>?_⟩
   have h2:w'.cell? ⟨b,off,none⟩=some v:=by simpa using hc 0 (by simp)
   simp only[execOp,hx,Instr.loadAt,Instr.sureAddr,Sem.run_bind,Sem.run_pure,Result.andThen_ok,loadVar,El hd (ha.trans hA),Bool.false_eq_true,if_false,Agc h2]
theorem Bkf{t:TypeId}{u:PV}{x:Operand}{c2:List Value}{b off:Nat}{B:Reg}(h:OkLoad P t u)(hu:EncC B w L u c2)(hc:∀j,j<c2.length→w.cell? ⟨b,off+j,none⟩=c2[j]?)
  (hx:ev σ x= .pointer (some ⟨b,off,none⟩)):∃val,EncV B w L u val∧XO P σ w (.load t x) val:=by
 obtain⟨val,h1,h2⟩:=Awl (P:=P) (σ:=σ) h hu hx
 exact⟨val,h1,h2 w hc⟩
def Cjx:Item→MD→Prop| .box T _,md=>∃b c,md= .box b c T| .arr E e _,md=>∃v c,md= .own e.size E v c| .dead,_=>False
def Yi(off:Nat)(ns:List Value):MD→MD→Prop
 | .box b c T,md'=>md'= .box b (Ax c off ns) T
 | .own z E v c,md'=>md'= .own z E v (Ax c off ns)
 | .dead,_=>False
theorem MemR.root{B:Reg}(hm:MemR B w L s σs σ){i:Nat}{md:MD}(h:L[i]? =some md)(hd:Bw s.it i≠ .dead):Azt B w L (Bw s.it i) md.cells∧Cjx (Bw s.it i) md:=by
 obtain⟨md',h1,h2⟩:=hm.item rfl hd
 rw[h]at h1;cases h1
 revert h2 hd
 cases Bw s.it i with
 |dead=>intro hd _;exact absurd rfl hd
 |box T v=>
  intro _ h2
  cases md with
  |box b c T'=>obtain⟨rfl,h3⟩:=h2;exact⟨h3,b,c,rfl⟩
  |_=>exact h2.elim
 |arr E e l=>
  intro _ h2
  cases md with
  |own z E' v c=>obtain⟨rfl,rfl,h3⟩:=h2;exact⟨h3,v,c,rfl⟩
  |_=>exact h2.elim
theorem Cgd{t:TypeId}{x:Operand}{G:Prop}(hr:Rel Z s σs A L σ w)(hd:Jv n ⟨d, .load t x,ty,pos,after,none⟩=true)(h:But P s d t x k=some r):
  Ach P n ops ⟨d, .load t x,ty,pos,after,none⟩ Z s σs k r G A L σ w:=by
 have hm:=hr.mem
 unfold But at h
 split at h
 ·rename_i i p hx
  obtain⟨md,b,h1,h2,h3⟩:=Yj (Cr hm.sl hx rfl)
  have hne:Bw s.it i≠ .dead:=by intro e;rw[e]at h;simp[getRoot]at h
  obtain⟨h4,_⟩:=hm.root h1 hne
  obtain⟨u,c1,c2,c3,hk,he,h5,h6⟩:=Biw h h4
  obtain⟨hb,hk⟩:=Ar hk
  have hc:=hr.cells h1 h2
  obtain⟨val,h7,h8⟩:=Bkf (P:=P) (σ:=σ) (x:=x) (b:=b) (off:=Am p) (Qe hb) h6 (fun j hj=>by
   rw[hc _ (by rw[he];simp;omega),he,List.getElem?_append_right (by omega),h5,show Am p+j-Am p=j by omega,List.getElem?_append_left hj]) h3
  obtain⟨hv,hv'⟩:=Jb h7
  exact Dl hr hd h8 hv hv' hk
 ·cases h
mutual
theorem EncC.one{B:Reg}:∀{p:PV} {cs:List Value},EncC B w L p cs→L.all (fun m=>match m with| .own _ _ v _=>v.oneCell'|_=>true)=true→∀v∈cs,v.oneCell'=true
 | .val e x,cs,h,_,v,hv=>Ap.one (show Ap B w e x cs from h) v hv
 | .agg l,cs,h,hL,v,hv=>EncC.Ay8 (show EncC.go B w L l cs from h) hL v hv
 | .tup _,_,h,_,_,_=>h.elim
 | .nils,cs,h,_,v,hv=>by rw[show cs=_ from h]at hv;simp at hv;subst hv;rfl
 | .own i,cs,⟨z,E,u,c,h1,h2⟩,hL,v,hv=>by
  rw[h2]at hv;simp at hv;subst hv
  exact List.all_eq_true.1 hL _ (List.mem_of_getElem? h1)
 | .ptr i p,cs,⟨_,_,_,_,h⟩,_,v,hv=>by rw[h]at hv;simp at hv;subst hv;rfl
 | .rptr q,cs,⟨pv,_,h,⟨_,_,_,_,_,e,_⟩,_⟩,_,v,hv=>by rw[h]at hv;simp at hv;subst hv;rw[e];rfl
 | .fn f caps,cs,⟨_,h,_⟩,_,v,hv=>by rw[h]at hv;simp at hv;subst hv;rfl
 | .cst u,cs,h,_,v,hv=>by rw[show cs=_ from h.1]at hv;simp at hv;subst hv;exact h.2
 | .any,cs,⟨u,h,h'⟩,_,v,hv=>by rw[h]at hv;simp at hv;subst hv;exact h'
 | .view _ _ _ _ _ _,cs,⟨_,u,_,h,_,_,⟨_,_,e,_⟩,_⟩,_,v,hv=>by rw[h]at hv;simp at hv;subst hv;rw[e];rfl
 | .gd _ _ _,_,h,_,_,_=>h.elim
 | .off,_,h,_,_,_=>h.elim
 | .undef,_,h,_,_,_=>h.elim
theorem EncC.Ay8{B:Reg}:∀{l:List PV} {cs:List Value},EncC.go B w L l cs→L.all (fun m=>match m with| .own _ _ v _=>v.oneCell'|_=>true)=true→∀v∈cs,v.oneCell'=true
 |[],cs,h,_,v,hv=>by rw[show cs=[]from h]at hv;simp at hv
 |a::q,cs,⟨c1,c2,e,h1,h2⟩,hL,v,hv=>by
  subst e
  rcases List.mem_append.1 hv with hv|hv
  ·exact EncC.one h1 hL v hv
  ·exact EncC.Ay8 h2 hL v hv
end
theorem Rel.Ay8(hr:Rel Z s σs A L σ w):L.all (fun m=>match m with| .own _ _ v _=>v.oneCell'|_=>true)=true:=by
 refine List.all_eq_true.2 fun m hm=>?_
 obtain⟨i,hi,he⟩:=List.getElem_of_mem hm
 cases m with
 |own z E v c=>
  obtain⟨p,len,cap,rfl,_⟩:=hr.Vf (i:=i) (by rw[List.getElem?_eq_getElem hi,he])
  rfl
 |_=>rfl
theorem Amg{p:PV}{v:Value}{B:Reg}(hr:Rel Z s σs A L σ w)(h:EncV B w L p v):∃cs:List Value,v.cells=cs.toArray∧EncC B w L p cs:=by
 unfold EncV asV at h
 split at h
 ·obtain⟨cs,rfl,h⟩:=h;exact⟨cs,rfl,h⟩
 ·refine⟨[v],?_,h⟩
  have:=h.one hr.Ay8 v (.head _)
  cases v<;>first|rfl|cases this
theorem LeL.own{i z:Nat}{E:TypeId}{v:Value}{cs cs':List Value}(h:L[i]? =some (.own z E v cs)):LeL L (L.set i (.own z E v cs')):=
 LeL.set h (fun _ _ _ _ e=>by cases e;exact⟨_,_,_,rfl⟩) (fun b hb=>by
  unfold MD.base at hb⊢
  split at hb
  ·rename_i e;cases e
  ·rename_i e;cases e;exact hb
  ·cases hb)
theorem LeL.box{i b:Nat}{T:TypeId}{cs cs':List Value}(h:L[i]? =some (.box b cs T)):LeL L (L.set i (.box b cs' T)):=
 LeL.set h (fun _ _ _ _ e=>by cases e) (fun b hb=>hb)
theorem Boa{i:Nat}{md:MD}(h:L[i]? =some md):(L.map MD.Hs)[i]? =some md.Hs:=by simp[h]
theorem Bzu{t:TypeId}{a x:Operand}{i b off z:Nat}{md:MD}{v:Value}{ns:List Value}{K:Env→World→Prop}{F:List Fact}(hr:St A w F (L.map MD.Hs))(h:L[i]? =some md)(hb:md.base=some b)
  (hsz:SizeIs P t z) (ha:ev σ a= .pointer (some ⟨b,off,none⟩)) (hx:ev σ x=v) (hv:v.cells=ns.toArray) (hl:ns.length=z) (h1:ns.all (·.oneCell')=true) (hle:off+z≤md.cells.length) (hz:0<z)
  (hK:∀(w':World) (md':MD),St A w' F ((L.map MD.Hs).set i md'.Hs)→Yi off ns md md'→K σ w'):
  WL P n ops [⟨none, .store t a x,ty,pos,after,none⟩] K σ w:=by
 cases md with
 |dead=>cases hb
 |box b' cells T=>
  cases hb
  exact WL.Bzj hr (Boa h) hsz ha hx hv hl h1 (by simpa [Nat.ble_eq,MD.cells]using hle) rfl rfl (fun w' hs'=>WL.nil (hK w' (.box b (Ax cells off ns) T) hs' rfl))
 |own z' E u cells=>
  obtain⟨b',m,c,hu,hs'⟩:=St.Bpg hr (Boa h) (by simp[MD.cells]at hle;omega)
  subst hu
  cases hb
  have hlen:i<(L.map MD.Hs).length:=by simpa using(List.getElem?_eq_some_iff.1 h).1
  have hL1:((L.map MD.Hs).set i (.at_ b z' E m c cells))[i]? =some (.at_ b z' E m c cells):=by rw[List.getElem?_set_self hlen]
  refine WL.Cbu hs' hL1 hsz ha hx hv hl h1 hle rfl rfl (fun w' hs2=>WL.nil ?_)
  have hs3:=hs2.Cle (i:=i) (b:=b) (s:=z') (m:=m) (c:=c) (E:=E) (cs:=Ax cells off ns) (by rw[List.getElem?_set_self (by simpa using hlen)])
  rw[List.set_set,List.set_set]at hs3
  exact hK w' (.own z' E (.slice (some ⟨b,0,none⟩) m c) (Ax cells off ns)) hs3 rfl
end Go.Rx
set_option linter.unusedVariables false
set_option linter.unusedSimpArgs false
namespace Go.Rx
open Go Go.Lv
variable {P:Program} {B:Reg} {w w':World} {L L':List MD} {s:S} {σs:List Env} {σ:Env} {Z:Fix} {A A':Reg} {n:Nat} {ops:Array Oper} {rest:List Oper} {K:Env→World→Prop}
variable {R:Type} {k:S→Option R} {r:R} {d:Option Nat} {ty:TypeId} {pos:String} {after:Array Edge}
structure Frz (B:Reg) (w:World) (L:List MD) (i:Nat) (m:PV):Prop where
 enc:∀z E v c,L[i]? =some (.own z E v c)→EncC B w (L.set i .dead) m [v]
 isA:m.isA=false
 isV:m.isV=true
theorem Bnj{i:Nat}{m p:PV}(hm:m.isA=false):(subst i m p).isA=p.isA:=by
 cases p<;>try rfl
 ·rename_i j
  simp only[subst]
  cases hb:Nat.beq i j with
  |true=>exact hm
  |false=>rfl
 ·rename_i j q
  simp only[subst]
  cases hb:Nat.beq i j<;>rfl
 ·rename_i o j q e lo n
  simp only[subst]
  cases hb:Nat.beq i j<;>rfl
theorem Av2{i j:Nat}(h:Nat.beq i j=false):(L.set i .dead)[j]? =L[j]? :=by
 rw[List.getElem?_set_ne]
 intro e;subst e;simp at h
mutual
theorem Aql{i:Nat}{m:PV}(hf:Frz B w L i m):∀{p:PV} {cs:List Value},EncC B w L p cs→EncC B w (L.set i .dead) (subst i m p) cs
 | .val _ x,cs,h=>h
 | .agg q,cs,h=>Bh6 hf (show EncC.go B w L q cs from h)
 | .tup _,_,h=>h.elim
 | .nils,cs,h=>h
 | .own j,cs,⟨z,E,v,c,h1,h2⟩=>by
  simp only[subst]
  cases hb:Nat.beq i j with
  |true=>
   have:=By hb
   subst this
   rw[h2];exact hf.enc _ _ _ _ h1
  |false=>exact⟨z,E,v,c,by rw[Av2 hb];exact h1,h2⟩
 | .ptr j q,cs,⟨md,b,h1,h2,h3⟩=>by
  simp only[subst]
  cases hb:Nat.beq i j with
  |true=>exact⟨_,h3,rfl⟩
  |false=>exact⟨md,b,by rw[Av2 hb];exact h1,h2,h3⟩
 | .view o j q e lo n,cs,⟨md,v,h1,h2,h3⟩=>by
  simp only[subst]
  cases hb:Nat.beq i j with
  |true=>
   obtain⟨_,_,⟨pt,cap,e',_⟩,_⟩:=h3
   exact⟨v,h2,by rw[e'];rfl⟩
  |false=>exact⟨md,v,by rw[Av2 hb];exact h1,h2,h3⟩
 | .rptr v,cs,⟨pv,c0,h1,h2,h3⟩=>by
  exact⟨pv,c0,h1,h2,Aql hf h3⟩
 | .fn f caps,cs,⟨vs,h1,h2⟩=>⟨vs,h1,Bav hf h2⟩
 | .cst v,cs,h=>h
 | .any,cs,h=>h
 | .gd _ _ _,_,h=>h.elim
 | .off,_,h=>h.elim
 | .undef,_,h=>h.elim
theorem Bh6{i:Nat}{m:PV}(hf:Frz B w L i m):∀{q:List PV} {cs:List Value},EncC.go B w L q cs→EncC.go B w (L.set i .dead) (subst.go i m q) cs
 |[],cs,h=>h
 |a::q,cs,⟨c1,c2,e',h1,h2⟩=>⟨c1,c2,e',Aql hf h1,Bh6 hf h2⟩
theorem Bav{i:Nat}{m:PV}(hf:Frz B w L i m):∀{q:List PV} {vs:List Value},EncVs B w L q vs→EncVs B w (L.set i .dead) (subst.go i m q) vs
 |[],vs,h=>h
 |a::q,vs,⟨v,vs',e',h1,h2⟩=>⟨v,vs',e',by rw[Bnj hf.isA];exact h1.mono fun c h=>Aql hf h,Bav hf h2⟩
end
theorem Bq2{i:Nat}{m:PV}(hf:Frz B w L i m){p:PV}{v:Value}(h:EncV B w L p v):EncV B w (L.set i .dead) (subst i m p) v:=by
 unfold EncV;rw[Bnj hf.isA];exact asV.mono (fun c h=>Aql hf h) h
theorem Bk5{i:Nat}{m:PV}(hf:Frz B w L i m){p:PV}{v:Value}(h:Dy B w L p v):Dy B w (L.set i .dead) (subst i m p) v:=by
 cases hp:p.isP with
 |true=>exact(Jb (Bq2 hf ((Asr hp).1 h))).2
 |false=>
  cases p
  case tup q=>obtain⟨vs,h1,h2⟩:=h;exact⟨vs,h1,Bav hf h2⟩
  case undef=>exact(show False from h).elim
  case off=>exact(show False from h).elim
  case gd=>exact(show False from h).elim
  all_goals cases hp
theorem Bqm{i:Nat}{m:PV}(hf:Frz B w L i m){t:Nat}{p:PV}(h:Hj B w L σ t p):Hj B w (L.set i .dead) σ t (subst i m p):=by
 cases hv:p.isV with
 |true=>
  have h1:=Bk5 hf ((Hj.iff hv).1 h)
  have h2:(subst i m p).isV=true:=by
   cases p<;>first|rfl|cases hv|skip
   ·rename_i j;simp only[subst];cases Nat.beq i j;rfl;exact hf.isV
   ·rename_i j q;simp only[subst];cases Nat.beq i j<;>rfl
   ·rename_i o j q e lo n;simp only[subst];cases Nat.beq i j<;>rfl
  exact(Hj.iff h2).2 h1
 |false=>
  rcases Aav hv with rfl|rfl|⟨j,u,q,rfl⟩
  ·exact trivial
  ·exact h
  ·obtain⟨b,h1,h2,h3⟩:=h
   exact⟨b,h1,fun e=>Bk5 hf (h2 e),h3⟩
theorem Bcu{i:Nat}{m:PV}(hf:Frz B w L i m){sl:Slots}(h:SlotsR B w L σ sl):SlotsR B w (L.set i .dead) σ (Byi i m sl):=by
 intro p hp
 obtain⟨q,hq,rfl⟩:=List.mem_map.1 hp
 exact Bqm hf (h q hq)
theorem Bbz{i:Nat}{m:PV}(hf:Frz B w L i m):∀{σs:List Env} {st:List Slots},StackR B w L σs st→StackR B w (L.set i .dead) σs (st.map (Byi i m))
 |[],[],h=>h
 |_::_,_::_,⟨h1,h2⟩=>⟨Bcu hf h1,Bbz hf h2⟩
theorem Bqy{i:Nat}{m:PV}(hf:Frz B w L i m){a:Item}{md:MD}(h:ItemR B w L a md):ItemR B w (L.set i .dead) (Bw9 i m a) md:=by
 cases a<;>cases md<;>first
  |exact h
  |exact⟨h.1,Aql hf h.2⟩
theorem MemR.subst(hm:MemR B w L s σs σ){i:Nat}{m:PV}(hf:Frz B w L i m):MemR B w (L.set i .dead) ((s.Uq i .dead).sub i m) σs σ:=by
 refine⟨⟨?_,?_⟩,Bcu hf hm.sl,Bbz hf hm.stk⟩
 ·simp[S.sub,S.Uq,Ayc,hm.it.1]
 ·intro j a md g1 g2
  simp only[S.sub,S.Uq,List.getElem?_map,Option.map_eq_some_iff]at g1
  obtain⟨a0,g3,rfl⟩:=g1
  rcases Axz g3 with⟨rfl,rfl⟩|⟨g4,g5⟩
  ·trivial
  ·rw[List.getElem?_set_ne (Ne.symm g4)]at g2
   exact Bqy hf (hm.it.2 j a0 md g5 g2)
theorem Bag(hr:Rel Z s σs A L σ w){i:Nat}{s':S}(h:s.freeze i=some s'):∃A',Rel Z s' σs A' (L.set i .dead) σ w∧∃E e l,Bw s.it i= .arr E e l∧s'=(s.Uq i .dead).sub i (.val (.list e) l):=by
 unfold S.freeze at h
 split at h
 ·rename_i E e l hi
  cases h
  have hm:=hr.mem
  obtain⟨v,cs,h1,h2⟩:=hm.arr hi
  have hR:∀b,¬A b→Z.R b:=fun b hb=>by
   rcases Nat.lt_or_ge b Z.w0.heap.size with hlt|hge
   ·have hold:=(hr.fact 1 (f:= .old Z.M Z.w0) rfl).2 b hlt
    exact Z.mod b (Classical.byContradiction fun hM=>hb (hold hM).1)
   ·exact Z.new b hge
  obtain⟨A',hA,hs'⟩:=St.freeze hr (hr.Hs h1) rfl Z.R hR
  have hs2:=Mobs.Atb (hs'.Bht 1 0) (Am1 (m':=MD.dead.Hs) (hr.Hs h1))
  have hm2:MemR (fun b=>A' b∧Z.R b) w L s σs σ:=hs2.fact 1 rfl
  have hrd:Rd (fun b=>A' b∧Z.R b) w e.size v cs:=hs2.fact 0 (f:= .rd Z.R e.size v cs) rfl
  have hall:=h2.mono (g:=Ap (fun b=>A' b∧Z.R b) w e) fun x c h=>Ap.step (fun b hb=>⟨hA b hb.1,hb.2⟩) (fun _ _=>rfl) h
  have hf:Frz (fun b=>A' b∧Z.R b) w L i (.val (.list e) l):=⟨fun z E' v' c' h=>by rw[h1]at h;cases h;exact⟨v,cs,rfl,hrd,hall⟩,rfl,rfl⟩
  exact⟨A',Rel.as hs2 (i:=2) rfl (hm2.subst hf) (by rw[List.map_set]),E,e,l,hi,rfl⟩
 ·cases h
theorem Qu:∀{is:List Nat} {s s':S} {A:Reg} {L:List MD},Rel Z s σs A L σ w→s.Aba is=some s'→∃A' L',Rel Z s' σs A' L' σ w∧(is=[]→s'=s∧A'=A∧L'=L)
 |[],s,s',A,L,hr,h=>by simp only[S.Aba,Option.some.injEq]at h;subst h;exact⟨A,L,hr,fun _=>⟨rfl,rfl,rfl⟩⟩
 |i::is,s,s',A,L,hr,h=>by
  simp only[S.Aba]at h
  split at h
  ·obtain⟨A',L',h1,_⟩:=Qu hr h;exact⟨A',L',h1,fun e=>by cases e⟩
  ·cases h
  ·split at h
   ·rename_i s1 h1
    obtain⟨A1,h2,_⟩:=Bag hr h1
    obtain⟨A',L',h3,_⟩:=Qu h2 h
    exact⟨A',L',h3,fun e=>by cases e⟩
   ·cases h
theorem Bmh{p:PV}(h:Bg8 p=true):p.isP=true:=by cases p<;>first|rfl|cases h
theorem Aqy{B:Reg}{x:Operand}(hm:SlotsR B w L σ s.sl)(h:(Du s.sl x).isP=true):EncV B w L (Du s.sl x) (ev σ x):=(Asr h).1 (Rj hm x (PV.Bnb h))
theorem Bsn{a x:Operand}{s':S}(hr:Rel Z s σs A L σ w)(h:Bkb s a x=some s'):∃A' L',Rel Z s' σs A' L' σ w:=by
 unfold Bkb at h
 split at h
 ·split at h
  ·obtain⟨A',L',h1,_⟩:=Qu hr h;exact⟨A',L',h1⟩
  ·cases h;exact⟨A,L,hr⟩
 ·cases h
theorem Azt.step{B B':Reg}{w w':World}(hb:∀b,B b→B' b)(hs:Same B w w')(hl:LeL L L'){a:Item}{cs:List Value}(h:Azt B w L a cs):Azt B' w' L' a cs:=by
 cases a with
 |dead=>exact h
 |box T v=>exact EncC.step hb hs hl h
 |arr E e l=>exact Bs.mono (fun x c h=>Ap.step hb hs h) h
def Bie(R:Reg)(L:List MD)(a:Item)(cs:List Value):Fact where
 holds A w:=Azt (fun b=>A b∧R b) w L a cs
 step h ha hs _:=h.step (fun b ⟨h1,h2⟩=>⟨ha b h1,h2⟩) (fun b ⟨h1,_⟩=>hs b h1) (.refl L)
theorem Cb0{t:TypeId}{a x:Operand}(hr:Rel Z s σs A L σ w)(h:Boe P s t a x k=some r):
  Ach P n ops ⟨none, .store t a x,ty,pos,after,none⟩ Z s σs k r False A L σ w:=by
 unfold Boe at h
 split at h
 ·cases h
 ·rename_i s1 hs1
  obtain⟨A1,L1,hr1⟩:=Bsn hr hs1
  have hm:=hr1.mem
  split at h
  ·rename_i i p ha
   split at h
   ·rename_i inf hinf
    obtain⟨hb,h⟩:=Ar h
    simp only[Bool.and_eq_true]at hb
    obtain⟨md,b,h1,h2,h3⟩:=Yj (Cr hm.sl ha rfl)
    obtain⟨ns,h4,h5⟩:=Amg hr1 (Aqy hm.sl (Bmh hb.1.1))
    have hne:Bw s1.it i≠ .dead:=by intro e;rw[e]at h;simp[Bg7]at h
    obtain⟨h6,h7⟩:=hm.root h1 hne
    obtain⟨a',hk,h8,h9,h10⟩:=Bt5 h5 h h6
    have hlen:=h5.len
    have hz:=By hb.1.2
    have hz0:0<inf.size:=by simpa [Nat.blt_eq]using hb.2
    have hrF:=St.Bbp (f:=Bie Z.R L1 a' (Ax md.cells (Am p) ns)) hr1 h9
    refine Bzu hrF h1 h2 ⟨inf,hinf,rfl⟩ h3 rfl h4 (hlen.trans hz.symm) (List.all_eq_true.2 (h5.one hr1.Ay8)) (by rw[hz,←hlen];exact h8) hz0 (fun w' md' hs' hmd=>?_)
    have h11:Azt (fun b=>A1 b∧Z.R b) w' L1 a' (Ax md.cells (Am p) ns):=hs'.fact 0 rfl
    have hs2:=hs'.Bfd
    revert h7 h10
    cases hi:Bw s1.it i with
    |dead=>exact absurd hi hne
    |box T v0=>
     rintro⟨b0,c0,rfl⟩ h10
     simp only[Yi]at hmd;subst hmd
     have key:=LeL.box (cs':=Ax (MD.box b0 c0 T).cells (Am p) ns) h1
     refine⟨_,A1,_,hk,Rel.change hs2 h1 key ?_,fun h=>h.elim⟩
     cases a' with
     |box T' v'=>simp only[sameKind]at h10;subst h10;exact⟨rfl,EncC.step (fun _ h=>h) (fun _ _=>rfl) key h11⟩
     |dead=>exact h11.elim
     |arr _ _ _=>exact h10.elim
    |arr E e l=>
     rintro⟨v0,c0,rfl⟩ h10
     simp only[Yi]at hmd;subst hmd
     have key:=LeL.own (cs':=Ax (MD.own e.size E v0 c0).cells (Am p) ns) h1
     refine⟨_,A1,_,hk,Rel.change hs2 h1 key ?_,fun h=>h.elim⟩
     cases a' with
     |arr E' e' l'=>obtain⟨rfl,rfl⟩:=h10;exact⟨rfl,rfl,h11⟩
     |dead=>exact h11.elim
     |box _ _=>exact h10.elim
   ·cases h
  ·cases h
end Go.Rx
set_option linter.unusedVariables false
set_option linter.unusedSimpArgs false
namespace Go.Rx
open Go Go.Lv
variable {P:Program} {B:Reg} {w w':World} {L L':List MD} {s:S} {σs:List Env} {σ:Env} {Z:Fix} {A A':Reg} {n:Nat} {ops:Array Oper} {rest:List Oper} {K:Env→World→Prop}
variable {R:Type} {k:S→Option R} {r:R} {d:Option Nat} {ty:TypeId} {pos:String} {after:Array Edge}
theorem Anh{t:TypeId}{p:PV}(h:zeroOf P t=some p):∃z,(∃i,P.info? t=some i∧i.zero=some z)∧∀(B:Reg) (w:World) (L:List MD),EncC B w L p z.cells.toList:=by
 unfold zeroOf at h
 split at h
 ·rename_i i hi
  split at h
  ·rename_i z hz
   exact⟨z,⟨i,hi,hz⟩,fun B w L=>Az1 h⟩
  ·cases h
 ·cases h
theorem Bxg{md:MD}{b:Nat}(hb:md.base=some b){B:Reg}:Dy B w (L++[md]) (.ptr L.length []) (.pointer (some ⟨b,0,none⟩)):=⟨md,b,by simp,hb,rfl⟩
theorem Bgr{z:Nat}{E:TypeId}{v:Value}{c:List Value}{B:Reg}:Dy B w (L++[.own z E v c]) (.own L.length) v:=⟨z,E,v,c,by simp,rfl⟩
theorem Rel.len(hr:Rel Z s σs A L σ w):s.it.length=L.length:=hr.mem.it.1
theorem Rel.lt(hr:Rel Z s σs A L σ w):∀b,A b→b<w.heap.size:=St.lt hr
def Cdu(A0:Reg)(w0:World):Fact where
 holds A w:=(∀b,A0 b→A b)∧Same A0 w0 w
 step h ha hs _:=⟨fun b hb=>ha b (h.1 b hb),fun b hb=>(hs b (h.1 b hb)).trans (h.2 b hb)⟩
theorem Rel.same(hr:Rel Z s σs A L σ w):St A w [Cdu A w,Nl Z.R L s σs σ, .old Z.M Z.w0] (L.map MD.Hs):=St.Bbp (f:=Cdu A w) hr ⟨fun _ h=>h,fun _ _=>rfl⟩
theorem Awy{w':World}{A':Reg}{a:Item}{md:MD}{p:PV}{v:Value}{dn:Nat}{G:Prop}(hr:Rel Z s σs A L σ w)(hs:St A' w' [Cdu A w,Nl Z.R L s σs σ, .old Z.M Z.w0] (md.Hs::L.map MD.Hs))
  (ha:ItemR (fun b=>A' b∧Z.R b) w' (L++[md]) a md) (hv:p.isV=true) (hp:∀B,Dy B w' (L++[md]) p v) (hk:k ((s.add a).Gb (some dn) p)=some r):
  Bll Z σs k r G A L s.it w (Uq σ dn v) w':=by
 obtain⟨h1,h2⟩:(∀b,A b→A' b)∧Same A w w':=hs.fact 0 rfl
 have hr':=Rel.push hs.Bfd ha
 exact⟨_,A',L++[md],hk,hr'.Gb (d:=some dn) hv (hp _),fun _=>⟨h1,h2,⟨[md],rfl⟩,⟨[a],rfl⟩⟩⟩
theorem Asx{o:Op}{dn:Nat}(h:Jv n ⟨some dn,o,ty,pos,after,none⟩=true):Nat.blt dn n=true:=h
theorem Ccl{t:TypeId}{v:PV}{dn:Nat}{G:Prop}(hr:Rel Z s σs A L σ w)(hd:Jv n ⟨some dn, .alloc t,ty,pos,after,none⟩=true)(hz:zeroOf P t=some v)
  (hk:k ((s.add (.box t v)).Gb (some dn) (.ptr s.new []))=some r):Ach P n ops ⟨some dn, .alloc t,ty,pos,after,none⟩ Z s σs k r G A L σ w:=by
 obtain⟨z,h1,h2⟩:=Anh hz
 refine WL.alloc (cells:=z.cells.toList) hr.same (Asx hd) h1 (by simp) (fun b w' hs'=>WL.nil ?_)
 refine Awy (a:= .box t v) (md:= .box b z.cells.toList t) hr hs' ⟨rfl,h2 _ _ _⟩ rfl (fun B=>?_) hk
 rw[S.new,hr.len];exact Bxg rfl
theorem Ckc{t:TypeId}{x:Operand}{dn:Nat}{G:Prop}(hr:Rel Z s σs A L σ w)(hd:Jv n ⟨some dn, .box t x,ty,pos,after,none⟩=true)(hx:Bg8 (Du s.sl x)=true)
  (hk:k ((s.add (.box t (Du s.sl x))).Gb (some dn) (.ptr s.new []))=some r):Ach P n ops ⟨some dn, .box t x,ty,pos,after,none⟩ Z s σs k r G A L σ w:=by
 obtain⟨cs,h1,h2⟩:=Amg hr (Aqy hr.mem.sl (Bmh hx))
 have hF:=St.Bbp (f:=Bie Z.R L (.box t (Du s.sl x)) cs) hr.same h2
 refine WL.box hF (Asx hd) rfl h1 (fun b w' hs'=>WL.nil ?_)
 have h3:Azt (fun b=>A b∧Z.R b) w' L (.box t (Du s.sl x)) cs:=hs'.fact 0 rfl
 refine Awy (a:= .box t (Du s.sl x)) (md:= .box b cs t) hr hs'.Bfd ⟨rfl,EncC.step (fun _ h=>h) (fun _ _=>rfl) (LeL.append _ _) h3⟩ rfl (fun B=>?_) hk
 rw[S.new,hr.len];exact Bxg rfl
theorem Bus{a t e:TypeId}{x:Operand}{l:List UInt8}{dn:Nat}{G:Prop}(hr:Rel Z s σs A L σ w)(hd:Jv n ⟨some dn, .convert a t x,ty,pos,after,none⟩=true)(ha:P.underlying a=some .string)(ht:P.underlying t=some (.slice e))
  (he:P.underlying e=some (.int .u8)) (hx:Du s.sl x= .val .str l) (hk:k ((s.add (.arr e (.int .u8) l)).Gb (some dn) (.own s.new))=some r):Ach P n ops ⟨some dn, .convert a t x,ty,pos,after,none⟩ Z s σs k r G A L σ w:=by
 refine WL.s2b ha ht he hr.same (Asx hd) (Ui hr.mem.sl hx) (fun p m c w' hs'=>WL.nil ?_)
 refine Awy (a:= .arr e (.int .u8) l) (md:= .own 1 e (.slice p m c) (Aea l)) hr hs' ⟨rfl,rfl,Al0⟩ rfl (fun B=>?_) hk
 rw[S.new,hr.len];exact Bgr
where Al0:∀{B:Reg} {w:World} {l:List UInt8},Bs (Ap B w (.int .u8)) l (Aea l)
 |_,_,[]=>rfl
 |_,_,x::l=>⟨[iv x],Aea l,rfl,rfl,Al0⟩
theorem Cgk{t e E:TypeId}{x:Operand}{i:Nat}{y:UInt8}{ys:List UInt8}{dn:Nat}{G:Prop}(hr:Rel Z s σs A L σ w)(hd:Jv n ⟨some dn, .convert t t x,ty,pos,after,none⟩=true)(ht:P.underlying t=some (.slice e))
  (he:P.underlying e=some (.int .u8)) (hx:Du s.sl x= .own i) (hi:Bw s.it i= .arr E (.int .u8) (y::ys)) (hk:k (s.Gb (some dn) (.own i))=some r):Ach P n ops ⟨some dn, .convert t t x,ty,pos,after,none⟩ Z s σs k r G A L σ w:=by
 obtain⟨v,cs,h1,h2⟩:=hr.mem.arr hi
 have hne:0<cs.length:=by
  obtain⟨c,c',e1,e2,_⟩:=h2
  rw[e1,List.length_append]
  have:c.length=(ET.int .u8).size:=Ap.len e2
  rw[this]
  have:(ET.int Kd.u8).size=1:=rfl
  omega
 have hvr:Dy (fun b=>A b∧Z.R b) w L (.own i) (ev σ x):=by
  have:=Cr hr.mem.sl hx rfl
  exact this
 have hev:ev σ x=v:=by
  obtain⟨z,E',v',c,g1,g2⟩:=hvr
  rw[h1]at g1
  cases g1
  simpa using g2
 have hL:(L.map MD.Hs)[i]? =some (.own 1 E v cs):=by rw[List.getElem?_map,h1];rfl
 refine WL.Ck9 ht he hr.same hL hne (Asx hd) hev (fun w' hs'=>WL.nil ?_)
 obtain⟨g1,g2⟩:(∀b,A b→A b)∧Same A w w':=hs'.fact 0 rfl
 have hr':Rel Z s σs A L σ w':=hs'.Bfd
 exact⟨_,A,L,hk,hr'.Gb (d:=some dn) (p:= .own i) rfl ⟨_,_,_,_,h1,rfl⟩,fun _=>⟨g1,g2,⟨[],by simp⟩,⟨[],by simp[S.Gb,S.set]⟩⟩⟩
theorem Bdp{t:TypeId}{e:ET}(h:Bla P t e=true):ElemOk P t e.size:=by
 unfold Bla at h
 split at h
 ·rename_i i hi
  simp only[Bool.and_eq_true]at h
  obtain⟨⟨⟨h1,h2⟩,h3⟩,h4⟩:=h
  split at h3
  ·rename_i z hz
   exact⟨⟨i,z,hi,By h1,hz,By h3,Nat.le_of_ble_eq_true h2⟩,by have:=Nat.le_of_ble_eq_true h4;omega⟩
  ·cases h3
 ·cases h
theorem Ayd{t E:TypeId}(h:Bd2 P t=some E):P.underlying t=some (.slice E):=by
 unfold Bd2 at h
 split at h
 ·rename_i e he;cases h;exact he
 ·cases h
theorem Bpt{e:ET}{x:e.T}{c:List Value}(h:Ap B w e x c):∀m,Bs (Ap B w e) (List.replicate m x) (List.replicate m c).flatten
 |0=>rfl
 |m+1=>⟨c,(List.replicate m c).flatten,rfl,h,Bpt h m⟩
theorem Chw{t:TypeId}{a b:Operand}{dn:Nat}{G:Prop}(hr:Rel Z s σs A L σ w)(hd:Jv n ⟨some dn, .makeSlice t a b,ty,pos,after,none⟩=true)(h:Bt3 P s (some dn) t a b k=some r):
  Ach P n ops ⟨some dn, .makeSlice t a b,ty,pos,after,none⟩ Z s σs k r G A L σ w:=by
 unfold Bt3 at h
 split at h
 ·cases h
 ·rename_i E hE
  split at h
  ·cases h
  ·rename_i e he
   obtain⟨hb,h⟩:=Ar h
   split at h
   ·rename_i m m' z hm hm' hz
    split at h
    ·rename_i x hx
     obtain⟨l,hl,h⟩:=bind_some h
     obtain⟨_,hq,h⟩:=bind_some h
     obtain⟨h1,h2,rfl⟩:=Bq8 hl
     have h3:m'=m:=by have:=Yl hq;simpa [geq,GI.toZ]using this
     subst h3
     obtain⟨zv,hz1,hz2⟩:=Anh hz
     have ea:=Biv hm (Rj hr.mem.sl a (Bpj hm))
     have eb:=Biv hm' (Rj hr.mem.sl b (Bpj hm'))
     refine WL.makeSlice (Ayd hE) (Bdp hb) hz1 (zs:=zv.cells.toList) (by simp) hr.same (Asx hd) (m:=m'.toNat) (by rw[←h1];exact ea) (by rw[←h1];exact eb) h2 (fun p q c w' hs'=>WL.nil ?_)
     refine Awy (a:= .arr E e (List.replicate m'.toNat x)) (md:= .own e.size E (.slice p q c) (List.replicate m'.toNat zv.cells.toList).flatten) hr hs' ⟨rfl,rfl,Bpt (Anu hx (hz2 _ _ (L++[]))) _⟩ rfl (fun B=>?_) h
     rw[S.new,hr.len];exact Bgr
    ·cases h
   ·cases h
end Go.Rx
set_option linter.unusedVariables false
set_option linter.unusedSimpArgs false
namespace Go.Rx
open Go Go.Lv
variable {P:Program} {B:Reg} {w w':World} {L L':List MD} {s:S} {σs:List Env} {σ:Env} {Z:Fix} {A A':Reg} {n:Nat} {ops:Array Oper} {rest:List Oper} {K:Env→World→Prop}
variable {R:Type} {k:S→Option R} {r:R} {d:Option Nat} {ty:TypeId} {pos:String} {after:Array Edge}
theorem Bll.of{G:Prop}{s1:S}{A1:Reg}{L1:List MD}{σ':Env}(h:G→s1=s∧A1=A∧L1=L)(hp:Bll Z σs k r G A1 L1 s1.it w σ' w'):Bll Z σs k r G A L s.it w σ' w':=by
 obtain⟨s',A',L',h1,h2,h3⟩:=hp
 refine⟨s',A',L',h1,h2,fun g=>?_⟩
 obtain⟨e1,e2,e3⟩:=h g
 subst e1 e2 e3
 exact h3 g
theorem isEmpty_nil{α:Type}{l:List α}(h:l.isEmpty=true):l=[]:=by cases l<;>simp_all
theorem Bny{z:Nat}(h:Nat.ble 1 z=true):0<z:=by have:=Nat.le_of_ble_eq_true h;omega
theorem Rel.Ckm(hr:Rel Z s σs A L σ w){i z:Nat}{E:TypeId}{v:Value}{cs:List Value}(h:L[i]? =some (.own z E v cs)):
  ∃q len cap,v= .slice q len cap∧cs.length=len*z∧len≤cap∧(q=none→cap=0)∧(0<cap→∃b,q=some ⟨b,0,none⟩∧(MD.own z E v cs).base=some b):=by
 obtain⟨o,q,len,cap,h1,h2,h3,h4,h5,h6⟩:=Mobs.mem (A:=A) (St.mobs hr) (hr.Hs h)
 refine⟨q,len,cap,h1,h2,h3,h4,fun hc=>?_⟩
 cases o with
 |none=>have:=h5 rfl;omega
 |some b=>
  obtain⟨arr,fr,e1,_⟩:=h6 b rfl
  subst h1 e1
  exact⟨b,rfl,rfl⟩
theorem X.Be6{t e:TypeId}{z len cap a b:Nat}{p:Option Addr}{x:Operand}{lo hi:Option Operand}(ht:P.underlying t=some (.slice e))(hsz:SizeIs P e z)(h1:a≤b)(h2:b≤len)(h3:len≤cap)(hx:ev σ x= .slice p len cap)
  (hlo:(∃q,lo.map (ev σ)=some (.int q (a:Int)))∨(lo=none∧a=0)) (hhi:(∃q,hi.map (ev σ)=some (.int q (b:Int)))∨(hi=none∧b=len)):
  XO P σ w (.slice t x lo hi none) (.slice (if cap=a then p else p.map (·.add (a*z))) (b-a) (cap-a)):=fun _ _ _ _ _=>by
 have hr:=Bl4 (P:=P) (w:=w) (p:=p) (vlo:=lo.map (ev σ)) (vhi:=hi.map (ev σ)) ht hsz h1 h2 h3 (by rcases hlo with h|⟨h,h'⟩;exact .inl h;exact .inr ⟨by rw[h];rfl,h'⟩)
   (by rcases hhi with h|⟨h,h'⟩;exact .inl h;exact .inr ⟨by rw[h];rfl,h'⟩)
 simp only[execOp,hx,Instr.sliceAt,Sem.run_bind,run_underlying ht,Result.andThen_ok,Option.map_none,hr,Sem.run_pure]
theorem X.Bmo{t u e:TypeId}{z m a b:Nat}{ad:Addr}{x:Operand}{lo hi:Option Operand}(ht:Bwm P t=some (u,m,e))(hsz:SizeIs P e z)(h1:a≤b)(h2:b≤m)(hx:ev σ x= .pointer (some ad))
  (hlo:(∃q,lo.map (ev σ)=some (.int q (a:Int)))∨(lo=none∧a=0)) (hhi:(∃q,hi.map (ev σ)=some (.int q (b:Int)))∨(hi=none∧b=m)):
  XO P σ w (.slice t x lo hi none) (.slice (some (if m=a then ad else ad.add (a*z))) (b-a) (m-a)):=fun _ _ _ _ _=>by
 have hlo':(∃q,lo.map (ev σ)=some (.int q (a:Int)))∨(lo.map (ev σ)=none∧a=0):=hlo.imp id fun h=>⟨by rw[h.1];rfl,h.2⟩
 have hhi':(∃q,hi.map (ev σ)=some (.int q (b:Int)))∨(hi.map (ev σ)=none∧b=m):=hhi.imp id fun h=>⟨by rw[h.1];rfl,h.2⟩
 unfold Bwm at ht
 split at ht
 ·rename_i m' et hu
  cases ht
  simp only[execOp,hx,Instr.sliceAt,Sem.run_bind,run_underlying hu,Result.andThen_ok,Option.map_none]
  generalize lo.map (ev σ)=vlo at hlo'⊢
  generalize hi.map (ev σ)=vhi at hhi'⊢
  clear hlo hhi
  rcases hlo' with⟨q,rfl⟩|⟨rfl,rfl⟩<;>rcases hhi' with⟨q',rfl⟩|⟨rfl,rfl⟩<;>
   simp[Instr.sureAddr,Instr.sliceBounds,Instr.sliceBound,asIntOf,Bf hsz,h1,h2]
 ·rename_i u' hp
  split at ht
  ·rename_i m' et hu
   cases ht
   simp only[execOp,hx,Instr.sliceAt,Sem.run_bind,run_underlying hp,Result.andThen_ok,Option.map_none]
   generalize lo.map (ev σ)=vlo at hlo'⊢
   generalize hi.map (ev σ)=vhi at hhi'⊢
   clear hlo hhi
   rcases hlo' with⟨q,rfl⟩|⟨rfl,rfl⟩<;>rcases hhi' with⟨q',rfl⟩|⟨rfl,rfl⟩<;>
    simp[Instr.slice,run_underlying hp,run_underlying hu,Instr.sliceBounds,Instr.sliceBound,asIntOf,Bf hsz,h1,h2,asAddr]
  ·cases ht
 ·cases ht
theorem Chb{t et:TypeId}{x:Operand}{lo hi:Option Operand}{G:Prop}(hr:Rel Z s σs A L σ w)(hd:Jv n ⟨d, .slice t x lo hi none,ty,pos,after,none⟩=true)(ht:P.underlying t=some (.slice et))(h:Bt6 P s d et (Du s.sl x) lo hi k=some r):
  Ach P n ops ⟨d, .slice t x lo hi none,ty,pos,after,none⟩ Z s σs k r G A L σ w:=by
 have hm:=hr.mem
 unfold Bt6 at h
 split at h
 ·cases h
 ·rename_i inf hinf
  split at h
  ·rename_i i hx
   split at h
   ·rename_i E e l hi'
    obtain⟨hb,h⟩:=Ar h
    simp only[Bool.and_eq_true]at hb
    split at h
    ·rename_i a b ha hb'
     obtain⟨_,hok,h⟩:=bind_some h
     have hab:0≤a∧a≤b∧b≤Ac l:=of_decide_eq_true (Yl hok)
     obtain⟨u,cs,h1,h2⟩:=hm.arr hi'
     obtain⟨z',E',c',h3⟩:=Ag6 (Cr hm.sl hx rfl)
     rw[h1]at h3
     have h3':=h3
     cases h3
     obtain⟨q,len,cap,g1,g2,g3,g4,g5⟩:=hr.Ckm h1
     have hz:0<e.size:=by have:=Nat.le_of_ble_eq_true hb.2;omega
     have hl:len=l.length:=Nat.eq_of_mul_eq_mul_right hz (g2.symm.trans (h2.len fun x c h=>Ap.len h))
     obtain⟨a1,ha1⟩:=Int.eq_ofNat_of_zero_le hab.1
     obtain⟨b1,hb1⟩:=Int.eq_ofNat_of_zero_le (show 0≤b by omega)
     subst ha1 hb1
     have hbl:b1≤len:=by rw[hl];have:=hab.2.2;unfold Ac at this;omega
     have hxo:=X.Be6 (P:=P) (σ:=σ) (w:=w) (x:=x) (lo:=lo) (hi:=hi) (a:=a1) (b:=b1) ht (Eo hinf hb.1) (by omega) hbl g3 g1
      (by rcases Ll hm.sl ha with h|⟨h,h'⟩;exact .inl h;exact .inr ⟨h,by omega⟩) (by rcases Ll hm.sl hb' with h|⟨h,h'⟩;exact .inl h;exact .inr ⟨h,by unfold Ac at h';omega⟩)
     rw[g1]at h1
     refine Dl (p:= .view true i [] e a1 (b1-a1)) hr hd hxo rfl ⟨_,_,h1,rfl,by omega,by omega,⟨_,_,by rw[show((b1:Int)-a1).toNat=b1-a1 by omega],by omega,fun hn=>?_,fun hc=>?_⟩,
      (fun _=>⟨_,_,q,len,cap,cs,rfl,rfl,by omega,fun pt m c' hv=>?_,fun h0=>?_⟩),(fun h=>by cases h)⟩ h
     ·split at hn
      ·omega
      ·have:q=none:=by simpa using hn
       have:=g4 this;omega
     ·obtain⟨bb,e1,e2⟩:=g5 (by omega)
      rw[g1]at e2
      refine⟨bb,e2,?_⟩
      rw[if_neg (by omega),e1]
      simp[My,Am]
     ·cases hv
      simp only[Int.toNat_natCast];omega
     ·have ha0:a1=0:=by omega
      subst ha0
      rw[show((b1:Int)-(0:Nat)).toNat=b1 by omega]
      simp only[Nat.sub_zero]
      congr 1
      split
      ·rfl
      ·by_cases hc:0<cap
       ·obtain⟨bb,e1,_⟩:=g5 hc
        rw[e1];simp[My]
       ·omega
    ·cases h
   ·cases h
  ·rename_i o i p e l0 n' hx
   obtain⟨hb,h⟩:=Ar h
   simp only[Bool.and_eq_true]at hb
   split at h
   ·rename_i a b ha hb'
    obtain⟨_,hok,hk⟩:=bind_some h
    have hab:0≤a∧a≤b∧b≤n':=of_decide_eq_true (Yl hok)
    obtain⟨md,v1,h3,h4,k1,k2,⟨pt,cap,k3,k4,k5,k6⟩,k7,k8⟩:=Cr hm.sl hx rfl
    have h6:ev σ x=v1:=by simpa using h4
    obtain⟨a1,ha1⟩:=Int.eq_ofNat_of_zero_le hab.1
    obtain⟨b1,hb1⟩:=Int.eq_ofNat_of_zero_le (show 0≤b by omega)
    obtain⟨l1,hl1⟩:=Int.eq_ofNat_of_zero_le k1
    obtain⟨n1,hn1⟩:=Int.eq_ofNat_of_zero_le k2
    subst ha1 hb1 hl1 hn1
    simp only[Int.toNat_natCast]at k3 k4 k6 k7
    have hxo:=X.Be6 (P:=P) (σ:=σ) (w:=w) (x:=x) (lo:=lo) (hi:=hi) (a:=a1) (b:=b1) ht (Eo hinf hb.1) (by omega) (by omega) k4 (h6.trans k3)
     (by rcases Ll hm.sl ha with h|⟨h,h'⟩;exact .inl h;exact .inr ⟨h,by omega⟩) (by rcases Ll hm.sl hb' with h|⟨h,h'⟩;exact .inl h;exact .inr ⟨h,by omega⟩)
    have e0:((l1:Int)+a1).toNat=l1+a1:=by omega
    refine Dl (p:= .view o i p e (l1+a1) (b1-a1)) hr hd hxo rfl ⟨md,_,h3,rfl,by omega,by omega,⟨_,_,by rw[show((b1:Int)-a1).toNat=b1-a1 by omega],by omega,fun hn=>?_,fun hc=>?_⟩,(fun ho=>?_),k8⟩ hk
    ·split at hn
     ·omega
     ·have:pt=none:=by simpa using hn
      have:=k5 this;omega
    ·obtain⟨bb,e1,e2⟩:=k6 (by omega)
     refine⟨bb,e1,?_⟩
     rw[if_neg (by omega),e2,e0]
     simp[My,Nat.add_mul,Nat.add_assoc]
    ·obtain⟨s',E',q,len,cap0,c0,e1,e2,e3,e4,e5⟩:=k7 ho
     have e6:=e4 _ _ _ k3
     refine⟨s',E',q,len,cap0,c0,e1,e2,by omega,fun pt' m c' hv=>?_,fun h0=>?_⟩
     ·cases hv;omega
     ·have h00:l1=0∧a1=0:=by omega
      obtain⟨rfl,rfl⟩:=h00
      have e7:=e5 rfl
      rw[k3]at e7
      cases e7
      rw[show((b1:Int)-(0:Nat)).toNat=b1 by omega]
      simp only[Nat.sub_zero]
      congr 1
      split
      ·rfl
      ·by_cases hc:0<cap
       ·obtain⟨bb,_,e8⟩:=k6 hc
        rw[e8];simp[My]
       ·omega
   ·cases h
  ·cases h
theorem Ccd{t:TypeId}{x:Operand}{lo hi:Option Operand}{G:Prop}(hr0:Rel Z s σs A L σ w)(hd:Jv n ⟨d, .slice t x lo hi none,ty,pos,after,none⟩=true){vw:Bool}(h:Bo0 vw s d t x lo hi k P=some r)(hG:G→(owns (Du s.sl x)).isEmpty=true):
  Ach P n ops ⟨d, .slice t x lo hi none,ty,pos,after,none⟩ Z s σs k r G A L σ w:=by
 unfold Bo0 at h
 split at h
 ·rename_i ht
  split at h
  ·rename_i l hx
   split at h
   ·rename_i a b ha hb
    obtain⟨y,hy,h⟩:=bind_some h
    exact Dl (p:= .val .str y) hr0 hd (X.Cla ht (Ui hr0.mem.sl hx) hy (Ll hr0.mem.sl ha) (Ll hr0.mem.sl hb)) rfl rfl h
   ·cases h
  ·cases h
 ·rename_i et ht
  cases hvw:(vw&&Brl (Du s.sl x))with
  |true=>
   rw[hvw]at h
   exact Chb hr0 hd ht h
  |false=>
  rw[hvw]at h
  dsimp only[Cg,cond]at h
  split at h
  ·cases h
  ·rename_i s1 hs1
   obtain⟨A1,L1,hr,hsame⟩:=Qu hr0 hs1
   have hm:=hr.mem
   split at h
   ·rename_i e0 l0 hx
    split at h
    ·rename_i e l
     split at h
     ·rename_i inf hinf
      obtain⟨hb,h⟩:=Ar h
      simp only[Bool.and_eq_true]at hb
      split at h
      ·rename_i a b ha hb'
       obtain⟨y,hy,h⟩:=bind_some h
       obtain⟨h1,h2,h3,h4,rfl⟩:=Akl hy
       obtain⟨c0,h5,h6⟩:=Aa1 (Cr hm.sl hx rfl)
       have hlen:=h6.len fun x c h=>Ap.len h
       obtain⟨p',l',c',h7,h8⟩:=X.Bss (P:=P) (l:=a.toNat) (k:=b.toNat) (m:=l.length) ht (Eo hinf hb.1) (St.Ccb hr h5) (j:=0) rfl hlen (Bny hb.2) h3 h4
       have hxo:=h7 σ w x lo hi rfl (by rcases Ll hm.sl ha with h|⟨h,h'⟩;exact .inl (by rw[←h1];exact h);exact .inr ⟨h,by omega⟩)
        (by rcases Ll hm.sl hb' with h|⟨h,h'⟩;exact .inl (by rw[←h2];exact h);exact .inr ⟨h,by rw[h'];simp[Ac]⟩)
       have hv:Dy (fun b=>A1 b∧Z.R b) w L1 (.val (.list e) ((l.take b.toNat).drop a.toNat)) (.slice p' l' c'):=
        Ayr (h8.fact 0 rfl) (Bs.drop (fun x c h=>Ap.len h) _ (Bs.take (fun x c h=>Ap.len h) _ h6))
       refine WL.Bt4 rfl hd (hxo _ _ _ _ _) (WL.nil ⟨_,A1,L1,h,hr.Gb rfl hv,fun g=>?_⟩)
       obtain⟨e1,e2,e3⟩:=hsame (isEmpty_nil (hG g))
       subst e1 e2 e3
       have:(s1.Gb d (.val (.list e) ((l.take b.toNat).drop a.toNat))).it=s1.it:=by cases d<;>rfl
       rw[this];exact .refl
      ·cases h
     ·cases h
    ·cases h
   ·rename_i hx
    split at h
    ·rename_i inf a b hinf ha hb'
     obtain⟨_,hok,hk⟩:=bind_some h
     have hab:0≤a∧a≤b∧b≤0:=of_decide_eq_true (Yl hok)
     have ha0:a=0:=by omega
     have hb0:b=0:=by omega
     subst ha0 hb0
     have hv:=Af4 (Cr hm.sl hx rfl)
     have hxo:=X.Be6 (P:=P) (σ:=σ) (w:=w) (x:=x) (lo:=lo) (hi:=hi) (a:=0) (b:=0) (z:=inf.size) ht ⟨inf,hinf,rfl⟩ (Nat.le_refl _) (Nat.le_refl _) (Nat.le_refl _) hv
      (by rcases Ll hm.sl ha with h|⟨h,h'⟩;exact .inl h;exact .inr ⟨h,rfl⟩) (by rcases Ll hm.sl hb' with h|⟨h,h'⟩;exact .inl h;exact .inr ⟨h,rfl⟩)
     refine WL.Bt4 rfl hd (hxo _ _ _ _ _) (WL.nil ⟨_,A1,L1,hk,hr.Gb rfl rfl,fun g=>?_⟩)
     obtain⟨e1,e2,e3⟩:=hsame (isEmpty_nil (hG g))
     subst e1 e2 e3
     have:(s1.Gb d .nils).it=s1.it:=by cases d<;>rfl
     rw[this];exact .refl
    ·cases h
   ·cases h
 ·split at h
  ·rename_i u m et hat
   split at h
   ·cases h
   ·rename_i inf hinf
    split at h
    ·rename_i i p hx
     split at h
     ·rename_i T v hit
      split at h
      ·rename_i e0 l0 hg
       split at h
       ·rename_i m' e l
        obtain⟨hb,h⟩:=Ar h
        simp only[Bool.and_eq_true]at hb
        split at h
        ·rename_i a b ha hb'
         obtain⟨_,hok,hk⟩:=bind_some h
         have hab:0≤a∧a≤b∧b≤m:=of_decide_eq_true (Yl hok)
         have hm:=hr0.mem
         obtain⟨md,bb,h1,h2,h3⟩:=Yj (Cr hm.sl hx rfl)
         obtain⟨a1,ha1⟩:=Int.eq_ofNat_of_zero_le hab.1
         obtain⟨b1,hb1⟩:=Int.eq_ofNat_of_zero_le (show 0≤b by omega)
         subst ha1 hb1
         have hxo:=X.Bmo (P:=P) (σ:=σ) (w:=w) (x:=x) (lo:=lo) (hi:=hi) (a:=a1) (b:=b1) hat (Eo hinf hb.1.2) (by omega) (by omega) h3
          (by rcases Ll hm.sl ha with h|⟨h,h'⟩;exact .inl h;exact .inr ⟨h,by omega⟩) (by rcases Ll hm.sl hb' with h|⟨h,h'⟩;exact .inl h;exact .inr ⟨h,by omega⟩)
         refine Dl (p:= .view false i p e a1 (b1-a1)) hr0 hd hxo rfl ⟨md,_,h1,rfl,by omega,by omega,⟨_,_,(by rw[show((b1:Int)-a1).toNat=b1-a1 by omega]),(by omega),(fun h=>by cases h),fun hc=>⟨bb,h2,?_⟩⟩,(fun h=>by cases h),fun _=>⟨bb,h2⟩⟩ hk
         rw[if_neg (by omega),My];rfl
        ·cases h
       ·cases h
      ·cases h
     ·cases h
    ·cases h
  ·cases h
theorem Bzy{t:TypeId}{x hi mx:Operand}{lo:Option Operand}{G:Prop}(hr0:Rel Z s σs A L σ w)(hd:Jv n ⟨d, .slice t x lo (some hi) (some mx),ty,pos,after,none⟩=true)(h:Bjb s d t x lo hi mx k P=some r)(hG:G→(owns (Du s.sl x)).isEmpty=true):
  Ach P n ops ⟨d, .slice t x lo (some hi) (some mx),ty,pos,after,none⟩ Z s σs k r G A L σ w:=by
 unfold Bjb at h
 split at h
 ·rename_i et ht
  split at h
  ·cases h
  ·rename_i s1 hs1
   obtain⟨A1,L1,hr,hsame⟩:=Qu hr0 hs1
   have hm:=hr.mem
   split at h
   ·rename_i e0 l0 hx
    split at h
    ·rename_i e l
     split at h
     ·rename_i inf hinf
      obtain⟨hb,h⟩:=Ar h
      simp only[Bool.and_eq_true]at hb
      split at h
      ·rename_i a b c ha hb' hc'
       obtain⟨_,hok,h⟩:=bind_some h
       have hbc:b≤c∧c≤Ac l:=of_decide_eq_true (Yl hok)
       obtain⟨y,hy,h⟩:=bind_some h
       obtain⟨h1,h2,h3,h4,rfl⟩:=Akl hy
       obtain⟨c0,h5,h6⟩:=Aa1 (Cr hm.sl hx rfl)
       have hlen:=h6.len fun x c h=>Ap.len h
       obtain⟨q1,hq1⟩:=Ah2 hb' (Rj hm.sl hi (Aoa hb'))
       obtain⟨q2,hq2⟩:=Ah2 hc' (Rj hm.sl mx (Aoa hc'))
       unfold Ac at hbc
       obtain⟨p',l',c',h7,h8⟩:=X.Cam (P:=P) (l:=a.toNat) (k:=b.toNat) (c:=c.toNat) (m:=l.length) ht (Eo hinf hb.1) (St.Ccb hr h5) (j:=0) rfl hlen (Bny hb.2) h3 (by omega) (by omega)
       have hxo:=h7 σ w x lo hi mx rfl (by rcases Ll hm.sl ha with h|⟨h,h'⟩;exact .inl (by rw[←h1];exact h);exact .inr ⟨h,by omega⟩)
        ⟨q1,by rw[hq1,←h2]⟩ ⟨q2,by rw[hq2,show((c.toNat:Nat):Int)=c by omega]⟩
       have hv:Dy (fun b=>A1 b∧Z.R b) w L1 (.val (.list e) ((l.take b.toNat).drop a.toNat)) (.slice p' l' c'):=
        Ayr (h8.fact 0 rfl) (Bs.drop (fun x c h=>Ap.len h) _ (Bs.take (fun x c h=>Ap.len h) _ h6))
       refine WL.Bt4 rfl hd (hxo _ _ _ _ _) (WL.nil ⟨_,A1,L1,h,hr.Gb rfl hv,fun g=>?_⟩)
       obtain⟨e1,e2,e3⟩:=hsame (isEmpty_nil (hG g))
       subst e1 e2 e3
       have:(s1.Gb d (.val (.list e) ((l.take b.toNat).drop a.toNat))).it=s1.it:=by cases d<;>rfl
       rw[this];exact .refl
      ·cases h
     ·cases h
    ·cases h
   ·cases h
 ·cases h
theorem Cl2{e:ET}{p:PV}{x:e.T}(h:e.of p=some x):p.isP=true:=by
 unfold ET.of Bs7 at h
 split at h
 ·rfl
 ·rfl
 ·rfl
 ·cases h
theorem Bmd{e:ET}(hr:Rel Z s σs A L σ w):∀{xs:List Operand} {l:List e.T},Bmm e (xs.map (Du s.sl))=some l→
  Bs (Ap (fun b=>A b∧Z.R b) w e) l ((xs.map (ev σ)).map fun v:Value=>v.cells.toList).flatten∧l.length=xs.length∧∀v∈xs.map (ev σ),v.cells.size=e.size
 |[],l,h=>by simp only[List.map_nil,Bmm,Option.some.injEq]at h;subst h;exact⟨rfl,rfl,by simp⟩
 |x::xs,l,h=>by
  simp only[List.map_cons,Bmm]at h
  split at h
  ·rename_i y ys hy hys
   cases h
   obtain⟨h1,h2,h3⟩:=Bmd hr hys
   obtain⟨cs,h4,h5⟩:=Amg hr (Aqy hr.mem.sl (x:=x) (Cl2 hy))
   have h6:=Anu hy h5
   refine⟨⟨cs,_,by simp[h4],h6,h1⟩,by simp[h2],fun v hv=>?_⟩
   simp only[List.map_cons,List.mem_cons]at hv
   rcases hv with rfl|hv
   ·rw[h4];simpa using h6.len
   ·exact h3 v hv
  ·cases h
theorem Btf:∀{ps:List (Nat×Operand)} {m:Nat},Bw7 m ps=true→(ps.map fun p=>(p.1,ev σ p.2))=(((ps.map Prod.snd).map (ev σ)).zipIdx m).map fun p=>(p.2,p.1)
 |[],_,_=>rfl
 |(i,x)::ps,m,h=>by
  simp only[Bw7,Bool.and_eq_true]at h
  simp only[List.map_cons,List.zipIdx_cons,Btf h.2,By h.1]
theorem Bln{t:TypeId}{len:Nat}{ps:Array (Nat×Operand)}{dn:Nat}{G:Prop}(hr0:Rel Z s σs A L σ w)(hd:Jv n ⟨some dn, .buildSlice t len ps,ty,pos,after,none⟩=true)
  (h:Asq P s (some dn) t len ps.toList k=some r) (hG:G→(owns.go (ps.toList.map fun p=>Du s.sl p.2)).isEmpty=true):Ach P n ops ⟨some dn, .buildSlice t len ps,ty,pos,after,none⟩ Z s σs k r G A L σ w:=by
 unfold Asq at h
 split at h
 ·cases h
 ·rename_i E hE
  split at h
  ·cases h
  ·rename_i e he
   obtain⟨hb,h⟩:=Ar h
   simp only[Bool.and_eq_true]at hb
   obtain⟨⟨⟨hb1,hb2⟩,hb3⟩,hb4⟩:=hb
   split at h
   ·cases h
   ·rename_i s1 hs1
    obtain⟨A1,L1,hr,hsame⟩:=Qu hr0 hs1
    split at h
    ·rename_i l hl
     have hl':Bmm e ((ps.toList.map Prod.snd).map (Du s1.sl))=some l:=by rw[List.map_map];exact hl
     obtain⟨h1,h2,h3⟩:=Bmd hr hl'
     have hps:ps=ps.toList.toArray:=by simp
     rw[show(⟨some dn, .buildSlice t len ps,ty,pos,after,none⟩:Oper)=⟨some dn, .buildSlice t len ps.toList.toArray,ty,pos,after,none⟩ by rw[←hps]]
     have hlen:((ps.toList.map Prod.snd).map (ev σ)).length=len:=by simpa using By hb3
     have hF:=St.Bbp (f:=Bie Z.R L1 (.arr E e l) (((ps.toList.map Prod.snd).map (ev σ)).map fun v:Value=>v.cells.toList).flatten) hr.same h1
     refine WL.buildSlice (vs:=(ps.toList.map Prod.snd).map (ev σ)) (Ayd hE) (Bdp hb1) hF (Asx (o:= .buildSlice t len ps) hd) (Btf hb2) hlen hb4 h3 rfl (fun p q c w' hs'=>WL.nil ?_)
     have h4:Bs (Ap (fun b=>A1 b∧Z.R b) w' e) l (((ps.toList.map Prod.snd).map (ev σ)).map fun v:Value=>v.cells.toList).flatten:=hs'.fact 0 rfl
     refine Bll.of (fun g=>hsame (isEmpty_nil (hG g))) (Awy (a:= .arr E e l) (md:= .own e.size E (.slice p q c) _) hr hs'.Bfd ⟨rfl,rfl,h4⟩ rfl (fun B=>?_) h)
     rw[S.new,hr.len];exact Bgr
    ·cases h
theorem Bzm{E:TypeId}{e:ET}{i len cap m:Nat}{q:Option Addr}{cs:List Value}{l:List e.T}(hr:Rel Z s σs A L σ w)(hi:L[i]? =some (.own e.size E (.slice q len cap) cs))(hm:m≤len)(hl:Bs (Ap (fun b=>A b∧Z.R b) w e) l (cs.take (m*e.size))):
  Rel Z (((s.Uq i .dead).sub i .any).add (.arr E e l)) σs A (L.set i .dead++[.own e.size E (.slice q m cap) (cs.take (m*e.size))]) σ w:=by
 have hf:Frz (fun b=>A b∧Z.R b) w L i .any:=⟨fun z E' u c h=>⟨u,rfl,by rw[hi]at h;cases h;rfl⟩,rfl,rfl⟩
 have hm2:=hr.mem.subst hf
 have hmob:(L.map MD.Hs)[i]? =some (Mob.own e.size E (.slice q len cap) cs):=hr.Hs hi
 obtain⟨o,h1,h2,h3⟩:=(St.mobs hr).perm (Azz hmob).symm
 have h4:(Mob.own e.size E (.slice q m cap) (cs.take (m*e.size))).holds o w:=by
  obtain⟨q',len',cap',g1,g2,g3,g4,g5,g6⟩:=h1
  cases g1
  have e5:m*e.size≤len*e.size:=Nat.mul_le_mul_right _ hm
  refine⟨q,m,cap,rfl,by rw[List.length_take];omega,by omega,g4,g5,fun b hb=>?_⟩
  obtain⟨arr,fr,k1,k2,k3,k4,k5⟩:=g6 b hb
  exact⟨arr,fr,k1,k2,k3,k4,fun j hj=>by rw[k5 j (by omega),List.getElem?_take,if_pos hj]⟩
 have h5:Mobs w A (Mob.own e.size E (.slice q m cap) (cs.take (m*e.size))::(L.map MD.Hs).eraseIdx i):=⟨o,h4,h2,h3⟩
 have h6:Mobs w A (MD.dead.Hs::Mob.own e.size E (.slice q m cap) (cs.take (m*e.size))::(L.map MD.Hs).eraseIdx i):=⟨none,⟨none,0,0,rfl,by simp,Nat.le_refl _,fun _=>rfl,fun _=>rfl,fun b h=>by cases h⟩,fun b hb=>(by cases hb),h5.Yb fun b hb=>hb.elim id fun h=>by cases h⟩
 have h7:Mobs w A ((MD.own e.size E (.slice q m cap) (cs.take (m*e.size))).Hs::(L.set i .dead).map MD.Hs):=by
  rw[List.map_set]
  exact h6.perm ((List.Perm.swap _ _ _).trans ((Am1 (m':=MD.dead.Hs) hmob).cons _))
 have h8:St A w [Nl Z.R (L.set i .dead) ((s.Uq i .dead).sub i .any) σs σ, .old Z.M Z.w0] ((MD.own e.size E (.slice q m cap) (cs.take (m*e.size))).Hs::(L.set i .dead).map MD.Hs):=by
  refine⟨St.lt hr,fun f hf=>?_,h7⟩
  cases hf with
  |head=>exact hm2
  |tail _ hf=>exact hr.facts f (.tail _ hf)
 exact Rel.push (a:= .arr E e l) h8 ⟨rfl,rfl,hl⟩
theorem Bqx{E:TypeId}{e:ET}{x:Operand}{s1:S}{i:Nat}(hr:Rel Z s σs A L σ w)(hz:0<e.size)(hx:(Du s.sl x).isP=true)(h:Bxf s E e (Du s.sl x)=some (s1,i)):
  ∃L1,Rel Z s1 σs A L1 σ w∧∃c0,L1[i]? =some (.own e.size E (ev σ x) c0):=by
 have hv:=Rj hr.mem.sl x (PV.Bnb hx)
 unfold Bxf at h
 split at h
 ·rename_i hp
  cases h
  rw[hp]at hv
  have hev:=Af4 hv
  have hr':=Rel.push (a:= .arr E e []) (md:= .own e.size E (.slice none 0 0) []) (St.Bht hr e.size E) ⟨rfl,rfl,rfl⟩
  refine⟨_,hr',[],?_⟩
  rw[S.new,hr.len,hev];simp
 ·rename_i j hp
  rw[hp]at hv
  split at h
  ·rename_i E' e' l hj
   obtain⟨hb,h⟩:=Ar h
   split at h
   ·rename_i he
    cases h
    subst he
    have:=By hb
    subst this
    obtain⟨v,cs,h1,h2⟩:=hr.mem.arr hj
    obtain⟨z,E',c,h3⟩:=Ag6 hv
    rw[h1]at h3;cases h3
    exact⟨L,hr,cs,h1⟩
   ·cases h
  ·cases h
 ·rename_i j p e1 lo n' hp
  rw[hp]at hv
  split at h
  ·rename_i E' e' l hj
   obtain⟨hb,h⟩:=Ar h
   simp only[Bool.and_eq_true,decide_eq_true_eq]at hb
   obtain⟨⟨hE,h0⟩,he1⟩:=hb
   split at h
   ·rename_i he
    cases h
    subst he he1
    have:=By hE
    subst this
    subst h0
    obtain⟨u,cs,h1,h2⟩:=hr.mem.arr hj
    obtain⟨md,v1,h3,h4,k1,k2,_,k7,_⟩:=hv
    rw[h1]at h3;cases h3
    have h6:ev σ x=v1:=by simpa using h4
    obtain⟨s',E2,q,len,cap,c0,e1,e2,e3,_,e5⟩:=k7 rfl
    cases e1
    have e7:=e5 rfl
    have hl:Bs (Ap (fun b=>A b∧Z.R b) w e1) (Anw l 0 n') (cs.take (n'.toNat*e1.size)):=by
     have:=Bs.take (fun x c h=>Ap.len h) n'.toNat h2
     simpa [Anw]using this
    have hr':=Bzm hr h1 (m:=n'.toNat) (by simpa using e3) hl
    refine⟨_,hr',cs.take (n'.toNat*e1.size),?_⟩
    rw[h6,e7,S.new,hr.len]
    have:L.length=(L.set j .dead).length:=by simp
    rw[this,List.getElem?_append_right (Nat.le_refl _)]
    simp
   ·cases h
  ·cases h
 ·cases h
theorem Ch1{e:ET}{a:Item}{l:List e.T}(h:Ckr e a=some l):∃E,a= .arr E e l:=by
 unfold Ckr at h
 split at h
 ·rename_i E e' l'
  split at h
  ·rename_i he;subst he;cases h;exact⟨E,rfl⟩
  ·cases h
 ·cases h
theorem Bqi{E:TypeId}{e:ET}{i dn:Nat}{l m:List e.T}{cs ys:List Value}{v v':Value}{w':World}{s0:S}{A0:Reg}{L0:List MD}{w0:World}(hr:Rel Z s σs A L σ w)(hi:L[i]? =some (.own e.size E v cs))(hl:Bs (Ap (fun b=>A b∧Z.R b) w e) (l++m) (cs++ys))
  (hs:St A w' [Bie Z.R L (.arr E e (l++m)) (cs++ys),Nl Z.R L s σs σ, .old Z.M Z.w0] ((L.map MD.Hs).set i (.own e.size E v' (cs++ys))))
  (hk:k ((((s.Uq i .dead).sub i .any).add (.arr E e (l++m))).Gb (some dn) (.own s.new))=some r):Bll Z σs k r False A0 L0 s0.it w0 (Uq σ dn v') w':=by
 have h1:Bs (Ap (fun b=>A b∧Z.R b) w' e) (l++m) (cs++ys):=hs.fact 0 rfl
 have hone:v.oneCell'=true:=by obtain⟨p,len,cap,rfl,_⟩:=hr.Vf hi;rfl
 have hs1:=hs.Bfd
 have hm:MemR (fun b=>A b∧Z.R b) w' L s σs σ:=hs1.fact 0 rfl
 have hf:Frz (fun b=>A b∧Z.R b) w' L i .any:=⟨fun z E' u c h=>⟨u,rfl,by rw[hi]at h;cases h;exact hone⟩,rfl,rfl⟩
 have hm2:=hm.subst hf
 have hmob:(L.map MD.Hs)[i]? =some (Mob.own e.size E v cs):=hr.Hs hi
 have hs2:=Mobs.Atb hs1 (Am1 (m':=Mob.own e.size E v' (cs++ys)) hmob).symm
 have hs3:=Mobs.Atb (hs2.Bht 1 0) (List.Perm.swap _ _ _)
 have hs4:=Mobs.Atb hs3 ((Am1 (m':=MD.dead.Hs) hmob).cons _)
 have hs5:St A w' [Nl Z.R (L.set i .dead) ((s.Uq i .dead).sub i .any) σs σ, .old Z.M Z.w0] ((MD.own e.size E v' (cs++ys)).Hs::(L.set i .dead).map MD.Hs):=by
  rw[List.map_set]
  exact(hs4.noF.Bbp (f:= .old Z.M Z.w0) (hs4.fact 1 rfl)).Bbp (f:=Nl Z.R (L.set i .dead) ((s.Uq i .dead).sub i .any) σs σ) hm2
 have hr2:=Rel.push (a:= .arr E e (l++m)) hs5 ⟨rfl,rfl,h1⟩
 have hnew:s.new=(L.set i .dead).length:=by rw[List.length_set,←hr.len];rfl
 refine⟨_,A,_,hk,hr2.Gb (d:=some dn) rfl ?_,fun g=>g.elim⟩
 rw[hnew];exact Bgr
theorem Cfb(z:Array Value)(hz:0<z.size)(m:Nat):((List.replicate m z.toList).flatten).toArray=Builtin.zeroCells z m:=by
 apply Array.ext
 ·simp[Builtin.zeroCells]
 ·intro j h1 h2
  simp only[Builtin.zeroCells,Array.getElem_map,Array.getElem_range]
  have h3:j<m*z.size:=by simpa [Builtin.zeroCells]using h2
  have h4:=Bj3 z.toList z.size (by simp) hz m j h3
  have h5:j %z.size<z.size:=Nat.mod_lt _ hz
  simp only[List.getElem_toArray]
  rw[List.getElem?_eq_getElem (by simpa using h1)]at h4
  simp[h5]at h4
  simp[h4,h5]
theorem Cgy{E t t2:TypeId}{e:ET}{y:Operand}{kk:List e.T→Option R}(hr:Rel Z s σs A L σ w)(ht:P.underlying t=some (.slice E))(hel:ElemOk P E e.size)(h:Cka P s E e t2 y kk=some r):
  ∃m ys,kk m=some r∧Bs (Ap (fun b=>A b∧Z.R b) w e) m ys∧∀(A1:Reg) (F:List Fact) (LL:List Mob) (i ll:Nat) (vx:Value) (cs:List Value),St A1 w F LL→LL[i]? =some (.own e.size E vx cs)→cs.length=ll*e.size→ll+m.length≤LIM→
   ∃v' w',(Builtin.append_ #[t,t2] ty #[vx,ev σ y]).run P w= .ok v' w'∧St A1 w' F (LL.set i (.own e.size E v' (cs++ys))):=by
 unfold Cka at h
 split at h
 ·rename_i ht2
  split at h
  ·rename_i m0 hy
   split at h
   ·rename_i m hm
    unfold Av3 at hm
    split at hm
    ·rename_i he
     cases he
     cases hm
     refine⟨m0,Aea m0,h,Bus.Al0,fun A1 F LL i ll vx cs hs hL hlen hlim=>?_⟩
     rw[Ui hr.mem.sl hy]
     exact Ban (x:=y) (y:=y) ht hel hs hL (Src.string ht2) (Cgg m0) hlen (by simp[Aea,ET.size]) hlim
    ·cases hm
   ·cases h
  ·cases h
 ·rename_i et2 ht2
  split at h
  ·rename_i m hm
   have hV:(Du s.sl y).isV=true:=by
    cases hq:(Du s.sl y).isV with
    |true=>rfl
    |false=>rcases Aav hq with h|h|⟨_,_,_,h⟩<;>rw[h]at hm<;>cases hm
   obtain⟨c0,h1,h2⟩:=Bb1 hr.mem hm (Rj hr.mem.sl y hV)
   have hrd:Rd (fun _=>True) w e.size (ev σ y) c0:=by
    rcases h2 with h2|⟨j,E',u,cs',_,h2,hpart⟩
    ·exact h2.step (fun _ _=>trivial) (fun _ _=>rfl)
    ·exact hpart _ _ (hr.Vf h2)
   have hly:=h1.len fun x c h=>Ap.len h
   exact⟨m,c0,h,h1,fun A1 F LL i ll vx cs hs hL hlen hlim=>Ban (x:=y) (y:=y) ht hel hs hL (Src.slice ⟨_,ht2⟩ hrd hly hel.pos) h1.Boz hlen hly hlim⟩
  ·cases h
 ·rename_i kk2 ht2
  split at h
  ·rename_i q z hq hz
   split at h
   ·rename_i x0 hx0
    obtain⟨m,hm,h⟩:=bind_some h
    obtain⟨h1,h2,rfl⟩:=Bq8 hm
    obtain⟨zv,⟨i0,hi0,hz0⟩,hz2⟩:=Anh hz
    have hx1:=Anu hx0 (hz2 (fun b=>A b∧Z.R b) w L)
    have hall:=Bpt hx1 q.toNat
    refine⟨_,_,h,hall,fun A1 F LL i ll vx cs hs hL hlen hlim=>?_⟩
    rw[Biv hq (Rj hr.mem.sl y (Bpj hq)),h1]
    have hzs:zv.cells.size=e.size:=by have:=hx1.len;simpa using this
    rw[List.length_replicate]at hlim
    exact Bog (x:=y) (y:=y) (ly:=q.toNat) ht hel hs hL ⟨_,ht2⟩ (fun i z' hi hz'=>by rw[hi0]at hi;cases hi;rw[hz0]at hz';cases hz';exact Cfb zv.cells (by rw[hzs];exact hel.pos) _)
     hall.Boz hlen ((hall.len fun x c h=>Ap.len h).trans (by simp)) hlim
   ·cases h
  ·cases h
 ·cases h
theorem Caj{t t2:TypeId}{x y:Operand}{dn:Nat}(hr0:Rel Z s σs A L σ w)(hd:Jv n ⟨some dn, .call ⟨.builtin .append, #[x,y], #[t,t2]⟩,ty,pos,after,none⟩=true)
  (h:Bhv P s (some dn) x y t t2 k=some r):Ach P n ops ⟨some dn, .call ⟨.builtin .append, #[x,y], #[t,t2]⟩,ty,pos,after,none⟩ Z s σs k r False A L σ w:=by
 unfold Bhv at h
 split at h
 ·cases h
 ·rename_i E hE
  split at h
  ·cases h
  ·rename_i e he
   obtain⟨hb,h⟩:=Ar h
   simp only[Bool.and_eq_true]at hb
   have hel:=Bdp hb.1
   split at h
   ·cases h
   ·rename_i s1 i hown
    obtain⟨L1,hr,cs,hi⟩:=Bqx hr0 hel.pos hb.2 hown
    split at h
    ·cases h
    ·rename_i l hl
     obtain⟨E',hit⟩:=Ch1 hl
     obtain⟨v1,cs1,h1,h2⟩:=hr.mem.arr hit
     rw[hi]at h1;cases h1
     have hlen:=h2.len fun x c h=>Ap.len h
     obtain⟨m,ys,hk,hm,hrun⟩:=Cgy (ty:=ty) hr0 (Ayd hE) hel h
     obtain⟨r',ha,hk⟩:=bind_some hk
     obtain⟨h3,rfl⟩:=Bms ha
     have hF:=St.Bbp (f:=Bie Z.R L1 (.arr E e (l++m)) (cs++ys)) hr (h2.append hm)
     obtain⟨v',w',h4,h5⟩:=hrun A _ _ i l.length (ev σ x) cs hF (hr.Hs hi) hlen h3
     refine WL.val (v:=v') (w':=w') rfl rfl (Asx hd) ?_ (WL.nil (Bqi hr hi (h2.append hm) h5 hk))
     simp[execOp,resolve,invoke,builtin,h4]
end Go.Rx
set_option linter.unusedVariables false
set_option linter.unusedSimpArgs false
namespace Go.Rx
open Go Go.Lv
variable {P:Program} {B:Reg} {w w':World} {L L':List MD} {s:S} {σs:List Env} {σ:Env} {Z:Fix} {A A':Reg} {n:Nat} {ops:Array Oper} {rest:List Oper} {K:Env→World→Prop}
variable {R:Type} {k:S→Option R} {r:R} {d:Option Nat} {ty:TypeId} {pos:String} {after:Array Edge}
theorem Bl5{place:Nat→Option (Nat×Nat)}{acc ns:List Value}{i off z:Nat}{v:Value}{rest:List (Nat×Value)}(hp:place i=some (off,z))(hv:v.cells=ns.toArray)(hz:ns.length=z)(hl:off+z≤acc.length):
  Instr.fill place acc.toArray ((i,v)::rest)=Instr.fill place (Ax acc off ns).toArray rest:=by
 have hf:=Avr off ns 0 acc (by omega)
 have hfold:v.cells.zipIdx.foldl (fun cs (x:Value×Nat)=>cs.setIfInBounds (off+x.2) x.1) acc.toArray=(Ax acc off ns).toArray:=by
  rw[hv,←Array.foldl_toList,Array.toList_zipIdx];simpa using hf
 simp only[Instr.fill,hp]
 have hc:(decide (v.cells.size≠z)||decide (off+v.cells.size>acc.toArray.size))=false:=by rw[hv];simp;omega
 rw[if_neg (by rw[hc];simp)]
 show Instr.fill _ (v.cells.zipIdx.foldl (fun cs (x:Value×Nat)=>cs.setIfInBounds (off+x.2) x.1) acc.toArray) _=_
 rw[hfold]
def places:List PV→Nat→List (Nat×Nat)
 |[],_=>[]
 |v::vs,off=>(off,v.size)::places vs (off+v.size)
theorem Bh1:∀{l:List PV} {i off:Nat} {u:PV},l[i]? =some u→(places l off)[i]? =some (off+Bhk l i,u.size)
 |[],_,_,_,h=>by simp at h
 |a::l,0,off,u,h=>by simp at h;subst h;rfl
 |a::l,i+1,off,u,h=>by
  have:=Bh1 (l:=l) (i:=i) (off:=off+a.size) (by simpa using h)
  simpa [places,Bhk,Nat.add_assoc]using this
theorem Bj5:∀{l:List PV} {i off:Nat} {u v:PV},l[i]? =some u→u.size=v.size→places (l.set i v) off=places l off
 |[],_,_,_,_,h,_=>by simp at h
 |a::l,0,off,u,v,h,hs=>by simp at h;subst h;simp[places,hs]
 |a::l,i+1,off,u,v,h,hs=>by simp[places,Bj5 (l:=l) (i:=i) (by simpa using h) hs]
theorem Bgc:∀{fs:List Field} {vs:List PV} {off:Nat},Ari P fs vs off=true→(fs.map fun f=>(f.offset,(P.info? f.type).map (·.size)))=(places vs off).map fun p=>(p.1,some p.2)
 |[],[],_,_=>rfl
 |[],_::_,_,h=>by simp[Ari]at h
 |_::_,[],_,h=>by simp[Ari]at h
 |f::fs,v::vs,off,h=>by
  simp only[Ari,Bool.and_eq_true]at h
  obtain⟨⟨h1,h2⟩,h3⟩:=h
  split at h2
  ·rename_i i hi
   simp[places,Bgc h3,hi,By h1,By h2]
  ·cases h2
theorem Bfm(hr:Rel Z s σs A L σ w){pl:List (Nat×Nat)}:∀{parts:List (Nat×Operand)} {zs l:List PV} {acc:List Value},Awp (parts.map fun p=>(p.1,Du s.sl p.2)) zs=some l→
  places zs 0=pl→EncC.go (fun b=>A b∧Z.R b) w L zs acc→∃cells,Instr.fill (pl[·]?) acc.toArray (parts.map fun p=>(p.1,ev σ p.2))=some cells.toArray∧EncC.go (fun b=>A b∧Z.R b) w L l cells
 |[],zs,l,acc,h,_,ha=>by simp only[List.map_nil,Awp,Option.some.injEq]at h;subst h;exact⟨acc,rfl,ha⟩
 |(i,x)::ps,zs,l,acc,h,hpl,ha=>by
  subst hpl
  simp only[List.map_cons,Awp]at h
  split at h
  ·rename_i u hu
   obtain⟨hb,h⟩:=Ar h
   simp only[Bool.and_eq_true]at hb
   have hsz:=By hb.1
   obtain⟨ns,h1,h2⟩:=Amg hr (Aqy hr.mem.sl (x:=x) hb.2)
   obtain⟨c1,c2,c3,e,h3,h4,h5⟩:=EncC.field ha hu
   have hlen:=h2.len
   have hlen2:=h4.len
   obtain⟨cells,h6,h7⟩:=Bfm hr (zs:=zs.set i (Du s.sl x)) (acc:=c1++(ns++c3)) h (by rw[Bj5 hu hsz]) (h5 _ _ h2)
   refine⟨cells,?_,h7⟩
   rw[List.map_cons,Bl5 (off:=c1.length) (z:=u.size) (ns:=ns) (by rw[Bh1 hu,Nat.zero_add,h3]) h1 (by omega) (by rw[e];simp;omega),e,As5 (by omega)]
   exact h6
  ·cases h
theorem Bqe(hr:Rel Z s σs A L σ w){e:ET}:∀{parts:List (Nat×Operand)} {l l':List e.T} {acc:List Value},Bhn e (parts.map fun p=>(p.1,Du s.sl p.2)) l=some l'→
  Bs (Ap (fun b=>A b∧Z.R b) w e) l acc→∃cells,Instr.fill (fun i=>some (i*e.size,e.size)) acc.toArray (parts.map fun p=>(p.1,ev σ p.2))=some cells.toArray∧Bs (Ap (fun b=>A b∧Z.R b) w e) l' cells∧l'.length=l.length
 |[],l,l',acc,h,ha=>by simp only[List.map_nil,Bhn,Option.some.injEq]at h;subst h;exact⟨acc,rfl,ha,rfl⟩
 |(i,x)::ps,l,l',acc,h,ha=>by
  simp only[List.map_cons,Bhn]at h
  split at h
  ·rename_i u y hu hy
   obtain⟨ns,h1,h2⟩:=Amg hr (Aqy hr.mem.sl (x:=x) (Cl2 hy))
   have h3:=Anu hy h2
   obtain⟨c1,c2,c3,e',h4,h5,h6⟩:=Bs.get (fun x c h=>Ap.len h) ha hu
   have hlen:=h3.len
   have hlen2:=h5.len
   obtain⟨cells,h7,h8,h9⟩:=Bqe hr (l:=l.set i y) (acc:=c1++(ns++c3)) h (h6 _ _ h3)
   refine⟨cells,?_,h8,by rw[h9,List.length_set]⟩
   rw[List.map_cons,Bl5 (off:=c1.length) (z:=e.size) (ns:=ns) (by rw[h4]) h1 hlen (by rw[e'];simp;omega),e',As5 (by omega)]
   exact h7
  ·cases h
theorem Cay{t et:TypeId}{m z:Nat}{parts:List (Nat×Operand)}{zv:Value}{cells:List Value}(ht:P.underlying t=some (.array m et))(hz:∃i,P.info? t=some i∧i.zero=some zv)(hsz:SizeIs P et z)
  (hf:Instr.fill (fun i=>some (i*z,z)) zv.cells (parts.map fun p=>(p.1,ev σ p.2))=some cells.toArray) (w:World):XO P σ w (.build t parts.toArray) (.agg cells.toArray):=fun _ _ _ _ _=>by
 obtain⟨i,hi,hz⟩:=hz
 simp only[execOp,Instr.build,Sem.run_bind,zeroValue,typeInfo]
 simp[hi,hz,run_underlying ht,Bf hsz,hf]
theorem Ccw{t:TypeId}{ps:Array (Nat×Operand)}{G:Prop}(hr:Rel Z s σs A L σ w)(hd:Jv n ⟨d, .build t ps,ty,pos,after,none⟩=true)(h:Bpp P s d t ps.toList k=some r):
  Ach P n ops ⟨d, .build t ps,ty,pos,after,none⟩ Z s σs k r G A L σ w:=by
 have hps:ps=ps.toList.toArray:=by simp
 rw[show(⟨d, .build t ps,ty,pos,after,none⟩:Oper)=⟨d, .build t ps.toList.toArray,ty,pos,after,none⟩ by rw[←hps]]
 unfold Bpp at h
 split at h
 ·rename_i fs zs ht hz
  obtain⟨hb,h⟩:=Ar h
  obtain⟨z,⟨i,hi,hz0⟩,hz2⟩:=Anh hz
  split at h
  ·rename_i l hl
   obtain⟨cells,h1,h2⟩:=Bfm hr (pl:=places zs 0) hl rfl (show EncC.go _ w L zs _ from hz2 _ _ _)
   have hst:Aqm P t (places zs 0) z.cells.toList:=by
    unfold Aqm Ar7
    rw[ht]
    simp only[Bgc hb,hi,hz0,Option.map_some]
   exact Dl hr (d:=d) (o:= .build t ps.toList.toArray) (by simpa using hd) (X.build hst rfl (by simpa using h1)) rfl (show Dy _ w L (.agg l) _ from⟨cells,rfl,h2⟩) h
  ·cases h
 ·rename_i m et e0 l0 ht hz
  split at h
  ·rename_i m' a l
   split at h
   ·rename_i inf l' hinf hl
    obtain⟨hb,h⟩:=Ar h
    obtain⟨z,hz1,hz2⟩:=Anh hz
    obtain⟨h0,h0'⟩:l.length=m'∧Bs (Ap (fun b=>A b∧Z.R b) w a) l z.cells.toList:=hz2 _ _ L
    obtain⟨cells,h1,h2,h3⟩:=Bqe hr hl h0'
    have:=Cay (σ:=σ) (parts:=ps.toList) ht hz1 (Eo hinf hb) (by simpa using h1) w
    exact Dl hr (d:=d) (o:= .build t ps.toList.toArray) (by simpa using hd) this rfl (show Dy _ w L (.val (.vec m' a) l') _ from⟨cells,rfl,h3.trans h0,h2⟩) h
   ·cases h
  ·cases h
 ·cases h
end Go.Rx
set_option linter.unusedVariables false
set_option linter.unusedSimpArgs false
namespace Go.Rx
open Go Go.Lv
variable {P:Program} {B B':Reg} {w w':World} {L L':List MD} {s:S} {σs:List Env} {σ:Env} {Z:Fix} {A A':Reg} {n:Nat}
def Aud(B:Reg)(w:World)(L:List MD)(B':Reg)(w':World)(L':List MD)(q q':PV):Prop:=q'.isA=q.isA∧∀cs,EncC B w L q cs→EncC B' w' L' q' cs
inductive All2 {α β:Type} (f:α→β→Prop):List α→List β→Prop
 |nil:All2 f [] []
 |cons {a b l m}:f a b→All2 f l m→All2 f (a::l) (b::m)
theorem All2.split{α β:Type}{f:α→β→Prop}:∀{l1 l2:List α} {m:List β},All2 f (l1++l2) m→∃m1 m2,m=m1++m2∧All2 f l1 m1∧All2 f l2 m2
 |[],_,m,h=>⟨[],m,rfl, .nil,h⟩
 |a::l1,l2,_, .cons h1 h2=>let⟨m1,m2,e,h3,h4⟩:=All2.split h2;⟨_::m1,m2,by rw[e];rfl, .cons h1 h3,h4⟩
mutual
theorem Bae:∀{sh:Sh} {p:PV} {ls ls' rest:List PV} {cs:List Value},Uu sh p=some ls→EncC B w L p cs→All2 (Aud B w L B' w' L') ls ls'→∃p',Rh sh (ls'++rest)=some (p',rest)∧p'.isA=p.isA∧EncC B' w' L' p' cs
 | .lf e o,p,ls,ls',rest,cs,h,hp,ha=>by
  simp only[Uu,Option.some.injEq]at h
  subst h
  cases ha with
  |cons h1 h2=>
   cases h2
   exact⟨_,rfl,h1.1,h1.2 _ hp⟩
 | .agg l,p,ls,ls',rest,cs,h,hp,ha=>by
  cases p<;>simp only[Uu,reduceCtorEq]at h
  rename_i vs
  obtain⟨us,h1,h2⟩:=Bfa (rest:=rest) h (show EncC.go B w L vs cs from hp) ha
  exact⟨.agg us,by simp only[Rh,h1],rfl,h2⟩
theorem Bfa:∀{l:List Sh} {ps:List PV} {ls ls' rest:List PV} {cs:List Value},Uu.go l ps=some ls→EncC.go B w L ps cs→All2 (Aud B w L B' w' L') ls ls'→∃ps',Rh.go l (ls'++rest)=some (ps',rest)∧EncC.go B' w' L' ps' cs
 |[],[],ls,ls',rest,cs,h,hp,ha=>by
  simp only[Uu.go,Option.some.injEq]at h;subst h
  cases ha
  exact⟨[],rfl,hp⟩
 |a::l,p::ps,ls,ls',rest,cs,h,⟨c1,c2,e,hp1,hp2⟩,ha=>by
  simp only[Uu.go]at h
  split at h
  ·rename_i x y hx hy
   cases h
   obtain⟨m1,m2,rfl,h1,h2⟩:=ha.split
   obtain⟨p',h3,_,h4⟩:=Bae (rest:=m2++rest) hx hp1 h1
   obtain⟨ps',h5,h6⟩:=Bfa (rest:=rest) hy hp2 h2
   exact⟨p'::ps',by simp only[Rh.go,List.append_assoc,h3,h5],c1,c2,e,h4,h6⟩
  ·cases h
 |[],_::_,_,_,_,_,h,_,_=>by simp[Uu.go]at h
 |_::_,[],_,_,_,_,h,_,_=>by simp[Uu.go]at h
end
theorem Aze:∀{l:List Sh} {ps:List PV} {ls ls' rest:List PV} {us:List Value},Uu.go l ps=some ls→EncVs B w L ps us→All2 (Aud B w L B' w' L') ls ls'→∃ps',Rh.go l (ls'++rest)=some (ps',rest)∧EncVs B' w' L' ps' us
 |[],[],ls,ls',rest,us,h,hp,ha=>by
  simp only[Uu.go,Option.some.injEq]at h;subst h
  cases ha
  exact⟨[],rfl,hp⟩
 |a::l,p::ps,ls,ls',rest,us,h,⟨v,us',e,hp1,hp2⟩,ha=>by
  simp only[Uu.go]at h
  split at h
  ·rename_i x y hx hy
   cases h
   obtain⟨m1,m2,rfl,h1,h2⟩:=ha.split
   have key:∃p',Rh a (m1++(m2++rest))=some (p',m2++rest)∧asV p'.isA (EncC B' w' L' p') v:=by
    cases hA:p.isA with
    |true=>
     rw[hA]at hp1
     obtain⟨cs,e1,hc⟩:=hp1
     obtain⟨p',h3,h4,h5⟩:=Bae (rest:=m2++rest) hx hc h1
     exact⟨p',h3,by rw[h4,hA];exact⟨cs,e1,h5⟩⟩
    |false=>
     rw[hA]at hp1
     obtain⟨p',h3,h4,h5⟩:=Bae (rest:=m2++rest) hx hp1 h1
     exact⟨p',h3,by rw[h4,hA];exact h5⟩
   obtain⟨p',h3,h4⟩:=key
   obtain⟨ps',h5,h6⟩:=Aze (rest:=rest) hy hp2 h2
   exact⟨p'::ps',by simp only[Rh.go,List.append_assoc,h3,h5],v,us',e,h4,h6⟩
  ·cases h
 |[],_::_,_,_,_,_,h,_,_=>by simp[Uu.go]at h
 |_::_,[],_,_,_,_,h,_,_=>by simp[Uu.go]at h
theorem Bcx{l:List Sh}{ps ls ls':List PV}{us:List Value}(h:Bv7 l ps=some ls)(hp:EncVs B w L ps us)(ha:All2 (Aud B w L B' w' L') ls ls'):∃ps',Axv l ls'=some ps'∧EncVs B' w' L' ps' us:=by
 obtain⟨ps',h1,h2⟩:=Aze (rest:=[]) h hp ha
 rw[List.append_nil]at h1
 exact⟨ps',by simp only[Axv,h1],h2⟩
theorem Bq3{e:ET}{q:PV}{x:e.T}(h:Av7 s e q=some x):(∃e0,e= .list e0)∨(∃e' x',q= .val e' x'∧Av3 e' e x'=some x):=by
 unfold Av7 at h
 split at h
 ·exact .inl ⟨_,rfl⟩
 ·exact .inr ⟨_,_,rfl,h⟩
 ·cases h
theorem cast_eq{e e':ET}{x:e.T}{y:e'.T}(h:Av3 e e' x=some y):PV.val e x=PV.val e' y:=by
 unfold Av3 at h
 split at h
 ·rename_i he;subst he;cases h;rfl
 ·cases h
theorem Ca1{e:ET}{q:PV}{l:List e.T}(h:Bn9 s e q=some l):elems s e q=some l∧q.isA=false∧q.size=1:=by
 unfold Bn9 at h
 split at h
 ·cases h
 ·refine⟨h,?_⟩
  unfold elems at h
  split at h
  ·split at h
   ·exact⟨rfl,rfl⟩
   ·cases h
  ·exact⟨rfl,rfl⟩
  ·exact⟨rfl,rfl⟩
  ·exact⟨rfl,rfl⟩
  ·cases h
theorem Brc(hr:Rel Z s σs A L σ w){e:ET}{q:PV}{x:e.T}(h:Av7 s e q=some x)(hb:∀b,A b∧Z.R b→B' b)(ho:∀i∈owns q,∀z E v c,L[i]? =some (.own z E v c)→Rd B' w z v c):Aud (fun b=>A b∧Z.R b) w L B' w L' q (.val e x):=by
 rcases Bq3 h with⟨e0,rfl⟩|⟨e',x',rfl,hc⟩
 ·obtain⟨h1,hA,h2⟩:=Ca1 (show Bn9 s e0 q=some x from h)
  refine⟨by rw[hA];rfl,fun cs hcs=>?_⟩
  have hP:=hcs.Ber
  have hlen:=hcs.len
  have:∃v,cs=[v]:=by
   rw[h2]at hlen
   match cs,hlen with
   |[v],_=>exact⟨v,rfl⟩
  obtain⟨v,rfl⟩:=this
  have hv:Dy (fun b=>A b∧Z.R b) w L q v:=(Asr hP).2 (by unfold EncV;rw[hA];exact hcs)
  obtain⟨c0,h3,h4⟩:=Bb1 hr.mem h1 hv
  refine⟨v,c0,rfl,?_,h3.mono fun x c h=>Ap.step hb (fun _ _=>rfl) h⟩
  rcases h4 with h4|⟨i,E,u,cs,hi,h4,hpart⟩
  ·exact h4.step hb (fun _ _=>rfl)
  ·exact hpart _ _ (ho i hi _ _ _ _ h4)
 ·have:=cast_eq hc
  rw[this]
  exact⟨rfl,fun cs h=>Ap.step hb (fun _ _=>rfl) (show Ap _ w e x cs from h)⟩
theorem Bxo{e:ET}{x:e.T}{s0:S}:Em e none x s0=(.val e x,s0):=by cases e<;>rfl
theorem Bj4(x:LTy [])(s0:S):Er [] x s0=([],s0):=rfl
theorem Asc(p:ET×Option TypeId)(x:LTy [p])(s0:S):Er [p] x s0=([(Em p.1 p.2 x s0).1],(Em p.1 p.2 x s0).2):=rfl
theorem Ao4(p q:ET×Option TypeId)(r:List (ET×Option TypeId))(x:p.1.T)(y:LTy (q::r))(s0:S):Er (p::q::r) (x,y) s0=
  ((Em p.1 p.2 x s0).1::(Er (q::r) y (Em p.1 p.2 x s0).2).1,(Er (q::r) y (Em p.1 p.2 x s0).2).2):=rfl
theorem pk0{p:ET×Option TypeId}:Amf s [p] []=none:=rfl
theorem pk2{p:ET×Option TypeId}{q r:PV}{qs:List PV}:Amf s [p] (q::r::qs)=none:=rfl
theorem pk3{q:PV}{qs:List PV}:Amf s [] (q::qs)=none:=rfl
theorem pk4{p q:ET×Option TypeId}{r:List (ET×Option TypeId)}:Amf s (p::q::r) []=none:=rfl
theorem pk5{p q:ET×Option TypeId}{r:List (ET×Option TypeId)}{v:PV}{vs:List PV}:Amf s (p::q::r) (v::vs)=(match Av7 s p.1 v,Amf s (q::r) vs with|some x,some y=>some ((x,y):p.1.T×LTy (q::r))|_,_=>none):=rfl
theorem Brq{qs:List PV}{x:LTy []}(h:Amf s [] qs=some x):qs=[]:=by
 match qs,h with
 |[],_=>rfl
 |_::_,h=>rw[pk3]at h;cases h
theorem Bs5{p:ET×Option TypeId}{qs:List PV}{x:LTy [p]}(h:Amf s [p] qs=some x):∃q,qs=[q]∧Av7 s p.1 q=some x:=by
 match qs,h with
 |[],h=>rw[pk0]at h;cases h
 |[q],h=>exact⟨q,rfl,h⟩
 |q::r::qs,h=>rw[pk2]at h;cases h
theorem Bmr{p q:ET×Option TypeId}{r:List (ET×Option TypeId)}{qs:List PV}{z:LTy (p::q::r)}(h:Amf s (p::q::r) qs=some z):
  ∃v vs,∃(x:p.1.T) (y:LTy (q::r)),qs=v::vs∧z=(x,y)∧Av7 s p.1 v=some x∧Amf s (q::r) vs=some y:=by
 match qs,h with
 |[],h=>rw[pk4]at h;cases h
 |v::vs,h=>
  rw[pk5]at h
  split at h
  ·rename_i x y hx hy
   cases h
   exact⟨v,vs,x,y,rfl,rfl,hx,hy⟩
  ·cases h
def Mm(L:List MD):List (ET×Option TypeId)→List PV→List MD
 |p::r,v::vs=>match p.2 with
  |none=>Mm L r vs
  |some E=>(match p.1,v with
   | .list _, .own i=>L.getD i .dead
   | .list a,_=> .own a.size E (.slice none 0 0) []
   |_,_=> .dead)::Mm L r vs
 |_,_=>[]
theorem Bbl:∀{ls:List (ET×Option TypeId)} {vs:List PV} {is:List Nat},Bml ls=true→consume s ls vs=some is→is=[]
 |[],[],is,_,h=>by simp[consume]at h;exact h
 |[],_::_,_,_,h=>by simp[consume]at h
 |_::_,[],_,_,h=>by simp[consume]at h
 |(e,none)::r,v::vs,is,hn,h=>Bbl (ls:=r) (vs:=vs) (by simpa [Bml]using hn) (by simpa [consume]using h)
 |(e,some _)::r,v::vs,is,hn,h=>by simp[Bml]at hn
theorem Bcc{N:Reg}:∀{ls:List (ET×Option TypeId)} {vs:List PV} {is:List Nat} {A:Reg},consume s ls vs=some is→Mobs w A (is.map fun i=>(L.getD i .dead).Hs)→Mobs w A ((Mm L ls vs).map MD.Hs)
 |[],[],_,_,_,_=>trivial
 |[],_::_,_,_,h,_=>by simp[consume]at h
 |_::_,[],_,_,h,_=>by simp[consume]at h
 |(e,none)::r,v::vs,is,A,h,hm=>Bcc (N:=N) (ls:=r) (vs:=vs) (by simpa [consume]using h) hm
 |(e,some E)::r,v::vs,is,A,h,hm=>by
  simp only[consume]at h
  split at h
  ·rename_i a
   exact⟨none,⟨none,0,0,rfl,by simp,Nat.le_refl _,fun _=>rfl,fun _=>rfl,fun b h=>by cases h⟩,fun b hb=>(by cases hb),(Bcc (N:=N) h hm).Yb fun b hb=>hb.elim id (fun h=>by cases h)⟩
  ·rename_i a i
   split at h
   ·rename_i E' a' l hi
    obtain⟨_,h⟩:=Ar h
    simp only[Option.map_eq_some_iff]at h
    obtain⟨is',h1,rfl⟩:=h
    obtain⟨o,g1,g2,g3⟩:=hm
    exact⟨o,g1,g2,Bcc (N:=N) h1 g3⟩
   ·cases h
  ·cases h
theorem Bm1{B1:Reg}(hr:Rel Z s σs A L σ w)(hb:∀b,A b∧Z.R b→B1 b):∀(ls:List (ET×Option TypeId)) (vs:List PV) (x:LTy ls) (is:List Nat) (s0:S) (Lx LF:List MD),
  Amf s ls vs=some x→consume s ls vs=some is→(∀i∈Tm ls vs,∀z E v c,L[i]? =some (.own z E v c)→Rd B1 w z v c)→Lx.length=s0.it.length→LF=Lx++Mm L ls vs→
  ∃its,(Er ls x s0).2=⟨s0.sl,s0.it++its,s0.st⟩∧its.length=(Mm L ls vs).length∧All2 (Aud (fun b=>A b∧Z.R b) w L B1 w LF) vs (Er ls x s0).1∧
   ∀(i:Nat) (a:Item) (m:MD),its[i]? =some a→(Mm L ls vs)[i]? =some m→ItemR B1 w LF a m
 |[],vs,x,is,s0,Lx,LF,hp,hc,_,_,_=>by
  rw[Brq hp]
  refine⟨[],?_,rfl,All2.nil,fun i a m h=>by simp at h⟩
  rw[Bj4];simp
 |p::ls,vs,x,is,s0,Lx,LF,hp,hc,ho,hlen,hLF=>by
  have main:∀(v:PV) (vs':List PV) (x1:p.1.T) (rest:S→List PV×S),vs=v::vs'→Av7 s p.1 v=some x1→
    (Er (p::ls) x s0=((Em p.1 p.2 x1 s0).1::(rest (Em p.1 p.2 x1 s0).2).1,(rest (Em p.1 p.2 x1 s0).2).2))→
    (∀(is:List Nat) (s1:S) (Lx:List MD),consume s ls vs'=some is→(∀i∈Tm ls vs',∀z E v c,L[i]? =some (.own z E v c)→Rd B1 w z v c)→Lx.length=s1.it.length→LF=Lx++Mm L ls vs'→
     ∃its,(rest s1).2=⟨s1.sl,s1.it++its,s1.st⟩∧its.length=(Mm L ls vs').length∧All2 (Aud (fun b=>A b∧Z.R b) w L B1 w LF) vs' (rest s1).1∧
      ∀(i:Nat) (a:Item) (m:MD),its[i]? =some a→(Mm L ls vs')[i]? =some m→ItemR B1 w LF a m)→
    ∃its,(Er (p::ls) x s0).2=⟨s0.sl,s0.it++its,s0.st⟩∧its.length=(Mm L (p::ls) vs).length∧All2 (Aud (fun b=>A b∧Z.R b) w L B1 w LF) vs (Er (p::ls) x s0).1∧
     ∀(i:Nat) (a:Item) (m:MD),its[i]? =some a→(Mm L (p::ls) vs)[i]? =some m→ItemR B1 w LF a m:=by
   intro v vs' x1 rest hvs hx hu hrest
   subst hvs
   rw[hu]
   obtain⟨e,o⟩:=p
   cases o with
   |none=>
    have hc':consume s ls vs'=some is:=by simpa [consume]using hc
    have e1:Em e none x1 s0=(.val e x1,s0):=Bxo
    simp only[e1]
    obtain⟨its,h1,h2,h3,h4⟩:=hrest is s0 Lx hc' (fun i hi=>ho i (by simp[Tm,hi])) hlen hLF
    refine⟨its,h1,h2, .cons (Brc hr hx hb (fun i hi z E v c hL=>ho i (by simp[Tm,hi]) z E v c hL)) h3,h4⟩
   |some E=>
    simp only[consume]at hc
    split at hc
    ·rename_i a
     have hx':x1=[]:=by
      have:elems s a .nils=some x1:=hx
      simpa [elems]using this.symm
     subst hx'
     have e1:Em (.list a) (some E) [] s0=(.own s0.new,s0.add (.arr E a [])):=rfl
     simp only[e1]
     obtain⟨its,h1,h2,h3,h4⟩:=hrest is (s0.add (.arr E a [])) (Lx++[.own a.size E (.slice none 0 0) []]) hc (fun i hi=>ho i (by simpa [Tm]using hi)) (by simp[S.add,hlen]) (by rw[hLF];simp[Mm])
     refine⟨.arr E a []::its,by rw[h1];simp[S.add],by simp[Mm,h2], .cons ⟨rfl,fun cs hcs=>?_⟩ h3,fun i b m hi hm=>?_⟩
     ·refine⟨a.size,E, .slice none 0 0,[],?_,hcs⟩
      rw[hLF,S.new,←hlen]
      simp[Mm]
     ·cases i with
      |zero=>
       simp[Mm]at hi hm
       subst hi hm
       exact⟨rfl,rfl,rfl⟩
      |succ i=>exact h4 i b m (by simpa using hi) (by simpa [Mm]using hm)
    ·rename_i a i
     split at hc
     ·rename_i E' a' l hi
      obtain⟨hb1,hc1⟩:=Ar hc
      clear hc
      simp only[Bool.and_eq_true,decide_eq_true_eq]at hb1
      obtain⟨hE,rfl⟩:=hb1
      have:=By hE
      subst this
      simp only[Option.map_eq_some_iff]at hc1
      obtain⟨is',hc',rfl⟩:=hc1
      obtain⟨u,cs0,g1,g2⟩:=hr.mem.arr hi
      have hx':x1=l:=by
       have:elems s a' (.own i)=some x1:=hx
       simp[elems,hi]at this
       exact this.symm
      subst hx'
      have hg:L.getD i .dead= .own a'.size E' u cs0:=by simp[List.getD_eq_getElem?_getD,g1]
      have e1:Em (.list a') (some E') x1 s0=(.own s0.new,s0.add (.arr E' a' x1)):=rfl
      simp only[e1]
      obtain⟨its,h1,h2,h3,h4⟩:=hrest is' (s0.add (.arr E' a' x1)) (Lx++[.own a'.size E' u cs0]) hc' (fun i hi=>ho i (by simpa [Tm]using hi)) (by simp[S.add,hlen]) (by rw[hLF];simp only[Mm,hg];simp)
      refine⟨.arr E' a' x1::its,by rw[h1];simp[S.add],by simp[Mm,h2], .cons ⟨rfl,fun cs hcs=>?_⟩ h3,fun q b m hq hm=>?_⟩
      ·obtain⟨z,E2,v2,c2,k1,k2⟩:=hcs
       rw[g1]at k1;cases k1
       refine⟨a'.size,E',u,cs0,?_,k2⟩
       rw[hLF,S.new,←hlen]
       simp only[Mm,hg];simp
      ·cases q with
       |zero=>
        simp only[Mm,hg]at hq hm
        simp at hq hm
        subst hq hm
        exact⟨rfl,rfl,g2.mono fun x c h=>Ap.step hb (fun _ _=>rfl) h⟩
       |succ q=>exact h4 q b m (by simpa using hq) (by simpa [Mm]using hm)
     ·cases hc
    ·cases hc
  cases ls with
  |nil=>
   obtain⟨v,rfl,hx⟩:=Bs5 hp
   exact main v [] x (fun s1=>([],s1)) rfl hx (Asc p x s0) (fun is s1 Lx _ _ hlen hLF=>⟨[],by simp,rfl,All2.nil,fun i a m h=>by simp at h⟩)
  |cons q r=>
   obtain⟨v,vs',x1,y',rfl,rfl,hx,hy⟩:=Bmr hp
   exact main v vs' x1 (fun s1=>Er (q::r) y' s1) rfl hx (Ao4 p q r x1 y' s0)
    (fun is s1 Lx hc ho hlen hLF=>Bm1 hr hb (q::r) vs' y' is s1 Lx LF hy hc ho hlen hLF)
theorem Bsh:∀(a b:List PV),owns.go (a++b)=owns.go a++owns.go b
 |[],b=>rfl
 |x::a,b=>by simp[owns.go,Bsh a b]
mutual
theorem Bvq:∀{sh:Sh} {p:PV} {ls:List PV},Uu sh p=some ls→owns.go ls=owns p
 | .lf e o,p,ls,h=>by simp only[Uu,Option.some.injEq]at h;subst h;simp[owns.go]
 | .agg l,p,ls,h=>by cases p<;>simp only[Uu,reduceCtorEq]at h;exact Baq h
theorem Baq:∀{l:List Sh} {ps ls:List PV},Uu.go l ps=some ls→owns.go ls=owns.go ps
 |[],[],ls,h=>by simp only[Uu.go,Option.some.injEq]at h;subst h;rfl
 |a::l,p::ps,ls,h=>by
  simp only[Uu.go]at h
  split at h
  ·rename_i x y hx hy;cases h;rw[Bsh,Bvq hx,Baq hy];rfl
  ·cases h
 |[],_::_,_,h=>by simp[Uu.go]at h
 |_::_,[],_,h=>by simp[Uu.go]at h
end
structure KeepN (N:Reg) (w w':World):Prop where
 same:∀b,b<w.heap.size→N b→w'.heap[b]? =w.heap[b]?
 gr:Gr w w'
def GlOk(gl:List (Nat×List Value))(N:Reg)(w:World):Prop:=∀p∈gl,p.1<w.heap.size∧N p.1∧∃T fr,w.heap[p.1]? =some (.cells p.2.toArray T fr)
def ResOk(gl:List (Nat×List Value))(R N:Reg)(w w':World)(rs:List Sh)(y:LTy (shL rs))(us:List Value):Prop:=
 KeepN N w w'∧∃(A1:Reg) (L1:List MD),(∀b,A1 b→(¬N b∨w.heap.size≤b)∧b<w'.heap.size)∧Mobs w' (fun b=>A1 b∨(b<w.heap.size∧N b)) (L1.map MD.Hs)∧
  ∀(s:S) (L:List MD) (B':Reg),L.length=s.it.length→(∀b,A1 b→B' b)→(Cg4 rs=true→∀b,(R b∧N b)∨(∃p∈gl,p.1=b)→B' b)→
   ∃ps its,(Er (shL rs) y s).2=⟨s.sl,s.it++its,s.st⟩∧Axv rs (Er (shL rs) y s).1=some ps∧EncVs B' w' (L++L1) ps us∧its.length=L1.length∧
   ∀(i:Nat) (a:Item) (m:MD),its[i]? =some a→L1[i]? =some m→ItemR B' w' (L++L1) a m
structure ConOk (P:Program) (gl:List (Nat×List Value)) (f:Nat) (c:Con):Prop where
 ent:Ent P f
 ok:∀(R N:Reg) (w:World) (L0:List MD) (vs:List Value) (ps:List PV) (x:LTy (shL c.ps)) (y:LTy (shL c.rs)),args c.ps x=some ps→(argI c.ps x).length=L0.length→
  (∀(i:Nat) (a:Item) (m:MD),(argI c.ps x)[i]? =some a→L0[i]? =some m→ItemR (fun b=>R b∧N b) w L0 a m)→Mobs w N (L0.map MD.Hs)→EncVs (fun b=>R b∧N b) w L0 ps vs→GlOk gl N w→c.fn x=some y→
  Calls P f vs.toArray w fun e w'=>∃us,e= .returned (packRes us)∧ResOk gl R N w w' c.rs y us
end Go.Rx
set_option linter.unusedVariables false
set_option linter.unusedSimpArgs false
namespace Go.Rx
open Go Go.Lv
variable {P:Program} {B B':Reg} {w w':World} {L L':List MD} {s:S} {σs:List Env} {σ:Env} {Z:Fix} {A A':Reg} {n:Nat} {ops:Array Oper}
variable {R:Type} {k:S→Option R} {r:R} {d:Option Nat} {ty:TypeId} {pos:String} {after:Array Edge} {T:Tab} {inl:Inl R}
def Aef(P:Program)(gl:List (Nat×List Value))(inl:Inl R):Prop:=∀(Z:Fix),Z.gl=gl→∀(f:Nat) (as:List PV) (s:S) (k:S→PV→Option R) (r:R) (σs:List Env) (A:Reg) (L:List MD) (σ:Env) (w:World) (vs:List Value),
 inl f as s k=some r→Rel Z s σs A L σ w→EncVs (fun b=>A b∧Z.R b) w L as vs→Ent P f∧Calls P f vs.toArray w fun e w'=>∃v p s' A' L',e= .returned v∧k s' p=some r∧Rel Z s' σs A' L' σ w'∧p.isV=true∧Dy (fun b=>A' b∧Z.R b) w' L' p v
def Aeg(P:Program)(T:Tab):Prop:=∀f c,T.get f=some c→ConOk P T.gl f c
def Ayx(P:Program)(T:Tab)(Z:Fix):Prop:=Aeg P T∧Z.gl=T.gl
theorem EncVs.step{q:List PV}{vs:List Value}(hb:∀b,B b→B' b)(hs:Same B w w')(hl:LeL L L')(h:EncVs B w L q vs):EncVs B' w' L' q vs:=EncC.Bwi hb hs hl h
theorem EncVs.append:∀{p q:List PV} {us vs:List Value},EncVs B w L p us→EncVs B w L q vs→EncVs B w L (p++q) (us++vs)
 |[],q,us,vs,h,h'=>by rw[show us=[]from h];exact h'
 |a::p,q,us,vs,⟨v,us',e,h1,h2⟩,h'=>⟨v,us'++vs,by rw[e];rfl,h1,EncVs.append h2 h'⟩
theorem Bql{ps:List PV}{us:List Value}(h:EncVs B w L ps us):(Bru ps).isV=true∧Dy B w L (Bru ps) (packRes us):=by
 match ps,us,h with
 |[],us,h=>rw[show us=[]from h];exact⟨rfl,[],rfl,rfl⟩
 |[p],us,⟨v,us',e,h1,h2⟩=>
  rw[show us'=[]from h2]at e;subst e
  exact Jb h1
 |p::q::r,us,h=>
  obtain⟨v,us',e,h1,v2,us2,e2,h2,h3⟩:=h
  subst e2 e
  exact⟨rfl,v::v2::us2,rfl,v,_,rfl,h1,v2,us2,rfl,h2,h3⟩
theorem Rel.Ca6{w':World}{A1 BX:Reg}{L1:List MD}{its:List Item}(hr:Rel Z s σs A L σ w)(hBX:∀b,BX b→¬A b∧b<w.heap.size)(hY:Mobs w (fun b=>A b∨BX b) (L.map MD.Hs))
  (hk:KeepN (fun b=>¬BX b) w w') (hA1:∀b,A1 b→(¬ ¬BX b∨w.heap.size≤b)∧b<w'.heap.size)
  (hm:Mobs w' (fun b=>A1 b∨(b<w.heap.size∧¬BX b)) (L1.map MD.Hs)) (hlen:its.length=L1.length)
  (hit:∀(i:Nat) (a:Item) (m:MD),its[i]? =some a→L1[i]? =some m→ItemR (fun b=>(A b∨A1 b)∧Z.R b) w' (L++L1) a m):
  Rel Z ⟨s.sl,s.it++its,s.st⟩ σs (fun b=>A b∨A1 b) (L++L1) σ w':=by
 have hlt:=St.lt hr
 have hsame:Same A w w':=fun b hb=>hk.same b (hlt b hb) fun h=>(hBX b h).1 hb
 have hmem:MemR (fun b=>A b∧Z.R b) w' L s σs σ:=Fact.step _ (hr.fact 0 (f:=Nl Z.R L s σs σ) rfl) (fun _ h=>h) hsame hk.gr
 have hold:(Fact.old Z.M Z.w0).holds A w':=Fact.step _ (hr.fact 1 (f:= .old Z.M Z.w0) rfl) (fun _ h=>h) hsame hk.gr
 have hl:=LeL.append L L1
 have hst:St (fun b=>A b∨A1 b) w' [.old Z.M Z.w0] (L1.map MD.Hs++L.map MD.Hs):=by
  refine⟨fun b hb=>hb.elim (fun h=>Nat.lt_of_lt_of_le (hlt b h) hk.gr.le) (fun h=>(hA1 b h).2),fun f hf=>?_,?_⟩
  ·cases hf with
   |head=>exact Fact.step _ hold (fun _ h=> .inl h) (fun _ _=>rfl) (.refl _)
   |tail _ h=>cases h
  ·refine Mobs.append (fun b=>b<w.heap.size∧¬BX b) (fun b hb=>Nat.lt_of_lt_of_le hb.1 hk.gr.le) (hm.Yb ?_) ?_
   ·rintro b ((h|h)|h)
    ·exact .inr ⟨hlt b h,fun hx=>(hBX b hx).1 h⟩
    ·exact .inl h
    ·exact .inr h
   ·refine(hY.lt.step hk.gr.le fun b hb hn=>hk.same b hb fun h=>hn (.inl (.inr h))).Yb ?_
    rintro b ((h|h)|h)
    ·exact .inl (.inl h)
    ·rcases(hA1 b h).1 with h|h
     ·exact .inl (.inr (Classical.not_not.1 h))
     ·exact .inr h
    ·by_cases hx:BX b
     ·exact .inl (.inr hx)
     ·exact .inr (Nat.le_of_not_lt fun hl=>h ⟨hl,hx⟩)
 have hb:∀b,A b∧Z.R b→(A b∨A1 b)∧Z.R b:=fun b h=>⟨.inl h.1,h.2⟩
 refine Rel.as (Mobs.Atb hst List.perm_append_comm) (i:=0) rfl ⟨⟨?_,?_⟩,hmem.sl.step hb (fun _ _=>rfl) hl,hmem.stk.step hb (fun _ _=>rfl) hl⟩ (by rw[List.map_append])
 ·simp[hmem.it.1,hlen]
 ·intro i a m g1 g2
  simp only at g1
  rcases Nat.lt_or_ge i s.it.length with hi|hi
  ·rw[List.getElem?_append_left hi]at g1
   rw[List.getElem?_append_left (by rw[←hmem.it.1];exact hi)]at g2
   exact(hmem.it.2 i a m g1 g2).step hb (fun _ _=>rfl) hl
  ·rw[List.getElem?_append_right hi]at g1
   rw[List.getElem?_append_right (by rw[←hmem.it.1];exact hi)]at g2
   rw[hmem.it.1]at g1
   exact hit _ a m g1 g2
theorem Mobs.split:∀{X Y:List Mob} {A:Reg},Mobs w A (X++Y)→∃BX:Reg,(∀b,BX b→¬A b∧b<w.heap.size)∧Mobs w (fun b=>¬BX b) X∧Mobs w (fun b=>A b∨BX b) Y
 |[],Y,A,h=>⟨fun _=>False,fun b hb=>hb.elim,trivial,h.Yb fun b hb=>hb.elim id fun h=>h.elim⟩
 |m::X,Y,A,⟨o,h1,h2,h3⟩=>by
  obtain⟨BX,g1,g2,g3⟩:=Mobs.split h3
  refine⟨fun b=>BX b∨o=some b,fun b hb=>?_,⟨o,h1,fun b hb=>⟨fun h=>h (.inr hb),(h2 b hb).2⟩,g2.Yb ?_⟩,g3.Yb ?_⟩
  ·rcases hb with hb|hb
   ·exact⟨fun h=>(g1 b hb).1 (.inl h),(g1 b hb).2⟩
   ·exact h2 b hb
  ·rintro b (hb|hb)
   ·exact fun h=>hb (.inl h)
   ·exact fun h=>(g1 b h).1 (.inr hb)
  ·rintro b (hb|hb|hb)
   ·exact .inl (.inl hb)
   ·exact .inr hb
   ·exact .inl (.inr hb)
theorem Mobs.Cls:∀{Y:List Mob} {A:Reg} {i:Nat} {m:Mob},Mobs w A Y→Y[i]? =some m→∃o,m.holds o w∧∀b,o=some b→¬A b
 |_::_,A,0,m,⟨o,h1,h2,_⟩,h=>⟨o,by simp at h;exact h▸h1,fun b hb=>(h2 b hb).1⟩
 |_::Y,A,i+1,m,⟨o,_,_,h3⟩,h=>by
  obtain⟨q,g1,g2⟩:=Mobs.Cls h3 (i:=i) (by simpa using h)
  exact⟨q,g1,fun b hb hA=>g2 b hb (.inl hA)⟩
theorem Btt{w:World}:MD.dead.Hs.holds none w:=⟨none,0,0,rfl,by simp,Nat.le_refl _,fun _=>rfl,fun _=>rfl,fun b h=>by cases h⟩
theorem Aad{i:Nat}:∀{l:List Nat},Yd i l=true↔i∈l
 |[]=>by simp[Yd]
 |j::l=>by
  simp only[Yd,Bool.or_eq_true,List.mem_cons,Aad (l:=l)]
  exact or_congr ⟨By,fun h=>by subst h;simp⟩ Iff.rfl
theorem Bem{f:Item→Item}(hf:f .dead= .dead):∀{l:List Item} {i:Nat},Bw (l.map f) i=f (Bw l i)
 |[],_=>by simp[Bw,hf]
 |_::_,0=>rfl
 |_::r,i+1=>by simpa [Bw]using Bem hf (l:=r) (i:=i)
theorem Awk:∀{l:List Item} {i j:Nat},Bw l i= .dead→Bw (Adt l j .dead) i= .dead
 |[],_,_,h=>by simpa [Adt]using h
 |_::_,0,0,_=>rfl
 |_::_,0,j+1,h=>by simpa [Adt,Bw]using h
 |_::_,i+1,0,h=>by simpa [Adt,Bw]using h
 |_::r,i+1,j+1,h=>by simpa [Adt,Bw]using Awk (l:=r) (i:=i) (j:=j) (by simpa [Bw]using h)
theorem Avk:∀{l:List Item} {i:Nat},Bw (Adt l i .dead) i= .dead
 |[],_=>rfl
 |_::_,0=>rfl
 |_::r,i+1=>by simpa [Adt,Bw]using Avk (l:=r) (i:=i)
theorem Bk7{i:Nat}:∀{is:List Nat} {s s':S},Bw s.it i= .dead→s.Bft is=some s'→Yd i is=false
 |[],_,_,_,_=>rfl
 |j::is,s,s',hd,h=>by
  simp only[S.Bft]at h
  split at h
  ·rename_i s1 h1
   unfold S.kill at h1
   split at h1
   ·rename_i E e l hj
    cases h1
    have hij:Nat.beq i j=false:=by
     cases hb:Nat.beq i j with
     |false=>rfl
     |true=>rw[By hb]at hd;rw[hd]at hj;cases hj
    have:Bw ((s.Uq j .dead).sub j .any).it i= .dead:=by
     show Bw ((Adt s.it j .dead).map _) i=_
     rw[Bem rfl,Awk hd];rfl
    simp[Yd,hij,Bk7 this h]
   ·cases h1
  ·cases h
theorem Bsz:∀{is:List Nat} {s s':S} {L:List MD},MemR B w L s σs σ→(∀(i z:Nat) (E:TypeId) (v:Value) (c:List Value),L[i]? =some (.own z E v c)→v.oneCell'=true)→s.Bft is=some s'→
  ∃L',MemR B w L' s' σs σ∧(is=[]→L'=L)∧(∀j,Yd j is=false→L'[j]? =L[j]?)∧∀(A:Reg) (X:List Mob),Mobs w A (X++L.map MD.Hs)→Mobs w A (X++(is.map fun i=>(L.getD i .dead).Hs)++L'.map MD.Hs)
 |[],s,s',L,hm,_,h=>by
  simp only[S.Bft,Option.some.injEq]at h;subst h
  exact⟨L,hm,fun _=>rfl,fun _ _=>rfl,fun A X hX=>by simpa using hX⟩
 |i::is,s,s',L,hm,hone,h=>by
  simp only[S.Bft]at h
  split at h
  ·rename_i s1 h1
   unfold S.kill at h1
   split at h1
   ·rename_i E e l hi
    cases h1
    obtain⟨v,cs,hL,_⟩:=hm.arr hi
    have hf:Frz B w L i .any:=⟨fun z E' u c h=>⟨u,rfl,by rw[hL]at h;cases h;exact hone _ _ _ _ _ hL⟩,rfl,rfl⟩
    have hm2:=hm.subst hf
    have hlt:=(List.getElem?_eq_some_iff.1 hL).1
    obtain⟨L',g1,g2,g3,g4⟩:=Bsz hm2 (fun j z E v c hj=>by
     by_cases hji:j=i
     ·subst hji;rw[List.getElem?_set_self hlt]at hj;cases hj
     ·rw[List.getElem?_set_ne (Ne.symm hji)]at hj;exact hone _ _ _ _ _ hj) h
    refine⟨L',g1,(fun e=>by cases e),fun j hj=>?_,fun A X hX=>?_⟩
    ·simp only[Yd,Bool.or_eq_false_iff]at hj
     rw[g3 j hj.2,List.getElem?_set_ne (fun e=>by subst e;simp at hj)]
    ·have hmob:(L.map MD.Hs)[i]? =some (L.getD i .dead).Hs:=by simp[hL,List.getD_eq_getElem?_getD]
     have hX1:Mobs w A (MD.dead.Hs::(L.map MD.Hs).eraseIdx i++(X++[(L.getD i .dead).Hs])):=by
      have h1:Mobs w A (MD.dead.Hs::(X++L.map MD.Hs)):=⟨none,Btt,fun b hb=>(by cases hb),hX.Yb fun b hb=>hb.elim id fun h=>by cases h⟩
      refine h1.perm (.cons _ ?_)
      have hp:=(Azz hmob).symm
      refine(List.Perm.append_left X hp).trans ?_
      rw[show X++(L.getD i .dead).Hs::(L.map MD.Hs).eraseIdx i=(X++[(L.getD i .dead).Hs])++(L.map MD.Hs).eraseIdx i by simp]
      exact List.perm_append_comm
     have hX2:Mobs w A ((X++[(L.getD i .dead).Hs])++(L.set i .dead).map MD.Hs):=by
      refine hX1.perm (List.perm_append_comm.trans (List.Perm.append_left _ ?_))
      rw[List.map_set];exact Am1 hmob
     have:=g4 A _ hX2
     have hni:Yd i is=false:=Bk7 (s:=(s.Uq i .dead).sub i .any) (by
      show Bw ((Adt s.it i .dead).map _) i=_
      rw[Bem rfl,Avk];rfl) h
     have he:(is.map fun j=>((L.set i .dead).getD j .dead).Hs)=is.map fun j=>(L.getD j .dead).Hs:=by
      refine List.map_congr_left fun j hj=>?_
      have:j≠i:=fun e=>by
       subst e
       rw[Aad.2 hj]at hni;cases hni
      simp only[List.getD_eq_getElem?_getD,List.getElem?_set_ne (Ne.symm this)]
     rw[he]at this
     simpa using this
   ·cases h1
  ·cases h
theorem Ap.noL:∀{e:ET} {x:e.T} {cs:List Value},e.Bj6=false→Ap B w e x cs→Ap B' w' e x cs
 | .int k,x,cs,_,h=>h
 | .bool,x,cs,_,h=>h
 | .str,x,cs,_,h=>h
 | .list e,l,cs,hL,h=>by cases hL
 | .vec m e,l,cs,hL,⟨h1,h2⟩=>⟨h1,h2.mono fun x c h=>Ap.noL (e:=e) hL h⟩
 | .cons a q,x,cs,hL,⟨c1,c2,e,h1,h2⟩=>by
  simp only[ET.Bj6,Bool.or_eq_false_iff]at hL
  exact⟨c1,c2,e,Ap.noL hL.1 h1,Ap.noL hL.2 h2⟩
 | .nil,_,cs,_,h=>h
theorem Bkn:∀{ls:List (ET×Option TypeId)} {vs:List PV},owns.go vs=[]→Tm ls vs=[]
 |[],_,_=>by unfold Tm;rfl
 |_::_,[],_=>by unfold Tm;rfl
 |(e,o)::ls,v::vs,h=>by
  simp only[owns.go,List.append_eq_nil_iff]at h
  cases o<;>simp[Tm,h.1,Bkn h.2]
theorem Rel.out(hr:Rel Z s σs A L σ w){b:Nat}(hb:¬A b):Z.R b:=by
 rcases Nat.lt_or_ge b Z.w0.heap.size with hlt|hge
 ·have hold:=(hr.fact 1 (f:= .old Z.M Z.w0) rfl).2 b hlt
  exact Z.mod b (Classical.byContradiction fun hM=>hb (hold hM).1)
 ·exact Z.new b hge
theorem Chz{f:Nat}{caps:List PV}{as:Array Operand}{g:Operand}{ts:Array TypeId}{dn:Nat}{G:Prop}(hT:Ayx P T Z)(hI:Aef P T.gl inl)(hr0:Rel Z s σs A L σ w)(hg:Du s.sl g= .fn f caps)
  (hd:Jv n ⟨some dn, .call ⟨.value g,as,ts⟩,ty,pos,after,none⟩=true) (h:Buy P T inl s (some dn) f caps as.toList k=some r)
  (hG:G→∃c,T.get f=some c∧Bml (shL c.ps)=true∧(Bkx c=false∨owns.go (as.toList.map (Du s.sl))=[])):
  Ach P n ops ⟨some dn, .call ⟨.value g,as,ts⟩,ty,pos,after,none⟩ Z s σs k r G A L σ w:=by
 obtain⟨cvs,hgv,hcaps⟩:=Bxe (Cr hr0.mem.sl hg rfl)
 have has:as=as.toList.toArray:=by simp
 have hxe:Ent P f→XE P σ w (.call ⟨.value g,as,ts⟩) f (as.toList.map (ev σ)++cvs).toArray:=fun he=>by
  have:=X.Cl9 (P:=P) (σ:=σ) (w:=w) (args:=as.toList) (ts:=ts) he hgv rfl
  rw[←has]at this;exact this
 unfold Buy at h
 split at h
 ·rename_i c hc
  have hcon:=hT.1 f c hc
  split at h
  ·have hc0:cvs=[]:=hcaps
   subst hc0
   split at h
   ·cases h
   ·rename_i ls0 hls0
    split at h
    ·cases h
    ·rename_i s1 hs1
     obtain⟨A1,L1,hr,hsame⟩:∃A1 L1,Rel Z s1 σs A1 L1 σ w∧(G→s1=s∧A1=A∧L1=L):=by
      split at hs1
      ·rename_i hro
       obtain⟨A1,L1,h1,h2⟩:=Qu hr0 hs1
       refine⟨A1,L1,h1,fun g=>h2 ?_⟩
       obtain⟨c',hc',_,h3⟩:=hG g
       rw[hc]at hc';cases hc'
       rcases h3 with h3|h3
       ·rw[hro]at h3;cases h3
       ·exact Bkn (by rw[Baq hls0];exact h3)
      ·cases hs1;exact⟨A,L,hr0,fun _=>⟨rfl,rfl,rfl⟩⟩
     cases hP:Brm (as.toList.map (Du s1.sl))with
     |false=>rw[hP]at h;cases h
     |true=>
     rw[hP]at h
     simp only[Bool.not_true,cond_false]at h;try dsimp only[Cg]at h
     split at h
     ·cases h
     ·rename_i ls hls
      cases hro2:(Bkx c&& !(Tm (shL c.ps) ls).isEmpty)with
      |true=>rw[hro2]at h;cases h
      |false=>
      rw[hro2]at h
      dsimp only[Cg,cond]at h
      split at h
      ·cases h
      ·rename_i x hx
       split at h
       ·cases h
       ·rename_i is his
        cases hdis:(!((Tm (shL c.ps) ls).all fun i=>!Yd i is))with
        |true=>rw[hdis]at h;cases h
        |false=>
        rw[hdis]at h
        dsimp only[Cg,cond]at h
        split at h
        ·cases h
        ·rename_i s2 hs2
         obtain⟨y,hy,h⟩:=bind_some h
         change (match Axv c.rs (Er (shL c.rs) y s2).1 with|some vs=>k ((Er (shL c.rs) y s2).2.Gb (some dn) (Bru vs))|none=>none)=some r at h
         have hpv:=Bg4 hr.mem.sl _ hP
         have hone:∀(i z:Nat) (E:TypeId) (v:Value) (c:List Value),L1[i]? =some (.own z E v c)→v.oneCell'=true:=fun i z E v c hi=>by
          obtain⟨p,len,cap,rfl,_⟩:=hr.Vf hi;rfl
         obtain⟨L2,hm2,hnil,hget,hmobs⟩:=Bsz hr.mem hone hs2
         obtain⟨BX,hBX,hX,hY⟩:=Mobs.split (hmobs A1 [] (by simpa using St.mobs hr))
         have hr2:Rel Z s2 σs A1 L2 σ w:=Rel.as (h:=(⟨St.lt hr,hr.facts,hY.Yb fun _ h=> .inl h⟩:St A1 w _ (L2.map MD.Hs))) (i:=1) rfl hm2 rfl
         have hL0:Mobs w (fun b=>¬BX b) ((Mm L1 (shL c.ps) ls).map MD.Hs):=Bcc (N:=fun _=>True) his (by simpa using hX)
         have key:∀R0:Reg,(∀b,A1 b∧Z.R b→R0 b)→(Tm (shL c.ps) ls=[]∨∀b,R0 b)→(Bkx c=true→∀b,R0 b→A1 b∧Z.R b)→
           Ach P n ops ⟨some dn, .call ⟨.value g,as,ts⟩,ty,pos,after,none⟩ Z s σs k r G A L σ w:=by
          intro R0 h1 h2 h3
          have hb1:∀b,A1 b∧Z.R b→R0 b∧¬BX b:=fun b hb=>⟨h1 b hb,fun hx=>(hBX b hx).1 hb.1⟩
          obtain⟨its0,e1,e2,e3,e4⟩:=Bm1 (B1:=fun b=>R0 b∧¬BX b) hr hb1 (shL c.ps) ls x is ⟨[],[],[]⟩ [] (Mm L1 (shL c.ps) ls) hx his (fun i hi z E v cc hLi=>by
           rcases h2 with h2|h2
           ·rw[h2]at hi;cases hi
           ·have hni:Yd i is=false:=by
             have:=hdis
             simp only[Bool.not_eq_false',List.all_eq_true,Bool.not_eq_true']at this
             exact this i hi
            have hLi2:=(hget i hni).trans hLi
            obtain⟨o,g1,g2⟩:=Mobs.Cls hY (hr2.Hs hLi2)
            exact(Go.Lv.Vf g1).step (fun b hb=>⟨h2 b,fun hx=>g2 b hb (.inr hx)⟩) (fun _ _=>rfl)) rfl rfl
          obtain⟨ps,h5,h6⟩:=Bcx hls hpv e3
          have hit0:argI c.ps x=its0:=by unfold argI;rw[e1];rfl
          have hcall:=hcon.ok R0 (fun b=>¬BX b) w _ _ ps x y h5 (by rw[hit0];exact e2) (by rw[hit0];exact e4) hL0 h6 (fun p hp=>by
           obtain⟨hA,T1,fr,hh⟩:=hr.Buk (hT.2▸hp)
           exact⟨Ch hh,fun hx=>(hBX _ hx).1 hA.1,T1,fr,hh⟩) hy
          have hxe':=hxe hcon.ent
          rw[List.append_nil]at hxe'
          refine WL.e (Asx hd) hxe' hcall ?_
          rintro e w' ⟨us,rfl,hk,A2,LL,hA2,hm3,hres⟩
          refine⟨_,rfl,WL.nil ?_⟩
          have hnew:∀b,A2 b→Z.R b:=fun b hb=>by
           rcases(hA2 b hb).1 with h7|h7
           ·exact hr.out (hBX b (Classical.not_not.1 h7)).1
           ·refine Z.new b ?_
            have h8:Z.w0.heap.size≤w.heap.size:=(hr.fact 1 (f:= .old Z.M Z.w0) rfl).1.le
            omega
          obtain⟨ps',its,g1,g2,g3,g4,g5⟩:=hres s2 L2 (fun b=>(A1 b∨A2 b)∧Z.R b) hr2.len.symm (fun b hb=>⟨.inr hb,hnew b hb⟩) (fun hro b hb=>by
           rcases hb with hb|⟨p,hp,rfl⟩
           ·exact⟨.inl (h3 hro b hb.1).1,(h3 hro b hb.1).2⟩
           ·exact⟨.inl (hr.Buk (hT.2▸hp)).1.1,(hr.Buk (hT.2▸hp)).1.2⟩)
          have hr':=Rel.Ca6 hr2 hBX hY hk hA2 hm3 g4 g5
          obtain⟨hv,hv'⟩:=Bql g3
          rw[g2]at h
          refine⟨_,fun b=>A1 b∨A2 b,L2++LL,h,?_,fun gg=>?_⟩
          ·rw[g1];exact hr'.Gb (d:=some dn) hv hv'
          ·obtain⟨e1',e2',e3'⟩:=hsame gg
           obtain⟨c',hc',hno,_⟩:=hG gg
           rw[hc]at hc';cases hc'
           have his0:=Bbl hno his
           subst his0
           have hs12:s1=s2:=by simpa [S.Bft]using hs2
           have hL12:=hnil rfl
           subst hs12 hL12 e1' e2' e3'
           rw[g1]
           exact⟨fun b hb=> .inl hb,fun b hb=>hk.same b (St.lt hr b hb) fun hx=>(hBX b hx).1 hb,⟨LL,rfl⟩,⟨its,rfl⟩⟩
         cases hro':Bkx c with
         |true=>
          refine key (fun b=>A1 b∧Z.R b) (fun _ h=>h) (.inl ?_) (fun _ _ h=>h)
          rw[hro']at hro2
          simp only[Bool.true_and,Bool.not_eq_false']at hro2
          exact isEmpty_nil hro2
         |false=>exact key (fun _=>True) (fun _ _=>trivial) (.inr fun _=>trivial) (fun h=>by rw[hro']at h;cases h)
  ·cases h
 ·rename_i hn
  obtain⟨hP,h⟩:=Ar h
  have hpv:=EncVs.append (Bg4 hr0.mem.sl _ hP) hcaps
  obtain⟨he,hcall⟩:=hI Z hT.2 f _ s _ r σs A L σ w _ h hr0 hpv
  refine WL.e (Asx hd) (hxe he) hcall ?_
  rintro e w' ⟨v,p,s',A',L',rfl,hk,hr',hv,hv'⟩
  refine⟨_,rfl,WL.nil ⟨_,A',L',hk,hr'.Gb (d:=some dn) hv hv',fun gg=>?_⟩⟩
  obtain⟨c,hc,_⟩:=hG gg
  rw[hn]at hc;cases hc
end Go.Rx
set_option linter.unusedVariables false
set_option linter.unusedSimpArgs false
namespace Go.Rx
open Go Go.Lv
variable {P:Program} {B B':Reg} {w w':World} {L L':List MD} {s:S} {σs:List Env} {σ:Env} {Z:Fix} {A A':Reg} {n:Nat} {ops:Array Oper}
variable {R:Type} {k:S→Option R} {r:R} {d:Option Nat} {ty:TypeId} {pos:String} {after:Array Edge} {T:Tab} {inl:Inl R}
theorem Akd{l:List Oper}{K K':Env→World→Prop}(h:WL P n ops l K σ w)(hk:∀σ w,K σ w→K' σ w):WL P n ops l K' σ w:=by
 have:=WL.cut (rest:=[]) K l h (fun σ w h=>WL.nil (hk σ w h))
 rwa [List.append_nil]at this
theorem Bls{cs:Array Value}{v:PV}(h:Az5 P ty (.agg cs)=some v)(hA:v.isA=true):v.isV=true∧Dy B w L v (.agg cs):=by
 have h1:=Az1 (B:=B) (w:=w) (L:=L) h
 have h2:EncV B w L v (.agg cs):=by
  unfold EncV;rw[hA]
  exact⟨cs.toList,by simp,h1⟩
 exact Jb h2
theorem Bnx{a:Option R}:∀{l:List (Option R)},both a l=some r→a=some r∧∀b∈l,b=some r
 |[],h=>⟨h,by simp⟩
 |b::l,h=>by
  unfold both at h
  split at h
  ·rename_i hab
   obtain⟨h1,h2⟩:=Bnx h
   exact⟨h1,fun c hc=>by
    rcases List.mem_cons.1 hc with rfl|hc
    ·exact hab▸h1
    ·exact h2 c hc⟩
  ·cases h
theorem Cin{α:Type}{l:List α}{a b:Option R}(h:Blm l a b=some r):b=some r∧(l=[]→a=some r):=by
 cases l with
 |nil=>
  obtain⟨h1,h2⟩:=Bnx h
  exact⟨h2 _ (.head _),fun _=>h1⟩
 |cons x l=>exact⟨h,fun e=>by cases e⟩
theorem Beq{o:BinOp}{t e t':TypeId}{x y:Operand}{q:Bool}{p:Option Addr}{l c:Nat}(h:Bju o=some q)(ht:P.underlying t=some (.slice e))(hx:ev σ x= .slice p l c)(hy:ev σ y= .slice none 0 0):
  XO P σ w (.binOp o t x y t') (.bool (p.isNone==q)):=by
 cases o<;>simp only[Bju,Option.some.injEq,reduceCtorEq]at h<;>subst h
 ·have:=X.bin (w:=w) (t':=t') hx hy (Bin.Cg0 ht p l c)
  simpa using this
 ·have:=X.bin (w:=w) (t':=t') hx hy (Bin.Chp ht p l c)
  cases p<;>simpa using this
theorem elem_nil{B:Reg}{e:ET}{l:List e.T}(hz:Nat.ble 1 e.size=true)(h:Bs (Ap B w e) l []):l=[]:=by
 have h1:=Bs.len (fun x c h=>Ap.len h) h
 have h2:1≤e.size:=by simpa using hz
 cases l with
 |nil=>rfl
 |cons a l=>
  simp only[List.length_cons,List.length_nil]at h1
  have:0<(l.length+1)*e.size:=Nat.mul_pos (by omega) (by omega)
  omega
theorem Cdt{o:BinOp}{t t':TypeId}{x y:Operand}{a:PV}{dn:Nat}{G:Prop}(hr:Rel Z s σs A L σ w)(hd:Jv n ⟨some dn, .binOp o t x y t',ty,pos,after,none⟩=true)(hx:Du s.sl x=a)(hy:Du s.sl y= .nils)
  (h:Cd0 P s dn o t a k=some r):Ach P n ops ⟨some dn, .binOp o t x y t',ty,pos,after,none⟩ Z s σs k r G A L σ w:=by
 have hm:=hr.mem
 have hy':=Af4 (Cr hm.sl hy rfl)
 unfold Cd0 at h
 split at h
 ·rename_i q e hq ht
  have main:∀{α:Type} {l:List α} {p:Option Addr} {len c:Nat},ev σ x= .slice p len c→(p=none→l=[])→Blm l (k (s.set dn (.b q))) (k (s.set dn (.b (!q))))=some r→Ach P n ops ⟨some dn, .binOp o t x y t',ty,pos,after,none⟩ Z s σs k r G A L σ w:=by
   intro α l p len c hv hp h
   obtain⟨h1,h2⟩:=Cin h
   cases hn:p.isNone with
   |true=>
    have hk:=h2 (hp (by simpa using hn))
    have hxo:=Beq (w:=w) (t':=t') hq ht hv hy'
    rw[hn]at hxo
    have hb:(true==q)=q:=by cases q<;>rfl
    rw[hb]at hxo
    exact Dl (p:= .b q) hr hd hxo rfl rfl hk
   |false=>
    have hxo:=Beq (w:=w) (t':=t') hq ht hv hy'
    rw[hn]at hxo
    have hb:(false==q)=!q:=by cases q<;>rfl
    rw[hb]at hxo
    exact Dl (p:= .b (!q)) hr hd hxo rfl rfl h1
  split at h
  ·have hv:=Af4 (Cr hm.sl hx rfl)
   have hxo:=Beq (w:=w) (t':=t') hq ht hv hy'
   have hb:((none:Option Addr).isNone==q)=q:=by cases q<;>rfl
   rw[hb]at hxo
   exact Dl (p:= .b q) hr hd hxo rfl rfl h
  ·split at h
   ·obtain⟨hz,h⟩:=Ar h
    obtain⟨c0,h1,h2⟩:=Aa1 (Cr hm.sl hx rfl)
    have h1':=h1
    obtain⟨p,len,cap,hv,h3,h4,h5,h6⟩:=h1
    refine main hv (fun hp=>?_) h
    subst hp
    have:c0=[]:=Go.Lv.Rd.Br4 (by rw[←hv];exact h1')
    subst this
    have:=h5 rfl
    exact elem_nil hz h2
   ·cases h
  ·rename_i i
   split at h
   ·rename_i E e' l hi
    obtain⟨hz,h⟩:=Ar h
    obtain⟨v,cs,h1,h2⟩:=hm.arr hi
    obtain⟨z,E',c0,h3⟩:=Ag6 (Cr hm.sl hx rfl)
    rw[h1]at h3
    cases h3
    have hrd:=hr.Vf h1
    have h1':=hrd
    obtain⟨p,len,cap,hv,h4,h5,h6,h7⟩:=hrd
    refine main hv (fun hp=>?_) h
    subst hp
    have:cs=[]:=Go.Lv.Rd.Br4 (by rw[←hv];exact h1')
    subst this
    exact elem_nil hz h2
   ·cases h
  ·cases h
 ·cases h
theorem Bvz{i b off:Nat}{md:MD}{ns:List Value}{F:List Fact}(hr:St A w F (L.map MD.Hs))(h:L[i]? =some md)(hb:md.base=some b)(h1:ns.all (·.oneCell')=true)(hle:off+ns.length≤md.cells.length)(hz:0<ns.length):
  ∃w' md',(storeCells ⟨b,off,none⟩ ns).run P w= .ok () w'∧St A w' F ((L.map MD.Hs).set i md'.Hs)∧Yi off ns md md':=by
 cases md with
 |dead=>cases hb
 |box b' cells T=>
  cases hb
  have hL:(L.map MD.Hs)[i]? =some (Mob.box b cells T):=Boa h
  have hr':=Gg (P:=P) b T (0,0) ns off 0 cells w (hr.box hL) (by simpa [MD.cells]using hle) (.inr (.inr (Nat.le_refl _))) (fun v hv=>by simpa using List.all_eq_true.1 h1 v hv)
  simp only[Nat.add_zero]at hr'
  exact⟨_, .box b (Ax cells off ns) T,hr',hr.Cbq hL,rfl⟩
 |own z' E u cs=>
  obtain⟨b',m,c,hu,hs'⟩:=St.Bpg hr (Boa h) (by simp[MD.cells]at hle;omega)
  subst hu
  cases hb
  have hlen:i<(L.map MD.Hs).length:=by simpa using(List.getElem?_eq_some_iff.1 h).1
  have hL:((L.map MD.Hs).set i (.at_ b z' E m c cs))[i]? =some (.at_ b z' E m c cs):=by rw[List.getElem?_set_self hlen]
  have hle':off+ns.length≤cs.length:=hle
  have hcore:∃w',(storeCells ⟨b,off,none⟩ ns).run P w= .ok () w'∧St A w' F (((L.map MD.Hs).set i (.at_ b z' E m c cs)).set i (.at_ b z' E m c (Ax cs off ns))):=by
   obtain⟨o,ho,_,_⟩:=(hs'.front hL).mobs
   obtain⟨rfl,ho⟩:=ho
   have ho':=ho
   obtain⟨_,len,cap,e,h3,h4,h5,h5',h6⟩:=ho
   cases e
   obtain⟨arr,fr,e,hbb,hsz',hfz,hcells⟩:=h6 b rfl
   have hcl:cs.length≤arr.size:=by rw[h3,hsz'];exact Nat.mul_le_mul_right _ h4
   have hr':=Gg (P:=P) b E fr ns off 0 arr.toList w (by simpa using hbb) (by simp;omega) (by simp;rcases hfz with h|h;exact .inr (.inr (Nat.le_of_eq h.symm));exact .inr (.inl h)) (fun v hv=>by simpa using List.all_eq_true.1 h1 v hv)
   simp only[Nat.add_zero]at hr'
   have hbl:=Ch hbb
   have hcs':(Ax cs off ns).length=cs.length:=Fe (by omega)
   have hget:∀i,i<m*z'→(Ax arr.toList off ns)[i]? =(Ax cs off ns)[i]? :=fun i hi=>by
    have hmin1:min off arr.toList.length=off:=by simp;omega
    have hmin2:min off cs.length=off:=by omega
    simp only[Ax,List.getElem?_append,List.length_take,hmin1,hmin2,List.getElem?_take,List.getElem?_drop]
    by_cases g1:i<off
    ·rw[if_pos g1,if_pos g1,if_pos g1,if_pos g1];simpa using hcells i hi
    ·rw[if_neg g1,if_neg g1]
     by_cases g2:i-off<ns.length
     ·rw[if_pos g2,if_pos g2]
     ·rw[if_neg g2,if_neg g2]
      have e1:off+ns.length+(i-off-ns.length)=i:=by omega
      rw[e1];simpa using hcells i hi
   refine⟨_,hr',hs'.Avz hL (b:=b) ⟨rfl,ho'⟩ ⟨rfl,_,m,c,rfl,by rw[hcs',h3],h4,h5,h5',fun b' hb'=>?_⟩ ?_⟩
   ·cases hb'
    refine⟨(Ax arr.toList off ns).toArray,fr,rfl,by simp[Fk,hbl],?_,?_,fun i hi=>?_⟩
    ·simp only[List.size_toArray];rw[Fe (by simp;omega)];simpa using hsz'
    ·simp only[List.size_toArray];rw[Fe (by simp;omega)];simpa using hfz
    ·simpa using hget i hi
   ·rintro⟨q,hq,q1,q2⟩
    exact⟨q,hq,q1,q2,hq.1⟩
  obtain⟨w',g1,g2⟩:=hcore
  have hs3:=g2.Cle (i:=i) (b:=b) (s:=z') (m:=m) (c:=c) (E:=E) (cs:=Ax cs off ns) (by rw[List.getElem?_set_self (by simpa using hlen)])
  rw[List.set_set,List.set_set]at hs3
  exact⟨w', .own z' E (.slice (some ⟨b,0,none⟩) m c) (Ax cs off ns),g1,hs3,rfl⟩
structure SrcW (P:Program) (w:World) (vy:Value) (z ly:Nat) (ys:List Value):Prop where
 len:(Builtin.lenOf vy).run P w= .ok ly w
 first:∀m,m≤ly→(Builtin.firstCells z m vy).run P w= .ok (ys.take (m*z)).toArray w
theorem SrcW.rd{vy:Value}{z ly:Nat}{ys:List Value}(h:Rd (fun _=>True) w z vy ys)(hl:ys.length=ly*z)(hz:0<z):SrcW P w vy z ly ys:=by
 obtain⟨p,len,cap,rfl,h2,h3,h4,h5⟩:=h
 have he:len=ly:=Nat.eq_of_mul_eq_mul_right hz (h2.symm.trans hl)
 subst he
 refine⟨rfl,fun m hm=>?_⟩
 cases p with
 |none=>
  have:m=0:=by have:=h4 rfl;omega
  subst this
  simp[Builtin.firstCells]
 |some a=>
  have hlen:(ys.take (m*z)).length=m*z:=by
   rw[List.length_take,h2]
   have:=Nat.mul_le_mul_right z hm
   omega
  simp only[Builtin.firstCells]
  by_cases hc:0<cap
  ·obtain⟨b,off,arr,T,fr,e1,_,e2,_,e4⟩:=h5 hc
   cases e1
   have:=Ls (P:=P) (w:=w) (b:=b) (off:=off) (ys.take (m*z)) (fun i hi=>by
    rw[hlen]at hi
    have h6:i<len*z:=Nat.lt_of_lt_of_le hi (Nat.mul_le_mul_right z hm)
    rw[cell_of e2,e4 i h6,List.getElem?_take,if_pos hi])
   rw[hlen]at this
   exact this
  ·have:m=0:=by omega
   subst this
   simp[loadCells,loadCellsFrom]
theorem SrcW.str{l:List UInt8}:SrcW P w (sv l) 1 l.length (Aea (k:= .u8) l):=by
 refine⟨by simp[Builtin.lenOf,ByteArray.size],fun m hm=>?_⟩
 simp only[Builtin.firstCells,Bam,Sem.run_pure]
 congr 1
 simp[Aea,List.map_take]
 rfl
theorem Bpx{e:ET}{t2:TypeId}{y:Operand}{m:List e.T}(hr:Rel Z s σs A L σ w)(hz:0<e.size)(h:Cd2 P s e t2 y=some m):∃ys,Bs (Ap (fun b=>A b∧Z.R b) w e) m ys∧SrcW P w (ev σ y) e.size m.length ys:=by
 have hm:=hr.mem
 have plain:elems s e (Du s.sl y)=some m→∃ys,Bs (Ap (fun b=>A b∧Z.R b) w e) m ys∧SrcW P w (ev σ y) e.size m.length ys:=by
  intro h
  have hV:(Du s.sl y).isV=true:=by
   cases hq:(Du s.sl y).isV with
   |true=>rfl
   |false=>rcases Aav hq with h'|h'|⟨_,_,_,h'⟩<;>rw[h']at h<;>cases h
  obtain⟨c0,h1,h2⟩:=Bb1 hm h (Rj hm.sl y hV)
  have hrd:Rd (fun _=>True) w e.size (ev σ y) c0:=by
   rcases h2 with h2|⟨j,E',u,cs',_,h2,hpart⟩
   ·exact h2.step (fun _ _=>trivial) (fun _ _=>rfl)
   ·exact hpart _ _ (hr.Vf h2)
  exact⟨c0,h1, .rd hrd (h1.len fun x c h=>Ap.len h) hz⟩
 unfold Cd2 at h
 split at h
 ·split at h
  ·rename_i m0 hy
   unfold Av3 at h
   split at h
   ·rename_i he
    cases he
    cases h
    rw[Ui hm.sl hy]
    exact⟨Aea m0,Bus.Al0, .str⟩
   ·cases h
  ·cases h
 ·unfold Cb8 at h
  split at h
  ·rename_i i p e1 lo n' hy
   split at h
   ·rename_i T v hi
    split at h
    ·rename_i a x hg
     split at h
     ·rename_i q a l
      obtain⟨hb,h⟩:=Ar h
      simp only[Bool.and_eq_true,decide_eq_true_eq]at hb
      obtain⟨⟨k1,k2,k3⟩,rfl⟩:=hb
      split at h
      ·rename_i ha
       subst ha
       cases h
       obtain⟨md,v1,h3,h4,g1,g2,⟨pt,cap,g3,g4,g5,g6⟩,_⟩:=Cr hm.sl hy rfl
       have h6:ev σ y=v1:=by simpa using h4
       obtain⟨b,cells,h7,h8⟩:=hm.box hi
       rw[h7]at h3;cases h3
       obtain⟨c1,c2,c3,he,h9,h10,h11⟩:=Asg hg h8
       have hlen2:=h11.len fun x c h=>Ap.len h
       obtain⟨lo',rfl⟩:=Int.eq_ofNat_of_zero_le k1
       obtain⟨n1,rfl⟩:=Int.eq_ofNat_of_zero_le k2
       simp only[Int.toNat_natCast]at g3 g4 g6
       have hq:lo'+n1≤l.length:=by rw[h10];omega
       have hsub:(Anw l lo' n1).length=n1:=by simp[Anw];omega
       have e5:lo'*a.size+n1*a.size≤l.length*a.size:=by rw[←Nat.add_mul];exact Nat.mul_le_mul_right _ hq
       refine⟨(c2.drop (lo'*a.size)).take (n1*a.size),Bs.take (fun x c h=>Ap.len h) _ (Bs.drop (fun x c h=>Ap.len h) _ h11),?_,fun m hm'=>?_⟩
       ·rw[h6,g3,hsub];rfl
       ·rw[hsub]at hm'
        rw[h6,g3]
        have hml:m*a.size≤n1*a.size:=Nat.mul_le_mul_right _ hm'
        cases pt with
        |none=>
         have:m=0:=by have:=g5 rfl;omega
         subst this
         simp[Builtin.firstCells]
        |some ad=>
         simp only[Builtin.firstCells]
         by_cases hc:0<cap
         ·obtain⟨bb,e1,e2⟩:=g6 hc
          cases e1
          cases e2
          have hlen3:(((c2.drop (lo'*a.size)).take (n1*a.size)).take (m*a.size)).length=m*a.size:=by
           simp only[List.length_take,List.length_drop,hlen2];omega
          have:=Ls (P:=P) (w:=w) (b:=b) (off:=Am p+lo'*a.size) (((c2.drop (lo'*a.size)).take (n1*a.size)).take (m*a.size)) (fun i hi=>by
           rw[hlen3]at hi
           have hcl:Am p+lo'*a.size+i<(MD.box b cells T).cells.length:=by
            simp only[MD.cells,he,List.length_append,h9,hlen2];omega
           rw[hr.cells h7 rfl _ hcl]
           simp only[MD.cells]
           rw[he,List.getElem?_append_right (by omega),h9,show Am p+lo'*a.size+i-Am p=lo'*a.size+i by omega,List.getElem?_append_left (by rw[hlen2];omega),
            List.getElem?_take,if_pos hi,List.getElem?_take,if_pos (by omega),List.getElem?_drop])
          rw[hlen3]at this
          exact this
         ·have:m=0:=by omega
          subst this
          simp[loadCells,loadCellsFrom]
      ·cases h
     ·cases h
    ·cases h
   ·cases h
  ·exact plain h
 ·cases h
theorem Bf4(cs:List Value)(o:Nat):Ax cs o []=cs:=by simp[Ax]
theorem Bsl{t t2 E:TypeId}{vx vy:Value}{z ly nv capv off i:Nat}{pt:Option Addr}{ys:List Value}{md:MD}{F:List Fact}(ht:P.underlying t=some (.slice E))(hsz:SizeIs P E z)(hsrc:SrcW P w vy z ly ys)(hys:ys.length=ly*z)(h1:ys.all (·.oneCell')=true)
  (hr:St A w F (L.map MD.Hs)) (h:L[i]? =some md) (hne:md≠ .dead) (hx:vx= .slice pt nv capv) (hcap:nv≤capv) (hpt:pt=none→capv=0) (hb:0<capv→∃b,md.base=some b∧pt=some ⟨b,off,none⟩) (hle:off+nv*z≤md.cells.length) (hz:0<z):
  ∃w' md',(Builtin.copy_ #[t,t2] ty #[vx,vy]).run P w= .ok (goInt (Nat.min ly nv)) w'∧St A w' F ((L.map MD.Hs).set i md'.Hs)∧Yi off (ys.take (nv*z)) md md':=by
 subst hx
 have hmin:Nat.min ly nv≤ly:=Nat.min_le_left _ _
 have hfirst:=hsrc.first _ hmin
 have htake:ys.take (Nat.min ly nv*z)=ys.take (nv*z):=by
  rcases Nat.le_total ly nv with h'|h'
  ·rw[show Nat.min ly nv=ly from Nat.min_eq_left h',←hys,List.take_length,List.take_of_length_le (by rw[hys];exact Nat.mul_le_mul_right z h')]
  ·rw[show Nat.min ly nv=nv from Nat.min_eq_right h']
 rw[htake]at hfirst
 have hmul:Nat.min ly nv*z≤nv*z:=Nat.mul_le_mul_right z (Nat.min_le_right _ _)
 have hlen:(ys.take (nv*z)).length=Nat.min ly nv*z:=by
  rw[←htake,List.length_take,hys]
  have:=Nat.mul_le_mul_right z hmin
  omega
 have hnone:(ys.take (nv*z))=[]→∃w' md',(Builtin.copy_ #[t,t2] ty #[.slice pt nv capv,vy]).run P w= .ok (goInt (Nat.min ly nv)) w'∧St A w' F ((L.map MD.Hs).set i md'.Hs)∧Yi off (ys.take (nv*z)) md md':=by
  intro he
  refine⟨w,md,?_,?_,?_⟩
  ·rw[he]at hfirst
   cases pt<;>simp[Builtin.copy_,run_underlying ht,hsrc.len,Bf hsz,hfirst,storeCells]
  ·rw[List.getElem?_eq_some_iff]at h
   obtain⟨hlt,h⟩:=h
   have:(L.map MD.Hs).set i md.Hs=L.map MD.Hs:=by
    rw[←List.map_set,←h,List.set_getElem_self]
   rw[this];exact hr
  ·rw[he]
   cases md with
   |dead=>exact absurd rfl hne
   |box b c T=>simp only[Yi,Bf4]
   |own z' E' v c=>simp only[Yi,Bf4]
 by_cases he:(ys.take (nv*z))=[]
 ·exact hnone he
 ·have hpos:0<(ys.take (nv*z)).length:=List.length_pos_iff.2 he
  have hm0:0<Nat.min ly nv:=by
   rcases Nat.eq_zero_or_pos (Nat.min ly nv)with h'|h'
   ·rw[hlen,h']at hpos;simp at hpos
   ·exact h'
  have hnv:0<nv:=Nat.lt_of_lt_of_le hm0 (Nat.min_le_right _ _)
  obtain⟨b,e1,e2⟩:=hb (by omega)
  subst e2
  obtain⟨w',md',g1,g2,g3⟩:=Bvz (P:=P) (off:=off) hr h e1 (ns:=ys.take (nv*z)) (List.all_eq_true.2 fun v hv=>List.all_eq_true.1 h1 v (List.mem_of_mem_take hv)) (by rw[hlen];omega) hpos
  refine⟨w',md',?_,g2,g3⟩
  simp[Builtin.copy_,run_underlying ht,hsrc.len,Bf hsz,hfirst,g1]
theorem Bs1(nv k:Nat):Aku (nv:Int) k=((Nat.min k nv:Nat):Int):=by
 unfold Aku
 rcases Nat.lt_or_ge k nv with h|h
 ·rw[if_pos (by omega),show Nat.min k nv=k from Nat.min_eq_left (by omega)]
 ·rw[if_neg (by omega),show Nat.min k nv=nv from Nat.min_eq_right h]
theorem Bks{B:Reg}{e:ET}{l m:List e.T}{cs ys:List Value}{lo nv:Nat}(hl:Bs (Ap B w e) l cs)(hm:Bs (Ap B w e) m ys):Bs (Ap B w e) (Tt l lo nv m) (Ax cs (lo*e.size) (ys.take (nv*e.size))):=by
 have h1:=Bs.take (fun x c h=>Ap.len h) nv hm
 have h2:=h1.len fun x c h=>Ap.len h
 have h3:=Bs.take (fun x c h=>Ap.len h) lo hl
 have h4:=Bs.drop (fun x c h=>Ap.len h) (lo+(m.take nv).length) hl
 unfold Tt Ax
 simp only[Int.toNat_natCast]
 refine Bs.append h3 (Bs.append h1 ?_)
 rw[h2,←Nat.add_mul]
 exact h4
theorem Ce2{α:Type}(l m:List α):Bk4 l m=Tt l ((0:Nat):Int) ((l.length:Nat):Int) m:=by
 unfold Bk4 Tt
 simp only[Int.toNat_natCast,List.take_zero,List.nil_append,Nat.zero_add,List.length_take]
 congr 1
 rcases Nat.le_total m.length l.length with h|h
 ·rw[Nat.min_eq_right h]
 ·rw[Nat.min_eq_left h,List.drop_of_length_le (Nat.le_refl _),List.drop_of_length_le h]
theorem Bs8{t t2 E E':TypeId}{x y:Operand}{e:ET}{l m:List e.T}{ys cs:List Value}{u:Value}{lo nv capv i:Nat}{pt:Option Addr}{ow:Option Nat}(hr:Rel Z s σs A L σ w)(hd:Jv n ⟨ow, .call ⟨.builtin .copy, #[x,y], #[t,t2]⟩,ty,pos,after,none⟩=true)
  (ht:P.underlying t=some (.slice E)) (hsz:SizeIs P E e.size) (hz:0<e.size) (hit:Bw s.it i= .arr E' e l) (hL:L[i]? =some (.own e.size E' u cs)) (hl:Bs (Ap (fun b=>A b∧Z.R b) w e) l cs) (hm:Bs (Ap (fun b=>A b∧Z.R b) w e) m ys) (hsrc:SrcW P w (ev σ y) e.size m.length ys)
  (hx:ev σ x= .slice pt nv capv) (hcap:nv≤capv) (hpt:pt=none→capv=0) (hb:0<capv→∃b,(MD.own e.size E' u cs).base=some b∧pt=some ⟨b,lo*e.size,none⟩) (hle:lo+nv≤l.length)
  (hk:k ((s.Uq i (.arr E' e (Tt l lo nv m))).Gb ow (.i .i64 (Aku (nv:Int) m.length)))=some r):Ach P n ops ⟨ow, .call ⟨.builtin .copy, #[x,y], #[t,t2]⟩,ty,pos,after,none⟩ Z s σs k r False A L σ w:=by
 have hcl:=hl.len fun x c h=>Ap.len h
 have hyl:=hm.len fun x c h=>Ap.len h
 have hF:=St.Bbp (f:=Bie Z.R L (.arr E' e (Tt l lo nv m)) (Ax cs (lo*e.size) (ys.take (nv*e.size)))) hr (Bks hl hm)
 obtain⟨w',md',g1,g2,g3⟩:=Bsl (P:=P) (ty:=ty) (t2:=t2) (off:=lo*e.size) ht hsz hsrc hyl hm.Boz hF hL (by intro h;cases h) rfl hcap hpt hb (by
  show lo*e.size+nv*e.size≤cs.length
  rw[hcl,←Nat.add_mul];exact Nat.mul_le_mul_right _ hle) hz
 simp only[Yi]at g3
 subst g3
 have key:=LeL.own (cs':=Ax cs (lo*e.size) (ys.take (nv*e.size))) hL
 have hr2:=Rel.change (a:= .arr E' e (Tt l lo nv m)) g2.Bfd hL key ⟨rfl,rfl,g2.fact 0 rfl⟩
 refine WL.Bt4 (v:=goInt (Nat.min m.length nv)) rfl hd ?_ (WL.nil ⟨_,A,_,hk,hr2.Gb rfl ?_,fun h=>h.elim⟩)
 ·simp[execOp,resolve,invoke,builtin,hx,g1]
 ·rw[Bs1];rfl
theorem Bw6{t t2:TypeId}{x y:Operand}{ow:Option Nat}(hr:Rel Z s σs A L σ w)(hd:Jv n ⟨ow, .call ⟨.builtin .copy, #[x,y], #[t,t2]⟩,ty,pos,after,none⟩=true)
  (h:Boq P s ow x y t t2 k=some r):Ach P n ops ⟨ow, .call ⟨.builtin .copy, #[x,y], #[t,t2]⟩,ty,pos,after,none⟩ Z s σs k r False A L σ w:=by
 have hmm:=hr.mem
 unfold Boq at h
 split at h
 ·cases h
 ·rename_i E hE
  have ht:=Ayd hE
  split at h
  ·cases h
  ·rename_i inf hinf
   split at h
   ·rename_i i hx
    split at h
    ·rename_i E' e l hit
     obtain⟨hb,h⟩:=Ar h
     simp only[Bool.and_eq_true]at hb
     have hz:0<e.size:=by have:=Nat.le_of_ble_eq_true hb.2;omega
     split at h
     ·rename_i m hsrc
      obtain⟨ys,h1,h2⟩:=Bpx hr hz hsrc
      obtain⟨u,cs,h3,h4⟩:=hmm.arr hit
      obtain⟨z',E2,c',h5⟩:=Ag6 (Cr hmm.sl hx rfl)
      rw[h3]at h5
      cases h5
      obtain⟨q,len,cap,g1,g2,g3,g4,g5⟩:=hr.Ckm h3
      have hl:len=l.length:=Nat.eq_of_mul_eq_mul_right hz (g2.symm.trans (h4.len fun x c h=>Ap.len h))
      rw[Ce2]at h
      exact Bs8 (lo:=0) (nv:=l.length) (ys:=ys) hr hd ht (Eo hinf hb.1) hz hit h3 h4 h1 h2 (by rw[g1,hl]) (by omega) g4 (fun hc=>by obtain⟨b,e1,e2⟩:=g5 hc;exact⟨b,e2,by rw[e1];simp⟩) (by omega) h
     ·cases h
    ·cases h
   ·rename_i i p e1 lo n' hx
    split at h
    ·rename_i E' e l hit
     obtain⟨hb,h⟩:=Ar h
     simp only[Bool.and_eq_true,decide_eq_true_eq]at hb
     obtain⟨⟨hb1,hb2⟩,rfl⟩:=hb
     have hz:0<e1.size:=by have:=Nat.le_of_ble_eq_true hb2;omega
     split at h
     ·rename_i m hsrc
      obtain⟨ys,h1,h2⟩:=Bpx hr hz hsrc
      obtain⟨u,cs,h3,h4⟩:=hmm.arr hit
      obtain⟨md,v1,h5,h6,k1,k2,⟨pt,cap,k3,k4,k5,k6⟩,k7,_⟩:=Cr hmm.sl hx rfl
      rw[h3]at h5;cases h5
      have h7:ev σ x=v1:=by simpa using h6
      obtain⟨lo',rfl⟩:=Int.eq_ofNat_of_zero_le k1
      obtain⟨n1,rfl⟩:=Int.eq_ofNat_of_zero_le k2
      simp only[Int.toNat_natCast]at k3 k4 k6 k7
      obtain⟨s',E2,q,len,cap0,c0,e1',rfl,e3,_⟩:=k7 trivial
      cases e1'
      obtain⟨q',len',cap',g1,g2,_⟩:=hr.Ckm h3
      cases g1
      have hl:len=l.length:=Nat.eq_of_mul_eq_mul_right hz (g2.symm.trans (h4.len fun x c h=>Ap.len h))
      exact Bs8 (lo:=lo') (nv:=n1) (ys:=ys) hr hd ht (Eo hinf hb1) hz hit h3 h4 h1 h2 (h7.trans k3) k4 k5 (fun hc=>by obtain⟨b,e4,e5⟩:=k6 hc;exact⟨b,e4,by rw[e5];simp[Am]⟩) (by omega) h
     ·cases h
    ·cases h
   ·rename_i i p e1 lo n' hx
    split at h
    ·rename_i T v hit
     split at h
     ·rename_i a0 x0 hg
      split at h
      ·rename_i q e l
       obtain⟨hb,h⟩:=Ar h
       simp only[Bool.and_eq_true,decide_eq_true_eq]at hb
       obtain⟨⟨⟨hb1,hb2⟩,rfl⟩,k1,k2,k3⟩:=hb
       have hz:0<e1.size:=by have:=Nat.le_of_ble_eq_true hb2;omega
       split at h
       ·rename_i m hsrc
        obtain⟨ys,h1,h2⟩:=Bpx hr hz hsrc
        obtain⟨md,v1,h5,h6,_,_,⟨pt,cap,g3,g4,g5,g6⟩,_⟩:=Cr hmm.sl hx rfl
        have h7:ev σ x=v1:=by simpa using h6
        obtain⟨b,cells,h8,h9⟩:=hmm.box hit
        rw[h8]at h5;cases h5
        obtain⟨c1,c2,c3,he,h10,h11,h12⟩:=Asg hg h9
        have hlen2:=h12.len fun x c h=>Ap.len h
        have hyl:=h1.len fun x c h=>Ap.len h
        obtain⟨lo',rfl⟩:=Int.eq_ofNat_of_zero_le k1
        obtain⟨n1,rfl⟩:=Int.eq_ofNat_of_zero_le k2
        simp only[Int.toNat_natCast]at g3 g4 g6
        have hq:lo'+n1≤l.length:=by rw[h11];omega
        have e5:lo'*e1.size+n1*e1.size≤l.length*e1.size:=by rw[←Nat.add_mul];exact Nat.mul_le_mul_right _ hq
        have hk1:=Bs.take (fun x c h=>Ap.len h) n1 h1
        have hk2:=hk1.len fun x c h=>Ap.len h
        have hk3:(ys.take (n1*e1.size)).length≤n1*e1.size:=by rw[List.length_take];omega
        have hcp:=Bks (lo:=lo') (nv:=n1) h12 h1
        have hspl:(Ax c2 (lo'*e1.size) (ys.take (n1*e1.size))).length=c2.length:=Fe (by rw[hlen2];omega)
        have hvec:EncC (fun b=>A b∧Z.R b) w L (.val (.vec q e1) (Tt l lo' n1 m)) (Ax c2 (lo'*e1.size) (ys.take (n1*e1.size))):=by
         refine⟨?_,hcp⟩
         have:=hcp.len fun x c h=>Ap.len h
         rw[hspl,hlen2]at this
         rw[←h11];exact(Nat.eq_of_mul_eq_mul_right hz this).symm
        obtain⟨v',hk,_,hv'⟩:=Bbw hvec h h9
        have hcells:Ax cells (Am p) (Ax c2 (lo'*e1.size) (ys.take (n1*e1.size)))=Ax cells (Am p+lo'*e1.size) (ys.take (n1*e1.size)):=by
         rw[he,Aq5 h10 _ (by rw[hlen2];omega),←h10,As5 hspl]
        rw[hcells]at hv'
        have hF:=St.Bbp (f:=Bie Z.R L (.box T v') (Ax cells (Am p+lo'*e1.size) (ys.take (n1*e1.size)))) hr hv'
        obtain⟨w',md',g1,g2,g3'⟩:=Bsl (P:=P) (ty:=ty) (t2:=t2) (off:=Am p+lo'*e1.size) ht (Eo hinf hb1) h2 hyl h1.Boz hF h8 (by intro h;cases h) rfl g4 g5 (fun hc=>by obtain⟨b,e4,e5⟩:=g6 hc;exact⟨b,e4,e5⟩) (by
         show Am p+lo'*e1.size+n1*e1.size≤cells.length
         rw[he];simp only[List.length_append,h10,hlen2];omega) hz
        simp only[Yi]at g3'
        subst g3'
        have key:=LeL.box (cs':=Ax cells (Am p+lo'*e1.size) (ys.take (n1*e1.size))) h8
        have hr2:=Rel.change (a:= .box T v') g2.Bfd h8 key ⟨rfl,EncC.step (fun _ h=>h) (fun _ _=>rfl) key (g2.fact 0 rfl)⟩
        refine WL.Bt4 (v:=goInt (Nat.min m.length n1)) rfl hd ?_ (WL.nil ⟨_,A,_,hk,hr2.Gb rfl ?_,fun h=>h.elim⟩)
        ·rw[←g3,←h7]at g1
         simp[execOp,resolve,invoke,builtin,g1]
        ·rw[Bs1];rfl
       ·cases h
      ·cases h
     ·cases h
    ·cases h
   ·cases h
theorem Bis{g:Nat}{cs:List Value}:∀{l:List (Nat×List Value)},Cij l g=some cs→(g,cs)∈l
 |[],h=>by cases h
 |(q,c)::r,h=>by
  simp only[Cij]at h
  cases hb:Nat.beq q g with
  |true=>
   rw[hb]at h
   have:=By hb
   subst this
   cases h
   exact .head _
  |false=>rw[hb]at h;exact .tail _ (Bis h)
theorem Bt9{g:Nat}{t:TypeId}{v:PV}(hT:Ayx P T Z)(hr:Rel Z s σs A L σ w)(h:T.glv P g t=some v):∃cs T1 fr,w.heap[g]? =some (.cells cs.toArray T1 fr)∧(A g∧Z.R g)∧EncC (fun b=>A b∧Z.R b) w L v cs:=by
 unfold Tab.glv at h
 split at h
 ·rename_i cs hg
  split at h
  ·rename_i v' hp
   cases h
   obtain⟨h1,T1,fr,h2⟩:=hr.Buk (p:=(g,cs)) (by rw[hT.2];exact Bis hg)
   obtain⟨c,e1,h3⟩:=Ark (B:=fun b=>A b∧Z.R b) (w:=w) (L:=L) Q hp
   rw[List.append_nil]at e1
   subst e1
   exact⟨_,T1,fr,h2,h1,h3⟩
  ·cases h
 ·cases h
theorem Bou{o:Op}{g dn:Nat}{G:Prop}(hT:Ayx P T Z)(hr:Rel Z s σs A L σ w)(hd:Jv n ⟨some dn,o,ty,pos,after,none⟩=true)
  (ho:(∃t,o= .load t (.global g))∨(∃t ix,o= .indexAddr t (.global g) ix)∨(∃t lo hi,o= .slice t (.global g) lo hi none)) (h:Bab P T s dn g o k=some r):
  Ach P n ops ⟨some dn,o,ty,pos,after,none⟩ Z s σs k r G A L σ w:=by
 have hm:=hr.mem
 rcases ho with⟨t,rfl⟩|⟨t,ix,rfl⟩|⟨t,lo,hi,rfl⟩
 ·simp only[Bab]at h
  split at h
  ·rename_i v hv
   obtain⟨hb,hk⟩:=Ar h
   obtain⟨cs,T1,fr,h1,h2,h3⟩:=Bt9 hT hr hv
   obtain⟨val,h7,h8⟩:=Bkf (P:=P) (σ:=σ) (x:= .global g) (b:=g) (off:=0) (Qe hb) h3 (fun j hj=>by rw[cell_of h1];simp) rfl
   obtain⟨hv,hv'⟩:=Jb h7
   exact Dl hr hd h8 hv hv' hk
  ·cases h
 ·simp only[Bab]at h
  split at h
  ·rename_i j m et e0 l0 hj ht hv
   obtain⟨q,hix⟩:=Ah2 hj (Rj hm.sl ix (Aoa hj))
   split at h
   ·rename_i inf m' e l hinf
    obtain⟨hb,h⟩:=Ar h
    simp only[Bool.and_eq_true]at hb
    obtain⟨y,hy,hk⟩:=bind_some h
    obtain⟨hj0,hj1,hj2⟩:=Iz hy
    obtain⟨cs,T1,fr,h1,h2,h3,h4⟩:=Bt9 hT hr hv
    obtain⟨c1,c2,c3,he,h8,h9,_⟩:=Bs.get (fun x c h=>Ap.len h) h4 hj2
    have hmm:=By hb.1.1
    subst hmm
    have h10:c2.length=e.size:=h9.len
    have hp:Bnv (fun b=>A b∧Z.R b) w (.pointer (some ⟨g,0+j.toNat*e.size,none⟩)) c2:=by
     refine⟨g,0+j.toNat*e.size,_,T1,fr,rfl,h2,h1,fun q hq=>?_⟩
     rw[List.getElem?_toArray,he,Nat.zero_add,List.getElem?_append_right (by omega),h8,show j.toNat*e.size+q-j.toNat*e.size=q by omega,List.getElem?_append_left hq]
    have hvr:Dy (fun b=>A b∧Z.R b) w L (.rptr (e.pv y)) (.pointer (some ⟨g,0+j.toNat*e.size,none⟩)):=⟨_,c2,rfl,hp,Apj.2 h9⟩
    exact Dl hr hd (Apl (x:= .global g) ht (Eo hinf hb.1.2) rfl hix (by omega) (by rw[←show l.length=m' from h3];omega) w) rfl hvr hk
   ·cases h
  ·cases h
 ·simp only[Bab]at h
  split at h
  ·rename_i u m et hat
   split at h
   ·rename_i e0 l0 hv
    split at h
    ·rename_i inf m' e l hinf
     obtain⟨hb,h⟩:=Ar h
     simp only[Bool.and_eq_true]at hb
     split at h
     ·rename_i a b ha hb'
      obtain⟨y,hy,hk⟩:=bind_some h
      obtain⟨k1,k2,k3,k4,rfl⟩:=Akl hy
      obtain⟨cs,T1,fr,h1,h2,h3,h4⟩:=Bt9 hT hr hv
      have hmm:=By hb.1.1
      subst hmm
      have hlen:=h4.len fun x c h=>Ap.len h
      have hz:0<e.size:=by have:=Nat.le_of_ble_eq_true hb.2;omega
      have hm3:l.length=m':=h3
      have hxo:=X.Bmo (P:=P) (σ:=σ) (w:=w) (x:= .global g) (lo:=lo) (hi:=hi) (a:=a.toNat) (b:=b.toNat) (ad:=⟨g,0,none⟩) hat (Eo hinf hb.1.2) k3 (by omega) rfl
       (by rcases Ll hm.sl ha with h|⟨h,h'⟩;exact .inl (by rw[←k1];exact h);exact .inr ⟨h,by omega⟩) (by rcases Ll hm.sl hb' with h|⟨h,h'⟩;exact .inl (by rw[←k2];exact h);exact .inr ⟨h,by omega⟩)
      have e5:a.toNat*e.size≤b.toNat*e.size:=Nat.mul_le_mul_right _ k3
      have e6:b.toNat*e.size≤l.length*e.size:=Nat.mul_le_mul_right _ k4
      have e7:(b.toNat-a.toNat)*e.size=b.toNat*e.size-a.toNat*e.size:=Nat.sub_mul _ _ _
      refine Dl hr hd hxo rfl (Ayr ⟨_,_,_,rfl,?_,by omega,(fun h=>by cases h),fun hc=>?_⟩ (Bs.drop (fun x c h=>Ap.len h) _ (Bs.take (fun x c h=>Ap.len h) _ h4))) hk
      ·rw[List.length_drop,List.length_take,hlen,e7];omega
      ·rw[if_neg (by omega),My]
       refine⟨g,0+a.toNat*e.size,_,T1,fr,rfl,h2,h1,?_,fun i hi=>?_⟩
       ·simp only[List.size_toArray,hlen,hm3]
        have:(m'-a.toNat)*e.size=m'*e.size-a.toNat*e.size:=Nat.sub_mul _ _ _
        have:a.toNat*e.size≤m'*e.size:=Nat.mul_le_mul_right _ (by omega)
        omega
       ·rw[List.getElem?_toArray,Nat.zero_add,List.getElem?_drop,List.getElem?_take,if_pos (by omega)]
     ·cases h
    ·cases h
   ·cases h
  ·cases h
theorem Ck0{o:Op}{dn:Nat}(hT:Ayx P T Z)(hI:Aef P T.gl inl)(hr:Rel Z s σs A L σ w)(hd:Jv n ⟨some dn,o,ty,pos,after,none⟩=true)(h:op2 P T inl s dn ty o k=some r):
  Ach P n ops ⟨some dn,o,ty,pos,after,none⟩ Z s σs k r (nbk T s ⟨some dn,o,ty,pos,after,none⟩=true) A L σ w:=by
 have hm:=hr.mem
 unfold op2 at h
 split at h
 ·
  rename_i o t x y t'
  split at h
  ·rename_i a u b v hx hy
   split at h
   ·rename_i c q hc hq
    obtain⟨_,hok,h⟩:=bind_some h
    have:=Yl hok
    subst this
    obtain⟨hv,val,hb,hvr⟩:=Bg5 (P:=P) (w:=w) (L:=L) (B:=fun b=>A b∧Z.R b) (t:=t) hq hc
    exact Dl hr hd (X.bin (Ym hm.sl hx) (Ym hm.sl hy) hb) hv hvr h
   ·cases h
  ·rename_i u v hx hy
   split at h
   ·obtain⟨q,hq,h⟩:=bind_some h
    exact Dl (p:= .val .str q) hr hd (X.Cbo (Ui hm.sl hx) (Ui hm.sl hy) hq) rfl rfl h
   ·cases h
  ·rename_i a h1 h2 hy
   exact Cdt hr hd rfl hy h
  ·cases h
 ·
  rename_i t x ix
  split at h
  ·rename_i j e0 l0 hj hx
   obtain⟨q,hix⟩:=Ah2 hj (Rj hm.sl ix (Aoa hj))
   split at h
   ·rename_i l ht
    obtain⟨y,hy,h⟩:=bind_some h
    exact Dl (p:= .i .u8 y) hr hd (X.Cer ht (Ui hm.sl hx) hix hy) rfl rfl h
   ·rename_i m e l m' et ht
    obtain⟨hb,h⟩:=Ar h
    obtain⟨y,hy,h⟩:=bind_some h
    obtain⟨hk,hkk⟩:=Ar h
    have hok:=Qe hk
    have hv:EncV (fun b=>A b∧Z.R b) w L (.val (.vec m e) l) (ev σ x):=Cr hm.sl hx rfl
    obtain⟨cs,h1,h2,h3⟩:=hv
    have hsz:(e.pv y).size=e.size:=by
     obtain⟨_,_,h5⟩:=Iz hy
     obtain⟨_,c2,_,_,_,h6,_⟩:=Bs.get (fun x c h=>Ap.len h) h3 h5
     rw[←(Apj (L:=L).2 h6).len,h6.len]
    have hmm:=By hb
    subst hmm
    obtain⟨d0,hd0,ha0⟩:=hok.agg
    obtain⟨val,h4,h5⟩:=Cib (L:=L) ht (by rw[←hsz];exact hok.size) ⟨d0,hd0,ha0⟩ (fun hA=>by rw[←hsz];exact hok.one hA) h2 h1 h3 hix hy
    obtain⟨hv,hv'⟩:=Jb h5
    exact Dl hr hd h4 hv hv' hkk
   ·cases h
  ·cases h
 ·split at h
  ·exact Bou hT hr hd (.inr (.inr ⟨_,_,_,rfl⟩)) h
  ·exact Ccd hr hd h (fun g=>g)
 ·split at h
  ·exact Bou hT hr hd (.inr (.inl ⟨_,_,rfl⟩)) h
  ·exact Buw hr hd h
 ·split at h
  ·exact Bou hT hr hd (.inl ⟨_,rfl⟩) h
  ·exact Cgd hr hd h
 ·
  split at h
  ·rename_i v hz;exact Ccl hr hd hz h
  ·cases h
 ·obtain⟨hb,h⟩:=Ar h
  exact Ckc hr hd hb h
 ·split at h
  ·rename_i v hv
   obtain⟨hA,h⟩:=Ar h
   obtain⟨h1,h2⟩:=Bls (B:=fun b=>A b∧Z.R b) (w:=w) (L:=L) hv hA
   exact Dl hr hd (X.assign rfl) h1 h2 h
  ·cases h
 ·split at h
  ·rename_i v hv
   obtain⟨hA,h⟩:=Ar h
   obtain⟨h1,h2⟩:=Bls (B:=fun b=>A b∧Z.R b) (w:=w) (L:=L) hv hA
   exact Dl hr hd (X.move rfl) h1 h2 h
  ·cases h
 ·exact Ccw hr hd h
 ·exact Bln hr hd h (fun g=>g)
 ·exact Chw hr hd h
 ·
  split at h
  ·rename_i e ha ht
   split at h
   ·rename_i l he hx
    exact Bus hr hd ha ht he hx h
   ·cases h
  ·rename_i e ha ht
   obtain⟨hb,h1⟩:=Ar h
   clear h
   have:=By hb
   subst this
   split at h1
   ·rename_i i he hx
    split at h1
    ·rename_i E e' l hi
     split at h1
     ·rename_i y ys
      exact Cgk hr hd ht he hx hi h1
     ·cases h1
    ·cases h1
   ·cases h1
  ·cases h
 ·
  rename_i as ts
  split at h
  ·rename_i x y t t2 has hts
   have h1:=Af5 has
   have h2:=Af5 hts
   subst h1 h2
   refine Akd (Caj hr hd h) ?_
   rintro σ' w' ⟨s',A',L',g1,g2,g3⟩
   exact⟨s',A',L',g1,g2,fun g=>by simp[nbk,brk]at g⟩
  ·cases h
 ·
  rename_i as ts
  split at h
  ·rename_i x y t t2 has hts
   have h1:=Af5 has
   have h2:=Af5 hts
   subst h1 h2
   refine Akd (Bw6 hr hd h) ?_
   rintro σ' w' ⟨s',A',L',g1,g2,g3⟩
   exact⟨s',A',L',g1,g2,fun g=>by simp[nbk,brk]at g⟩
  ·cases h
 ·
  rename_i as ts
  split at h
  ·rename_i x t has hts
   have h1:=Af5 has
   have h2:=Af5 hts
   subst h1 h2
   split at h
   ·rename_i e ht hx
    refine Dl (p:= .i .i64 (0:Int)) hr hd (val:=iv (0:Int)) (fun _ _ _ _ _=>?_) rfl rfl h
    have hv:=Af4 (Cr hm.sl hx rfl)
    simp[execOp,resolve,invoke,builtin,hv,Builtin.cap_,run_underlying ht,goInt]
    rfl
   ·cases h
  ·cases h
 ·
  rename_i g as ts
  split at h
  ·rename_i f caps hg
   refine Chz hT hI hr hg hd h (fun gg=>?_)
   unfold nbk at gg
   split at gg
   ·rename_i heq;cases heq
   ·rename_i heq;cases heq
   ·rename_i f' as' ts' heq
    cases heq
    cases hg
    split at gg
    ·rename_i c hc
     simp only[Bool.and_eq_true,Bool.or_eq_true,Bool.not_eq_true']at gg
     exact⟨c,hc,gg.1,gg.2.imp id isEmpty_nil⟩
    ·cases gg
   ·rename_i h1 h2 h3
    simp only[brk]at gg
    split at gg<;>simp_all
  ·cases h
 ·exact Bzy hr hd h (fun g=>g)
 ·cases h
end Go.Rx
set_option linter.unusedVariables false
set_option linter.unusedSimpArgs false
namespace Go.Rx
open Go Go.Lv
variable {P:Program} {w w':World} {L:List MD} {s:S} {σs:List Env} {σ:Env} {Z:Fix} {A:Reg}
theorem Aqh{α:Type 1}{c:Bool}{x:Option α}{y:α}(h:(Cg (c) (x)<|none)=some y):c=true∧x=some y:=by cases c<;>simp_all
theorem Buv{o:Op}{b:BV}{x:b.X}(hr:Rel Z s σs A L σ w)(h:bnd P s o=some b)(hx:b.E=some x):(b.v x).isV=true∧∃val,(∀w',XO P σ w' o val)∧Dy (fun b=>A b∧Z.R b) w L (b.v x) val:=by
 have hm:=hr.mem
 unfold bnd at h
 split at h
 ·
  rename_i o t x y t'
  split at h
  ·rename_i a u b v hx' hy
   split at h
   ·rename_i c q hc hq
    cases h
    have:=Yl hx
    subst this
    obtain⟨hv,val,hb,hvr⟩:=Bg5 (P:=P) (w:=w) (L:=L) (B:=fun b=>A b∧Z.R b) (t:=t) hq hc
    exact⟨hv,val,fun w'=>X.bin (Ym hm.sl hx') (Ym hm.sl hy) hb,hvr⟩
   ·cases h
  ·rename_i u v hx' hy
   split at h
   ·cases h
    exact⟨rfl,_,fun w'=>X.Cbo (Ui hm.sl hx') (Ui hm.sl hy) hx,rfl⟩
   ·cases h
  ·cases h
 ·
  split at h
  ·rename_i j l hj hx' ht
   cases h
   obtain⟨q,hix⟩:=Ah2 hj (Rj hm.sl _ (Aoa hj))
   exact⟨rfl,_,fun w'=>X.Cer ht (Ui hm.sl hx') hix hx,rfl⟩
  ·cases h
 ·
  split at h
  ·rename_i ht
   split at h
   ·rename_i l hx'
    split at h
    ·rename_i a b ha hb
     cases h
     exact⟨rfl,_,fun w'=>X.Cla ht (Ui hm.sl hx') hx (Ll hm.sl ha) (Ll hm.sl hb),rfl⟩
    ·cases h
   ·cases h
  ·rename_i et ht
   split at h
   ·rename_i e0 l0 hx'
    split at h
    ·rename_i e l
     split at h
     ·rename_i inf hinf
      obtain⟨hb,h⟩:=Aqh h
      simp only[Bool.and_eq_true]at hb
      split at h
      ·rename_i a b ha hb'
       cases h
       obtain⟨h1,h2,h3,h4,h5'⟩:=Akl hx
       obtain⟨c0,h5,h6⟩:=Aa1 (Cr hm.sl hx' rfl)
       have hlen:=h6.len fun x c h=>Ap.len h
       obtain⟨p',l',c',h7,h8⟩:=X.Bss (P:=P) (l:=a.toNat) (k:=b.toNat) (m:=l.length) ht (Eo hinf hb.1) (St.Ccb hr h5) (j:=0) rfl hlen (Bny hb.2) h3 h4
       refine⟨rfl, .slice p' l' c',fun w'=>h7 σ w' _ _ _ rfl (by rcases Ll hm.sl ha with h|⟨h,h'⟩;exact .inl (by rw[←h1];exact h);exact .inr ⟨h,by omega⟩)
        (by rcases Ll hm.sl hb' with h|⟨h,h'⟩;exact .inl (by rw[←h2];exact h);exact .inr ⟨h,by rw[h'];simp[Ac]⟩),?_⟩
       rw[h5']
       exact Ayr (h8.fact 0 rfl) (Bs.drop (fun x c h=>Ap.len h) _ (Bs.take (fun x c h=>Ap.len h) _ h6))
      ·cases h
     ·cases h
    ·cases h
   ·cases h
  ·cases h
 ·
  split at h
  ·cases h
  ·rename_i j hj
   obtain⟨q,hix⟩:=Ah2 hj (Rj hm.sl _ (Aoa hj))
   split at h
   ·rename_i et ht
    split at h
    ·cases h
    ·rename_i inf hinf
     split at h
     ·rename_i e0 l0 hx'
      split at h
      ·rename_i e l
       obtain⟨hb,h⟩:=Aqh h
       cases h
       simp only[Bool.and_eq_true]at hb
       obtain⟨hj0,hj1,hj2⟩:=Iz hx
       obtain⟨c0,h1,h2⟩:=Aa1 (Cr hm.sl hx' rfl)
       obtain⟨p,len,cap,h3,h4,h5,h6,h7⟩:=h1
       have hlen:=h2.len fun x c h=>Ap.len h
       have hz:0<e.size:=by have:=Nat.le_of_ble_eq_true hb.2;omega
       have hl:len=l.length:=Nat.eq_of_mul_eq_mul_right hz (h4.symm.trans hlen)
       subst hl
       obtain⟨b,off,arr,T,fr,rfl,hB,hbl,hcap,hc⟩:=h7 (by omega)
       obtain⟨c1,c2,c3,he,h8,h9,_⟩:=Bs.get (fun x c h=>Ap.len h) h2 hj2
       have h10:c2.length=e.size:=h9.len
       have h11:(j.toNat+1)*e.size≤l.length*e.size:=Nat.mul_le_mul_right _ hj1
       rw[Nat.succ_mul]at h11
       have hp:Bnv (fun b=>A b∧Z.R b) w (.pointer (some ⟨b,off+j.toNat*e.size,none⟩)) c2:=by
        refine⟨b,off+j.toNat*e.size,arr,T,fr,rfl,hB,hbl,fun q hq=>?_⟩
        rw[Nat.add_assoc,hc _ (by omega),he,List.getElem?_append_right (by omega),h8,show j.toNat*e.size+q-j.toNat*e.size=q by omega,List.getElem?_append_left hq]
       have hvr:Dy (fun b=>A b∧Z.R b) w L (.rptr (e.pv x)) (.pointer (some ⟨b,off+j.toNat*e.size,none⟩)):=⟨_,c2,rfl,hp,Apj.2 h9⟩
       exact⟨rfl,_,fun w'=>Td ht (Eo hinf hb.1) h3 hix (by omega) (by omega) w',hvr⟩
      ·cases h
     ·rename_i i hx'
      split at h
      ·rename_i E e l hi
       obtain⟨hb,h⟩:=Aqh h
       cases h
       simp only[Bool.and_eq_true]at hb
       obtain⟨hj0,hj1,hj2⟩:=Iz hx
       obtain⟨v,cs,h1,h2⟩:=hm.arr hi
       obtain⟨z',E',c',h3⟩:=Ag6 (Cr hm.sl hx' rfl)
       rw[h1]at h3;cases h3
       have hlen:=h2.len fun x c h=>Ap.len h
       have hz:0<e.size:=by have:=Nat.le_of_ble_eq_true hb.2;omega
       have hpos:0<cs.length:=by rw[hlen];exact Nat.mul_pos (by omega) hz
       obtain⟨b,len,cap,h4,h5⟩:=hr.base h1 hpos
       have hl:len=l.length:=Nat.eq_of_mul_eq_mul_right hz (h5.symm.trans hlen)
       subst hl
       refine⟨rfl,_,fun w'=>Td ht (Eo hinf hb.1) h4 hix (by omega) (by omega) w',?_⟩
       rw[show(0:Nat)+j.toNat*e.size=Am [.idx j e.size] by simp[Am,Ax2]]
       refine Ahb h1 ?_
       rw[h4];rfl
      ·cases h
     ·rename_i o i p e lo n' hx'
      obtain⟨hb,h⟩:=Aqh h
      cases h
      simp only[Bool.and_eq_true]at hb
      have hj':0≤j∧j<n':=of_decide_eq_true (Yl hx)
      obtain⟨md,v1,h3,h4,k1,k2,⟨pt,cap,k3,k4,k5,k6⟩,_⟩:=Cr hm.sl hx' rfl
      have h6:=List.cons.inj h4
      obtain⟨b,e1,rfl⟩:=k6 (by omega)
      refine⟨rfl,_,fun w'=>Td ht (Eo hinf hb.1) (h6.1.trans k3) hix hj'.1 (by omega) w',?_⟩
      rw[show Am p+lo.toNat*e.size+j.toNat*e.size=Am (p++[.idx (lo+j) e.size]) by
       rw[Asn,Nat.add_assoc,←Nat.add_mul]
       show _=Am p+(lo+j).toNat*e.size
       rw[Int.toNat_add k1 hj'.1]]
      exact Ahb h3 e1
     ·cases h
   ·rename_i m et ht
    split at h
    ·cases h
    ·rename_i inf hinf
     split at h
     ·rename_i i p hx'
      split at h
      ·rename_i T v hi
       split at h
       ·rename_i e0 l0 hg
        split at h
        ·rename_i m' e l
         obtain⟨hb,h⟩:=Aqh h
         cases h
         simp only[Bool.and_eq_true]at hb
         obtain⟨hj0,hj1,hj2⟩:=Iz hx
         obtain⟨md,b,h1,h2,h3⟩:=Yj (Cr hm.sl hx' rfl)
         obtain⟨b',cells,h4,h5⟩:=hm.box hi
         rw[h4]at h1;cases h1;cases h2
         obtain⟨c1,c2,c3,he,h6,h7,h8⟩:=Asg hg h5
         have hmm:=By hb.2
         subst hmm
         have hl:l.length=m':=h7
         refine⟨rfl,_,fun w'=>Apl ht (Eo hinf hb.1.1) h3 hix (by omega) (by omega) w',?_⟩
         rw[show Am p+j.toNat*e.size=Am (p++[.idx j e.size]) by simp[Am6,Am,Ax2]]
         exact Ahb h4 rfl
        ·cases h
       ·cases h
      ·cases h
     ·cases h
   ·cases h
 ·cases h
end Go.Rx
set_option linter.unusedVariables false
set_option linter.unusedSimpArgs false
namespace Go.Rx
open Go Go.Lv
variable {P:Program} {B B':Reg} {w w':World} {L L':List MD} {s:S} {σs:List Env} {σ:Env} {Z:Fix} {A A':Reg} {n:Nat} {ops:Array Oper}
variable {R:Type} {k:S→Option R} {r:R} {d:Option Nat} {ty:TypeId} {pos:String} {after:Array Edge} {T:Tab} {inl:Inl R}
theorem Cek{o:Oper}(hT:Ayx P T Z)(hI:Aef P T.gl inl)(hr:Rel Z s σs A L σ w)(hd:Jv n o=true)(h:exU P T inl o s k=some r):
  Ach P n ops {o with guard:=none} Z s σs k r (nbk T s o=true) A L σ w:=by
 obtain⟨d,op,ty,pos,after,g⟩:=o
 have hd':Jv n ⟨d,op,ty,pos,after,none⟩=true:=hd
 unfold exU at h
 split at h
 ·rename_i v hv
  obtain⟨h1,val,h2,h3⟩:=Buo (P:=P) (B:=fun b=>A b∧Z.R b) (w:=w) (L:=L) (fun _=>True) hr.mem.sl hv
  exact Dl hr hd' (h2 w trivial) h1 h3 h
 ·split at h
  ·rename_i v hv
   obtain⟨h1,val,h2,h3⟩:=Bvb (P:=P) hr hv
   exact Dl hr hd' (h2 w (.refl hr)) h1 h3 h
  ·cases d with
   |some dn=>exact Ck0 hT hI hr hd' h
   |none=>
    simp only at h
    split at h
    ·rename_i t a x
     refine Akd (Cb0 hr h) ?_
     rintro σ' w' ⟨s',A',L',g1,g2,g3⟩
     exact⟨s',A',L',g1,g2,fun g=>by simp[nbk,brk]at g⟩
    ·rename_i as ts
     split at h
     ·rename_i x y t t2 has hts
      have h1:=Af5 has
      have h2:=Af5 hts
      subst h1 h2
      refine Akd (Bw6 hr hd' h) ?_
      rintro σ' w' ⟨s',A',L',g1,g2,g3⟩
      exact⟨s',A',L',g1,g2,fun g=>by simp[nbk,brk]at g⟩
     ·cases h
    ·cases h
theorem WL.Cl5{rest:List Oper}{K:Env→World→Prop}{o:Oper}{j t:Nat}{want b:Bool}(hg:o.guard=some (j,want))(hj:(ops[j]?).bind (·.dst)=some t)(hb:σ t= .bool b)(hne:(b==want)=false)
  (hdn:Jv n o=true) (h:WL P n ops rest K (Bz6 σ o.dst Go.undef) w):WL P n ops (o::rest) K σ w:=by
 intro ds a ha
 refine wpList_step fun K' hK'=>?_
 have hw:Region.wanted o (yielded ops a.tmps)=false:=by
  simp only[Region.wanted,hg,Amm ha hj hb]
  cases b<;>cases want<;>simp_all
 rw[if_neg (by rw[hw];simp)]
 refine hK' _ _ ?_
 cases hd:o.dst with
 |none=>rw[hd]at h;exact h _ _ (ha.Bje _)
 |some d=>rw[hd]at h;unfold Jv at hdn;rw[hd]at hdn;exact h _ _ (ha.put hdn _)
theorem WL.Clr{rest:List Oper}{K:Env→World→Prop}{o:Oper}{j t:Nat}{want:Bool}(hg:o.guard=some (j,want))(hj:(ops[j]?).bind (·.dst)=some t)(hb:σ t=Go.undef)
  (hdn:Jv n o=true) (h:WL P n ops rest K (Bz6 σ o.dst Go.undef) w):WL P n ops (o::rest) K σ w:=by
 intro ds a ha
 refine wpList_step fun K' hK'=>?_
 have hy:yielded ops a.tmps j=none:=by
  unfold yielded
  rw[hj]
  have h1:=ha.get t
  rw[hb]at h1
  cases h:a.tmps[t]? with
  |none=>simp[h]
  |some v=>
   rw[Array.getD_eq_getD_getElem?,h]at h1
   simp at h1
   subst h1
   simp[h,undef]
 have hw:Region.wanted o (yielded ops a.tmps)=false:=by
  simp only[Region.wanted,hg,hy]
  cases want<;>rfl
 rw[if_neg (by rw[hw];simp)]
 refine hK' _ _ ?_
 cases hd:o.dst with
 |none=>rw[hd]at h;exact h _ _ (ha.Bje _)
 |some d=>rw[hd]at h;unfold Jv at hdn;rw[hd]at hdn;exact h _ _ (ha.put hdn _)
theorem Bs9{o:Oper}{G:Prop}(hr:Rel Z s σs A L σ w)(h:k (s.Gb o.dst .off)=some r):WL P n ops [] (Bll Z σs k r G A L s.it w) (Bz6 σ o.dst Go.undef) w:=by
 refine WL.nil ⟨_,A,L,h,hr.Cf6,fun _=>?_⟩
 have:(s.Gb o.dst .off).it=s.it:=by cases o.dst<;>rfl
 rw[this];exact .refl
theorem Atn{a b:Bool}:eqB a b=(b==a):=by cases a<;>cases b<;>rfl
theorem Bvh{G G':Prop}{σ':Env}{it:List Item}(hp:Bll Z σs k r G A L it w σ' w')(h:G'→G):Bll Z σs k r G' A L it w σ' w':=by
 obtain⟨s',A',L',h1,h2,h3⟩:=hp
 exact⟨s',A',L',h1,h2,fun g=>h3 (h g)⟩
theorem Bgt{t dn:Nat}{want b:Bool}{v:PV}{val:Value}(ht:σ t= .bool b)(hne:Nat.beq dn t=false)(h1:b=want→Dy B w L v val)(h2:b≠want→val=Go.undef):Hj B w L (Uq σ dn val) dn (.gd t want v):=by
 have htd:t≠dn:=by intro e;subst e;simp at hne
 exact⟨b,by rw[Az8 _ _ htd];exact ht,fun e=>by rw[Aml];exact h1 e,fun e=>by rw[Aml];exact h2 e⟩
theorem Byd{o:Oper}{j t dn:Nat}{want b:Bool}{v:PV}{G:Prop}(hr:Rel Z s σs A L σ w)(hg:o.guard=some (j,want))(hj:(ops[j]?).bind (·.dst)=some t)(ht:σ t= .bool b)(hdn:Jv n o=true)(hd:o.dst=some dn)
  (hne:Nat.beq dn t=false) (hv:b=want→v.isV=true∧∃val,XO P σ w o.op val∧Dy (fun b=>A b∧Z.R b) w L v val) (hk:k (s.set dn (.gd t want v))=some r):Ach P n ops o Z s σs k r G A L σ w:=by
 by_cases hbw:b=want
 ·obtain⟨h1,val,h2,h3⟩:=hv hbw
  refine WL.on hg hj ht (by simpa using hbw) (WL.Bt4 rfl (by simpa [Jv]using hdn) (h2 _ _ _ _ _) (WL.nil ⟨_,A,L,hk,?_,fun _=> .refl⟩))
  simp only[hd]
  exact hr.set (Bgt ht hne (fun _=>h3) (fun e=>absurd hbw e))
 ·refine WL.Cl5 hg hj ht (by simpa using hbw) hdn (WL.nil ⟨_,A,L,hk,?_,fun _=> .refl⟩)
  rw[hd]
  exact hr.set (Bgt ht hne (fun e=>absurd e hbw) (fun _=>rfl))
theorem Akn{t:Nat}{b:Bool}(hm:SlotsR B w L σ s.sl)(h:Ack s.sl t= .val .bool b):σ t= .bool b:=by
 have h1:=Tk (t:=t) hm
 rw[h]at h1
 exact Af1 h1
theorem Bcb{t:Nat}{b:Bool}(hm:SlotsR B w L σ s.sl)(h:Ack s.sl t= .cst (.bool b)):σ t= .bool b:=by
 have h1:=Tk (t:=t) hm
 rw[h]at h1
 have: [σ t]=[Value.bool b]:=h1.1
 simpa using this
theorem Ckk{o:Oper}{j t:Nat}{want:Bool}(hT:Ayx P T Z)(hI:Aef P T.gl inl)(hr:Rel Z s σs A L σ w)(hd:Jv n o=true)(hg:o.guard=some (j,want))(hj:(ops[j]?).bind (·.dst)=some t)
  (h:exG P T inl o t want s k=some r):Ach P n ops o Z s σs k r (nbk T s o=true∧∃b,Ack s.sl t= .cst (.bool b)) A L σ w:=by
 have hm:=hr.mem
 have lit:∀(G:Prop) (s1:S) (b:Bool),(G→nbk T s1 o=true)→Rel Z s1 σs A L σ w→s1.it=s.it→σ t= .bool b→(Cg (eqB want b) (exU P T inl o s1 k)<|k (s1.Gb o.dst .off))=some r→Ach P n ops o Z s σs k r G A L σ w:=by
  intro G s1 b hG hr1 hit ht h
  cases hb:eqB want b with
  |true=>
   rw[hb]at h
   refine WL.on hg hj ht (by rw[←Atn];exact hb) (Akd (Cek hT hI hr1 hd h) fun σ' w' hp=>?_)
   rw[←hit]
   exact Bvh hp hG
  |false=>
   rw[hb]at h
   refine WL.Cl5 hg hj ht (by rw[←Atn];exact hb) hd ?_
   rw[←hit]
   exact Bs9 hr1 h
 unfold exG at h
 simp only at h
 split at h
 ·rename_i b hb
  exact lit _ s b (fun g=>g.1) hr rfl (Bcb hm.sl hb) h
 ·rename_i hb
  have h1:=Tk (t:=t) hm.sl
  rw[hb]at h1
  exact WL.Clr hg hj h1 hd (Bs9 hr h)
 ·rename_i b hb
  have ht:=Akn hm.sl hb
  have nog:∀{X:Prop},(∃b,Ack s.sl t= .cst (.bool b))→X:=fun⟨_,g⟩=>by rw[hb]at g;cases g
  split at h
  ·rename_i dn v hdn hv
   cases hne:Nat.beq dn t with
   |true=>rw[hne]at h;cases h
   |false=>
    rw[hne]at h
    refine Byd hr hg hj ht hd hdn hne (fun hbw=>?_) h
    subst hbw
    obtain⟨h1,val,h2,h3⟩:=Buo (P:=P) (fun _=>True) (hr.res ht).mem.sl hv
    exact⟨h1,val,h2 w trivial,h3⟩
  ·rename_i dn v hdn hv0 hv
   cases hne:Nat.beq dn t with
   |true=>rw[hne]at h;cases h
   |false=>
    rw[hne]at h
    refine Byd hr hg hj ht hd hdn hne (fun hbw=>?_) h
    subst hbw
    obtain⟨h1,val,h2,h3⟩:=Bvb (P:=P) (hr.res ht) hv
    exact⟨h1,val,h2 w (.refl (hr.res ht)),h3⟩
  ·cases b with
   |true=>exact lit _ (s.res t true) true (fun g=>nog g.2) (hr.res ht) rfl ht (by simpa using h)
   |false=>exact lit _ (s.res t false) false (fun g=>nog g.2) (hr.res ht) rfl ht (by simpa using h)
 ·cases h
theorem Bw0{o:Oper}(hT:Ayx P T Z)(hI:Aef P T.gl inl)(hr:Rel Z s σs A L σ w)(h:Bjf P T inl n ops o s k=some r):Ach P n ops o Z s σs k r (nbk T s o=true∧gOk ops s o=true) A L σ w:=by
 have hm:=hr.mem
 unfold Bjf at h
 cases hd:Jv n o with
 |false=>rw[hd]at h;cases h
 |true=>
  rw[hd]at h
  simp only[Bool.not_true,cond_false]at h;try dsimp only[Cg]at h
  split at h
  ·rename_i hg
   have:({o with guard:=none}:Oper)=o:=by cases o;simp only at hg;subst hg;rfl
   rw[←this]
   refine Akd (Cek hT hI hr hd h) fun σ' w' hp=>Bvh hp ?_
   rintro⟨g,_⟩;rw[this]at g;exact g
  ·rename_i j want hg
   split at h
   ·cases h
   ·rename_i t hj
    have fin:∀s1:S,(gOk ops s o=true→s1=s)→Rel Z s1 σs A L σ w→s1.it=s.it→exG P T inl o t want s1 k=some r→Ach P n ops o Z s σs k r (nbk T s o=true∧gOk ops s o=true) A L σ w:=by
     intro s1 hs hr1 hit h
     refine Akd (Ckk hT hI hr1 hd hg hj h) fun σ' w' hp=>?_
     rw[←hit]
     refine Bvh hp (fun g=>?_)
     have:=hs g.2
     subst this
     refine⟨g.1,?_⟩
     have h2:=g.2
     unfold gOk at h2
     simp only[hg,hj]at h2
     split at h2
     ·exact⟨_,by assumption⟩
     ·cases h2
    split at h
    ·rename_i t2 w2 v hv
     have nog:∀{X:Prop},gOk ops s o=true→X:=fun g=>by
      unfold gOk at g
      simp only[hg,hj,hv]at g
      cases g
     split at h
     ·rename_i b hb
      have ht:=Akn hm.sl hb
      cases b with
      |true=>exact fin _ nog (hr.res ht) rfl (by simpa using h)
      |false=>exact fin _ nog (hr.res ht) rfl (by simpa using h)
     ·cases h
    ·exact fin s (fun _=>rfl) hr rfl h
theorem Bjp(hT:Ayx P T Z)(hI:Aef P T.gl inl):∀{l:List Oper} {s:S} {A:Reg} {L:List MD} {σ:Env} {w:World},Rel Z s σs A L σ w→Azj P T inl n ops l s k=some r→
  WL P n ops l (fun σ' w'=>∃s' A' L',k s'=some r∧Rel Z s' σs A' L' σ' w') σ w
 |[],s,A,L,σ,w,hr,h=>WL.nil ⟨s,A,L,h,hr⟩
 |o::l,s,A,L,σ,w,hr,h=>by
  have h1:=Bw0 (ops:=ops) hT hI hr h
  refine WL.cut _ [o] h1 ?_
  rintro σ' w' ⟨s',A',L',g1,g2,_⟩
  exact Bjp hT hI g2 g1
end Go.Rx
set_option linter.unusedVariables false
set_option linter.unusedSimpArgs false
namespace Go.Rx
open Go Go.Lv
variable {P:Program} {B B':Reg} {w w':World} {L L':List MD} {s:S} {σs:List Env} {σ:Env} {Z:Fix} {A A':Reg} {n:Nat} {ops:Array Oper}
variable {R:Type} {k:S→Option R} {r:R} {d:Option Nat} {ty:TypeId} {pos:String} {after:Array Edge} {T:Tab} {inl:Inl R} {mem:Bool} {listed:Array Bool}
def Bes(Z:Fix)(σs:List Env)(A:Reg)(L:List MD)(it:List Item)(w w':World):Prop:=∃s2 σ2 A' L',Rel Z s2 σs A' L' σ2 w'∧Grow A L it w A' L' s2.it w'
theorem Bes.refl(hr:Rel Z s σs A L σ w):Bes Z σs A L s.it w w:=⟨s,σ,A,L,hr, .refl⟩
theorem Bes.ext(hr:Rel Z s σs A L σ w)(h:Bes Z σs A L s.it w w'):Ext Z s σs A L σ w w':=by
 obtain⟨s2,σ2,A',L',h1,h2⟩:=h
 exact h2.ext hr h1
theorem Bcs{z:Array Bool}:∀{is:List Nat} {i d:Nat} {v:PV},Zy P T n mem ops z listed s is=some (i,d,v)→∃o,ops[i]? =some o∧Aaq ops (tw z) listed i=true∧Bof P T n mem ops o s=some (d,v)
 |[],_,_,_,h=>by simp[Zy]at h
 |j::is,i,d,v,h=>by
  simp only[Zy]at h
  split at h
  ·cases h
  ·rename_i o ho
   split at h
   ·rename_i d' v' hp
    cases h
    cases ht:Aaq ops (tw z) listed j with
    |true=>rw[ht]at hp;exact⟨o,ho,by first|exact ht|rfl,hp⟩
    |false=>rw[ht]at hp;cases hp
   ·exact Bcs h
def GS(Z:Fix)(σs:List Env)(w':World):Prop:=∃s2 σ2 A2 L2,Rel Z s2 σs A2 L2 σ2 w'
theorem Ext.gs(h:Ext Z s σs A L σ w w'):GS Z σs w':=by
 obtain⟨⟨A',L',it',_,hr⟩,_⟩:=h
 exact⟨_,_,_,_,hr⟩
theorem Byq{g:Nat}{t:TypeId}{v:PV}(hT:Ayx P T Z)(h:T.glv P g t=some v):∃cs,(∀w',GS Z σs w'→∃T1 fr,w'.heap[g]? =some (.cells cs.toArray T1 fr))∧∀(B:Reg) (w:World) (L:List MD),EncC B w L v cs:=by
 unfold Tab.glv at h
 split at h
 ·rename_i cs hg
  split at h
  ·rename_i v' hp
   cases h
   refine⟨cs,fun w' hw=>?_,fun B w L=>?_⟩
   ·obtain⟨s2,σ2,A2,L2,hr⟩:=hw
    obtain⟨_,T1,fr,h2⟩:=hr.Buk (p:=(g,cs)) (by rw[hT.2];exact Bis hg)
    exact⟨T1,fr,h2⟩
   ·obtain⟨c,e1,h3⟩:=Ark (B:=B) (w:=w) (L:=L) Q hp
    rw[List.append_nil]at e1
    subst e1
    exact h3
  ·cases h
 ·cases h
theorem Cg8{o:Op}{v:PV}(hT:Ayx P T Z)(h:Cjp P T o=some v):v.isV=true∧∃val,(∀w',GS Z σs w'→XO P σ w' o val)∧Dy (fun b=>A b∧Z.R b) w L v val:=by
 unfold Cjp at h
 split at h
 ·rename_i t g
  split at h
  ·rename_i u hv
   obtain⟨hb,hk⟩:=Ar h
   cases hk
   obtain⟨cs,h1,h3⟩:=Byq (σs:=σs) hT hv
   obtain⟨val,h7,h8⟩:=Awl (P:=P) (σ:=σ) (x:= .global g) (b:=g) (off:=0) (Qe hb) (h3 (fun b=>A b∧Z.R b) w L) rfl
   obtain⟨hv1,hv2⟩:=Jb h7
   refine⟨hv1,val,fun w' hw=>h8 w' fun j hj=>?_,hv2⟩
   obtain⟨T1,fr,h4⟩:=h1 w' hw
   rw[cell_of h4];simp
  ·cases h
 ·cases h
theorem Bjq{o:Op}{v:PV}{S:World→Prop}(hT:Ayx P T Z)(hr:Rel Z s σs A L σ w)(h:Bf9 P T mem s o=some v)(hS:mem=true→∀w',S w'→Ext Z s σs A L σ w w')(hG:∀w',S w'→GS Z σs w'):v.isV=true∧∃val,(∀w',S w'→XO P σ w' o val)∧Dy (fun b=>A b∧Z.R b) w L v val:=by
 unfold Bf9 at h
 split at h
 ·rename_i u hu
  cases h
  exact Buo (P:=P) S hr.mem.sl hu
 ·split at h
  ·rename_i u hu
   cases h
   cases mem with
   |true=>
    obtain⟨h1,val,h2,h3⟩:=Bvb (P:=P) hr hu
    exact⟨h1,val,fun w' hw=>h2 w' (hS rfl w' hw),h3⟩
   |false=>cases hu
  ·obtain⟨h1,val,h2,h3⟩:=Cg8 (σs:=σs) (σ:=σ) (A:=A) (w:=w) (L:=L) hT h
   exact⟨h1,val,fun w' hw=>h2 w' (hG w' hw),h3⟩
theorem Cgh{t:Nat}{b:Bool}{w':World}(h:Ext Z s σs A L σ w w')(ht:σ t= .bool b):Ext Z (s.res t b) σs A L σ w w':=by
 obtain⟨⟨A',L',it',h1,h2⟩,h3⟩:=h
 exact⟨⟨A',L',it',h1,Rel.res (s:=⟨s.sl,s.it++it',s.st⟩) h2 ht⟩,h3⟩
theorem Bxr{S:World→Prop}{z:Array Bool}{fuel i dn:Nat}{o:Oper}{v:PV}{K:Env→World→Prop}(hT:Ayx P T Z)(hr:Rel Z s σs A L σ w)(hi:ops[i]? =some o)(hB:Aaq ops (tw z) listed i=true)(hp:Bof P T n mem ops o s=some (dn,v))(hSw:S w)
  (hS:mem=true→∀w',S w'→Ext Z s σs A L σ w w') (hG:∀w',S w'→GS Z σs w') (h:∀σ',Rel Z (s.set dn v) σs A L σ' w→WD P n ops S (tw z) fuel (listed.setIfInBounds i true) K σ' w):WD P n ops S (tw z) (fuel+1) listed K σ w:=by
 obtain⟨d,op,ty,pos,after,g⟩:=o
 have hm:=hr.mem
 unfold Bof at hp
 simp only at hp
 split at hp
 ·cases hp
 ·rename_i d'
  cases hn:Nat.blt d' n with
  |false=>rw[hn]at hp;cases hp
  |true=>
   rw[hn]at hp
   simp only[Bool.not_true,cond_false]at hp;try dsimp only[Cg]at hp
   split at hp
   ·
    cases hv:Bf9 P T mem s op with
    |none=>rw[hv]at hp;cases hp
    |some u=>
     rw[hv]at hp;cases hp
     obtain⟨h1,val,h2,h3⟩:=Bjq hT hr hv hS hG
     exact WD.x i hi hB hn hSw h2 (h _ (hr.set (.put h1 h3)))
   ·rename_i j want
    split at hp
    ·cases hp
    ·rename_i t hj
     split at hp
     ·rename_i b hb
      have ht:=Bcb hm.sl hb
      cases hw:eqB want b with
      |true=>
       rw[hw]at hp
       dsimp only[Cg,cond]at hp
       cases hv:Bf9 P T mem s op with
       |none=>rw[hv]at hp;cases hp
       |some u=>
        rw[hv]at hp;cases hp
        obtain⟨h1,val,h2,h3⟩:=Bjq hT hr hv hS hG
        have hbw:(b==want)=true:=by rw[←Atn];exact hw
        refine WD.gx (v:=val) i hi hB hn hj ht hSw (fun _=>h2) (h _ ?_)
        rw[Bkp hbw]
        exact hr.set (.put h1 h3)
      |false=>
       rw[hw]at hp
       cases hp
       have hbw:(b==want)=false:=by rw[←Atn];exact hw
       refine WD.gx (v:=Go.undef) i hi hB hn hj ht hSw (fun hg=>by rw[hbw]at hg;cases hg) (h _ ?_)
       rw[Bu5 hbw]
       exact hr.set (show Uq σ dn Go.undef dn=Go.undef from Aml _ _ _)
     ·rename_i b hb
      have ht:=Akn hm.sl hb
      cases hne:Nat.beq d' t with
      |true=>rw[hne]at hp;cases hp
      |false=>
       rw[hne]at hp
       dsimp only[Cg,cond]at hp
       cases hv:Bf9 P T mem (s.res t want) op with
       |none=>rw[hv]at hp;cases hp
       |some u=>
        rw[hv]at hp;cases hp
        by_cases hbw:b=want
        ·subst hbw
         obtain⟨h1,val,h2,h3⟩:=Bjq hT (hr.res ht) hv (fun hm w' hw=>Cgh (hS hm w' hw) ht) hG
         refine WD.gx (v:=val) i hi hB hn hj ht hSw (fun _=>h2) (h _ ?_)
         rw[Bkp (by simp)]
         exact hr.set (Bgt ht hne (fun _=>h3) (fun e=>absurd rfl e))
        ·refine WD.gx (v:=Go.undef) i hi hB hn hj ht hSw (fun hg=>absurd (by simpa using hg) hbw) (h _ ?_)
         rw[Bu5 (by simpa using hbw)]
         exact hr.set (Bgt ht hne (fun e=>absurd e hbw) (fun _=>rfl))
     ·cases hp
theorem Aw6{z:Array Bool}:∀{is:List Nat} {i d:Nat} {v:BG},Agv P n ops z listed s is=some (i,d,v)→∃o,ops[i]? =some o∧Aaq ops (tw z) listed i=true∧Blt P n ops o s=some (d,v)
 |[],_,_,_,h=>by simp[Agv]at h
 |j::is,i,d,v,h=>by
  simp only[Agv]at h
  split at h
  ·cases h
  ·rename_i o ho
   split at h
   ·rename_i d' v' hp
    cases h
    cases ht:Aaq ops (tw z) listed j with
    |true=>rw[ht]at hp;exact⟨o,ho,by first|exact ht|rfl,hp⟩
    |false=>rw[ht]at hp;cases hp
   ·exact Aw6 h
theorem Cep{S:World→Prop}{z:Array Bool}{fuel i dn:Nat}{o:Oper}{b:BV}{x:b.X}{K:Env→World→Prop}(hr:Rel Z s σs A L σ w)(hi:ops[i]? =some o)(hB:Aaq ops (tw z) listed i=true)(hp:Blt P n ops o s=some (dn, .on b))(hx:b.E=some x)(hSw:S w)
  (h:∀σ',Rel Z (s.set dn (b.v x)) σs A L σ' w→WD P n ops S (tw z) fuel (listed.setIfInBounds i true) K σ' w):WD P n ops S (tw z) (fuel+1) listed K σ w:=by
 obtain⟨d,op,ty,pos,after,g⟩:=o
 have hm:=hr.mem
 unfold Blt at hp
 simp only at hp
 split at hp
 ·cases hp
 ·rename_i d'
  cases hn:Nat.blt d' n with
  |false=>rw[hn]at hp;cases hp
  |true=>
   rw[hn]at hp
   simp only[Bool.not_true,cond_false]at hp;try dsimp only[Cg]at hp
   split at hp
   ·cases hv:bnd P s op with
    |none=>rw[hv]at hp;cases hp
    |some u=>
     rw[hv]at hp;cases hp
     obtain⟨h1,val,h2,h3⟩:=Buv hr hv hx
     exact WD.x i hi hB hn hSw (fun w' _=>h2 w') (h _ (hr.set (.put h1 h3)))
   ·rename_i j want
    split at hp
    ·cases hp
    ·rename_i t hj
     split at hp
     ·rename_i c hb
      have ht:=Bcb hm.sl hb
      cases hw:eqB want c with
      |true=>
       rw[hw]at hp
       dsimp only[Cg,cond]at hp
       cases hv:bnd P s op with
       |none=>rw[hv]at hp;cases hp
       |some u=>
        rw[hv]at hp;cases hp
        obtain⟨h1,val,h2,h3⟩:=Buv hr hv hx
        have hbw:(c==want)=true:=by rw[←Atn];exact hw
        refine WD.gx (v:=val) i hi hB hn hj ht hSw (fun _ w' _=>h2 w') (h _ ?_)
        rw[Bkp hbw]
        exact hr.set (.put h1 h3)
      |false=>rw[hw]at hp;cases hp
     ·rename_i c hb
      cases hne:Nat.beq d' t with
      |true=>rw[hne]at hp;cases hp
      |false=>
       rw[hne]at hp
       dsimp only[Cg,cond]at hp
       cases hv:bnd P (s.res t want) op with
       |none=>rw[hv]at hp;cases hp
       |some u=>rw[hv]at hp;cases hp
     ·cases hp
theorem Bxx{S:World→Prop}{z:Array Bool}{fuel i dn t:Nat}{want bv:Bool}{o:Oper}{b:BV}{K:Env→World→Prop}{X:Go.Rx.S→Option R}(hr:Rel Z s σs A L σ w)(hi:ops[i]? =some o)(hB:Aaq ops (tw z) listed i=true)(hp:Blt P n ops o s=some (dn, .ask t want bv b))(hSw:S w)
  (hx:(Cg (eqB want bv) (Option.bind b.E fun x=>X ((s.res t bv).set dn (b.v x)))<|X ((s.res t bv).set dn .off))=some r)
  (h:∀s',s'.it=s.it→∀σ',Rel Z s' σs A L σ' w→X s'=some r→WD P n ops S (tw z) fuel (listed.setIfInBounds i true) K σ' w):WD P n ops S (tw z) (fuel+1) listed K σ w:=by
 obtain⟨d,op,ty,pos,after,g⟩:=o
 have hm:=hr.mem
 unfold Blt at hp
 simp only at hp
 split at hp
 ·cases hp
 ·rename_i d'
  cases hn:Nat.blt d' n with
  |false=>rw[hn]at hp;cases hp
  |true=>
   rw[hn]at hp
   simp only[Bool.not_true,cond_false]at hp;try dsimp only[Cg]at hp
   split at hp
   ·cases hv:bnd P s op with
    |none=>rw[hv]at hp;cases hp
    |some u=>rw[hv]at hp;cases hp
   ·rename_i j want'
    split at hp
    ·cases hp
    ·rename_i t' hj
     split at hp
     ·rename_i c hb
      cases hw:eqB want' c with
      |true=>
       rw[hw]at hp
       dsimp only[Cg,cond]at hp
       cases hv:bnd P s op with
       |none=>rw[hv]at hp;cases hp
       |some u=>rw[hv]at hp;cases hp
      |false=>rw[hw]at hp;cases hp
     ·rename_i c hb
      have ht:=Akn hm.sl hb
      cases hne:Nat.beq d' t' with
      |true=>rw[hne]at hp;cases hp
      |false=>
       rw[hne]at hp
       dsimp only[Cg,cond]at hp
       cases hv:bnd P (s.res t' want') op with
       |none=>rw[hv]at hp;cases hp
       |some u=>
        rw[hv]at hp;cases hp
        cases hw:eqB want bv with
        |true=>
         rw[hw]at hx
         dsimp only[Cg,cond]at hx
         obtain⟨x,hx,hk⟩:=bind_some hx
         have hbw:bv=want:=by cases want<;>cases bv<;>simp_all [eqB]
         subst hbw
         obtain⟨h1,val,h2,h3⟩:=Buv (hr.res ht) hv hx
         refine WD.gx (v:=val) i hi hB hn hj ht hSw (fun _ w' _=>h2 w') (h ((s.res t bv).set dn (b.v x)) rfl _ ?_ hk)
         rw[Bkp (by simp)]
         exact(hr.res ht).set (.put h1 h3)
        |false=>
         rw[hw]at hx
         dsimp only[Cg,cond]at hx
         have hbw:(bv==want)=false:=by rw[←Atn];exact hw
         refine WD.gx (v:=Go.undef) i hi hB hn hj ht hSw (fun hg=>by rw[hbw]at hg;cases hg) (h ((s.res t bv).set dn .off) rfl _ ?_ hx)
         rw[Bu5 hbw]
         exact(hr.res ht).set (show Uq σ dn Go.undef dn=Go.undef from Aml _ _ _)
     ·cases hp
theorem Bhh{z:Array Bool}:∀{is:List Nat} {i:Nat} {v:Nat×TypeId×Nat×List Step},An0 n ops z listed s is=some (i,v)→∃o,ops[i]? =some o∧Aaq ops (tw z) listed i=true∧Ciu n ops o s=some v
 |[],_,_,h=>by simp[An0]at h
 |j::is,i,v,h=>by
  simp only[An0]at h
  split at h
  ·cases h
  ·rename_i o ho
   split at h
   ·rename_i v' hp
    cases h
    cases ht:Aaq ops (tw z) listed j with
    |true=>rw[ht]at hp;exact⟨o,ho,by first|exact ht|rfl,hp⟩
    |false=>rw[ht]at hp;cases hp
   ·exact Bhh h
theorem Ci0{d dn:Nat}{o:Op}{t:TypeId}{j:Nat}{p:List Step}{u:PV}{kk:PV→Option R}(hr:Rel Z s σs A L σ w)(hp:Ch0 s d o=some (dn,t,j,p))(h:getRoot (Bw s.it j) p kk=some r):
  d=dn∧∃u,kk u=some r∧(Nn P t u=true→u.isV=true∧∃val,(∀w',Ext Z s σs A L σ w w'→XO P σ w' o val)∧Dy (fun b=>A b∧Z.R b) w L u val):=by
 have hm:=hr.mem
 unfold Ch0 at hp
 split at hp
 ·rename_i t' x
  split at hp
  ·rename_i i p' hx
   split at hp
   ·cases hp
   ·rename_i hne
    cases hp
    obtain⟨md,b,h1,h2,h3⟩:=Yj (Cr hm.sl hx rfl)
    obtain⟨h4,_⟩:=hm.root h1 (fun e=>hne e)
    obtain⟨u,c1,c2,c3,hk,he,h5,h6⟩:=Biw h h4
    refine⟨rfl,u,hk,fun hb=>?_⟩
    obtain⟨val,h7,h8⟩:=Awl (P:=P) (σ:=σ) (x:=x) (b:=b) (off:=Am p) (Qe hb) h6 h3
    obtain⟨hv,hv'⟩:=Jb h7
    refine⟨hv,val,fun w' hext=>h8 w' fun q hq=>?_,hv'⟩
    obtain⟨A',L',it',ha,hr'⟩:=hext.ex
    have h10:(L++L')[j]? =some md:=by rw[List.getElem?_append_left (List.getElem?_eq_some_iff.1 h1).1];exact h1
    rw[hr'.cells h10 h2 _ (by rw[he];simp;omega),he,List.getElem?_append_right (by omega),h5,show Am p+q-Am p=q by omega,List.getElem?_append_left hq]
  ·cases hp
 ·cases hp
theorem Cmd{S:World→Prop}{z:Array Bool}{fuel i dn j:Nat}{t:TypeId}{p:List Step}{o:Oper}{kk:PV→Option R}{K:Env→World→Prop}(hr:Rel Z s σs A L σ w)(hi:ops[i]? =some o)(hB:Aaq ops (tw z) listed i=true)(hp:Ciu n ops o s=some (dn,t,j,p))(hg:getRoot (Bw s.it j) p kk=some r)(hSw:S w)
  (hS:∀w',S w'→Ext Z s σs A L σ w w') (hkk:∀u,kk u=some r→Nn P t u=true)
  (h:∀u σ',kk u=some r→Rel Z (s.set dn u) σs A L σ' w→WD P n ops S (tw z) fuel (listed.setIfInBounds i true) K σ' w):WD P n ops S (tw z) (fuel+1) listed K σ w:=by
 obtain⟨d,op,ty,pos,after,g⟩:=o
 have hm:=hr.mem
 unfold Ciu at hp
 simp only at hp
 split at hp
 ·cases hp
 ·rename_i d'
  cases hn:Nat.blt d' n with
  |false=>rw[hn]at hp;cases hp
  |true=>
   rw[hn]at hp
   simp only[Bool.not_true,cond_false]at hp;try dsimp only[Cg]at hp
   split at hp
   ·obtain⟨rfl,u,hk,hu⟩:=Ci0 (P:=P) (u:= .undef) hr hp hg
    obtain⟨h1,val,h2,h3⟩:=hu (hkk u hk)
    exact WD.x i hi hB hn hSw (fun w' hw=>h2 w' (hS w' hw)) (h u _ hk (hr.set (.put h1 h3)))
   ·rename_i q want
    split at hp
    ·cases hp
    ·rename_i t' hj
     split at hp
     ·rename_i c hb
      have ht:=Bcb hm.sl hb
      cases hw:eqB want c with
      |true=>
       rw[hw]at hp
       dsimp only[Cg,cond]at hp
       obtain⟨rfl,u,hk,hu⟩:=Ci0 (P:=P) (u:= .undef) hr hp hg
       obtain⟨h1,val,h2,h3⟩:=hu (hkk u hk)
       have hbw:(c==want)=true:=by rw[←Atn];exact hw
       refine WD.gx (v:=val) i hi hB hn hj ht hSw (fun _ w' hw=>h2 w' (hS w' hw)) (h u _ hk ?_)
       rw[Bkp hbw]
       exact hr.set (.put h1 h3)
      |false=>rw[hw]at hp;cases hp
     ·cases hp
theorem Bzg{i t:Nat}{b:Bool}(hr:Rel Z s σs A L σ w)(h:Bvj ops s i=some (t,b)):σ t= .bool b:=by
 unfold Bvj at h
 split at h
 ·cases h
 ·split at h
  ·cases h
  ·split at h
   ·cases h
   ·split at h
    ·rename_i hb
     cases h
     exact Akn hr.mem.sl hb
    ·split at h
     ·rename_i hb
      cases h
      exact Akn hr.mem.sl hb
     ·cases h
    ·cases h
theorem Ayp{fin:S→Option R}:∀{l:List Nat} {s:Go.Rx.S},Rel Z s σs A L σ w→Asw ops l s fin=some r→∃s',Rel Z s' σs A L σ w∧s'.it=s.it∧fin s'=some r
 |[],s,hr,h=>⟨s,hr,rfl,h⟩
 |i::l,s,hr,h=>by
  rw[Asw]at h
  split at h
  ·rename_i t b hg
   have ht:=Bzg hr hg
   cases b with
   |true=>
    obtain⟨s',h1,h2,h3⟩:=Ayp (l:=l) (hr.res ht) (by simpa using h)
    exact⟨s',h1,h2,h3⟩
   |false=>
    obtain⟨s',h1,h2,h3⟩:=Ayp (l:=l) (hr.res ht) (by simpa using h)
    exact⟨s',h1,h2,h3⟩
  ·exact Ayp (l:=l) hr h
theorem Ckx(hT:Ayx P T Z)(hI:Aef P T.gl inl):∀{fuel:Nat} {z0:Array Bool} {listed:Array Bool} {s:S} {A:Reg} {L:List MD} {σ:Env} {w:World} {S:World→Prop},Rel Z s σs A L σ w→exD P T inl n mem ops fuel z0 listed s k=some r→
  (mem=true→Amu (tw z0) listed=true∨∀w',Bes Z σs A L s.it w w'→S w')→(mem=false→∀w',GS Z σs w'→S w')→
  WD P n ops S (tw z0) fuel listed (fun σ' w'=>∃s' A' L',k s'=some r∧Rel Z s' σs A' L' σ' w') σ w:=by
 intro fuel
 induction fuel with
 |zero=>
  intro z0 listed s A L σ w S hr h hI1 hI2
  unfold exD at h
  split at h
  ·rename_i hrd;exact WD.done hrd ⟨s,A,L,h,hr⟩
  ·cases h
 |succ fuel ih=>
  intro z0 listed s A L σ w S hr h hI1 hI2
  unfold exD at h
  split at h
  ·rename_i hrd;exact WD.done hrd ⟨s,A,L,h,hr⟩
  ·rename_i i is hrd
   simp only at h
   have rest:∀(z:Array Bool) (S:World→Prop) (s:Go.Rx.S),Rel Z s σs A L σ w→(mem=true→∀w',Bes Z σs A L s.it w w'→S w')→(mem=false→∀w',GS Z σs w'→S w')→
     both (match ops[i]? with
        |some o=>Cg (mem&& !((nbk T s o&&gOk ops s o)||(!tw z i&&Amu (tw z) (listed.setIfInBounds i true)))) (none)<|
         Bjf P T inl n ops o s fun s'=>exD P T inl n mem ops fuel z (listed.setIfInBounds i true) s' k
        |none=>none) (is.map fun i=>match ops[i]? with
        |some o=>Cg (mem&& !((nbk T s o&&gOk ops s o)||(!tw z i&&Amu (tw z) (listed.setIfInBounds i true)))) (none)<|
         Bjf P T inl n ops o s fun s'=>exD P T inl n mem ops fuel z (listed.setIfInBounds i true) s' k
        |none=>none)=some r→WD P n ops S (tw z) (fuel+1) listed (fun σ' w'=>∃s' A' L',k s'=some r∧Rel Z s' σs A' L' σ' w') σ w:=by
    intro z S s hr hS1 hS2 h
    obtain⟨h1,h2⟩:=Bnx h
    refine WD.steps hrd rfl ?_
    intro q hq
    have hone:(match ops[q]? with
       |some o=>Cg (mem&& !((nbk T s o&&gOk ops s o)||(!tw z q&&Amu (tw z) (listed.setIfInBounds q true)))) (none)<|
        Bjf P T inl n ops o s fun s'=>exD P T inl n mem ops fuel z (listed.setIfInBounds q true) s' k
       |none=>none)=some r:=by
     rcases List.mem_cons.1 hq with rfl|hq
     ·exact h1
     ·exact h2 _ (List.mem_map_of_mem hq)
    split at hone
    ·rename_i o ho
     refine⟨o,ho,?_⟩
     cases hc:(mem&& !((nbk T s o&&gOk ops s o)||(!tw z q&&Amu (tw z) (listed.setIfInBounds q true))))with
     |true=>rw[hc]at hone;cases hone
     |false=>
      rw[hc]at hone
      dsimp only[Cg,cond]at hone
      refine Akd (Bw0 hT hI hr hone) ?_
      rintro σ' w' ⟨s',A',L',g1,g2,g3⟩
      cases hmem:mem with
      |true=>
       subst hmem
       simp only[Bool.true_and,Bool.not_eq_false',Bool.or_eq_true,Bool.and_eq_true,Bool.not_eq_true']at hc
       rcases hc with hc|⟨hc1,hc2⟩
       ·have g4:=g3 hc
        refine⟨fun _=>hS1 rfl _ ⟨s',σ',A',L',g2,g4⟩,ih g2 g1 (fun _=> .inr fun w'' hw=>?_) (fun e=>by cases e)⟩
        obtain⟨s2,σ2,A2,L2,h5,h6⟩:=hw
        exact hS1 rfl _ ⟨s2,σ2,A2,L2,h5,g4.trans h6⟩
       ·refine⟨fun hlt=>?_,ih g2 g1 (fun _=> .inl hc2) (fun e=>by cases e)⟩
        rw[hlt]at hc1;cases hc1
      |false=>
       subst hmem
       exact⟨fun _=>hS2 rfl _ ⟨_,_,_,_,g2⟩,ih g2 g1 (fun e=>by cases e) hS2⟩
    ·cases hone
   have main:∀(z:Array Bool) (S:World→Prop) (s:Go.Rx.S) (F:Option R),Rel Z s σs A L σ w→(mem=true→∀w',Bes Z σs A L s.it w w'→S w')→(mem=false→∀w',GS Z σs w'→S w')→(F=some r→WD P n ops S (tw z) (fuel+1) listed (fun σ' w'=>∃s' A' L',k s'=some r∧Rel Z s' σs A' L' σ' w') σ w)→
     (match Zy P T n mem ops z listed s (i::is)with
      |some (i,d,v)=>exD P T inl n mem ops fuel z (listed.setIfInBounds i true) (s.set d v) k
      |none=>match Agv P n ops z listed s (i::is)with
       |some (i,d, .on b)=>Option.bind b.E fun x=>exD P T inl n mem ops fuel z (listed.setIfInBounds i true) (s.set d (b.v x)) k
       |some (i,d, .ask t want bv b)=>if bv=true then
         (Cg (eqB want true) (Option.bind b.E fun x=>exD P T inl n mem ops fuel z (listed.setIfInBounds i true) ((s.res t true).set d (b.v x)) k)<|exD P T inl n mem ops fuel z (listed.setIfInBounds i true) ((s.res t true).set d .off) k)
         else(Cg (eqB want false) (Option.bind b.E fun x=>exD P T inl n mem ops fuel z (listed.setIfInBounds i true) ((s.res t false).set d (b.v x)) k)<|exD P T inl n mem ops fuel z (listed.setIfInBounds i true) ((s.res t false).set d .off) k)
       |none=>match(Cg (mem) (An0 n ops z listed s (i::is))<|none)with
       |some (i,d,t,j,p)=>getRoot (Bw s.it j) p fun u=>Cg (Nn P t u) (exD P T inl n mem ops fuel z (listed.setIfInBounds i true) (s.set d u) k)<|none
       |none=>F)=some r→WD P n ops S (tw z) (fuel+1) listed (fun σ' w'=>∃s' A' L',k s'=some r∧Rel Z s' σs A' L' σ' w') σ w:=by
    intro z S s F hr hS1 hS2 hfin h
    split at h
    ·rename_i i' d v hp
     obtain⟨o,ho,hB,hp⟩:=Bcs hp
     cases hmem:mem with
     |true=>
      subst hmem
      refine WD.Bjy (S':=Bes Z σs A L s.it w) (hS1 rfl) (Bxr hT hr ho hB hp (.refl hr) (fun _ w' hw=>hw.ext hr) (fun w' hw=>(hw.ext hr).gs) fun σ' hr'=>?_)
      exact ih hr' h (fun _=> .inr fun w' hw=>hw) (fun e=>by cases e)
     |false=>
      subst hmem
      refine WD.Bjy (S':=GS Z σs) (hS2 rfl) (Bxr hT hr ho hB hp ⟨_,_,_,_,hr⟩ (fun e=>by cases e) (fun w' hw=>hw) fun σ' hr'=>?_)
      exact ih hr' h (fun e=>by cases e) (fun _ w' hw=>hw)
    ·split at h
     ·rename_i i' d b hp
      obtain⟨o,ho,hB,hp⟩:=Aw6 hp
      obtain⟨x,hx,h⟩:=bind_some h
      cases hmem:mem with
      |true=>
       subst hmem
       refine WD.Bjy (S':=Bes Z σs A L s.it w) (hS1 rfl) (Cep hr ho hB hp hx (.refl hr) fun σ' hr'=>?_)
       exact ih hr' h (fun _=> .inr fun w' hw=>hw) (fun e=>by cases e)
      |false=>
       subst hmem
       refine Cep hr ho hB hp hx (hS2 rfl _ ⟨_,_,_,_,hr⟩) fun σ' hr'=>?_
       exact ih hr' h (fun e=>by cases e) hS2
     ·rename_i i' d t want bv b hp
      obtain⟨o,ho,hB,hp⟩:=Aw6 hp
      have h:(Cg (eqB want bv) (Option.bind b.E fun x=>exD P T inl n mem ops fuel z (listed.setIfInBounds i' true) ((s.res t bv).set d (b.v x)) k)<|exD P T inl n mem ops fuel z (listed.setIfInBounds i' true) ((s.res t bv).set d .off) k)=some r:=by
       cases bv with
       |true=>simpa using h
       |false=>simpa using h
      cases hmem:mem with
      |true=>
       subst hmem
       refine WD.Bjy (S':=Bes Z σs A L s.it w) (hS1 rfl) (Bxx (X:=fun s'=>exD P T inl n true ops fuel z (listed.setIfInBounds i' true) s' k) hr ho hB hp (.refl hr) h fun s' hs' σ' hr' h=>?_)
       exact ih hr' h (fun _=> .inr fun w' hw=>hs'▸hw) (fun e=>by cases e)
      |false=>
       subst hmem
       refine Bxx (X:=fun s'=>exD P T inl n false ops fuel z (listed.setIfInBounds i' true) s' k) hr ho hB hp (hS2 rfl _ ⟨_,_,_,_,hr⟩) h fun s' hs' σ' hr' h=>?_
       exact ih hr' h (fun e=>by cases e) hS2
     ·split at h
      ·rename_i i' d t j p hp
       cases hmem:mem with
       |false=>rw[hmem]at hp;cases hp
       |true=>
        subst hmem
        dsimp only[Cg,cond]at hp
        obtain⟨o,ho,hB,hp⟩:=Bhh hp
        refine WD.Bjy (S':=Bes Z σs A L s.it w) (hS1 rfl) (Cmd (P:=P) hr ho hB hp h (.refl hr) (fun w' hw=>hw.ext hr) (fun u hu=>(Ar hu).1) fun u σ' hu hr'=>?_)
        exact ih hr' (Ar hu).2 (fun _=> .inr fun w' hw=>hw) (fun e=>by cases e)
      exact hfin h
   have all:∀(z:Array Bool) (S:World→Prop),(mem=true→∀w',Bes Z σs A L s.it w w'→S w')→(mem=false→∀w',GS Z σs w'→S w')→
     (match Zy P T n mem ops z listed s (i::is)with
      |some (i,d,v)=>exD P T inl n mem ops fuel z (listed.setIfInBounds i true) (s.set d v) k
      |none=>match Agv P n ops z listed s (i::is)with
       |some (i,d, .on b)=>Option.bind b.E fun x=>exD P T inl n mem ops fuel z (listed.setIfInBounds i true) (s.set d (b.v x)) k
       |some (i,d, .ask t want bv b)=>if bv=true then
         (Cg (eqB want true) (Option.bind b.E fun x=>exD P T inl n mem ops fuel z (listed.setIfInBounds i true) ((s.res t true).set d (b.v x)) k)<|exD P T inl n mem ops fuel z (listed.setIfInBounds i true) ((s.res t true).set d .off) k)
         else(Cg (eqB want false) (Option.bind b.E fun x=>exD P T inl n mem ops fuel z (listed.setIfInBounds i true) ((s.res t false).set d (b.v x)) k)<|exD P T inl n mem ops fuel z (listed.setIfInBounds i true) ((s.res t false).set d .off) k)
       |none=>match(Cg (mem) (An0 n ops z listed s (i::is))<|none)with
       |some (i,d,t,j,p)=>getRoot (Bw s.it j) p fun u=>Cg (Nn P t u) (exD P T inl n mem ops fuel z (listed.setIfInBounds i true) (s.set d u) k)<|none
       |none=>(fun s=>Cg mem (Asw ops ((i::is)++(i::is)) s fun s=>(match Zy P T n mem ops z listed s (i::is)with
      |some (i,d,v)=>exD P T inl n mem ops fuel z (listed.setIfInBounds i true) (s.set d v) k
      |none=>match Agv P n ops z listed s (i::is)with
       |some (i,d, .on b)=>Option.bind b.E fun x=>exD P T inl n mem ops fuel z (listed.setIfInBounds i true) (s.set d (b.v x)) k
       |some (i,d, .ask t want bv b)=>if bv=true then
         (Cg (eqB want true) (Option.bind b.E fun x=>exD P T inl n mem ops fuel z (listed.setIfInBounds i true) ((s.res t true).set d (b.v x)) k)<|exD P T inl n mem ops fuel z (listed.setIfInBounds i true) ((s.res t true).set d .off) k)
         else(Cg (eqB want false) (Option.bind b.E fun x=>exD P T inl n mem ops fuel z (listed.setIfInBounds i true) ((s.res t false).set d (b.v x)) k)<|exD P T inl n mem ops fuel z (listed.setIfInBounds i true) ((s.res t false).set d .off) k)
       |none=>match(Cg (mem) (An0 n ops z listed s (i::is))<|none)with
       |some (i,d,t,j,p)=>getRoot (Bw s.it j) p fun u=>Cg (Nn P t u) (exD P T inl n mem ops fuel z (listed.setIfInBounds i true) (s.set d u) k)<|none
       |none=>both (match ops[i]? with
        |some o=>Cg (mem&& !((nbk T s o&&gOk ops s o)||(!tw z i&&Amu (tw z) (listed.setIfInBounds i true)))) (none)<|
         Bjf P T inl n ops o s fun s'=>exD P T inl n mem ops fuel z (listed.setIfInBounds i true) s' k
        |none=>none) (is.map fun i=>match ops[i]? with
        |some o=>Cg (mem&& !((nbk T s o&&gOk ops s o)||(!tw z i&&Amu (tw z) (listed.setIfInBounds i true)))) (none)<|
         Bjf P T inl n ops o s fun s'=>exD P T inl n mem ops fuel z (listed.setIfInBounds i true) s' k
        |none=>none)))<|both (match ops[i]? with
        |some o=>Cg (mem&& !((nbk T s o&&gOk ops s o)||(!tw z i&&Amu (tw z) (listed.setIfInBounds i true)))) (none)<|
         Bjf P T inl n ops o s fun s'=>exD P T inl n mem ops fuel z (listed.setIfInBounds i true) s' k
        |none=>none) (is.map fun i=>match ops[i]? with
        |some o=>Cg (mem&& !((nbk T s o&&gOk ops s o)||(!tw z i&&Amu (tw z) (listed.setIfInBounds i true)))) (none)<|
         Bjf P T inl n ops o s fun s'=>exD P T inl n mem ops fuel z (listed.setIfInBounds i true) s' k
        |none=>none)) s)=some r→WD P n ops S (tw z) (fuel+1) listed (fun σ' w'=>∃s' A' L',k s'=some r∧Rel Z s' σs A' L' σ' w') σ w:=by
    intro z S hS1 hS2 h
    refine main z S s _ hr hS1 hS2 (fun hF=>?_) h
    clear h
    cases hmem:mem with
    |false=>
     simp only[hmem,Cg]at hF
     subst hmem
     exact rest z S s hr hS1 hS2 hF
    |true=>
     simp only[hmem,Cg]at hF
     subst hmem
     obtain⟨s',hr',hit,h'⟩:=Ayp hr hF
     refine main z S s' _ hr' (by rw[hit];exact hS1) hS2 (fun hG=>?_) h'
     exact rest z S s' hr' (by rw[hit];exact hS1) hS2 hG
   cases hz:(mem&&Amu (tw z0) listed)with
   |true=>
    rw[hz]at h
    simp only[Bool.and_eq_true]at hz
    obtain⟨hm,hov⟩:=hz
    subst hm
    exact WD.next (S':=Bes Z σs A L s.it w) _ hov (all _ _ (fun _ w' hw=>hw) (fun e=>by cases e) h)
   |false=>
    rw[hz]at h
    refine all _ _ (fun hm=>?_) hI2 h
    subst hm
    rcases hI1 rfl with h1|h1
    ·rw[h1]at hz;cases hz
    ·exact h1
end Go.Rx
set_option linter.unusedVariables false
set_option linter.unusedSimpArgs false
namespace Go.Rx
open Go Go.Lv
variable {P:Program} {B B':Reg} {w w':World} {L L':List MD} {s:S} {σs:List Env} {σ:Env} {Z:Fix} {A A':Reg} {n:Nat} {ops:Array Oper}
variable {R:Type} {k:S→Option R} {r:R}
def Ci5(w:World)(A:Reg)(L:List Mob)(os:Nat→Option Nat):Prop:=
 (∀(i:Nat) (m:Mob),L[i]? =some m→m.holds (os i) w∧∀b,os i=some b→¬A b∧b<w.heap.size)∧∀i j b,i<L.length→j<L.length→i≠j→os i=some b→os j≠some b
theorem Mobs.toI:∀{L:List Mob} {A:Reg},Mobs w A L→∃os,Ci5 w A L os
 |[],A,_=>⟨fun _=>none,fun i m h=>by simp at h,fun i j b h=>by simp at h⟩
 |m::L,A,⟨o,h1,h2,h3⟩=>by
  obtain⟨os,g1,g2⟩:=Mobs.toI h3
  refine⟨fun i=>match i with|0=>o|i+1=>os i,fun i m' h=>?_,fun i j b hi hj hij h=>?_⟩
  ·cases i with
   |zero=>simp at h;subst h;exact⟨h1,h2⟩
   |succ i=>
    obtain⟨g3,g4⟩:=g1 i m' (by simpa using h)
    exact⟨g3,fun b hb=>⟨fun hA=>(g4 b hb).1 (.inl hA),(g4 b hb).2⟩⟩
  ·have key:∀q,q<L.length→∀b,os q=some b→o≠some b:=fun q hq b hb ho=>by
    exact((g1 q L[q] (by simp[hq])).2 b hb).1 (.inr ho)
   cases i with
   |zero=>
    cases j with
    |zero=>exact absurd rfl hij
    |succ j=>intro hb;exact key j (by simpa using hj) b hb h
   |succ i=>
    cases j with
    |zero=>exact key i (by simpa using hi) b h
    |succ j=>exact g2 i j b (by simpa using hi) (by simpa using hj) (by omega) h
theorem Mobs.ofI:∀{L:List Mob} {A:Reg} {os:Nat→Option Nat},Ci5 w A L os→Mobs w A L
 |[],_,_,_=>trivial
 |m::L,A,os,⟨g1,g2⟩=>by
  obtain⟨h1,h2⟩:=g1 0 m rfl
  refine⟨os 0,h1,h2,Mobs.ofI (os:=fun i=>os (i+1)) ⟨fun i m' h=>?_,fun i j b hi hj hij h=>?_⟩⟩
  ·obtain⟨g3,g4⟩:=g1 (i+1) m' (by simpa using h)
   refine⟨g3,fun b hb=>⟨fun hA=>?_,(g4 b hb).2⟩⟩
   rcases hA with hA|hA
   ·exact(g4 b hb).1 hA
   ·have hlt:i<L.length:=(List.getElem?_eq_some_iff.1 h).1
    exact g2 0 (i+1) b (by simp) (by simpa using hlt) (by omega) hA hb
  ·exact g2 (i+1) (j+1) b (by simpa using hi) (by simpa using hj) (by omega) h
def distinct:List Nat→Bool|[]=>true|i::r=>!Yd i r&&distinct r
theorem Bcq:∀{l:List Nat} {i j q:Nat},distinct l=true→l[i]? =some q→l[j]? =some q→i=j
 |[],_,_,_,_,h,_=>by simp at h
 |a::l,i,j,q,hd,hi,hj=>by
  simp only[distinct,Bool.and_eq_true,Bool.not_eq_true']at hd
  have hn:a∉l:=fun h=>by have:=Aad.2 h;rw[hd.1]at this;cases this
  cases i with
  |zero=>
   cases j with
   |zero=>rfl
   |succ j=>simp at hi hj;subst hi;exact absurd (List.mem_of_getElem? hj) hn
  |succ i=>
   cases j with
   |zero=>simp at hi hj;subst hj;exact absurd (List.mem_of_getElem? hi) hn
   |succ j=>exact congrArg (· +1) (Bcq (q:=q) hd.2 (by simpa using hi) (by simpa using hj))
theorem Bkr{w:World}:MD.dead.Hs.holds none w:=⟨none,0,0,rfl,by simp,Nat.le_refl _,fun _=>rfl,fun _=>rfl,fun b h=>by cases h⟩
theorem getD_some{i:Nat}{md:MD}(h:L[i]? =some md):L.getD i .dead=md:=by simp[List.getD_eq_getElem?_getD,h]
theorem getD_none{i:Nat}(h:L[i]? =none):L.getD i .dead= .dead:=by simp[List.getD_eq_getElem?_getD,h]
def Brn(o:List Nat)(L:List MD)(os:Nat→Option Nat)(j:Nat):Option Nat:=match o[j]? with|some i=>(match L[i]? with|some _=>os i|none=>none)|none=>none
theorem Bat{o:List Nat}{os:Nat→Option Nat}{i j:Nat}{md:MD}(h:o[j]? =some i)(hL:L[i]? =some md):Brn o L os j=os i:=by unfold Brn;rw[h];simp only[hL]
theorem Ba2{o:List Nat}{os:Nat→Option Nat}{i j:Nat}(h:o[j]? =some i)(hL:L[i]? =none):Brn o L os j=none:=by unfold Brn;rw[h];simp only[hL]
theorem Blv{o:List Nat}(h:Mobs w A (L.map MD.Hs))(hd:distinct o=true):Mobs w A ((o.map fun i=>L.getD i .dead).map MD.Hs):=by
 obtain⟨os,g1,g2⟩:=Mobs.toI h
 refine Mobs.ofI (os:=Brn o L os) ⟨fun j m hm=>?_,fun i j b hi hj hij hb=>?_⟩
 ·simp only[List.map_map,List.getElem?_map,Option.map_eq_some_iff,Function.comp]at hm
  obtain⟨i,hi,rfl⟩:=hm
  cases hL:L[i]? with
  |none=>rw[getD_none hL,Ba2 hi hL];exact⟨Bkr,fun b hb=>by cases hb⟩
  |some md=>rw[getD_some hL,Bat hi hL];exact g1 i md.Hs (by simp[hL])
 ·simp only[List.length_map]at hi hj
  have e1:o[i]? =some o[i]:=by simp[hi]
  have e2:o[j]? =some o[j]:=by simp[hj]
  have hne:o[i]≠o[j]:=fun e=>hij (Bcq hd e1 (by rw[e2,e]))
  cases hL1:L[o[i]]? with
  |none=>rw[Ba2 e1 hL1]at hb;cases hb
  |some m1=>
   rw[Bat e1 hL1]at hb
   cases hL2:L[o[j]]? with
   |none=>rw[Ba2 e2 hL2];simp
   |some m2=>
    rw[Bat e2 hL2]
    exact g2 _ _ b (by simpa using(List.getElem?_eq_some_iff.1 hL1).1) (by simpa using(List.getElem?_eq_some_iff.1 hL2).1) hne hb
theorem Brv{i:Nat}:∀{o:List Nat} {m j:Nat},posOf i o m=some j→∃q,j=m+q∧o[q]? =some i
 |[],_,_,h=>by simp[posOf]at h
 |a::o,m,j,h=>by
  simp only[posOf]at h
  cases hb:Nat.beq i a with
  |true=>rw[hb]at h;cases h;exact⟨0,rfl,by simp[By hb]⟩
  |false=>
   rw[hb]at h
   obtain⟨q,h1,h2⟩:=Brv (o:=o) h
   exact⟨q+1,by omega,by simpa using h2⟩
theorem Bdx{o:List Nat}{i j:Nat}{md:MD}(h:posOf i o 0=some j)(hL:L[i]? =some md):(o.map fun i=>L.getD i .dead)[j]? =some md:=by
 obtain⟨q,h1,h2⟩:=Brv h
 rw[Nat.zero_add]at h1;subst h1
 simp[h2,List.getD_eq_getElem?_getD,hL]
theorem Bya{o:List Nat}{p:PV}:(ren o p).isA=p.isA:=by
 cases p<;>try rfl
 ·simp only[ren];split<;>rfl
 ·simp only[ren];split<;>rfl
 ·simp only[ren];split<;>rfl
abbrev Ay8(L:List MD):Prop:=L.all (fun m=>match m with| .own _ _ v _=>v.oneCell'|_=>true)=true
mutual
theorem Bby{o:List Nat}(h1:Ay8 L):∀{p:PV} {cs:List Value},EncC B w L p cs→EncC B w (o.map fun i=>L.getD i .dead) (ren o p) cs
 | .val _ x,cs,h=>h
 | .agg q,cs,h=>Bq0 h1 (show EncC.go B w L q cs from h)
 | .tup _,_,h=>h.elim
 | .nils,cs,h=>h
 | .own j,cs,⟨z,E,v,c,g1,g2⟩=>by
  simp only[ren]
  split
  ·rename_i j' hj;exact⟨z,E,v,c,Bdx hj g1,g2⟩
  ·exact⟨v,g2,List.all_eq_true.1 h1 _ (List.mem_of_getElem? g1)⟩
 | .ptr j q,cs,⟨md,b,g1,g2,g3⟩=>by
  simp only[ren]
  split
  ·rename_i j' hj;exact⟨md,b,Bdx hj g1,g2,g3⟩
  ·exact⟨_,g3,rfl⟩
 | .view u j p e lo n,cs,⟨md,v,g1,g2,g3⟩=>by
  simp only[ren]
  split
  ·rename_i j' hj;exact⟨md,v,Bdx hj g1,g2,g3⟩
  ·obtain⟨_,_,⟨pt,cap,e',_⟩,_⟩:=g3
   exact⟨v,g2,by rw[e'];rfl⟩
 | .rptr v,cs,⟨pv,c0,g1,g2,g3⟩=>⟨pv,c0,g1,g2,Bby h1 g3⟩
 | .fn f caps,cs,⟨vs,g1,g2⟩=>⟨vs,g1,Bir h1 g2⟩
 | .cst v,cs,h=>h
 | .any,cs,h=>h
 | .gd _ _ _,_,h=>h.elim
 | .off,_,h=>h.elim
 | .undef,_,h=>h.elim
theorem Bq0{o:List Nat}(h1:Ay8 L):∀{q:List PV} {cs:List Value},EncC.go B w L q cs→EncC.go B w (o.map fun i=>L.getD i .dead) (ren.go o q) cs
 |[],cs,h=>h
 |a::q,cs,⟨c1,c2,e',g1,g2⟩=>⟨c1,c2,e',Bby h1 g1,Bq0 h1 g2⟩
theorem Bir{o:List Nat}(h1:Ay8 L):∀{q:List PV} {vs:List Value},EncVs B w L q vs→EncVs B w (o.map fun i=>L.getD i .dead) (ren.go o q) vs
 |[],vs,h=>h
 |a::q,vs,⟨v,vs',e',g1,g2⟩=>⟨v,vs',e',by rw[Bya];exact g1.mono fun c h=>Bby h1 h,Bir h1 g2⟩
end
theorem Bqo{o:List Nat}(h1:Ay8 L){p:PV}{v:Value}(h:Dy B w L p v):Dy B w (o.map fun i=>L.getD i .dead) (ren o p) v:=by
 cases hp:p.isP with
 |true=>
  have h2:EncV B w (o.map fun i=>L.getD i .dead) (ren o p) v:=by
   unfold EncV;rw[Bya];exact asV.mono (fun c h=>Bby h1 h) ((Asr hp).1 h)
  exact(Jb h2).2
 |false=>
  cases p
  case tup q=>obtain⟨vs,g1,g2⟩:=h;exact⟨vs,g1,Bir h1 g2⟩
  case undef=>exact(show False from h).elim
  case off=>exact(show False from h).elim
  case gd=>exact(show False from h).elim
  all_goals cases hp
theorem Caf{o:List Nat}(h1:Ay8 L){t:Nat}{p:PV}(h:Hj B w L σ t p):Hj B w (o.map fun i=>L.getD i .dead) σ t (ren o p):=by
 cases hv:p.isV with
 |true=>
  have g1:=Bqo (o:=o) h1 ((Hj.iff hv).1 h)
  have g2:(ren o p).isV=true:=by
   cases p<;>first|rfl|cases hv|skip
   ·simp only[ren];split<;>rfl
   ·simp only[ren];split<;>rfl
   ·simp only[ren];split<;>rfl
  exact(Hj.iff g2).2 g1
 |false=>
  rcases Aav hv with rfl|rfl|⟨j,u,q,rfl⟩
  ·exact trivial
  ·exact h
  ·obtain⟨b,g1,g2,g3⟩:=h
   exact⟨b,g1,fun e=>Bqo h1 (g2 e),g3⟩
theorem Bit{o:List Nat}(h1:Ay8 L){sl:Slots}(h:SlotsR B w L σ sl):SlotsR B w (o.map fun i=>L.getD i .dead) σ (Bxt o sl):=by
 intro p hp
 obtain⟨q,hq,rfl⟩:=List.mem_map.1 hp
 exact Caf h1 (h q hq)
theorem Bj2{o:List Nat}(h1:Ay8 L):∀{σs:List Env} {st:List Slots},StackR B w L σs st→StackR B w (o.map fun i=>L.getD i .dead) σs (st.map (Bxt o))
 |[],[],h=>h
 |_::_,_::_,⟨g1,g2⟩=>⟨Bit h1 g1,Bj2 h1 g2⟩
theorem Bnl{o:List Nat}(h1:Ay8 L){a:Item}{md:MD}(h:ItemR B w L a md):ItemR B w (o.map fun i=>L.getD i .dead) (Ci3 o a) md:=by
 cases a<;>cases md<;>first
  |exact h
  |exact⟨h.1,Bby h1 h.2⟩
theorem Aq1{sl:Slots}(h:SlotsR B w L σ sl):∀(lv:List Nat),SlotsR B w L σ (Azu sl lv)
 |[]=>fun p hp=>by simp[Azu]at hp
 |t::lv=>by
  intro p hp
  simp only[Azu]at hp
  split at hp
  ·exact Aq1 h lv p hp
  ·exact Aq1 h lv p hp
  ·exact Aq1 h lv p hp
  ·rcases List.mem_cons.1 hp with rfl|hp
   ·exact Tk (s:=⟨sl,[],[]⟩) (t:=t) h
   ·exact Aq1 h lv p hp
theorem Azg:∀{l:List Nat} {i:Nat},distinct l=true→Yd i l=false→distinct (l++[i])=true
 |[],_,_,_=>rfl
 |a::l,i,hd,hi=>by
  simp only[distinct,Bool.and_eq_true,Bool.not_eq_true']at hd
  simp only[Yd,Bool.or_eq_false_iff]at hi
  simp only[List.cons_append,distinct,Bool.and_eq_true,Bool.not_eq_true']
  refine⟨?_,Azg hd.2 hi.2⟩
  cases hx:Yd a (l++[i])with
  |false=>rfl
  |true=>
   rcases List.mem_append.1 (Aad.1 hx)with h|h
   ·have:=Aad.2 h;rw[hd.1]at this;cases this
   ·simp at h;subst h;simp at hi
theorem Al9{it:List Item}:∀(q:Nat) (todo seen:List Nat),distinct seen=true→distinct (reach it q todo seen)=true
 |0,_,_,h=>h
 |_+1,[],_,h=>h
 |q+1,i::todo,seen,h=>by
  simp only[reach]
  cases he:Yd i seen with
  |true=>exact Al9 q _ _ h
  |false=>exact Al9 q _ _ (Azg h he)
theorem Cb2(hr:Rel Z s σs A L σ w)(lv:List Nat):∃L',Rel Z (s.canon lv) σs A L' σ w:=by
 have hm:=hr.mem
 have h1:Ay8 L:=hr.Ay8
 unfold S.canon
 simp only
 generalize ho:reach s.it 200 (Bn2 (Azu s.sl lv)++(s.st.map Bn2).flatten) []=o
 have hd:distinct o=true:=by rw[←ho];exact Al9 _ _ _ rfl
 refine⟨o.map fun i=>L.getD i .dead,?_⟩
 have hst:St A w [Nl Z.R L s σs σ, .old Z.M Z.w0] ((o.map fun i=>L.getD i .dead).map MD.Hs):=⟨St.lt hr,St.facts hr,Blv (St.mobs hr) hd⟩
 refine Rel.as hst (i:=1) rfl ⟨⟨by simp,fun j a m g1 g2=>?_⟩,Bit h1 (Aq1 hm.sl lv),Bj2 h1 hm.stk⟩ rfl
 simp only[List.getElem?_map,Option.map_eq_some_iff]at g1 g2
 obtain⟨i,g3,rfl⟩:=g1
 obtain⟨i',g4,rfl⟩:=g2
 rw[g3]at g4;cases g4
 cases hi:Bw s.it i with
 |dead=>exact trivial
 |box T v=>
  obtain⟨md,g5,g6⟩:=hm.item hi (by intro e;cases e)
  rw[getD_some g5]
  exact Bnl h1 g6
 |arr E e l=>
  obtain⟨md,g5,g6⟩:=hm.item hi (by intro e;cases e)
  rw[getD_some g5]
  exact Bnl h1 g6
theorem Bk3:∀{p:List Nat} {v u:PV} {cs:List Value},atV v p=some u→EncC B w L v cs→(∃c,EncC B w L u c)∧∀(B':Reg) (w':World) (L':List MD) (m v':PV),(∀q c,EncC B w L q c→EncC B' w' L' q c)→(∀c,EncC B w L u c→EncC B' w' L' m c)→m.isA=u.isA→Bvl m v p=some v'→EncC B' w' L' v' cs∧v'.isA=v.isA
 |[],v,u,cs,h,hv=>by
  simp only[atV,Option.some.injEq]at h;subst h
  refine⟨⟨cs,hv⟩,fun B' w' L' m v' _ hm hA hp=>?_⟩
  simp only[Bvl,Option.some.injEq]at hp;subst hp
  exact⟨hm _ hv,hA⟩
 |i::p,v,u,cs,h,hv=>by
  cases v<;>simp only[atV,reduceCtorEq]at h
  rename_i l
  split at h
  ·rename_i f hf
   obtain⟨c1,c2,c3,e,h1,h2,h3⟩:=EncC.field (show EncC.go B w L l cs from hv) hf
   obtain⟨g1,g2⟩:=Bk3 h h2
   refine⟨g1,fun B' w' L' m v' hq hm hA hp=>?_⟩
   simp only[Bvl,hf]at hp
   split at hp
   ·rename_i f' hf'
    cases hp
    obtain⟨g3,_⟩:=g2 B' w' L' m f' hq hm hA hf'
    refine⟨?_,rfl⟩
    have hl:EncC.go B' w' L' l cs:=show EncC B' w' L' (.agg l) cs from hq _ _ hv
    obtain⟨d1,d2,d3,e',k1,k2,k3⟩:=EncC.field hl hf
    have:d2=c2:=by
     have l1:d1.length=c1.length:=k1.trans h1.symm
     have l2:d2.length=c2.length:=k2.len.trans h2.len.symm
     rw[e]at e'
     obtain⟨e1,e2⟩:=List.append_inj e' l1.symm
     obtain⟨e3,_⟩:=List.append_inj e2 l2.symm
     exact e3.symm
    rw[e']
    exact k3 _ _ (by rw[this];exact g3)
   ·cases hp
  ·cases h
theorem Bqg(hr:Rel Z s σs A L σ w)(E:TypeId)(e:ET):Rel Z (s.add (.arr E e [])) σs A (L++[.own e.size E (.slice none 0 0) []]) σ w:=
 Rel.push (a:= .arr E e []) (md:= .own e.size E (.slice none 0 0) []) (St.Bht hr e.size E) ⟨rfl,rfl,rfl⟩
theorem Bjc{i b:Nat}{T:TypeId}{v':PV}{cells:List Value}(hr:Rel Z s σs A L σ w)(hL:L[i]? =some (.box b cells T))(hv:EncC (fun b=>A b∧Z.R b) w L v' cells):Rel Z (s.Uq i (.box T v')) σs A L σ w:=by
 have hm:=hr.mem
 refine Rel.as hr (i:=1) rfl ⟨⟨by simp[S.Uq,Ayc,hm.it.1],fun j a m h1 h2=>?_⟩,hm.sl,hm.stk⟩ rfl
 simp only[S.Uq]at h1
 rcases Axz h1 with⟨rfl,rfl⟩|⟨_,h4⟩
 ·rw[hL]at h2;cases h2;exact⟨rfl,hv⟩
 ·exact hm.it.2 j a m h4 h2
theorem Bta{t:Nat}{m:PV}:∀{sl:Slots} {q:Nat} {v:PV},(q,v)∈Bu4 t m sl→(q,v)∈sl∨(q=t∧v=m)
 |[],_,_,h=>by simp[Bu4]at h
 |(q',v')::r,q,v,h=>by
  simp only[Bu4]at h
  cases hb:Nat.beq q' t with
  |true=>
   rw[hb]at h
   rcases List.mem_cons.1 h with h|h
   ·cases h;exact .inr ⟨By hb,rfl⟩
   ·exact .inl (.tail _ h)
  |false=>
   rw[hb]at h
   rcases List.mem_cons.1 h with h|h
   ·cases h;exact .inl (.head _)
   ·exact(Bta h).imp (.tail _) id
theorem Bij{t:Nat}{m:PV}(hr:Rel Z s σs A L σ w)(hm:Hj (fun b=>A b∧Z.R b) w L σ t m):Rel Z ⟨Bu4 t m s.sl,s.it,s.st⟩ σs A L σ w:=by
 refine hr.Bro rfl rfl ?_
 rintro⟨q,v⟩ hp
 rcases Bta hp with h|⟨rfl,rfl⟩
 ·exact hr.mem.sl _ h
 ·exact hm
theorem Btl{e:ET}{c:List Value}(h:EncC B w L .nils c):EncC B w L (.val (.list e) []) c:=⟨_,[],show c=_ from h,Rd.nil,rfl⟩
theorem Cgz{a:At}{s':S}(hr:Rel Z s σs A L σ w)(h:Cks s a=some s'):∃A' L',Rel Z s' σs A' L' σ w:=by
 have hm:=hr.mem
 unfold Cks at h
 simp only at h
 split at h
 ·
  rename_i i q hsl
  split at h
  ·rename_i T v hi
   split at h
   ·rename_i u hu
    obtain⟨b,cells,hL,hv⟩:=hm.box hi
    split at h
    ·rename_i E e _
     split at h
     ·rename_i v' hv'
      cases h
      obtain⟨_,g⟩:=Bk3 hu hv
      have hr2:=Bqg hr E e
      have hL2:(L++[.own e.size E (.slice none 0 0) []])[i]? =some (.box b cells T):=by rw[List.getElem?_append_left (List.getElem?_eq_some_iff.1 hL).1];exact hL
      obtain⟨g1,_⟩:=g (fun b=>A b∧Z.R b) w (L++[.own e.size E (.slice none 0 0) []]) (.own s.new) v' (fun q c h=>EncC.step (fun _ h=>h) (fun _ _=>rfl) (LeL.append _ _) h)
       (fun c hc=>⟨e.size,E,_,[],by rw[S.new,hr.len];simp,hc⟩) rfl hv'
      exact⟨_,_,Bjc hr2 hL2 g1⟩
     ·cases h
    ·cases h;exact⟨A,L,hr⟩
    ·rename_i e _
     split at h
     ·rename_i v' hv'
      cases h
      obtain⟨_,g⟩:=Bk3 hu hv
      obtain⟨g1,_⟩:=g (fun b=>A b∧Z.R b) w L (.val (.list e) []) v' (fun q c h=>h) (fun c hc=>Btl hc) rfl hv'
      exact⟨_,_,Bjc hr hL g1⟩
     ·cases h
    ·obtain⟨A',h1,_⟩:=Bag hr h;exact⟨A',_,h1⟩
    ·cases h;exact⟨A,L,hr⟩
    ·cases h
   ·cases h
  ·cases h
 split at h
 ·
  rename_i o i p e1 lo n hsl
  split at h
  ·rename_i E e _ _
   obtain⟨hb,h⟩:=Ar h
   split at h
   ·rename_i s1 j h1
    cases h
    have hx:Du s.sl (.tmp a.t)= .view o i p e1 lo n:=by simp only[Du,hsl]
    obtain⟨L1,hr1,c0,hL⟩:=Bqx (x:= .tmp a.t) hr (by simpa [Nat.blt_eq]using hb) (by rw[hx];rfl) (by rw[hx];exact h1)
    exact⟨_,_,Bij hr1 ⟨_,_,_,_,hL,rfl⟩⟩
   ·cases h
  ·cases h
 ·
  split at h
  ·rename_i u hu
   have hsl:=Tk (t:=a.t) hm.sl
   have slotR:∀(B':Reg) (L':List MD) (m v':PV),(∀q c,EncC (fun b=>A b∧Z.R b) w L q c→EncC B' w L' q c)→(∀c,EncC (fun b=>A b∧Z.R b) w L u c→EncC B' w L' m c)→m.isA=u.isA→u= .nils→Bvl m (Ack s.sl a.t) a.p=some v'→Hj B' w L' σ a.t v':=by
    intro B' L' m v' hq hmu hA hun hp
    have hP:(Ack s.sl a.t).isP=true:=by
     revert hu
     generalize Ack s.sl a.t=x
     generalize a.p=pp
     intro hu
     cases pp with
     |nil=>simp only[atV,Option.some.injEq]at hu;rw[hu,hun];rfl
     |cons _ _=>cases x<;>first|rfl|simp[atV]at hu
    have hE:EncV (fun b=>A b∧Z.R b) w L (Ack s.sl a.t) (σ a.t):=(Asr hP).1 ((Hj.iff (PV.Bnb hP)).1 hsl)
    have key:EncV B' w L' v' (σ a.t):=by
     unfold EncV asV at hE
     split at hE
     ·rename_i hA'
      obtain⟨cs,e1,hc⟩:=hE
      obtain⟨_,g⟩:=Bk3 hu hc
      obtain⟨g1,g2⟩:=g B' w L' m v' hq hmu hA hp
      unfold EncV;rw[g2,hA'];exact⟨cs,e1,g1⟩
     ·rename_i hA'
      obtain⟨_,g⟩:=Bk3 hu hE
      obtain⟨g1,g2⟩:=g B' w L' m v' hq hmu hA hp
      unfold EncV;rw[g2,hA'];exact g1
    obtain⟨k1,k2⟩:=Jb key
    exact(Hj.iff k1).2 k2
   split at h
   ·rename_i E e _
    split at h
    ·rename_i v' hv'
     cases h
     have hr2:=Bqg hr E e
     exact⟨_,_,Bij (s:=s.add (.arr E e [])) hr2 (slotR _ _ (.own s.new) v' (fun q c h=>EncC.step (fun _ h=>h) (fun _ _=>rfl) (LeL.append _ _) h) (fun c hc=>⟨e.size,E,_,[],by rw[S.new,hr.len];simp,hc⟩) rfl rfl hv')⟩
    ·cases h
   ·cases h;exact⟨A,L,hr⟩
   ·rename_i e _
    split at h
    ·rename_i v' hv'
     cases h
     exact⟨_,_,Bij hr (slotR _ _ (.val (.list e) []) v' (fun q c h=>h) (fun c hc=>Btl hc) rfl rfl hv')⟩
    ·cases h
   ·obtain⟨A',h1,_⟩:=Bag hr h;exact⟨A',_,h1⟩
   ·cases h;exact⟨A,L,hr⟩
   ·cases h
  ·cases h
theorem Bw1:∀{l:List At} {s s':S} {A:Reg} {L:List MD},Rel Z s σs A L σ w→Ccc s l=some s'→∃A' L',Rel Z s' σs A' L' σ w
 |[],s,s',A,L,hr,h=>by simp only[Ccc,Option.some.injEq]at h;subst h;exact⟨A,L,hr⟩
 |a::l,s,s',A,L,hr,h=>by
  simp only[Ccc]at h
  split at h
  ·rename_i s1 h1
   obtain⟨A1,L1,hr1⟩:=Cgz hr h1
   exact Bw1 hr1 h
  ·cases h
theorem Bfc{lv:List Nat}{co:List At}{s':S}(hr:Rel Z s σs A L σ w)(h:s.cn lv co=some s'):∃A' L',Rel Z s' σs A' L' σ w:=by
 unfold S.cn at h
 split at h
 ·rename_i s1 h1
  cases h
  obtain⟨A1,L1,hr1⟩:=Bw1 hr h1
  obtain⟨L',hr2⟩:=Cb2 hr1 lv
  exact⟨A1,L',hr2⟩
 ·cases h
end Go.Rx
set_option linter.unusedVariables false
set_option linter.unusedSimpArgs false
namespace Go.Rx
open Go Go.Lv
variable {P:Program} {B B':Reg} {w w':World} {L L':List MD} {s:S} {σs:List Env} {σ:Env} {Z:Fix} {A A':Reg} {n:Nat} {ops:Array Oper}
variable {R:Type} {r:R} {T:Tab} {inl:Inl R}
def kof(k:K R):Exit→S→Option R
 | .normal=>k.n| .exit id=>k.x id| .ret=>k.r|_=>fun _=>none
def QK(Z:Fix)(σs:List Env)(k:K R)(r:R)(e:Exit)(σ':Env)(w':World):Prop:=∃s' A' L',kof k e s'=some r∧Rel Z s' σs A' L' σ' w'
theorem Bwo(an:An){gl:List (Nat×List Value)}(hI:Aef P gl inl):Aef P gl (Bo4 an inl):=by
 unfold Bo4
 split
 ·intro Z hZ f as s k r σs A L σ w vs h hr ha
  exact hI Z hZ f as _ k r σs A L σ w vs h (hr.Bro rfl rfl (Aq1 hr.mem.sl _)) ha
 ·exact hI
theorem Bfu(hMix:P.follows .mixedOrders=true)(hT:Ayx P T Z)(hI:Aef P T.gl inl):∀(c:Code) {an:An} {k:K R} {s:S} {A:Reg} {L:List MD} {σ:Env} {w:World},ex P T inl n c an k s=some r→Rel Z s σs A L σ w→W P n c (QK Z σs k r) σ w:=by
 intro c
 induction c with
 |skip=>intro an k s A L σ w h hr;exact W.skip ⟨s,A,L,h,hr⟩
 |ret=>intro an k s A L σ w h hr;exact W.ret ⟨s,A,L,h,hr⟩
 |exit id=>intro an k s A L σ w h hr;exact W.exit ⟨s,A,L,h,hr⟩
 |seq a b iha ihb=>
  intro an k s A L σ w h hr
  refine W.seq (W.mono (iha (an:=an.l) (k:={k with n:=Bhb an fun s'=>ex P T inl n b an.r k s'}) h hr) ?_)
  rintro e σ' w' ⟨s',A',L',h1,hr'⟩
  cases e with
  |normal=>
   have h2:Bhb an (fun s'=>ex P T inl n b an.r k s') s'=some r:=h1
   unfold Bhb at h2
   split at h2
   ·split at h2
    ·rename_i s2 hs2
     obtain⟨A2,L2,hr2⟩:=Bfc hr' hs2
     exact ihb h2 hr2
    ·cases h2
   ·exact ihb h2 hr'
  |exit id=>exact⟨s',A',L',h1,hr'⟩
  |ret=>exact⟨s',A',L',h1,hr'⟩
  |goto l=>exact⟨s',A',L',h1,hr'⟩
  |panic c=>exact⟨s',A',L',h1,hr'⟩
  |outgrown=>exact⟨s',A',L',h1,hr'⟩
 |cond c a b iha ihb=>
  intro an k s A L σ w h hr
  simp only[ex]at h
  split at h
  ·rename_i t hc
   refine W.cond (Bck hr.mem.sl hc) (fun ht=>?_) (fun ht=>?_)
   ·subst ht;exact iha (by simpa using h) hr
   ·subst ht;exact ihb (by simpa using h) hr
  ·cases h
 |block id a iha=>
  intro an k s A L σ w h hr
  refine W.block (W.mono (iha (an:=an.l) (k:={k with x:=fun id' s'=>Cg (Nat.beq id' id) (k.n s')<|k.x id' s'}) h hr) ?_)
  rintro e σ' w' ⟨s',A',L',h1,hr'⟩
  cases e with
  |exit id'=>
   have h2:(Cg (Nat.beq id' id) (k.n s')<|k.x id' s')=some r:=h1
   simp only[Bns]
   by_cases hid:id'=id
   ·rw[if_pos hid]
    subst hid
    simp at h2
    exact⟨s',A',L',h2,hr'⟩
   ·rw[if_neg hid]
    have hb:Nat.beq id' id=false:=by
     cases hb:Nat.beq id' id with
     |false=>rfl
     |true=>exact absurd (By hb) hid
    rw[hb]at h2
    exact⟨s',A',L',h2,hr'⟩
  |normal=>exact⟨s',A',L',h1,hr'⟩
  |ret=>exact⟨s',A',L',h1,hr'⟩
  |goto l=>exact⟨s',A',L',h1,hr'⟩
  |panic c=>exact⟨s',A',L',h1,hr'⟩
  |outgrown=>exact⟨s',A',L',h1,hr'⟩
 |loop a iha=>
  intro an k s A L σ w h hr
  have head:∀(q:Nat) (s:S) (A:Reg) (L:List MD) (σ:Env) (w:World),An1 an (iter an (fun kn s'=>ex P T inl n a an.l {k with n:=kn} s') q) s=some r→Rel Z s σs A L σ w→
    ∃s' A' L',iter an (fun kn s'=>ex P T inl n a an.l {k with n:=kn} s') q s'=some r∧Rel Z s' σs A' L' σ w:=by
   intro q s A L σ w h hr
   unfold An1 at h
   split at h
   ·split at h
    ·rename_i s2 hs2
     obtain⟨A2,L2,hr2⟩:=Bfc hr hs2
     exact⟨s2,A2,L2,h,hr2⟩
    ·cases h
   ·cases h
  refine W.loop (fun q σ w=>∃s A L,iter an (fun kn s'=>ex P T inl n a an.l {k with n:=kn} s') q s=some r∧Rel Z s σs A L σ w) Cq (head _ _ _ _ _ _ h hr) ?_
  rintro q σ w ⟨s,A,L,h,hr⟩
  cases q with
  |zero=>cases h
  |succ q=>
   refine W.mono (iha (k:={k with n:=An1 an (iter an (fun kn s'=>ex P T inl n a an.l {k with n:=kn} s') q)}) h hr) ?_
   rintro e σ' w' ⟨s',A',L',h1,hr'⟩
   cases e with
   |normal=>exact⟨q,Nat.lt_succ_self _,head q s' A' L' σ' w' h1 hr'⟩
   |exit id=>exact⟨s',A',L',h1,hr'⟩
   |ret=>exact⟨s',A',L',h1,hr'⟩
   |goto l=>exact⟨s',A',L',h1,hr'⟩
   |panic c=>exact⟨s',A',L',h1,hr'⟩
   |outgrown=>exact⟨s',A',L',h1,hr'⟩
 |region id ops draw=>
  intro an k s A L σ w h hr
  cases draw with
  |false=>
   obtain⟨hd,h⟩:=Ar (show(Cg (Azi ops.toList) (Azj P T (Bo4 an inl) n ops ops.toList s k.n)<|none)=some r from h)
   have h1:=Bjp (ops:=ops) hT (Bwo an hI) hr (show Azj P T (Bo4 an inl) n ops ops.toList s k.n=some r from h)
   have hops:ops=ops.toList.toArray:=by simp
   rw[hops]
   exact W.region hd (by rw[←hops];exact h1)
  |true=>
   obtain⟨hd,h⟩:=Ar (show(Cg (Azi ops.toList) (exD P T (Bo4 an inl) n (Bds an) ops ops.size (Cg (Bds an) (#[])<|Array.replicate ops.size true) (Array.replicate ops.size false) s k.n)<|none)=some r from h)
   refine W.Chm hd hMix (fun _=>True) (tw (Cg (Bds an) (#[])<|Array.replicate ops.size true)) (fun w' hw hg=>?_)
   have hr':Rel Z s σs A L σ w':=St.Cev hr hw hg
   refine Ckx hT (Bwo an hI) hr' h (fun hm=> .inl ?_) (fun _ _ _=>trivial)
   rw[hm]
   simp[Amu,tw]
 |rangeFunc=>intro an k s A L σ w h hr;cases h
 |scope=>intro an k s A L σ w h hr;cases h
 |label=>intro an k s A L σ w h hr;cases h
 |goto=>intro an k s A L σ w h hr;cases h
 |refuse=>intro an k s A L σ w h hr;cases h
theorem Cai(hr:Rel Z s σs A L σ w){v:ResultVar}{p:PV}(h:Bux P s v=some p):∃u,Apn P σ w v u∧EncV (fun b=>A b∧Z.R b) w L p u:=by
 have hm:=hr.mem
 cases v with
 |tmp t=>
  obtain⟨hp,h⟩:=Ar h
  cases h
  exact⟨σ t,rfl,Aqy hm.sl hp⟩
 |cell a t=>
  simp only[Bux]at h
  split at h
  ·rename_i i p' hsl
   split at h
   ·rename_i T v0 hi
    split at h
    ·rename_i u hu
     obtain⟨hk,h⟩:=Ar h
     cases h
     have hs1:=Tk (t:=a) hm.sl
     rw[hsl]at hs1
     obtain⟨md,b,h1,h2,h3⟩:=Yj hs1
     obtain⟨b',cells,h4,h5⟩:=hm.box hi
     rw[h4]at h1;cases h1;cases h2
     obtain⟨c1,c2,c3,e,h6,h7⟩:=Asg hu h5
     have hok:=Qe hk
     obtain⟨d,hd,ha⟩:=hok.agg
     have hlen:=h7.len
     cases hA:p.isA with
     |true=>
      refine⟨.agg c2.toArray,Apn.cells hr (hr.Hs h4) ⟨d,hd,ha.trans hA⟩ hok.size h3 ?_ hlen,by unfold EncV;rw[hA];exact⟨c2,rfl,h7⟩⟩
      rw[e,←h6,←hlen];exact Bv2 rfl
     |false=>
      rw[hok.one hA]at hlen
      match c2,hlen with
      |[u],_=>exact⟨u,Apn.cell hr (hr.Hs h4) ⟨d,hd,ha.trans hA⟩ h3 (by rw[e,←h6];simp),by unfold EncV;rw[hA];exact h7⟩
    ·cases h
   ·cases h
  ·cases h
theorem Bdk(hr:Rel Z s σs A L σ w):∀{vs:List ResultVar} {ps:List PV},Bee P s vs=some ps→∃us,Aw8 P σ w vs us∧EncVs (fun b=>A b∧Z.R b) w L ps us
 |[],ps,h=>by simp only[Bee,Option.some.injEq]at h;subst h;exact⟨[],trivial,rfl⟩
 |v::vs,ps,h=>by
  simp only[Bee]at h
  split at h
  ·rename_i p ps' hp hps
   cases h
   obtain⟨u,h1,h2⟩:=Cai hr hp
   obtain⟨us,h3,h4⟩:=Bdk hr hps
   exact⟨u::us,⟨h1,h3⟩,u,us,rfl,h2,h4⟩
  ·cases h
theorem Avo:∀{as:List PV} {vs:List Value} {m:Nat} {f:Nat→Value},EncVs B w L as vs→(∀i v,vs[i]? =some v→f (m+i)=v)→∀p∈Yc m as,Hj B w L f p.1 p.2
 |[],vs,m,f,_,_,p,hp=>by simp[Yc]at hp
 |a::as,vs,m,f,⟨v,vs',e,h1,h2⟩,hf,p,hp=>by
  subst e
  simp only[Yc]at hp
  rcases List.mem_cons.1 hp with rfl|hp
  ·obtain⟨k1,k2⟩:=Jb (show EncV B w L a v from h1)
   refine(Hj.iff k1).2 ?_
   have:=hf 0 v rfl
   rw[Nat.add_zero]at this
   rw[this];exact k2
  ·exact Avo h2 (fun i v hi=>by have:=hf (i+1) v (by simpa using hi);rw[←this];congr 1;omega) p hp
theorem Bmp{vs:List Value}{i:Nat}{v:Value}(h:vs[i]? =some v):Azo vs i=v:=by simp[Azo,List.getD_eq_getElem?_getD,h]
theorem EncVs.length:∀{as:List PV} {vs:List Value},EncVs B w L as vs→vs.length=as.length
 |[],vs,h=>by rw[show vs=[]from h];rfl
 |a::as,vs,⟨v,vs',e,h1,h2⟩=>by rw[e,List.length_cons,EncVs.length h2];rfl
theorem Bmb{f:Nat}{an:An}:∀{ans:List (Nat×An)},Afk.getAn ans f=some an→∃a,(f,a)∈ans
 |[],h=>by simp[Afk.getAn]at h
 |(g,a)::ans,h=>by
  simp only[Afk.getAn]at h
  cases hb:Nat.beq g f with
  |true=>have:=By hb;subst this;exact⟨a, .head _⟩
  |false=>rw[hb]at h;obtain⟨a',h1⟩:=Bmb h;exact⟨a', .tail _ h1⟩
theorem Bbr(hMix:P.follows .mixedOrders=true)(hT:Aeg P T){ans:List (Nat×An)}(hA:∀p∈ans,Ent P p.1):∀(q:Nat),Aef (R:=R) P T.gl (Afk P T q ans)
 |0=>fun Z hZ f as s k r σs A L σ w vs h hr ha=>by cases h
 |q+1=>fun Z hZ f as s k r σs A L σ w vs h hr ha=>by
  have hI:=Bbr hMix hT hA q
  unfold Afk at h
  split at h
  ·rename_i an fn han hfn
   obtain⟨a,hmem⟩:=Bmb han
   split at h
   ·cases h
   ·rename_i c hc
    obtain⟨hle,h⟩:=Ar h
    refine⟨hA _ hmem,?_⟩
    have hr1:Rel Z ⟨Yc 0 as,s.it,s.sl::s.st⟩ (σ::σs) A L (Azo vs) w:=
     Rel.as hr (i:=1) rfl ⟨hr.mem.it,Avo ha (fun i v hi=>by rw[Nat.zero_add];exact Bmp hi),hr.mem.sl,hr.mem.stk⟩ rfl
    refine Bik (rs:=fn.results.toList) hfn hc rfl (by simp) (by rw[ha.length];exact hle) (W.mono (Bfu hMix ⟨hT,hZ⟩ hI c h hr1) ?_)
    rintro e σ' w' ⟨s',A',L',h1,hr'⟩
    have fin:Afk.finK P fn.results.toList k s'=some r→∃us,Aw8 P σ' w' fn.results.toList us∧∃v p s'' A'' L'',Ending.returned (packRes us)= .returned v∧k s'' p=some r∧Rel Z s'' σs A'' L'' σ w'∧p.isV=true∧Dy (fun b=>A'' b∧Z.R b) w' L'' p v:=by
     intro h1
     unfold Afk.finK at h1
     split at h1
     ·rename_i ps sl st hps hst
      obtain⟨us,h2,h3⟩:=Bdk hr' hps
      obtain⟨h4,h5⟩:=Bql h3
      have hstk:=hr'.mem.stk
      rw[hst]at hstk
      exact⟨us,h2,_,_,_,A',L',rfl,h1,Rel.as hr' (i:=1) rfl ⟨hr'.mem.it,hstk.1,hstk.2⟩ rfl,h4,h5⟩
     ·cases h1
    cases e with
    |normal=>exact⟨.inr rfl,fin h1⟩
    |ret=>exact⟨.inl rfl,fin h1⟩
    |exit id=>cases h1
    |goto l=>cases h1
    |panic c=>cases h1
    |outgrown=>cases h1
  ·cases h
end Go.Rx
set_option linter.unusedVariables false
set_option linter.unusedSimpArgs false
namespace Go.Rx
open Go Go.Lv
variable {P:Program} {B B':Reg} {w w':World} {L L':List MD} {s:S} {σs:List Env} {σ:Env} {Z:Fix} {A A':Reg} {n:Nat} {ops:Array Oper}
variable {R:Type} {r:R} {T:Tab} {inl:Inl R}
abbrev LS:=List (ET×Option TypeId)
def Gu:LS→List PV→Nat→List Nat
 |p::r,v::vs,c=>match p.2 with
  |none=>Gu r vs c
  |some _=>(match v with| .own i=>i|_=>c)::Gu r vs (c+1)
 |_,_,_=>[]
def Apr:LS→List MD
 |p::r=>match p.2 with
  |none=>Apr r
  |some E=>(match p.1 with| .list a=> .own a.size E (.slice none 0 0) []|_=> .dead)::Apr r
 |[]=>[]
theorem Cfm(h:Mobs w A (L.map MD.Hs)):∀(ls:LS),Mobs w A ((L++Apr ls).map MD.Hs):=by
 have one:∀(m:MD) (ms:List MD),m.Hs.holds none w→Mobs w A ((L++ms).map MD.Hs)→Mobs w A ((L++m::ms).map MD.Hs):=by
  intro m ms hm h
  have:Mobs w A (m.Hs::(L++ms).map MD.Hs):=⟨none,hm,fun b hb=>(by cases hb),h.Yb fun b hb=>hb.elim id (fun h=>by cases h)⟩
  refine this.perm ?_
  rw[List.map_append,List.map_append,List.map_cons]
  exact(List.perm_middle).symm
 intro ls
 induction ls with
 |nil=>simpa [Apr]using h
 |cons p ls ih=>
  obtain⟨e,o⟩:=p
  cases o with
  |none=>exact ih
  |some E=>cases e<;>exact one _ _ (by first|exact Bkr|exact⟨none,0,0,rfl,by simp,Nat.le_refl _,fun _=>rfl,fun _=>rfl,fun b h=>by cases h⟩) ih
theorem Ayj:∀{ls:LS} {vs:List PV} {seen:List Nat} {c:Nat},Aqg s ls vs seen=true→s.it.length≤c→distinct (Gu ls vs c)=true∧∀i∈Gu ls vs c,(i<s.it.length∧i∉seen)∨c≤i
 |[],[],_,_,_,_=>⟨rfl,by simp[Gu]⟩
 |[],_::_,_,_,h,_=>by simp[Aqg]at h
 |_::_,[],_,_,h,_=>by simp[Aqg]at h
 |(e,none)::ls,v::vs,seen,c,h,hc=>by
  simp only[Aqg,Bool.and_eq_true]at h
  exact Ayj (ls:=ls) (vs:=vs) (seen:=seen) (c:=c) h.2 hc
 |(e,some E)::ls,v::vs,seen,c,h,hc=>by
  simp only[Aqg]at h
  split at h
  ·obtain⟨h1,h2⟩:=Ayj h (c:=c+1) (by omega)
   refine⟨?_,fun i hi=>?_⟩
   ·simp only[Gu,distinct,Bool.and_eq_true,Bool.not_eq_true']
    refine⟨?_,h1⟩
    cases hx:Yd c (Gu ls vs (c+1))with
    |false=>rfl
    |true=>rcases h2 c (Aad.1 hx)with⟨h3,_⟩|h3<;>omega
   ·simp only[Gu,List.mem_cons]at hi
    rcases hi with rfl|hi
    ·exact .inr (Nat.le_refl _)
    ·rcases h2 i hi with h3|h3
     ·exact .inl h3
     ·exact .inr (by omega)
  ·rename_i a i
   simp only[Bool.and_eq_true,Bool.not_eq_true']at h
   obtain⟨⟨h0,hit⟩,h⟩:=h
   have hlt:i<s.it.length:=by
    split at hit
    ·rename_i E' a' l hi
     exact(List.getElem?_eq_some_iff.1 (Ba4 hi (by intro e;cases e))).1
    ·cases hit
   obtain⟨h1,h2⟩:=Ayj h (c:=c+1) (by omega)
   refine⟨?_,fun j hj=>?_⟩
   ·simp only[Gu,distinct,Bool.and_eq_true,Bool.not_eq_true']
    refine⟨?_,h1⟩
    cases hx:Yd i (Gu ls vs (c+1))with
    |false=>rfl
    |true=>
     rcases h2 i (Aad.1 hx)with⟨_,h3⟩|h3
     ·exact absurd (List.mem_cons_self) h3
     ·omega
   ·simp only[Gu,List.mem_cons]at hj
    rcases hj with rfl|hj
    ·exact .inl ⟨hlt,fun hm=>by have:=Aad.2 hm;rw[h0]at this;cases this⟩
    ·rcases h2 j hj with⟨h3,h4⟩|h3
     ·exact .inl ⟨h3,fun hm=>h4 (List.mem_cons_of_mem _ hm)⟩
     ·exact .inr (by omega)
  ·cases h
theorem Cic{e:ET}{q:PV}{x:e.T}(hr:Rel Z s σs A L σ w)(h:Av7 s e q=some x)(ho:owns q=[])(hb:e.Bj6=true→∀b,A b∧Z.R b→B' b){L':List MD}:Aud (fun b=>A b∧Z.R b) w L B' w L' q (.val e x):=by
 obtain⟨h1,h2⟩:=Brc (L':=L') hr h (B':=fun b=>A b∧Z.R b) (fun _ h=>h) (fun i hi=>by rw[ho]at hi;cases hi)
 refine⟨h1,fun cs hcs=>?_⟩
 have h3:Ap (fun b=>A b∧Z.R b) w e x cs:=h2 cs hcs
 cases hl:e.Bj6 with
 |true=>exact Ap.step (hb hl) (fun _ _=>rfl) h3
 |false=>exact Ap.noL hl h3
theorem Cip{e:ET}{l:List e.T}{cs:List Value}(hb:e.Bj6=true→∀b,B b→B' b)(h:Bs (Ap B w e) l cs):Bs (Ap B' w e) l cs:=by
 cases hl:e.Bj6 with
 |true=>exact h.mono fun x c hx=>Ap.step (hb hl) (fun _ _=>rfl) hx
 |false=>exact h.mono fun x c hx=>Ap.noL hl hx
theorem Bhy(hr:Rel Z s σs A L σ w){LP:List MD}(hP:∀(i:Nat) (m:MD),L[i]? =some m→LP[i]? =some m):∀(ls:LS) (vs:List PV) (y:LTy ls) (seen:List Nat) (c:Nat) (s0:S) (Lx LF:List MD),
  Aqg s ls vs seen=true→Amf s ls vs=some y→(∀p∈ls,Cem p=true→∀b,A b∧Z.R b→B' b)→(∀i m,(Apr ls)[i]? =some m→LP[c+i]? =some m)→Lx.length=s0.it.length→LF=Lx++(Gu ls vs c).map (fun i=>LP.getD i .dead)→
  ∃its,(Er ls y s0).2=⟨s0.sl,s0.it++its,s0.st⟩∧its.length=(Gu ls vs c).length∧All2 (Aud (fun b=>A b∧Z.R b) w L B' w LF) vs (Er ls y s0).1∧
   ∀(i:Nat) (a:Item) (m:MD),its[i]? =some a→((Gu ls vs c).map (fun i=>LP.getD i .dead))[i]? =some m→ItemR B' w LF a m
 |[],vs,y,seen,c,s0,Lx,LF,ho,hp,_,_,_,_=>by
  rw[Brq hp]
  refine⟨[],?_,rfl,All2.nil,fun i a m h=>by simp at h⟩
  rw[Bj4];simp
 |p::ls,vs,y,seen,c,s0,Lx,LF,ho,hp,hb,hn,hlen,hLF=>by
  have main:∀(v:PV) (vs':List PV) (x:p.1.T) (rest:S→List PV×S),vs=v::vs'→Av7 s p.1 v=some x→
    (Er (p::ls) y s0=((Em p.1 p.2 x s0).1::(rest (Em p.1 p.2 x s0).2).1,(rest (Em p.1 p.2 x s0).2).2))→
    (∀(seen:List Nat) (c:Nat) (s1:S) (Lx:List MD),Aqg s ls vs' seen=true→(∀i m,(Apr ls)[i]? =some m→LP[c+i]? =some m)→Lx.length=s1.it.length→LF=Lx++(Gu ls vs' c).map (fun i=>LP.getD i .dead)→
     ∃its,(rest s1).2=⟨s1.sl,s1.it++its,s1.st⟩∧its.length=(Gu ls vs' c).length∧All2 (Aud (fun b=>A b∧Z.R b) w L B' w LF) vs' (rest s1).1∧
      ∀(i:Nat) (a:Item) (m:MD),its[i]? =some a→((Gu ls vs' c).map (fun i=>LP.getD i .dead))[i]? =some m→ItemR B' w LF a m)→
    ∃its,(Er (p::ls) y s0).2=⟨s0.sl,s0.it++its,s0.st⟩∧its.length=(Gu (p::ls) vs c).length∧All2 (Aud (fun b=>A b∧Z.R b) w L B' w LF) vs (Er (p::ls) y s0).1∧
     ∀(i:Nat) (a:Item) (m:MD),its[i]? =some a→((Gu (p::ls) vs c).map (fun i=>LP.getD i .dead))[i]? =some m→ItemR B' w LF a m:=by
   intro v vs' x rest hvs hx hu hrest
   subst hvs
   rw[hu]
   have hbp:=hb p (.head _)
   obtain⟨e,o⟩:=p
   cases o with
   |none=>
    simp only[Aqg,Bool.and_eq_true]at ho
    have e1:Em e none x s0=(.val e x,s0):=Bxo
    simp only[e1]
    obtain⟨its,h1,h2,h3,h4⟩:=hrest seen c s0 Lx ho.2 hn hlen hLF
    refine⟨its,h1,h2, .cons (Cic hr hx (isEmpty_nil ho.1) (fun hl=>hbp ?_)) h3,h4⟩
    cases e<;>first|exact hl|cases hl
   |some E=>
    simp only[Aqg]at ho
    split at ho
    ·
     rename_i a
     have hx':x=[]:=by
      have:elems s a .nils=some x:=hx
      simpa [elems]using this.symm
     subst hx'
     have hc:LP[c]? =some (.own a.size E (.slice none 0 0) []):=hn 0 _ rfl
     have e1:Em (.list a) (some E) [] s0=(.own s0.new,s0.add (.arr E a [])):=rfl
     simp only[e1]
     obtain⟨its,h1,h2,h3,h4⟩:=hrest seen (c+1) (s0.add (.arr E a [])) (Lx++[.own a.size E (.slice none 0 0) []]) ho (fun i m hi=>by rw[Nat.add_assoc,Nat.add_comm 1 i];exact hn (i+1) m (by simpa [Apr]using hi))
      (by simp[S.add,hlen]) (by rw[hLF];simp[Gu,List.getD_eq_getElem?_getD,hc])
     refine⟨.arr E a []::its,by rw[h1];simp[S.add],by simp[Gu,h2], .cons ⟨rfl,fun cs hcs=>?_⟩ h3,fun i b m hi hm=>?_⟩
     ·refine⟨a.size,E, .slice none 0 0,[],?_,hcs⟩
      rw[hLF,S.new,←hlen]
      simp[Gu,List.getD_eq_getElem?_getD,hc]
     ·cases i with
      |zero=>
       simp[Gu,List.getD_eq_getElem?_getD,hc]at hi hm
       subst hi hm
       exact⟨rfl,rfl,rfl⟩
      |succ i=>exact h4 i b m (by simpa using hi) (by simpa [Gu]using hm)
    ·
     rename_i a i
     simp only[Bool.and_eq_true,Bool.not_eq_true']at ho
     obtain⟨⟨h0,hit⟩,ho⟩:=ho
     split at hit
     ·rename_i E' a' l hi
      simp only[Bool.and_eq_true,decide_eq_true_eq]at hit
      obtain⟨hE,rfl⟩:=hit
      have:=By hE
      subst this
      obtain⟨u,cs0,g1,g2⟩:=hr.mem.arr hi
      have hx':x=l:=by
       have:elems s a' (.own i)=some x:=hx
       simp[elems,hi]at this
       exact this.symm
      subst hx'
      have hc:LP[i]? =some (.own a'.size E' u cs0):=hP i _ g1
      have e1:Em (.list a') (some E') x s0=(.own s0.new,s0.add (.arr E' a' x)):=rfl
      simp only[e1]
      obtain⟨its,h1,h2,h3,h4⟩:=hrest (i::seen) (c+1) (s0.add (.arr E' a' x)) (Lx++[.own a'.size E' u cs0]) ho (fun i m hi=>by rw[Nat.add_assoc,Nat.add_comm 1 i];exact hn (i+1) m (by simpa [Apr]using hi))
       (by simp[S.add,hlen]) (by rw[hLF];simp[Gu,List.getD_eq_getElem?_getD,hc])
      refine⟨.arr E' a' x::its,by rw[h1];simp[S.add],by simp[Gu,h2], .cons ⟨rfl,fun cs hcs=>?_⟩ h3,fun q b m hq hm=>?_⟩
      ·obtain⟨z,E2,v2,c2,k1,k2⟩:=hcs
       rw[g1]at k1;cases k1
       refine⟨a'.size,E',u,cs0,?_,k2⟩
       rw[hLF,S.new,←hlen]
       simp[Gu,List.getD_eq_getElem?_getD,hc]
      ·cases q with
       |zero=>
        simp[Gu,List.getD_eq_getElem?_getD,hc]at hq hm
        subst hq hm
        exact⟨rfl,rfl,Cip hbp g2⟩
       |succ q=>exact h4 q b m (by simpa using hq) (by simpa [Gu]using hm)
     ·cases hit
    ·cases ho
  cases ls with
  |nil=>
   obtain⟨v,rfl,hx⟩:=Bs5 hp
   exact main v [] y (fun s1=>([],s1)) rfl hx (Asc p y s0) (fun seen c s1 Lx _ _ hlen hLF=>⟨[],by simp,rfl,All2.nil,fun i a m h=>by simp at h⟩)
  |cons q r=>
   obtain⟨v,vs',x,y',rfl,rfl,hx,hy⟩:=Bmr hp
   exact main v vs' x (fun s1=>Er (q::r) y' s1) rfl hx (Ao4 p q r x y' s0)
    (fun seen c s1 Lx ho hn hlen hLF=>Bhy hr hP (q::r) vs' y' seen c s1 Lx LF ho hy (fun p hp=>hb p (.tail _ hp)) hn hlen hLF)
theorem Zi{e:ET}{x:e.T}{cs:List Value}(h:Ap B w e x cs):Ap (fun b=>b<w.heap.size∧B b) w e x cs:=
 match e,x,h with
 | .int _,_,h=>h
 | .bool,_,h=>h
 | .str,_,h=>h
 | .list _,_,⟨v,c0,h1,h2,h3⟩=>⟨v,c0,h1,h2.start,h3.mono fun _ _ h=>Zi h⟩
 | .vec _ _,_,⟨h1,h2⟩=>⟨h1,h2.mono fun _ _ h=>Zi h⟩
 | .cons _ _,_,⟨c1,c2,e,h1,h2⟩=>⟨c1,c2,e,Zi h1,Zi h2⟩
 | .nil,_,h=>h
def Be:PV→Bool
 | .val _ _=>true
 | .own _=>true
 | .agg l=>go l
 |_=>false
where go:List PV→Bool
 |[]=>true
 |a::r=>Be a&&go r
mutual
theorem Bm9:∀{p:PV} {cs:List Value},Be p=true→EncC B w L p cs→EncC (fun b=>b<w.heap.size∧B b) w L p cs
 | .val e x,cs,_,h=>Zi (show Ap B w e x cs from h)
 | .own i,cs,_,h=>h
 | .agg l,cs,hv,h=>Bjg hv (show EncC.go B w L l cs from h)
 | .tup _,_,hv,_=>by cases hv
 | .nils,_,hv,_=>by cases hv
 | .ptr _ _,_,hv,_=>by cases hv
 | .view _ _ _ _ _ _,_,hv,_=>by cases hv
 | .rptr _,_,hv,_=>by cases hv
 | .fn _ _,_,hv,_=>by cases hv
 | .cst _,_,hv,_=>by cases hv
 | .any,_,hv,_=>by cases hv
 | .gd _ _ _,_,hv,_=>by cases hv
 | .off,_,hv,_=>by cases hv
 | .undef,_,hv,_=>by cases hv
theorem Bjg:∀{l:List PV} {cs:List Value},Be.go l=true→EncC.go B w L l cs→EncC.go (fun b=>b<w.heap.size∧B b) w L l cs
 |[],cs,_,h=>h
 |a::l,cs,hv,⟨c1,c2,e,h1,h2⟩=>by
  simp only[Be.go,Bool.and_eq_true]at hv
  exact⟨c1,c2,e,Bm9 hv.1 h1,Bjg hv.2 h2⟩
end
theorem Bke:∀{l:List PV} {vs:List Value},Be.go l=true→EncVs B w L l vs→EncVs (fun b=>b<w.heap.size∧B b) w L l vs
 |[],vs,_,h=>h
 |a::l,vs,hv,⟨v,vs',e,h1,h2⟩=>by
  simp only[Be.go,Bool.and_eq_true]at hv
  exact⟨v,vs',e,h1.mono fun c h=>Bm9 hv.1 h,Bke hv.2 h2⟩
theorem Bf0{e:ET}{o:Option TypeId}{x:e.T}{s0:S}:Be (Em e o x s0).1=true:=by
 unfold Em
 split<;>rfl
theorem Bfe{e:ET}{o:Option TypeId}{x:e.T}{s0:S}(h:∀a∈s0.it,∃E e' l,a= .arr E e' l):∀a∈(Em e o x s0).2.it,∃E e' l,a= .arr E e' l:=by
 unfold Em
 split
 ·intro a ha
  simp only[S.add,List.mem_append,List.mem_singleton]at ha
  rcases ha with ha|ha
  ·exact h a ha
  ·exact⟨_,_,_,ha⟩
 ·exact h
theorem Bjz:∀(ls:LS) (x:LTy ls) (s0:S),Be.go (Er ls x s0).1=true
 |[],x,s0=>rfl
 |[p],x,s0=>by
  rw[Asc]
  have h1:Be (Em p.1 p.2 x s0).1=true:=Bf0
  simp only[Be.go,h1];rfl
 |p::q::r,(x,y),s0=>by
  rw[Ao4]
  have h1:Be (Em p.1 p.2 x s0).1=true:=Bf0
  simp only[Be.go,h1,Bjz (q::r) y _];rfl
theorem Bjr:∀(ls:LS) (x:LTy ls) (s0:S),(∀a∈s0.it,∃E e' l,a= .arr E e' l)→∀a∈(Er ls x s0).2.it,∃E e' l,a= .arr E e' l
 |[],x,s0,h=>h
 |[p],x,s0,h=>by rw[Asc];exact Bfe h
 |p::q::r,(x,y),s0,h=>by rw[Ao4];exact Bjr (q::r) y _ (Bfe h)
mutual
theorem Bz1:∀{sh:Sh} {vs r:List PV} {u:PV},Rh sh vs=some (u,r)→Be.go vs=true→Be u=true∧Be.go r=true
 | .lf e o,v::vs,r,u,h,hv=>by
  simp only[Rh,Option.some.injEq,Prod.mk.injEq]at h
  obtain⟨rfl,rfl⟩:=h
  simpa [Be.go]using hv
 | .lf e o,[],r,u,h,hv=>by simp[Rh]at h
 | .agg l,vs,r,u,h,hv=>by
  simp only[Rh]at h
  split at h
  ·rename_i us r' h1
   cases h
   exact Bad h1 hv
  ·cases h
theorem Bad:∀{l:List Sh} {vs r us:List PV},Rh.go l vs=some (us,r)→Be.go vs=true→Be.go us=true∧Be.go r=true
 |[],vs,r,us,h,hv=>by
  simp only[Rh.go,Option.some.injEq,Prod.mk.injEq]at h
  obtain⟨rfl,rfl⟩:=h
  exact⟨rfl,hv⟩
 |a::l,vs,r,us,h,hv=>by
  simp only[Rh.go]at h
  split at h
  ·rename_i u vs' h1
   split at h
   ·rename_i us' vs'' h2
    cases h
    obtain⟨g1,g2⟩:=Bz1 h1 hv
    obtain⟨g3,g4⟩:=Bad h2 g2
    exact⟨by simp[Be.go,g1,g3],g4⟩
   ·cases h
  ·cases h
end
theorem Ccs{rs:List Sh}{p:ET×Option TypeId}(hp:p∈shL rs)(h:Cem p=true):Cg4 rs=true:=by
 unfold Cg4;exact List.any_eq_true.2 ⟨p,hp,h⟩
theorem Akg{f:Nat}{fn:Func}{ps rs:List Sh}{F:LTy (shL ps)→Option (LTy (shL rs))}{RUN:S→Option (LTy (shL rs))}(hE:Ent P f)
  (hrun:∀x y pvs,args ps x=some pvs→F x=some y→RUN ⟨Yc 0 pvs,argI ps x,[]⟩=some y)
  (hcalls:∀(Z:Fix) (A:Reg) (L:List MD) (w:World) (s:S) (y:LTy (shL rs)) (vs:List Value) (Q:Ending→World→Prop),Z.gl=T.gl→Rel Z s [] A L (Azo vs) w→vs.length=ps.length→RUN s=some y→
   (∀s' A' L' σ' w',Ay5 P rs fn.results.toList s'=some y→Rel Z s' [] A' L' σ' w'→∃us,Aw8 P σ' w' fn.results.toList us∧Q (.returned (packRes us)) w')→Calls P f vs.toArray w Q):ConOk P T.gl f ⟨ps,rs,F⟩:=by
 refine⟨hE,fun R N w L0 vs pvs x y hx hlen0 hit0 hmob0 hvs hgl hy=>?_⟩
 have hx':args ps x=some pvs:=hx
 have hy':=hrun x y pvs hx' hy
 ·let Z:Fix:=⟨fun b=>((R b∧N b)∨∃p∈T.gl,p.1=b)∨¬N b∨w.heap.size≤b,fun b=>¬N b,w,fun b hb=> .inr (.inr hb),fun b hb=> .inr (.inl hb),T.gl,fun p hp=>⟨.inl (.inr ⟨p,hp,rfl⟩),fun h=>h (hgl p hp).2.1,(hgl p hp).1,(hgl p hp).2.2⟩⟩
  have hval:Be.go pvs=true:=by
   unfold args Axv at hx'
   split at hx'
   ·rename_i us hs
    cases hx'
    exact(Bad hs (Bjz _ _ _)).1
   ·cases hx'
  have hvs2:EncVs (fun b=>(b<w.heap.size∧N b)∧Z.R b) w L0 pvs vs:=EncVs.step (fun b hb=>⟨⟨hb.1,hb.2.2⟩, .inl (.inl hb.2)⟩) (fun _ _=>rfl) (.refl L0) (Bke hval hvs)
  have hst:St (fun b=>b<w.heap.size∧N b) w [.old Z.M Z.w0] (L0.map MD.Hs):=by
   refine⟨fun b hb=>hb.1,fun f hf=>?_,hmob0.Yb fun b hb=>hb.2⟩
   cases hf with
   |head=>exact⟨.refl _,fun b hb hM=>⟨⟨hb,Classical.not_not.1 hM⟩,rfl⟩⟩
   |tail _ h=>cases h
  have hr:Rel Z ⟨Yc 0 pvs,argI ps x,[]⟩ [] (fun b=>b<w.heap.size∧N b) L0 (Azo vs) w:=
   Rel.as (L:=L0) hst (i:=0) rfl ⟨⟨hlen0,fun i a m h1 h2=>by
    have h3:=hit0 i a m h1 h2
    obtain⟨E,e',l,rfl⟩:=Bjr (shL ps) x ⟨[],[],[]⟩ (by simp) a (List.mem_of_getElem? h1)
    cases m with
    |dead=>exact h3
    |box _ _ _=>exact h3
    |own z E2 v2 c2=>exact⟨h3.1,h3.2.1,h3.2.2.mono fun x c h=>Ap.step (fun b hb=>⟨⟨hb.1,hb.2.2⟩, .inl (.inl hb.2)⟩) (fun _ _=>rfl) (Zi h)⟩⟩,
    Avo hvs2 (fun i v hi=>by rw[Nat.zero_add];exact Bmp hi),trivial⟩ rfl
  have hlen:vs.length=pvs.length:=hvs.length
  have hpl:pvs.length=ps.length:=by
   unfold args Axv at hx'
   split at hx'
   ·rename_i us hs
    cases hx'
    have key:∀(l:List Sh) (vs r us:List PV),Rh.go l vs=some (us,r)→us.length=l.length:=by
     intro l
     induction l with
     |nil=>intro vs r us h;simp only[Rh.go,Option.some.injEq,Prod.mk.injEq]at h;obtain⟨rfl,_⟩:=h;rfl
     |cons a l ih=>
      intro vs r us h
      simp only[Rh.go]at h
      split at h
      ·split at h
       ·rename_i h2;cases h;simp[ih _ _ _ h2]
       ·cases h
      ·cases h
    exact key _ _ _ _ hs
   ·cases hx'
  refine hcalls Z _ _ w _ y vs _ rfl hr (hlen.trans hpl) hy' ?_
  intro s' A' L' σ' w' h1 hr'
  have fin:Ay5 P rs fn.results.toList s'=some y→∃us,Aw8 P σ' w' fn.results.toList us∧∃us',Ending.returned (packRes us)= .returned (packRes us')∧ResOk T.gl R N w w' rs y us':=by
   intro h1
   unfold Ay5 at h1
   split at h1
   ·cases h1
   ·rename_i ls0 hls0
    split at h1
    ·cases h1
    ·rename_i s1 hs1
     obtain⟨A1,L1,hr1,_⟩:=Qu hr' hs1
     split at h1
     ·rename_i ls hls
      obtain⟨ho,h1⟩:=Ar h1
      unfold Cj9 at hls
      split at hls
      ·rename_i vs1 hvs1
       obtain⟨us,hus,huv⟩:=Bdk hr1 hvs1
       refine⟨us,hus,us,rfl,?_⟩
       have hold:=hr1.fact 1 (f:= .old Z.M Z.w0) rfl
       have hA:∀b,b<w.heap.size→N b→A1 b:=fun b hb hN=>(hold.2 b hb (fun h=>h hN)).1
       have hkeep:KeepN N w w':=⟨fun b hb hN=>(hold.2 b hb (fun h=>h hN)).2,hold.1⟩
       have hmob:=Cfm (St.mobs hr1) (shL rs)
       obtain⟨hd,hidx⟩:=Ayj (s:=s1) (c:=L1.length) ho (by rw[hr1.len];exact Nat.le_refl _)
       refine⟨hkeep,fun b=>A1 b∧(¬N b∨w.heap.size≤b),(Gu (shL rs) ls L1.length).map (fun i=>(L1++Apr (shL rs)).getD i .dead),fun b hb=>⟨hb.2,St.lt hr1 b hb.1⟩,?_,?_⟩
       ·refine(Blv hmob hd).Yb ?_
        rintro b (hb|hb)
        ·exact hb.1
        ·exact hA b hb.1 hb.2
       ·intro s0 L0 B' hL0 hB1 hB2
        obtain⟨its,g1,g2,g3,g4⟩:=Bhy hr1 (B':=B') (LP:=L1++Apr (shL rs)) (fun i m hi=>by rw[List.getElem?_append_left (List.getElem?_eq_some_iff.1 hi).1];exact hi) (shL rs) ls y [] L1.length s0 L0 _ ho h1
         (fun p hp hl b hb=>by
          rcases hb.2 with hR|hN
          ·exact hB2 (Ccs hp hl) b hR
          ·exact hB1 b ⟨hb.1,hN⟩)
         (fun i m hi=>by rw[List.getElem?_append_right (by omega),Nat.add_sub_cancel_left];exact hi) hL0 rfl
        obtain⟨ps',g5,g6⟩:=Bcx hls huv g3
        exact⟨ps',its,g1,g5,g6,by rw[g2];simp,g4⟩
      ·cases hls
     ·cases h1
  obtain⟨us,k1,us',k2,k3⟩:=fin h1
  exact⟨us,k1,us',k2,k3⟩
theorem Buz(hMix:P.follows .mixedOrders=true){f:Nat}{fn:Func}{ans:List (Nat×An)}{an:An}{ps rs:List Sh}{F:LTy (shL ps)→Option (LTy (shL rs))}(hf:P.funcs[f]? =some fn)(hE:Ent P f)(hT:Aeg P T)(hA:∀p∈ans,Ent P p.1)
  (hle:Nat.ble ps.length fn.ntmps=true) (h:∀x,run P T ans fn an ps rs x=F x):ConOk P T.gl f ⟨ps,rs,F⟩:=by
 cases hc:fn.body with
 |none=>
  refine Akg (RUN:=fun _=>none) (fn:=fn) hE (fun x y pvs hx hy=>?_) (fun _ _ _ _ _ _ _ _ _ _ _ h=>by cases h)
  rw[←h x]at hy
  unfold run at hy
  rw[hc]at hy
  exact hy
 |some c=>
  refine Akg (T:=T) (fn:=fn) (RUN:=ex P T (Afk P T 8 ans) fn.ntmps c an {n:=Ay5 P rs fn.results.toList,x:=fun _ _=>none,r:=Ay5 P rs fn.results.toList}) hE (fun x y pvs hx hy=>?_) ?_
  ·rw[←h x]at hy
   unfold run at hy
   rw[hc,hx]at hy
   exact hy
  ·intro Z A L w s y vs Q hZ hr hl hy fin
   refine Bik (rs:=fn.results.toList) hf hc rfl (by simp) (by rw[hl];exact hle) (W.mono (Bfu hMix ⟨hT,hZ⟩ (Bbr hMix hT hA 8) c hy hr) ?_)
   rintro e σ' w' ⟨s',A',L',h1,hr'⟩
   cases e with
   |normal=>exact⟨.inr rfl,fin s' A' L' σ' w' h1 hr'⟩
   |ret=>exact⟨.inl rfl,fin s' A' L' σ' w' h1 hr'⟩
   |exit id=>cases h1
   |goto l=>cases h1
   |panic c=>cases h1
   |outgrown=>cases h1
end Go.Rx
set_option linter.unusedVariables false
namespace Go.Rx
open Go Go.Lv
structure Pt (R:Type)where
 q:Nat
 n:Nat
 c:Code
 an:An
 k:K R
inductive PS (R:Type)|l|r|d|lp (kn:S→Option R)|call (i f:Nat)|dcall (i f fuel:Nat) (z listed:Array Bool)
def Buq(f:Func):Code:=match f.body with|some c=>c|none=> .skip
variable {R:Type}
noncomputable def Pt.e(P:Program)(T:Tab)(ans:List (Nat×An))(p:Pt R)(s:S):Option R:=match p.c with
 | .loop _=>ex P T (Afk P T p.q ans) p.n p.c p.an p.k s
 |_=>hold (fun s=>ex P T (Afk P T p.q ans) p.n p.c p.an p.k s) s
noncomputable def Pt.it(P:Program)(T:Tab)(ans:List (Nat×An))(p:Pt R)(q:Nat)(s:S):Option R:=match p.c with
 | .loop a=>iter p.an (fun kn s'=>ex P T (Afk P T p.q ans) p.n a p.an.l {p.k with n:=kn} s') q s
 |_=>none
noncomputable def Pt.step(P:Program)(T:Tab)(ans:List (Nat×An))(p:Pt R):PS R→Pt R
 | .l=>match p.c with
  | .seq a b=>⟨p.q,p.n,a,p.an.l,{p.k with n:=Bhb p.an fun s'=>ex P T (Afk P T p.q ans) p.n b p.an.r p.k s'}⟩
  | .cond _ a _=>⟨p.q,p.n,a,p.an.l,p.k⟩
  |_=>p
 | .r=>match p.c with
  | .seq _ b=>⟨p.q,p.n,b,p.an.r,p.k⟩
  | .cond _ _ b=>⟨p.q,p.n,b,p.an.r,p.k⟩
  |_=>p
 | .d=>match p.c with
  | .block id a=>⟨p.q,p.n,a,p.an.l,{p.k with x:=fun id' s'=>Cg (Nat.beq id' id) (p.k.n s')<|p.k.x id' s'}⟩
  |_=>p
 | .lp kn=>match p.c with
  | .loop a=>⟨p.q,p.n,a,p.an.l,{p.k with n:=An1 p.an kn}⟩
  |_=>p
 | .call i f=>match p.c,p.q,P.funcs[f]?,Afk.getAn ans f with
  | .region _ ops false,q+1,some fn,some an=>
   let fin:=Afk.finK P fn.results.toList fun s v=>Azj P T (Bo4 p.an (Afk P T (q+1) ans)) p.n ops (ops.toList.drop (i+1)) (s.Gb ((ops[i]?).bind (·.dst)) v) p.k.n
   ⟨q,fn.ntmps,Buq fn,an,{n:=fin,x:=fun _ _=>none,r:=fin}⟩
  |_,_,_,_=>p
 | .dcall i f fuel z listed=>match p.c,p.q,P.funcs[f]?,Afk.getAn ans f with
  | .region _ ops true,q+1,some fn,some an=>
   let fin:=Afk.finK P fn.results.toList fun s v=>exD P T (Bo4 p.an (Afk P T (q+1) ans)) p.n (Bds p.an) ops fuel z listed (s.Gb ((ops[i]?).bind (·.dst)) v) p.k.n
   ⟨q,fn.ntmps,Buq fn,an,{n:=fin,x:=fun _ _=>none,r:=fin}⟩
  |_,_,_,_=>p
noncomputable def Pt.at(P:Program)(T:Tab)(ans:List (Nat×An)):Pt R→List (PS R)→Pt R
 |p,[]=>p
 |p,x::l=>Pt.at P T ans (p.step P T ans x) l
noncomputable def Pt.root(P:Program)(fn:Func)(an:An)(rs:List Sh):Pt (LTy (shL rs)):=
 ⟨8,fn.ntmps,Buq fn,an,{n:=Ay5 P rs fn.results.toList,x:=fun _ _=>none,r:=Ay5 P rs fn.results.toList}⟩
noncomputable def PE(P:Program)(T:Tab)(ans:List (Nat×An))(fn:Func)(an:An)(rs:List Sh)(l:List (PS (LTy (shL rs))))(s:S):Option (LTy (shL rs)):=(Pt.at P T ans (Pt.root P fn an rs) l).e P T ans s
noncomputable def PI(P:Program)(T:Tab)(ans:List (Nat×An))(fn:Func)(an:An)(rs:List Sh)(l:List (PS (LTy (shL rs))))(q:Nat)(s:S):Option (LTy (shL rs)):=(Pt.at P T ans (Pt.root P fn an rs) l).it P T ans q s
theorem Bjm(a:Option R):both a [a,a]=a:=by simp[both]
theorem Bhq(a:Option R):both a [a,a,a]=a:=by simp[both]
end Go.Rx
namespace Go.Rx
open Go Go.Lv
theorem ConOk.mono{P:Program}{gl gl':List (Nat×List Value)}{f:Nat}{c:Con}(h:ConOk P gl f c)(hs:gl.Sublist gl'):ConOk P gl' f c:=by
 refine⟨h.ent,fun R N w L0 vs ps x y h1 h2 h3 h4 h5 h6 h7=>(h.ok R N w L0 vs ps x y h1 h2 h3 h4 h5 (fun p hp=>h6 p (hs.subset hp)) h7).mono ?_⟩
 rintro e w' ⟨us,he,hk,A1,L1,g1,g2,g3⟩
 exact⟨us,he,hk,A1,L1,g1,g2,fun s L B' k1 k2 k3=>g3 s L B' k1 k2 fun hr b hb=>k3 hr b (hb.imp id fun⟨p,hp,he⟩=>⟨p,hs.subset hp,he⟩)⟩
theorem Aeg.nil{P:Program}{gl:List (Nat×List Value)}{vw:Bool}:Aeg P ⟨[],gl,vw⟩:=fun f c h=>by cases h
theorem Aeg.cons{P:Program}{g:Nat}{c:Con}{r:List (Nat×Con)}{gl:List (Nat×List Value)}{vw:Bool}(h:ConOk P gl g c)(hr:Aeg P ⟨r,gl,vw⟩):Aeg P ⟨(g,c)::r,gl,vw⟩:=fun f c' h'=>by
 simp only[Tab.get,Cjw]at h'
 cases hb:Nat.beq g f with
 |true=>
  rw[hb]at h'
  have:=By hb
  subst this
  cases h';exact h
 |false=>rw[hb]at h';exact hr f c' h'
theorem AnsOk.nil{P:Program}:∀p∈([]:List (Nat×An)),Ent P p.1:=by simp
theorem AnsOk.cons{P:Program}{g:Nat}{a:An}{r:List (Nat×An)}(h:Ent P g)(hr:∀p∈r,Ent P p.1):∀p∈(g,a)::r,Ent P p.1:=by
 intro p hp
 rcases List.mem_cons.1 hp with rfl|hp
 ·exact h
 ·exact hr p hp
end Go.Rx
namespace Go.Rx
variable {R α:Type}
theorem Vz{a b c:Option R}(h:a=c)(h1:b=c):both a [b]=c:=by subst h;subst h1;exact Beb _
theorem Vs{a b d c:Option R}(h:a=c)(h1:b=c)(h2:d=c):both a [b,d]=c:=by subst h;subst h1;subst h2;exact Bjm _
theorem Vu{a b d e c:Option R}(h:a=c)(h1:b=c)(h2:d=c)(h3:e=c):both a [b,d,e]=c:=by subst h;subst h1;subst h2;subst h3;exact Bhq _
theorem Ac1{l:List α}{a b c:Option R}(h:l=[]→a=c)(h1:b=c):Blm l a b=c:=by subst h1;exact Cig h
theorem Acy{o:Option α}{f g:α→Option R}(h:∀x,f x=g x):Option.bind o f=Option.bind o g:=by rw[funext h]
theorem Mc{o:Option α}{f:α→Option R}{t:Option R}(h:o=none→none=t)(h1:∀x,o=some x→f x=t):Option.bind o f=t:=by
 cases o with
 |none=>exact h rfl
 |some x=>exact h1 x rfl
theorem Aby(f:α→Option R):Option.bind none f=none:=rfl
theorem Hx(x:α)(f:α→Option R):Option.bind (some x) f=f x:=rfl
theorem Hh(o:Option α):Option.bind o (fun _=>(none:Option R))=none:=by cases o<;>rfl
theorem Anc{c:Prop} [Decidable c]{a b a' b':Option R}(h:c→a=a')(h1:¬c→b=b'):(if c then a else b)=if c then a' else b':=by
 by_cases hc:c
 ·rw[if_pos hc,if_pos hc];exact h hc
 ·rw[if_neg hc,if_neg hc];exact h1 hc
theorem Pq{c:Prop} [Decidable c]{a b t:Option R}(h:c→a=t)(h1:¬c→b=t):(if c then a else b)=t:=by
 by_cases hc:c
 ·rw[if_pos hc];exact h hc
 ·rw[if_neg hc];exact h1 hc
abbrev vi(x:Int):PV:= .val (.int .i64) x
abbrev vc(x:UInt8):PV:= .val (.int .u8) x
abbrev vu(x:UInt32):PV:= .val (.int .u32) x
abbrev vq(x:UInt64):PV:= .val (.int .u64) x
abbrev vx(x:Int32):PV:= .val (.int .i32) x
abbrev vt(x:Bool):PV:= .val .bool x
abbrev vs(x:List UInt8):PV:= .val .str x
abbrev vb(x:List UInt8):PV:= .val (.list (.int .u8)) x
abbrev vl(x:List Int):PV:= .val (.list (.int .i64)) x
abbrev vw(x:List Int32):PV:= .val (.list (.int .i32)) x
abbrev vv(x:List UInt32):PV:= .val (.list (.int .u32)) x
end Go.Rx
set_option linter.unusedVariables false
namespace Go.Rx
open Go Go.Lv
structure Hd where
 p:List Sh
 r:List Sh
 a:An
 T:Tab
 s:List (Nat×An)
 f:Func
noncomputable def Hd.e(P:Program)(H:Hd):List (PS (LTy (shL H.r)))→S→Option (LTy (shL H.r)):=PE P H.T H.s H.f H.a H.r
noncomputable def Hd.i(P:Program)(H:Hd):List (PS (LTy (shL H.r)))→Nat→S→Option (LTy (shL H.r)):=PI P H.T H.s H.f H.a H.r
noncomputable def Hd.u(P:Program)(H:Hd)(x:LTy (shL H.p)):Option (LTy (shL H.r)):=run P H.T H.s H.f H.a H.p H.r x
def okH(H:Hd):Bool:=(!(H.f.name== "runtime.NumGoroutine")&&H.f.body.isSome)&&Nat.ble H.p.length H.f.ntmps
theorem Hd.con{P:Program}(hM:P.follows .mixedOrders=true)(H:Hd){f:Nat}{F:LTy (shL H.p)→Option (LTy (shL H.r))}(hf:P.funcs[f]? =some H.f)(hT:Aeg P H.T)(hA:∀p∈H.s,Ent P p.1)
  (hb:okH H=true) (h:∀x,H.u P x=F x):ConOk P H.T.gl f ⟨H.p,H.r,F⟩:=by
 simp only[okH,Bool.and_eq_true,Bool.not_eq_true']at hb
 obtain⟨c,hc⟩:=Option.isSome_iff_exists.1 hb.1.2
 exact Buz (T:=H.T) hM hf (Ent.mk hf hb.1.1 hc) hT hA hb.2 h
theorem Hd.Cms{P:Program}(hM:P.follows .mixedOrders=true)(H:Hd){f:Nat}{F:LTy (shL H.p)→Option (LTy (shL H.r))}(hf:P.funcs[f]? =some H.f)(hT:Aeg P H.T)
  (hb:(H.s.isEmpty&&okH H)=true) (h:∀x,H.u P x=F x):ConOk P H.T.gl f ⟨H.p,H.r,F⟩:=by
 rw[Bool.and_eq_true,List.isEmpty_iff]at hb
 exact Hd.con hM H hf hT (fun p hp=>by rw[hb.1]at hp;cases hp) hb.2 h
theorem ind{p:Nat→Prop}(h:p 0)(hs:∀q,p q→p (q+1)):∀q,p q:=fun q=>Nat.rec h hs q
variable {R α:Type}
noncomputable abbrev bo(a:Option R):Option R:=both a [a]
noncomputable abbrev bo2(a:Option R):Option R:=both a [a,a]
theorem Bc4(a:Option R):both a [a]=a:=Beb a
theorem Atk(a:Option R):both a [a,a]=a:=Bjm a
theorem Asf(a:Option R):both a [a,a,a]=a:=Bhq a
abbrev Si:Sh:= .lf (.int .i64) none
abbrev Sc:Sh:= .lf (.int .u8) none
abbrev Su:Sh:= .lf (.int .u32) none
abbrev Sq:Sh:= .lf (.int .u64) none
abbrev Sx:Sh:= .lf (.int .i32) none
abbrev Sz:Sh:= .lf .bool none
abbrev Ss:Sh:= .lf .str none
abbrev Sb:Sh:= .lf (.list (.int .u8)) none
abbrev Sl:Sh:= .lf (.list (.int .i64)) none
abbrev Sw:Sh:= .lf (.list (.int .i32)) none
abbrev Sv:Sh:= .lf (.list (.int .u32)) none
abbrev Ob(e:Nat):Sh:= .lf (.list (.int .u8)) (some e)
abbrev Ol(e:Nat):Sh:= .lf (.list (.int .i64)) (some e)
abbrev Ow(e:Nat):Sh:= .lf (.list (.int .i32)) (some e)
abbrev Ov(e:Nat):Sh:= .lf (.list (.int .u32)) (some e)
abbrev Ai(e:Nat)(l:List Int):Item:= .arr e (.int .i64) l
abbrev Ab(e:Nat)(l:List UInt8):Item:= .arr e (.int .u8) l
abbrev Aw(e:Nat)(l:List Int32):Item:= .arr e (.int .i32) l
abbrev Av(e:Nat)(l:List UInt32):Item:= .arr e (.int .u32) l
abbrev An.q(a:An):An:= .seq .d a
end Go.Rx
set_option linter.unusedVariables false
set_option linter.unusedSimpArgs false
namespace Go.Rx
open Go Go.Lv Go.RowKit
variable {P:Program}
theorem Al0{B:Reg}{w:World}{k:Kd}:∀(l:List k.T),Bs (Ap B w (.int k)) l (Go.Lv.Aea (k:=k.k) l)
 |[]=>rfl
 |x::l=>⟨[iv (T:=k.T) (k:=k.k) x],Go.Lv.Aea (k:=k.k) l,rfl,rfl,Al0 l⟩
theorem Rd.Yb{A B:Reg}{w:World}{s:Nat}{v:Value}{cs:List Value}(h:Rd A w s v cs)(ha:∀b,A b→B b):Rd B w s v cs:=h.step ha fun _ _=>rfl
theorem enc_row{w:World}{k:Kd}{v:Value}{l:List k.T}(h:Rd (fun _=>True) w 1 v (Go.Lv.Aea (k:=k.k) l)):EncV (fun _=>True∧True) w [] (.val (.list (.int k)) l) v:=
 ⟨v,_,rfl,Rd.Yb h fun _ _=>⟨trivial,trivial⟩,Al0 l⟩
theorem enc_iv{w:World}{k:Kd}(x:k.T):EncV (fun _=>True∧True) w [] (.val (.int k) x) (iv (T:=k.T) (k:=k.k) x):=rfl
theorem enc_str{w:World}(s:List UInt8):EncV (fun _=>True∧True) w [] (.val .str s) (sv s):=rfl
theorem string_sv(a:ByteArray):∃l,(.string a:Value)=sv l:=⟨a.data.toList,by cases a;rfl⟩
theorem encs_nil{B:Reg}{w:World}:EncVs B w [] [] []:=rfl
theorem encs_cons{B:Reg}{w:World}{p:PV}{ps:List PV}{v:Value}{vs:List Value}(h:EncV B w [] p v)(hs:EncVs B w [] ps vs):EncVs B w [] (p::ps) (v::vs):=⟨v,vs,rfl,h,hs⟩
theorem row_true{gl:List (Nat×List Value)}{f:Nat}{ps:List Sh}{F:LTy (shL ps)→Option Bool}(hC:ConOk P gl f ⟨ps,[.lf .bool none],F⟩){x:LTy (shL ps)}{pvs:List PV}{vs:List Value}(ha:args ps x=some pvs)(hi:argI ps x=[]){w:World}
  (hv:EncVs (fun _=>True∧True) w [] pvs vs) (hg:GlOk gl (fun _=>True) w) (hF:F x=some true):Calls P f vs.toArray w fun e w'=>e= .returned (.bool true)∧Below w.heap.size w w':=by
 refine(hC.ok (fun _=>True) (fun _=>True) w [] vs pvs x true ha (by rw[hi];rfl) (fun i a m h=>by rw[hi]at h;simp at h) trivial hv hg hF).mono ?_
 rintro e w' ⟨us,rfl,hk,A1,L1,g1,g2,g3⟩
 obtain⟨qs,its,k1,k2,k3,k4,k5⟩:=g3 ⟨[],[],[]⟩ [] (fun _=>True) rfl (fun _ _=>trivial) (fun _ _ _=>trivial)
 refine⟨?_,⟨hk.gr.os,hk.gr.tape,hk.gr.output,hk.gr.le,fun b hb=>hk.same b hb trivial⟩⟩
 obtain rfl:=Option.some.inj (show some [PV.val .bool true]=some qs from k2)
 obtain⟨_,_,rfl,e1,rfl⟩:=k3
 cases(show [_]=[Value.bool true]from e1)
 rfl
theorem laid_ints{H:Type}{enc:TypeId×Value→H}{w:World}{fuel:Nat}{t e n:Nat}{k:IntKind}{cs:List Value}{zs:List Int}{p:List MemPlace}(hu:P.underlying t=some (.array n e))(he:P.underlying e=some (.int k))(hc:P.cellsOf e=1)(ht:P.cellsOf t=n)
  (h:DataW.trod enc P w 0 (fun _=>true) false fuel t cs=some (.agg (zs.map fun z=> .lit (.int k z)),p)):cs=zs.map fun z=>Value.int k z:=by
 obtain⟨xs,m,rfl,hx,hlen,hn,hel⟩:=DataW.trod_array hu h
 simp only[Prod.mk.injEq,DataW.agg.injEq]at hx
 rw[ht]at hlen
 have hz:zs.length=n:=by
  have:=congrArg List.length hx.1
  simpa [hn]using this
 apply List.ext_getElem?
 intro i
 by_cases hi:i<n
 ·have h0:=hel i hi
  rw[hc,Nat.mul_one]at h0
  have hxi:xs[i]? =some xs[i]:=List.getElem?_eq_getElem (by omega)
  rw[hxi]at h0
  obtain⟨q,e1,e2,_⟩:=DataW.trod_int he h0
  have e3:(cs.drop i).take 1=[cs[i]'(by omega)]:=by
   rw[List.drop_eq_getElem_cons (by omega)];rfl
  rw[e3]at e1
  have e4:(xs.map (·.1))[i]? =(zs.map fun z=>(DataW.lit (.int k z):DataW H))[i]? :=by rw[←hx.1]
  rw[List.getElem?_map,List.getElem?_map,hxi,List.getElem?_eq_getElem (by omega),e2]at e4
  simp only[Option.map_some,Option.some.injEq,DataW.lit.injEq,Lit.int.injEq,true_and]at e4
  rw[List.getElem?_map,List.getElem?_eq_getElem (by omega),List.getElem?_eq_getElem (by omega)]
  simp only[List.cons.injEq,and_true]at e1
  rw[e1,e4];rfl
 ·rw[List.getElem?_eq_none (by omega),List.getElem?_eq_none (by simp;omega)]
theorem glOk_cons{n:String}{g:Nat}{cs:Array Value}{l:List Value}{gl:List (Nat×List Value)}{w:World}(hg:P.globalNamed n=some g)(hv:w.var? P n=some cs)(hl:cs.toList=l)(h:GlOk gl (fun _=>True) w):GlOk ((g,l)::gl) (fun _=>True) w:=by
 intro p hp
 rcases List.mem_cons.1 hp with rfl|hp
 ·simp only[World.var?,hg,Option.bind_some]at hv
  split at hv
  ·rename_i cs' T fr hh
   cases hv
   refine⟨(Array.getElem?_eq_some_iff.1 hh).1,trivial,T,fr,?_⟩
   rw[hh,←hl]
  ·cases hv
 ·exact h p hp
theorem glOk_nil{w:World}{N:Reg}:GlOk [] N w:=fun p hp=>by simp at hp
end Go.Rx
set_option linter.unusedVariables false
namespace Go.Rx
open Go Go.Lv Go.RowKit Go.ChangeShapes Go.WideShapes
variable {P:Program}
theorem agg_nil{B:Reg}{w:World}:EncC.go B w [] [] []:=rfl
theorem agg_leaf{B:Reg}{w:World}{p:PV}{ps:List PV}{v:Value}{vs:List Value}(ha:p.isA=false)(h:EncV B w [] p v)(hs:EncC.go B w [] ps vs):EncC.go B w [] (p::ps) (v::vs):=by
 refine⟨[v],vs,rfl,?_,hs⟩
 unfold EncV at h
 rw[ha]at h
 exact h
theorem enc_agg{B:Reg}{w:World}{l:List PV}{c:List Value}(h:EncC.go B w [] l c):EncV B w [] (.agg l) (.agg c.toArray):=⟨c,rfl,h⟩
theorem fld{H:Type}{enc:TypeId×Value→H}{w:World}{base:Nat}{spare:Nat→Bool}{held:Bool}{fuel:Nat}{t:TypeId}{fs:Array Field}{cs:List Value}{x:DataW H×List MemPlace}(ht:P.underlying t=some (.struct fs))(h:DataW.trod enc P w base spare held fuel t cs=some x)
  (i:Nat) {ft:TypeId} {off k:Nat} {part:List Value} (hf:(fs[i]?).map (fun f=>(f.type,f.offset))=some (ft,off)) (hc:P.cellsOf ft=k) (hd:(cs.drop off).take k=part):∃n y,DataW.trod enc P w base spare held n ft part=some y:=by
 obtain⟨xs,n,_,_,_,hn,hel⟩:=DataW.trod_struct ht h
 cases hi:fs[i]? with
 |none=>rw[hi]at hf;cases hf
 |some f=>
  rw[hi]at hf
  cases hf
  have g:=hel i f hi
  rw[hc,hd,List.getElem?_eq_getElem (by rw[hn];exact(Array.getElem?_eq_some_iff.1 hi).1)]at g
  exact⟨n,_,g⟩
section
variable {H:Type} {enc:TypeId×Value→H} {w:World} {base:Nat} {spare:Nat→Bool} {held:Bool} {fuel:Nat} {t:TypeId} {fs:Array Field} {cs:List Value} {x:DataW H×List MemPlace} (ht:P.underlying t=some (.struct fs)) (h:DataW.trod enc P w base spare held fuel t cs=some x)
  (i:Nat) {ft:TypeId} {off:Nat} {e:Value} (hf:(fs[i]?).map (fun f=>(f.type,f.offset))=some (ft,off)) (hc:P.cellsOf ft=1)
include ht h hf hc
theorem fld_int{k:IntKind}(hk:P.underlying ft=some (.int k))(hd:(cs.drop off).take 1=[e]):∃a,e= .int k a∧(Lit.int k a).wf=true:=by
 obtain⟨n,y,g⟩:=fld ht h i hf hc hd
 obtain⟨a,e1,_,hw⟩:=DataW.trod_int hk g
 cases e1;exact⟨a,rfl,hw⟩
end
theorem fld_row{H:Type}{enc:TypeId×Value→H}{w:World}{held:Bool}{fuel:Nat}{t:TypeId}{fs:Array Field}{cs:List Value}{x:DataW H×List MemPlace}(ht:P.underlying t=some (.struct fs))(h:DataW.trod enc P w 0 (fun _=>true) held fuel t cs=some x)
  (i:Nat) {ft et:TypeId} {off:Nat} {e:Value} (hf:(fs[i]?).map (fun f=>(f.type,f.offset))=some (ft,off)) (hc:P.cellsOf ft=1) {k:IntKind} (hk:P.underlying ft=some (.slice et)) (he:P.underlying et=some (.int k)) (h1:P.cellsOf et=1) (hd:(cs.drop off).take 1=[e]):
  ∃(a:Option Addr) (len cap:Nat) (zs:List Int),e= .slice a len cap∧((a=none∧len=0∧cap=0∧zs=[])∨∃x,a=some x∧len≤cap∧cap≤maxLen∧zs.length=cap∧(∀i,i<zs.length→w.cell? (x.add i)=some (.int k (zs.getD i 0)))∧∀n∈zs,(Lit.int k n).wf=true):=by
 obtain⟨n,y,g⟩:=fld ht h i hf hc hd
 rcases open_ints hk he h1 g with⟨e1,_⟩|⟨x,l,c,zs,e1,_,hl,hm,hz,_,hcell,hwz⟩
 ·cases e1;exact⟨none,0,0,[],rfl, .inl ⟨rfl,rfl,rfl,rfl⟩⟩
 ·cases e1;exact⟨some x,l,c,zs,rfl, .inr ⟨x,rfl,hl,hm,by simpa using hz,hcell,hwz⟩⟩
end Go.Rx
set_option linter.unusedVariables false
namespace Go.Rx
open Go Go.Lv Go.RowKit Go.ChangeShapes Go.WideShapes
variable {P:Program}
end Go.Rx
