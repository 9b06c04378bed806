/- A part of a proof (see the text that ends in Proof). No conditions. -/
import Derived.Test.YtaokmgopghpikaaGreatDoorSeBA
import Derived.MapKept
import Derived.ProofKit
import Derived.LaidMore
import Derived.DataReads
import Derived.ChangeSame
set_option linter.unusedVariables false
set_option linter.unusedSimpArgs false
namespace Go.Rx
open Go Go.Lv
variable{j:Int}{q:IntKind}{x ix:Operand}{p u:PV}{v:Value}
variable {P:Program} {w w':World} {L L':List MD} {s:S} {σs:List Env} {σ:Env} {Z:Fix} {A A':Reg} {n:Nat} {ops:Array Oper} {rest:List Oper} {K:Env->World->Prop}
variable {R:Type} {k:S->Option R} {r:R} {d:Option Nat} {ty:TypeId} {pos:String} {after:Array Edge}
theorem WL.YF{o:Oper}{w':World}(hg:o.guard=none)(hdn:Ln n o=true)
  (hx:(execOp (ev σ) o).run P w= .ok (.value v) w') (h:WL P n ops rest K (Z9 σ o.dst v) w'):WL P n ops (o::rest) K σ w:=by
 intro ds a ha;refine iU hg λK' hK'=>?_;unfold Oper.wp;rw[ha.eval,hx];refine hK' _ _ ?_;cases hd:o.dst with
 |none=>rw[hd]at h;exact h _ _ (ha.L8 v)
 |some d=>
  rw[hd]at h;unfold Ln at hdn;rw[hd]at hdn;exact h _ _ (ha.put hdn v)
def U8(Z:Fix)(σs:List Env)(k:S->Option R)(r:R)(G:Prop)(A:Reg)(L:List MD)(it:List Item)(w:World)(σ':Env)(w':World):Prop:=
 ∃s' A' L',k s'=some r/\Rel Z s' σs A' L' σ' w'/\ (G->Grow A L it w A' L' s'.it w')
abbrev DF(P:Program)(n:Nat)(ops:Array Oper)(o:Oper)(Z:Fix)(s:S)(σs:List Env)(k:S->Option R)(r:R)(G:Prop)(A:Reg)(L:List MD)(σ:Env)(w:World):Prop:=
 WL P n ops [o] (U8 Z σs k r G A L s.it w) σ w
theorem En{o:Op}{val:Value}{G:Prop}(hr:Rel Z s σs A L σ w)(hd:Ln n ⟨d,o,ty,pos,after,none⟩=true)(hx:XO P σ w o val)(hv:p.isV=true)(h:Gi (λb=>A b/\Z.R b) w L p val)
  (hk:k (s.Hm d p)=some r):DF P n ops ⟨d,o,ty,pos,after,none⟩ Z s σs k r G A L σ w:=by
 refine WL.YF rfl hd (hx _ _ _ _ _) (WL.nil ⟨_,A,L,hk,hr.Hm hv h,λ_=>?_⟩);have:(s.Hm d p).it=s.it:=by cases d<;>rfl
 rw[this];exact .refl
theorem NP{B:Reg}(h:gA p=some j)(hv:Gi B w L p v):∃q,v= .int q j:=by
 unfold gA at h;split at h
 ·rename_i e x;split at h
  ·cases h;exact⟨_,PG hv⟩
  ·cases h
 ·cases h
theorem XV(h:gA p=some j):p.isV=true:=by unfold gA at h;split at h;rfl;cases h
theorem E9{B:Reg}(h:asInt p=some j)(hv:Gi B w L p v):v=iv j:=by
 unfold asInt at h;split at h
 ·rename_i e x;split at h
  ·rename_i q y;split at h
   ·cases h;exact PG hv
   ·cases h
  ·cases h
 ·cases h
theorem vo(h:asInt p=some j):p.isV=true:=by unfold asInt at h;split at h;rfl;cases h
theorem Na{o:Option Operand}{dflt:Int}{B:Reg}(hm:Hr B w L σ s.sl)(h:ZJ s.sl o dflt=some j):(∃q,o.map (ev σ)=some (.int q j))\/ (o=none/\j=dflt):=by
 unfold ZJ at h;split at h
 ·cases h;exact .inr ⟨rfl,rfl⟩
 ·rename_i x;obtain⟨q,hq⟩:=NP h (Ts hm x (XV h));exact .inl ⟨q,by rw[YW,hq]⟩
theorem X.tU{t:TypeId}{l:List UInt8}{y:UInt8}(ht:P.underlying t=some .string)(hx:ev σ x=sv l)(hi:ev σ ix= .int q j)(hg:Aj l j=some y):
  XO P σ w (.index t x ix) (iv y):=λ_ _ _ _ _=>by
 obtain⟨h1,h2,h3⟩:=Lg hg;have h4:=run_index_string (P:=P) w t ⟨l.toArray⟩ q j ht;have h5:0<=j/\j<(⟨l.toArray⟩:ByteArray).size:=by simp[ByteArray.size];omega
 rw[dif_pos h5]at h4;have h6:(⟨l.toArray⟩:ByteArray)[j.toNat]'(by simp[ByteArray.size];omega)=y:=by
  have e1:l[j.toNat]=y:=by rw[RR h2]at h3;simpa using h3
  rw[<-e1];rfl
 simp only[execOp,hx,hi,L3,h4,J6,R5,fZ];rw[h6]
theorem Amu{t et:TypeId}{m:Nat}{e:ET}{l:List e.T}{y:e.T}{cs:List Value}{B:Reg}(ht:P.underlying t=some (.array m et))(hsz:Kl P et e.size)
  (hag:∃u,P.underlying et=some u/\ZA u=(e.pv y).isA) (h1:(e.pv y).isA=false->e.size=1) (hlen:l.length=m)
  (hx:ev σ x= .agg cs.toArray) (hl:Cs (Be B w e) l cs) (hi:ev σ ix= .int q j) (hg:Aj l j=some y):∃val,XO P σ w (.index t x ix) val/\Jj B w L (e.pv y) val:=by
 obtain⟨h3,h4,h5⟩:=Lg hg;obtain⟨c1,c2,c3,he,h6,h7,_⟩:=Cs.get (λx c h=>Be.len h) hl h5;have h8:0<=j/\j<(m:Int):=F0
 obtain⟨u,hu,ha⟩:=hag;have hc2:=h7.len;cases hA:(e.pv y).isA with
 |true=>
  refine⟨.agg c2.toArray,λ_ _ _ _ _=>?_,by unfold Jj;rw[hA];exact⟨c2,rfl,ZY.2 h7⟩⟩;have e1:(cs.drop (j.toNat*e.size)).take e.size=c2:=by rw[he,<-h6,<-hc2];simp
  simp[execOp,hx,hi,Instr.index,asIntOf,H? ht,h8,Ch hsz,asAgg,part,Ga hu (ha.trans hA),e1]
 |false=>
  rw[h1 hA]at hc2
  match c2,hc2 with
  |[v],_=>
   refine⟨v,λ_ _ _ _ _=>?_,by unfold Jj;rw[hA];exact ZY.2 h7⟩;have e1:cs[j.toNat*e.size]? =some v:=by rw[he,<-h6];simp
   simp[execOp,hx,hi,Instr.index,asIntOf,H? ht,h8,Ch hsz,asAgg,part,Ga hu (ha.trans hA),e1]
theorem Vi{t et:TypeId}{b o len cap z:Nat}(ht:P.underlying t=some (.slice et))(hsz:Kl P et z)(hx:ev σ x= .slice (some ⟨b,o,none⟩) len cap)(hi:ev σ ix= .int q j)
  (h0:0<=j) (h1:j<len) (w:World):XO P σ w (.indexAddr t x ix) (.pointer (some ⟨b,o+j.toNat*z,none⟩)):=λ_ _ _ _ _=>by
 simp only[execOp,hx,hi,Instr.indexAt,L3,asIntOf,R5,J6,H? ht,h0,h1,and_self,U3,Ch hsz,Pb]
theorem ZS{t et:TypeId}{b o m z:Nat}(ht:P.underlying t=some (.array m et))(hsz:Kl P et z)(hx:ev σ x= .pointer (some ⟨b,o,none⟩))(hi:ev σ ix= .int q j)
  (h0:0<=j) (h1:j<m) (w:World):XO P σ w (.indexAddr t x ix) (.pointer (some ⟨b,o+j.toNat*z,none⟩)):=λ_ _ _ _ _=>by
 simp only[execOp,hx,hi,Instr.indexAt,Instr.sureAddr,L3,asIntOf,R5,J6,H? ht,h0,h1,and_self,U3,Ch hsz,Pb]
theorem Gj{t:TypeId}{i:TypeInfo}{z:Nat}(h:P.info? t=some i)(hz:Nat.beq i.size z=true):Kl P t z:=⟨i,h,Df hz⟩
theorem Rel.base(hr:Rel Z s σs A L σ w){i z:Nat}{E:TypeId}{cs:List Value}(h:L[i]? =some (.own z E v cs))(hne:0<cs.length):∃b len cap,v= .slice (some ⟨b,0,none⟩) len cap/\cs.length=len*z:=by
 obtain⟨b,m,c,hv,_⟩:=St.zl hr (hr.Kz h) hne;obtain⟨p,len,cap,h1,h2,_⟩:=hr.Vs h;subst hv;cases h1;exact⟨b,m,c,rfl,h2⟩
theorem fD(st:Step):∀(p:List Step),Ba (p++[st])=Ba p+mT st
 |[]=>by simp[Ba]
 |a::p=>by simp[Ba,fD st p,RU]
theorem Aai{t:TypeId}{G:Prop}(hr:Rel Z s σs A L σ w)(hd:Ln n ⟨d, .indexAddr t x ix,ty,pos,after,none⟩=true)(h:vT P s d t x ix k=some r):
  DF P n ops ⟨d, .indexAddr t x ix,ty,pos,after,none⟩ Z s σs k r G A L σ w:=by
 have hm:=hr.mem;unfold vT at h;split at h
 ·cases h
 ·rename_i j hj;obtain⟨q,hix⟩:=NP hj (Ts hm.sl ix (XV hj));split at h
  ·rename_i et ht;split at h
   ·cases h
   ·rename_i inf Vb;split at h
    ·rename_i e0 l0 hx;split at h
     ·rename_i e l;obtain⟨hb,h⟩:=Bb h;simp only[DG]at hb;obtain⟨y,hy,h⟩:=bind_some h;obtain⟨hj0,hj1,hj2⟩:=Lg hy;obtain⟨c0,h1,h2⟩:=EP (Dm hm.sl hx rfl);obtain⟨p,len,cap,h3,h4,h5,h6,h7⟩:=h1;have hlen:=h2.len λx c h=>Be.len h;have hz:0<e.size:=by have:=V2 hb.2;omega
      have hl:len=l.length:=TY hz (h4.symm.trans hlen);subst hl;obtain⟨b,off,arr,T,fr,rfl,hB,hbl,hcap,hc⟩:=h7 F0;obtain⟨c1,c2,c3,he,h8,h9,_⟩:=Cs.get (λx c h=>Be.len h) h2 hj2;have h10:c2.length=e.size:=h9.len;have h11:(j.toNat+1)*e.size<=l.length*e.size:=J? _ hj1;rw[WE]at h11;have hp:qd (λb=>A b/\Z.R b) w (.pointer (some ⟨b,off+j.toNat*e.size,none⟩)) c2:=by
       refine⟨b,off+j.toNat*e.size,arr,T,fr,rfl,hB,hbl,λq hq=>?_⟩;rw[RU,hc _ F0,he,TJ F0,h8,show j.toNat*e.size+q-j.toNat*e.size=q by omega,RM hq]
      have hvr:Gi (λb=>A b/\Z.R b) w L (.rptr (e.pv y)) (.pointer (some ⟨b,off+j.toNat*e.size,none⟩)):=⟨_,c2,rfl,hp,ZY.2 h9⟩;exact En hr hd (Vi ht (Gj Vb hb.1) h3 hix F0 F0 w) rfl hvr h
     ·cases h
    ·rename_i i hx;split at h
     ·rename_i E e l hi;obtain⟨hb,h⟩:=Bb h;simp only[DG]at hb;obtain⟨y,hy,h⟩:=bind_some h;obtain⟨hj0,hj1,hj2⟩:=Lg hy;obtain⟨v,cs,h1,h2⟩:=hm.arr hi;obtain⟨z',E',c',h3⟩:=PH (Dm hm.sl hx rfl);rw[h1]at h3;cases h3;have hlen:=h2.len λx c h=>Be.len h;have hz:0<e.size:=by have:=V2 hb.2;omega
      have hpos:0<cs.length:=by rw[hlen];exact XD F0 hz
      obtain⟨b,len,cap,h4,h5⟩:=hr.base h1 hpos;have hl:len=l.length:=TY hz (h5.symm.trans hlen);subst hl;have:=Vi ht (Gj Vb hb.1) h4 hix F0 F0 w;refine En hr hd this rfl ?_ h;rw[show(0:Nat)+j.toNat*e.size=Ba [.idx j e.size] by simp[Ba,mT]];refine OV h1 ?_;rw[h4];rfl
     ·cases h
    ·rename_i o i p e lo n' hx;obtain⟨hb,h⟩:=Bb h;simp only[DG]at hb;obtain⟨_,hok,h⟩:=bind_some h;have hj':0<=j/\j<n':=WU (Yw hok);obtain⟨md,v1,h3,h4,k1,k2,⟨pt,cap,k3,k4,k5,k6⟩,_⟩:=Dm hm.sl hx rfl;have h6:ev σ x=v1:=by simpa using h4
     obtain⟨b,e1,rfl⟩:=k6 F0;have:=Vi ht (Gj Vb hb.1) (h6.trans k3) hix hj'.1 F0 w;refine En hr hd this rfl ?_ h;rw[show Ba p+lo.toNat*e.size+j.toNat*e.size=Ba (p++[.idx (lo+j) e.size]) by
      rw[fD,RU,<-H9]
      show _=Ba p+(lo+j).toNat*e.size;rw[Int.toNat_add k1 hj'.1]]
     exact OV h3 e1
    ·cases h
  ·rename_i m et ht;split at h
   ·cases h
   ·rename_i inf Vb;split at h
    ·rename_i i p hx;split at h
     ·rename_i T v hi;split at h
      ·rename_i e0 l0 hg;split at h
       ·rename_i m' e l;obtain⟨hb,h⟩:=Bb h;simp only[DG]at hb;obtain⟨y,hy,h⟩:=bind_some h;obtain⟨hj0,hj1,hj2⟩:=Lg hy;obtain⟨b,cells,h1,h2⟩:=hm.box hi;obtain⟨c1,c2,c3,he,h3,h4⟩:=fS hg h2;obtain⟨md,b',h5,h6,h7⟩:=BS (Dm hm.sl hx rfl);rw[h1]at h5;cases h5;cases h6;have hl:l.length=m:=(show l.length=m'/\ _ from h4).1.trans (Df hb.2);have:=ZS ht (Gj Vb hb.1.1) h7 hix F0 F0 w;refine En hr hd this rfl ?_ h;rw[show Ba p+j.toNat*e.size=Ba (p++[.idx j e.size]) by simp[VT,Ba,mT]];exact OV h1 rfl
       ·cases h
      ·cases h
     ·cases h
    ·cases h
  ·cases h
def MD.cells:MD->List Value| .box _ c _=>c| .own _ _ _ c=>c| .dead=>[]
theorem Rel.cells(hr:Rel Z s σs A L σ w){i b:Nat}{md:MD}(h:L[i]? =some md)(hb:md.base=some b):∀j,j<md.cells.length->w.cell? ⟨b,j,none⟩=md.cells[j]? :=by
 intro j hj;cases md with
 |dead=>cases hb
 |box b' cells T=>cases hb;rw[cell_of (St.box hr (hr.Kz h))];simp[MD.cells]
 |own z E v cells=>
  obtain⟨b',m,c,hv,hs'⟩:=St.zl hr (hr.Kz h) (by simp[MD.cells]at hj;omega);subst hv;cases hb;obtain⟨o,rfl,h2⟩:=Dv.mem (A:=A) hs'.mobs (i:=i) (m:= .at_ b z E m c cells) (by rw[X3 (by simpa using(List.getElem?_eq_some_iff.1 h).1)]);obtain⟨_,len,cap,e,h3,_,_,_,h6⟩:=h2;obtain⟨arr,fr,_,hb,_,_,hc⟩:=h6 b rfl;rw[cell_of hb];exact hc j (by rw[<-h3];exact hj)
theorem kA{t:TypeId}{c2:List Value}{b off:Nat}{B:Reg}(h:OkLoad P t u)(hu:Bl B w L u c2)
  (hx:ev σ x= .pointer (some ⟨b,off,none⟩)):∃val,Jj B w L u val/\∀w':World,(∀j,j<c2.length->w'.cell? ⟨b,off+j,none⟩=c2[j]?)->XO P σ w' (.load t x) val:=by
 obtain⟨d,hd,ha⟩:=h.agg;have hlen:=hu.len;cases hA:u.isA with
 |true=>
  refine⟨.agg c2.toArray,by unfold Jj;rw[hA];exact⟨c2,rfl,hu⟩,λw' hc _ _ _ _ _=>?_⟩;have h1:=Np (P:=P) (w:=w') (b:=b) (off:=off) c2 hc;rw[hlen]at h1;simp only[execOp,hx,Instr.loadAt,Instr.sureAddr,L3,R5,J6,loadVar,Ga hd (ha.trans hA),U3,Ch h.size,h1]
 |false=>
  have h1:=h.one hA;rw[h1]at hlen
  match c2,hlen with
  |[v],_=>
   refine⟨v,by unfold Jj;rw[hA];exact hu,λw' hc _ _ _ _ _=>?_⟩;have h2:w'.cell? ⟨b,off,none⟩=some v:=by simpa using hc 0 CH
   simp only[execOp,hx,Instr.loadAt,Instr.sureAddr,L3,R5,J6,loadVar,Ga hd (ha.trans hA),SD,RQ,NB h2]
theorem Aa6{t:TypeId}{c2:List Value}{b off:Nat}{B:Reg}(h:OkLoad P t u)(hu:Bl B w L u c2)(hc:∀j,j<c2.length->w.cell? ⟨b,off+j,none⟩=c2[j]?)
  (hx:ev σ x= .pointer (some ⟨b,off,none⟩)):∃val,Jj B w L u val/\XO P σ w (.load t x) val:=by
 obtain⟨val,h1,h2⟩:=kA (P:=P) (σ:=σ) h hu hx;exact⟨val,h1,h2 w hc⟩
def Arj:Item->MD->Prop| .box T _,md=>∃b c,md= .box b c T| .arr E e _,md=>∃v c,md= .own e.size E v c| .dead,_=>False
def BP(off:Nat)(ns:List Value):MD->MD->Prop
 | .box b c T,md'=>md'= .box b (Bn c off ns) T
 | .own z E v c,md'=>md'= .own z E v (Bn c off ns)
 | .dead,_=>False
theorem MemR.root{B:Reg}(hm:MemR B w L s σs σ){i:Nat}{md:MD}(h:L[i]? =some md)(hd:De s.it i≠ .dead):pZ B w L (De s.it i) md.cells/\Arj (De s.it i) md:=by
 obtain⟨md',h1,h2⟩:=hm.item rfl hd;rw[h]at h1;cases h1
 revert h2 hd
 cases De s.it i with
 |dead=>intro hd _;exact absurd rfl hd
 |box T v=>
  intro _ h2;cases md with
  |box b c T'=>obtain⟨rfl,h3⟩:=h2;exact⟨h3,b,c,rfl⟩
  |_=>exact h2.elim
 |arr E e l=>
  intro _ h2;cases md with
  |own z E' v c=>obtain⟨rfl,rfl,h3⟩:=h2;exact⟨h3,v,c,rfl⟩
  |_=>exact h2.elim
theorem Aot{t:TypeId}{G:Prop}(hr:Rel Z s σs A L σ w)(hd:Ln n ⟨d, .load t x,ty,pos,after,none⟩=true)(h:jZ P s d t x k=some r):
  DF P n ops ⟨d, .load t x,ty,pos,after,none⟩ Z s σs k r G A L σ w:=by
 have hm:=hr.mem;unfold jZ at h;split at h
 ·rename_i i p hx;obtain⟨md,b,h1,h2,h3⟩:=BS (Dm hm.sl hx rfl);have hne:De s.it i≠ .dead:=by intro e;rw[e]at h;simp[getRoot]at h
  obtain⟨h4,_⟩:=hm.root h1 hne;obtain⟨u,c1,c2,c3,hk,he,h5,h6⟩:=Aa2 h h4;obtain⟨hb,hk⟩:=Bb hk;have hc:=hr.cells h1 h2;obtain⟨val,h7,h8⟩:=Aa6 (P:=P) (σ:=σ) (x:=x) (b:=b) (off:=Ba p) (Tc hb) h6 (λj hj=>by
   rw[hc _ (by rw[he];simp;omega),he,TJ F0,h5,show Ba p+j-Ba p=j by omega,RM hj]) h3
  obtain⟨hv,hv'⟩:=Mc h7;exact En hr hd h8 hv hv' hk
 ·cases h
mutual
theorem Bl.one{B:Reg}:∀{p:PV} {cs:List Value},Bl B w L p cs->L.all (λm=>match m with| .own _ _ v _=>v.oneCell'|_=>true)=true->∀v∈cs,v.oneCell'=true
 | .val e x,cs,h,_,v,hv=>Be.one (show Be B w e x cs from h) v hv
 | .agg l,cs,h,hL,v,hv=>Bl.oM (show Bl.go B w L l cs from h) hL v hv
 | .tup _,_,h,_,_,_=>h.elim
 | .nils,cs,h,_,v,hv=>by rw[show cs=_ from h]at hv;simp at hv;subst hv;rfl
 | .own i,cs,⟨z,E,u,c,h1,h2⟩,hL,v,hv=>by
  rw[h2]at hv;simp at hv;subst hv;exact List.all_eq_true.1 hL _ (Xy h1)
 | .ptr i p,cs,⟨_,_,_,_,h⟩,_,v,hv=>by rw[h]at hv;simp at hv;subst hv;rfl
 | .rptr q,cs,⟨pv,_,h,⟨_,_,_,_,_,e,_⟩,_⟩,_,v,hv=>by rw[h]at hv;simp at hv;subst hv;rw[e];rfl
 | .fn f caps,cs,⟨_,h,_⟩,_,v,hv=>by rw[h]at hv;simp at hv;subst hv;rfl
 | .cap _ _ _,cs,⟨_,_,h,_,_,_,_,_,e⟩,_,v,hv=>by rw[h]at hv;simp at hv;subst hv;rw[e];rfl
 | .bfn _ _,cs,⟨_,h,_⟩,_,v,hv=>by rw[h]at hv;simp at hv;subst hv;rfl
 | .mp _ _,cs,⟨_,_,_,h,_⟩,_,v,hv=>by rw[h]at hv;simp at hv;subst hv;rfl
 | .cst u,cs,h,_,v,hv=>by rw[show cs=_ from h.1]at hv;simp at hv;subst hv;exact h.2
 | .any,cs,⟨u,h,h'⟩,_,v,hv=>by rw[h]at hv;simp at hv;subst hv;exact h'
 | .view _ _ _ _ _ _,cs,⟨_,u,_,h,_,_,⟨_,_,e,_⟩,_⟩,_,v,hv=>by rw[h]at hv;simp at hv;subst hv;rw[e];rfl
 | .gd _ _ _,_,h,_,_,_=>h.elim
 | .off,_,h,_,_,_=>h.elim
 | .undef,_,h,_,_,_=>h.elim
theorem Bl.oM{B:Reg}:∀{l:List PV} {cs:List Value},Bl.go B w L l cs->L.all (λm=>match m with| .own _ _ v _=>v.oneCell'|_=>true)=true->∀v∈cs,v.oneCell'=true
 |[],cs,h,_,v,hv=>by rw[show cs=[]from h]at hv;simp at hv
 |a::q,cs,⟨c1,c2,e,h1,h2⟩,hL,v,hv=>by
  subst e;rcases List.mem_append.1 hv with hv|hv
  ·exact Bl.one h1 hL v hv
  ·exact Bl.oM h2 hL v hv
end
theorem Rel.oM(hr:Rel Z s σs A L σ w):L.all (λm=>match m with| .own _ _ v _=>v.oneCell'|_=>true)=true:=by
 refine List.all_eq_true.2 λm hm=>?_;obtain⟨i,hi,he⟩:=oL hm;cases m with
 |own z E v c=>
  obtain⟨p,len,cap,rfl,_⟩:=hr.Vs (i:=i) (by rw[RR hi,he]);rfl
 |_=>rfl
theorem UJ{B:Reg}(hr:Rel Z s σs A L σ w)(h:Jj B w L p v):∃cs:List Value,v.cells=cs.toArray/\Bl B w L p cs:=by
 unfold Jj asV at h;split at h
 ·obtain⟨cs,rfl,h⟩:=h;exact⟨cs,rfl,h⟩
 ·refine⟨[v],?_,h⟩;have:=h.one hr.oM v (.head _);cases v<;>first|rfl|cases this
theorem jA.own{i z:Nat}{E:TypeId}{cs cs':List Value}(h:L[i]? =some (.own z E v cs)):jA L (L.set i (.own z E v cs')):=
 jA.set h (λ_ _ _ _ e=>by cases e;exact⟨_,_,_,rfl⟩) (λb hb=>by
  unfold MD.base at hb⊢;split at hb
  ·rename_i e;cases e
  ·rename_i e;cases e;exact hb
  ·cases hb)
theorem jA.box{i b:Nat}{T:TypeId}{cs cs':List Value}(h:L[i]? =some (.box b cs T)):jA L (L.set i (.box b cs' T)):=
 jA.set h (λ_ _ _ _ e=>by cases e) (λb hb=>hb)
theorem xk{i:Nat}{md:MD}(h:L[i]? =some md):(L.map MD.Kz)[i]? =some md.Kz:=by simp[h]
theorem Aha{t:TypeId}{a:Operand}{i b off z:Nat}{md:MD}{ns:List Value}{K:Env->World->Prop}{F:List Fact}(hr:St A w F (L.map MD.Kz))(h:L[i]? =some md)(hb:md.base=some b)
  (hsz:Kl P t z) (ha:ev σ a= .pointer (some ⟨b,off,none⟩)) (hx:ev σ x=v) (hv:v.cells=ns.toArray) (hl:ns.length=z) (h1:ns.all (·.oneCell')=true) (hle:off+z<=md.cells.length) (hz:0<z)
  (hK:∀(w':World) (md':MD),St A w' F ((L.map MD.Kz).set i md'.Kz)->BP off ns md md'->K σ w'):
  WL P n ops [⟨none, .store t a x,ty,pos,after,none⟩] K σ w:=by
 cases md with
 |dead=>cases hb
 |box b' cells T=>
  cases hb;exact WL.Afi hr (xk h) hsz ha hx hv hl h1 (by simpa [Nat.ble_eq,MD.cells]using hle) rfl rfl (λw' hs'=>WL.nil (hK w' (.box b (Bn cells off ns) T) hs' rfl))
 |own z' E u cells=>
  obtain⟨b',m,c,hu,hs'⟩:=St.zl hr (xk h) (by simp[MD.cells]at hle;omega);subst hu;cases hb;have hlen:i<(L.map MD.Kz).length:=by simpa using(List.getElem?_eq_some_iff.1 h).1
  have hL1:((L.map MD.Kz).set i (.at_ b z' E m c cells))[i]? =some (.at_ b z' E m c cells):=by rw[X3 hlen]
  refine WL.Aht hs' hL1 hsz ha hx hv hl h1 hle rfl rfl (λw' hs2=>WL.nil ?_);have hs3:=hs2.z! (i:=i) (b:=b) (s:=z') (m:=m) (c:=c) (E:=E) (cs:=Bn cells off ns) (by rw[X3 (by simpa using hlen)]);rw[iO,iO]at hs3;exact hK w' (.own z' E (.slice (some ⟨b,0,none⟩) m c) (Bn cells off ns)) hs3 rfl
end Go.Rx
namespace Go.Rx
open Go Go.Lv
variable{a x:Operand}{m p:PV}{v:Value}
variable {P:Program} {B:Reg} {w w':World} {L L':List MD} {s:S} {σs:List Env} {σ:Env} {Z:Fix} {A A':Reg} {n:Nat} {ops:Array Oper} {rest:List Oper} {K:Env->World->Prop}
variable {R:Type} {k:S->Option R} {r:R} {d:Option Nat} {ty:TypeId} {pos:String} {after:Array Edge}
structure Frz (B:Reg) (w:World) (L:List MD) (i:Nat) (m:PV):Prop where
 enc:∀z E v c,L[i]? =some (.own z E v c)->Bl B w (L.set i .dead) m [v]
 isA:m.isA=false
 isV:m.isV=true
theorem Afl{i:Nat}(hm:m.isA=false):(subst i m p).isA=p.isA:=by
 cases p<;>try rfl
 ·rename_i j;simp only[subst];cases hb:Nat.beq i j with
  |true=>exact hm
  |false=>rfl
 ·rename_i j q;simp only[subst];cases hb:Nat.beq i j<;>rfl
 ·rename_i o j q e lo n;simp only[subst];cases hb:Nat.beq i j<;>rfl
theorem lW{i j:Nat}(h:Nat.beq i j=false):(L.set i .dead)[j]? =L[j]? :=by
 rw[W4];intro e;subst e;simp at h
mutual
theorem bJ{i:Nat}{m:PV}(hf:Frz B w L i m):∀{p:PV} {cs:List Value},Bl B w L p cs->Bl B w (L.set i .dead) (subst i m p) cs
 | .val _ x,cs,h=>h
 | .agg q,cs,h=>G8 hf (show Bl.go B w L q cs from h)
 | .tup _,_,h=>h.elim
 | .nils,cs,h=>h
 | .own j,cs,⟨z,E,v,c,h1,h2⟩=>by
  simp only[subst];cases hb:Nat.beq i j with
  |true=>
   have:=Df hb;subst this;rw[h2];exact hf.enc _ _ _ _ h1
  |false=>exact⟨z,E,v,c,by rw[lW hb];exact h1,h2⟩
 | .ptr j q,cs,⟨md,b,h1,h2,h3⟩=>by
  simp only[subst];cases hb:Nat.beq i j with
  |true=>exact⟨_,h3,rfl⟩
  |false=>exact⟨md,b,by rw[lW hb];exact h1,h2,h3⟩
 | .view o j q e lo n,cs,⟨md,v,h1,h2,h3⟩=>by
  simp only[subst];cases hb:Nat.beq i j with
  |true=>
   obtain⟨_,_,⟨pt,cap,e',_⟩,_⟩:=h3;exact⟨v,h2,by rw[e'];rfl⟩
  |false=>exact⟨md,v,by rw[lW hb];exact h1,h2,h3⟩
 | .rptr v,cs,⟨pv,c0,h1,h2,h3⟩=>by
  exact⟨pv,c0,h1,h2,bJ hf h3⟩
 | .fn f caps,cs,⟨vs,h1,h2⟩=>⟨vs,h1,VU hf h2⟩
 | .cap _ _ _,cs,h=>h
 | .bfn f fs,cs,⟨vs,h1,h2⟩=>⟨vs,h1,VU hf h2⟩
 | .mp ks l,cs,⟨r,es,n,h1,h2,h3,h4,h5⟩=>⟨r,es,n,h1,h2,h3,h4,VU hf h5⟩
 | .cst v,cs,h=>h
 | .any,cs,h=>h
 | .gd _ _ _,_,h=>h.elim
 | .off,_,h=>h.elim
 | .undef,_,h=>h.elim
theorem G8{i:Nat}{m:PV}(hf:Frz B w L i m):∀{q:List PV} {cs:List Value},Bl.go B w L q cs->Bl.go B w (L.set i .dead) (subst.go i m q) cs
 |[],cs,h=>h
 |a::q,cs,⟨c1,c2,e',h1,h2⟩=>⟨c1,c2,e',bJ hf h1,G8 hf h2⟩
theorem VU{i:Nat}{m:PV}(hf:Frz B w L i m):∀{q:List PV} {vs:List Value},Fc B w L q vs->Fc B w (L.set i .dead) (subst.go i m q) vs
 |[],vs,h=>h
 |a::q,vs,⟨v,vs',e',h1,h2⟩=>⟨v,vs',e',by rw[Afl hf.isA];exact h1.mono λc h=>bJ hf h,VU hf h2⟩
end
theorem Awx {i:Nat}(hf:Frz B w L i m)(h:Jj B w L p v):Jj B w (L.set i .dead) (subst i m p) v:=by
 unfold Jj;rw[Afl hf.isA];exact asV.mono (λc h=>bJ hf h) h
theorem Abf{i:Nat}(hf:Frz B w L i m)(h:Gi B w L p v):Gi B w (L.set i .dead) (subst i m p) v:=by
 cases hp:p.zw with
 |true=>exact(Mc (Awx hf ((kN hp).1 h))).2
 |false=>
  cases p
  case tup q=>obtain⟨vs,h1,h2⟩:=h;exact⟨vs,h1,VU hf h2⟩
  case undef=>exact(show False from h).elim
  case off=>exact(show False from h).elim
  case gd=>exact(show False from h).elim
  all_goals cases hp
theorem Axq{i:Nat}(hf:Frz B w L i m){t:Nat}(h:Ld B w L σ t p):Ld B w (L.set i .dead) σ t (subst i m p):=by
 cases hv:p.isV with
 |true=>
  have h1:=Abf hf ((Ld.iff hv).1 h);have h2:(subst i m p).isV=true:=by
   cases p<;>first|rfl|cases hv|skip
   ·rename_i j;simp only[subst];cases Nat.beq i j;rfl;exact hf.isV
   ·rename_i j q;simp only[subst];cases Nat.beq i j<;>rfl
   ·rename_i o j q e lo n;simp only[subst];cases Nat.beq i j<;>rfl
  exact(Ld.iff h2).2 h1
 |false=>
  rcases Zf hv with rfl|rfl|⟨j,u,q,rfl⟩
  ·exact trivial
  ·exact h
  ·obtain⟨b,h1,h2,h3⟩:=h;exact⟨b,h1,λe=>Abf hf (h2 e),h3⟩
theorem Ast{i:Nat}(hf:Frz B w L i m){sl:Slots}(h:Hr B w L σ sl):Hr B w (L.set i .dead) σ (gH i m sl):=by
 intro p hp;obtain⟨q,hq,rfl⟩:=List.mem_map.1 hp;exact Axq hf (h q hq)
theorem Ate{i:Nat}{m:PV}(hf:Frz B w L i m):∀{σs:List Env} {st:List Slots},dL B w L σs st->dL B w (L.set i .dead) σs (st.map (gH i m))
 |[],[],h=>h
 |_::_,_::_,⟨h1,h2⟩=>⟨Ast hf h1,Ate hf h2⟩
theorem Axh {i:Nat}(hf:Frz B w L i m){a:Item}{md:MD}(h:CC B w L a md):CC B w (L.set i .dead) (pF i m a) md:=by
 cases a<;>cases md<;>first
  |exact h
  |exact⟨h.1,bJ hf h.2⟩
theorem MemR.subst(hm:MemR B w L s σs σ){i:Nat}(hf:Frz B w L i m):MemR B w (L.set i .dead) ((s.Zz i .dead).sub i m) σs σ:=by
 refine⟨⟨?_,?_⟩,Ast hf hm.sl,Ate hf hm.stk⟩
 ·simp[S.sub,S.Zz,nC,hm.it.1]
 ·intro j a md g1 g2;simp only[S.sub,S.Zz,X4,aW]at g1;obtain⟨a0,g3,rfl⟩:=g1;rcases nA g3 with⟨rfl,rfl⟩|⟨g4,g5⟩
  ·trivial
  ·rw[W4 (UO g4)]at g2;exact Axh hf (hm.it.2 j a0 md g5 g2)
theorem qM(hr:Rel Z s σs A L σ w){i:Nat}{s':S}(h:s.freeze i=some s'):∃A',Rel Z s' σs A' (L.set i .dead) σ w/\∃E e l,De s.it i= .arr E e l/\s'=(s.Zz i .dead).sub i (.val (.list e) l):=by
 unfold S.freeze at h;split at h
 ·rename_i E e l hi;cases h;have hm:=hr.mem;obtain⟨v,cs,h1,h2⟩:=hm.arr hi;have hR:∀b,¬A b->Z.R b:=λb hb=>by
   rcases XC b Z.w0.heap.size with hlt|hge
   ·have hold:=(hr.fact 1 (f:= .old Z.M Z.w0) rfl).2 b hlt;exact Z.mod b (zS λhM=>hb (hold hM).1)
   ·exact Z.new b hge
  obtain⟨A',hA,hs'⟩:=St.freeze hr (hr.Kz h1) rfl Z.R hR;have hs2:=Dv.oB (hs'.xg 1 0) (bV (m':=MD.dead.Kz) (hr.Kz h1));have hm2:MemR (λb=>A' b/\Z.R b) w L s σs σ:=hs2.fact 1 rfl;have hrd:Rd (λb=>A' b/\Z.R b) w e.size v cs:=hs2.fact 0 (f:= .rd Z.R e.size v cs) rfl;have hall:=h2.mono (g:=Be (λb=>A' b/\Z.R b) w e) λx c h=>Be.step (λb hb=>⟨hA b hb.1,hb.2⟩) (λ_ _=>rfl) h;have hf:Frz (λb=>A' b/\Z.R b) w L i (.val (.list e) l):=⟨λz E' v' c' h=>by rw[h1]at h;cases h;exact⟨v,cs,rfl,hrd,hall⟩,rfl,rfl⟩;exact⟨A',Rel.as hs2 (i:=2) rfl (hm2.subst hf) (by rw[bM]),E,e,l,hi,rfl⟩
 ·cases h
theorem Tj:∀{is:List Nat} {s s':S} {A:Reg} {L:List MD},Rel Z s σs A L σ w->s.JM is=some s'->∃A' L',Rel Z s' σs A' L' σ w/\ (is=[]->s'=s/\A'=A/\L'=L)
 |[],s,s',A,L,hr,h=>by simp only[S.JM,DV]at h;subst h;exact⟨A,L,hr,λ_=>⟨rfl,rfl,rfl⟩⟩
 |i::is,s,s',A,L,hr,h=>by
  simp only[S.JM]at h;split at h
  ·obtain⟨A',L',h1,_⟩:=Tj hr h;exact⟨A',L',h1,λe=>by cases e⟩
  ·cases h
  ·split at h
   ·rename_i s1 h1;obtain⟨A1,h2,_⟩:=qM hr h1;obtain⟨A',L',h3,_⟩:=Tj h2 h;exact⟨A',L',h3,λe=>by cases e⟩
   ·cases h
theorem Apv(h:C2 p=true):p.zw=true:=by cases p<;>first|rfl|cases h
theorem TL{B:Reg}(hm:Hr B w L σ s.sl)(h:(Es s.sl x).zw=true):Jj B w L (Es s.sl x) (ev σ x):=(kN h).1 (Ts hm x (PV.iy h))
theorem Awu {s':S}(hr:Rel Z s σs A L σ w)(h:S5 s a x=some s'):∃A' L',Rel Z s' σs A' L' σ w:=by
 unfold S5 at h;split at h
 ·split at h
  ·obtain⟨A',L',h1,_⟩:=Tj hr h;exact⟨A',L',h1⟩
  ·cases h;exact⟨A,L,hr⟩
 ·cases h
theorem pZ.step{B B':Reg}{w w':World}(hb:∀b,B b->B' b)(hs:Same B w w')(hl:jA L L'){a:Item}{cs:List Value}(h:pZ B w L a cs):pZ B' w' L' a cs:=by
 cases a with
 |dead=>exact h
 |box T v=>exact Bl.step hb hs hl h
 |arr E e l=>exact Cs.mono (λx c h=>Be.step hb hs h) h
def G6(R:Reg)(L:List MD)(a:Item)(cs:List Value):Fact where
 holds A w:=pZ (λb=>A b/\R b) w L a cs
 step h ha hs _:=h.step (λb ⟨h1,h2⟩=>⟨ha b h1,h2⟩) (λb ⟨h1,_⟩=>hs b h1) (.refl L)
theorem Ako{t:TypeId}(hr:Rel Z s σs A L σ w)(h:uq P s t a x k=some r):
  DF P n ops ⟨none, .store t a x,ty,pos,after,none⟩ Z s σs k r False A L σ w:=by
 unfold uq at h;split at h
 ·cases h
 ·rename_i s1 hs1;obtain⟨A1,L1,hr1⟩:=Awu hr hs1;have hm:=hr1.mem;split at h
  ·rename_i i p ha;split at h
   ·rename_i inf Vb;obtain⟨hb,h⟩:=Bb h;simp only[DG]at hb;obtain⟨md,b,h1,h2,h3⟩:=BS (Dm hm.sl ha rfl);obtain⟨ns,h4,h5⟩:=UJ hr1 (TL hm.sl (Apv hb.1.1));have hne:De s1.it i≠ .dead:=by intro e;rw[e]at h;simp[B6]at h
    obtain⟨h6,h7⟩:=hm.root h1 hne;obtain⟨a',hk,h8,h9,h10⟩:=Abi h5 h h6;have hlen:=h5.len;have hz:=Df hb.1.2;have hz0:0<inf.size:=by simpa [Nat.blt_eq]using hb.2
    have hrF:=St.tS (f:=G6 Z.R L1 a' (Bn md.cells (Ba p) ns)) hr1 h9;refine Aha hrF h1 h2 ⟨inf,Vb,rfl⟩ h3 rfl h4 (hlen.trans hz.symm) (List.all_eq_true.2 (h5.one hr1.oM)) (by rw[hz,<-hlen];exact h8) hz0 (λw' md' hs' hmd=>?_);have h11:pZ (λb=>A1 b/\Z.R b) w' L1 a' (Bn md.cells (Ba p) ns):=hs'.fact 0 rfl;have hs2:=hs'.yQ
    revert h7 h10
    cases hi:De s1.it i with
    |dead=>exact absurd hi hne
    |box T v0=>
     rintro⟨b0,c0,rfl⟩ h10;simp only[BP]at hmd;subst hmd;have key:=jA.box (cs':=Bn (MD.box b0 c0 T).cells (Ba p) ns) h1;refine⟨_,A1,_,hk,Rel.change hs2 h1 key ?_,λh=>h.elim⟩;cases a' with
     |box T' v'=>simp only[sameKind]at h10;subst h10;exact⟨rfl,Bl.step (λ_ h=>h) (λ_ _=>rfl) key h11⟩
     |dead=>exact h11.elim
     |arr _ _ _=>exact h10.elim
    |arr E e l=>
     rintro⟨v0,c0,rfl⟩ h10;simp only[BP]at hmd;subst hmd;have key:=jA.own (cs':=Bn (MD.own e.size E v0 c0).cells (Ba p) ns) h1;refine⟨_,A1,_,hk,Rel.change hs2 h1 key ?_,λh=>h.elim⟩;cases a' with
     |arr E' e' l'=>obtain⟨rfl,rfl⟩:=h10;exact⟨rfl,rfl,h11⟩
     |dead=>exact h11.elim
     |box _ _=>exact h10.elim
   ·cases h
  ·cases h
end Go.Rx
namespace Go.Rx
open Go Go.Lv
variable{x:Operand}{p:PV}{v:Value}
variable {P:Program} {B:Reg} {w w':World} {L L':List MD} {s:S} {σs:List Env} {σ:Env} {Z:Fix} {A A':Reg} {n:Nat} {ops:Array Oper} {rest:List Oper} {K:Env->World->Prop}
variable {R:Type} {k:S->Option R} {r:R} {d:Option Nat} {ty:TypeId} {pos:String} {after:Array Edge}
theorem VY{t:TypeId}(h:zeroOf P t=some p):∃z,(∃i,P.info? t=some i/\i.zero=some z)/\∀(B:Reg) (w:World) (L:List MD),Bl B w L p z.cells.toList:=by
 unfold zeroOf at h;split at h
 ·rename_i i hi;split at h
  ·rename_i z hz;exact⟨z,⟨i,hi,hz⟩,λB w L=>qJ h⟩
  ·cases h
 ·cases h
theorem r_{md:MD}{b:Nat}(hb:md.base=some b){B:Reg}:Gi B w (L++[md]) (.ptr L.length []) (.pointer (some ⟨b,0,none⟩)):=⟨md,b,CH,hb,rfl⟩
theorem sF{z:Nat}{E:TypeId}{c:List Value}{B:Reg}:Gi B w (L++[.own z E v c]) (.own L.length) v:=⟨z,E,v,c,CH,rfl⟩
theorem Rel.len(hr:Rel Z s σs A L σ w):s.it.length=L.length:=hr.mem.it.1
theorem Rel.lt(hr:Rel Z s σs A L σ w):∀b,A b->b<w.heap.size:=St.lt hr
def kW(A0:Reg)(w0:World):Fact where
 holds A w:=(∀b,A0 b->A b)/\Same A0 w0 w
 step h ha hs _:=⟨λb hb=>ha b (h.1 b hb),λb hb=>(hs b (h.1 b hb)).trans (h.2 b hb)⟩
theorem Rel.same(hr:Rel Z s σs A L σ w):St A w [kW A w,LG Z.R L s σs σ, .old Z.M Z.w0] (L.map MD.Kz):=St.tS (f:=kW A w) hr ⟨λ_ h=>h,λ_ _=>rfl⟩
theorem cK{w':World}{A':Reg}{a:Item}{md:MD}{dn:Nat}{G:Prop}(hr:Rel Z s σs A L σ w)(hs:St A' w' [kW A w,LG Z.R L s σs σ, .old Z.M Z.w0] (md.Kz::L.map MD.Kz))
  (ha:CC (λb=>A' b/\Z.R b) w' (L++[md]) a md) (hv:p.isV=true) (hp:∀B,Gi B w' (L++[md]) p v) (hk:k ((s.add a).Hm (some dn) p)=some r):
  U8 Z σs k r G A L s.it w (Zz σ dn v) w':=by
 obtain⟨h1,h2⟩:(∀b,A b->A' b)/\Same A w w':=hs.fact 0 rfl;have hr':=Rel.push hs.yQ ha;exact⟨_,A',L++[md],hk,hr'.Hm (d:=some dn) hv (hp _),λ_=>⟨h1,h2,⟨[md],rfl⟩,⟨[a],rfl⟩⟩⟩
theorem WI{o:Op}{dn:Nat}(h:Ln n ⟨some dn,o,ty,pos,after,none⟩=true):Nat.blt dn n=true:=h
theorem Aib{t:TypeId}{v:PV}{dn:Nat}{G:Prop}(hr:Rel Z s σs A L σ w)(hd:Ln n ⟨some dn, .alloc t,ty,pos,after,none⟩=true)(hz:zeroOf P t=some v)
  (hk:k ((s.add (.box t v)).Hm (some dn) (.ptr s.new []))=some r):DF P n ops ⟨some dn, .alloc t,ty,pos,after,none⟩ Z s σs k r G A L σ w:=by
 obtain⟨z,h1,h2⟩:=VY hz;refine WL.alloc (cells:=z.cells.toList) hr.same (WI hd) h1 CH (λb w' hs'=>WL.nil ?_);refine cK (a:= .box t v) (md:= .box b z.cells.toList t) hr hs' ⟨rfl,h2 _ _ _⟩ rfl (λB=>?_) hk;rw[S.new,hr.len];exact r_ rfl
theorem Aqe{t:TypeId}{dn:Nat}{G:Prop}(hr:Rel Z s σs A L σ w)(hd:Ln n ⟨some dn, .box t x,ty,pos,after,none⟩=true)(hx:C2 (Es s.sl x)=true)
  (hk:k ((s.add (.box t (Es s.sl x))).Hm (some dn) (.ptr s.new []))=some r):DF P n ops ⟨some dn, .box t x,ty,pos,after,none⟩ Z s σs k r G A L σ w:=by
 obtain⟨cs,h1,h2⟩:=UJ hr (TL hr.mem.sl (Apv hx));have hF:=St.tS (f:=G6 Z.R L (.box t (Es s.sl x)) cs) hr.same h2;refine WL.box hF (WI hd) rfl h1 (λb w' hs'=>WL.nil ?_);have h3:pZ (λb=>A b/\Z.R b) w' L (.box t (Es s.sl x)) cs:=hs'.fact 0 rfl;refine cK (a:= .box t (Es s.sl x)) (md:= .box b cs t) hr hs'.yQ ⟨rfl,Bl.step (λ_ h=>h) (λ_ _=>rfl) (jA.append _ _) h3⟩ rfl (λB=>?_) hk;rw[S.new,hr.len];exact r_ rfl
theorem qz{a t e:TypeId}{l:List UInt8}{dn:Nat}{G:Prop}(hr:Rel Z s σs A L σ w)(hd:Ln n ⟨some dn, .convert a t x,ty,pos,after,none⟩=true)(ha:P.underlying a=some .string)(ht:P.underlying t=some (.slice e))
  (he:P.underlying e=some (.int .u8)) (hx:Es s.sl x= .val .str l) (hk:k ((s.add (.arr e (.int .u8) l)).Hm (some dn) (.own s.new))=some r):DF P n ops ⟨some dn, .convert a t x,ty,pos,after,none⟩ Z s σs k r G A L σ w:=by
 refine WL.s2b ha ht he hr.same (WI hd) (Ua hr.mem.sl hx) (λp m c w' hs'=>WL.nil ?_);refine cK (a:= .arr e (.int .u8) l) (md:= .own 1 e (.slice p m c) (JB l)) hr hs' ⟨rfl,rfl,NW⟩ rfl (λB=>?_) hk;rw[S.new,hr.len];exact sF
where NW:∀{B:Reg} {w:World} {l:List UInt8},Cs (Be B w (.int .u8)) l (JB l)
 |_,_,[]=>rfl
 |_,_,x::l=>⟨[iv x],JB l,rfl,rfl,NW⟩
theorem Amm{t e E:TypeId}{i:Nat}{y:UInt8}{ys:List UInt8}{dn:Nat}{G:Prop}(hr:Rel Z s σs A L σ w)(hd:Ln n ⟨some dn, .convert t t x,ty,pos,after,none⟩=true)(ht:P.underlying t=some (.slice e))
  (he:P.underlying e=some (.int .u8)) (hx:Es s.sl x= .own i) (hi:De s.it i= .arr E (.int .u8) (y::ys)) (hk:k (s.Hm (some dn) (.own i))=some r):DF P n ops ⟨some dn, .convert t t x,ty,pos,after,none⟩ Z s σs k r G A L σ w:=by
 obtain⟨v,cs,h1,h2⟩:=hr.mem.arr hi;have hne:0<cs.length:=by
  obtain⟨c,c',e1,e2,_⟩:=h2;rw[e1,D!];have:c.length=(ET.int .u8).size:=Be.len e2;rw[this];have:(ET.int Kd.u8).size=1:=rfl;omega
 have hvr:Gi (λb=>A b/\Z.R b) w L (.own i) (ev σ x):=by
  have:=Dm hr.mem.sl hx rfl;exact this
 have hev:ev σ x=v:=by
  obtain⟨z,E',v',c,g1,g2⟩:=hvr;rw[h1]at g1;cases g1;simpa using g2
 have hL:(L.map MD.Kz)[i]? =some (.own 1 E v cs):=by rw[X4,h1];rfl
 refine WL.At6 ht he hr.same hL hne (WI hd) hev (λw' hs'=>WL.nil ?_);obtain⟨g1,g2⟩:(∀b,A b->A b)/\Same A w w':=hs'.fact 0 rfl;have hr':Rel Z s σs A L σ w':=hs'.yQ;exact⟨_,A,L,hk,hr'.Hm (d:=some dn) (p:= .own i) rfl ⟨_,_,_,_,h1,rfl⟩,λ_=>⟨g1,g2,⟨[],CH⟩,⟨[],by simp[S.Hm,S.set]⟩⟩⟩
theorem wR{t:TypeId}{e:ET}(h:M7 P t e=true):ElemOk P t e.size:=by
 unfold M7 at h;split at h
 ·rename_i i hi;simp only[DG]at h;obtain⟨⟨⟨h1,h2⟩,h3⟩,h4⟩:=h;split at h3
  ·rename_i z hz;exact⟨⟨i,z,hi,Df h1,hz,Df h3,V2 h2⟩,by have:=V2 h4;omega⟩
  ·cases h3
 ·cases h
theorem bN{t E:TypeId}(h:xA P t=some E):P.underlying t=some (.slice E):=by
 unfold xA at h;split at h
 ·rename_i e he;cases h;exact he
 ·cases h
theorem uj{e:ET}{x:e.T}{c:List Value}(h:Be B w e x c):∀m,Cs (Be B w e) (List.replicate m x) (List.replicate m c).flatten
 |0=>rfl
 |m+1=>⟨c,(List.replicate m c).flatten,rfl,h,uj h m⟩
theorem An5{t:TypeId}{a b:Operand}{dn:Nat}{G:Prop}(hr:Rel Z s σs A L σ w)(hd:Ln n ⟨some dn, .makeSlice t a b,ty,pos,after,none⟩=true)(h:jR P s (some dn) t a b k=some r):
  DF P n ops ⟨some dn, .makeSlice t a b,ty,pos,after,none⟩ Z s σs k r G A L σ w:=by
 unfold jR at h;split at h
 ·cases h
 ·rename_i E hE;split at h
  ·cases h
  ·rename_i e he;obtain⟨hb,h⟩:=Bb h;split at h
   ·rename_i m m' z hm hm' hz;split at h
    ·rename_i x hx;obtain⟨l,hl,h⟩:=bind_some h;obtain⟨_,hq,h⟩:=bind_some h;obtain⟨h1,h2,rfl⟩:=G! hl;have h3:m'=m:=by have:=Yw hq;simpa [geq,GI.toZ]using this
     subst h3;obtain⟨zv,hz1,hz2⟩:=VY hz;have ea:=E9 hm (Ts hr.mem.sl a (vo hm));have eb:=E9 hm' (Ts hr.mem.sl b (vo hm'));refine WL.makeSlice (bN hE) (wR hb) hz1 (zs:=zv.cells.toList) CH hr.same (WI hd) (m:=m'.toNat) (by rw[<-h1];exact ea) (by rw[<-h1];exact eb) h2 (λp q c w' hs'=>WL.nil ?_);refine cK (a:= .arr E e (List.replicate m'.toNat x)) (md:= .own e.size E (.slice p q c) (List.replicate m'.toNat zv.cells.toList).flatten) hr hs' ⟨rfl,rfl,uj (VR hx (hz2 _ _ (L++[]))) _⟩ rfl (λB=>?_) h;rw[S.new,hr.len];exact sF
    ·cases h
   ·cases h
end Go.Rx
namespace Go.Rx
open Go Go.Lv
variable{vw:Bool}{e:ET}{x y:Operand}{p:PV}{v:Value}
variable {P:Program} {B:Reg} {w w':World} {L L':List MD} {s:S} {σs:List Env} {σ:Env} {Z:Fix} {A A':Reg} {n:Nat} {ops:Array Oper} {rest:List Oper} {K:Env->World->Prop}
variable {R:Type} {k:S->Option R} {r:R} {d:Option Nat} {ty:TypeId} {pos:String} {after:Array Edge}
theorem U8.of{G:Prop}{s1:S}{A1:Reg}{L1:List MD}{σ':Env}(h:G->s1=s/\A1=A/\L1=L)(hp:U8 Z σs k r G A1 L1 s1.it w σ' w'):U8 Z σs k r G A L s.it w σ' w':=by
 obtain⟨s',A',L',h1,h2,h3⟩:=hp;refine⟨s',A',L',h1,h2,λg=>?_⟩;obtain⟨e1,e2,e3⟩:=h g;subst e1 e2 e3;exact h3 g
theorem isEmpty_nil{α:Type}{l:List α}(h:l.isEmpty=true):l=[]:=by cases l<;>simp_all
theorem H'{z:Nat}(h:Nat.ble 1 z=true):0<z:=by have:=V2 h;omega
theorem Rel.l_(hr:Rel Z s σs A L σ w){i z:Nat}{E:TypeId}{cs:List Value}(h:L[i]? =some (.own z E v cs)):
  ∃q len cap,v= .slice q len cap/\cs.length=len*z/\len<=cap/\ (q=none->cap=0)/\ (0<cap->∃b,q=some ⟨b,0,none⟩/\ (MD.own z E v cs).base=some b):=by
 obtain⟨o,q,len,cap,h1,h2,h3,h4,h5,h6⟩:=Dv.mem (A:=A) (St.mobs hr) (hr.Kz h);refine⟨q,len,cap,h1,h2,h3,h4,λhc=>?_⟩;cases o with
 |none=>have:=h5 rfl;omega
 |some b=>
  obtain⟨arr,fr,e1,_⟩:=h6 b rfl;subst h1 e1;exact⟨b,rfl,rfl⟩
theorem X.vM{t e:TypeId}{z len cap a b:Nat}{p:Option Addr}{lo hi:Option Operand}(ht:P.underlying t=some (.slice e))(hsz:Kl P e z)(h1:a<=b)(h2:b<=len)(h3:len<=cap)(hx:ev σ x= .slice p len cap)
  (hlo:(∃q,lo.map (ev σ)=some (.int q (a:Int)))\/ (lo=none/\a=0)) (hhi:(∃q,hi.map (ev σ)=some (.int q (b:Int)))\/ (hi=none/\b=len)):
  XO P σ w (.slice t x lo hi none) (.slice (if cap=a then p else p.map (·.add (a*z))) (b-a) (cap-a)):=λ_ _ _ _ _=>by
 have hr:=Alx (P:=P) (w:=w) (p:=p) (vlo:=lo.map (ev σ)) (vhi:=hi.map (ev σ)) ht hsz h1 h2 h3 (by rcases hlo with h|⟨h,h'⟩;exact .inl h;exact .inr ⟨by rw[h];rfl,h'⟩)
   (by rcases hhi with h|⟨h,h'⟩;exact .inl h;exact .inr ⟨by rw[h];rfl,h'⟩)
 simp only[execOp,hx,Instr.sliceAt,L3,H? ht,J6,YU,hr,R5]
theorem X.Ap1{t u e:TypeId}{z m a b:Nat}{ad:Addr}{lo hi:Option Operand}(ht:fY P t=some (u,m,e))(hsz:Kl P e z)(h1:a<=b)(h2:b<=m)(hx:ev σ x= .pointer (some ad))
  (hlo:(∃q,lo.map (ev σ)=some (.int q (a:Int)))\/ (lo=none/\a=0)) (hhi:(∃q,hi.map (ev σ)=some (.int q (b:Int)))\/ (hi=none/\b=m)):
  XO P σ w (.slice t x lo hi none) (.slice (some (if m=a then ad else ad.add (a*z))) (b-a) (m-a)):=λ_ _ _ _ _=>by
 have hlo':(∃q,lo.map (ev σ)=some (.int q (a:Int)))\/ (lo.map (ev σ)=none/\a=0):=hlo.imp id λh=>⟨by rw[h.1];rfl,h.2⟩;have hhi':(∃q,hi.map (ev σ)=some (.int q (b:Int)))\/ (hi.map (ev σ)=none/\b=m):=hhi.imp id λh=>⟨by rw[h.1];rfl,h.2⟩;unfold fY at ht;split at ht
 ·rename_i m' et hu;cases ht;simp only[execOp,hx,Instr.sliceAt,L3,H? hu,J6,YU];generalize lo.map (ev σ)=vlo at hlo'⊢;generalize hi.map (ev σ)=vhi at hhi'⊢;clear hlo hhi;rcases hlo' with⟨q,rfl⟩|⟨rfl,rfl⟩<;>rcases hhi' with⟨q',rfl⟩|⟨rfl,rfl⟩<;>
   simp[Instr.sureAddr,Instr.sliceBounds,Instr.sliceBound,asIntOf,Ch hsz,h1,h2]
 ·rename_i u' hp;split at ht
  ·rename_i m' et hu;cases ht;simp only[execOp,hx,Instr.sliceAt,L3,H? hp,J6,YU];generalize lo.map (ev σ)=vlo at hlo'⊢;generalize hi.map (ev σ)=vhi at hhi'⊢;clear hlo hhi;rcases hlo' with⟨q,rfl⟩|⟨rfl,rfl⟩<;>rcases hhi' with⟨q',rfl⟩|⟨rfl,rfl⟩<;>
    simp[Instr.slice,H? hp,H? hu,Instr.sliceBounds,Instr.sliceBound,asIntOf,Ch hsz,h1,h2,asAddr]
  ·cases ht
 ·cases ht
theorem An2{t et:TypeId}{lo hi:Option Operand}{G:Prop}(hr:Rel Z s σs A L σ w)(hd:Ln n ⟨d, .slice t x lo hi none,ty,pos,after,none⟩=true)(ht:P.underlying t=some (.slice et))(h:je P s d et (Es s.sl x) lo hi k=some r):
  DF P n ops ⟨d, .slice t x lo hi none,ty,pos,after,none⟩ Z s σs k r G A L σ w:=by
 have hm:=hr.mem;unfold je at h;split at h
 ·cases h
 ·rename_i inf Vb;split at h
  ·rename_i i hx;split at h
   ·rename_i E e l hi';obtain⟨hb,h⟩:=Bb h;simp only[DG]at hb;split at h
    ·rename_i a b ha hb';obtain⟨_,hok,h⟩:=bind_some h;have hab:0<=a/\a<=b/\b<=Ac l:=WU (Yw hok);obtain⟨u,cs,h1,h2⟩:=hm.arr hi';obtain⟨z',E',c',h3⟩:=PH (Dm hm.sl hx rfl);rw[h1]at h3;have h3':=h3;cases h3;obtain⟨q,len,cap,g1,g2,g3,g4,g5⟩:=hr.l_ h1;have hz:0<e.size:=by have:=V2 hb.2;omega
     have hl:len=l.length:=TY hz (g2.symm.trans (h2.len λx c h=>Be.len h));obtain⟨a1,ha1⟩:=S? hab.1;obtain⟨b1,hb1⟩:=S? (show 0<=b by omega);subst ha1 hb1;have hbl:b1<=len:=by rw[hl];have:=hab.2.2;unfold Ac at this;omega
     have hxo:=X.vM (P:=P) (σ:=σ) (w:=w) (x:=x) (lo:=lo) (hi:=hi) (a:=a1) (b:=b1) ht (Gj Vb hb.1) F0 hbl g3 g1
      (by rcases Na hm.sl ha with h|⟨h,h'⟩;exact .inl h;exact .inr ⟨h,F0⟩) (by rcases Na hm.sl hb' with h|⟨h,h'⟩;exact .inl h;exact .inr ⟨h,by unfold Ac at h';omega⟩)
     rw[g1]at h1;refine En (p:= .view true i [] e a1 (b1-a1)) hr hd hxo rfl ⟨_,_,h1,rfl,F0,F0,⟨_,_,by rw[show((b1:Int)-a1).toNat=b1-a1 by omega],F0,λhn=>?_,λhc=>?_⟩,
      (λ_=>⟨_,_,q,len,cap,cs,rfl,rfl,F0,λpt m c' hv=>?_,λh0=>?_⟩),(λh=>by cases h)⟩ h
     ·split at hn
      ·omega
      ·have:q=none:=by simpa using hn
       have:=g4 this;omega
     ·obtain⟨bb,e1,e2⟩:=g5 F0;rw[g1]at e2;refine⟨bb,e2,?_⟩;rw[B! F0,e1];simp[Pb,Ba]
     ·cases hv;simp only[O1];omega
     ·have ha0:a1=0:=F0
      subst ha0;rw[show((b1:Int)-(0:Nat)).toNat=b1 by omega];simp only[Nat.sub_zero];congr 1;split
      ·rfl
      ·by_cases hc:0<cap
       ·obtain⟨bb,e1,_⟩:=g5 hc;rw[e1];simp[Pb]
       ·omega
    ·cases h
   ·cases h
  ·rename_i o i p e l0 n' hx;obtain⟨hb,h⟩:=Bb h;simp only[DG]at hb;split at h
   ·rename_i a b ha hb';obtain⟨_,hok,hk⟩:=bind_some h;have hab:0<=a/\a<=b/\b<=n':=WU (Yw hok);obtain⟨md,v1,h3,h4,k1,k2,⟨pt,cap,k3,k4,k5,k6⟩,k7,k8⟩:=Dm hm.sl hx rfl;have h6:ev σ x=v1:=by simpa using h4
    obtain⟨a1,ha1⟩:=S? hab.1;obtain⟨b1,hb1⟩:=S? (show 0<=b by omega);obtain⟨l1,hl1⟩:=S? k1;obtain⟨n1,hn1⟩:=S? k2;subst ha1 hb1 hl1 hn1;simp only[O1]at k3 k4 k6 k7;have hxo:=X.vM (P:=P) (σ:=σ) (w:=w) (x:=x) (lo:=lo) (hi:=hi) (a:=a1) (b:=b1) ht (Gj Vb hb.1) F0 F0 k4 (h6.trans k3)
     (by rcases Na hm.sl ha with h|⟨h,h'⟩;exact .inl h;exact .inr ⟨h,F0⟩) (by rcases Na hm.sl hb' with h|⟨h,h'⟩;exact .inl h;exact .inr ⟨h,F0⟩)
    have e0:((l1:Int)+a1).toNat=l1+a1:=F0
    refine En (p:= .view o i p e (l1+a1) (b1-a1)) hr hd hxo rfl ⟨md,_,h3,rfl,F0,F0,⟨_,_,by rw[show((b1:Int)-a1).toNat=b1-a1 by omega],F0,λhn=>?_,λhc=>?_⟩,(λho=>?_),k8⟩ hk
    ·split at hn
     ·omega
     ·have:pt=none:=by simpa using hn
      have:=k5 this;omega
    ·obtain⟨bb,e1,e2⟩:=k6 F0;refine⟨bb,e1,?_⟩;rw[B! F0,e2,e0];simp[Pb,H9,RU]
    ·obtain⟨s',E',q,len,cap0,c0,e1,e2,e3,e4,e5⟩:=k7 ho;have e6:=e4 _ _ _ k3;refine⟨s',E',q,len,cap0,c0,e1,e2,F0,λpt' m c' hv=>?_,λh0=>?_⟩
     ·cases hv;omega
     ·have h00:l1=0/\a1=0:=F0
      obtain⟨rfl,rfl⟩:=h00;have e7:=e5 rfl;rw[k3]at e7;cases e7;rw[show((b1:Int)-(0:Nat)).toNat=b1 by omega];simp only[Nat.sub_zero];congr 1;split
      ·rfl
      ·by_cases hc:0<cap
       ·obtain⟨bb,_,e8⟩:=k6 hc;rw[e8];simp[Pb]
       ·omega
   ·cases h
  ·cases h
theorem Aip{t:TypeId}{lo hi:Option Operand}{G:Prop}(hr0:Rel Z s σs A L σ w)(hd:Ln n ⟨d, .slice t x lo hi none,ty,pos,after,none⟩=true)(h:sw vw s d t x lo hi k P=some r)(hG:G-> (owns (Es s.sl x)).isEmpty=true):
  DF P n ops ⟨d, .slice t x lo hi none,ty,pos,after,none⟩ Z s σs k r G A L σ w:=by
 unfold sw at h;split at h
 ·rename_i ht;split at h
  ·rename_i l hx;split at h
   ·rename_i a b ha hb;obtain⟨y,hy,h⟩:=bind_some h;exact En (p:= .val .str y) hr0 hd (X.zA ht (Ua hr0.mem.sl hx) hy (Na hr0.mem.sl ha) (Na hr0.mem.sl hb)) rfl rfl h
   ·cases h
  ·cases h
 ·rename_i et ht;cases hvw:(vw&&Ahu (Es s.sl x))with
  |true=>
   rw[hvw]at h;exact An2 hr0 hd ht h
  |false=>
  rw[hvw]at h;dsimp only[Dk,cond]at h;split at h
  ·cases h
  ·rename_i s1 hs1;obtain⟨A1,L1,hr,hsame⟩:=Tj hr0 hs1;have hm:=hr.mem;split at h
   ·rename_i e0 l0 hx;split at h
    ·rename_i e l;split at h
     ·rename_i inf Vb;obtain⟨hb,h⟩:=Bb h;simp only[DG]at hb;split at h
      ·rename_i a b ha hb';obtain⟨y,hy,h⟩:=bind_some h;obtain⟨h1,h2,h3,h4,rfl⟩:=TG hy;obtain⟨c0,h5,h6⟩:=EP (Dm hm.sl hx rfl);have hlen:=h6.len λx c h=>Be.len h;obtain⟨p',l',c',h7,h8⟩:=X.Ath (P:=P) (l:=a.toNat) (k:=b.toNat) (m:=l.length) ht (Gj Vb hb.1) (St.kO hr h5) (j:=0) rfl hlen (H' hb.2) h3 h4;have hxo:=h7 σ w x lo hi rfl (by rcases Na hm.sl ha with h|⟨h,h'⟩;exact .inl (by rw[<-h1];exact h);exact .inr ⟨h,F0⟩)
        (by rcases Na hm.sl hb' with h|⟨h,h'⟩;exact .inl (by rw[<-h2];exact h);exact .inr ⟨h,by rw[h'];simp[Ac]⟩)
       have hv:Gi (λb=>A1 b/\Z.R b) w L1 (.val (.list e) ((l.take b.toNat).drop a.toNat)) (.slice p' l' c'):=
        oA (h8.fact 0 rfl) (Cs.drop (λx c h=>Be.len h) _ (Cs.take (λx c h=>Be.len h) _ h6))
       refine WL.YF rfl hd (hxo _ _ _ _ _) (WL.nil ⟨_,A1,L1,h,hr.Hm rfl hv,λg=>?_⟩);obtain⟨e1,e2,e3⟩:=hsame (isEmpty_nil (hG g));subst e1 e2 e3;have:(s1.Hm d (.val (.list e) ((l.take b.toNat).drop a.toNat))).it=s1.it:=by cases d<;>rfl
       rw[this];exact .refl
      ·cases h
     ·cases h
    ·cases h
   ·rename_i hx;split at h
    ·rename_i inf a b Vb ha hb';obtain⟨_,hok,hk⟩:=bind_some h;have hab:0<=a/\a<=b/\b<=0:=WU (Yw hok);have ha0:a=0:=F0
     have hb0:b=0:=F0
     subst ha0 hb0;have hv:=LR (Dm hm.sl hx rfl);have hxo:=X.vM (P:=P) (σ:=σ) (w:=w) (x:=x) (lo:=lo) (hi:=hi) (a:=0) (b:=0) (z:=inf.size) ht ⟨inf,Vb,rfl⟩ (N! _) (N! _) (N! _) hv
      (by rcases Na hm.sl ha with h|⟨h,h'⟩;exact .inl h;exact .inr ⟨h,rfl⟩) (by rcases Na hm.sl hb' with h|⟨h,h'⟩;exact .inl h;exact .inr ⟨h,rfl⟩)
     refine WL.YF rfl hd (hxo _ _ _ _ _) (WL.nil ⟨_,A1,L1,hk,hr.Hm rfl rfl,λg=>?_⟩);obtain⟨e1,e2,e3⟩:=hsame (isEmpty_nil (hG g));subst e1 e2 e3;have:(s1.Hm d .nils).it=s1.it:=by cases d<;>rfl
     rw[this];exact .refl
    ·cases h
   ·cases h
 ·split at h
  ·rename_i u m et hat;split at h
   ·cases h
   ·rename_i inf Vb;split at h
    ·rename_i i p hx;split at h
     ·rename_i T v hit;split at h
      ·rename_i e0 l0 hg;split at h
       ·rename_i m' e l;obtain⟨hb,h⟩:=Bb h;simp only[DG]at hb;split at h
        ·rename_i a b ha hb';obtain⟨_,hok,hk⟩:=bind_some h;have hab:0<=a/\a<=b/\b<=m:=WU (Yw hok);have hm:=hr0.mem;obtain⟨md,bb,h1,h2,h3⟩:=BS (Dm hm.sl hx rfl);obtain⟨a1,ha1⟩:=S? hab.1;obtain⟨b1,hb1⟩:=S? (show 0<=b by omega);subst ha1 hb1;have hxo:=X.Ap1 (P:=P) (σ:=σ) (w:=w) (x:=x) (lo:=lo) (hi:=hi) (a:=a1) (b:=b1) hat (Gj Vb hb.1.2) F0 F0 h3
          (by rcases Na hm.sl ha with h|⟨h,h'⟩;exact .inl h;exact .inr ⟨h,F0⟩) (by rcases Na hm.sl hb' with h|⟨h,h'⟩;exact .inl h;exact .inr ⟨h,F0⟩)
         refine En (p:= .view false i p e a1 (b1-a1)) hr0 hd hxo rfl ⟨md,_,h1,rfl,F0,F0,⟨_,_,(by rw[show((b1:Int)-a1).toNat=b1-a1 by omega]),F0,(λh=>by cases h),λhc=>⟨bb,h2,?_⟩⟩,(λh=>by cases h),λ_=>⟨bb,h2⟩⟩ hk;rw[B! F0,Pb];rfl
        ·cases h
       ·cases h
      ·cases h
     ·cases h
    ·cases h
  ·cases h
theorem Ag4{t:TypeId}{hi mx:Operand}{lo:Option Operand}{G:Prop}(hr0:Rel Z s σs A L σ w)(hd:Ln n ⟨d, .slice t x lo (some hi) (some mx),ty,pos,after,none⟩=true)(h:K0 vw s d t x lo hi mx k P=some r)(hG:G-> (owns (Es s.sl x)).isEmpty=true):
  DF P n ops ⟨d, .slice t x lo (some hi) (some mx),ty,pos,after,none⟩ Z s σs k r G A L σ w:=by
 unfold K0 at h;split at h
 ·rename_i et ht;split at h
  ·cases h
  ·rename_i s1 hs1;obtain⟨A1,L1,hr,hsame⟩:=Tj hr0 hs1;have hm:=hr.mem;split at h
   ·rename_i e0 l0 hx;split at h
    ·rename_i e l;split at h
     ·rename_i inf Vb;obtain⟨hb,h⟩:=Bb h;simp only[DG]at hb;split at h
      ·rename_i a b c ha hb' hc';obtain⟨_,hok,h⟩:=bind_some h;have hbc:b<=c/\c<=Ac l:=WU (Yw hok);obtain⟨y,hy,h⟩:=bind_some h;obtain⟨h1,h2,h3,h4,rfl⟩:=TG hy;obtain⟨c0,h5,h6⟩:=EP (Dm hm.sl hx rfl);have hlen:=h6.len λx c h=>Be.len h;obtain⟨q1,hq1⟩:=NP hb' (Ts hm.sl hi (XV hb'));obtain⟨q2,hq2⟩:=NP hc' (Ts hm.sl mx (XV hc'));unfold Ac at hbc;obtain⟨p',l',c',h7,h8,hc9⟩:=X.Afj (P:=P) (l:=a.toNat) (k:=b.toNat) (c:=c.toNat) (m:=l.length) ht (Gj Vb hb.1) (St.kO hr h5) (j:=0) rfl hlen (H' hb.2) h3 F0 F0;have hxo:=h7 σ w x lo hi mx rfl (by rcases Na hm.sl ha with h|⟨h,h'⟩;exact .inl (by rw[<-h1];exact h);exact .inr ⟨h,F0⟩)
        ⟨q1,by rw[hq1,<-h2]⟩ ⟨q2,by rw[hq2,show((c.toNat:Nat):Int)=c by omega]⟩
       have hall:Cs (Be (λb=>A1 b/\Z.R b) w e) ((l.take b.toNat).drop a.toNat) ((c0.take (b.toNat*e.size)).drop (a.toNat*e.size)):=Cs.drop (λx c h=>Be.len h) _ (Cs.take (λx c h=>Be.len h) _ h6);have hv:Gi (λb=>A1 b/\Z.R b) w L1 (Dk vw (.cap e ((l.take b.toNat).drop a.toNat) (c-a))<| .val (.list e) ((l.take b.toNat).drop a.toNat)) (.slice p' l' c'):=by
        cases vw with
        |true=>exact⟨_,_,rfl,h8.fact 0 rfl,hall,F0,p',l',by rw[hc9];congr 1;omega⟩
        |false=>exact oA (h8.fact 0 rfl) hall
       have hV:(Dk vw (PV.cap e ((l.take b.toNat).drop a.toNat) (c-a))<| .val (.list e) ((l.take b.toNat).drop a.toNat)).isV=true:=by cases vw<;>rfl
       refine WL.YF rfl hd (hxo _ _ _ _ _) (WL.nil ⟨_,A1,L1,h,hr.Hm hV hv,λg=>?_⟩);obtain⟨e1,e2,e3⟩:=hsame (isEmpty_nil (hG g));subst e1 e2 e3;have:∀q,(s1.Hm d q).it=s1.it:=λq=>by cases d<;>rfl
       rw[this];exact .refl
      ·cases h
     ·cases h
    ·cases h
   ·cases h
 ·cases h
theorem zI{x:e.T}(h:e.of p=some x):p.zw=true:=by
 unfold ET.of v! at h;split at h
 ·rfl
 ·rfl
 ·rfl
 ·cases h
theorem Ao3{e:ET}(hr:Rel Z s σs A L σ w):∀{xs:List Operand} {l:List e.T},X0 e (xs.map (Es s.sl))=some l->
  Cs (Be (λb=>A b/\Z.R b) w e) l ((xs.map (ev σ)).map λv:Value=>v.cells.toList).flatten/\l.length=xs.length/\∀v∈xs.map (ev σ),v.cells.size=e.size
 |[],l,h=>by simp only[bP,X0,DV]at h;subst h;exact⟨rfl,rfl,CH⟩
 |x::xs,l,h=>by
  simp only[T!,X0]at h;split at h
  ·rename_i y ys hy hys;cases h;obtain⟨h1,h2,h3⟩:=Ao3 hr hys;obtain⟨cs,h4,h5⟩:=UJ hr (TL hr.mem.sl (x:=x) (zI hy));have h6:=VR hy h5;refine⟨⟨cs,_,by simp[h4],h6,h1⟩,by simp[h2],λv hv=>?_⟩;simp only[T!,Y!]at hv;rcases hv with rfl|hv
   ·rw[h4];simpa using h6.len
   ·exact h3 v hv
  ·cases h
theorem N? :∀{ps:List (Nat×Operand)} {m:Nat},gC m ps=true-> (ps.map λp=>(p.1,ev σ p.2))=(((ps.map Prod.snd).map (ev σ)).zipIdx m).map λp=>(p.2,p.1)
 |[],_,_=>rfl
 |(i,x)::ps,m,h=>by
  simp only[gC,DG]at h;simp only[T!,oT,N? h.2,Df h.1]
theorem Axj{t:TypeId}{len:Nat}{ps:Array (Nat×Operand)}{dn:Nat}{G:Prop}(hr0:Rel Z s σs A L σ w)(hd:Ln n ⟨some dn, .buildSlice t len ps,ty,pos,after,none⟩=true)
  (h:fF P s (some dn) t len ps.toList k=some r) (hG:G-> (owns.go (ps.toList.map λp=>Es s.sl p.2)).isEmpty=true):DF P n ops ⟨some dn, .buildSlice t len ps,ty,pos,after,none⟩ Z s σs k r G A L σ w:=by
 unfold fF at h;split at h
 ·cases h
 ·rename_i E hE;split at h
  ·cases h
  ·rename_i e he;obtain⟨hb,h⟩:=Bb h;simp only[DG]at hb;obtain⟨⟨⟨hb1,hb2⟩,hb3⟩,hb4⟩:=hb;split at h
   ·cases h
   ·rename_i s1 hs1;obtain⟨A1,L1,hr,hsame⟩:=Tj hr0 hs1;split at h
    ·rename_i l hl;have hl':X0 e ((ps.toList.map Prod.snd).map (Es s1.sl))=some l:=by rw[iN];exact hl
     obtain⟨h1,h2,h3⟩:=Ao3 hr hl';have hps:ps=ps.toList.toArray:=by simp
     rw[show(⟨some dn, .buildSlice t len ps,ty,pos,after,none⟩:Oper)=⟨some dn, .buildSlice t len ps.toList.toArray,ty,pos,after,none⟩ by rw[<-hps]];have hlen:((ps.toList.map Prod.snd).map (ev σ)).length=len:=by simpa using Df hb3
     have hF:=St.tS (f:=G6 Z.R L1 (.arr E e l) (((ps.toList.map Prod.snd).map (ev σ)).map λv:Value=>v.cells.toList).flatten) hr.same h1;refine WL.buildSlice (vs:=(ps.toList.map Prod.snd).map (ev σ)) (bN hE) (wR hb1) hF (WI (o:= .buildSlice t len ps) hd) (N? hb2) hlen hb4 h3 rfl (λp q c w' hs'=>WL.nil ?_);have h4:Cs (Be (λb=>A1 b/\Z.R b) w' e) l (((ps.toList.map Prod.snd).map (ev σ)).map λv:Value=>v.cells.toList).flatten:=hs'.fact 0 rfl;refine U8.of (λg=>hsame (isEmpty_nil (hG g))) (cK (a:= .arr E e l) (md:= .own e.size E (.slice p q c) _) hr hs'.yQ ⟨rfl,rfl,h4⟩ rfl (λB=>?_) h);rw[S.new,hr.len];exact sF
    ·cases h
theorem Ag1{E:TypeId}{i len cap m:Nat}{q:Option Addr}{cs:List Value}{l:List e.T}(hr:Rel Z s σs A L σ w)(hi:L[i]? =some (.own e.size E (.slice q len cap) cs))(hm:m<=len)(hl:Cs (Be (λb=>A b/\Z.R b) w e) l (cs.take (m*e.size))):
  Rel Z (((s.Zz i .dead).sub i .any).add (.arr E e l)) σs A (L.set i .dead++[.own e.size E (.slice q m cap) (cs.take (m*e.size))]) σ w:=by
 have hf:Frz (λb=>A b/\Z.R b) w L i .any:=⟨λz E' u c h=>⟨u,rfl,by rw[hi]at h;cases h;rfl⟩,rfl,rfl⟩;have hm2:=hr.mem.subst hf;have oV:(L.map MD.Kz)[i]? =some (Mob.own e.size E (.slice q len cap) cs):=hr.Kz hi;obtain⟨o,h1,h2,h3⟩:=(St.mobs hr).perm (rE oV).symm;have h4:(Mob.own e.size E (.slice q m cap) (cs.take (m*e.size))).holds o w:=by
  obtain⟨q',len',cap',g1,g2,g3,g4,g5,g6⟩:=h1;cases g1;have e5:m*e.size<=len*e.size:=J? _ hm;refine⟨q,m,cap,rfl,by rw[JW];omega,F0,g4,g5,λb hb=>?_⟩;obtain⟨arr,fr,k1,k2,k3,k4,k5⟩:=g6 b hb;exact⟨arr,fr,k1,k2,k3,k4,λj hj=>by rw[k5 j F0,S_,CD hj]⟩
 have h5:Dv w A (Mob.own e.size E (.slice q m cap) (cs.take (m*e.size))::(L.map MD.Kz).eraseIdx i):=⟨o,h4,h2,h3⟩;have h6:Dv w A (MD.dead.Kz::Mob.own e.size E (.slice q m cap) (cs.take (m*e.size))::(L.map MD.Kz).eraseIdx i):=⟨none,⟨none,0,0,rfl,CH,N! _,λ_=>rfl,λ_=>rfl,λb h=>by cases h⟩,λb hb=>(by cases hb),h5.HP λb hb=>hb.elim id λh=>by cases h⟩;have h7:Dv w A ((MD.own e.size E (.slice q m cap) (cs.take (m*e.size))).Kz::(L.set i .dead).map MD.Kz):=by
  rw[bM];exact h6.perm ((List.Perm.swap _ _ _).trans ((bV (m':=MD.dead.Kz) oV).cons _))
 have h8:St A w [LG Z.R (L.set i .dead) ((s.Zz i .dead).sub i .any) σs σ, .old Z.M Z.w0] ((MD.own e.size E (.slice q m cap) (cs.take (m*e.size))).Kz::(L.set i .dead).map MD.Kz):=by
  refine⟨St.lt hr,λf hf=>?_,h7⟩;cases hf with
  |head=>exact hm2
  |tail _ hf=>exact hr.facts f (.tail _ hf)
 exact Rel.push (a:= .arr E e l) h8 ⟨rfl,rfl,hl⟩
theorem F? {E:TypeId}{s1:S}{i:Nat}(hr:Rel Z s σs A L σ w)(hz:0<e.size)(hx:(Es s.sl x).zw=true)(h:gB s E e (Es s.sl x)=some (s1,i)):
  ∃L1,Rel Z s1 σs A L1 σ w/\∃c0,L1[i]? =some (.own e.size E (ev σ x) c0):=by
 have hv:=Ts hr.mem.sl x (PV.iy hx);unfold gB at h;split at h
 ·rename_i hp;cases h;rw[hp]at hv;have hev:=LR hv;have hr':=Rel.push (a:= .arr E e []) (md:= .own e.size E (.slice none 0 0) []) (St.xg hr e.size E) ⟨rfl,rfl,rfl⟩;refine⟨_,hr',[],?_⟩;rw[S.new,hr.len,hev];simp
 ·rename_i j hp;rw[hp]at hv;split at h
  ·rename_i E' e' l hj;obtain⟨hb,h⟩:=Bb h;split at h
   ·rename_i he;cases h;subst he;have:=Df hb;subst this;obtain⟨v,cs,h1,h2⟩:=hr.mem.arr hj;obtain⟨z,E',c,h3⟩:=PH hv;rw[h1]at h3;cases h3;exact⟨L,hr,cs,h1⟩
   ·cases h
  ·cases h
 ·rename_i j p e1 lo n' hp;rw[hp]at hv;split at h
  ·rename_i E' e' l hj;obtain⟨hb,h⟩:=Bb h;simp only[DG,E3]at hb;obtain⟨⟨hE,h0⟩,he1⟩:=hb;split at h
   ·rename_i he;cases h;subst he he1;have:=Df hE;subst this;subst h0;obtain⟨u,cs,h1,h2⟩:=hr.mem.arr hj;obtain⟨md,v1,h3,h4,k1,k2,_,k7,_⟩:=hv;rw[h1]at h3;cases h3;have h6:ev σ x=v1:=by simpa using h4
    obtain⟨s',E2,q,len,cap,c0,e1,e2,e3,_,e5⟩:=k7 rfl;cases e1;have e7:=e5 rfl;have hl:Cs (Be (λb=>A b/\Z.R b) w e1) (JV l 0 n') (cs.take (n'.toNat*e1.size)):=by
     have:=Cs.take (λx c h=>Be.len h) n'.toNat h2;simpa [JV]using this
    have hr':=Ag1 hr h1 (m:=n'.toNat) (by simpa using e3) hl;refine⟨_,hr',cs.take (n'.toNat*e1.size),?_⟩;rw[h6,e7,S.new,hr.len];have:L.length=(L.set j .dead).length:=by simp
    rw[this,TJ (N! _)];simp
   ·cases h
  ·cases h
 ·cases h
theorem Amy{a:Item}{l:List e.T}(h:lE e a=some l):∃E,a= .arr E e l:=by
 unfold lE at h;split at h
 ·rename_i E e' l';split at h
  ·rename_i he;subst he;cases h;exact⟨E,rfl⟩
  ·cases h
 ·cases h
theorem Axc {E:TypeId}{i dn:Nat}{l m:List e.T}{cs ys:List Value}{v':Value}{w':World}{s0:S}{A0:Reg}{L0:List MD}{w0:World}(hr:Rel Z s σs A L σ w)(hi:L[i]? =some (.own e.size E v cs))(hl:Cs (Be (λb=>A b/\Z.R b) w e) (l++m) (cs++ys))
  (hs:St A w' [G6 Z.R L (.arr E e (l++m)) (cs++ys),LG Z.R L s σs σ, .old Z.M Z.w0] ((L.map MD.Kz).set i (.own e.size E v' (cs++ys))))
  (hk:k ((((s.Zz i .dead).sub i .any).add (.arr E e (l++m))).Hm (some dn) (.own s.new))=some r):U8 Z σs k r False A0 L0 s0.it w0 (Zz σ dn v') w':=by
 have h1:Cs (Be (λb=>A b/\Z.R b) w' e) (l++m) (cs++ys):=hs.fact 0 rfl;have hone:v.oneCell'=true:=by obtain⟨p,len,cap,rfl,_⟩:=hr.Vs hi;rfl
 have hs1:=hs.yQ;have hm:MemR (λb=>A b/\Z.R b) w' L s σs σ:=hs1.fact 0 rfl;have hf:Frz (λb=>A b/\Z.R b) w' L i .any:=⟨λz E' u c h=>⟨u,rfl,by rw[hi]at h;cases h;exact hone⟩,rfl,rfl⟩;have hm2:=hm.subst hf;have oV:(L.map MD.Kz)[i]? =some (Mob.own e.size E v cs):=hr.Kz hi;have hs2:=Dv.oB hs1 (bV (m':=Mob.own e.size E v' (cs++ys)) oV).symm;have hs3:=Dv.oB (hs2.xg 1 0) (List.Perm.swap _ _ _);have hs4:=Dv.oB hs3 ((bV (m':=MD.dead.Kz) oV).cons _);have hs5:St A w' [LG Z.R (L.set i .dead) ((s.Zz i .dead).sub i .any) σs σ, .old Z.M Z.w0] ((MD.own e.size E v' (cs++ys)).Kz::(L.set i .dead).map MD.Kz):=by
  rw[bM];exact(hs4.noF.tS (f:= .old Z.M Z.w0) (hs4.fact 1 rfl)).tS (f:=LG Z.R (L.set i .dead) ((s.Zz i .dead).sub i .any) σs σ) hm2
 have hr2:=Rel.push (a:= .arr E e (l++m)) hs5 ⟨rfl,rfl,h1⟩;have hnew:s.new=(L.set i .dead).length:=by rw[W9,<-hr.len];rfl
 refine⟨_,A,_,hk,hr2.Hm (d:=some dn) rfl ?_,λg=>g.elim⟩;rw[hnew];exact sF
theorem Akg(z:Array Value)(hz:0<z.size)(m:Nat):((List.replicate m z.toList).flatten).toArray=Builtin.zeroCells z m:=by
 apply Array.ext
 ·simp[Builtin.zeroCells]
 ·intro j h1 h2;simp only[Builtin.zeroCells,Array.getElem_map,Array.getElem_range];have h3:j<m*z.size:=by simpa [Builtin.zeroCells]using h2
  have h4:=K5 z.toList z.size CH hz m j h3;have h5:j %z.size<z.size:=RW _ hz;simp only[List.getElem_toArray];rw[RR (by simpa using h1)]at h4;simp[h5]at h4;simp[h4,h5]
theorem Anh{E t t2:TypeId}{kk:List e.T->Option R}(hr:Rel Z s σs A L σ w)(ht:P.underlying t=some (.slice E))(hel:ElemOk P E e.size)(h:lC P s E e t2 y kk=some r):
  ∃m ys,kk m=some r/\Cs (Be (λb=>A b/\Z.R b) w e) m ys/\∀(A1:Reg) (F:List Fact) (LL:List Mob) (i ll:Nat) (vx:Value) (cs:List Value),St A1 w F LL->LL[i]? =some (.own e.size E vx cs)->cs.length=ll*e.size->ll+m.length<=V9->
   ∃v' w',(Builtin.append_ #[t,t2] ty #[vx,ev σ y]).run P w= .ok v' w'/\St A1 w' F (LL.set i (.own e.size E v' (cs++ys))):=by
 unfold lC at h;split at h
 ·rename_i ht2;split at h
  ·rename_i m0 hy;split at h
   ·rename_i m hm;unfold cW at hm;split at hm
    ·rename_i he;cases he;cases hm;refine⟨m0,JB m0,h,qz.NW,λA1 F LL i ll vx cs hs hL hlen hlim=>?_⟩;rw[Ua hr.mem.sl hy];exact rD (x:=y) (y:=y) ht hel hs hL (Src.string ht2) (Anf m0) hlen (by simp[JB,ET.size]) hlim
    ·cases hm
   ·cases h
  ·cases h
 ·rename_i et2 ht2;split at h
  ·rename_i m hm;have hV:(Es s.sl y).isV=true:=by
    cases hq:(Es s.sl y).isV with
    |true=>rfl
    |false=>rcases Zf hq with h|h|⟨_,_,_,h⟩<;>rw[h]at hm<;>cases hm
   obtain⟨c0,h1,h2⟩:=kT hr.mem hm (Ts hr.mem.sl y hV);have hrd:Rd (λ_=>True) w e.size (ev σ y) c0:=by
    rcases h2 with h2|⟨j,E',u,cs',_,h2,hpart⟩
    ·exact h2.step (λ_ _=>trivial) (λ_ _=>rfl)
    ·exact hpart _ _ (hr.Vs h2)
   have V4:=h1.len λx c h=>Be.len h;exact⟨m,c0,h,h1,λA1 F LL i ll vx cs hs hL hlen hlim=>rD (x:=y) (y:=y) ht hel hs hL (Src.slice ⟨_,ht2⟩ hrd V4 hel.pos) h1.yh hlen V4 hlim⟩
  ·cases h
 ·rename_i kk2 ht2;split at h
  ·rename_i q z hq hz;split at h
   ·rename_i x0 hx0;obtain⟨m,hm,h⟩:=bind_some h;obtain⟨h1,h2,rfl⟩:=G! hm;obtain⟨zv,⟨i0,hi0,hz0⟩,hz2⟩:=VY hz;have hx1:=VR hx0 (hz2 (λb=>A b/\Z.R b) w L);have hall:=uj hx1 q.toNat;refine⟨_,_,h,hall,λA1 F LL i ll vx cs hs hL hlen hlim=>?_⟩;rw[E9 hq (Ts hr.mem.sl y (vo hq)),h1];have hzs:zv.cells.size=e.size:=by have:=hx1.len;simpa using this
    rw[T_]at hlim;exact Bcd (x:=y) (y:=y) (ly:=q.toNat) ht hel hs hL ⟨_,ht2⟩ (λi z' hi hz'=>by rw[hi0]at hi;cases hi;rw[hz0]at hz';cases hz';exact Akg zv.cells (by rw[hzs];exact hel.pos) _)
     hall.yh hlen ((hall.len λx c h=>Be.len h).trans CH) hlim
   ·cases h
  ·cases h
 ·cases h
theorem Ane{t2:TypeId}{m:List e.T}(hr:Rel Z s σs A L σ w)(hz:0<e.size)(h:mB P s e t2 y=some m):∃ys,Cs (Be (λb=>A b/\Z.R b) w e) m ys/\Src P w t2 (ev σ y) e.size m.length ys:=by
 unfold mB at h;split at h
 ·rename_i ht2;split at h
  ·rename_i m0 hy;unfold cW at h;split at h
   ·rename_i he;cases he;cases h;refine⟨JB m0,qz.NW,?_⟩;rw[Ua hr.mem.sl hy];exact Src.string ht2
   ·cases h
  ·cases h
 ·rename_i et2 ht2;have hV:(Es s.sl y).isV=true:=by
   cases hq:(Es s.sl y).isV with
   |true=>rfl
   |false=>rcases Zf hq with h'|h'|⟨_,_,_,h'⟩<;>rw[h']at h<;>cases h
  obtain⟨c0,h1,h2⟩:=kT hr.mem h (Ts hr.mem.sl y hV);have hrd:Rd (λ_=>True) w e.size (ev σ y) c0:=by
   rcases h2 with h2|⟨j,E',u,cs',_,h2,hpart⟩
   ·exact h2.step (λ_ _=>trivial) (λ_ _=>rfl)
   ·exact hpart _ _ (hr.Vs h2)
  exact⟨c0,h1,Src.slice ⟨_,ht2⟩ hrd (h1.len λx c h=>Be.len h) hz⟩
 ·cases h
theorem Aon{l:List e.T}{c:Int}(h:lq e p=some (l,c)):p= .cap e l c:=by
 unfold lq at h;split at h
 ·split at h
  ·rename_i he;subst he;cases h;rfl
  ·cases h
 ·cases h
theorem Ahj{t t2:TypeId}{dn:Nat}(hr0:Rel Z s σs A L σ w)(hd:Ln n ⟨some dn, .call ⟨.builtin .append, #[x,y], #[t,t2]⟩,ty,pos,after,none⟩=true)
  (h:H4 P s (some dn) x y t t2 k=some r):DF P n ops ⟨some dn, .call ⟨.builtin .append, #[x,y], #[t,t2]⟩,ty,pos,after,none⟩ Z s σs k r False A L σ w:=by
 unfold H4 at h;split at h
 ·cases h
 ·rename_i E hE;split at h
  ·cases h
  ·rename_i e he;obtain⟨hb,h⟩:=Bb h;simp only[DG]at hb;have hel:=wR hb.1;split at h
   ·rename_i l c hcap;split at h
    ·rename_i m hm;obtain⟨r',ha,hk⟩:=bind_some h;obtain⟨h3,rfl⟩:=vU ha;obtain⟨_,hok,hk⟩:=bind_some hk;have hlt:c<Ac (l++m):=WU (Yw hok);obtain⟨ys,hy1,hy2⟩:=Ane hr0 hel.pos hm;obtain⟨v0,c0,g1,g2,g3,g4,p,len,g5⟩:=Dm hr0.mem.sl (Aon hcap) rfl;cases g1;have hlen:=g3.len λx c h=>Be.len h;have V4:=hy1.len λx c h=>Be.len h;unfold Ac at hlt;rw[D!]at hlt;obtain⟨v',w',h4,h5⟩:=Ax1 (ty:=ty) (bN hE) hel hr0.same (g2.step (A':=λ_=>True) (λ_ _=>trivial) (λ_ _=>rfl)) g5 F0 hy2 hlen V4 h3;refine WL.val (v:=v') (w':=w') rfl rfl (WI hd) ?_ (WL.nil (cK (a:= .arr E e (l++m)) (md:= .own e.size E v' (c0++ys)) hr0 h5 ⟨rfl,rfl,?_⟩ rfl (λB=>?_) hk))
     ·simp[execOp,resolve,invoke,builtin,h4]
     ·obtain⟨k1,k2⟩:(∀b,A b->A b)/\Same A w w':=h5.fact 0 rfl;exact(g3.append hy1).mono λx c h=>Be.step (λ_ h=>h) (λb hb=>k2 b hb.1) h
     ·rw[S.new,hr0.len];exact sF
    ·cases h
   split at h
   ·cases h
   ·rename_i s1 i hown;obtain⟨L1,hr,cs,hi⟩:=F? hr0 hel.pos hb.2 hown;split at h
    ·cases h
    ·rename_i l hl;obtain⟨E',hit⟩:=Amy hl;obtain⟨v1,cs1,h1,h2⟩:=hr.mem.arr hit;rw[hi]at h1;cases h1;have hlen:=h2.len λx c h=>Be.len h;obtain⟨m,ys,hk,hm,hrun⟩:=Anh (ty:=ty) hr0 (bN hE) hel h;obtain⟨r',ha,hk⟩:=bind_some hk;obtain⟨h3,rfl⟩:=vU ha;have hF:=St.tS (f:=G6 Z.R L1 (.arr E e (l++m)) (cs++ys)) hr (h2.append hm);obtain⟨v',w',h4,h5⟩:=hrun A _ _ i l.length (ev σ x) cs hF (hr.Kz hi) hlen h3;refine WL.val (v:=v') (w':=w') rfl rfl (WI hd) ?_ (WL.nil (Axc hr hi (h2.append hm) h5 hk));simp[execOp,resolve,invoke,builtin,h4]
end Go.Rx
namespace Go.Rx
open Go Go.Lv
variable {P:Program} {B:Reg} {w w':World} {L L':List MD} {s:S} {σs:List Env} {σ:Env} {Z:Fix} {A A':Reg} {n:Nat} {ops:Array Oper} {rest:List Oper} {K:Env->World->Prop}
variable {R:Type} {k:S->Option R} {r:R} {d:Option Nat} {ty:TypeId} {pos:String} {after:Array Edge}
theorem Amb{place:Nat->Option (Nat×Nat)}{acc ns:List Value}{i off z:Nat}{v:Value}{rest:List (Nat×Value)}(hp:place i=some (off,z))(hv:v.cells=ns.toArray)(hz:ns.length=z)(hl:off+z<=acc.length):
  Instr.fill place acc.toArray ((i,v)::rest)=Instr.fill place (Bn acc off ns).toArray rest:=by
 have hf:=kV off ns 0 acc F0;have k_:v.cells.zipIdx.foldl (λcs (x:Value×Nat)=>cs.setIfInBounds (off+x.2) x.1) acc.toArray=(Bn acc off ns).toArray:=by
  rw[hv,<-Array.foldl_toList,Array.toList_zipIdx];simpa using hf
 simp only[Instr.fill,hp];have hc:(decide (v.cells.size≠z)||decide (off+v.cells.size>acc.toArray.size))=false:=by rw[hv];simp;omega
 rw[B! (by rw[hc];simp)]
 show Instr.fill _ (v.cells.zipIdx.foldl (λcs (x:Value×Nat)=>cs.setIfInBounds (off+x.2) x.1) acc.toArray) _=_;rw[k_]
def places:List PV->Nat->List (Nat×Nat)
 |[],_=>[]
 |v::vs,off=>(off,v.size)::places vs (off+v.size)
theorem I6:∀{l:List PV} {i off:Nat} {u:PV},l[i]? =some u-> (places l off)[i]? =some (off+G7 l i,u.size)
 |[],_,_,_,h=>by simp at h
 |a::l,0,off,u,h=>by simp at h;subst h;rfl
 |a::l,i+1,off,u,h=>by
  have:=I6 (l:=l) (i:=i) (off:=off+a.size) (by simpa using h);simpa [places,G7,RU]using this
theorem G9:∀{l:List PV} {i off:Nat} {u v:PV},l[i]? =some u->u.size=v.size->places (l.set i v) off=places l off
 |[],_,_,_,_,h,_=>by simp at h
 |a::l,0,off,u,v,h,hs=>by simp at h;subst h;simp[places,hs]
 |a::l,i+1,off,u,v,h,hs=>by simp[places,G9 (l:=l) (i:=i) (by simpa using h) hs]
theorem Awj:∀{fs:List Field} {vs:List PV} {off:Nat},aZ P fs vs off=true-> (fs.map λf=>(f.offset,(P.info? f.type).map (·.size)))=(places vs off).map λp=>(p.1,some p.2)
 |[],[],_,_=>rfl
 |[],_::_,_,h=>by simp[aZ]at h
 |_::_,[],_,h=>by simp[aZ]at h
 |f::fs,v::vs,off,h=>by
  simp only[aZ,DG]at h;obtain⟨⟨h1,h2⟩,h3⟩:=h;split at h2
  ·rename_i i hi;simp[places,Awj h3,hi,Df h1,Df h2]
  ·cases h2
theorem Aw0(hr:Rel Z s σs A L σ w){pl:List (Nat×Nat)}:∀{parts:List (Nat×Operand)} {zs l:List PV} {acc:List Value},mD (parts.map λp=>(p.1,Es s.sl p.2)) zs=some l->
  places zs 0=pl->Bl.go (λb=>A b/\Z.R b) w L zs acc->∃cells,Instr.fill (pl[·]?) acc.toArray (parts.map λp=>(p.1,ev σ p.2))=some cells.toArray/\Bl.go (λb=>A b/\Z.R b) w L l cells
 |[],zs,l,acc,h,_,ha=>by simp only[bP,mD,DV]at h;subst h;exact⟨acc,rfl,ha⟩
 |(i,x)::ps,zs,l,acc,h,hpl,ha=>by
  subst hpl;simp only[T!,mD]at h;split at h
  ·rename_i u hu;obtain⟨hb,h⟩:=Bb h;simp only[DG]at hb;have hsz:=Df hb.1;obtain⟨ns,h1,h2⟩:=UJ hr (TL hr.mem.sl (x:=x) hb.2);obtain⟨c1,c2,c3,e,h3,h4,h5⟩:=Bl.field ha hu;have hlen:=h2.len;have qC:=h4.len;obtain⟨cells,h6,h7⟩:=Aw0 hr (zs:=zs.set i (Es s.sl x)) (acc:=c1++(ns++c3)) h (by rw[G9 hu hsz]) (h5 _ _ h2);refine⟨cells,?_,h7⟩;rw[T!,Amb (off:=c1.length) (z:=u.size) (ns:=ns) (by rw[I6 hu,T9,h3]) h1 F0 (by rw[e];simp;omega),e,dW F0];exact h6
  ·cases h
theorem Ale(hr:Rel Z s σs A L σ w){e:ET}:∀{parts:List (Nat×Operand)} {l l':List e.T} {acc:List Value},M0 e (parts.map λp=>(p.1,Es s.sl p.2)) l=some l'->
  Cs (Be (λb=>A b/\Z.R b) w e) l acc->∃cells,Instr.fill (λi=>some (i*e.size,e.size)) acc.toArray (parts.map λp=>(p.1,ev σ p.2))=some cells.toArray/\Cs (Be (λb=>A b/\Z.R b) w e) l' cells/\l'.length=l.length
 |[],l,l',acc,h,ha=>by simp only[bP,M0,DV]at h;subst h;exact⟨acc,rfl,ha,rfl⟩
 |(i,x)::ps,l,l',acc,h,ha=>by
  simp only[T!,M0]at h;split at h
  ·rename_i u y hu hy;obtain⟨ns,h1,h2⟩:=UJ hr (TL hr.mem.sl (x:=x) (zI hy));have h3:=VR hy h2;obtain⟨c1,c2,c3,e',h4,h5,h6⟩:=Cs.get (λx c h=>Be.len h) ha hu;have hlen:=h3.len;have qC:=h5.len;obtain⟨cells,h7,h8,h9⟩:=Ale hr (l:=l.set i y) (acc:=c1++(ns++c3)) h (h6 _ _ h3);refine⟨cells,?_,h8,by rw[h9,W9]⟩;rw[T!,Amb (off:=c1.length) (z:=e.size) (ns:=ns) (by rw[h4]) h1 hlen (by rw[e'];simp;omega),e',dW F0];exact h7
  ·cases h
theorem Agi{t et:TypeId}{m z:Nat}{parts:List (Nat×Operand)}{zv:Value}{cells:List Value}(ht:P.underlying t=some (.array m et))(hz:∃i,P.info? t=some i/\i.zero=some zv)(hsz:Kl P et z)
  (hf:Instr.fill (λi=>some (i*z,z)) zv.cells (parts.map λp=>(p.1,ev σ p.2))=some cells.toArray) (w:World):XO P σ w (.build t parts.toArray) (.agg cells.toArray):=λ_ _ _ _ _=>by
 obtain⟨i,hi,hz⟩:=hz;simp only[execOp,Instr.build,L3,zeroValue,typeInfo];simp[hi,hz,H? ht,Ch hsz,hf]
theorem Ahx{t:TypeId}{ps:Array (Nat×Operand)}{G:Prop}(hr:Rel Z s σs A L σ w)(hd:Ln n ⟨d, .build t ps,ty,pos,after,none⟩=true)(h:pq P s d t ps.toList k=some r):
  DF P n ops ⟨d, .build t ps,ty,pos,after,none⟩ Z s σs k r G A L σ w:=by
 have hps:ps=ps.toList.toArray:=by simp
 rw[show(⟨d, .build t ps,ty,pos,after,none⟩:Oper)=⟨d, .build t ps.toList.toArray,ty,pos,after,none⟩ by rw[<-hps]];unfold pq at h;split at h
 ·rename_i fs zs ht hz;obtain⟨hb,h⟩:=Bb h;obtain⟨z,⟨i,hi,hz0⟩,hz2⟩:=VY hz;split at h
  ·rename_i l hl;obtain⟨cells,h1,h2⟩:=Aw0 hr (pl:=places zs 0) hl rfl (show Bl.go _ w L zs _ from hz2 _ _ _);have hst:cQ P t (places zs 0) z.cells.toList:=by
    unfold cQ fI;rw[ht];simp only[Awj hb,hi,hz0,YW]
   exact En hr (d:=d) (o:= .build t ps.toList.toArray) (by simpa using hd) (X.build hst rfl (by simpa using h1)) rfl (show Gi _ w L (.agg l) _ from⟨cells,rfl,h2⟩) h
  ·cases h
 ·rename_i m et e0 l0 ht hz;split at h
  ·rename_i m' a l;split at h
   ·rename_i inf l' Vb hl;obtain⟨hb,h⟩:=Bb h;obtain⟨z,hz1,hz2⟩:=VY hz;obtain⟨h0,h0'⟩:l.length=m'/\Cs (Be (λb=>A b/\Z.R b) w a) l z.cells.toList:=hz2 _ _ L;obtain⟨cells,h1,h2,h3⟩:=Ale hr hl h0';have:=Agi (σ:=σ) (parts:=ps.toList) ht hz1 (Gj Vb hb) (by simpa using h1) w;exact En hr (d:=d) (o:= .build t ps.toList.toArray) (by simpa using hd) this rfl (show Gi _ w L (.val (.vec m' a) l') _ from⟨cells,rfl,h3.trans h0,h2⟩) h
   ·cases h
  ·cases h
 ·cases h
end Go.Rx
namespace Go.Rx
open Go Go.Lv
variable{e:ET}{q:PV}
variable {P:Program} {B B':Reg} {w w':World} {L L':List MD} {s:S} {σs:List Env} {σ:Env} {Z:Fix} {A A':Reg} {n:Nat}
def gM(B:Reg)(w:World)(L:List MD)(B':Reg)(w':World)(L':List MD)(q q':PV):Prop:=q'.isA=q.isA/\∀cs,Bl B w L q cs->Bl B' w' L' q' cs
inductive All2 {α β:Type} (f:α->β->Prop):List α->List β->Prop
 |nil:All2 f [] []
 |cons {a b l m}:f a b->All2 f l m->All2 f (a::l) (b::m)
theorem All2.split{α β:Type}{f:α->β->Prop}:∀{l1 l2:List α} {m:List β},All2 f (l1++l2) m->∃m1 m2,m=m1++m2/\All2 f l1 m1/\All2 f l2 m2
 |[],_,m,h=>⟨[],m,rfl, .nil,h⟩
 |a::l1,l2,_, .cons h1 h2=>let⟨m1,m2,e,h3,h4⟩:=All2.split h2;⟨_::m1,m2,by rw[e];rfl, .cons h1 h3,h4⟩
mutual
theorem qW:∀{sh:Sh} {p:PV} {ls ls' rest:List PV} {cs:List Value},Yj sh p=some ls->Bl B w L p cs->All2 (gM B w L B' w' L') ls ls'->∃p',Ut sh (ls'++rest)=some (p',rest)/\p'.isA=p.isA/\Bl B' w' L' p' cs
 | .lf e o,p,ls,ls',rest,cs,h,hp,ha=>by
  simp only[Yj,DV]at h;subst h;cases ha with
  |cons h1 h2=>
   cases h2;exact⟨_,rfl,h1.1,h1.2 _ hp⟩
 | .agg l,p,ls,ls',rest,cs,h,hp,ha=>by
  cases p<;>simp only[Yj,reduceCtorEq]at h;rename_i vs;obtain⟨us,h1,h2⟩:=Auj (rest:=rest) h (show Bl.go B w L vs cs from hp) ha;exact⟨.agg us,by simp only[Ut,h1],rfl,h2⟩
theorem Auj:∀{l:List Sh} {ps:List PV} {ls ls' rest:List PV} {cs:List Value},Yj.go l ps=some ls->Bl.go B w L ps cs->All2 (gM B w L B' w' L') ls ls'->∃ps',Ut.go l (ls'++rest)=some (ps',rest)/\Bl.go B' w' L' ps' cs
 |[],[],ls,ls',rest,cs,h,hp,ha=>by
  simp only[Yj.go,DV]at h;subst h;cases ha;exact⟨[],rfl,hp⟩
 |a::l,p::ps,ls,ls',rest,cs,h,⟨c1,c2,e,hp1,hp2⟩,ha=>by
  simp only[Yj.go]at h;split at h
  ·rename_i x y hx hy;cases h;obtain⟨m1,m2,rfl,h1,h2⟩:=ha.split;obtain⟨p',h3,_,h4⟩:=qW (rest:=m2++rest) hx hp1 h1;obtain⟨ps',h5,h6⟩:=Auj (rest:=rest) hy hp2 h2;exact⟨p'::ps',by simp only[Ut.go,RD,h3,h5],c1,c2,e,h4,h6⟩
  ·cases h
 |[],_::_,_,_,_,_,h,_,_=>by simp[Yj.go]at h
 |_::_,[],_,_,_,_,h,_,_=>by simp[Yj.go]at h
end
theorem Ar0:∀{l:List Sh} {ps:List PV} {ls ls' rest:List PV} {us:List Value},Yj.go l ps=some ls->Fc B w L ps us->All2 (gM B w L B' w' L') ls ls'->∃ps',Ut.go l (ls'++rest)=some (ps',rest)/\Fc B' w' L' ps' us
 |[],[],ls,ls',rest,us,h,hp,ha=>by
  simp only[Yj.go,DV]at h;subst h;cases ha;exact⟨[],rfl,hp⟩
 |a::l,p::ps,ls,ls',rest,us,h,⟨v,us',e,hp1,hp2⟩,ha=>by
  simp only[Yj.go]at h;split at h
  ·rename_i x y hx hy;cases h;obtain⟨m1,m2,rfl,h1,h2⟩:=ha.split;have key:∃p',Ut a (m1++(m2++rest))=some (p',m2++rest)/\asV p'.isA (Bl B' w' L' p') v:=by
    cases hA:p.isA with
    |true=>
     rw[hA]at hp1;obtain⟨cs,e1,hc⟩:=hp1;obtain⟨p',h3,h4,h5⟩:=qW (rest:=m2++rest) hx hc h1;exact⟨p',h3,by rw[h4,hA];exact⟨cs,e1,h5⟩⟩
    |false=>
     rw[hA]at hp1;obtain⟨p',h3,h4,h5⟩:=qW (rest:=m2++rest) hx hp1 h1;exact⟨p',h3,by rw[h4,hA];exact h5⟩
   obtain⟨p',h3,h4⟩:=key;obtain⟨ps',h5,h6⟩:=Ar0 (rest:=rest) hy hp2 h2;exact⟨p'::ps',by simp only[Ut.go,RD,h3,h5],v,us',e,h4,h6⟩
  ·cases h
 |[],_::_,_,_,_,_,h,_,_=>by simp[Yj.go]at h
 |_::_,[],_,_,_,_,h,_,_=>by simp[Yj.go]at h
theorem Ats{l:List Sh}{ps ls ls':List PV}{us:List Value}(h:gG l ps=some ls)(hp:Fc B w L ps us)(ha:All2 (gM B w L B' w' L') ls ls'):∃ps',kF l ls'=some ps'/\Fc B' w' L' ps' us:=by
 obtain⟨ps',h1,h2⟩:=Ar0 (rest:=[]) h hp ha;rw[R2]at h1;exact⟨ps',by simp only[kF,h1],h2⟩
theorem Axi{x:e.T}(h:mK s e q=some x):(∃e0,e= .list e0)\/ (∃e' x',q= .val e' x'/\cW e' e x'=some x):=by
 unfold mK at h;split at h
 ·exact .inl ⟨_,rfl⟩
 ·exact .inr ⟨_,_,rfl,h⟩
 ·cases h
theorem cast_eq{e':ET}{x:e.T}{y:e'.T}(h:cW e e' x=some y):PV.val e x=PV.val e' y:=by
 unfold cW at h;split at h
 ·rename_i he;subst he;cases h;rfl
 ·cases h
theorem Ahf{l:List e.T}(h:yc s e q=some l):elems s e q=some l/\q.isA=false/\q.size=1:=by
 unfold yc at h;refine⟨h,?_⟩;unfold elems at h;split at h
 ·split at h
  ·exact⟨rfl,rfl⟩
  ·cases h
 ·exact⟨rfl,rfl⟩
 ·exact⟨rfl,rfl⟩
 ·exact⟨rfl,rfl⟩
 ·exact⟨rfl,rfl⟩
 ·cases h
theorem As4(hr:Rel Z s σs A L σ w){x:e.T}(h:mK s e q=some x)(hb:∀b,A b/\Z.R b->B' b)(ho:∀i∈owns q,∀z E v c,L[i]? =some (.own z E v c)->Rd B' w z v c):gM (λb=>A b/\Z.R b) w L B' w L' q (.val e x):=by
 rcases Axi h with⟨e0,rfl⟩|⟨e',x',rfl,hc⟩
 ·obtain⟨h1,hA,h2⟩:=Ahf (show yc s e0 q=some x from h);refine⟨by rw[hA];rfl,λcs hcs=>?_⟩;have hP:=hcs.wQ;have hlen:=hcs.len;have:∃v,cs=[v]:=by
   rw[h2]at hlen
   match cs,hlen with
   |[v],_=>exact⟨v,rfl⟩
  obtain⟨v,rfl⟩:=this;have hv:Gi (λb=>A b/\Z.R b) w L q v:=(kN hP).2 (by unfold Jj;rw[hA];exact hcs);obtain⟨c0,h3,h4⟩:=kT hr.mem h1 hv;refine⟨v,c0,rfl,?_,h3.mono λx c h=>Be.step hb (λ_ _=>rfl) h⟩;rcases h4 with h4|⟨i,E,u,cs,hi,h4,hpart⟩
  ·exact h4.step hb (λ_ _=>rfl)
  ·exact hpart _ _ (ho i hi _ _ _ _ h4)
 ·have:=cast_eq hc;rw[this];exact⟨rfl,λcs h=>Be.step hb (λ_ _=>rfl) (show Be _ w e x cs from h)⟩
theorem sG{x:e.T}{s0:S}:Gd e none x s0=(.val e x,s0):=by cases e<;>rfl
theorem E5(x:RP [])(s0:S):Gl [] x s0=([],s0):=rfl
theorem dJ(p:ET×Option TypeId)(x:RP [p])(s0:S):Gl [p] x s0=([(Gd p.1 p.2 x s0).1],(Gd p.1 p.2 x s0).2):=rfl
theorem XH(p q:ET×Option TypeId)(r:List (ET×Option TypeId))(x:p.1.T)(y:RP (q::r))(s0:S):Gl (p::q::r) (x,y) s0=
  ((Gd p.1 p.2 x s0).1::(Gl (q::r) y (Gd p.1 p.2 x s0).2).1,(Gl (q::r) y (Gd p.1 p.2 x s0).2).2):=rfl
theorem pk0{p:ET×Option TypeId}:UK s [p] []=none:=rfl
theorem pk2{p:ET×Option TypeId}{r:PV}{qs:List PV}:UK s [p] (q::r::qs)=none:=rfl
theorem pk3{qs:List PV}:UK s [] (q::qs)=none:=rfl
theorem pk4{p q:ET×Option TypeId}{r:List (ET×Option TypeId)}:UK s (p::q::r) []=none:=rfl
theorem pk5{p q:ET×Option TypeId}{r:List (ET×Option TypeId)}{v:PV}{vs:List PV}:UK s (p::q::r) (v::vs)=(match mK s p.1 v,UK s (q::r) vs with|some x,some y=>some ((x,y):p.1.T×RP (q::r))|_,_=>none):=rfl
theorem Aky{qs:List PV}{x:RP []}(h:UK s [] qs=some x):qs=[]:=by
 match qs,h with
 |[],_=>rfl
 |_::_,h=>rw[pk3]at h;cases h
theorem A!{p:ET×Option TypeId}{qs:List PV}{x:RP [p]}(h:UK s [p] qs=some x):∃q,qs=[q]/\mK s p.1 q=some x:=by
 match qs,h with
 |[],h=>rw[pk0]at h;cases h
 |[q],h=>exact⟨q,rfl,h⟩
 |q::r::qs,h=>rw[pk2]at h;cases h
theorem Als{p q:ET×Option TypeId}{r:List (ET×Option TypeId)}{qs:List PV}{z:RP (p::q::r)}(h:UK s (p::q::r) qs=some z):
  ∃v vs,∃(x:p.1.T) (y:RP (q::r)),qs=v::vs/\z=(x,y)/\mK s p.1 v=some x/\UK s (q::r) vs=some y:=by
 match qs,h with
 |[],h=>rw[pk4]at h;cases h
 |v::vs,h=>
  rw[pk5]at h;split at h
  ·rename_i x y hx hy;cases h;exact⟨v,vs,x,y,rfl,rfl,hx,hy⟩
  ·cases h
def Oh(L:List MD):List (ET×Option TypeId)->List PV->List MD
 |p::r,v::vs=>match p.2 with
  |none=>Oh L r vs
  |some E=>(match p.1,v with
   | .list _, .own i=>L.getD i .dead
   | .list a,_=> .own a.size E (.slice none 0 0) []
   |_,_=> .dead)::Oh L r vs
 |_,_=>[]
theorem Au4:∀{ls:List (ET×Option TypeId)} {vs:List PV} {is:List Nat},X7 ls=true->consume s ls vs=some is->is=[]
 |[],[],is,_,h=>by simp[consume]at h;exact h
 |[],_::_,_,_,h=>by simp[consume]at h
 |_::_,[],_,_,h=>by simp[consume]at h
 |(e,none)::r,v::vs,is,hn,h=>Au4 (ls:=r) (vs:=vs) (by simpa [X7]using hn) (by simpa [consume]using h)
 |(e,some _)::r,v::vs,is,hn,h=>by simp[X7]at hn
theorem sH{N:Reg}:∀{ls:List (ET×Option TypeId)} {vs:List PV} {is:List Nat} {A:Reg},consume s ls vs=some is->Dv w A (is.map λi=>(L.getD i .dead).Kz)->Dv w A ((Oh L ls vs).map MD.Kz)
 |[],[],_,_,_,_=>trivial
 |[],_::_,_,_,h,_=>by simp[consume]at h
 |_::_,[],_,_,h,_=>by simp[consume]at h
 |(e,none)::r,v::vs,is,A,h,hm=>sH (N:=N) (ls:=r) (vs:=vs) (by simpa [consume]using h) hm
 |(e,some E)::r,v::vs,is,A,h,hm=>by
  simp only[consume]at h;split at h
  ·rename_i a;exact⟨none,⟨none,0,0,rfl,CH,N! _,λ_=>rfl,λ_=>rfl,λb h=>by cases h⟩,λb hb=>(by cases hb),(sH (N:=N) h hm).HP λb hb=>hb.elim id (λh=>by cases h)⟩
  ·rename_i a i;split at h
   ·rename_i E' a' l hi;obtain⟨_,h⟩:=Bb h;simp only[aW]at h;obtain⟨is',h1,rfl⟩:=h;obtain⟨o,g1,g2,g3⟩:=hm;exact⟨o,g1,g2,sH (N:=N) h1 g3⟩
   ·cases h
  ·cases h
theorem Apm{B1:Reg}(hr:Rel Z s σs A L σ w)(hb:∀b,A b/\Z.R b->B1 b):∀(ls:List (ET×Option TypeId)) (vs:List PV) (x:RP ls) (is:List Nat) (s0:S) (Lx LF:List MD),
  UK s ls vs=some x->consume s ls vs=some is-> (∀i∈Vv ls vs,∀z E v c,L[i]? =some (.own z E v c)->Rd B1 w z v c)->Lx.length=s0.it.length->LF=Lx++Oh L ls vs->
  ∃its,(Gl ls x s0).2=⟨s0.sl,s0.it++its,s0.st⟩/\its.length=(Oh L ls vs).length/\All2 (gM (λb=>A b/\Z.R b) w L B1 w LF) vs (Gl ls x s0).1/\
   ∀(i:Nat) (a:Item) (m:MD),its[i]? =some a-> (Oh L ls vs)[i]? =some m->CC B1 w LF a m
 |[],vs,x,is,s0,Lx,LF,hp,hc,_,_,_=>by
  rw[Aky hp];refine⟨[],?_,rfl,All2.nil,λi a m h=>by simp at h⟩;rw[E5];simp
 |p::ls,vs,x,is,s0,Lx,LF,hp,hc,ho,hlen,x? =>by
  have main:∀(v:PV) (vs':List PV) (x1:p.1.T) (rest:S->List PV×S),vs=v::vs'->mK s p.1 v=some x1->
    (Gl (p::ls) x s0=((Gd p.1 p.2 x1 s0).1::(rest (Gd p.1 p.2 x1 s0).2).1,(rest (Gd p.1 p.2 x1 s0).2).2))->
    (∀(is:List Nat) (s1:S) (Lx:List MD),consume s ls vs'=some is-> (∀i∈Vv ls vs',∀z E v c,L[i]? =some (.own z E v c)->Rd B1 w z v c)->Lx.length=s1.it.length->LF=Lx++Oh L ls vs'->
     ∃its,(rest s1).2=⟨s1.sl,s1.it++its,s1.st⟩/\its.length=(Oh L ls vs').length/\All2 (gM (λb=>A b/\Z.R b) w L B1 w LF) vs' (rest s1).1/\
      ∀(i:Nat) (a:Item) (m:MD),its[i]? =some a-> (Oh L ls vs')[i]? =some m->CC B1 w LF a m)->
    ∃its,(Gl (p::ls) x s0).2=⟨s0.sl,s0.it++its,s0.st⟩/\its.length=(Oh L (p::ls) vs).length/\All2 (gM (λb=>A b/\Z.R b) w L B1 w LF) vs (Gl (p::ls) x s0).1/\
     ∀(i:Nat) (a:Item) (m:MD),its[i]? =some a-> (Oh L (p::ls) vs)[i]? =some m->CC B1 w LF a m:=by
   intro v vs' x1 rest hvs hx hu hrest;subst hvs;rw[hu];obtain⟨e,o⟩:=p;cases o with
   |none=>
    have hc':consume s ls vs'=some is:=by simpa [consume]using hc
    have e1:Gd e none x1 s0=(.val e x1,s0):=sG;simp only[e1];obtain⟨its,h1,h2,h3,h4⟩:=hrest is s0 Lx hc' (λi hi=>ho i (by simp[Vv,hi])) hlen x?;refine⟨its,h1,h2, .cons (As4 hr hx hb (λi hi z E v c hL=>ho i (by simp[Vv,hi]) z E v c hL)) h3,h4⟩
   |some E=>
    simp only[consume]at hc;split at hc
    ·rename_i a;have hx':x1=[]:=by
      have:elems s a .nils=some x1:=hx;simpa [elems]using this.symm
     subst hx';have e1:Gd (.list a) (some E) [] s0=(.own s0.new,s0.add (.arr E a [])):=rfl;simp only[e1];obtain⟨its,h1,h2,h3,h4⟩:=hrest is (s0.add (.arr E a [])) (Lx++[.own a.size E (.slice none 0 0) []]) hc (λi hi=>ho i (by simpa [Vv]using hi)) (by simp[S.add,hlen]) (by rw[x?];simp[Oh]);refine⟨.arr E a []::its,by rw[h1];simp[S.add],by simp[Oh,h2], .cons ⟨rfl,λcs hcs=>?_⟩ h3,λi b m hi hm=>?_⟩
     ·refine⟨a.size,E, .slice none 0 0,[],?_,hcs⟩;rw[x?,S.new,<-hlen];simp[Oh]
     ·cases i with
      |zero=>
       simp[Oh]at hi hm;subst hi hm;exact⟨rfl,rfl,rfl⟩
      |succ i=>exact h4 i b m (by simpa using hi) (by simpa [Oh]using hm)
    ·rename_i a i;split at hc
     ·rename_i E' a' l hi;obtain⟨hb1,hc1⟩:=Bb hc;clear hc;simp only[DG,E3]at hb1;obtain⟨hE,rfl⟩:=hb1;have:=Df hE;subst this;simp only[aW]at hc1;obtain⟨is',hc',rfl⟩:=hc1;obtain⟨u,cs0,g1,g2⟩:=hr.mem.arr hi;have hx':x1=l:=by
       have:elems s a' (.own i)=some x1:=hx;simp[elems,hi]at this;exact this.symm
      subst hx';have hg:L.getD i .dead= .own a'.size E' u cs0:=by simp[J3,g1]
      have e1:Gd (.list a') (some E') x1 s0=(.own s0.new,s0.add (.arr E' a' x1)):=rfl;simp only[e1];obtain⟨its,h1,h2,h3,h4⟩:=hrest is' (s0.add (.arr E' a' x1)) (Lx++[.own a'.size E' u cs0]) hc' (λi hi=>ho i (by simpa [Vv]using hi)) (by simp[S.add,hlen]) (by rw[x?];simp only[Oh,hg];simp);refine⟨.arr E' a' x1::its,by rw[h1];simp[S.add],by simp[Oh,h2], .cons ⟨rfl,λcs hcs=>?_⟩ h3,λq b m hq hm=>?_⟩
      ·obtain⟨z,E2,v2,c2,k1,k2⟩:=hcs;rw[g1]at k1;cases k1;refine⟨a'.size,E',u,cs0,?_,k2⟩;rw[x?,S.new,<-hlen];simp only[Oh,hg];simp
      ·cases q with
       |zero=>
        simp only[Oh,hg]at hq hm;simp at hq hm;subst hq hm;exact⟨rfl,rfl,g2.mono λx c h=>Be.step hb (λ_ _=>rfl) h⟩
       |succ q=>exact h4 q b m (by simpa using hq) (by simpa [Oh]using hm)
     ·cases hc
    ·cases hc
  cases ls with
  |nil=>
   obtain⟨v,rfl,hx⟩:=A! hp;exact main v [] x (λs1=>([],s1)) rfl hx (dJ p x s0) (λis s1 Lx _ _ hlen x? =>⟨[],CH,rfl,All2.nil,λi a m h=>by simp at h⟩)
  |cons q r=>
   obtain⟨v,vs',x1,y',rfl,rfl,hx,hy⟩:=Als hp;exact main v vs' x1 (λs1=>Gl (q::r) y' s1) rfl hx (XH p q r x1 y' s0)
    (λis s1 Lx hc ho hlen x? =>Apm hr hb (q::r) vs' y' is s1 Lx LF hy hc ho hlen x?)
theorem Akh:∀(a b:List PV),owns.go (a++b)=owns.go a++owns.go b
 |[],b=>rfl
 |x::a,b=>by simp[owns.go,Akh a b]
mutual
theorem Aa8:∀{sh:Sh} {p:PV} {ls:List PV},Yj sh p=some ls->owns.go ls=owns p
 | .lf e o,p,ls,h=>by simp only[Yj,DV]at h;subst h;simp[owns.go]
 | .agg l,p,ls,h=>by cases p<;>simp only[Yj,reduceCtorEq]at h;exact qX h
theorem qX:∀{l:List Sh} {ps ls:List PV},Yj.go l ps=some ls->owns.go ls=owns.go ps
 |[],[],ls,h=>by simp only[Yj.go,DV]at h;subst h;rfl
 |a::l,p::ps,ls,h=>by
  simp only[Yj.go]at h;split at h
  ·rename_i x y hx hy;cases h;rw[Akh,Aa8 hx,qX hy];rfl
  ·cases h
 |[],_::_,_,h=>by simp[Yj.go]at h
 |_::_,[],_,h=>by simp[Yj.go]at h
end
structure KeepN (N:Reg) (w w':World):Prop where
 same:∀b,b<w.heap.size->N b->w'.heap[b]? =w.heap[b]?
 gr:Gr w w'
def GlOk(gl:List (Nat×List Value))(N:Reg)(w:World):Prop:=∀p∈gl,p.1<w.heap.size/\N p.1/\∃T fr,w.heap[p.1]? =some (.cells p.2.toArray T fr)
def x!(gl:List (Nat×List Value))(R N:Reg)(w w':World)(rs:List Sh)(y:RP (AZ rs))(us:List Value):Prop:=
 KeepN N w w'/\∃(A1:Reg) (L1:List MD),(∀b,A1 b-> (¬N b\/w.heap.size<=b)/\b<w'.heap.size)/\Dv w' (λb=>A1 b\/ (b<w.heap.size/\N b)) (L1.map MD.Kz)/\
  ∀(s:S) (L:List MD) (B':Reg),L.length=s.it.length-> (∀b,A1 b->B' b)-> (gQ rs=true->∀b,(R b/\N b)\/ (∃p∈gl,p.1=b)->B' b)->
   ∃ps its,(Gl (AZ rs) y s).2=⟨s.sl,s.it++its,s.st⟩/\kF rs (Gl (AZ rs) y s).1=some ps/\Fc B' w' (L++L1) ps us/\its.length=L1.length/\
   ∀(i:Nat) (a:Item) (m:MD),its[i]? =some a->L1[i]? =some m->CC B' w' (L++L1) a m
structure ConOk (P:Program) (gl:List (Nat×List Value)) (f:Nat) (c:Con):Prop where
 ent:Ent P f
 ok:∀(R N:Reg) (w:World) (L0:List MD) (vs:List Value) (ps:List PV) (x:RP (AZ c.ps)) (y:RP (AZ c.rs)),args c.ps x=some ps-> (s? c.ps x).length=L0.length->
  (∀(i:Nat) (a:Item) (m:MD),(s? c.ps x)[i]? =some a->L0[i]? =some m->CC (λb=>R b/\N b) w L0 a m)->Dv w N (L0.map MD.Kz)->Fc (λb=>R b/\N b) w L0 ps vs->GlOk gl N w->c.fn x=some y->
  Calls P f vs.toArray w λe w'=>∃us,e= .returned (SI us)/\x! gl R N w w' c.rs y us
end Go.Rx
namespace Go.Rx
open Go Go.Lv
variable{g:Operand}{G:Prop}
variable {P:Program} {B B':Reg} {w w':World} {L L':List MD} {s:S} {σs:List Env} {σ:Env} {Z:Fix} {A A':Reg} {n:Nat} {ops:Array Oper}
variable {R:Type} {k:S->Option R} {r:R} {d:Option Nat} {ty:TypeId} {pos:String} {after:Array Edge} {T:Tab} {inl:wz R}
def aY(P:Program)(gl:List (Nat×List Value))(inl:wz R):Prop:=∀(Z:Fix),Z.gl=gl->∀(f:Nat) (as:List PV) (s:S) (k:S->PV->Option R) (r:R) (σs:List Env) (A:Reg) (L:List MD) (σ:Env) (w:World) (vs:List Value),
 inl f as s k=some r->Rel Z s σs A L σ w->Fc (λb=>A b/\Z.R b) w L as vs->Ent P f/\Calls P f vs.toArray w λe w'=>∃v p s' A' L',e= .returned v/\k s' p=some r/\Rel Z s' σs A' L' σ w'/\p.isV=true/\Gi (λb=>A' b/\Z.R b) w' L' p v
def gE(P:Program)(T:Tab):Prop:=∀f c,T.get f=some c->ConOk P T.gl f c
def oI(P:Program)(T:Tab)(Z:Fix):Prop:=gE P T/\Z.gl=T.gl
theorem Fc.step{q:List PV}{vs:List Value}(hb:∀b,B b->B' b)(hs:Same B w w')(hl:jA L L')(h:Fc B w L q vs):Fc B' w' L' q vs:=Bl.yU hb hs hl h
theorem Fc.append:∀{p q:List PV} {us vs:List Value},Fc B w L p us->Fc B w L q vs->Fc B w L (p++q) (us++vs)
 |[],q,us,vs,h,h'=>by rw[show us=[]from h];exact h'
 |a::p,q,us,vs,⟨v,us',e,h1,h2⟩,h'=>⟨v,us'++vs,by rw[e];rfl,h1,Fc.append h2 h'⟩
theorem I? {ps:List PV}{us:List Value}(h:Fc B w L ps us):(y_ ps).isV=true/\Gi B w L (y_ ps) (SI us):=by
 match ps,us,h with
 |[],us,h=>rw[show us=[]from h];exact⟨rfl,[],rfl,rfl⟩
 |[p],us,⟨v,us',e,h1,h2⟩=>
  rw[show us'=[]from h2]at e;subst e;exact Mc h1
 |p::q::r,us,h=>
  obtain⟨v,us',e,h1,v2,us2,e2,h2,h3⟩:=h;subst e2 e;exact⟨rfl,v::v2::us2,rfl,v,_,rfl,h1,v2,us2,rfl,h2,h3⟩
theorem Rel.Ahg{w':World}{A1 BX:Reg}{L1:List MD}{its:List Item}(hr:Rel Z s σs A L σ w)(hBX:∀b,BX b-> ¬A b/\b<w.heap.size)(hY:Dv w (λb=>A b\/BX b) (L.map MD.Kz))
  (hk:KeepN (λb=>¬BX b) w w') (hA1:∀b,A1 b-> (¬ ¬BX b\/w.heap.size<=b)/\b<w'.heap.size)
  (hm:Dv w' (λb=>A1 b\/ (b<w.heap.size/\ ¬BX b)) (L1.map MD.Kz)) (hlen:its.length=L1.length)
  (hit:∀(i:Nat) (a:Item) (m:MD),its[i]? =some a->L1[i]? =some m->CC (λb=>(A b\/A1 b)/\Z.R b) w' (L++L1) a m):
  Rel Z ⟨s.sl,s.it++its,s.st⟩ σs (λb=>A b\/A1 b) (L++L1) σ w':=by
 have hlt:=St.lt hr;have hsame:Same A w w':=λb hb=>hk.same b (hlt b hb) λh=>(hBX b h).1 hb;have hmem:MemR (λb=>A b/\Z.R b) w' L s σs σ:=Fact.step _ (hr.fact 0 (f:=LG Z.R L s σs σ) rfl) (λ_ h=>h) hsame hk.gr;have hold:(Fact.old Z.M Z.w0).holds A w':=Fact.step _ (hr.fact 1 (f:= .old Z.M Z.w0) rfl) (λ_ h=>h) hsame hk.gr;have hl:=jA.append L L1;have hst:St (λb=>A b\/A1 b) w' [.old Z.M Z.w0] (L1.map MD.Kz++L.map MD.Kz):=by
  refine⟨λb hb=>hb.elim (λh=>RN (hlt b h) hk.gr.le) (λh=>(hA1 b h).2),λf hf=>?_,?_⟩
  ·cases hf with
   |head=>exact Fact.step _ hold (λ_ h=> .inl h) (λ_ _=>rfl) (.refl _)
   |tail _ h=>cases h
  ·refine Dv.append (λb=>b<w.heap.size/\ ¬BX b) (λb hb=>RN hb.1 hk.gr.le) (hm.HP ?_) ?_
   ·rintro b ((h|h)|h)
    ·exact .inr ⟨hlt b h,λhx=>(hBX b hx).1 h⟩
    ·exact .inl h
    ·exact .inr h
   ·refine(hY.lt.step hk.gr.le λb hb hn=>hk.same b hb λh=>hn (.inl (.inr h))).HP ?_;rintro b ((h|h)|h)
    ·exact .inl (.inl h)
    ·rcases(hA1 b h).1 with h|h
     ·exact .inl (.inr (Classical.not_not.1 h))
     ·exact .inr h
    ·by_cases hx:BX b
     ·exact .inl (.inr hx)
     ·exact .inr (Nat.le_of_not_lt λhl=>h ⟨hl,hx⟩)
 have hb:∀b,A b/\Z.R b-> (A b\/A1 b)/\Z.R b:=λb h=>⟨.inl h.1,h.2⟩;refine Rel.as (Dv.oB hst nu) (i:=0) rfl ⟨⟨?_,?_⟩,hmem.sl.step hb (λ_ _=>rfl) hl,hmem.stk.step hb (λ_ _=>rfl) hl⟩ (by rw[WN])
 ·simp[hmem.it.1,hlen]
 ·intro i a m g1 g2;simp only at g1;rcases XC i s.it.length with hi|hi
  ·rw[RM hi]at g1;rw[RM (by rw[<-hmem.it.1];exact hi)]at g2;exact(hmem.it.2 i a m g1 g2).step hb (λ_ _=>rfl) hl
  ·rw[TJ hi]at g1;rw[TJ (by rw[<-hmem.it.1];exact hi)]at g2;rw[hmem.it.1]at g1;exact hit _ a m g1 g2
theorem Dv.split:∀{X Y:List Mob} {A:Reg},Dv w A (X++Y)->∃BX:Reg,(∀b,BX b-> ¬A b/\b<w.heap.size)/\Dv w (λb=>¬BX b) X/\Dv w (λb=>A b\/BX b) Y
 |[],Y,A,h=>⟨λ_=>False,λb hb=>hb.elim,trivial,h.HP λb hb=>hb.elim id λh=>h.elim⟩
 |m::X,Y,A,⟨o,h1,h2,h3⟩=>by
  obtain⟨BX,g1,g2,g3⟩:=Dv.split h3;refine⟨λb=>BX b\/o=some b,λb hb=>?_,⟨o,h1,λb hb=>⟨λh=>h (.inr hb),(h2 b hb).2⟩,g2.HP ?_⟩,g3.HP ?_⟩
  ·rcases hb with hb|hb
   ·exact⟨λh=>(g1 b hb).1 (.inl h),(g1 b hb).2⟩
   ·exact h2 b hb
  ·rintro b (hb|hb)
   ·exact λh=>hb (.inl h)
   ·exact λh=>(g1 b h).1 (.inr hb)
  ·rintro b (hb|hb|hb)
   ·exact .inl (.inl hb)
   ·exact .inr hb
   ·exact .inl (.inr hb)
theorem Dv.yK:∀{Y:List Mob} {A:Reg} {i:Nat} {m:Mob},Dv w A Y->Y[i]? =some m->∃o,m.holds o w/\∀b,o=some b-> ¬A b
 |_::_,A,0,m,⟨o,h1,h2,_⟩,h=>⟨o,by simp at h;exact h▸h1,λb hb=>(h2 b hb).1⟩
 |_::Y,A,i+1,m,⟨o,_,_,h3⟩,h=>by
  obtain⟨q,g1,g2⟩:=Dv.yK h3 (i:=i) (by simpa using h);exact⟨q,g1,λb hb hA=>g2 b hb (.inl hA)⟩
theorem Axu {w:World}:MD.dead.Kz.holds none w:=⟨none,0,0,rfl,CH,N! _,λ_=>rfl,λ_=>rfl,λb h=>by cases h⟩
theorem ES{i:Nat}:∀{l:List Nat},BZ i l=true↔i∈l
 |[]=>by simp[BZ]
 |j::l=>by
  simp only[BZ,SU,Y!,ES (l:=l)];exact or_congr ⟨Df,λh=>by subst h;simp⟩ Y7
theorem wO{f:Item->Item}(hf:f .dead= .dead):∀{l:List Item} {i:Nat},De (l.map f) i=f (De l i)
 |[],_=>by simp[De,hf]
 |_::_,0=>rfl
 |_::r,i+1=>by simpa [De]using wO hf (l:=r) (i:=i)
theorem Apj:∀{l:List Item} {i j:Nat},De l i= .dead->De (HT l j .dead) i= .dead
 |[],_,_,h=>by simpa [HT]using h
 |_::_,0,0,_=>rfl
 |_::_,0,j+1,h=>by simpa [HT,De]using h
 |_::_,i+1,0,h=>by simpa [HT,De]using h
 |_::r,i+1,j+1,h=>by simpa [HT,De]using Apj (l:=r) (i:=i) (j:=j) (by simpa [De]using h)
theorem Al8:∀{l:List Item} {i:Nat},De (HT l i .dead) i= .dead
 |[],_=>rfl
 |_::_,0=>rfl
 |_::r,i+1=>by simpa [HT,De]using Al8 (l:=r) (i:=i)
theorem O0{i:Nat}:∀{is:List Nat} {s s':S},De s.it i= .dead->s.zH is=some s'->BZ i is=false
 |[],_,_,_,_=>rfl
 |j::is,s,s',hd,h=>by
  simp only[S.zH]at h;split at h
  ·rename_i s1 h1;unfold S.kill at h1;split at h1
   ·rename_i E e l hj;cases h1;have hij:Nat.beq i j=false:=by
     cases hb:Nat.beq i j with
     |false=>rfl
     |true=>rw[Df hb]at hd;rw[hd]at hj;cases hj
    have:De ((s.Zz j .dead).sub j .any).it i= .dead:=by
     show De ((HT s.it j .dead).map _) i=_;rw[wO rfl,Apj hd];rfl
    simp[BZ,hij,O0 this h]
   ·cases h1
  ·cases h
theorem Aua:∀{is:List Nat} {s s':S} {L:List MD},MemR B w L s σs σ-> (∀(i z:Nat) (E:TypeId) (v:Value) (c:List Value),L[i]? =some (.own z E v c)->v.oneCell'=true)->s.zH is=some s'->
  ∃L',MemR B w L' s' σs σ/\ (is=[]->L'=L)/\ (∀j,BZ j is=false->L'[j]? =L[j]?)/\∀(A:Reg) (X:List Mob),Dv w A (X++L.map MD.Kz)->Dv w A (X++(is.map λi=>(L.getD i .dead).Kz)++L'.map MD.Kz)
 |[],s,s',L,hm,_,h=>by
  simp only[S.zH,DV]at h;subst h;exact⟨L,hm,λ_=>rfl,λ_ _=>rfl,λA X hX=>by simpa using hX⟩
 |i::is,s,s',L,hm,hone,h=>by
  simp only[S.zH]at h;split at h
  ·rename_i s1 h1;unfold S.kill at h1;split at h1
   ·rename_i E e l hi;cases h1;obtain⟨v,cs,hL,_⟩:=hm.arr hi;have hf:Frz B w L i .any:=⟨λz E' u c h=>⟨u,rfl,by rw[hL]at h;cases h;exact hone _ _ _ _ _ hL⟩,rfl,rfl⟩;have hm2:=hm.subst hf;have hlt:=(List.getElem?_eq_some_iff.1 hL).1;obtain⟨L',g1,g2,g3,g4⟩:=Aua hm2 (λj z E v c hj=>by
     by_cases hji:j=i
     ·subst hji;rw[X3 hlt]at hj;cases hj
     ·rw[W4 (UO hji)]at hj;exact hone _ _ _ _ _ hj) h
    refine⟨L',g1,(λe=>by cases e),λj hj=>?_,λA X hX=>?_⟩
    ·simp only[BZ,aX]at hj;rw[g3 j hj.2,W4 (λe=>by subst e;simp at hj)]
    ·have oV:(L.map MD.Kz)[i]? =some (L.getD i .dead).Kz:=by simp[hL,J3]
     have hX1:Dv w A (MD.dead.Kz::(L.map MD.Kz).eraseIdx i++(X++[(L.getD i .dead).Kz])):=by
      have h1:Dv w A (MD.dead.Kz::(X++L.map MD.Kz)):=⟨none,Axu,λb hb=>(by cases hb),hX.HP λb hb=>hb.elim id λh=>by cases h⟩;refine h1.perm (.cons _ ?_);have hp:=(rE oV).symm;refine(List.Perm.append_left X hp).trans ?_;rw[show X++(L.getD i .dead).Kz::(L.map MD.Kz).eraseIdx i=(X++[(L.getD i .dead).Kz])++(L.map MD.Kz).eraseIdx i by simp];exact nu
     have hX2:Dv w A ((X++[(L.getD i .dead).Kz])++(L.set i .dead).map MD.Kz):=by
      refine hX1.perm (List.perm_append_comm.trans (List.Perm.append_left _ ?_));rw[bM];exact bV oV
     have:=g4 A _ hX2;have hni:BZ i is=false:=O0 (s:=(s.Zz i .dead).sub i .any) (by
      show De ((HT s.it i .dead).map _) i=_;rw[wO rfl,Al8];rfl) h
     have he:(is.map λj=>((L.set i .dead).getD j .dead).Kz)=is.map λj=>(L.getD j .dead).Kz:=by
      refine YQ λj hj=>?_;have:j≠i:=λe=>by
       subst e;rw[ES.2 hj]at hni;cases hni
      simp only[J3,W4 (UO this)]
     rw[he]at this;simpa using this
   ·cases h1
  ·cases h
theorem Be.noL:∀{e:ET} {x:e.T} {cs:List Value},e.R3=false->Be B w e x cs->Be B' w' e x cs
 | .int k,x,cs,_,h=>h
 | .bool,x,cs,_,h=>h
 | .str,x,cs,_,h=>h
 | .list e,l,cs,hL,h=>by cases hL
 | .vec m e,l,cs,hL,⟨h1,h2⟩=>⟨h1,h2.mono λx c h=>Be.noL (e:=e) hL h⟩
 | .cons a q,x,cs,hL,⟨c1,c2,e,h1,h2⟩=>by
  simp only[ET.R3,aX]at hL;exact⟨c1,c2,e,Be.noL hL.1 h1,Be.noL hL.2 h2⟩
 | .nil,_,cs,_,h=>h
theorem J2:∀{ls:List (ET×Option TypeId)} {vs:List PV},owns.go vs=[]->Vv ls vs=[]
 |[],_,_=>by unfold Vv;rfl
 |_::_,[],_=>by unfold Vv;rfl
 |(e,o)::ls,v::vs,h=>by
  simp only[owns.go,List.append_eq_nil_iff]at h;cases o<;>simp[Vv,h.1,J2 h.2]
theorem Rel.out(hr:Rel Z s σs A L σ w){b:Nat}(hb:¬A b):Z.R b:=by
 rcases XC b Z.w0.heap.size with hlt|hge
 ·have hold:=(hr.fact 1 (f:= .old Z.M Z.w0) rfl).2 b hlt;exact Z.mod b (zS λhM=>hb (hold hM).1)
 ·exact Z.new b hge
theorem Aj3{f:Nat}{fs:List PV}{as:Array Operand}{ts:Array TypeId}{dn:Nat}(hT:oI P T Z)(hI:aY P T.gl inl)(hr0:Rel Z s σs A L σ w)(hg:Es s.sl g= .bfn f fs)
  (hd:Ln n ⟨some dn, .call ⟨.value g,as,ts⟩,ty,pos,after,none⟩=true) (hP:O7 (as.toList.map (Es s.sl))=true) (h:inl f (fs++as.toList.map (Es s.sl)) s (λs v=>k (s.Hm (some dn) v))=some r) (hG:¬G):
  DF P n ops ⟨some dn, .call ⟨.value g,as,ts⟩,ty,pos,after,none⟩ Z s σs k r G A L σ w:=by
 obtain⟨fvs,hgv,hfs⟩:∃vs:List Value,ev σ g= .func (.func f) vs.toArray #[]/\Fc (λb=>A b/\Z.R b) w L fs vs:=by
  obtain⟨vs,h1,h2⟩:=Dm hr0.mem.sl hg rfl;exact⟨vs,by simpa using h1,h2⟩
 have hpv:=Fc.append hfs (nI hr0.mem.sl _ hP);obtain⟨he,hcall⟩:=hI Z hT.2 f _ s _ r σs A L σ w _ h hr0 hpv;have hxe:XE P σ w (.call ⟨.value g,as,ts⟩) f (fvs++as.toList.map (ev σ)).toArray:=λ_ _ _ _ _=>by
  have h1:(callFunc f (fvs.toArray++as.map (ev σ))).run P w= .ok (.enter f (fvs.toArray++as.map (ev σ))) w:=he _ w;have h2:(fvs++as.toList.map (ev σ)).toArray=fvs.toArray++as.map (ev σ):=by apply b_;simp
  rw[h2];simp[execOp,resolve,hgv,Deferred.ofValue,invoke,h1]
 refine WL.e (WI hd) hxe hcall ?_;rintro e w' ⟨v,p,s',A',L',rfl,hk,hr',hv,hv'⟩;exact⟨_,rfl,WL.nil ⟨_,A',L',hk,hr'.Hm (d:=some dn) hv hv',λgg=>absurd gg hG⟩⟩
theorem Anp{f:Nat}{caps:List PV}{as:Array Operand}{ts:Array TypeId}{dn:Nat}(hT:oI P T Z)(hI:aY P T.gl inl)(hr0:Rel Z s σs A L σ w)(hg:Es s.sl g= .fn f caps)
  (hd:Ln n ⟨some dn, .call ⟨.value g,as,ts⟩,ty,pos,after,none⟩=true) (h:k! P T inl s (some dn) f caps as.toList k=some r)
  (hG:G->∃c,T.get f=some c/\X7 (AZ c.ps)=true/\ (J0 c=false\/owns.go (as.toList.map (Es s.sl))=[])):
  DF P n ops ⟨some dn, .call ⟨.value g,as,ts⟩,ty,pos,after,none⟩ Z s σs k r G A L σ w:=by
 obtain⟨cvs,hgv,yH⟩:=Amx (Dm hr0.mem.sl hg rfl);have has:as=as.toList.toArray:=by simp
 have hxe:Ent P f->XE P σ w (.call ⟨.value g,as,ts⟩) f (as.toList.map (ev σ)++cvs).toArray:=λhe=>by
  have:=X.Ato (P:=P) (σ:=σ) (w:=w) (args:=as.toList) (ts:=ts) he hgv rfl;rw[<-has]at this;exact this
 unfold k! at h;split at h
 ·rename_i c hc;have hcon:=hT.1 f c hc;split at h
  ·have hc0:cvs=[]:=yH;subst hc0;split at h
   ·cases h
   ·rename_i ls0 zL;split at h
    ·cases h
    ·rename_i s1 hs1;obtain⟨A1,L1,hr,hsame⟩:∃A1 L1,Rel Z s1 σs A1 L1 σ w/\ (G->s1=s/\A1=A/\L1=L):=by
      split at hs1
      ·rename_i hro;obtain⟨A1,L1,h1,h2⟩:=Tj hr0 hs1;refine⟨A1,L1,h1,λg=>h2 ?_⟩;obtain⟨c',hc',_,h3⟩:=hG g;rw[hc]at hc';cases hc';rcases h3 with h3|h3
       ·rw[hro]at h3;cases h3
       ·exact J2 (by rw[qX zL];exact h3)
      ·cases hs1;exact⟨A,L,hr0,λ_=>⟨rfl,rfl,rfl⟩⟩
     cases hP:O7 (as.toList.map (Es s1.sl))with
     |false=>rw[hP]at h;cases h
     |true=>
     rw[hP]at h;simp only[XB,Y4]at h;try dsimp only[Dk]at h
     split at h
     ·cases h
     ·rename_i ls hls;cases cY:(J0 c&& !(Vv (AZ c.ps) ls).isEmpty)with
      |true=>rw[cY]at h;cases h
      |false=>
      rw[cY]at h;dsimp only[Dk,cond]at h;split at h
      ·cases h
      ·rename_i x hx;split at h
       ·cases h
       ·rename_i is his;cases mG:(!((Vv (AZ c.ps) ls).all λi=>!BZ i is))with
        |true=>rw[mG]at h;cases h
        |false=>
        rw[mG]at h;dsimp only[Dk,cond]at h;split at h
        ·cases h
        ·rename_i s2 hs2;obtain⟨y,hy,h⟩:=bind_some h;change (match kF c.rs (Gl (AZ c.rs) y s2).1 with|some vs=>k ((Gl (AZ c.rs) y s2).2.Hm (some dn) (y_ vs))|none=>none)=some r at h;have hpv:=nI hr.mem.sl _ hP;have hone:∀(i z:Nat) (E:TypeId) (v:Value) (c:List Value),L1[i]? =some (.own z E v c)->v.oneCell'=true:=λi z E v c hi=>by
          obtain⟨p,len,cap,rfl,_⟩:=hr.Vs hi;rfl
         obtain⟨L2,hm2,hnil,hget,Auo⟩:=Aua hr.mem hone hs2;obtain⟨BX,hBX,hX,hY⟩:=Dv.split (Auo A1 [] (by simpa using St.mobs hr));have hr2:Rel Z s2 σs A1 L2 σ w:=Rel.as (h:=(⟨St.lt hr,hr.facts,hY.HP λ_ h=> .inl h⟩:St A1 w _ (L2.map MD.Kz))) (i:=1) rfl hm2 rfl;have hL0:Dv w (λb=>¬BX b) ((Oh L1 (AZ c.ps) ls).map MD.Kz):=sH (N:=λ_=>True) his (by simpa using hX);have key:∀R0:Reg,(∀b,A1 b/\Z.R b->R0 b)-> (Vv (AZ c.ps) ls=[]\/∀b,R0 b)-> (J0 c=true->∀b,R0 b->A1 b/\Z.R b)->
           DF P n ops ⟨some dn, .call ⟨.value g,as,ts⟩,ty,pos,after,none⟩ Z s σs k r G A L σ w:=by
          intro R0 h1 h2 h3;have hb1:∀b,A1 b/\Z.R b->R0 b/\ ¬BX b:=λb hb=>⟨h1 b hb,λhx=>(hBX b hx).1 hb.1⟩;obtain⟨Avr,e1,e2,e3,e4⟩:=Apm (B1:=λb=>R0 b/\ ¬BX b) hr hb1 (AZ c.ps) ls x is ⟨[],[],[]⟩ [] (Oh L1 (AZ c.ps) ls) hx his (λi hi z E v cc hLi=>by
           rcases h2 with h2|h2
           ·rw[h2]at hi;cases hi
           ·have hni:BZ i is=false:=by
             have:=mG;simp only[h!,iB,S4]at this;exact this i hi
            have Avs:=(hget i hni).trans hLi;obtain⟨o,g1,g2⟩:=Dv.yK hY (hr2.Kz Avs);exact(Go.Lv.Vs g1).step (λb hb=>⟨h2 b,λhx=>g2 b hb (.inr hx)⟩) (λ_ _=>rfl)) rfl rfl
          obtain⟨ps,h5,h6⟩:=Ats hls hpv e3;have gS:s? c.ps x=Avr:=by unfold s?;rw[e1];rfl
          have hcall:=hcon.ok R0 (λb=>¬BX b) w _ _ ps x y h5 (by rw[gS];exact e2) (by rw[gS];exact e4) hL0 h6 (λp hp=>by
           obtain⟨hA,T1,fr,hh⟩:=hr.cN (hT.2▸hp);exact⟨lt_of_heap hh,λhx=>(hBX _ hx).1 hA.1,T1,fr,hh⟩) hy
          have hxe':=hxe hcon.ent;rw[R2]at hxe';refine WL.e (WI hd) hxe' hcall ?_;rintro e w' ⟨us,rfl,hk,A2,LL,hA2,hm3,hres⟩;refine⟨_,rfl,WL.nil ?_⟩;have hnew:∀b,A2 b->Z.R b:=λb hb=>by
           rcases(hA2 b hb).1 with h7|h7
           ·exact hr.out (hBX b (Classical.not_not.1 h7)).1
           ·refine Z.new b ?_;have h8:Z.w0.heap.size<=w.heap.size:=(hr.fact 1 (f:= .old Z.M Z.w0) rfl).1.le;omega
          obtain⟨ps',its,g1,g2,g3,g4,g5⟩:=hres s2 L2 (λb=>(A1 b\/A2 b)/\Z.R b) hr2.len.symm (λb hb=>⟨.inr hb,hnew b hb⟩) (λhro b hb=>by
           rcases hb with hb|⟨p,hp,rfl⟩
           ·exact⟨.inl (h3 hro b hb.1).1,(h3 hro b hb.1).2⟩
           ·exact⟨.inl (hr.cN (hT.2▸hp)).1.1,(hr.cN (hT.2▸hp)).1.2⟩)
          have hr':=Rel.Ahg hr2 hBX hY hk hA2 hm3 g4 g5;obtain⟨hv,hv'⟩:=I? g3;rw[g2]at h;refine⟨_,λb=>A1 b\/A2 b,L2++LL,h,?_,λgg=>?_⟩
          ·rw[g1];exact hr'.Hm (d:=some dn) hv hv'
          ·obtain⟨e1',e2',e3'⟩:=hsame gg;obtain⟨c',hc',hno,_⟩:=hG gg;rw[hc]at hc';cases hc';have Avu:=Au4 hno his;subst Avu;have Avv:s1=s2:=by simpa [S.zH]using hs2
           have Avw:=hnil rfl;subst Avv Avw e1' e2' e3';rw[g1];exact⟨λb hb=> .inl hb,λb hb=>hk.same b (St.lt hr b hb) λhx=>(hBX b hx).1 hb,⟨LL,rfl⟩,⟨its,rfl⟩⟩
         cases hro':J0 c with
         |true=>
          refine key (λb=>A1 b/\Z.R b) (λ_ h=>h) (.inl ?_) (λ_ _ h=>h);rw[hro']at cY;simp only[V8,h!]at cY;exact isEmpty_nil cY
         |false=>exact key (λ_=>True) (λ_ _=>trivial) (.inr λ_=>trivial) (λh=>by rw[hro']at h;cases h)
  ·cases h
 ·rename_i hn;obtain⟨hP,h⟩:=Bb h;have hpv:=Fc.append (nI hr0.mem.sl _ hP) yH;obtain⟨he,hcall⟩:=hI Z hT.2 f _ s _ r σs A L σ w _ h hr0 hpv;refine WL.e (WI hd) (hxe he) hcall ?_;rintro e w' ⟨v,p,s',A',L',rfl,hk,hr',hv,hv'⟩;refine⟨_,rfl,WL.nil ⟨_,A',L',hk,hr'.Hm (d:=some dn) hv hv',λgg=>?_⟩⟩;obtain⟨c,hc,_⟩:=hG gg;rw[hn]at hc;cases hc
end Go.Rx
namespace Go.Rx
open Go Go.Lv
variable{o:BinOp}{e:ET}{x y:Operand}{v:PV}{G:Prop}{vy:Value}
variable {P:Program} {B B':Reg} {w w':World} {L L':List MD} {s:S} {σs:List Env} {σ:Env} {Z:Fix} {A A':Reg} {n:Nat} {ops:Array Oper}
variable {R:Type} {k:S->Option R} {r:R} {d:Option Nat} {ty:TypeId} {pos:String} {after:Array Edge} {T:Tab} {inl:wz R}
theorem ZB{l:List Oper}{K K':Env->World->Prop}(h:WL P n ops l K σ w)(hk:∀σ w,K σ w->K' σ w):WL P n ops l K' σ w:=by
 have:=WL.cut (rest:=[]) K l h (λσ w h=>WL.nil (hk σ w h));rwa [R2]at this
theorem look_ok{a:UInt8}{z:PV}{kk:PV->Option R}:∀{es:List MapEntry} {ks:List UInt8} {vs:List PV} {i:Nat},es.map (·.key)=ks.map (λk=>iv (T:=UInt8) (k:= .u8) k)->Fc B w L vs (es.map (·.val))->lkC a kk z ks vs=some r->
  ∃res,Instr.findNow (.int .u8) (iv (T:=UInt8) (k:= .u8) a) es i=some res/\match res with
   |some (_,v)=>∃p:PV,asV p.isA (Bl B w L p) v/\kk (.tup [p, .b true])=some r
   |none=>kk (.tup [z, .b false])=some r
 |[],[],[],i,_,_,h=>⟨none,rfl,h⟩
 |[],[],_::_,i,_,⟨_,_,e,_⟩,h=>by cases e
 |[],_::_,_,i,h,_,_=>by cases h
 |_::_,[],_,i,h,_,_=>by cases h
 |e::es,q::ks,[],i,_,h,_=>by cases h
 |e::es,q::ks,p::vs,i,hk,⟨v,vs',hv,h1,h2⟩,h=>by
  simp only[T!,bL]at hk hv;obtain⟨hk1,hk2⟩:=hk;obtain⟨rfl,rfl⟩:=hv;have hs:Instr.sameNow (.int .u8) (iv (T:=UInt8) (k:= .u8) a) e.key=some (geq a q):=by
   rw[hk1];rfl
  unfold lkC at h;cases hb:geq a q with
  |true=>
   rw[hb,CD rfl]at h;exact⟨some (i,e.val),by simp only[Instr.findNow,hs,hb],p,h1,h⟩
  |false=>
   rw[hb,B! CH]at h;obtain⟨res,g1,g2⟩:=look_ok (i:=i+1) hk2 h2 h;exact⟨res,by simp only[Instr.findNow,hs,hb];exact g1,g2⟩
theorem Afe{t:TypeId}{ix:Operand}{dn:Nat}(hr:Rel Z s σs A L σ w)(hd:Ln n ⟨some dn, .lookup t x ix true,ty,pos,after,none⟩=true)(h:jm P s dn t x ix k=some r):
  DF P n ops ⟨some dn, .lookup t x ix true,ty,pos,after,none⟩ Z s σs k r G A L σ w:=by
 have hm:=hr.mem;unfold jm at h;split at h
 ·rename_i ks vs e a kt et hx hix ht;split at h
  ·rename_i a' hkt;split at h
   ·rename_i inf Vb;split at h
    ·rename_i hz;obtain⟨rr,es,c,h1,h2,h3,h4,h5⟩:=Dm hm.sl hx rfl;have hxv:ev σ x= .map (some rr):=by simpa using h1
     have hiv:ev σ ix=iv (T:=UInt8) (k:= .u8) a':=PG (Dm hm.sl hix rfl);obtain⟨res,g1,g2⟩:=look_ok (i:=0) h4 h5 h;have hzr:(zeroValue et).run P w= .ok .nilFunc w:=by simp[zeroValue,typeInfo,Vb,hz]
     have hck:(Instr.checkKey es.isEmpty 10000 kt (iv (T:=UInt8) (k:= .u8) a')).run P w= .ok () w:=MapKept.run_checkKey hkt (show MapKept.IsKey (.int .u8) (.int .u8 _)from rfl) _ 9999;have hfk:=MapKept.run_findKey (P:=P) (w:=w) hkt g1;have hgo:=MapKept.run_getObj_map (P:=P) h3;cases res with
     |none=>
      refine En (p:= .tup [.cst .nilFunc, .b false]) (val:= .tuple #[.nilFunc, .bool false]) (d:=some dn) hr hd (λ_ _ _ _ _=>?_) rfl ?_ g2
      ·simp[execOp,hxv,hiv,Instr.lookup,H? ht,hgo,hck,hfk,hzr,Result.andThen]
      ·exact⟨[.nilFunc, .bool false],rfl, .nilFunc,[.bool false],rfl,⟨rfl,rfl⟩,_,[],rfl,rfl,rfl⟩
     |some q=>
      obtain⟨j,v⟩:=q;obtain⟨p,k1,k2⟩:=g2;refine En (p:= .tup [p, .b true]) (val:= .tuple #[v, .bool true]) (d:=some dn) hr hd (λ_ _ _ _ _=>?_) rfl ?_ k2
      ·simp[execOp,hxv,hiv,Instr.lookup,H? ht,hgo,hck,hfk,Result.andThen]
      ·exact⟨[v, .bool true],rfl,v,[.bool true],rfl,k1,_,[],rfl,rfl,rfl⟩
    ·cases h
   ·cases h
  ·cases h
 ·cases h
theorem Acy{cs:Array Value}(h:qP P ty (.agg cs)=some v)(hA:v.isA=true):v.isV=true/\Gi B w L v (.agg cs):=by
 have h1:=qJ (B:=B) (w:=w) (L:=L) h;have h2:Jj B w L v (.agg cs):=by
  unfold Jj;rw[hA];exact⟨cs.toList,CH,h1⟩
 exact Mc h2
theorem yt{a:Option R}:∀{l:List (Option R)},both a l=some r->a=some r/\∀b∈l,b=some r
 |[],h=>⟨h,CH⟩
 |b::l,h=>by
  unfold both at h;split at h
  ·rename_i hab;obtain⟨h1,h2⟩:=yt h;exact⟨h1,λc hc=>by
    rcases List.mem_cons.1 hc with rfl|hc
    ·exact hab▸h1
    ·exact h2 c hc⟩
  ·cases h
theorem An1{α:Type}{l:List α}{a b:Option R}(h:C5 l a b=some r):b=some r/\ (l=[]->a=some r):=by
 cases l with
 |nil=>
  obtain⟨h1,h2⟩:=yt h;exact⟨h2 _ (.head _),λ_=>h1⟩
 |cons x l=>exact⟨h,λe=>by cases e⟩
theorem vS{t e t':TypeId}{q:Bool}{p:Option Addr}{l c:Nat}(h:J5 o=some q)(ht:P.underlying t=some (.slice e))(hx:ev σ x= .slice p l c)(hy:ev σ y= .slice none 0 0):
  XO P σ w (.binOp o t x y t') (.bool (p.isNone==q)):=by
 cases o<;>simp only[J5,DV,reduceCtorEq]at h<;>subst h
 ·have:=X.bin (w:=w) (t':=t') hx hy (Bin.Aoh ht p l c);simpa using this
 ·have:=X.bin (w:=w) (t':=t') hx hy (Bin.Amk ht p l c);cases p<;>simpa using this
theorem elem_nil{B:Reg}{l:List e.T}(hz:Nat.ble 1 e.size=true)(h:Cs (Be B w e) l []):l=[]:=by
 have h1:=Cs.len (λx c h=>Be.len h) h;have h2:1<=e.size:=by simpa using hz
 cases l with
 |nil=>rfl
 |cons a l=>
  simp only[R8,Y_]at h1;have:0<(l.length+1)*e.size:=XD F0 F0;omega
theorem Aku{t t':TypeId}{a:PV}{dn:Nat}(hr:Rel Z s σs A L σ w)(hd:Ln n ⟨some dn, .binOp o t x y t',ty,pos,after,none⟩=true)(hx:Es s.sl x=a)(hy:Es s.sl y= .nils)
  (h:kI P s dn o t a k=some r):DF P n ops ⟨some dn, .binOp o t x y t',ty,pos,after,none⟩ Z s σs k r G A L σ w:=by
 have hm:=hr.mem;have hy':=LR (Dm hm.sl hy rfl);unfold kI at h;split at h
 ·rename_i q e hq ht;have main:∀{α:Type} {l:List α} {p:Option Addr} {len c:Nat},ev σ x= .slice p len c-> (p=none->l=[])->C5 l (k (s.set dn (.b q))) (k (s.set dn (.b (!q))))=some r->DF P n ops ⟨some dn, .binOp o t x y t',ty,pos,after,none⟩ Z s σs k r G A L σ w:=by
   intro α l p len c hv hp h;obtain⟨h1,h2⟩:=An1 h;cases hn:p.isNone with
   |true=>
    have hk:=h2 (hp (by simpa using hn));have hxo:=vS (w:=w) (t':=t') hq ht hv hy';rw[hn]at hxo;have hb:(true==q)=q:=by cases q<;>rfl
    rw[hb]at hxo;exact En (p:= .b q) hr hd hxo rfl rfl hk
   |false=>
    have hxo:=vS (w:=w) (t':=t') hq ht hv hy';rw[hn]at hxo;have hb:(false==q)=!q:=by cases q<;>rfl
    rw[hb]at hxo;exact En (p:= .b (!q)) hr hd hxo rfl rfl h1
  split at h
  ·have hv:=LR (Dm hm.sl hx rfl);have hxo:=vS (w:=w) (t':=t') hq ht hv hy';have hb:((none:Option Addr).isNone==q)=q:=by cases q<;>rfl
   rw[hb]at hxo;exact En (p:= .b q) hr hd hxo rfl rfl h
  ·split at h
   ·obtain⟨hz,h⟩:=Bb h;obtain⟨c0,h1,h2⟩:=EP (Dm hm.sl hx rfl);have h1':=h1;obtain⟨p,len,cap,hv,h3,h4,h5,h6⟩:=h1;refine main hv (λhp=>?_) h;subst hp;have:c0=[]:=Go.Lv.Rd.O? (by rw[<-hv];exact h1');subst this;have:=h5 rfl;exact elem_nil hz h2
   ·cases h
  ·rename_i i;split at h
   ·rename_i E e' l hi;obtain⟨hz,h⟩:=Bb h;obtain⟨v,cs,h1,h2⟩:=hm.arr hi;obtain⟨z,E',c0,h3⟩:=PH (Dm hm.sl hx rfl);rw[h1]at h3;cases h3;have hrd:=hr.Vs h1;have h1':=hrd;obtain⟨p,len,cap,hv,h4,h5,h6,h7⟩:=hrd;refine main hv (λhp=>?_) h;subst hp;have:cs=[]:=Go.Lv.Rd.O? (by rw[<-hv];exact h1');subst this;exact elem_nil hz h2
   ·cases h
  ·cases h
 ·cases h
theorem Aab{i b off:Nat}{md:MD}{ns:List Value}{F:List Fact}(hr:St A w F (L.map MD.Kz))(h:L[i]? =some md)(hb:md.base=some b)(h1:ns.all (·.oneCell')=true)(hle:off+ns.length<=md.cells.length)(hz:0<ns.length):
  ∃w' md',(storeCells ⟨b,off,none⟩ ns).run P w= .ok () w'/\St A w' F ((L.map MD.Kz).set i md'.Kz)/\BP off ns md md':=by
 cases md with
 |dead=>cases hb
 |box b' cells T=>
  cases hb;have hL:(L.map MD.Kz)[i]? =some (Mob.box b cells T):=xk h;have hr':=Ii (P:=P) b T (0,0) ns off 0 cells w (hr.box hL) (by simpa [MD.cells]using hle) (.inr (.inr (N! _))) (λv hv=>by simpa using List.all_eq_true.1 h1 v hv);simp only[U_]at hr';exact⟨_, .box b (Bn cells off ns) T,hr',hr.v? hL,rfl⟩
 |own z' E u cs=>
  obtain⟨b',m,c,hu,hs'⟩:=St.zl hr (xk h) (by simp[MD.cells]at hle;omega);subst hu;cases hb;have hlen:i<(L.map MD.Kz).length:=by simpa using(List.getElem?_eq_some_iff.1 h).1
  have hL:((L.map MD.Kz).set i (.at_ b z' E m c cs))[i]? =some (.at_ b z' E m c cs):=by rw[X3 hlen]
  have hle':off+ns.length<=cs.length:=hle;have hcore:∃w',(storeCells ⟨b,off,none⟩ ns).run P w= .ok () w'/\St A w' F (((L.map MD.Kz).set i (.at_ b z' E m c cs)).set i (.at_ b z' E m c (Bn cs off ns))):=by
   obtain⟨o,ho,_,_⟩:=(hs'.front hL).mobs;obtain⟨rfl,ho⟩:=ho;have ho':=ho;obtain⟨_,len,cap,e,h3,h4,h5,h5',h6⟩:=ho;cases e;obtain⟨arr,fr,e,hbb,hsz',hfz,hcells⟩:=h6 b rfl;have hcl:cs.length<=arr.size:=by rw[h3,hsz'];exact J? _ h4
   have hr':=Ii (P:=P) b E fr ns off 0 arr.toList w (by simpa using hbb) F7 (by simp;rcases hfz with h|h;exact .inr (.inr (eS h.symm));exact .inr (.inl h)) (λv hv=>by simpa using List.all_eq_true.1 h1 v hv);simp only[U_]at hr';have hbl:=lt_of_heap hbb;have hcs':(Bn cs off ns).length=cs.length:=Ha F0;have hget:∀i,i<m*z'-> (Bn arr.toList off ns)[i]? =(Bn cs off ns)[i]? :=λi hi=>by
    have kg:min off arr.toList.length=off:=by simp;omega
    have ko:min off cs.length=off:=F0
    simp only[Bn,dF,JW,kg,ko,S_,W6];by_cases g1:i<off
    ·rw[CD g1,CD g1,CD g1,CD g1];simpa using hcells i hi
    ·rw[B! g1,B! g1];by_cases g2:i-off<ns.length
     ·rw[CD g2,CD g2]
     ·rw[B! g2,B! g2];have e1:off+ns.length+(i-off-ns.length)=i:=F0
      rw[e1];simpa using hcells i hi
   refine⟨_,hr',hs'.kL hL (b:=b) ⟨rfl,ho'⟩ ⟨rfl,_,m,c,rfl,by rw[hcs',h3],h4,h5,h5',λb' hb'=>?_⟩ ?_⟩
   ·cases hb';refine⟨(Bn arr.toList off ns).toArray,fr,rfl,by simp[He,hbl],?_,?_,λi hi=>?_⟩
    ·simp only[V7];rw[Ha F7];simpa using hsz'
    ·simp only[V7];rw[Ha F7];simpa using hfz
    ·simpa using hget i hi
   ·rintro⟨q,hq,q1,q2⟩;exact⟨q,hq,q1,q2,hq.1⟩
  obtain⟨w',g1,g2⟩:=hcore;have hs3:=g2.z! (i:=i) (b:=b) (s:=z') (m:=m) (c:=c) (E:=E) (cs:=Bn cs off ns) (by rw[X3 (by simpa using hlen)]);rw[iO,iO]at hs3;exact⟨w', .own z' E (.slice (some ⟨b,0,none⟩) m c) (Bn cs off ns),g1,hs3,rfl⟩
structure SrcW (P:Program) (w:World) (vy:Value) (z ly:Nat) (ys:List Value):Prop where
 len:(Builtin.lenOf vy).run P w= .ok ly w
 first:∀m,m<=ly-> (Builtin.firstCells z m vy).run P w= .ok (ys.take (m*z)).toArray w
theorem SrcW.rd{z ly:Nat}{ys:List Value}(h:Rd (λ_=>True) w z vy ys)(hl:ys.length=ly*z)(hz:0<z):SrcW P w vy z ly ys:=by
 obtain⟨p,len,cap,rfl,h2,h3,h4,h5⟩:=h;have he:len=ly:=TY hz (h2.symm.trans hl);subst he;refine⟨rfl,λm hm=>?_⟩;cases p with
 |none=>
  have:m=0:=by have:=h4 rfl;omega
  subst this;simp[Builtin.firstCells]
 |some a=>
  have hlen:(ys.take (m*z)).length=m*z:=by
   rw[JW,h2];have:=J? z hm;omega
  simp only[Builtin.firstCells];by_cases hc:0<cap
  ·obtain⟨b,off,arr,T,fr,e1,_,e2,_,e4⟩:=h5 hc;cases e1;have:=Np (P:=P) (w:=w) (b:=b) (off:=off) (ys.take (m*z)) (λi hi=>by
    rw[hlen]at hi;have h6:i<len*z:=RN hi (J? z hm);rw[cell_of e2,e4 i h6,S_,CD hi])
   rw[hlen]at this;exact this
  ·have:m=0:=F0
   subst this;simp[loadCells,loadCellsFrom]
theorem SrcW.str{l:List UInt8}:SrcW P w (sv l) 1 l.length (JB (k:= .u8) l):=by
 refine⟨by simp[Builtin.lenOf,ByteArray.size],λm hm=>?_⟩;simp only[Builtin.firstCells,qL,R5];congr 1;simp[JB,List.map_take];rfl
theorem oz{t2:TypeId}{m:List e.T}(hr:Rel Z s σs A L σ w)(hz:0<e.size)(h:cX P s e t2 y=some m):∃ys,Cs (Be (λb=>A b/\Z.R b) w e) m ys/\SrcW P w (ev σ y) e.size m.length ys:=by
 have hm:=hr.mem;have plain:elems s e (Es s.sl y)=some m->∃ys,Cs (Be (λb=>A b/\Z.R b) w e) m ys/\SrcW P w (ev σ y) e.size m.length ys:=by
  intro h;have hV:(Es s.sl y).isV=true:=by
   cases hq:(Es s.sl y).isV with
   |true=>rfl
   |false=>rcases Zf hq with h'|h'|⟨_,_,_,h'⟩<;>rw[h']at h<;>cases h
  obtain⟨c0,h1,h2⟩:=kT hm h (Ts hm.sl y hV);have hrd:Rd (λ_=>True) w e.size (ev σ y) c0:=by
   rcases h2 with h2|⟨j,E',u,cs',_,h2,hpart⟩
   ·exact h2.step (λ_ _=>trivial) (λ_ _=>rfl)
   ·exact hpart _ _ (hr.Vs h2)
  exact⟨c0,h1, .rd hrd (h1.len λx c h=>Be.len h) hz⟩
 unfold cX at h;split at h
 ·split at h
  ·rename_i m0 hy;unfold cW at h;split at h
   ·rename_i he;cases he;cases h;rw[Ua hm.sl hy];exact⟨JB m0,qz.NW, .str⟩
   ·cases h
  ·cases h
 ·unfold uG at h;split at h
  ·rename_i i p e1 lo n' hy;split at h
   ·rename_i T v hi;split at h
    ·rename_i a x hg;split at h
     ·rename_i q a l;obtain⟨hb,h⟩:=Bb h;simp only[DG,E3]at hb;obtain⟨⟨k1,k2,k3⟩,rfl⟩:=hb;split at h
      ·rename_i ha;subst ha;cases h;obtain⟨md,v1,h3,h4,g1,g2,⟨pt,cap,g3,g4,g5,g6⟩,_⟩:=Dm hm.sl hy rfl;have h6:ev σ y=v1:=by simpa using h4
       obtain⟨b,cells,h7,h8⟩:=hm.box hi;rw[h7]at h3;cases h3;obtain⟨c1,c2,c3,he,h9,h10,h11⟩:=fS hg h8;have qC:=h11.len λx c h=>Be.len h;obtain⟨lo',rfl⟩:=S? k1;obtain⟨n1,rfl⟩:=S? k2;simp only[O1]at g3 g4 g6;have hq:lo'+n1<=l.length:=by rw[h10];omega
       have hsub:(JV l lo' n1).length=n1:=by simp[JV];omega
       have e5:lo'*a.size+n1*a.size<=l.length*a.size:=by rw[<-H9];exact J? _ hq
       refine⟨(c2.drop (lo'*a.size)).take (n1*a.size),Cs.take (λx c h=>Be.len h) _ (Cs.drop (λx c h=>Be.len h) _ h11),?_,λm hm'=>?_⟩
       ·rw[h6,g3,hsub];rfl
       ·rw[hsub]at hm';rw[h6,g3];have hml:m*a.size<=n1*a.size:=J? _ hm';cases pt with
        |none=>
         have:m=0:=by have:=g5 rfl;omega
         subst this;simp[Builtin.firstCells]
        |some ad=>
         simp only[Builtin.firstCells];by_cases hc:0<cap
         ·obtain⟨bb,e1,e2⟩:=g6 hc;cases e1;cases e2;have hlen3:(((c2.drop (lo'*a.size)).take (n1*a.size)).take (m*a.size)).length=m*a.size:=by
           simp only[JW,Q!,qC];omega
          have:=Np (P:=P) (w:=w) (b:=b) (off:=Ba p+lo'*a.size) (((c2.drop (lo'*a.size)).take (n1*a.size)).take (m*a.size)) (λi hi=>by
           rw[hlen3]at hi;have hcl:Ba p+lo'*a.size+i<(MD.box b cells T).cells.length:=by
            simp only[MD.cells,he,D!,h9,qC];omega
           rw[hr.cells h7 rfl _ hcl];simp only[MD.cells];rw[he,TJ F0,h9,show Ba p+lo'*a.size+i-Ba p=lo'*a.size+i by omega,RM (by rw[qC];omega),
            S_,CD hi,S_,CD F0,W6])
          rw[hlen3]at this;exact this
         ·have:m=0:=F0
          subst this;simp[loadCells,loadCellsFrom]
      ·cases h
     ·cases h
    ·cases h
   ·cases h
  ·exact plain h
 ·cases h
theorem Auv(cs:List Value)(o:Nat):Bn cs o []=cs:=by simp[Bn]
theorem I!{t t2 E:TypeId}{vx:Value}{z ly nv V5 off i:Nat}{pt:Option Addr}{ys:List Value}{md:MD}{F:List Fact}(ht:P.underlying t=some (.slice E))(hsz:Kl P E z)(hsrc:SrcW P w vy z ly ys)(hys:ys.length=ly*z)(h1:ys.all (·.oneCell')=true)
  (hr:St A w F (L.map MD.Kz)) (h:L[i]? =some md) (hne:md≠ .dead) (hx:vx= .slice pt nv V5) (hcap:nv<=V5) (hpt:pt=none->V5=0) (hb:0<V5->∃b,md.base=some b/\pt=some ⟨b,off,none⟩) (hle:off+nv*z<=md.cells.length) (hz:0<z):
  ∃w' md',(Builtin.copy_ #[t,t2] ty #[vx,vy]).run P w= .ok (goInt (Nat.min ly nv)) w'/\St A w' F ((L.map MD.Kz).set i md'.Kz)/\BP off (ys.take (nv*z)) md md':=by
 subst hx;have hmin:Nat.min ly nv<=ly:=Nat.min_le_left _ _;have Y':=hsrc.first _ hmin
 have htake:ys.take (Nat.min ly nv*z)=ys.take (nv*z):=by
  rcases Y6 ly nv with h'|h'
  ·rw[show Nat.min ly nv=ly from SF h',<-hys,US,TM (by rw[hys];exact J? z h')]
  ·rw[show Nat.min ly nv=nv from X5 h']
 rw[htake]at Y';have hmul:Nat.min ly nv*z<=nv*z:=J? z (Nat.min_le_right _ _);have hlen:(ys.take (nv*z)).length=Nat.min ly nv*z:=by
  rw[<-htake,JW,hys];have:=J? z hmin;omega
 have hnone:(ys.take (nv*z))=[]->∃w' md',(Builtin.copy_ #[t,t2] ty #[.slice pt nv V5,vy]).run P w= .ok (goInt (Nat.min ly nv)) w'/\St A w' F ((L.map MD.Kz).set i md'.Kz)/\BP off (ys.take (nv*z)) md md':=by
  intro he;refine⟨w,md,?_,?_,?_⟩
  ·rw[he]at Y';cases pt<;>simp[Builtin.copy_,H? ht,hsrc.len,Ch hsz,Y',storeCells]
  ·rw[List.getElem?_eq_some_iff]at h;obtain⟨hlt,h⟩:=h;have:(L.map MD.Kz).set i md.Kz=L.map MD.Kz:=by
    rw[<-bM,<-h,List.set_getElem_self]
   rw[this];exact hr
  ·rw[he];cases md with
   |dead=>exact absurd rfl hne
   |box b c T=>simp only[BP,Auv]
   |own z' E' v c=>simp only[BP,Auv]
 by_cases he:(ys.take (nv*z))=[]
 ·exact hnone he
 ·have hpos:0<(ys.take (nv*z)).length:=List.length_pos_iff.2 he;have hm0:0<Nat.min ly nv:=by
   rcases YR (Nat.min ly nv)with h'|h'
   ·rw[hlen,h']at hpos;simp at hpos
   ·exact h'
  have hnv:0<nv:=RN hm0 (Nat.min_le_right _ _);obtain⟨b,e1,e2⟩:=hb F0;subst e2;obtain⟨w',md',g1,g2,g3⟩:=Aab (P:=P) (off:=off) hr h e1 (ns:=ys.take (nv*z)) (List.all_eq_true.2 λv hv=>List.all_eq_true.1 h1 v (gX hv)) (by rw[hlen];omega) hpos;refine⟨w',md',?_,g2,g3⟩;simp[Builtin.copy_,H? ht,hsrc.len,Ch hsz,Y',g1]
theorem Apw(nv k:Nat):IK (nv:Int) k=((Nat.min k nv:Nat):Int):=by
 unfold IK;rcases XC k nv with h|h
 ·rw[CD F0,show Nat.min k nv=k from SF F0]
 ·rw[B! F0,show Nat.min k nv=nv from X5 h]
theorem D8{B:Reg}{l m:List e.T}{cs ys:List Value}{lo nv:Nat}(hl:Cs (Be B w e) l cs)(hm:Cs (Be B w e) m ys):Cs (Be B w e) (Rv l lo nv m) (Bn cs (lo*e.size) (ys.take (nv*e.size))):=by
 have h1:=Cs.take (λx c h=>Be.len h) nv hm;have h2:=h1.len λx c h=>Be.len h;have h3:=Cs.take (λx c h=>Be.len h) lo hl;have h4:=Cs.drop (λx c h=>Be.len h) (lo+(m.take nv).length) hl;unfold Rv Bn;simp only[O1];refine Cs.append h3 (Cs.append h1 ?_);rw[h2,<-H9];exact h4
theorem Ah1{α:Type}(l m:List α):PM l m=Rv l ((0:Nat):Int) ((l.length:Nat):Int) m:=by
 unfold PM Rv;simp only[O1,W8,RI,T9,JW];congr 1;rcases Y6 m.length l.length with h|h
 ·rw[X5 h]
 ·rw[SF h,XQ (N! _),XQ h]
theorem Abo{t t2 E E':TypeId}{l m:List e.T}{ys cs:List Value}{u:Value}{lo nv V5 i:Nat}{pt:Option Addr}{ow:Option Nat}(hr:Rel Z s σs A L σ w)(hd:Ln n ⟨ow, .call ⟨.builtin .copy, #[x,y], #[t,t2]⟩,ty,pos,after,none⟩=true)
  (ht:P.underlying t=some (.slice E)) (hsz:Kl P E e.size) (hz:0<e.size) (hit:De s.it i= .arr E' e l) (hL:L[i]? =some (.own e.size E' u cs)) (hl:Cs (Be (λb=>A b/\Z.R b) w e) l cs) (hm:Cs (Be (λb=>A b/\Z.R b) w e) m ys) (hsrc:SrcW P w (ev σ y) e.size m.length ys)
  (hx:ev σ x= .slice pt nv V5) (hcap:nv<=V5) (hpt:pt=none->V5=0) (hb:0<V5->∃b,(MD.own e.size E' u cs).base=some b/\pt=some ⟨b,lo*e.size,none⟩) (hle:lo+nv<=l.length)
  (hk:k ((s.Zz i (.arr E' e (Rv l lo nv m))).Hm ow (.i .i64 (IK (nv:Int) m.length)))=some r):DF P n ops ⟨ow, .call ⟨.builtin .copy, #[x,y], #[t,t2]⟩,ty,pos,after,none⟩ Z s σs k r False A L σ w:=by
 have hcl:=hl.len λx c h=>Be.len h;have hyl:=hm.len λx c h=>Be.len h;have hF:=St.tS (f:=G6 Z.R L (.arr E' e (Rv l lo nv m)) (Bn cs (lo*e.size) (ys.take (nv*e.size)))) hr (D8 hl hm);obtain⟨w',md',g1,g2,g3⟩:=I! (P:=P) (ty:=ty) (t2:=t2) (off:=lo*e.size) ht hsz hsrc hyl hm.yh hF hL (by intro h;cases h) rfl hcap hpt hb (by
  show lo*e.size+nv*e.size<=cs.length;rw[hcl,<-H9];exact J? _ hle) hz
 simp only[BP]at g3;subst g3;have key:=jA.own (cs':=Bn cs (lo*e.size) (ys.take (nv*e.size))) hL;have hr2:=Rel.change (a:= .arr E' e (Rv l lo nv m)) g2.yQ hL key ⟨rfl,rfl,g2.fact 0 rfl⟩;refine WL.YF (v:=goInt (Nat.min m.length nv)) rfl hd ?_ (WL.nil ⟨_,A,_,hk,hr2.Hm rfl ?_,λh=>h.elim⟩)
 ·simp[execOp,resolve,invoke,builtin,hx,g1]
 ·rw[Apw];rfl
theorem qA{t t2:TypeId}{ow:Option Nat}(hr:Rel Z s σs A L σ w)(hd:Ln n ⟨ow, .call ⟨.builtin .copy, #[x,y], #[t,t2]⟩,ty,pos,after,none⟩=true)
  (h:um P s ow x y t t2 k=some r):DF P n ops ⟨ow, .call ⟨.builtin .copy, #[x,y], #[t,t2]⟩,ty,pos,after,none⟩ Z s σs k r False A L σ w:=by
 have hmm:=hr.mem;unfold um at h;split at h
 ·cases h
 ·rename_i E hE;have ht:=bN hE;split at h
  ·cases h
  ·rename_i inf Vb;split at h
   ·rename_i i hx;split at h
    ·rename_i E' e l hit;obtain⟨hb,h⟩:=Bb h;simp only[DG]at hb;have hz:0<e.size:=by have:=V2 hb.2;omega
     split at h
     ·rename_i m hsrc;obtain⟨ys,h1,h2⟩:=oz hr hz hsrc;obtain⟨u,cs,h3,h4⟩:=hmm.arr hit;obtain⟨z',E2,c',h5⟩:=PH (Dm hmm.sl hx rfl);rw[h3]at h5;cases h5;obtain⟨q,len,cap,g1,g2,g3,g4,g5⟩:=hr.l_ h3;have hl:len=l.length:=TY hz (g2.symm.trans (h4.len λx c h=>Be.len h));rw[Ah1]at h;exact Abo (lo:=0) (nv:=l.length) (ys:=ys) hr hd ht (Gj Vb hb.1) hz hit h3 h4 h1 h2 (by rw[g1,hl]) F0 g4 (λhc=>by obtain⟨b,e1,e2⟩:=g5 hc;exact⟨b,e2,by rw[e1];simp⟩) F0 h
     ·cases h
    ·cases h
   ·rename_i i p e1 lo n' hx;split at h
    ·rename_i E' e l hit;obtain⟨hb,h⟩:=Bb h;simp only[DG,E3]at hb;obtain⟨⟨hb1,hb2⟩,rfl⟩:=hb;have hz:0<e1.size:=by have:=V2 hb2;omega
     split at h
     ·rename_i m hsrc;obtain⟨ys,h1,h2⟩:=oz hr hz hsrc;obtain⟨u,cs,h3,h4⟩:=hmm.arr hit;obtain⟨md,v1,h5,h6,k1,k2,⟨pt,cap,k3,k4,k5,k6⟩,k7,_⟩:=Dm hmm.sl hx rfl;rw[h3]at h5;cases h5;have h7:ev σ x=v1:=by simpa using h6
      obtain⟨lo',rfl⟩:=S? k1;obtain⟨n1,rfl⟩:=S? k2;simp only[O1]at k3 k4 k6 k7;obtain⟨s',E2,q,len,cap0,c0,e1',rfl,e3,_⟩:=k7 trivial;cases e1';obtain⟨q',len',cap',g1,g2,_⟩:=hr.l_ h3;cases g1;have hl:len=l.length:=TY hz (g2.symm.trans (h4.len λx c h=>Be.len h));exact Abo (lo:=lo') (nv:=n1) (ys:=ys) hr hd ht (Gj Vb hb1) hz hit h3 h4 h1 h2 (h7.trans k3) k4 k5 (λhc=>by obtain⟨b,e4,e5⟩:=k6 hc;exact⟨b,e4,by rw[e5];simp[Ba]⟩) F0 h
     ·cases h
    ·cases h
   ·rename_i i p e1 lo n' hx;split at h
    ·rename_i T v hit;split at h
     ·rename_i a0 x0 hg;split at h
      ·rename_i q e l;obtain⟨hb,h⟩:=Bb h;simp only[DG,E3]at hb;obtain⟨⟨⟨hb1,hb2⟩,rfl⟩,k1,k2,k3⟩:=hb;have hz:0<e1.size:=by have:=V2 hb2;omega
       split at h
       ·rename_i m hsrc;obtain⟨ys,h1,h2⟩:=oz hr hz hsrc;obtain⟨md,v1,h5,h6,_,_,⟨pt,cap,g3,g4,g5,g6⟩,_⟩:=Dm hmm.sl hx rfl;have h7:ev σ x=v1:=by simpa using h6
        obtain⟨b,cells,h8,h9⟩:=hmm.box hit;rw[h8]at h5;cases h5;obtain⟨c1,c2,c3,he,h10,h11,h12⟩:=fS hg h9;have qC:=h12.len λx c h=>Be.len h;have hyl:=h1.len λx c h=>Be.len h;obtain⟨lo',rfl⟩:=S? k1;obtain⟨n1,rfl⟩:=S? k2;simp only[O1]at g3 g4 g6;have hq:lo'+n1<=l.length:=by rw[h11];omega
        have e5:lo'*e1.size+n1*e1.size<=l.length*e1.size:=by rw[<-H9];exact J? _ hq
        have hk1:=Cs.take (λx c h=>Be.len h) n1 h1;have hk2:=hk1.len λx c h=>Be.len h;have hk3:(ys.take (n1*e1.size)).length<=n1*e1.size:=by rw[JW];omega
        have hcp:=D8 (lo:=lo') (nv:=n1) h12 h1;have zM:(Bn c2 (lo'*e1.size) (ys.take (n1*e1.size))).length=c2.length:=Ha (by rw[qC];omega);have Avx:Bl (λb=>A b/\Z.R b) w L (.val (.vec q e1) (Rv l lo' n1 m)) (Bn c2 (lo'*e1.size) (ys.take (n1*e1.size))):=by
         refine⟨?_,hcp⟩;have:=hcp.len λx c h=>Be.len h;rw[zM,qC]at this;rw[<-h11];exact(TY hz this).symm
        obtain⟨v',hk,_,hv'⟩:=sJ Avx h h9;have hcells:Bn cells (Ba p) (Bn c2 (lo'*e1.size) (ys.take (n1*e1.size)))=Bn cells (Ba p+lo'*e1.size) (ys.take (n1*e1.size)):=by
         rw[he,aH h10 _ (by rw[qC];omega),<-h10,dW zM]
        rw[hcells]at hv';have hF:=St.tS (f:=G6 Z.R L (.box T v') (Bn cells (Ba p+lo'*e1.size) (ys.take (n1*e1.size)))) hr hv';obtain⟨w',md',g1,g2,g3'⟩:=I! (P:=P) (ty:=ty) (t2:=t2) (off:=Ba p+lo'*e1.size) ht (Gj Vb hb1) h2 hyl h1.yh hF h8 (by intro h;cases h) rfl g4 g5 (λhc=>by obtain⟨b,e4,e5⟩:=g6 hc;exact⟨b,e4,e5⟩) (by
         show Ba p+lo'*e1.size+n1*e1.size<=cells.length;rw[he];simp only[D!,h10,qC];omega) hz
        simp only[BP]at g3';subst g3';have key:=jA.box (cs':=Bn cells (Ba p+lo'*e1.size) (ys.take (n1*e1.size))) h8;have hr2:=Rel.change (a:= .box T v') g2.yQ h8 key ⟨rfl,Bl.step (λ_ h=>h) (λ_ _=>rfl) key (g2.fact 0 rfl)⟩;refine WL.YF (v:=goInt (Nat.min m.length n1)) rfl hd ?_ (WL.nil ⟨_,A,_,hk,hr2.Hm rfl ?_,λh=>h.elim⟩)
        ·rw[<-g3,<-h7]at g1;simp[execOp,resolve,invoke,builtin,g1]
        ·rw[Apw];rfl
       ·cases h
      ·cases h
     ·cases h
    ·cases h
   ·cases h
theorem E4{g:Nat}{cs:List Value}:∀{l:List (Nat×List Value)},gL l g=some cs-> (g,cs)∈l
 |[],h=>by cases h
 |(q,c)::r,h=>by
  simp only[gL]at h;cases hb:Nat.beq q g with
  |true=>
   rw[hb]at h;have:=Df hb;subst this;cases h;exact .head _
  |false=>rw[hb]at h;exact .tail _ (E4 h)
theorem jk{g:Nat}{t:TypeId}(hT:oI P T Z)(hr:Rel Z s σs A L σ w)(h:T.glv P g t=some v):∃cs T1 fr,w.heap[g]? =some (.cells cs.toArray T1 fr)/\ (A g/\Z.R g)/\Bl (λb=>A b/\Z.R b) w L v cs:=by
 unfold Tab.glv at h;split at h
 ·rename_i cs hg;split at h
  ·rename_i v' hp;cases h;obtain⟨h1,T1,fr,h2⟩:=hr.cN (p:=(g,cs)) (by rw[hT.2];exact E4 hg);obtain⟨c,e1,h3⟩:=bS (B:=λb=>A b/\Z.R b) (w:=w) (L:=L) Q hp;rw[R2]at e1;subst e1;exact⟨_,T1,fr,h2,h1,h3⟩
  ·cases h
 ·cases h
theorem yj{o:Op}{g dn:Nat}(hT:oI P T Z)(hr:Rel Z s σs A L σ w)(hd:Ln n ⟨some dn,o,ty,pos,after,none⟩=true)
  (ho:(∃t,o= .load t (.global g))\/ (∃t ix,o= .indexAddr t (.global g) ix)\/ (∃t lo hi,o= .slice t (.global g) lo hi none)) (h:rM P T s dn g o k=some r):
  DF P n ops ⟨some dn,o,ty,pos,after,none⟩ Z s σs k r G A L σ w:=by
 have hm:=hr.mem;rcases ho with⟨t,rfl⟩|⟨t,ix,rfl⟩|⟨t,lo,hi,rfl⟩
 ·simp only[rM]at h;split at h
  ·rename_i v hv;obtain⟨hb,hk⟩:=Bb h;obtain⟨cs,T1,fr,h1,h2,h3⟩:=jk hT hr hv;obtain⟨val,h7,h8⟩:=Aa6 (P:=P) (σ:=σ) (x:= .global g) (b:=g) (off:=0) (Tc hb) h3 (λj hj=>by rw[cell_of h1];simp) rfl;obtain⟨hv,hv'⟩:=Mc h7;exact En hr hd h8 hv hv' hk
  ·cases h
 ·simp only[rM]at h;split at h
  ·rename_i j m et e0 l0 hj ht hv;obtain⟨q,hix⟩:=NP hj (Ts hm.sl ix (XV hj));split at h
   ·rename_i inf m' e l Vb;obtain⟨hb,h⟩:=Bb h;simp only[DG]at hb;obtain⟨y,hy,hk⟩:=bind_some h;obtain⟨hj0,hj1,hj2⟩:=Lg hy;obtain⟨cs,T1,fr,h1,h2,h3,h4⟩:=jk hT hr hv;obtain⟨c1,c2,c3,he,h8,h9,_⟩:=Cs.get (λx c h=>Be.len h) h4 hj2;have hmm:=Df hb.1.1;subst hmm;have h10:c2.length=e.size:=h9.len;have hp:qd (λb=>A b/\Z.R b) w (.pointer (some ⟨g,0+j.toNat*e.size,none⟩)) c2:=by
     refine⟨g,0+j.toNat*e.size,_,T1,fr,rfl,h2,h1,λq hq=>?_⟩;rw[XY,he,T9,TJ F0,h8,show j.toNat*e.size+q-j.toNat*e.size=q by omega,RM hq]
    have hvr:Gi (λb=>A b/\Z.R b) w L (.rptr (e.pv y)) (.pointer (some ⟨g,0+j.toNat*e.size,none⟩)):=⟨_,c2,rfl,hp,ZY.2 h9⟩;exact En hr hd (ZS (x:= .global g) ht (Gj Vb hb.1.2) rfl hix F0 (by rw[<-show l.length=m' from h3];omega) w) rfl hvr hk
   ·cases h
  ·cases h
 ·simp only[rM]at h;split at h
  ·rename_i u m et hat;split at h
   ·rename_i e0 l0 hv;split at h
    ·rename_i inf m' e l Vb;obtain⟨hb,h⟩:=Bb h;simp only[DG]at hb;split at h
     ·rename_i a b ha hb';obtain⟨y,hy,hk⟩:=bind_some h;obtain⟨k1,k2,k3,k4,rfl⟩:=TG hy;obtain⟨cs,T1,fr,h1,h2,h3,h4⟩:=jk hT hr hv;have hmm:=Df hb.1.1;subst hmm;have hlen:=h4.len λx c h=>Be.len h;have hz:0<e.size:=by have:=V2 hb.2;omega
      have hm3:l.length=m':=h3;have hxo:=X.Ap1 (P:=P) (σ:=σ) (w:=w) (x:= .global g) (lo:=lo) (hi:=hi) (a:=a.toNat) (b:=b.toNat) (ad:=⟨g,0,none⟩) hat (Gj Vb hb.1.2) k3 F0 rfl
       (by rcases Na hm.sl ha with h|⟨h,h'⟩;exact .inl (by rw[<-k1];exact h);exact .inr ⟨h,F0⟩) (by rcases Na hm.sl hb' with h|⟨h,h'⟩;exact .inl (by rw[<-k2];exact h);exact .inr ⟨h,F0⟩)
      have e5:a.toNat*e.size<=b.toNat*e.size:=J? _ k3;have e6:b.toNat*e.size<=l.length*e.size:=J? _ k4;have e7:(b.toNat-a.toNat)*e.size=b.toNat*e.size-a.toNat*e.size:=WY _ _ _;refine En hr hd hxo rfl (oA ⟨_,_,_,rfl,?_,F0,(λh=>by cases h),λhc=>?_⟩ (Cs.drop (λx c h=>Be.len h) _ (Cs.take (λx c h=>Be.len h) _ h4))) hk
      ·rw[Q!,JW,hlen,e7];omega
      ·rw[B! F0,Pb];refine⟨g,0+a.toNat*e.size,_,T1,fr,rfl,h2,h1,?_,λi hi=>?_⟩
       ·simp only[V7,hlen,hm3];have:(m'-a.toNat)*e.size=m'*e.size-a.toNat*e.size:=WY _ _ _;have:a.toNat*e.size<=m'*e.size:=J? _ F0;omega
       ·rw[XY,T9,W6,S_,CD F0]
     ·cases h
    ·cases h
   ·cases h
  ·cases h
theorem Ard{o:Op}{dn:Nat}(hT:oI P T Z)(hI:aY P T.gl inl)(hr:Rel Z s σs A L σ w)(hd:Ln n ⟨some dn,o,ty,pos,after,none⟩=true)(h:op2 P T inl s dn ty o k=some r):
  DF P n ops ⟨some dn,o,ty,pos,after,none⟩ Z s σs k r (U9 T s ⟨some dn,o,ty,pos,after,none⟩=true) A L σ w:=by
 have hm:=hr.mem;unfold op2 at h;split at h
 ·
  rename_i o t x y t';split at h
  ·rename_i a u b v hx hy;split at h
   ·rename_i c q hc hq;obtain⟨_,hok,h⟩:=bind_some h;have:=Yw hok;subst this;obtain⟨hv,val,hb,hvr⟩:=A8 (P:=P) (w:=w) (L:=L) (B:=λb=>A b/\Z.R b) (t:=t) hq hc;exact En hr hd (X.bin (CU hm.sl hx) (CU hm.sl hy) hb) hv hvr h
   ·cases h
  ·rename_i u v hx hy;split at h
   ·obtain⟨q,hq,h⟩:=bind_some h;exact En (p:= .val .str q) hr hd (X.uY (Ua hm.sl hx) (Ua hm.sl hy) hq) rfl rfl h
   ·cases h
  ·rename_i a h1 h2 hy;exact Aku hr hd rfl hy h
  ·cases h
 ·
  rename_i t x ix;split at h
  ·rename_i j e0 l0 hj hx;obtain⟨q,hix⟩:=NP hj (Ts hm.sl ix (XV hj));split at h
   ·rename_i l ht;obtain⟨y,hy,h⟩:=bind_some h;exact En (p:= .i .u8 y) hr hd (X.tU ht (Ua hm.sl hx) hix hy) rfl rfl h
   ·rename_i m e l m' et ht;obtain⟨hb,h⟩:=Bb h;obtain⟨y,hy,h⟩:=bind_some h;obtain⟨hk,hkk⟩:=Bb h;have hok:=Tc hk;have hv:Jj (λb=>A b/\Z.R b) w L (.val (.vec m e) l) (ev σ x):=Dm hm.sl hx rfl;obtain⟨cs,h1,h2,h3⟩:=hv;have hsz:(e.pv y).size=e.size:=by
     obtain⟨_,_,h5⟩:=Lg hy;obtain⟨_,c2,_,_,_,h6,_⟩:=Cs.get (λx c h=>Be.len h) h3 h5;rw[<- (ZY (L:=L).2 h6).len,h6.len]
    have hmm:=Df hb;subst hmm;obtain⟨d0,hd0,ha0⟩:=hok.agg;obtain⟨val,h4,h5⟩:=Amu (L:=L) ht (by rw[<-hsz];exact hok.size) ⟨d0,hd0,ha0⟩ (λhA=>by rw[<-hsz];exact hok.one hA) h2 h1 h3 hix hy;obtain⟨hv,hv'⟩:=Mc h5;exact En hr hd h4 hv hv' hkk
   ·cases h
  ·cases h
 ·split at h
  ·exact yj hT hr hd (.inr (.inr ⟨_,_,_,rfl⟩)) h
  ·exact Aip hr hd h (λg=>g)
 ·split at h
  ·exact yj hT hr hd (.inr (.inl ⟨_,_,rfl⟩)) h
  ·exact Aai hr hd h
 ·split at h
  ·exact yj hT hr hd (.inl ⟨_,rfl⟩) h
  ·exact Aot hr hd h
 ·
  split at h
  ·rename_i v hz;exact Aib hr hd hz h
  ·cases h
 ·obtain⟨hb,h⟩:=Bb h;exact Aqe hr hd hb h
 ·split at h
  ·rename_i v hv;obtain⟨hA,h⟩:=Bb h;obtain⟨h1,h2⟩:=Acy (B:=λb=>A b/\Z.R b) (w:=w) (L:=L) hv hA;exact En hr hd (X.assign rfl) h1 h2 h
  ·cases h
 ·split at h
  ·rename_i v hv;obtain⟨hA,h⟩:=Bb h;obtain⟨h1,h2⟩:=Acy (B:=λb=>A b/\Z.R b) (w:=w) (L:=L) hv hA;exact En hr hd (X.move rfl) h1 h2 h
  ·cases h
 ·exact Ahx hr hd h
 ·exact Axj hr hd h (λg=>g)
 ·exact An5 hr hd h
 ·
  split at h
  ·rename_i e ha ht;split at h
   ·rename_i l he hx;exact qz hr hd ha ht he hx h
   ·cases h
  ·rename_i e ha ht;obtain⟨hb,h1⟩:=Bb h;clear h;have:=Df hb;subst this;split at h1
   ·rename_i i he hx;split at h1
    ·rename_i E e' l hi;split at h1
     ·rename_i y ys;exact Amm hr hd ht he hx hi h1
     ·cases h1
    ·cases h1
   ·cases h1
  ·cases h
 ·
  rename_i as ts;split at h
  ·rename_i x y t t2 has hts;have h1:=IX has;have h2:=IX hts;subst h1 h2;refine ZB (Ahj hr hd h) ?_;rintro σ' w' ⟨s',A',L',g1,g2,g3⟩;exact⟨s',A',L',g1,g2,λg=>by simp[U9,brk]at g⟩
  ·cases h
 ·
  rename_i as ts;split at h
  ·rename_i x y t t2 has hts;have h1:=IX has;have h2:=IX hts;subst h1 h2;refine ZB (qA hr hd h) ?_;rintro σ' w' ⟨s',A',L',g1,g2,g3⟩;exact⟨s',A',L',g1,g2,λg=>by simp[U9,brk]at g⟩
  ·cases h
 ·
  rename_i as ts;split at h
  ·rename_i x t has hts;have h1:=IX has;have h2:=IX hts;subst h1 h2;split at h
   ·rename_i e ht hx;refine En (p:= .i .i64 (0:Int)) hr hd (val:=iv (0:Int)) (λ_ _ _ _ _=>?_) rfl rfl h;have hv:=LR (Dm hm.sl hx rfl);simp[execOp,resolve,invoke,builtin,hv,Builtin.cap_,H? ht,goInt];rfl
   ·cases h
  ·cases h
 ·
  rename_i g as ts;split at h
  ·rename_i f caps hg;refine Anp hT hI hr hg hd h (λgg=>?_);unfold U9 at gg;split at gg
   ·rename_i heq;cases heq
   ·rename_i heq;cases heq
   ·rename_i f' as' ts' heq;cases heq;cases hg;split at gg
    ·rename_i c hc;simp only[DG,SU,S4]at gg;exact⟨c,hc,gg.1,gg.2.imp id isEmpty_nil⟩
    ·cases gg
   ·rename_i h1 h2 h3;simp only[brk]at gg;split at gg<;>simp_all
  ·rename_i f fs hg;obtain⟨hb,h⟩:=Bb h;simp only[DG]at hb;refine Aj3 hT hI hr hg hd hb.2 h (λgg=>?_);unfold U9 at gg;split at gg
   ·rename_i heq;cases heq
   ·rename_i heq;cases heq
   ·rename_i f' as' ts' heq;cases heq;cases hg
   ·rename_i h1 h2 h3;simp only[brk]at gg;split at gg<;>simp_all
  ·cases h
 ·exact Ag4 hr hd h (λg=>g)
 ·exact Afe hr hd h
 ·cases h
end Go.Rx
namespace Go.Rx
open Go Go.Lv
variable {P:Program} {w w':World} {L:List MD} {s:S} {σs:List Env} {σ:Env} {Z:Fix} {A:Reg}
theorem cR{α:Type 1}{c:Bool}{x:Option α}{y:α}(h:(Dk (c) (x)<|none)=some y):c=true/\x=some y:=by cases c<;>simp_all
theorem jT{o:Op}{b:BV}{x:b.X}(hr:Rel Z s σs A L σ w)(h:Tl P s o=some b)(hx:b.E=some x):(b.v x).isV=true/\∃val,(∀w',XO P σ w' o val)/\Gi (λb=>A b/\Z.R b) w L (b.v x) val:=by
 have hm:=hr.mem;unfold Tl at h;split at h
 ·
  rename_i o t x y t';split at h
  ·rename_i a u b v hx' hy;split at h
   ·rename_i c q hc hq;cases h;have:=Yw hx;subst this;obtain⟨hv,val,hb,hvr⟩:=A8 (P:=P) (w:=w) (L:=L) (B:=λb=>A b/\Z.R b) (t:=t) hq hc;exact⟨hv,val,λw'=>X.bin (CU hm.sl hx') (CU hm.sl hy) hb,hvr⟩
   ·cases h
  ·rename_i u v hx' hy;split at h
   ·cases h;exact⟨rfl,_,λw'=>X.uY (Ua hm.sl hx') (Ua hm.sl hy) hx,rfl⟩
   ·cases h
  ·cases h
 ·
  split at h
  ·rename_i j l hj hx' ht;cases h;obtain⟨q,hix⟩:=NP hj (Ts hm.sl _ (XV hj));exact⟨rfl,_,λw'=>X.tU ht (Ua hm.sl hx') hix hx,rfl⟩
  ·cases h
 ·
  split at h
  ·rename_i ht;split at h
   ·rename_i l hx';split at h
    ·rename_i a b ha hb;cases h;exact⟨rfl,_,λw'=>X.zA ht (Ua hm.sl hx') hx (Na hm.sl ha) (Na hm.sl hb),rfl⟩
    ·cases h
   ·cases h
  ·rename_i et ht;split at h
   ·rename_i e0 l0 hx';split at h
    ·rename_i e l;split at h
     ·rename_i inf Vb;obtain⟨hb,h⟩:=cR h;simp only[DG]at hb;split at h
      ·rename_i a b ha hb';cases h;obtain⟨h1,h2,h3,h4,h5'⟩:=TG hx;obtain⟨c0,h5,h6⟩:=EP (Dm hm.sl hx' rfl);have hlen:=h6.len λx c h=>Be.len h;obtain⟨p',l',c',h7,h8⟩:=X.Ath (P:=P) (l:=a.toNat) (k:=b.toNat) (m:=l.length) ht (Gj Vb hb.1) (St.kO hr h5) (j:=0) rfl hlen (H' hb.2) h3 h4;refine⟨rfl, .slice p' l' c',λw'=>h7 σ w' _ _ _ rfl (by rcases Na hm.sl ha with h|⟨h,h'⟩;exact .inl (by rw[<-h1];exact h);exact .inr ⟨h,F0⟩)
        (by rcases Na hm.sl hb' with h|⟨h,h'⟩;exact .inl (by rw[<-h2];exact h);exact .inr ⟨h,by rw[h'];simp[Ac]⟩),?_⟩
       rw[h5'];exact oA (h8.fact 0 rfl) (Cs.drop (λx c h=>Be.len h) _ (Cs.take (λx c h=>Be.len h) _ h6))
      ·cases h
     ·cases h
    ·cases h
   ·cases h
  ·cases h
 ·
  split at h
  ·cases h
  ·rename_i j hj;obtain⟨q,hix⟩:=NP hj (Ts hm.sl _ (XV hj));split at h
   ·rename_i et ht;split at h
    ·cases h
    ·rename_i inf Vb;split at h
     ·rename_i e0 l0 hx';split at h
      ·rename_i e l;obtain⟨hb,h⟩:=cR h;cases h;simp only[DG]at hb;obtain⟨hj0,hj1,hj2⟩:=Lg hx;obtain⟨c0,h1,h2⟩:=EP (Dm hm.sl hx' rfl);obtain⟨p,len,cap,h3,h4,h5,h6,h7⟩:=h1;have hlen:=h2.len λx c h=>Be.len h;have hz:0<e.size:=by have:=V2 hb.2;omega
       have hl:len=l.length:=TY hz (h4.symm.trans hlen);subst hl;obtain⟨b,off,arr,T,fr,rfl,hB,hbl,hcap,hc⟩:=h7 F0;obtain⟨c1,c2,c3,he,h8,h9,_⟩:=Cs.get (λx c h=>Be.len h) h2 hj2;have h10:c2.length=e.size:=h9.len;have h11:(j.toNat+1)*e.size<=l.length*e.size:=J? _ hj1;rw[WE]at h11;have hp:qd (λb=>A b/\Z.R b) w (.pointer (some ⟨b,off+j.toNat*e.size,none⟩)) c2:=by
        refine⟨b,off+j.toNat*e.size,arr,T,fr,rfl,hB,hbl,λq hq=>?_⟩;rw[RU,hc _ F0,he,TJ F0,h8,show j.toNat*e.size+q-j.toNat*e.size=q by omega,RM hq]
       have hvr:Gi (λb=>A b/\Z.R b) w L (.rptr (e.pv x)) (.pointer (some ⟨b,off+j.toNat*e.size,none⟩)):=⟨_,c2,rfl,hp,ZY.2 h9⟩;exact⟨rfl,_,λw'=>Vi ht (Gj Vb hb.1) h3 hix F0 F0 w',hvr⟩
      ·cases h
     ·rename_i i hx';split at h
      ·rename_i E e l hi;obtain⟨hb,h⟩:=cR h;cases h;simp only[DG]at hb;obtain⟨hj0,hj1,hj2⟩:=Lg hx;obtain⟨v,cs,h1,h2⟩:=hm.arr hi;obtain⟨z',E',c',h3⟩:=PH (Dm hm.sl hx' rfl);rw[h1]at h3;cases h3;have hlen:=h2.len λx c h=>Be.len h;have hz:0<e.size:=by have:=V2 hb.2;omega
       have hpos:0<cs.length:=by rw[hlen];exact XD F0 hz
       obtain⟨b,len,cap,h4,h5⟩:=hr.base h1 hpos;have hl:len=l.length:=TY hz (h5.symm.trans hlen);subst hl;refine⟨rfl,_,λw'=>Vi ht (Gj Vb hb.1) h4 hix F0 F0 w',?_⟩;rw[show(0:Nat)+j.toNat*e.size=Ba [.idx j e.size] by simp[Ba,mT]];refine OV h1 ?_;rw[h4];rfl
      ·cases h
     ·rename_i o i p e lo n' hx';obtain⟨hb,h⟩:=cR h;cases h;simp only[DG]at hb;have hj':0<=j/\j<n':=WU (Yw hx);obtain⟨md,v1,h3,h4,k1,k2,⟨pt,cap,k3,k4,k5,k6⟩,_⟩:=Dm hm.sl hx' rfl;have h6:=List.cons.inj h4;obtain⟨b,e1,rfl⟩:=k6 F0;refine⟨rfl,_,λw'=>Vi ht (Gj Vb hb.1) (h6.1.trans k3) hix hj'.1 F0 w',?_⟩;rw[show Ba p+lo.toNat*e.size+j.toNat*e.size=Ba (p++[.idx (lo+j) e.size]) by
       rw[fD,RU,<-H9]
       show _=Ba p+(lo+j).toNat*e.size;rw[Int.toNat_add k1 hj'.1]]
      exact OV h3 e1
     ·cases h
   ·rename_i m et ht;split at h
    ·cases h
    ·rename_i inf Vb;split at h
     ·rename_i i p hx';split at h
      ·rename_i T v hi;split at h
       ·rename_i e0 l0 hg;split at h
        ·rename_i m' e l;obtain⟨hb,h⟩:=cR h;cases h;simp only[DG]at hb;obtain⟨hj0,hj1,hj2⟩:=Lg hx;obtain⟨md,b,h1,h2,h3⟩:=BS (Dm hm.sl hx' rfl);obtain⟨b',cells,h4,h5⟩:=hm.box hi;rw[h4]at h1;cases h1;cases h2;obtain⟨c1,c2,c3,he,h6,h7,h8⟩:=fS hg h5;have hmm:=Df hb.2;subst hmm;have hl:l.length=m':=h7;refine⟨rfl,_,λw'=>ZS ht (Gj Vb hb.1.1) h3 hix F0 F0 w',?_⟩;rw[show Ba p+j.toNat*e.size=Ba (p++[.idx j e.size]) by simp[VT,Ba,mT]];exact OV h4 rfl
        ·cases h
       ·cases h
      ·cases h
     ·cases h
   ·cases h
 ·cases h
end Go.Rx
namespace Go.Rx
open Go Go.Lv
variable{want b:Bool}{v:PV}{G:Prop}
variable {P:Program} {B B':Reg} {w w':World} {L L':List MD} {s:S} {σs:List Env} {σ:Env} {Z:Fix} {A A':Reg} {n:Nat} {ops:Array Oper}
variable {R:Type} {k:S->Option R} {r:R} {d:Option Nat} {ty:TypeId} {pos:String} {after:Array Edge} {T:Tab} {inl:wz R}
theorem uM{o:Oper}(hT:oI P T Z)(hI:aY P T.gl inl)(hr:Rel Z s σs A L σ w)(hd:Ln n o=true)(h:exU P T inl o s k=some r):
  DF P n ops {o with guard:=none} Z s σs k r (U9 T s o=true) A L σ w:=by
 obtain⟨d,op,ty,pos,after,g⟩:=o;have hd':Ln n ⟨d,op,ty,pos,after,none⟩=true:=hd;unfold exU at h;split at h
 ·rename_i v hv;obtain⟨h1,val,h2,h3⟩:=uw (P:=P) (B:=λb=>A b/\Z.R b) (w:=w) (L:=L) (λ_=>True) hr.mem.sl hv;exact En hr hd' (h2 w trivial) h1 h3 h
 ·split at h
  ·rename_i v hv;obtain⟨h1,val,h2,h3⟩:=jl (P:=P) hr hv;exact En hr hd' (h2 w (.refl hr)) h1 h3 h
  ·cases d with
   |some dn=>exact Ard hT hI hr hd' h
   |none=>
    simp only at h;split at h
    ·rename_i t a x;refine ZB (Ako hr h) ?_;rintro σ' w' ⟨s',A',L',g1,g2,g3⟩;exact⟨s',A',L',g1,g2,λg=>by simp[U9,brk]at g⟩
    ·rename_i as ts;split at h
     ·rename_i x y t t2 has hts;have h1:=IX has;have h2:=IX hts;subst h1 h2;refine ZB (qA hr hd' h) ?_;rintro σ' w' ⟨s',A',L',g1,g2,g3⟩;exact⟨s',A',L',g1,g2,λg=>by simp[U9,brk]at g⟩
     ·cases h
    ·cases h
theorem WL.yP{rest:List Oper}{K:Env->World->Prop}{o:Oper}{j t:Nat}(hg:o.guard=some (j,want))(hj:(ops[j]?).bind (·.dst)=some t)(hb:σ t= .bool b)(hne:(b==want)=false)
  (hdn:Ln n o=true) (h:WL P n ops rest K (Z9 σ o.dst Go.undef) w):WL P n ops (o::rest) K σ w:=by
 intro ds a ha;refine wpList_step λK' hK'=>?_;have hw:Region.wanted o (yielded ops a.tmps)=false:=by
  simp only[Region.wanted,hg,WH ha hj hb];cases b<;>cases want<;>simp_all
 rw[B! (by rw[hw];simp)];refine hK' _ _ ?_;cases hd:o.dst with
 |none=>rw[hd]at h;exact h _ _ (ha.L8 _)
 |some d=>rw[hd]at h;unfold Ln at hdn;rw[hd]at hdn;exact h _ _ (ha.put hdn _)
theorem WL.Atj{rest:List Oper}{K:Env->World->Prop}{o:Oper}{j t:Nat}(hg:o.guard=some (j,want))(hj:(ops[j]?).bind (·.dst)=some t)(hb:σ t=Go.undef)
  (hdn:Ln n o=true) (h:WL P n ops rest K (Z9 σ o.dst Go.undef) w):WL P n ops (o::rest) K σ w:=by
 intro ds a ha;refine wpList_step λK' hK'=>?_;have hy:yielded ops a.tmps j=none:=by
  unfold yielded;rw[hj];have h1:=ha.get t;rw[hb]at h1;cases h:a.tmps[t]? with
  |none=>simp[h]
  |some v=>
   rw[XJ,h]at h1;simp at h1;subst h1;simp[h,undef]
 have hw:Region.wanted o (yielded ops a.tmps)=false:=by
  simp only[Region.wanted,hg,hy];cases want<;>rfl
 rw[B! (by rw[hw];simp)];refine hK' _ _ ?_;cases hd:o.dst with
 |none=>rw[hd]at h;exact h _ _ (ha.L8 _)
 |some d=>rw[hd]at h;unfold Ln at hdn;rw[hd]at hdn;exact h _ _ (ha.put hdn _)
theorem As3{o:Oper}(hr:Rel Z s σs A L σ w)(h:k (s.Hm o.dst .off)=some r):WL P n ops [] (U8 Z σs k r G A L s.it w) (Z9 σ o.dst Go.undef) w:=by
 refine WL.nil ⟨_,A,L,h,hr.Aml,λ_=>?_⟩;have:(s.Hm o.dst .off).it=s.it:=by cases o.dst<;>rfl
 rw[this];exact .refl
theorem eW{a:Bool}:pY a b=(b==a):=by cases a<;>cases b<;>rfl
theorem jP{G':Prop}{σ':Env}{it:List Item}(hp:U8 Z σs k r G A L it w σ' w')(h:G'->G):U8 Z σs k r G' A L it w σ' w':=by
 obtain⟨s',A',L',h1,h2,h3⟩:=hp;exact⟨s',A',L',h1,h2,λg=>h3 (h g)⟩
theorem C1{t dn:Nat}{val:Value}(ht:σ t= .bool b)(hne:Nat.beq dn t=false)(h1:b=want->Gi B w L v val)(h2:b≠want->val=Go.undef):Ld B w L (Zz σ dn val) dn (.gd t want v):=by
 have htd:t≠dn:=by intro e;subst e;simp at hne
 exact⟨b,by rw[fP _ _ htd];exact ht,λe=>by rw[CJ];exact h1 e,λe=>by rw[CJ];exact h2 e⟩
theorem q_{o:Oper}{j t dn:Nat}(hr:Rel Z s σs A L σ w)(hg:o.guard=some (j,want))(hj:(ops[j]?).bind (·.dst)=some t)(ht:σ t= .bool b)(hdn:Ln n o=true)(hd:o.dst=some dn)
  (hne:Nat.beq dn t=false) (hv:b=want->v.isV=true/\∃val,XO P σ w o.op val/\Gi (λb=>A b/\Z.R b) w L v val) (hk:k (s.set dn (.gd t want v))=some r):DF P n ops o Z s σs k r G A L σ w:=by
 by_cases hbw:b=want
 ·obtain⟨h1,val,h2,h3⟩:=hv hbw;refine WL.on hg hj ht (by simpa using hbw) (WL.YF rfl (by simpa [Ln]using hdn) (h2 _ _ _ _ _) (WL.nil ⟨_,A,L,hk,?_,λ_=> .refl⟩));simp only[hd];exact hr.set (C1 ht hne (λ_=>h3) (λe=>absurd hbw e))
 ·refine WL.yP hg hj ht (by simpa using hbw) hdn (WL.nil ⟨_,A,L,hk,?_,λ_=> .refl⟩);rw[hd];exact hr.set (C1 ht hne (λe=>absurd e hbw) (λ_=>rfl))
theorem TH{t:Nat}(hm:Hr B w L σ s.sl)(h:FT s.sl t= .val .bool b):σ t= .bool b:=by
 have h1:=Tg (t:=t) hm;rw[h]at h1;exact ML h1
theorem tE{t:Nat}(hm:Hr B w L σ s.sl)(h:FT s.sl t= .cst (.bool b)):σ t= .bool b:=by
 have h1:=Tg (t:=t) hm;rw[h]at h1;have: [σ t]=[Value.bool b]:=h1.1;simpa using this
theorem Aq6{o:Oper}{j t:Nat}(hT:oI P T Z)(hI:aY P T.gl inl)(hr:Rel Z s σs A L σ w)(hd:Ln n o=true)(hg:o.guard=some (j,want))(hj:(ops[j]?).bind (·.dst)=some t)
  (h:exG P T inl o t want s k=some r):DF P n ops o Z s σs k r (U9 T s o=true/\∃b,FT s.sl t= .cst (.bool b)) A L σ w:=by
 have hm:=hr.mem;have lit:∀(G:Prop) (s1:S) (b:Bool),(G->U9 T s1 o=true)->Rel Z s1 σs A L σ w->s1.it=s.it->σ t= .bool b-> (Dk (pY want b) (exU P T inl o s1 k)<|k (s1.Hm o.dst .off))=some r->DF P n ops o Z s σs k r G A L σ w:=by
  intro G s1 b hG hr1 hit ht h;cases hb:pY want b with
  |true=>
   rw[hb]at h;refine WL.on hg hj ht (by rw[<-eW];exact hb) (ZB (uM hT hI hr1 hd h) λσ' w' hp=>?_);rw[<-hit];exact jP hp hG
  |false=>
   rw[hb]at h;refine WL.yP hg hj ht (by rw[<-eW];exact hb) hd ?_;rw[<-hit];exact As3 hr1 h
 unfold exG at h;simp only at h;split at h
 ·rename_i b hb;exact lit _ s b (λg=>g.1) hr rfl (tE hm.sl hb) h
 ·rename_i hb;have h1:=Tg (t:=t) hm.sl;rw[hb]at h1;exact WL.Atj hg hj h1 hd (As3 hr h)
 ·rename_i b hb;have ht:=TH hm.sl hb;have nog:∀{X:Prop},(∃b,FT s.sl t= .cst (.bool b))->X:=λ⟨_,g⟩=>by rw[hb]at g;cases g
  split at h
  ·rename_i dn v hdn hv;cases hne:Nat.beq dn t with
   |true=>rw[hne]at h;cases h
   |false=>
    rw[hne]at h;refine q_ hr hg hj ht hd hdn hne (λhbw=>?_) h;subst hbw;obtain⟨h1,val,h2,h3⟩:=uw (P:=P) (λ_=>True) (hr.res ht).mem.sl hv;exact⟨h1,val,h2 w trivial,h3⟩
  ·rename_i dn v hdn hv0 hv;cases hne:Nat.beq dn t with
   |true=>rw[hne]at h;cases h
   |false=>
    rw[hne]at h;refine q_ hr hg hj ht hd hdn hne (λhbw=>?_) h;subst hbw;obtain⟨h1,val,h2,h3⟩:=jl (P:=P) (hr.res ht) hv;exact⟨h1,val,h2 w (.refl (hr.res ht)),h3⟩
  ·cases b with
   |true=>exact lit _ (s.res t true) true (λg=>nog g.2) (hr.res ht) rfl ht (by simpa using h)
   |false=>exact lit _ (s.res t false) false (λg=>nog g.2) (hr.res ht) rfl ht (by simpa using h)
 ·cases h
theorem q!{o:Oper}(hT:oI P T Z)(hI:aY P T.gl inl)(hr:Rel Z s σs A L σ w)(h:qQ P T inl n ops o s k=some r):DF P n ops o Z s σs k r (U9 T s o=true/\gOk ops s o=true) A L σ w:=by
 have hm:=hr.mem;unfold qQ at h;cases hd:Ln n o with
 |false=>rw[hd]at h;cases h
 |true=>
  rw[hd]at h;simp only[XB,Y4]at h;try dsimp only[Dk]at h
  split at h
  ·rename_i hg;have:({o with guard:=none}:Oper)=o:=by cases o;simp only at hg;subst hg;rfl
   rw[<-this];refine ZB (uM hT hI hr hd h) λσ' w' hp=>jP hp ?_;rintro⟨g,_⟩;rw[this]at g;exact g
  ·rename_i j want hg;split at h
   ·cases h
   ·rename_i t hj;have fin:∀s1:S,(gOk ops s o=true->s1=s)->Rel Z s1 σs A L σ w->s1.it=s.it->exG P T inl o t want s1 k=some r->DF P n ops o Z s σs k r (U9 T s o=true/\gOk ops s o=true) A L σ w:=by
     intro s1 hs hr1 hit h;refine ZB (Aq6 hT hI hr1 hd hg hj h) λσ' w' hp=>?_;rw[<-hit];refine jP hp (λg=>?_);have:=hs g.2;subst this;refine⟨g.1,?_⟩;have h2:=g.2;unfold gOk at h2;simp only[hg,hj]at h2;split at h2
     ·exact⟨_,by assumption⟩
     ·cases h2
    split at h
    ·rename_i t2 w2 v hv;have nog:∀{X:Prop},gOk ops s o=true->X:=λg=>by
      unfold gOk at g;simp only[hg,hj,hv]at g;cases g
     split at h
     ·rename_i b hb;have ht:=TH hm.sl hb;cases b with
      |true=>exact fin _ nog (hr.res ht) rfl (by simpa using h)
      |false=>exact fin _ nog (hr.res ht) rfl (by simpa using h)
     ·cases h
    ·exact fin s (λ_=>rfl) hr rfl h
theorem Rel.Aub{rr:Nat}(hr:Rel Z s σs A L σ w)(hl:rr<w.heap.size)(hm:Dv w (λb=>A b\/b=rr) (L.map MD.Kz)):Rel Z s σs (λb=>A b\/b=rr) L σ w:=
 ⟨λb hb=>hb.elim (hr.lt b) (λe=>e▸hl),λf hf=>f.step (hr.facts f hf) (λ_ h=> .inl h) (λ_ _=>rfl) (.refl _),hm⟩
theorem Rel.world{w':World}(hr:Rel Z s σs A L σ w)(hs:Same A w w')(hg:Gr w w')(hm:Dv w' A (L.map MD.Kz)):Rel Z s σs A L σ w':=
 ⟨λb hb=>RN (hr.lt b hb) hg.le,λf hf=>f.step (hr.facts f hf) (λ_ h=>h) hs hg,hm⟩
def cO(P:Program)(Z:Fix)(d t:Nat)(ks:List UInt8)(vs:List PV)(A:Reg)(L:List MD)(σ:Env)(w:World):Prop:=
 ∃rr es c kt et,P.underlying t=some (.map kt et)/\P.underlying kt=some (.int .u8)/\σ d= .map (some rr)/\w.heap[rr]? =some (.map es c)/\Z.w0.heap.size<=rr/\ ¬A rr/\Dv w (λb=>A b\/b=rr) (L.map MD.Kz)/\
  es.toList.map (·.key)=ks.map (λk=>iv (T:=UInt8) (k:= .u8) k)/\Fc (λb=>A b/\Z.R b) w L vs (es.toList.map (·.val))
theorem cO.close{d t:Nat}{ks:List UInt8}{vs:List PV}(hr:Rel Z s σs A L σ w)(h:cO P Z d t ks vs A L σ w):∃A',Rel Z (s.set d (.mp ks vs)) σs A' L σ w:=by
 obtain⟨rr,es,c,kt,et,_,_,h3,h4,h5,h6,h7,h8,h9⟩:=h;have hr1:=hr.Aub (lt_of_heap h4) h7;have hσ:Zz σ d (.map (some rr))=σ:=by
  rw[<-h3];funext q;by_cases hq:q=d
  ·rw[hq,CJ]
  ·rw[fP _ _ hq]
 refine⟨λb=>A b\/b=rr,?_⟩;rw[<-hσ];refine hr1.set ?_;rw[hσ];have hv:Bl (λb=>(A b\/b=rr)/\Z.R b) w L (.mp ks vs) [.map (some rr)]:=⟨rr,es,c,rfl,⟨.inr rfl,Z.new _ h5⟩,h4,h8,Bl.yU (λb hb=>⟨.inl hb.1,hb.2⟩) (λ_ _=>rfl) (.refl L) h9⟩
 show Bl _ w L (.mp ks vs) [σ d];rw[h3];exact hv
theorem pL{u:UInt8}:∀{es:List MapEntry} {ks:List UInt8} (i:Nat),es.map (·.key)=ks.map (λk=>iv (T:=UInt8) (k:= .u8) k)->gK u ks=false->Instr.findNow (.int .u8) (iv (T:=UInt8) (k:= .u8) u) es i=some none
 |[],_,_,_,_=>rfl
 |e::es,[],_,h,_=>by cases h
 |e::es,q::ks,i,h,hu=>by
  simp only[T!,bL]at h;simp only[gK,aX]at hu;have hs:Instr.sameNow (.int .u8) (iv (T:=UInt8) (k:= .u8) u) e.key=some (geq u q):=by rw[h.1];rfl
  simp only[Instr.findNow,hs,hu.1];exact pL (i+1) h.2 hu.2
theorem Fc.push{B:Reg}{p:PV}{v:Value}(h:asV p.isA (Bl B w L p) v):∀{vs:List PV} {us:List Value},Fc B w L vs us->Fc B w L (vs++[p]) (us++[v])
 |[],us,e=>by
  rw[show us=[]from e];exact⟨v,[],rfl,h,rfl⟩
 |a::vs,us,⟨x,us',e,h1,h2⟩=>⟨x,us'++[v],by rw[e];rfl,h1,Fc.push h h2⟩
theorem Aid{d t:Nat}{o:Op}{u:UInt8}{x:Operand}(h:kJ d t o=some (u,x)):o= .insert t (.tmp d) (.const (iv (T:=UInt8) (k:= .u8) u)) x:=by
 unfold kJ at h;split at h
 ·rename_i t' q m x';obtain⟨hb,h⟩:=Bb h;simp only[DG]at hb;cases h;rw[Df hb.1.1,Df hb.1.2];have:=WU hb.2
  show Op.insert t (.tmp d) (.const (.int .u8 m)) x= .insert t (.tmp d) (.const (.int .u8 (((GI.ofZ m:UInt8).toNat:Nat):Int))) x;rw[this]
 ·cases h
theorem Aox{o:Oper}{d t:Nat}(h:m? P n o=some (d,t)):o.op= .makeMap t none/\o.dst=some d/\o.guard=none/\Nat.blt d n=true/\∃kt et,P.underlying t=some (.map kt et)/\P.underlying kt=some (.int .u8):=by
 unfold m? at h;split at h
 ·rename_i t' ho;split at h
  ·rename_i d' kt et hd hg ht;split at h
   ·rename_i hk;obtain⟨hb,h⟩:=Bb h;cases h;exact⟨ho,hd,hg,hb,kt,et,ht,hk⟩
   ·cases h
  ·cases h
 ·cases h
def Avc(P:Program)(Z:Fix)(σs:List Env)(m:Option (Nat×Nat×List UInt8×List PV))(A:Reg)(L:List MD)(σ:Env)(w:World):Prop:=match m with|none=>True|some (d,t,ks,vs)=>cO P Z d t ks vs A L σ w
theorem dB(hT:oI P T Z)(hI:aY P T.gl inl):∀{l:List Oper} {m:Option (Nat×Nat×List UInt8×List PV)} {s:S} {A:Reg} {L:List MD} {σ:Env} {w:World},Rel Z s σs A L σ w->Avc P Z σs m A L σ w->QL P T inl n ops l m s k=some r->
  WL P n ops l (λσ' w'=>∃s' A' L',k s'=some r/\Rel Z s' σs A' L' σ' w') σ w
 |[],m,s,A,L,σ,w,hr,hm,h=>by
  unfold QL at h;cases m with
  |none=>exact WL.nil ⟨s,A,L,h,hr⟩
  |some q=>
   obtain⟨d,t,ks,vs⟩:=q;obtain⟨A',hr'⟩:=cO.close hr hm;exact WL.nil ⟨_,A',L,h,hr'⟩
 |o::l,m,s,A,L,σ,w,hr,hm,h=>by
  have op:∀{s:S} {A:Reg},Rel Z s σs A L σ w-> (qQ P T inl n ops o s λs'=>QL P T inl n ops l none s' k)=some r->WL P n ops (o::l) (λσ' w'=>∃s' A' L',k s'=some r/\Rel Z s' σs A' L' σ' w') σ w:=by
   intro s A hr h;have h1:=q! (ops:=ops) hT hI hr h;refine WL.cut _ [o] h1 ?_;rintro σ' w' ⟨s',A',L',g1,g2,_⟩;exact dB (m:=none) hT hI g2 trivial g1
  unfold QL at h;cases m with
  |none=>
   simp only at h;split at h
   ·exact op hr h
   ·rename_i d t hmk;obtain⟨h1,h2,h3,h4,kt,et,h5,h6⟩:=Aox hmk;have hsz:(w.alloc (.map #[] 0)).heap.size=w.heap.size+1:=kH w _;have hkeep:Keep w (w.alloc (.map #[] 0)):=Auu w _;have hr1:Rel Z s σs A L σ (w.alloc (.map #[] 0)):=St.keep hr hkeep;have hr2:Rel Z (s.set d .undef) σs A L (Zz σ d (.map (some w.heap.size))) (w.alloc (.map #[] 0)):=hr1.set trivial;have oV:Dv (w.alloc (.map #[] 0)) (λb=>A b\/b=w.heap.size) (L.map MD.Kz):=
     (Dv.step (by rw[hsz];omega) (St.mobs hr).lt λb hb _=>hkeep.same b hb).HP λb hb=>hb.imp id λe=>eS e.symm
    have hx:(execOp (ev σ) o).run P w= .ok (.value (.map (some w.heap.size))) (w.alloc (.map #[] 0)):=by
     obtain⟨_,_,_,_,_,_⟩:=o;simp only at h1;subst h1;simp[execOp,Instr.makeMap,Result.andThen]
    refine WL.val h3 h2 h4 hx (dB hT hI hr2 ?_ h);exact⟨w.heap.size, #[],0,kt,et,h5,h6,CJ _ _ _,Yf w _,(hr.fact 1 (f:= .old Z.M Z.w0) rfl).1.le,λhA=>absurd (hr.lt _ hA) F0,oV,rfl,rfl⟩
  |some q=>
   obtain⟨d,t,ks,vs⟩:=q;simp only at h;have cl:∀{s':S},s'=s.set d (.mp ks vs)-> (qQ P T inl n ops o s' λs'=>QL P T inl n ops l none s' k)=some r->WL P n ops (o::l) (λσ' w'=>∃s' A' L',k s'=some r/\Rel Z s' σs A' L' σ' w') σ w:=by
    intro s' hs' h;subst hs';obtain⟨A',hr'⟩:=cO.close hr hm;exact op hr' h
   split at h
   ·rename_i q hg hq;split at h
    ·rename_i v hv;obtain⟨hb,hv⟩:=Bb hv;simp only[DG,S4]at hb;obtain⟨h1,val,h2,h3⟩:=uw (P:=P) (B:=λb=>A b/\Z.R b) (w:=w) (L:=L) (λ_=>True) hr.mem.sl hv;have hne:d≠q:=λe=>by rw[e]at hb;simp at hb
     have hx:(execOp (ev σ) o).run P w= .ok (.value val) w:=by
      obtain⟨d0,op0,ty0,Avy,af0,g0⟩:=o;exact h2 w trivial d0 ty0 Avy af0 g0
     refine WL.val hg hq hb.1 hx (dB hT hI (hr.set (Ld.put h1 h3)) ?_ h);obtain⟨rr,es,c,kt,et,g1,g2,g3,g4⟩:=hm;exact⟨rr,es,c,kt,et,g1,g2,by rw[fP _ _ hne];exact g3,g4⟩
    ·exact cl rfl h
   ·rename_i hg hq;split at h
    ·rename_i u x hins;have ho:=Aid hins;obtain⟨hb,h⟩:=Bb h;simp only[DG,S4]at hb;obtain⟨rr,es,c,kt,et,g1,g2,g3,g4,g5,g6,g7,g8,g9⟩:=hm;have hxv:Jj (λb=>A b/\Z.R b) w L (Es s.sl x) (ev σ x):=by
      refine TL hr.mem.sl ?_;cases hp:Es s.sl x<;>rw[hp]at hb<;>first|rfl|exact absurd hb.1 (by simp[zB])
     have hlt:=lt_of_heap g4
     let o':Obj:= .map (es.push {key:=iv (T:=UInt8) (k:= .u8) u,val:=ev σ x,born:=c}) (c+1)
     let w':World:={w with heap:=w.heap.setIfInBounds rr o'}
     have hheap:∀b,b≠rr->w'.heap[b]? =w.heap[b]? :=λb hb=>by simp[w',aJ (UO hb)]
     have hnew:w'.heap[rr]? =some o':=by simp[w',hlt]
     have hgr:Gr w w':=⟨by simp[w'],rfl,rfl,rfl⟩;have hsame:Same A w w':=λb hb=>hheap b λe=>g6 (e▸hb);have oV:Dv w' (λb=>A b\/b=rr) (L.map MD.Kz):=Dv.step hgr.le g7 λb _ hb=>hheap b λe=>hb (.inr e);have hck:(Instr.checkKey false 10000 kt (iv (T:=UInt8) (k:= .u8) u)).run P w= .ok () w:=MapKept.run_checkKey g2 (show MapKept.IsKey (.int .u8) (.int .u8 _)from rfl) _ 9999;have hfk:=MapKept.run_findKey (P:=P) (w:=w) g2 (pL 0 g8 hb.2);have hx:(execOp (ev σ) o).run P w= .ok .skip w':=by
      obtain⟨_,_,_,_,_,_⟩:=o;simp only at ho;subst ho;have e1:ev σ (.tmp d)= .map (some rr):=g3;have e2:ev σ (.const (iv (T:=UInt8) (k:= .u8) u))=iv (T:=UInt8) (k:= .u8) u:=rfl;simp[execOp,e1,e2,Instr.mapUpdate,H? g1,MapKept.run_getObj_map g4,hck,hfk,MapKept.run_setObj_map _ g4,Result.andThen,w',o']
     refine WL.unit hg hq hx (dB hT hI (hr.world hsame hgr (oV.HP λb hb=> .inl hb)) ?_ h);refine⟨rr,_,_,kt,et,g1,g2,g3,hnew,g5,g6,oV,?_,?_⟩
     ·simp only[Array.toList_push,WN,g8,T!,bP]
     ·simp only[Array.toList_push,WN,T!,bP];exact Bl.yU (λ_ h=>h) (λb hb=>hsame b hb.1) (.refl L) (Fc.push hxv g9)
    ·exact cl rfl h
   ·cases h
theorem Ai6(hT:oI P T Z)(hI:aY P T.gl inl){l:List Oper}{s:S}{A:Reg}{L:List MD}{σ:Env}{w:World}(hr:Rel Z s σs A L σ w)(h:e_ P T inl n ops l s k=some r):
  WL P n ops l (λσ' w'=>∃s' A' L',k s'=some r/\Rel Z s' σs A' L' σ' w') σ w:=dB (m:=none) hT hI hr trivial h
end Go.Rx
namespace Go.Rx
open Go Go.Lv
variable{b:BV}{o:Op}{v:PV}
variable {P:Program} {B B':Reg} {w w':World} {L L':List MD} {s:S} {σs:List Env} {σ:Env} {Z:Fix} {A A':Reg} {n:Nat} {ops:Array Oper}
variable {R:Type} {k:S->Option R} {r:R} {d:Option Nat} {ty:TypeId} {pos:String} {after:Array Edge} {T:Tab} {inl:wz R} {mem:Bool} {listed:Array Bool}
def wI(Z:Fix)(σs:List Env)(A:Reg)(L:List MD)(it:List Item)(w w':World):Prop:=∃s2 σ2 A' L',Rel Z s2 σs A' L' σ2 w'/\Grow A L it w A' L' s2.it w'
theorem wI.refl(hr:Rel Z s σs A L σ w):wI Z σs A L s.it w w:=⟨s,σ,A,L,hr, .refl⟩
theorem wI.ext(hr:Rel Z s σs A L σ w)(h:wI Z σs A L s.it w w'):Ext Z s σs A L σ w w':=by
 obtain⟨s2,σ2,A',L',h1,h2⟩:=h;exact h2.ext hr h1
theorem fJ{z:Array Bool}:∀{is:List Nat} {i d:Nat} {v:PV},Zk P T n mem ops z listed s is=some (i,d,v)->∃o,ops[i]? =some o/\AE ops (tw z) listed i=true/\zn P T n mem ops o s=some (d,v)
 |[],_,_,_,h=>by simp[Zk]at h
 |j::is,i,d,v,h=>by
  simp only[Zk]at h;split at h
  ·cases h
  ·rename_i o ho;split at h
   ·rename_i d' v' hp;cases ht:AE ops (tw z) listed j with
    |true=>rw[ht,bR]at h;cases h;exact⟨o,ho,ht,hp⟩
    |false=>rw[ht,cC]at h;exact fJ h
   ·exact fJ h
def GS(Z:Fix)(σs:List Env)(w':World):Prop:=∃s2 σ2 A2 L2,Rel Z s2 σs A2 L2 σ2 w'
theorem Ext.gs(h:Ext Z s σs A L σ w w'):GS Z σs w':=by
 obtain⟨⟨A',L',it',_,hr⟩,_⟩:=h;exact⟨_,_,_,_,hr⟩
theorem Af5{g:Nat}{t:TypeId}(hT:oI P T Z)(h:T.glv P g t=some v):∃cs,(∀w',GS Z σs w'->∃T1 fr,w'.heap[g]? =some (.cells cs.toArray T1 fr))/\∀(B:Reg) (w:World) (L:List MD),Bl B w L v cs:=by
 unfold Tab.glv at h;split at h
 ·rename_i cs hg;split at h
  ·rename_i v' hp;cases h;refine⟨cs,λw' hw=>?_,λB w L=>?_⟩
   ·obtain⟨s2,σ2,A2,L2,hr⟩:=hw;obtain⟨_,T1,fr,h2⟩:=hr.cN (p:=(g,cs)) (by rw[hT.2];exact E4 hg);exact⟨T1,fr,h2⟩
   ·obtain⟨c,e1,h3⟩:=bS (B:=B) (w:=w) (L:=L) Q hp;rw[R2]at e1;subst e1;exact h3
  ·cases h
 ·cases h
theorem Am3(hT:oI P T Z)(h:mC P T o=some v):v.isV=true/\∃val,(∀w',GS Z σs w'->XO P σ w' o val)/\Gi (λb=>A b/\Z.R b) w L v val:=by
 unfold mC at h;split at h
 ·rename_i t g;split at h
  ·rename_i u hv;obtain⟨hb,hk⟩:=Bb h;cases hk;obtain⟨cs,h1,h3⟩:=Af5 (σs:=σs) hT hv;obtain⟨val,h7,h8⟩:=kA (P:=P) (σ:=σ) (x:= .global g) (b:=g) (off:=0) (Tc hb) (h3 (λb=>A b/\Z.R b) w L) rfl;obtain⟨hv1,hv2⟩:=Mc h7;refine⟨hv1,val,λw' hw=>h8 w' λj hj=>?_,hv2⟩;obtain⟨T1,fr,h4⟩:=h1 w' hw;rw[cell_of h4];simp
  ·cases h
 ·cases h
theorem I8{S:World->Prop}(hT:oI P T Z)(hr:Rel Z s σs A L σ w)(h:yA P T mem s o=some v)(hS:mem=true->∀w',S w'->Ext Z s σs A L σ w w')(hG:∀w',S w'->GS Z σs w'):v.isV=true/\∃val,(∀w',S w'->XO P σ w' o val)/\Gi (λb=>A b/\Z.R b) w L v val:=by
 unfold yA at h;split at h
 ·rename_i u hu;cases h;exact uw (P:=P) S hr.mem.sl hu
 ·split at h
  ·rename_i u hu;cases h;cases mem with
   |true=>
    obtain⟨h1,val,h2,h3⟩:=jl (P:=P) hr hu;exact⟨h1,val,λw' hw=>h2 w' (hS rfl w' hw),h3⟩
   |false=>cases hu
  ·obtain⟨h1,val,h2,h3⟩:=Am3 (σs:=σs) (σ:=σ) (A:=A) (w:=w) (L:=L) hT h;exact⟨h1,val,λw' hw=>h2 w' (hG w' hw),h3⟩
theorem Aof{t:Nat}{b:Bool}{w':World}(h:Ext Z s σs A L σ w w')(ht:σ t= .bool b):Ext Z (s.res t b) σs A L σ w w':=by
 obtain⟨⟨A',L',it',h1,h2⟩,h3⟩:=h;exact⟨⟨A',L',it',h1,Rel.res (s:=⟨s.sl,s.it++it',s.st⟩) h2 ht⟩,h3⟩
theorem WD.gxU{op:Op}{d j t:Nat}{ty:TypeId}{pos:String}{after:Array Edge}{want:Bool}{S:World->Prop}{TT:Nat->Bool}{fuel:Nat}{K:Env->World->Prop}(i:Nat)(hi:ops[i]? =some ⟨some d,op,ty,pos,after,some (j,want)⟩)(hB:AE ops TT listed i=true)(hdn:Nat.blt d n=true)
  (hj:(ops[j]?).bind (·.dst)=some t) (hb:σ t=Go.undef) (hS:S w)
  (h:WD P n ops S TT fuel (listed.setIfInBounds i true) K (Zz σ d Go.undef) w):WD P n ops S TT (fuel+1) listed K σ w:=by
 intro ds a ha;obtain⟨B,hblk,hcl⟩:=rH hi hB;simp only[AE,DG]at hB;refine fO (v:=Go.undef) hi (oE hB.1) (λc a w h=>absurd h.1 CH) fuel listed a w hblk (FJ hcl).1 (FJ hcl).2 (by simpa using hB.2.1) ?_ hS (h _ _ (ha.put hdn _));refine .inr ⟨?_,rfl⟩;have hy:yielded ops a.tmps j=none:=by
  unfold yielded;rw[hj];have h1:=ha.get t;rw[hb]at h1;cases h:a.tmps[t]? with
  |none=>simp[h]
  |some v=>
   rw[XJ,h]at h1;simp at h1;subst h1;simp[h,Go.undef]
 simp only[Region.wanted,hy];cases want<;>rfl
theorem sK{S:World->Prop}{z:Array Bool}{fuel i dn:Nat}{o:Oper}{K:Env->World->Prop}(hT:oI P T Z)(hr:Rel Z s σs A L σ w)(hi:ops[i]? =some o)(hB:AE ops (tw z) listed i=true)(hp:zn P T n mem ops o s=some (dn,v))(hSw:S w)
  (hS:mem=true->∀w',S w'->Ext Z s σs A L σ w w') (hG:∀w',S w'->GS Z σs w') (h:∀σ',Rel Z (s.set dn v) σs A L σ' w->WD P n ops S (tw z) fuel (listed.setIfInBounds i true) K σ' w):WD P n ops S (tw z) (fuel+1) listed K σ w:=by
 obtain⟨d,op,ty,pos,after,g⟩:=o;have hm:=hr.mem;unfold zn at hp;simp only at hp;split at hp
 ·cases hp
 ·rename_i d';cases hn:Nat.blt d' n with
  |false=>rw[hn]at hp;cases hp
  |true=>
   rw[hn]at hp;simp only[XB,Y4]at hp;try dsimp only[Dk]at hp
   split at hp
   ·
    cases hv:yA P T mem s op with
    |none=>rw[hv]at hp;cases hp
    |some u=>
     rw[hv]at hp;cases hp;obtain⟨h1,val,h2,h3⟩:=I8 hT hr hv hS hG;exact WD.x i hi hB hn hSw h2 (h _ (hr.set (.put h1 h3)))
   ·rename_i j want;split at hp
    ·cases hp
    ·rename_i t hj;split at hp
     ·rename_i b hb;have ht:=tE hm.sl hb;cases hw:pY want b with
      |true=>
       rw[hw]at hp;dsimp only[Dk,cond]at hp;cases hv:yA P T mem s op with
       |none=>rw[hv]at hp;cases hp
       |some u=>
        rw[hv]at hp;cases hp;obtain⟨h1,val,h2,h3⟩:=I8 hT hr hv hS hG;have hbw:(b==want)=true:=by rw[<-eW];exact hw
        refine WD.gx (v:=val) i hi hB hn hj ht hSw (λ_=>h2) (h _ ?_);rw[H3 hbw];exact hr.set (.put h1 h3)
      |false=>
       rw[hw]at hp;cases hp;have hbw:(b==want)=false:=by rw[<-eW];exact hw
       refine WD.gx (v:=Go.undef) i hi hB hn hj ht hSw (λhg=>by rw[hbw]at hg;cases hg) (h _ ?_);rw[j_ hbw];exact hr.set (show Zz σ dn Go.undef dn=Go.undef from CJ _ _ _)
     ·rename_i hb;cases hp;have h1:=Tg (t:=t) hm.sl;rw[hb]at h1;exact WD.gxU i hi hB hn hj h1 hSw (h _ (hr.set (show Zz σ dn Go.undef dn=Go.undef from CJ _ _ _)))
     ·rename_i b hb;have ht:=TH hm.sl hb;cases hne:Nat.beq d' t with
      |true=>rw[hne]at hp;cases hp
      |false=>
       rw[hne]at hp;dsimp only[Dk,cond]at hp;cases hv:yA P T mem (s.res t want) op with
       |none=>rw[hv]at hp;cases hp
       |some u=>
        rw[hv]at hp;cases hp;by_cases hbw:b=want
        ·subst hbw;obtain⟨h1,val,h2,h3⟩:=I8 hT (hr.res ht) hv (λhm w' hw=>Aof (hS hm w' hw) ht) hG;refine WD.gx (v:=val) i hi hB hn hj ht hSw (λ_=>h2) (h _ ?_);rw[H3 CH];exact hr.set (C1 ht hne (λ_=>h3) (λe=>absurd rfl e))
        ·refine WD.gx (v:=Go.undef) i hi hB hn hj ht hSw (λhg=>absurd (by simpa using hg) hbw) (h _ ?_);rw[j_ (by simpa using hbw)];exact hr.set (C1 ht hne (λe=>absurd e hbw) (λ_=>rfl))
     ·cases hp
theorem WX{z:Array Bool}:∀{is:List Nat} {i d:Nat} {v:BG},HO P n ops z listed s is=some (i,d,v)->∃o,ops[i]? =some o/\AE ops (tw z) listed i=true/\Z3 P n ops o s=some (d,v)
 |[],_,_,_,h=>by simp[HO]at h
 |j::is,i,d,v,h=>by
  simp only[HO]at h;split at h
  ·cases h
  ·rename_i o ho;split at h
   ·rename_i d' v' hp;cases ht:AE ops (tw z) listed j with
    |true=>rw[ht,bR]at h;cases h;exact⟨o,ho,ht,hp⟩
    |false=>rw[ht,cC]at h;exact WX h
   ·exact WX h
theorem wJ{S:World->Prop}{z:Array Bool}{fuel i dn:Nat}{o:Oper}{x:b.X}{K:Env->World->Prop}(hr:Rel Z s σs A L σ w)(hi:ops[i]? =some o)(hB:AE ops (tw z) listed i=true)(hp:Z3 P n ops o s=some (dn, .on b))(hx:b.E=some x)(hSw:S w)
  (h:∀σ',Rel Z (s.set dn (b.v x)) σs A L σ' w->WD P n ops S (tw z) fuel (listed.setIfInBounds i true) K σ' w):WD P n ops S (tw z) (fuel+1) listed K σ w:=by
 obtain⟨d,op,ty,pos,after,g⟩:=o;have hm:=hr.mem;unfold Z3 at hp;simp only at hp;split at hp
 ·cases hp
 ·rename_i d';cases hn:Nat.blt d' n with
  |false=>rw[hn]at hp;cases hp
  |true=>
   rw[hn]at hp;simp only[XB,Y4]at hp;try dsimp only[Dk]at hp
   split at hp
   ·cases hv:Tl P s op with
    |none=>rw[hv]at hp;cases hp
    |some u=>
     rw[hv]at hp;cases hp;obtain⟨h1,val,h2,h3⟩:=jT hr hv hx;exact WD.x i hi hB hn hSw (λw' _=>h2 w') (h _ (hr.set (.put h1 h3)))
   ·rename_i j want;split at hp
    ·cases hp
    ·rename_i t hj;split at hp
     ·rename_i c hb;have ht:=tE hm.sl hb;cases hw:pY want c with
      |true=>
       rw[hw]at hp;dsimp only[Dk,cond]at hp;cases hv:Tl P s op with
       |none=>rw[hv]at hp;cases hp
       |some u=>
        rw[hv]at hp;cases hp;obtain⟨h1,val,h2,h3⟩:=jT hr hv hx;have hbw:(c==want)=true:=by rw[<-eW];exact hw
        refine WD.gx (v:=val) i hi hB hn hj ht hSw (λ_ w' _=>h2 w') (h _ ?_);rw[H3 hbw];exact hr.set (.put h1 h3)
      |false=>rw[hw]at hp;cases hp
     ·rename_i c hb;cases hne:Nat.beq d' t with
      |true=>rw[hne]at hp;cases hp
      |false=>
       rw[hne]at hp;dsimp only[Dk,cond]at hp;cases hv:Tl P (s.res t want) op with
       |none=>rw[hv]at hp;cases hp
       |some u=>rw[hv]at hp;cases hp
     ·cases hp
theorem sZ{S:World->Prop}{z:Array Bool}{fuel i dn t:Nat}{want bv:Bool}{o:Oper}{K:Env->World->Prop}{X:Go.Rx.S->Option R}(hr:Rel Z s σs A L σ w)(hi:ops[i]? =some o)(hB:AE ops (tw z) listed i=true)(hp:Z3 P n ops o s=some (dn, .ask t want bv b))(hSw:S w)
  (hx:(Dk (pY want bv) (Option.bind b.E λx=>X ((s.res t bv).set dn (b.v x)))<|X ((s.res t bv).set dn .off))=some r)
  (h:∀s',s'.it=s.it->∀σ',Rel Z s' σs A L σ' w->X s'=some r->WD P n ops S (tw z) fuel (listed.setIfInBounds i true) K σ' w):WD P n ops S (tw z) (fuel+1) listed K σ w:=by
 obtain⟨d,op,ty,pos,after,g⟩:=o;have hm:=hr.mem;unfold Z3 at hp;simp only at hp;split at hp
 ·cases hp
 ·rename_i d';cases hn:Nat.blt d' n with
  |false=>rw[hn]at hp;cases hp
  |true=>
   rw[hn]at hp;simp only[XB,Y4]at hp;try dsimp only[Dk]at hp
   split at hp
   ·cases hv:Tl P s op with
    |none=>rw[hv]at hp;cases hp
    |some u=>rw[hv]at hp;cases hp
   ·rename_i j want';split at hp
    ·cases hp
    ·rename_i t' hj;split at hp
     ·rename_i c hb;cases hw:pY want' c with
      |true=>
       rw[hw]at hp;dsimp only[Dk,cond]at hp;cases hv:Tl P s op with
       |none=>rw[hv]at hp;cases hp
       |some u=>rw[hv]at hp;cases hp
      |false=>rw[hw]at hp;cases hp
     ·rename_i c hb;have ht:=TH hm.sl hb;cases hne:Nat.beq d' t' with
      |true=>rw[hne]at hp;cases hp
      |false=>
       rw[hne]at hp;dsimp only[Dk,cond]at hp;cases hv:Tl P (s.res t' want') op with
       |none=>rw[hv]at hp;cases hp
       |some u=>
        rw[hv]at hp;cases hp;cases hw:pY want bv with
        |true=>
         rw[hw]at hx;dsimp only[Dk,cond]at hx;obtain⟨x,hx,hk⟩:=bind_some hx;have hbw:bv=want:=by cases want<;>cases bv<;>simp_all [pY]
         subst hbw;obtain⟨h1,val,h2,h3⟩:=jT (hr.res ht) hv hx;refine WD.gx (v:=val) i hi hB hn hj ht hSw (λ_ w' _=>h2 w') (h ((s.res t bv).set dn (b.v x)) rfl _ ?_ hk);rw[H3 CH];exact(hr.res ht).set (.put h1 h3)
        |false=>
         rw[hw]at hx;dsimp only[Dk,cond]at hx;have hbw:(bv==want)=false:=by rw[<-eW];exact hw
         refine WD.gx (v:=Go.undef) i hi hB hn hj ht hSw (λhg=>by rw[hbw]at hg;cases hg) (h ((s.res t bv).set dn .off) rfl _ ?_ hx);rw[j_ hbw];exact(hr.res ht).set (show Zz σ dn Go.undef dn=Go.undef from CJ _ _ _)
     ·cases hp
theorem qN{z:Array Bool}:∀{is:List Nat} {i:Nat} {v:Nat×TypeId×Nat×List Step},SO n ops z listed s is=some (i,v)->∃o,ops[i]? =some o/\AE ops (tw z) listed i=true/\gR n ops o s=some v
 |[],_,_,h=>by simp[SO]at h
 |j::is,i,v,h=>by
  simp only[SO]at h;split at h
  ·cases h
  ·rename_i o ho;split at h
   ·rename_i v' hp;cases ht:AE ops (tw z) listed j with
    |true=>rw[ht,bR]at h;cases h;exact⟨o,ho,ht,hp⟩
    |false=>rw[ht,cC]at h;exact qN h
   ·exact qN h
theorem xS{d dn:Nat}{t:TypeId}{j:Nat}{p:List Step}{u:PV}{kk:PV->Option R}(hr:Rel Z s σs A L σ w)(hp:gN s d o=some (dn,t,j,p))(h:getRoot (De s.it j) p kk=some r):
  d=dn/\∃u,kk u=some r/\ (Po P t u=true->u.isV=true/\∃val,(∀w',Ext Z s σs A L σ w w'->XO P σ w' o val)/\Gi (λb=>A b/\Z.R b) w L u val):=by
 have hm:=hr.mem;unfold gN at hp;split at hp
 ·rename_i t' x;split at hp
  ·rename_i i p' hx;split at hp
   ·cases hp
   ·rename_i hne;cases hp;obtain⟨md,b,h1,h2,h3⟩:=BS (Dm hm.sl hx rfl);obtain⟨h4,_⟩:=hm.root h1 (λe=>hne e);obtain⟨u,c1,c2,c3,hk,he,h5,h6⟩:=Aa2 h h4;refine⟨rfl,u,hk,λhb=>?_⟩;obtain⟨val,h7,h8⟩:=kA (P:=P) (σ:=σ) (x:=x) (b:=b) (off:=Ba p) (Tc hb) h6 h3;obtain⟨hv,hv'⟩:=Mc h7;refine⟨hv,val,λw' hext=>h8 w' λq hq=>?_,hv'⟩;obtain⟨A',L',it',ha,hr'⟩:=hext.ex;have h10:(L++L')[j]? =some md:=by rw[RM (List.getElem?_eq_some_iff.1 h1).1];exact h1
    rw[hr'.cells h10 h2 _ (by rw[he];simp;omega),he,TJ F0,h5,show Ba p+q-Ba p=q by omega,RM hq]
  ·cases hp
 ·cases hp
theorem Auc{S:World->Prop}{z:Array Bool}{fuel i dn j:Nat}{t:TypeId}{p:List Step}{o:Oper}{kk:PV->Option R}{K:Env->World->Prop}(hr:Rel Z s σs A L σ w)(hi:ops[i]? =some o)(hB:AE ops (tw z) listed i=true)(hp:gR n ops o s=some (dn,t,j,p))(hg:getRoot (De s.it j) p kk=some r)(hSw:S w)
  (hS:∀w',S w'->Ext Z s σs A L σ w w') (hkk:∀u,kk u=some r->Po P t u=true)
  (h:∀u σ',kk u=some r->Rel Z (s.set dn u) σs A L σ' w->WD P n ops S (tw z) fuel (listed.setIfInBounds i true) K σ' w):WD P n ops S (tw z) (fuel+1) listed K σ w:=by
 obtain⟨d,op,ty,pos,after,g⟩:=o;have hm:=hr.mem;unfold gR at hp;simp only at hp;split at hp
 ·cases hp
 ·rename_i d';cases hn:Nat.blt d' n with
  |false=>rw[hn]at hp;cases hp
  |true=>
   rw[hn]at hp;simp only[XB,Y4]at hp;try dsimp only[Dk]at hp
   split at hp
   ·obtain⟨rfl,u,hk,hu⟩:=xS (P:=P) (u:= .undef) hr hp hg;obtain⟨h1,val,h2,h3⟩:=hu (hkk u hk);exact WD.x i hi hB hn hSw (λw' hw=>h2 w' (hS w' hw)) (h u _ hk (hr.set (.put h1 h3)))
   ·rename_i q want;split at hp
    ·cases hp
    ·rename_i t' hj;split at hp
     ·rename_i c hb;have ht:=tE hm.sl hb;cases hw:pY want c with
      |true=>
       rw[hw]at hp;dsimp only[Dk,cond]at hp;obtain⟨rfl,u,hk,hu⟩:=xS (P:=P) (u:= .undef) hr hp hg;obtain⟨h1,val,h2,h3⟩:=hu (hkk u hk);have hbw:(c==want)=true:=by rw[<-eW];exact hw
       refine WD.gx (v:=val) i hi hB hn hj ht hSw (λ_ w' hw=>h2 w' (hS w' hw)) (h u _ hk ?_);rw[H3 hbw];exact hr.set (.put h1 h3)
      |false=>rw[hw]at hp;cases hp
     ·cases hp
theorem Af7{i t:Nat}{b:Bool}(hr:Rel Z s σs A L σ w)(h:jU ops s i=some (t,b)):σ t= .bool b:=by
 unfold jU at h;split at h
 ·cases h
 ·split at h
  ·cases h
  ·split at h
   ·cases h
   ·split at h
    ·rename_i hb;cases h;exact TH hr.mem.sl hb
    ·split at h
     ·rename_i hb;cases h;exact TH hr.mem.sl hb
     ·cases h
    ·cases h
theorem nR{fin:S->Option R}:∀{l:List Nat} {s:Go.Rx.S},Rel Z s σs A L σ w->eC ops l s fin=some r->∃s',Rel Z s' σs A L σ w/\s'.it=s.it/\fin s'=some r
 |[],s,hr,h=>⟨s,hr,rfl,h⟩
 |i::l,s,hr,h=>by
  rw[eC]at h;split at h
  ·rename_i t b hg;have ht:=Af7 hr hg;cases b with
   |true=>
    obtain⟨s',h1,h2,h3⟩:=nR (l:=l) (hr.res ht) (by simpa using h);exact⟨s',h1,h2,h3⟩
   |false=>
    obtain⟨s',h1,h2,h3⟩:=nR (l:=l) (hr.res ht) (by simpa using h);exact⟨s',h1,h2,h3⟩
  ·exact nR (l:=l) hr h
theorem Aqs(hT:oI P T Z)(hI:aY P T.gl inl):∀{fuel:Nat} {z0:Array Bool} {listed:Array Bool} {s:S} {A:Reg} {L:List MD} {σ:Env} {w:World} {S:World->Prop},Rel Z s σs A L σ w->XM P T inl n mem ops fuel z0 listed s k=some r->
  (mem=true->VG (tw z0) listed=true\/∀w',wI Z σs A L s.it w w'->S w')-> (mem=false->∀w',GS Z σs w'->S w')->
  WD P n ops S (tw z0) fuel listed (λσ' w'=>∃s' A' L',k s'=some r/\Rel Z s' σs A' L' σ' w') σ w:=by
 intro fuel
 induction fuel with
 |zero=>
  intro z0 listed s A L σ w S hr h hI1 hI2;unfold XM at h;rw[wh]at h;split at h
  ·rename_i hrd;exact WD.done hrd ⟨s,A,L,h,hr⟩
  ·cases h
 |succ fuel ih=>
  intro z0 listed s A L σ w S hr h hI1 hI2;unfold XM at h;rw[wh]at h;split at h
  ·rename_i hrd;exact WD.done hrd ⟨s,A,L,h,hr⟩
  ·rename_i i is hrd;simp only at h;have rest:∀(z:Array Bool) (S:World->Prop) (s:Go.Rx.S),Rel Z s σs A L σ w-> (mem=true->∀w',wI Z σs A L s.it w w'->S w')-> (mem=false->∀w',GS Z σs w'->S w')->
     both (match ops[i]? with
        |some o=>Dk (mem&& !((U9 T s o&&gOk ops s o)||(!tw z i&&VG (tw z) (listed.setIfInBounds i true)))) (none)<|
         qQ P T inl n ops o s λs'=>XM P T inl n mem ops fuel z (listed.setIfInBounds i true) s' k
        |none=>none) (is.map λi=>match ops[i]? with
        |some o=>Dk (mem&& !((U9 T s o&&gOk ops s o)||(!tw z i&&VG (tw z) (listed.setIfInBounds i true)))) (none)<|
         qQ P T inl n ops o s λs'=>XM P T inl n mem ops fuel z (listed.setIfInBounds i true) s' k
        |none=>none)=some r->WD P n ops S (tw z) (fuel+1) listed (λσ' w'=>∃s' A' L',k s'=some r/\Rel Z s' σs A' L' σ' w') σ w:=by
    intro z S s hr hS1 hS2 h;obtain⟨h1,h2⟩:=yt h;refine WD.steps hrd rfl ?_;intro q hq;have hone:(match ops[q]? with
       |some o=>Dk (mem&& !((U9 T s o&&gOk ops s o)||(!tw z q&&VG (tw z) (listed.setIfInBounds q true)))) (none)<|
        qQ P T inl n ops o s λs'=>XM P T inl n mem ops fuel z (listed.setIfInBounds q true) s' k
       |none=>none)=some r:=by
     rcases List.mem_cons.1 hq with rfl|hq
     ·exact h1
     ·exact h2 _ (List.mem_map_of_mem hq)
    split at hone
    ·rename_i o ho;refine⟨o,ho,?_⟩;cases hc:(mem&& !((U9 T s o&&gOk ops s o)||(!tw z q&&VG (tw z) (listed.setIfInBounds q true))))with
     |true=>rw[hc]at hone;cases hone
     |false=>
      rw[hc]at hone;dsimp only[Dk,cond]at hone;refine ZB (q! hT hI hr hone) ?_;rintro σ' w' ⟨s',A',L',g1,g2,g3⟩;cases hmem:mem with
      |true=>
       subst hmem;simp only[V8,h!,SU,DG,S4]at hc;rcases hc with hc|⟨hc1,hc2⟩
       ·have g4:=g3 hc;refine⟨λ_=>hS1 rfl _ ⟨s',σ',A',L',g2,g4⟩,ih g2 g1 (λ_=> .inr λw'' hw=>?_) (λe=>by cases e)⟩;obtain⟨s2,σ2,A2,L2,h5,h6⟩:=hw;exact hS1 rfl _ ⟨s2,σ2,A2,L2,h5,g4.trans h6⟩
       ·refine⟨λhlt=>?_,ih g2 g1 (λ_=> .inl hc2) (λe=>by cases e)⟩;rw[hlt]at hc1;cases hc1
      |false=>
       subst hmem;exact⟨λ_=>hS2 rfl _ ⟨_,_,_,_,g2⟩,ih g2 g1 (λe=>by cases e) hS2⟩
    ·cases hone
   have main:∀(z:Array Bool) (S:World->Prop) (s:Go.Rx.S) (F:Option R),Rel Z s σs A L σ w-> (mem=true->∀w',wI Z σs A L s.it w w'->S w')-> (mem=false->∀w',GS Z σs w'->S w')-> (F=some r->WD P n ops S (tw z) (fuel+1) listed (λσ' w'=>∃s' A' L',k s'=some r/\Rel Z s' σs A' L' σ' w') σ w)->
     (match Zk P T n mem ops z listed s (i::is)with
      |some (i,d,v)=>XM P T inl n mem ops fuel z (listed.setIfInBounds i true) (s.set d v) k
      |none=>match HO P n ops z listed s (i::is)with
       |some (i,d, .on b)=>Option.bind b.E λx=>XM P T inl n mem ops fuel z (listed.setIfInBounds i true) (s.set d (b.v x)) k
       |some (i,d, .ask t want bv b)=>if bv=true then
         (Dk (pY want true) (Option.bind b.E λx=>XM P T inl n mem ops fuel z (listed.setIfInBounds i true) ((s.res t true).set d (b.v x)) k)<|XM P T inl n mem ops fuel z (listed.setIfInBounds i true) ((s.res t true).set d .off) k)
         else(Dk (pY want false) (Option.bind b.E λx=>XM P T inl n mem ops fuel z (listed.setIfInBounds i true) ((s.res t false).set d (b.v x)) k)<|XM P T inl n mem ops fuel z (listed.setIfInBounds i true) ((s.res t false).set d .off) k)
       |none=>match(Dk (mem) (SO n ops z listed s (i::is))<|none)with
       |some (i,d,t,j,p)=>getRoot (De s.it j) p λu=>Dk (Po P t u) (XM P T inl n mem ops fuel z (listed.setIfInBounds i true) (s.set d u) k)<|none
       |none=>F)=some r->WD P n ops S (tw z) (fuel+1) listed (λσ' w'=>∃s' A' L',k s'=some r/\Rel Z s' σs A' L' σ' w') σ w:=by
    intro z S s F hr hS1 hS2 hfin h;split at h
    ·rename_i i' d v hp;obtain⟨o,ho,hB,hp⟩:=fJ hp;cases hmem:mem with
     |true=>
      subst hmem;refine WD.L5 (S':=wI Z σs A L s.it w) (hS1 rfl) (sK hT hr ho hB hp (.refl hr) (λ_ w' hw=>hw.ext hr) (λw' hw=>(hw.ext hr).gs) λσ' hr'=>?_);exact ih hr' h (λ_=> .inr λw' hw=>hw) (λe=>by cases e)
     |false=>
      subst hmem;refine WD.L5 (S':=GS Z σs) (hS2 rfl) (sK hT hr ho hB hp ⟨_,_,_,_,hr⟩ (λe=>by cases e) (λw' hw=>hw) λσ' hr'=>?_);exact ih hr' h (λe=>by cases e) (λ_ w' hw=>hw)
    ·split at h
     ·rename_i i' d b hp;obtain⟨o,ho,hB,hp⟩:=WX hp;obtain⟨x,hx,h⟩:=bind_some h;cases hmem:mem with
      |true=>
       subst hmem;refine WD.L5 (S':=wI Z σs A L s.it w) (hS1 rfl) (wJ hr ho hB hp hx (.refl hr) λσ' hr'=>?_);exact ih hr' h (λ_=> .inr λw' hw=>hw) (λe=>by cases e)
      |false=>
       subst hmem;refine wJ hr ho hB hp hx (hS2 rfl _ ⟨_,_,_,_,hr⟩) λσ' hr'=>?_;exact ih hr' h (λe=>by cases e) hS2
     ·rename_i i' d t want bv b hp;obtain⟨o,ho,hB,hp⟩:=WX hp;have h:(Dk (pY want bv) (Option.bind b.E λx=>XM P T inl n mem ops fuel z (listed.setIfInBounds i' true) ((s.res t bv).set d (b.v x)) k)<|XM P T inl n mem ops fuel z (listed.setIfInBounds i' true) ((s.res t bv).set d .off) k)=some r:=by
       cases bv with
       |true=>simpa using h
       |false=>simpa using h
      cases hmem:mem with
      |true=>
       subst hmem;refine WD.L5 (S':=wI Z σs A L s.it w) (hS1 rfl) (sZ (X:=λs'=>XM P T inl n true ops fuel z (listed.setIfInBounds i' true) s' k) hr ho hB hp (.refl hr) h λs' hs' σ' hr' h=>?_);exact ih hr' h (λ_=> .inr λw' hw=>hs'▸hw) (λe=>by cases e)
      |false=>
       subst hmem;refine sZ (X:=λs'=>XM P T inl n false ops fuel z (listed.setIfInBounds i' true) s' k) hr ho hB hp (hS2 rfl _ ⟨_,_,_,_,hr⟩) h λs' hs' σ' hr' h=>?_;exact ih hr' h (λe=>by cases e) hS2
     ·split at h
      ·rename_i i' d t j p hp;cases hmem:mem with
       |false=>rw[hmem]at hp;cases hp
       |true=>
        subst hmem;dsimp only[Dk,cond]at hp;obtain⟨o,ho,hB,hp⟩:=qN hp;refine WD.L5 (S':=wI Z σs A L s.it w) (hS1 rfl) (Auc (P:=P) hr ho hB hp h (.refl hr) (λw' hw=>hw.ext hr) (λu hu=>(Bb hu).1) λu σ' hu hr'=>?_);exact ih hr' (Bb hu).2 (λ_=> .inr λw' hw=>hw) (λe=>by cases e)
      exact hfin h
   have all:∀(z:Array Bool) (S:World->Prop),(mem=true->∀w',wI Z σs A L s.it w w'->S w')-> (mem=false->∀w',GS Z σs w'->S w')->
     (match Zk P T n mem ops z listed s (i::is)with
      |some (i,d,v)=>XM P T inl n mem ops fuel z (listed.setIfInBounds i true) (s.set d v) k
      |none=>match HO P n ops z listed s (i::is)with
       |some (i,d, .on b)=>Option.bind b.E λx=>XM P T inl n mem ops fuel z (listed.setIfInBounds i true) (s.set d (b.v x)) k
       |some (i,d, .ask t want bv b)=>if bv=true then
         (Dk (pY want true) (Option.bind b.E λx=>XM P T inl n mem ops fuel z (listed.setIfInBounds i true) ((s.res t true).set d (b.v x)) k)<|XM P T inl n mem ops fuel z (listed.setIfInBounds i true) ((s.res t true).set d .off) k)
         else(Dk (pY want false) (Option.bind b.E λx=>XM P T inl n mem ops fuel z (listed.setIfInBounds i true) ((s.res t false).set d (b.v x)) k)<|XM P T inl n mem ops fuel z (listed.setIfInBounds i true) ((s.res t false).set d .off) k)
       |none=>match(Dk (mem) (SO n ops z listed s (i::is))<|none)with
       |some (i,d,t,j,p)=>getRoot (De s.it j) p λu=>Dk (Po P t u) (XM P T inl n mem ops fuel z (listed.setIfInBounds i true) (s.set d u) k)<|none
       |none=>(λs=>Dk mem (eC ops ((i::is)++(i::is)) s λs=>(match Zk P T n mem ops z listed s (i::is)with
      |some (i,d,v)=>XM P T inl n mem ops fuel z (listed.setIfInBounds i true) (s.set d v) k
      |none=>match HO P n ops z listed s (i::is)with
       |some (i,d, .on b)=>Option.bind b.E λx=>XM P T inl n mem ops fuel z (listed.setIfInBounds i true) (s.set d (b.v x)) k
       |some (i,d, .ask t want bv b)=>if bv=true then
         (Dk (pY want true) (Option.bind b.E λx=>XM P T inl n mem ops fuel z (listed.setIfInBounds i true) ((s.res t true).set d (b.v x)) k)<|XM P T inl n mem ops fuel z (listed.setIfInBounds i true) ((s.res t true).set d .off) k)
         else(Dk (pY want false) (Option.bind b.E λx=>XM P T inl n mem ops fuel z (listed.setIfInBounds i true) ((s.res t false).set d (b.v x)) k)<|XM P T inl n mem ops fuel z (listed.setIfInBounds i true) ((s.res t false).set d .off) k)
       |none=>match(Dk (mem) (SO n ops z listed s (i::is))<|none)with
       |some (i,d,t,j,p)=>getRoot (De s.it j) p λu=>Dk (Po P t u) (XM P T inl n mem ops fuel z (listed.setIfInBounds i true) (s.set d u) k)<|none
       |none=>both (match ops[i]? with
        |some o=>Dk (mem&& !((U9 T s o&&gOk ops s o)||(!tw z i&&VG (tw z) (listed.setIfInBounds i true)))) (none)<|
         qQ P T inl n ops o s λs'=>XM P T inl n mem ops fuel z (listed.setIfInBounds i true) s' k
        |none=>none) (is.map λi=>match ops[i]? with
        |some o=>Dk (mem&& !((U9 T s o&&gOk ops s o)||(!tw z i&&VG (tw z) (listed.setIfInBounds i true)))) (none)<|
         qQ P T inl n ops o s λs'=>XM P T inl n mem ops fuel z (listed.setIfInBounds i true) s' k
        |none=>none)))<|both (match ops[i]? with
        |some o=>Dk (mem&& !((U9 T s o&&gOk ops s o)||(!tw z i&&VG (tw z) (listed.setIfInBounds i true)))) (none)<|
         qQ P T inl n ops o s λs'=>XM P T inl n mem ops fuel z (listed.setIfInBounds i true) s' k
        |none=>none) (is.map λi=>match ops[i]? with
        |some o=>Dk (mem&& !((U9 T s o&&gOk ops s o)||(!tw z i&&VG (tw z) (listed.setIfInBounds i true)))) (none)<|
         qQ P T inl n ops o s λs'=>XM P T inl n mem ops fuel z (listed.setIfInBounds i true) s' k
        |none=>none)) s)=some r->WD P n ops S (tw z) (fuel+1) listed (λσ' w'=>∃s' A' L',k s'=some r/\Rel Z s' σs A' L' σ' w') σ w:=by
    intro z S hS1 hS2 h;refine main z S s _ hr hS1 hS2 (λhF=>?_) h;clear h;cases hmem:mem with
    |false=>
     simp only[hmem,Dk]at hF;subst hmem;exact rest z S s hr hS1 hS2 hF
    |true=>
     simp only[hmem,Dk]at hF;subst hmem;obtain⟨s',hr',hit,h'⟩:=nR hr hF;refine main z S s' _ hr' (by rw[hit];exact hS1) hS2 (λhG=>?_) h';exact rest z S s' hr' (by rw[hit];exact hS1) hS2 hG
   cases hz:(mem&&VG (tw z0) listed)with
   |true=>
    rw[hz]at h;simp only[DG]at hz;obtain⟨hm,hov⟩:=hz;subst hm;exact WD.next (S':=wI Z σs A L s.it w) _ hov (all _ _ (λ_ w' hw=>hw) (λe=>by cases e) h)
   |false=>
    rw[hz]at h;refine all _ _ (λhm=>?_) hI2 h;subst hm;rcases hI1 rfl with h1|h1
    ·rw[h1]at hz;cases hz
    ·exact h1
end Go.Rx
namespace Go.Rx
open Go Go.Lv
variable{p:PV}
variable {P:Program} {B B':Reg} {w w':World} {L L':List MD} {s:S} {σs:List Env} {σ:Env} {Z:Fix} {A A':Reg} {n:Nat} {ops:Array Oper}
variable {R:Type} {k:S->Option R} {r:R}
def yF(w:World)(A:Reg)(L:List Mob)(os:Nat->Option Nat):Prop:=
 (∀(i:Nat) (m:Mob),L[i]? =some m->m.holds (os i) w/\∀b,os i=some b-> ¬A b/\b<w.heap.size)/\∀i j b,i<L.length->j<L.length->i≠j->os i=some b->os j≠some b
theorem Dv.toI:∀{L:List Mob} {A:Reg},Dv w A L->∃os,yF w A L os
 |[],A,_=>⟨λ_=>none,λi m h=>by simp at h,λi j b h=>by simp at h⟩
 |m::L,A,⟨o,h1,h2,h3⟩=>by
  obtain⟨os,g1,g2⟩:=Dv.toI h3;refine⟨λi=>match i with|0=>o|i+1=>os i,λi m' h=>?_,λi j b hi hj hij h=>?_⟩
  ·cases i with
   |zero=>simp at h;subst h;exact⟨h1,h2⟩
   |succ i=>
    obtain⟨g3,g4⟩:=g1 i m' (by simpa using h);exact⟨g3,λb hb=>⟨λhA=>(g4 b hb).1 (.inl hA),(g4 b hb).2⟩⟩
  ·have key:∀q,q<L.length->∀b,os q=some b->o≠some b:=λq hq b hb ho=>by
    exact((g1 q L[q] (by simp[hq])).2 b hb).1 (.inr ho)
   cases i with
   |zero=>
    cases j with
    |zero=>exact absurd rfl hij
    |succ j=>intro hb;exact key j (by simpa using hj) b hb h
   |succ i=>
    cases j with
    |zero=>exact key i (by simpa using hi) b h
    |succ j=>exact g2 i j b (by simpa using hi) (by simpa using hj) F0 h
theorem Dv.ofI:∀{L:List Mob} {A:Reg} {os:Nat->Option Nat},yF w A L os->Dv w A L
 |[],_,_,_=>trivial
 |m::L,A,os,⟨g1,g2⟩=>by
  obtain⟨h1,h2⟩:=g1 0 m rfl;refine⟨os 0,h1,h2,Dv.ofI (os:=λi=>os (i+1)) ⟨λi m' h=>?_,λi j b hi hj hij h=>?_⟩⟩
  ·obtain⟨g3,g4⟩:=g1 (i+1) m' (by simpa using h);refine⟨g3,λb hb=>⟨λhA=>?_,(g4 b hb).2⟩⟩;rcases hA with hA|hA
   ·exact(g4 b hb).1 hA
   ·have hlt:i<L.length:=(List.getElem?_eq_some_iff.1 h).1;exact g2 0 (i+1) b CH (by simpa using hlt) F0 hA hb
  ·exact g2 (i+1) (j+1) b (by simpa using hi) (by simpa using hj) F0 h
def distinct:List Nat->Bool|[]=>true|i::r=>!BZ i r&&distinct r
theorem Asv:∀{l:List Nat} {i j q:Nat},distinct l=true->l[i]? =some q->l[j]? =some q->i=j
 |[],_,_,_,_,h,_=>by simp at h
 |a::l,i,j,q,hd,hi,hj=>by
  simp only[distinct,DG,S4]at hd;have hn:a∉l:=λh=>by have:=ES.2 h;rw[hd.1]at this;cases this
  cases i with
  |zero=>
   cases j with
   |zero=>rfl
   |succ j=>simp at hi hj;subst hi;exact absurd (Xy hj) hn
  |succ i=>
   cases j with
   |zero=>simp at hi hj;subst hj;exact absurd (Xy hi) hn
   |succ j=>exact congrArg (· +1) (Asv (q:=q) hd.2 (by simpa using hi) (by simpa using hj))
theorem J8{w:World}:MD.dead.Kz.holds none w:=⟨none,0,0,rfl,CH,N! _,λ_=>rfl,λ_=>rfl,λb h=>by cases h⟩
theorem getD_some{i:Nat}{md:MD}(h:L[i]? =some md):L.getD i .dead=md:=by simp[J3,h]
theorem getD_none{i:Nat}(h:L[i]? =none):L.getD i .dead= .dead:=by simp[J3,h]
def w? (o:List Nat)(L:List MD)(os:Nat->Option Nat)(j:Nat):Option Nat:=match o[j]? with|some i=>(match L[i]? with|some _=>os i|none=>none)|none=>none
theorem qI{o:List Nat}{os:Nat->Option Nat}{i j:Nat}{md:MD}(h:o[j]? =some i)(hL:L[i]? =some md):w? o L os j=os i:=by unfold w?;rw[h];simp only[hL]
theorem rT{o:List Nat}{os:Nat->Option Nat}{i j:Nat}(h:o[j]? =some i)(hL:L[i]? =none):w? o L os j=none:=by unfold w?;rw[h];simp only[hL]
theorem Adg{o:List Nat}(h:Dv w A (L.map MD.Kz))(hd:distinct o=true):Dv w A ((o.map λi=>L.getD i .dead).map MD.Kz):=by
 obtain⟨os,g1,g2⟩:=Dv.toI h;refine Dv.ofI (os:=w? o L os) ⟨λj m hm=>?_,λi j b hi hj hij hb=>?_⟩
 ·simp only[iN,X4,aW,Function.comp]at hm;obtain⟨i,hi,rfl⟩:=hm;cases hL:L[i]? with
  |none=>rw[getD_none hL,rT hi hL];exact⟨J8,λb hb=>by cases hb⟩
  |some md=>rw[getD_some hL,qI hi hL];exact g1 i md.Kz (by simp[hL])
 ·simp only[iL]at hi hj;have e1:o[i]? =some o[i]:=by simp[hi]
  have e2:o[j]? =some o[j]:=by simp[hj]
  have hne:o[i]≠o[j]:=λe=>hij (Asv hd e1 (by rw[e2,e]));cases hL1:L[o[i]]? with
  |none=>rw[rT e1 hL1]at hb;cases hb
  |some m1=>
   rw[qI e1 hL1]at hb;cases hL2:L[o[j]]? with
   |none=>rw[rT e2 hL2];simp
   |some m2=>
    rw[qI e2 hL2];exact g2 _ _ b (by simpa using(List.getElem?_eq_some_iff.1 hL1).1) (by simpa using(List.getElem?_eq_some_iff.1 hL2).1) hne hb
theorem As5 {i:Nat}:∀{o:List Nat} {m j:Nat},posOf i o m=some j->∃q,j=m+q/\o[q]? =some i
 |[],_,_,h=>by simp[posOf]at h
 |a::o,m,j,h=>by
  simp only[posOf]at h;cases hb:Nat.beq i a with
  |true=>rw[hb]at h;cases h;exact⟨0,rfl,by simp[Df hb]⟩
  |false=>
   rw[hb]at h;obtain⟨q,h1,h2⟩:=As5 (o:=o) h;exact⟨q+1,F0,by simpa using h2⟩
theorem xH{o:List Nat}{i j:Nat}{md:MD}(h:posOf i o 0=some j)(hL:L[i]? =some md):(o.map λi=>L.getD i .dead)[j]? =some md:=by
 obtain⟨q,h1,h2⟩:=As5 h;rw[T9]at h1;subst h1;simp[h2,J3,hL]
theorem rY{o:List Nat}:(T5 o p).isA=p.isA:=by
 cases p<;>try rfl
 ·simp only[T5];split<;>rfl
 ·simp only[T5];split<;>rfl
 ·simp only[T5];split<;>rfl
abbrev oM(L:List MD):Prop:=L.all (λm=>match m with| .own _ _ v _=>v.oneCell'|_=>true)=true
mutual
theorem sU{o:List Nat}(h1:oM L):∀{p:PV} {cs:List Value},Bl B w L p cs->Bl B w (o.map λi=>L.getD i .dead) (T5 o p) cs
 | .val _ x,cs,h=>h
 | .agg q,cs,h=>Ap3 h1 (show Bl.go B w L q cs from h)
 | .tup _,_,h=>h.elim
 | .nils,cs,h=>h
 | .own j,cs,⟨z,E,v,c,g1,g2⟩=>by
  simp only[T5];split
  ·rename_i j' hj;exact⟨z,E,v,c,xH hj g1,g2⟩
  ·exact⟨v,g2,List.all_eq_true.1 h1 _ (Xy g1)⟩
 | .ptr j q,cs,⟨md,b,g1,g2,g3⟩=>by
  simp only[T5];split
  ·rename_i j' hj;exact⟨md,b,xH hj g1,g2,g3⟩
  ·exact⟨_,g3,rfl⟩
 | .view u j p e lo n,cs,⟨md,v,g1,g2,g3⟩=>by
  simp only[T5];split
  ·rename_i j' hj;exact⟨md,v,xH hj g1,g2,g3⟩
  ·obtain⟨_,_,⟨pt,cap,e',_⟩,_⟩:=g3;exact⟨v,g2,by rw[e'];rfl⟩
 | .rptr v,cs,⟨pv,c0,g1,g2,g3⟩=>⟨pv,c0,g1,g2,sU h1 g3⟩
 | .fn f caps,cs,⟨vs,g1,g2⟩=>⟨vs,g1,jF h1 g2⟩
 | .cap _ _ _,cs,h=>h
 | .bfn f fs,cs,⟨vs,g1,g2⟩=>⟨vs,g1,jF h1 g2⟩
 | .mp ks l,cs,⟨r,es,n,g1,g2,g3,g4,g5⟩=>⟨r,es,n,g1,g2,g3,g4,jF h1 g5⟩
 | .cst v,cs,h=>h
 | .any,cs,h=>h
 | .gd _ _ _,_,h=>h.elim
 | .off,_,h=>h.elim
 | .undef,_,h=>h.elim
theorem Ap3 {o:List Nat}(h1:oM L):∀{q:List PV} {cs:List Value},Bl.go B w L q cs->Bl.go B w (o.map λi=>L.getD i .dead) (T5.go o q) cs
 |[],cs,h=>h
 |a::q,cs,⟨c1,c2,e',g1,g2⟩=>⟨c1,c2,e',sU h1 g1,Ap3 h1 g2⟩
theorem jF{o:List Nat}(h1:oM L):∀{q:List PV} {vs:List Value},Fc B w L q vs->Fc B w (o.map λi=>L.getD i .dead) (T5.go o q) vs
 |[],vs,h=>h
 |a::q,vs,⟨v,vs',e',g1,g2⟩=>⟨v,vs',e',by rw[rY];exact g1.mono λc h=>sU h1 h,jF h1 g2⟩
end
theorem Q? {o:List Nat}(h1:oM L){v:Value}(h:Gi B w L p v):Gi B w (o.map λi=>L.getD i .dead) (T5 o p) v:=by
 cases hp:p.zw with
 |true=>
  have h2:Jj B w (o.map λi=>L.getD i .dead) (T5 o p) v:=by
   unfold Jj;rw[rY];exact asV.mono (λc h=>sU h1 h) ((kN hp).1 h)
  exact(Mc h2).2
 |false=>
  cases p
  case tup q=>obtain⟨vs,g1,g2⟩:=h;exact⟨vs,g1,jF h1 g2⟩
  case undef=>exact(show False from h).elim
  case off=>exact(show False from h).elim
  case gd=>exact(show False from h).elim
  all_goals cases hp
theorem Aft{o:List Nat}(h1:oM L){t:Nat}(h:Ld B w L σ t p):Ld B w (o.map λi=>L.getD i .dead) σ t (T5 o p):=by
 cases hv:p.isV with
 |true=>
  have g1:=Q? (o:=o) h1 ((Ld.iff hv).1 h);have g2:(T5 o p).isV=true:=by
   cases p<;>first|rfl|cases hv|skip
   ·simp only[T5];split<;>rfl
   ·simp only[T5];split<;>rfl
   ·simp only[T5];split<;>rfl
  exact(Ld.iff g2).2 g1
 |false=>
  rcases Zf hv with rfl|rfl|⟨j,u,q,rfl⟩
  ·exact trivial
  ·exact h
  ·obtain⟨b,g1,g2,g3⟩:=h;exact⟨b,g1,λe=>Q? h1 (g2 e),g3⟩
theorem O6{o:List Nat}(h1:oM L){sl:Slots}(h:Hr B w L σ sl):Hr B w (o.map λi=>L.getD i .dead) σ (gD o sl):=by
 intro p hp;obtain⟨q,hq,rfl⟩:=List.mem_map.1 hp;exact Aft h1 (h q hq)
theorem P8{o:List Nat}(h1:oM L):∀{σs:List Env} {st:List Slots},dL B w L σs st->dL B w (o.map λi=>L.getD i .dead) σs (st.map (gD o))
 |[],[],h=>h
 |_::_,_::_,⟨g1,g2⟩=>⟨O6 h1 g1,P8 h1 g2⟩
theorem Amd{o:List Nat}(h1:oM L){a:Item}{md:MD}(h:CC B w L a md):CC B w (o.map λi=>L.getD i .dead) (xJ o a) md:=by
 cases a<;>cases md<;>first
  |exact h
  |exact⟨h.1,sU h1 h.2⟩
theorem cT{sl:Slots}(h:Hr B w L σ sl):∀(lv:List Nat),Hr B w L σ (pT sl lv)
 |[]=>λp hp=>by simp[pT]at hp
 |t::lv=>by
  intro p hp;simp only[pT]at hp;split at hp
  ·exact cT h lv p hp
  ·exact cT h lv p hp
  ·exact cT h lv p hp
  ·rcases List.mem_cons.1 hp with rfl|hp
   ·exact Tg (s:=⟨sl,[],[]⟩) (t:=t) h
   ·exact cT h lv p hp
theorem Arn:∀{l:List Nat} {i:Nat},distinct l=true->BZ i l=false->distinct (l++[i])=true
 |[],_,_,_=>rfl
 |a::l,i,hd,hi=>by
  simp only[distinct,DG,S4]at hd;simp only[BZ,aX]at hi;simp only[VC,distinct,DG,S4];refine⟨?_,Arn hd.2 hi.2⟩;cases hx:BZ a (l++[i])with
  |false=>rfl
  |true=>
   rcases List.mem_append.1 (ES.1 hx)with h|h
   ·have:=ES.2 h;rw[hd.1]at this;cases this
   ·simp at h;subst h;simp at hi
theorem UC{it:List Item}:∀(q:Nat) (todo seen:List Nat),distinct seen=true->distinct (reach it q todo seen)=true
 |0,_,_,h=>h
 |_+1,[],_,h=>h
 |q+1,i::todo,seen,h=>by
  simp only[reach];cases he:BZ i seen with
  |true=>exact UC q _ _ h
  |false=>exact UC q _ _ (Arn h he)
theorem Alg(hr:Rel Z s σs A L σ w)(lv:List Nat):∃L',Rel Z (s.canon lv) σs A L' σ w:=by
 have hm:=hr.mem;have h1:oM L:=hr.oM;unfold S.canon;simp only;generalize ho:reach s.it 200 (I' (pT s.sl lv)++(s.st.map I').flatten) []=o;have hd:distinct o=true:=by rw[<-ho];exact UC _ _ _ rfl
 refine⟨o.map λi=>L.getD i .dead,?_⟩;have hst:St A w [LG Z.R L s σs σ, .old Z.M Z.w0] ((o.map λi=>L.getD i .dead).map MD.Kz):=⟨St.lt hr,St.facts hr,Adg (St.mobs hr) hd⟩;refine Rel.as hst (i:=1) rfl ⟨⟨CH,λj a m g1 g2=>?_⟩,O6 h1 (cT hm.sl lv),P8 h1 hm.stk⟩ rfl;simp only[X4,aW]at g1 g2;obtain⟨i,g3,rfl⟩:=g1;obtain⟨i',g4,rfl⟩:=g2;rw[g3]at g4;cases g4;cases hi:De s.it i with
 |dead=>exact trivial
 |box T v=>
  obtain⟨md,g5,g6⟩:=hm.item hi (by intro e;cases e);rw[getD_some g5];exact Amd h1 g6
 |arr E e l=>
  obtain⟨md,g5,g6⟩:=hm.item hi (by intro e;cases e);rw[getD_some g5];exact Amd h1 g6
theorem I2:∀{p:List Nat} {v u:PV} {cs:List Value},atV v p=some u->Bl B w L v cs-> (∃c,Bl B w L u c)/\∀(B':Reg) (w':World) (L':List MD) (m v':PV),(∀q c,Bl B w L q c->Bl B' w' L' q c)-> (∀c,Bl B w L u c->Bl B' w' L' m c)->m.isA=u.isA->YG m v p=some v'->Bl B' w' L' v' cs/\v'.isA=v.isA
 |[],v,u,cs,h,hv=>by
  simp only[atV,DV]at h;subst h;refine⟨⟨cs,hv⟩,λB' w' L' m v' _ hm hA hp=>?_⟩;simp only[YG,DV]at hp;subst hp;exact⟨hm _ hv,hA⟩
 |i::p,v,u,cs,h,hv=>by
  cases v<;>simp only[atV,reduceCtorEq]at h;rename_i l;split at h
  ·rename_i f hf;obtain⟨c1,c2,c3,e,h1,h2,h3⟩:=Bl.field (show Bl.go B w L l cs from hv) hf;obtain⟨g1,g2⟩:=I2 h h2;refine⟨g1,λB' w' L' m v' hq hm hA hp=>?_⟩;simp only[YG,hf]at hp;split at hp
   ·rename_i f' hf';cases hp;obtain⟨g3,_⟩:=g2 B' w' L' m f' hq hm hA hf';refine⟨?_,rfl⟩;have hl:Bl.go B' w' L' l cs:=show Bl B' w' L' (.agg l) cs from hq _ _ hv;obtain⟨d1,d2,d3,e',k1,k2,k3⟩:=Bl.field hl hf;have:d2=c2:=by
     have l1:d1.length=c1.length:=k1.trans h1.symm;have l2:d2.length=c2.length:=k2.len.trans h2.len.symm;rw[e]at e';obtain⟨e1,e2⟩:=List.append_inj e' l1.symm;obtain⟨e3,_⟩:=List.append_inj e2 l2.symm;exact e3.symm
    rw[e'];exact k3 _ _ (by rw[this];exact g3)
   ·cases hp
  ·cases h
theorem N_(hr:Rel Z s σs A L σ w)(E:TypeId)(e:ET):Rel Z (s.add (.arr E e [])) σs A (L++[.own e.size E (.slice none 0 0) []]) σ w:=
 Rel.push (a:= .arr E e []) (md:= .own e.size E (.slice none 0 0) []) (St.xg hr e.size E) ⟨rfl,rfl,rfl⟩
theorem N2{i b:Nat}{T:TypeId}{v':PV}{cells:List Value}(hr:Rel Z s σs A L σ w)(hL:L[i]? =some (.box b cells T))(hv:Bl (λb=>A b/\Z.R b) w L v' cells):Rel Z (s.Zz i (.box T v')) σs A L σ w:=by
 have hm:=hr.mem;refine Rel.as hr (i:=1) rfl ⟨⟨by simp[S.Zz,nC,hm.it.1],λj a m h1 h2=>?_⟩,hm.sl,hm.stk⟩ rfl;simp only[S.Zz]at h1;rcases nA h1 with⟨rfl,rfl⟩|⟨_,h4⟩
 ·rw[hL]at h2;cases h2;exact⟨rfl,hv⟩
 ·exact hm.it.2 j a m h4 h2
theorem Apl{t:Nat}{m:PV}:∀{sl:Slots} {q:Nat} {v:PV},(q,v)∈YB t m sl-> (q,v)∈sl\/ (q=t/\v=m)
 |[],_,_,h=>by simp[YB]at h
 |(q',v')::r,q,v,h=>by
  simp only[YB]at h;cases hb:Nat.beq q' t with
  |true=>
   rw[hb]at h;rcases List.mem_cons.1 h with h|h
   ·cases h;exact .inr ⟨Df hb,rfl⟩
   ·exact .inl (.tail _ h)
  |false=>
   rw[hb]at h;rcases List.mem_cons.1 h with h|h
   ·cases h;exact .inl (.head _)
   ·exact(Apl h).imp (.tail _) id
theorem M5{t:Nat}{m:PV}(hr:Rel Z s σs A L σ w)(hm:Ld (λb=>A b/\Z.R b) w L σ t m):Rel Z ⟨YB t m s.sl,s.it,s.st⟩ σs A L σ w:=by
 refine hr.fW rfl rfl ?_;rintro⟨q,v⟩ hp;rcases Apl hp with h|⟨rfl,rfl⟩
 ·exact hr.mem.sl _ h
 ·exact hm
theorem Adj {e:ET}{c:List Value}(h:Bl B w L .nils c):Bl B w L (.val (.list e) []) c:=⟨_,[],show c=_ from h,Rd.nil,rfl⟩
theorem Am5{a:At}{s':S}(hr:Rel Z s σs A L σ w)(h:mF s a=some s'):∃A' L',Rel Z s' σs A' L' σ w:=by
 have hm:=hr.mem;unfold mF at h;simp only at h;split at h
 ·
  rename_i i q hsl;split at h
  ·rename_i T v hi;split at h
   ·rename_i u hu;obtain⟨b,cells,hL,hv⟩:=hm.box hi;split at h
    ·rename_i E e _;split at h
     ·rename_i v' hv';cases h;obtain⟨_,g⟩:=I2 hu hv;have hr2:=N_ hr E e;have hL2:(L++[.own e.size E (.slice none 0 0) []])[i]? =some (.box b cells T):=by rw[RM (List.getElem?_eq_some_iff.1 hL).1];exact hL
      obtain⟨g1,_⟩:=g (λb=>A b/\Z.R b) w (L++[.own e.size E (.slice none 0 0) []]) (.own s.new) v' (λq c h=>Bl.step (λ_ h=>h) (λ_ _=>rfl) (jA.append _ _) h)
       (λc hc=>⟨e.size,E,_,[],by rw[S.new,hr.len];simp,hc⟩) rfl hv'
      exact⟨_,_,N2 hr2 hL2 g1⟩
     ·cases h
    ·cases h;exact⟨A,L,hr⟩
    ·rename_i e _;split at h
     ·rename_i v' hv';cases h;obtain⟨_,g⟩:=I2 hu hv;obtain⟨g1,_⟩:=g (λb=>A b/\Z.R b) w L (.val (.list e) []) v' (λq c h=>h) (λc hc=>Adj hc) rfl hv';exact⟨_,_,N2 hr hL g1⟩
     ·cases h
    ·obtain⟨A',h1,_⟩:=qM hr h;exact⟨A',_,h1⟩
    ·cases h;exact⟨A,L,hr⟩
    ·cases h
   ·cases h
  ·cases h
 split at h
 ·
  rename_i o i p e1 lo n hsl;split at h
  ·rename_i E e _ _;obtain⟨hb,h⟩:=Bb h;split at h
   ·rename_i s1 j h1;cases h;have hx:Es s.sl (.tmp a.t)= .view o i p e1 lo n:=by simp only[Es,hsl]
    obtain⟨L1,hr1,c0,hL⟩:=F? (x:= .tmp a.t) hr (by simpa [Nat.blt_eq]using hb) (by rw[hx];rfl) (by rw[hx];exact h1);exact⟨_,_,M5 hr1 ⟨_,_,_,_,hL,rfl⟩⟩
   ·cases h
  ·cases h
 ·
  split at h
  ·rename_i u hu;have hsl:=Tg (t:=a.t) hm.sl;have yI:∀(B':Reg) (L':List MD) (m v':PV),(∀q c,Bl (λb=>A b/\Z.R b) w L q c->Bl B' w L' q c)-> (∀c,Bl (λb=>A b/\Z.R b) w L u c->Bl B' w L' m c)->m.isA=u.isA->u= .nils->YG m (FT s.sl a.t) a.p=some v'->Ld B' w L' σ a.t v':=by
    intro B' L' m v' hq hmu hA hun hp;have hP:(FT s.sl a.t).zw=true:=by
     revert hu
     generalize FT s.sl a.t=x;generalize a.p=pp;intro hu;cases pp with
     |nil=>simp only[atV,DV]at hu;rw[hu,hun];rfl
     |cons _ _=>cases x<;>first|rfl|simp[atV]at hu
    have hE:Jj (λb=>A b/\Z.R b) w L (FT s.sl a.t) (σ a.t):=(kN hP).1 ((Ld.iff (PV.iy hP)).1 hsl);have key:Jj B' w L' v' (σ a.t):=by
     unfold Jj asV at hE;split at hE
     ·rename_i hA';obtain⟨cs,e1,hc⟩:=hE;obtain⟨_,g⟩:=I2 hu hc;obtain⟨g1,g2⟩:=g B' w L' m v' hq hmu hA hp;unfold Jj;rw[g2,hA'];exact⟨cs,e1,g1⟩
     ·rename_i hA';obtain⟨_,g⟩:=I2 hu hE;obtain⟨g1,g2⟩:=g B' w L' m v' hq hmu hA hp;unfold Jj;rw[g2,hA'];exact g1
    obtain⟨k1,k2⟩:=Mc key;exact(Ld.iff k1).2 k2
   split at h
   ·rename_i E e _;split at h
    ·rename_i v' hv';cases h;have hr2:=N_ hr E e;exact⟨_,_,M5 (s:=s.add (.arr E e [])) hr2 (yI _ _ (.own s.new) v' (λq c h=>Bl.step (λ_ h=>h) (λ_ _=>rfl) (jA.append _ _) h) (λc hc=>⟨e.size,E,_,[],by rw[S.new,hr.len];simp,hc⟩) rfl rfl hv')⟩
    ·cases h
   ·cases h;exact⟨A,L,hr⟩
   ·rename_i e _;split at h
    ·rename_i v' hv';cases h;exact⟨_,_,M5 hr (yI _ _ (.val (.list e) []) v' (λq c h=>h) (λc hc=>Adj hc) rfl rfl hv')⟩
    ·cases h
   ·obtain⟨A',h1,_⟩:=qM hr h;exact⟨A',_,h1⟩
   ·cases h;exact⟨A,L,hr⟩
   ·cases h
  ·cases h
theorem q?:∀{l:List At} {s s':S} {A:Reg} {L:List MD},Rel Z s σs A L σ w->cJ s l=some s'->∃A' L',Rel Z s' σs A' L' σ w
 |[],s,s',A,L,hr,h=>by simp only[cJ,DV]at h;subst h;exact⟨A,L,hr⟩
 |a::l,s,s',A,L,hr,h=>by
  simp only[cJ]at h;split at h
  ·rename_i s1 h1;obtain⟨A1,L1,hr1⟩:=Am5 hr h1;exact q? hr1 h
  ·cases h
theorem xK{lv:List Nat}{co:List At}{s':S}(hr:Rel Z s σs A L σ w)(h:s.cn lv co=some s'):∃A' L',Rel Z s' σs A' L' σ w:=by
 unfold S.cn at h;split at h
 ·rename_i s1 h1;cases h;obtain⟨A1,L1,hr1⟩:=q? hr h1;obtain⟨L',hr2⟩:=Alg hr1 lv;exact⟨A1,L',hr2⟩
 ·cases h
end Go.Rx
namespace Go.Rx
open Go Go.Lv
variable {P:Program} {B B':Reg} {w w':World} {L L':List MD} {s:S} {σs:List Env} {σ:Env} {Z:Fix} {A A':Reg} {n:Nat} {ops:Array Oper}
variable {R:Type} {r:R} {T:Tab} {inl:wz R}
def kof(k:K R):Exit->S->Option R
 | .normal=>k.n| .exit id=>k.x id| .ret=>k.r|_=>λ_=>none
def QK(Z:Fix)(σs:List Env)(k:K R)(r:R)(e:Exit)(σ':Env)(w':World):Prop:=∃s' A' L',kof k e s'=some r/\Rel Z s' σs A' L' σ' w'
theorem rP(an:An){gl:List (Nat×List Value)}(hI:aY P gl inl):aY P gl (zx an inl):=by
 unfold zx;split
 ·intro Z hZ f as s k r σs A L σ w vs h hr ha;exact hI Z hZ f as _ k r σs A L σ w vs h (hr.fW rfl rfl (cT hr.mem.sl _)) ha
 ·exact hI
theorem xY(YK:P.follows .mixedOrders=true)(hT:oI P T Z)(hI:aY P T.gl inl):∀(c:Code) {an:An} {k:K R} {s:S} {A:Reg} {L:List MD} {σ:Env} {w:World},ex P T inl n c an k s=some r->Rel Z s σs A L σ w->W P n c (QK Z σs k r) σ w:=by
 intro c
 induction c with
 |skip=>intro an k s A L σ w h hr;exact W.skip ⟨s,A,L,h,hr⟩
 |ret=>intro an k s A L σ w h hr;exact W.ret ⟨s,A,L,h,hr⟩
 |exit id=>intro an k s A L σ w h hr;exact W.exit ⟨s,A,L,h,hr⟩
 |seq a b iha ihb=>
  intro an k s A L σ w h hr;refine W.seq (W.mono (iha (an:=an.l) (k:={k with n:=cS an λs'=>ex P T inl n b an.r k s'}) h hr) ?_);rintro e σ' w' ⟨s',A',L',h1,hr'⟩;cases e with
  |normal=>
   have h2:cS an (λs'=>ex P T inl n b an.r k s') s'=some r:=h1;unfold cS at h2;split at h2
   ·split at h2
    ·rename_i s2 hs2;obtain⟨A2,L2,hr2⟩:=xK hr' hs2;exact ihb h2 hr2
    ·cases h2
   ·exact ihb h2 hr'
  |exit id=>exact⟨s',A',L',h1,hr'⟩
  |ret=>exact⟨s',A',L',h1,hr'⟩
  |goto l=>exact⟨s',A',L',h1,hr'⟩
  |panic c=>exact⟨s',A',L',h1,hr'⟩
  |outgrown=>exact⟨s',A',L',h1,hr'⟩
 |cond c a b iha ihb=>
  intro an k s A L σ w h hr;simp only[ex]at h;split at h
  ·rename_i t hc;refine W.cond (uA hr.mem.sl hc) (λht=>?_) (λht=>?_)
   ·subst ht;exact iha (by simpa using h) hr
   ·subst ht;exact ihb (by simpa using h) hr
  ·cases h
 |block id a iha=>
  intro an k s A L σ w h hr;refine W.block (W.mono (iha (an:=an.l) (k:={k with x:=λid' s'=>Dk (Nat.beq id' id) (k.n s')<|k.x id' s'}) h hr) ?_);rintro e σ' w' ⟨s',A',L',h1,hr'⟩;cases e with
  |exit id'=>
   have h2:(Dk (Nat.beq id' id) (k.n s')<|k.x id' s')=some r:=h1;simp only[uy];by_cases hid:id'=id
   ·rw[CD hid];subst hid;simp at h2;exact⟨s',A',L',h2,hr'⟩
   ·rw[B! hid];have hb:Nat.beq id' id=false:=by
     cases hb:Nat.beq id' id with
     |false=>rfl
     |true=>exact absurd (Df hb) hid
    rw[hb]at h2;exact⟨s',A',L',h2,hr'⟩
  |normal=>exact⟨s',A',L',h1,hr'⟩
  |ret=>exact⟨s',A',L',h1,hr'⟩
  |goto l=>exact⟨s',A',L',h1,hr'⟩
  |panic c=>exact⟨s',A',L',h1,hr'⟩
  |outgrown=>exact⟨s',A',L',h1,hr'⟩
 |loop a iha=>
  intro an k s A L σ w h hr;have head:∀(q:Nat) (s:S) (A:Reg) (L:List MD) (σ:Env) (w:World),jg an (iter an (λkn s'=>ex P T inl n a an.l {k with n:=kn} s') q) s=some r->Rel Z s σs A L σ w->
    ∃s' A' L',iter an (λkn s'=>ex P T inl n a an.l {k with n:=kn} s') q s'=some r/\Rel Z s' σs A' L' σ w:=by
   intro q s A L σ w h hr;unfold jg at h;split at h
   ·split at h
    ·rename_i s2 hs2;obtain⟨A2,L2,hr2⟩:=xK hr hs2;exact⟨s2,A2,L2,h,hr2⟩
    ·cases h
   ·cases h
  refine W.loop (λq σ w=>∃s A L,iter an (λkn s'=>ex P T inl n a an.l {k with n:=kn} s') q s=some r/\Rel Z s σs A L σ w) Du (head _ _ _ _ _ _ h hr) ?_;rintro q σ w ⟨s,A,L,h,hr⟩;cases q with
  |zero=>cases h
  |succ q=>
   refine W.mono (iha (k:={k with n:=jg an (iter an (λkn s'=>ex P T inl n a an.l {k with n:=kn} s') q)}) h hr) ?_;rintro e σ' w' ⟨s',A',L',h1,hr'⟩;cases e with
   |normal=>exact⟨q,Nat.lt_succ_self _,head q s' A' L' σ' w' h1 hr'⟩
   |exit id=>exact⟨s',A',L',h1,hr'⟩
   |ret=>exact⟨s',A',L',h1,hr'⟩
   |goto l=>exact⟨s',A',L',h1,hr'⟩
   |panic c=>exact⟨s',A',L',h1,hr'⟩
   |outgrown=>exact⟨s',A',L',h1,hr'⟩
 |region id ops draw=>
  intro an k s A L σ w h hr;cases draw with
  |false=>
   obtain⟨hd,h⟩:=Bb (show(Dk (uE ops.toList) (e_ P T (zx an inl) n ops ops.toList s k.n)<|none)=some r from h);have h1:=Ai6 (ops:=ops) hT (rP an hI) hr (show e_ P T (zx an inl) n ops ops.toList s k.n=some r from h);have hops:ops=ops.toList.toArray:=by simp
   rw[hops];exact W.region hd (by rw[<-hops];exact h1)
  |true=>
   obtain⟨hd,h⟩:=Bb (show(Dk (uE ops.toList) (XM P T (zx an inl) n (vZ an) ops ops.size (Dk (vZ an) (#[])<|Array.replicate ops.size true) (Array.replicate ops.size false) s k.n)<|none)=some r from h);refine W.An9 hd YK (λ_=>True) (tw (Dk (vZ an) (#[])<|Array.replicate ops.size true)) (λw' hw hg=>?_);have hr':Rel Z s σs A L σ w':=St.Aj2 hr hw hg;refine Aqs hT (rP an hI) hr' h (λhm=> .inl ?_) (λ_ _ _=>trivial);rw[hm];simp[VG,tw]
 |rangeFunc=>intro an k s A L σ w h hr;cases h
 |scope=>intro an k s A L σ w h hr;cases h
 |label=>intro an k s A L σ w h hr;cases h
 |goto=>intro an k s A L σ w h hr;cases h
 |refuse=>intro an k s A L σ w h hr;cases h
theorem Af1(hr:Rel Z s σs A L σ w){v:ResultVar}{p:PV}(h:jv P s v=some p):∃u,ZF P σ w v u/\Jj (λb=>A b/\Z.R b) w L p u:=by
 have hm:=hr.mem;cases v with
 |tmp t=>
  obtain⟨hp,h⟩:=Bb h;cases h;exact⟨σ t,rfl,TL hm.sl hp⟩
 |cell a t=>
  simp only[jv]at h;split at h
  ·rename_i i p' hsl;split at h
   ·rename_i T v0 hi;split at h
    ·rename_i u hu;obtain⟨hk,h⟩:=Bb h;cases h;have hs1:=Tg (t:=a) hm.sl;rw[hsl]at hs1;obtain⟨md,b,h1,h2,h3⟩:=BS hs1;obtain⟨b',cells,h4,h5⟩:=hm.box hi;rw[h4]at h1;cases h1;cases h2;obtain⟨c1,c2,c3,e,h6,h7⟩:=fS hu h5;have hok:=Tc hk;obtain⟨d,hd,ha⟩:=hok.agg;have hlen:=h7.len;cases hA:p.isA with
     |true=>
      refine⟨.agg c2.toArray,ZF.cells hr (hr.Kz h4) ⟨d,hd,ha.trans hA⟩ hok.size h3 ?_ hlen,by unfold Jj;rw[hA];exact⟨c2,rfl,h7⟩⟩;rw[e,<-h6,<-hlen];exact sV rfl
     |false=>
      rw[hok.one hA]at hlen
      match c2,hlen with
      |[u],_=>exact⟨u,ZF.cell hr (hr.Kz h4) ⟨d,hd,ha.trans hA⟩ h3 (by rw[e,<-h6];simp),by unfold Jj;rw[hA];exact h7⟩
    ·cases h
   ·cases h
  ·cases h
theorem vV(hr:Rel Z s σs A L σ w):∀{vs:List ResultVar} {ps:List PV},xL P s vs=some ps->∃us,mM P σ w vs us/\Fc (λb=>A b/\Z.R b) w L ps us
 |[],ps,h=>by simp only[xL,DV]at h;subst h;exact⟨[],trivial,rfl⟩
 |v::vs,ps,h=>by
  simp only[xL]at h;split at h
  ·rename_i p ps' hp hps;cases h;obtain⟨u,h1,h2⟩:=Af1 hr hp;obtain⟨us,h3,h4⟩:=vV hr hps;exact⟨u::us,⟨h1,h3⟩,u,us,rfl,h2,h4⟩
  ·cases h
theorem jO:∀{as:List PV} {vs:List Value} {m:Nat} {f:Nat->Value},Fc B w L as vs-> (∀i v,vs[i]? =some v->f (m+i)=v)->∀p∈GM m as,Ld B w L f p.1 p.2
 |[],vs,m,f,_,_,p,hp=>by simp[GM]at hp
 |a::as,vs,m,f,⟨v,vs',e,h1,h2⟩,hf,p,hp=>by
  subst e;simp only[GM]at hp;rcases List.mem_cons.1 hp with rfl|hp
  ·obtain⟨k1,k2⟩:=Mc (show Jj B w L a v from h1);refine(Ld.iff k1).2 ?_;have:=hf 0 v rfl;rw[U_]at this;rw[this];exact k2
  ·exact jO h2 (λi v hi=>by have:=hf (i+1) v (by simpa using hi);rw[<-this];congr 1;omega) p hp
theorem Akp{vs:List Value}{i:Nat}{v:Value}(h:vs[i]? =some v):C9 vs i=v:=by simp[C9,J3,h]
theorem Fc.length:∀{as:List PV} {vs:List Value},Fc B w L as vs->vs.length=as.length
 |[],vs,h=>by rw[show vs=[]from h];rfl
 |a::as,vs,⟨v,vs',e,h1,h2⟩=>by rw[e,R8,Fc.length h2];rfl
theorem Apu{f:Nat}{an:An}:∀{ans:List (Nat×An)},bB.S8 ans f=some an->∃a,(f,a)∈ans
 |[],h=>by simp[bB.S8]at h
 |(g,a)::ans,h=>by
  simp only[bB.S8]at h;cases hb:Nat.beq g f with
  |true=>have:=Df hb;subst this;exact⟨a, .head _⟩
  |false=>rw[hb]at h;obtain⟨a',h1⟩:=Apu h;exact⟨a', .tail _ h1⟩
theorem qK(YK:P.follows .mixedOrders=true)(hT:gE P T){ans:List (Nat×An)}(hA:∀p∈ans,Ent P p.1):∀(q:Nat),aY (R:=R) P T.gl (bB P T q ans)
 |0=>λZ hZ f as s k r σs A L σ w vs h hr ha=>by cases h
 |q+1=>λZ hZ f as s k r σs A L σ w vs h hr ha=>by
  have hI:=qK YK hT hA q;unfold bB at h;split at h
  ·rename_i an fn han hfn;obtain⟨a,hmem⟩:=Apu han;split at h
   ·cases h
   ·rename_i c hc;obtain⟨hle,h⟩:=Bb h;refine⟨hA _ hmem,?_⟩;have hr1:Rel Z ⟨GM 0 as,s.it,s.sl::s.st⟩ (σ::σs) A L (C9 vs) w:=
     Rel.as hr (i:=1) rfl ⟨hr.mem.it,jO ha (λi v hi=>by rw[T9];exact Akp hi),hr.mem.sl,hr.mem.stk⟩ rfl
    refine Abg (rs:=fn.results.toList) hfn hc rfl CH (by rw[ha.length];exact hle) (W.mono (xY YK ⟨hT,hZ⟩ hI c h hr1) ?_);rintro e σ' w' ⟨s',A',L',h1,hr'⟩;have fin:bB.a! P fn.results.toList k s'=some r->∃us,mM P σ' w' fn.results.toList us/\∃v p s'' A'' L'',Ending.returned (SI us)= .returned v/\k s'' p=some r/\Rel Z s'' σs A'' L'' σ w'/\p.isV=true/\Gi (λb=>A'' b/\Z.R b) w' L'' p v:=by
     intro h1;unfold bB.a! at h1;split at h1
     ·rename_i ps sl st hps hst;obtain⟨us,h2,h3⟩:=vV hr' hps;obtain⟨h4,h5⟩:=I? h3;have mI:=hr'.mem.stk;rw[hst]at mI;exact⟨us,h2,_,_,_,A',L',rfl,h1,Rel.as hr' (i:=1) rfl ⟨hr'.mem.it,mI.1,mI.2⟩ rfl,h4,h5⟩
     ·cases h1
    cases e with
    |normal=>exact⟨.inr rfl,fin h1⟩
    |ret=>exact⟨.inl rfl,fin h1⟩
    |exit id=>cases h1
    |goto l=>cases h1
    |panic c=>cases h1
    |outgrown=>cases h1
  ·cases h
end Go.Rx
namespace Go.Rx
open Go Go.Lv
variable{e:ET}{fn:Func}{o:Option TypeId}
variable {P:Program} {B B':Reg} {w w':World} {L L':List MD} {s:S} {σs:List Env} {σ:Env} {Z:Fix} {A A':Reg} {n:Nat} {ops:Array Oper}
variable {R:Type} {r:R} {T:Tab} {inl:wz R}
abbrev LS:=List (ET×Option TypeId)
def Jc:LS->List PV->Nat->List Nat
 |p::r,v::vs,c=>match p.2 with
  |none=>Jc r vs c
  |some _=>(match v with| .own i=>i|_=>c)::Jc r vs (c+1)
 |_,_,_=>[]
def aB:LS->List MD
 |p::r=>match p.2 with
  |none=>aB r
  |some E=>(match p.1 with| .list a=> .own a.size E (.slice none 0 0) []|_=> .dead)::aB r
 |[]=>[]
theorem Ajp(h:Dv w A (L.map MD.Kz)):∀(ls:LS),Dv w A ((L++aB ls).map MD.Kz):=by
 have one:∀(m:MD) (ms:List MD),m.Kz.holds none w->Dv w A ((L++ms).map MD.Kz)->Dv w A ((L++m::ms).map MD.Kz):=by
  intro m ms hm h;have:Dv w A (m.Kz::(L++ms).map MD.Kz):=⟨none,hm,λb hb=>(by cases hb),h.HP λb hb=>hb.elim id (λh=>by cases h)⟩;refine this.perm ?_;rw[WN,WN,T!];exact(List.perm_middle).symm
 intro ls
 induction ls with
 |nil=>simpa [aB]using h
 |cons p ls ih=>
  obtain⟨e,o⟩:=p;cases o with
  |none=>exact ih
  |some E=>cases e<;>exact one _ _ (by first|exact J8|exact⟨none,0,0,rfl,CH,N! _,λ_=>rfl,λ_=>rfl,λb h=>by cases h⟩) ih
theorem nT:∀{ls:LS} {vs:List PV} {seen:List Nat} {c:Nat},bD s ls vs seen=true->s.it.length<=c->distinct (Jc ls vs c)=true/\∀i∈Jc ls vs c,(i<s.it.length/\i∉seen)\/c<=i
 |[],[],_,_,_,_=>⟨rfl,by simp[Jc]⟩
 |[],_::_,_,_,h,_=>by simp[bD]at h
 |_::_,[],_,_,h,_=>by simp[bD]at h
 |(e,none)::ls,v::vs,seen,c,h,hc=>by
  simp only[bD,DG]at h;exact nT (ls:=ls) (vs:=vs) (seen:=seen) (c:=c) h.2 hc
 |(e,some E)::ls,v::vs,seen,c,h,hc=>by
  simp only[bD]at h;split at h
  ·obtain⟨h1,h2⟩:=nT h (c:=c+1) F0;refine⟨?_,λi hi=>?_⟩
   ·simp only[Jc,distinct,DG,S4];refine⟨?_,h1⟩;cases hx:BZ c (Jc ls vs (c+1))with
    |false=>rfl
    |true=>rcases h2 c (ES.1 hx)with⟨h3,_⟩|h3<;>omega
   ·simp only[Jc,Y!]at hi;rcases hi with rfl|hi
    ·exact .inr (N! _)
    ·rcases h2 i hi with h3|h3
     ·exact .inl h3
     ·exact .inr F0
  ·rename_i a i;simp only[DG,S4]at h;obtain⟨⟨h0,hit⟩,h⟩:=h;have hlt:i<s.it.length:=by
    split at hit
    ·rename_i E' a' l hi;exact(List.getElem?_eq_some_iff.1 (rR hi (by intro e;cases e))).1
    ·cases hit
   obtain⟨h1,h2⟩:=nT h (c:=c+1) F0;refine⟨?_,λj hj=>?_⟩
   ·simp only[Jc,distinct,DG,S4];refine⟨?_,h1⟩;cases hx:BZ i (Jc ls vs (c+1))with
    |false=>rfl
    |true=>
     rcases h2 i (ES.1 hx)with⟨_,h3⟩|h3
     ·exact absurd (TR) h3
     ·omega
   ·simp only[Jc,Y!]at hj;rcases hj with rfl|hj
    ·exact .inl ⟨hlt,λhm=>by have:=ES.2 hm;rw[h0]at this;cases this⟩
    ·rcases h2 j hj with⟨h3,h4⟩|h3
     ·exact .inl ⟨h3,λhm=>h4 (RK _ hm)⟩
     ·exact .inr F0
  ·cases h
theorem Amr{q:PV}{x:e.T}(hr:Rel Z s σs A L σ w)(h:mK s e q=some x)(ho:owns q=[])(hb:e.R3=true->∀b,A b/\Z.R b->B' b){L':List MD}:gM (λb=>A b/\Z.R b) w L B' w L' q (.val e x):=by
 obtain⟨h1,h2⟩:=As4 (L':=L') hr h (B':=λb=>A b/\Z.R b) (λ_ h=>h) (λi hi=>by rw[ho]at hi;cases hi);refine⟨h1,λcs hcs=>?_⟩;have h3:Be (λb=>A b/\Z.R b) w e x cs:=h2 cs hcs;cases hl:e.R3 with
 |true=>exact Be.step (hb hl) (λ_ _=>rfl) h3
 |false=>exact Be.noL hl h3
theorem Amw{l:List e.T}{cs:List Value}(hb:e.R3=true->∀b,B b->B' b)(h:Cs (Be B w e) l cs):Cs (Be B' w e) l cs:=by
 cases hl:e.R3 with
 |true=>exact h.mono λx c hx=>Be.step (hb hl) (λ_ _=>rfl) hx
 |false=>exact h.mono λx c hx=>Be.noL hl hx
theorem N1(hr:Rel Z s σs A L σ w){LP:List MD}(hP:∀(i:Nat) (m:MD),L[i]? =some m->LP[i]? =some m):∀(ls:LS) (vs:List PV) (y:RP ls) (seen:List Nat) (c:Nat) (s0:S) (Lx LF:List MD),
  bD s ls vs seen=true->UK s ls vs=some y-> (∀p∈ls,kD p=true->∀b,A b/\Z.R b->B' b)-> (∀i m,(aB ls)[i]? =some m->LP[c+i]? =some m)->Lx.length=s0.it.length->LF=Lx++(Jc ls vs c).map (λi=>LP.getD i .dead)->
  ∃its,(Gl ls y s0).2=⟨s0.sl,s0.it++its,s0.st⟩/\its.length=(Jc ls vs c).length/\All2 (gM (λb=>A b/\Z.R b) w L B' w LF) vs (Gl ls y s0).1/\
   ∀(i:Nat) (a:Item) (m:MD),its[i]? =some a-> ((Jc ls vs c).map (λi=>LP.getD i .dead))[i]? =some m->CC B' w LF a m
 |[],vs,y,seen,c,s0,Lx,LF,ho,hp,_,_,_,_=>by
  rw[Aky hp];refine⟨[],?_,rfl,All2.nil,λi a m h=>by simp at h⟩;rw[E5];simp
 |p::ls,vs,y,seen,c,s0,Lx,LF,ho,hp,hb,hn,hlen,x? =>by
  have main:∀(v:PV) (vs':List PV) (x:p.1.T) (rest:S->List PV×S),vs=v::vs'->mK s p.1 v=some x->
    (Gl (p::ls) y s0=((Gd p.1 p.2 x s0).1::(rest (Gd p.1 p.2 x s0).2).1,(rest (Gd p.1 p.2 x s0).2).2))->
    (∀(seen:List Nat) (c:Nat) (s1:S) (Lx:List MD),bD s ls vs' seen=true-> (∀i m,(aB ls)[i]? =some m->LP[c+i]? =some m)->Lx.length=s1.it.length->LF=Lx++(Jc ls vs' c).map (λi=>LP.getD i .dead)->
     ∃its,(rest s1).2=⟨s1.sl,s1.it++its,s1.st⟩/\its.length=(Jc ls vs' c).length/\All2 (gM (λb=>A b/\Z.R b) w L B' w LF) vs' (rest s1).1/\
      ∀(i:Nat) (a:Item) (m:MD),its[i]? =some a-> ((Jc ls vs' c).map (λi=>LP.getD i .dead))[i]? =some m->CC B' w LF a m)->
    ∃its,(Gl (p::ls) y s0).2=⟨s0.sl,s0.it++its,s0.st⟩/\its.length=(Jc (p::ls) vs c).length/\All2 (gM (λb=>A b/\Z.R b) w L B' w LF) vs (Gl (p::ls) y s0).1/\
     ∀(i:Nat) (a:Item) (m:MD),its[i]? =some a-> ((Jc (p::ls) vs c).map (λi=>LP.getD i .dead))[i]? =some m->CC B' w LF a m:=by
   intro v vs' x rest hvs hx hu hrest;subst hvs;rw[hu];have hbp:=hb p (.head _);obtain⟨e,o⟩:=p;cases o with
   |none=>
    simp only[bD,DG]at ho;have e1:Gd e none x s0=(.val e x,s0):=sG;simp only[e1];obtain⟨its,h1,h2,h3,h4⟩:=hrest seen c s0 Lx ho.2 hn hlen x?;refine⟨its,h1,h2, .cons (Amr hr hx (isEmpty_nil ho.1) (λhl=>hbp ?_)) h3,h4⟩;cases e<;>first|exact hl|cases hl
   |some E=>
    simp only[bD]at ho;split at ho
    ·
     rename_i a;have hx':x=[]:=by
      have:elems s a .nils=some x:=hx;simpa [elems]using this.symm
     subst hx';have hc:LP[c]? =some (.own a.size E (.slice none 0 0) []):=hn 0 _ rfl;have e1:Gd (.list a) (some E) [] s0=(.own s0.new,s0.add (.arr E a [])):=rfl;simp only[e1];obtain⟨its,h1,h2,h3,h4⟩:=hrest seen (c+1) (s0.add (.arr E a [])) (Lx++[.own a.size E (.slice none 0 0) []]) ho (λi m hi=>by rw[RU,VQ 1 i];exact hn (i+1) m (by simpa [aB]using hi))
      (by simp[S.add,hlen]) (by rw[x?];simp[Jc,J3,hc])
     refine⟨.arr E a []::its,by rw[h1];simp[S.add],by simp[Jc,h2], .cons ⟨rfl,λcs hcs=>?_⟩ h3,λi b m hi hm=>?_⟩
     ·refine⟨a.size,E, .slice none 0 0,[],?_,hcs⟩;rw[x?,S.new,<-hlen];simp[Jc,J3,hc]
     ·cases i with
      |zero=>
       simp[Jc,J3,hc]at hi hm;subst hi hm;exact⟨rfl,rfl,rfl⟩
      |succ i=>exact h4 i b m (by simpa using hi) (by simpa [Jc]using hm)
    ·
     rename_i a i;simp only[DG,S4]at ho;obtain⟨⟨h0,hit⟩,ho⟩:=ho;split at hit
     ·rename_i E' a' l hi;simp only[DG,E3]at hit;obtain⟨hE,rfl⟩:=hit;have:=Df hE;subst this;obtain⟨u,cs0,g1,g2⟩:=hr.mem.arr hi;have hx':x=l:=by
       have:elems s a' (.own i)=some x:=hx;simp[elems,hi]at this;exact this.symm
      subst hx';have hc:LP[i]? =some (.own a'.size E' u cs0):=hP i _ g1;have e1:Gd (.list a') (some E') x s0=(.own s0.new,s0.add (.arr E' a' x)):=rfl;simp only[e1];obtain⟨its,h1,h2,h3,h4⟩:=hrest (i::seen) (c+1) (s0.add (.arr E' a' x)) (Lx++[.own a'.size E' u cs0]) ho (λi m hi=>by rw[RU,VQ 1 i];exact hn (i+1) m (by simpa [aB]using hi))
       (by simp[S.add,hlen]) (by rw[x?];simp[Jc,J3,hc])
      refine⟨.arr E' a' x::its,by rw[h1];simp[S.add],by simp[Jc,h2], .cons ⟨rfl,λcs hcs=>?_⟩ h3,λq b m hq hm=>?_⟩
      ·obtain⟨z,E2,v2,c2,k1,k2⟩:=hcs;rw[g1]at k1;cases k1;refine⟨a'.size,E',u,cs0,?_,k2⟩;rw[x?,S.new,<-hlen];simp[Jc,J3,hc]
      ·cases q with
       |zero=>
        simp[Jc,J3,hc]at hq hm;subst hq hm;exact⟨rfl,rfl,Amw hbp g2⟩
       |succ q=>exact h4 q b m (by simpa using hq) (by simpa [Jc]using hm)
     ·cases hit
    ·cases ho
  cases ls with
  |nil=>
   obtain⟨v,rfl,hx⟩:=A! hp;exact main v [] y (λs1=>([],s1)) rfl hx (dJ p y s0) (λseen c s1 Lx _ _ hlen x? =>⟨[],CH,rfl,All2.nil,λi a m h=>by simp at h⟩)
  |cons q r=>
   obtain⟨v,vs',x,y',rfl,rfl,hx,hy⟩:=Als hp;exact main v vs' x (λs1=>Gl (q::r) y' s1) rfl hx (XH p q r x y' s0)
    (λseen c s1 Lx ho hn hlen x? =>N1 hr hP (q::r) vs' y' seen c s1 Lx LF ho hy (λp hp=>hb p (.tail _ hp)) hn hlen x?)
theorem DP{e:ET}{x:e.T}{cs:List Value}(h:Be B w e x cs):Be (λb=>b<w.heap.size/\B b) w e x cs:=
 match e,x,h with
 | .int _,_,h=>h
 | .bool,_,h=>h
 | .str,_,h=>h
 | .list _,_,⟨v,c0,h1,h2,h3⟩=>⟨v,c0,h1,h2.start,h3.mono λ_ _ h=>DP h⟩
 | .vec _ _,_,⟨h1,h2⟩=>⟨h1,h2.mono λ_ _ h=>DP h⟩
 | .cons _ _,_,⟨c1,c2,e,h1,h2⟩=>⟨c1,c2,e,DP h1,DP h2⟩
 | .nil,_,h=>h
def Cg:PV->Bool
 | .val _ _=>true
 | .own _=>true
 | .agg l=>go l
 |_=>false
where go:List PV->Bool
 |[]=>true
 |a::r=>Cg a&&go r
mutual
theorem Aew:∀{p:PV} {cs:List Value},Cg p=true->Bl B w L p cs->Bl (λb=>b<w.heap.size/\B b) w L p cs
 | .val e x,cs,_,h=>DP (show Be B w e x cs from h)
 | .own i,cs,_,h=>h
 | .agg l,cs,hv,h=>P1 hv (show Bl.go B w L l cs from h)
 | .tup _,_,hv,_=>by cases hv
 | .nils,_,hv,_=>by cases hv
 | .ptr _ _,_,hv,_=>by cases hv
 | .view _ _ _ _ _ _,_,hv,_=>by cases hv
 | .rptr _,_,hv,_=>by cases hv
 | .fn _ _,_,hv,_=>by cases hv
 | .cap _ _ _,_,hv,_=>by cases hv
 | .mp _ _,_,hv,_=>by cases hv
 | .bfn _ _,_,hv,_=>by cases hv
 | .cst _,_,hv,_=>by cases hv
 | .any,_,hv,_=>by cases hv
 | .gd _ _ _,_,hv,_=>by cases hv
 | .off,_,hv,_=>by cases hv
 | .undef,_,hv,_=>by cases hv
theorem P1:∀{l:List PV} {cs:List Value},Cg.go l=true->Bl.go B w L l cs->Bl.go (λb=>b<w.heap.size/\B b) w L l cs
 |[],cs,_,h=>h
 |a::l,cs,hv,⟨c1,c2,e,h1,h2⟩=>by
  simp only[Cg.go,DG]at hv;exact⟨c1,c2,e,Aew hv.1 h1,P1 hv.2 h2⟩
end
theorem D0:∀{l:List PV} {vs:List Value},Cg.go l=true->Fc B w L l vs->Fc (λb=>b<w.heap.size/\B b) w L l vs
 |[],vs,_,h=>h
 |a::l,vs,hv,⟨v,vs',e,h1,h2⟩=>by
  simp only[Cg.go,DG]at hv;exact⟨v,vs',e,h1.mono λc h=>Aew hv.1 h,D0 hv.2 h2⟩
theorem Awh{x:e.T}{s0:S}:Cg (Gd e o x s0).1=true:=by
 unfold Gd;split<;>rfl
theorem Auk{x:e.T}{s0:S}(h:∀a∈s0.it,∃E e' l,a= .arr E e' l):∀a∈(Gd e o x s0).2.it,∃E e' l,a= .arr E e' l:=by
 unfold Gd;split
 ·intro a ha;simp only[S.add,e?,hH]at ha;rcases ha with ha|ha
  ·exact h a ha
  ·exact⟨_,_,_,ha⟩
 ·exact h
theorem R4:∀(ls:LS) (x:RP ls) (s0:S),Cg.go (Gl ls x s0).1=true
 |[],x,s0=>rfl
 |[p],x,s0=>by
  rw[dJ];have h1:Cg (Gd p.1 p.2 x s0).1=true:=Awh;simp only[Cg.go,h1];rfl
 |p::q::r,(x,y),s0=>by
  rw[XH];have h1:Cg (Gd p.1 p.2 x s0).1=true:=Awh;simp only[Cg.go,h1,R4 (q::r) y _];rfl
theorem Abd:∀(ls:LS) (x:RP ls) (s0:S),(∀a∈s0.it,∃E e' l,a= .arr E e' l)->∀a∈(Gl ls x s0).2.it,∃E e' l,a= .arr E e' l
 |[],x,s0,h=>h
 |[p],x,s0,h=>by rw[dJ];exact Auk h
 |p::q::r,(x,y),s0,h=>by rw[XH];exact Abd (q::r) y _ (Auk h)
mutual
theorem Af4:∀{sh:Sh} {vs r:List PV} {u:PV},Ut sh vs=some (u,r)->Cg.go vs=true->Cg u=true/\Cg.go r=true
 | .lf e o,v::vs,r,u,h,hv=>by
  simp only[Ut,DV,G_]at h;obtain⟨rfl,rfl⟩:=h;simpa [Cg.go]using hv
 | .lf e o,[],r,u,h,hv=>by simp[Ut]at h
 | .agg l,vs,r,u,h,hv=>by
  simp only[Ut]at h;split at h
  ·rename_i us r' h1;cases h;exact rI h1 hv
  ·cases h
theorem rI:∀{l:List Sh} {vs r us:List PV},Ut.go l vs=some (us,r)->Cg.go vs=true->Cg.go us=true/\Cg.go r=true
 |[],vs,r,us,h,hv=>by
  simp only[Ut.go,DV,G_]at h;obtain⟨rfl,rfl⟩:=h;exact⟨rfl,hv⟩
 |a::l,vs,r,us,h,hv=>by
  simp only[Ut.go]at h;split at h
  ·rename_i u vs' h1;split at h
   ·rename_i us' vs'' h2;cases h;obtain⟨g1,g2⟩:=Af4 h1 hv;obtain⟨g3,g4⟩:=rI h2 g2;exact⟨by simp[Cg.go,g1,g3],g4⟩
   ·cases h
  ·cases h
end
theorem Alv{rs:List Sh}{p:ET×Option TypeId}(hp:p∈AZ rs)(h:kD p=true):gQ rs=true:=by
 unfold gQ;exact List.any_eq_true.2 ⟨p,hp,h⟩
theorem At0{f:Nat}{ps rs:List Sh}{F:RP (AZ ps)->Option (RP (AZ rs))}{RUN:S->Option (RP (AZ rs))}(hE:Ent P f)
  (hrun:∀x y pvs,args ps x=some pvs->F x=some y->RUN ⟨GM 0 pvs,s? ps x,[]⟩=some y)
  (Asi:∀(Z:Fix) (A:Reg) (L:List MD) (w:World) (s:S) (y:RP (AZ rs)) (vs:List Value) (Q:Ending->World->Prop),Z.gl=T.gl->Rel Z s [] A L (C9 vs) w->vs.length=ps.length->RUN s=some y->
   (∀s' A' L' σ' w',ql P rs fn.results.toList s'=some y->Rel Z s' [] A' L' σ' w'->∃us,mM P σ' w' fn.results.toList us/\Q (.returned (SI us)) w')->Calls P f vs.toArray w Q):ConOk P T.gl f ⟨ps,rs,F⟩:=by
 refine⟨hE,λR N w L0 vs pvs x y hx Aur gS Aus hvs hgl hy=>?_⟩;have hx':args ps x=some pvs:=hx;have hy':=hrun x y pvs hx' hy
 ·let Z:Fix:=⟨λb=>((R b/\N b)\/∃p∈T.gl,p.1=b)\/ ¬N b\/w.heap.size<=b,λb=>¬N b,w,λb hb=> .inr (.inr hb),λb hb=> .inr (.inl hb),T.gl,λp hp=>⟨.inl (.inr ⟨p,hp,rfl⟩),λh=>h (hgl p hp).2.1,(hgl p hp).1,(hgl p hp).2.2⟩⟩
  have hval:Cg.go pvs=true:=by
   unfold args kF at hx';split at hx'
   ·rename_i us hs;cases hx';exact(rI hs (R4 _ _ _)).1
   ·cases hx'
  have Avz:Fc (λb=>(b<w.heap.size/\N b)/\Z.R b) w L0 pvs vs:=Fc.step (λb hb=>⟨⟨hb.1,hb.2.2⟩, .inl (.inl hb.2)⟩) (λ_ _=>rfl) (.refl L0) (D0 hval hvs);have hst:St (λb=>b<w.heap.size/\N b) w [.old Z.M Z.w0] (L0.map MD.Kz):=by
   refine⟨λb hb=>hb.1,λf hf=>?_,Aus.HP λb hb=>hb.2⟩;cases hf with
   |head=>exact⟨.refl _,λb hb hM=>⟨⟨hb,Classical.not_not.1 hM⟩,rfl⟩⟩
   |tail _ h=>cases h
  have hr:Rel Z ⟨GM 0 pvs,s? ps x,[]⟩ [] (λb=>b<w.heap.size/\N b) L0 (C9 vs) w:=
   Rel.as (L:=L0) hst (i:=0) rfl ⟨⟨Aur,λi a m h1 h2=>by
    have h3:=gS i a m h1 h2;obtain⟨E,e',l,rfl⟩:=Abd (AZ ps) x ⟨[],[],[]⟩ CH a (Xy h1);cases m with
    |dead=>exact h3
    |box _ _ _=>exact h3
    |own z E2 v2 c2=>exact⟨h3.1,h3.2.1,h3.2.2.mono λx c h=>Be.step (λb hb=>⟨⟨hb.1,hb.2.2⟩, .inl (.inl hb.2)⟩) (λ_ _=>rfl) (DP h)⟩⟩,
    jO Avz (λi v hi=>by rw[T9];exact Akp hi),trivial⟩ rfl
  have hlen:vs.length=pvs.length:=hvs.length;have hpl:pvs.length=ps.length:=by
   unfold args kF at hx';split at hx'
   ·rename_i us hs;cases hx';have key:∀(l:List Sh) (vs r us:List PV),Ut.go l vs=some (us,r)->us.length=l.length:=by
     intro l
     induction l with
     |nil=>intro vs r us h;simp only[Ut.go,DV,G_]at h;obtain⟨rfl,_⟩:=h;rfl
     |cons a l ih=>
      intro vs r us h;simp only[Ut.go]at h;split at h
      ·split at h
       ·rename_i h2;cases h;simp[ih _ _ _ h2]
       ·cases h
      ·cases h
    exact key _ _ _ _ hs
   ·cases hx'
  refine Asi Z _ _ w _ y vs _ rfl hr (hlen.trans hpl) hy' ?_;intro s' A' L' σ' w' h1 hr';have fin:ql P rs fn.results.toList s'=some y->∃us,mM P σ' w' fn.results.toList us/\∃us',Ending.returned (SI us)= .returned (SI us')/\x! T.gl R N w w' rs y us':=by
   intro h1;unfold ql at h1;split at h1
   ·cases h1
   ·rename_i ls0 zL;split at h1
    ·cases h1
    ·rename_i s1 hs1;obtain⟨A1,L1,hr1,_⟩:=Tj hr' hs1;split at h1
     ·rename_i ls hls;obtain⟨ho,h1⟩:=Bb h1;unfold lY at hls;split at hls
      ·rename_i vs1 Av0;obtain⟨us,hus,huv⟩:=vV hr1 Av0;refine⟨us,hus,us,rfl,?_⟩;have hold:=hr1.fact 1 (f:= .old Z.M Z.w0) rfl;have hA:∀b,b<w.heap.size->N b->A1 b:=λb hb hN=>(hold.2 b hb (λh=>h hN)).1;have hkeep:KeepN N w w':=⟨λb hb hN=>(hold.2 b hb (λh=>h hN)).2,hold.1⟩;have oV:=Ajp (St.mobs hr1) (AZ rs);obtain⟨hd,hidx⟩:=nT (s:=s1) (c:=L1.length) ho (by rw[hr1.len];exact N! _);refine⟨hkeep,λb=>A1 b/\ (¬N b\/w.heap.size<=b),(Jc (AZ rs) ls L1.length).map (λi=>(L1++aB (AZ rs)).getD i .dead),λb hb=>⟨hb.2,St.lt hr1 b hb.1⟩,?_,?_⟩
       ·refine(Adg oV hd).HP ?_;rintro b (hb|hb)
        ·exact hb.1
        ·exact hA b hb.1 hb.2
       ·intro s0 L0 B' hL0 hB1 hB2;obtain⟨its,g1,g2,g3,g4⟩:=N1 hr1 (B':=B') (LP:=L1++aB (AZ rs)) (λi m hi=>by rw[RM (List.getElem?_eq_some_iff.1 hi).1];exact hi) (AZ rs) ls y [] L1.length s0 L0 _ ho h1
         (λp hp hl b hb=>by
          rcases hb.2 with hR|hN
          ·exact hB2 (Alv hp hl) b hR
          ·exact hB1 b ⟨hb.1,hN⟩)
         (λi m hi=>by rw[TJ F0,aK];exact hi) hL0 rfl
        obtain⟨ps',g5,g6⟩:=Ats hls huv g3;exact⟨ps',its,g1,g5,g6,by rw[g2];simp,g4⟩
      ·cases hls
     ·cases h1
  obtain⟨us,k1,us',k2,k3⟩:=fin h1;exact⟨us,k1,us',k2,k3⟩
theorem Aaj(YK:P.follows .mixedOrders=true){f:Nat}{ans:List (Nat×An)}{an:An}{ps rs:List Sh}{F:RP (AZ ps)->Option (RP (AZ rs))}(hf:P.funcs[f]? =some fn)(hE:Ent P f)(hT:gE P T)(hA:∀p∈ans,Ent P p.1)
  (hle:Nat.ble ps.length fn.ntmps=true) (h:∀x,run P T ans fn an ps rs x=F x):ConOk P T.gl f ⟨ps,rs,F⟩:=by
 cases hc:fn.body with
 |none=>
  refine At0 (RUN:=λ_=>none) (fn:=fn) hE (λx y pvs hx hy=>?_) (λ_ _ _ _ _ _ _ _ _ _ _ h=>by cases h);rw[<-h x]at hy;unfold run at hy;rw[hc]at hy;exact hy
 |some c=>
  refine At0 (T:=T) (fn:=fn) (RUN:=ex P T (bB P T 8 ans) fn.ntmps c an {n:=ql P rs fn.results.toList,x:=λ_ _=>none,r:=ql P rs fn.results.toList}) hE (λx y pvs hx hy=>?_) ?_
  ·rw[<-h x]at hy;unfold run at hy;rw[hc,hx]at hy;exact hy
  ·intro Z A L w s y vs Q hZ hr hl hy fin;refine Abg (rs:=fn.results.toList) hf hc rfl CH (by rw[hl];exact hle) (W.mono (xY YK ⟨hT,hZ⟩ (qK YK hT hA 8) c hy hr) ?_);rintro e σ' w' ⟨s',A',L',h1,hr'⟩;cases e with
   |normal=>exact⟨.inr rfl,fin s' A' L' σ' w' h1 hr'⟩
   |ret=>exact⟨.inl rfl,fin s' A' L' σ' w' h1 hr'⟩
   |exit id=>cases h1
   |goto l=>cases h1
   |panic c=>cases h1
   |outgrown=>cases h1
end Go.Rx
namespace Go.Rx
open Go Go.Lv
structure Pt (R:Type)where
 q:Nat
 n:Nat
 c:Code
 an:An
 k:K R
inductive PS (R:Type)|l|r|d|lp (kn:S->Option R)|call (i f:Nat)|dcall (i f fuel:Nat) (z listed:Array Bool)
def jX(f:Func):Code:=match f.body with|some c=>c|none=> .skip
variable {R:Type}
noncomputable def Pt.e(P:Program)(T:Tab)(ans:List (Nat×An))(p:Pt R)(s:S):Option R:=match p.c with
 | .loop _=>ex P T (bB P T p.q ans) p.n p.c p.an p.k s
 |_=>hold (λs=>ex P T (bB P T p.q ans) p.n p.c p.an p.k s) s
noncomputable def Pt.it(P:Program)(T:Tab)(ans:List (Nat×An))(p:Pt R)(q:Nat)(s:S):Option R:=match p.c with
 | .loop a=>iter p.an (λkn s'=>ex P T (bB P T p.q ans) p.n a p.an.l {p.k with n:=kn} s') q s
 |_=>none
noncomputable def Pt.step(P:Program)(T:Tab)(ans:List (Nat×An))(p:Pt R):PS R->Pt R
 | .l=>match p.c with
  | .seq a b=>⟨p.q,p.n,a,p.an.l,{p.k with n:=cS p.an λs'=>ex P T (bB P T p.q ans) p.n b p.an.r p.k s'}⟩
  | .cond _ a _=>⟨p.q,p.n,a,p.an.l,p.k⟩
  |_=>p
 | .r=>match p.c with
  | .seq _ b=>⟨p.q,p.n,b,p.an.r,p.k⟩
  | .cond _ _ b=>⟨p.q,p.n,b,p.an.r,p.k⟩
  |_=>p
 | .d=>match p.c with
  | .block id a=>⟨p.q,p.n,a,p.an.l,{p.k with x:=λid' s'=>Dk (Nat.beq id' id) (p.k.n s')<|p.k.x id' s'}⟩
  |_=>p
 | .lp kn=>match p.c with
  | .loop a=>⟨p.q,p.n,a,p.an.l,{p.k with n:=jg p.an kn}⟩
  |_=>p
 | .call i f=>match p.c,p.q,P.funcs[f]?,bB.S8 ans f with
  | .region _ ops false,q+1,some fn,some an=>
   let fin:=bB.a! P fn.results.toList λs v=>e_ P T (zx p.an (bB P T (q+1) ans)) p.n ops (ops.toList.drop (i+1)) (s.Hm ((ops[i]?).bind (·.dst)) v) p.k.n
   ⟨q,fn.ntmps,jX fn,an,{n:=fin,x:=λ_ _=>none,r:=fin}⟩
  |_,_,_,_=>p
 | .dcall i f fuel z listed=>match p.c,p.q,P.funcs[f]?,bB.S8 ans f with
  | .region _ ops true,q+1,some fn,some an=>
   let fin:=bB.a! P fn.results.toList λs v=>XM P T (zx p.an (bB P T (q+1) ans)) p.n (vZ p.an) ops fuel z listed (s.Hm ((ops[i]?).bind (·.dst)) v) p.k.n
   ⟨q,fn.ntmps,jX fn,an,{n:=fin,x:=λ_ _=>none,r:=fin}⟩
  |_,_,_,_=>p
noncomputable def Pt.at(P:Program)(T:Tab)(ans:List (Nat×An)):Pt R->List (PS R)->Pt R
 |p,[]=>p
 |p,x::l=>Pt.at P T ans (p.step P T ans x) l
noncomputable def Pt.root(P:Program)(fn:Func)(an:An)(rs:List Sh):Pt (RP (AZ rs)):=
 ⟨8,fn.ntmps,jX fn,an,{n:=ql P rs fn.results.toList,x:=λ_ _=>none,r:=ql P rs fn.results.toList}⟩
noncomputable def PE(P:Program)(T:Tab)(ans:List (Nat×An))(fn:Func)(an:An)(rs:List Sh)(l:List (PS (RP (AZ rs))))(s:S):Option (RP (AZ rs)):=(Pt.at P T ans (Pt.root P fn an rs) l).e P T ans s
noncomputable def PI(P:Program)(T:Tab)(ans:List (Nat×An))(fn:Func)(an:An)(rs:List Sh)(l:List (PS (RP (AZ rs))))(q:Nat)(s:S):Option (RP (AZ rs)):=(Pt.at P T ans (Pt.root P fn an rs) l).it P T ans q s
theorem Q9(a:Option R):both a [a,a]=a:=by simp[both]
theorem K3(a:Option R):both a [a,a,a]=a:=by simp[both]
end Go.Rx
namespace Go.Rx
open Go Go.Lv
variable{vw cp:Bool}{g:Nat}{P:Program}
theorem ConOk.mono{P:Program}{gl gl':List (Nat×List Value)}{f:Nat}{c:Con}(h:ConOk P gl f c)(hs:gl.Sublist gl'):ConOk P gl' f c:=by
 refine⟨h.ent,λR N w L0 vs ps x y h1 h2 h3 h4 h5 h6 h7=>(h.ok R N w L0 vs ps x y h1 h2 h3 h4 h5 (λp hp=>h6 p (hs.subset hp)) h7).mono ?_⟩;rintro e w' ⟨us,he,hk,A1,L1,g1,g2,g3⟩;exact⟨us,he,hk,A1,L1,g1,g2,λs L B' k1 k2 k3=>g3 s L B' k1 k2 λhr b hb=>k3 hr b (hb.imp id λ⟨p,hp,he⟩=>⟨p,hs.subset hp,he⟩)⟩
theorem gE.nil{gl:List (Nat×List Value)}:gE P ⟨[],gl,vw,cp⟩:=λf c h=>by cases h
theorem gE.cons{c:Con}{r:List (Nat×Con)}{gl:List (Nat×List Value)}(h:ConOk P gl g c)(hr:gE P ⟨r,gl,vw,cp⟩):gE P ⟨(g,c)::r,gl,vw,cp⟩:=λf c' h'=>by
 simp only[Tab.get,lQ]at h';cases hb:Nat.beq g f with
 |true=>
  rw[hb]at h';have:=Df hb;subst this;cases h';exact h
 |false=>rw[hb]at h';exact hr f c' h'
theorem Aut.nil:∀p∈([]:List (Nat×An)),Ent P p.1:=by simp
theorem Aut.cons{a:An}{r:List (Nat×An)}(h:Ent P g)(hr:∀p∈r,Ent P p.1):∀p∈(g,a)::r,Ent P p.1:=by
 intro p hp;rcases List.mem_cons.1 hp with rfl|hp
 ·exact h
 ·exact hr p hp
end Go.Rx
namespace Go.Rx
variable {R α:Type}
theorem Ky{a b c:Option R}(h:a=c)(h1:b=c):both a [b]=c:=by subst h;subst h1;exact vN _
theorem Kr{a b d c:Option R}(h:a=c)(h1:b=c)(h2:d=c):both a [b,d]=c:=by subst h;subst h1;subst h2;exact Q9 _
theorem La{a b d e c:Option R}(h:a=c)(h1:b=c)(h2:d=c)(h3:e=c):both a [b,d,e]=c:=by subst h;subst h1;subst h2;subst h3;exact K3 _
theorem Pj{l:List α}{a b c:Option R}(h:l=[]->a=c)(h1:b=c):C5 l a b=c:=by subst h1;exact Apb h
theorem Pa{o:Option α}{f g:α->Option R}(h:∀x,f x=g x):Option.bind o f=Option.bind o g:=by rw[funext h]
theorem Fq{o:Option α}{f:α->Option R}{t:Option R}(h:o=none->none=t)(h1:∀x,o=some x->f x=t):Option.bind o f=t:=by
 cases o with
 |none=>exact h rfl
 |some x=>exact h1 x rfl
theorem Pg(f:α->Option R):Option.bind none f=none:=rfl
theorem Ec(x:α)(f:α->Option R):Option.bind (some x) f=f x:=rfl
theorem Ea(o:Option α):Option.bind o (λ_=>(none:Option R))=none:=by cases o<;>rfl
theorem Vt{c:Prop} [Decidable c]{a b a' b':Option R}(h:c->a=a')(h1:¬c->b=b'):(if c then a else b)=if c then a' else b':=by
 by_cases hc:c
 ·rw[CD hc,CD hc];exact h hc
 ·rw[B! hc,B! hc];exact h1 hc
theorem Hv{c:Prop} [Decidable c]{a b t:Option R}(h:c->a=t)(h1:¬c->b=t):(if c then a else b)=t:=by
 by_cases hc:c
 ·rw[CD hc];exact h hc
 ·rw[B! hc];exact h1 hc
abbrev vi(x:Int):PV:= .val (.int .i64) x
abbrev vc(x:UInt8):PV:= .val (.int .u8) x
abbrev vu(x:UInt32):PV:= .val (.int .u32) x
abbrev vq(x:UInt64):PV:= .val (.int .u64) x
abbrev vx(x:Int32):PV:= .val (.int .i32) x
abbrev vt(x:Bool):PV:= .val .bool x
abbrev vs(x:List UInt8):PV:= .val .str x
abbrev vb(x:List UInt8):PV:= .val (.list (.int .u8)) x
abbrev vl(x:List Int):PV:= .val (.list (.int .i64)) x
abbrev vw(x:List Int32):PV:= .val (.list (.int .i32)) x
abbrev vv(x:List UInt32):PV:= .val (.list (.int .u32)) x
end Go.Rx
namespace Go.Rx
open Go Go.Lv
variable{f:Nat}{P:Program}
structure Hd where
 p:List Sh
 r:List Sh
 a:An
 T:Tab
 s:List (Nat×An)
 f:Func
noncomputable def Hd.e(P:Program)(H:Hd):List (PS (RP (AZ H.r)))->S->Option (RP (AZ H.r)):=PE P H.T H.s H.f H.a H.r
noncomputable def Hd.i(P:Program)(H:Hd):List (PS (RP (AZ H.r)))->Nat->S->Option (RP (AZ H.r)):=PI P H.T H.s H.f H.a H.r
noncomputable def Hd.u(P:Program)(H:Hd)(x:RP (AZ H.p)):Option (RP (AZ H.r)):=run P H.T H.s H.f H.a H.p H.r x
def okH(H:Hd):Bool:=(!(H.f.name== "runtime.NumGoroutine")&&H.f.body.isSome)&&Nat.ble H.p.length H.f.ntmps
theorem Hd.con(hM:P.follows .mixedOrders=true)(H:Hd){F:RP (AZ H.p)->Option (RP (AZ H.r))}(hf:P.funcs[f]? =some H.f)(hT:gE P H.T)(hA:∀p∈H.s,Ent P p.1)
  (hb:okH H=true) (h:∀x,H.u P x=F x):ConOk P H.T.gl f ⟨H.p,H.r,F⟩:=by
 simp only[okH,DG,S4]at hb;obtain⟨c,hc⟩:=Option.isSome_iff_exists.1 hb.1.2;exact Aaj (T:=H.T) hM hf (Ent.mk hf hb.1.1 hc) hT hA hb.2 h
def lJ(P:Program)(f:Nat):Bool:=match P.funcs[f]? with|some fn=>!(fn.name== "runtime.NumGoroutine")&&fn.body.isSome|none=>false
theorem Arq(h:lJ P f=true):Ent P f:=by
 unfold lJ at h;split at h
 ·rename_i fn hf;simp only[DG,S4]at h;obtain⟨c,hc⟩:=Option.isSome_iff_exists.1 h.2;exact Ent.mk hf h.1 hc
 ·cases h
def okA(P:Program)(H:Hd):Bool:=(H.s.all λp=>lJ P p.1)&&okH H
theorem Hd.cn(hM:P.follows .mixedOrders=true)(H:Hd){F:RP (AZ H.p)->Option (RP (AZ H.r))}(hf:P.funcs[f]? =some H.f)(hT:gE P H.T)
  (hb:okA P H=true) (h:∀x,H.u P x=F x):ConOk P H.T.gl f ⟨H.p,H.r,F⟩:=by
 simp only[okA,DG,iB]at hb;exact Hd.con hM H hf hT (λp hp=>Arq (hb.1 p hp)) hb.2 h
abbrev Kc(P:Program)(gl:List (Nat×List Value)):={p:Nat×Con//ConOk P gl p.1 p.2}
def yL{P:Program}{gl:List (Nat×List Value)}(l:List (Kc P gl))(v c:Bool):Tab:=⟨l.map (·.1),gl,v,c⟩
theorem tO{P:Program}{gl:List (Nat×List Value)}:∀(l:List (Kc P gl)) (v c:Bool),gE P (yL l v c)
 |[],_,_=> .nil
 |a::l,v,c=> .cons a.2 (tO l v c)
theorem ind{p:Nat->Prop}(h:p 0)(hs:∀q,p q->p (q+1)):∀q,p q:=λq=>Nat.rec h hs q
variable {R α:Type}
noncomputable abbrev bo(a:Option R):Option R:=both a [a]
noncomputable abbrev bo2(a:Option R):Option R:=both a [a,a]
theorem RZ(a:Option R):both a [a]=a:=vN a
theorem AH(a:Option R):both a [a,a]=a:=Q9 a
theorem BB(a:Option R):both a [a,a,a]=a:=K3 a
abbrev Si:Sh:= .lf (.int .i64) none
abbrev Sc:Sh:= .lf (.int .u8) none
abbrev Su:Sh:= .lf (.int .u32) none
abbrev Sq:Sh:= .lf (.int .u64) none
abbrev Sx:Sh:= .lf (.int .i32) none
abbrev Sz:Sh:= .lf .bool none
abbrev Ss:Sh:= .lf .str none
abbrev Sb:Sh:= .lf (.list (.int .u8)) none
abbrev Sl:Sh:= .lf (.list (.int .i64)) none
abbrev Sw:Sh:= .lf (.list (.int .i32)) none
abbrev Sv:Sh:= .lf (.list (.int .u32)) none
abbrev Ob(e:Nat):Sh:= .lf (.list (.int .u8)) (some e)
abbrev Ol(e:Nat):Sh:= .lf (.list (.int .i64)) (some e)
abbrev Ow(e:Nat):Sh:= .lf (.list (.int .i32)) (some e)
abbrev Ov(e:Nat):Sh:= .lf (.list (.int .u32)) (some e)
abbrev Ai(e:Nat)(l:List Int):Item:= .arr e (.int .i64) l
abbrev Ab(e:Nat)(l:List UInt8):Item:= .arr e (.int .u8) l
abbrev Aw(e:Nat)(l:List Int32):Item:= .arr e (.int .i32) l
abbrev Av(e:Nat)(l:List UInt32):Item:= .arr e (.int .u32) l
abbrev An.q(a:An):An:= .seq .d a
end Go.Rx
namespace Go.Rx
open Go Go.Lv Go.RowKit
variable{k:Kd}{cs vs:List Value}{B:Reg}{v:Value}{w:World}
variable {P:Program}
theorem NW{B:Reg}{w:World}{k:Kd}:∀(l:List k.T),Cs (Be B w (.int k)) l (Go.Lv.JB (k:=k.k) l)
 |[]=>rfl
 |x::l=>⟨[iv (T:=k.T) (k:=k.k) x],Go.Lv.JB (k:=k.k) l,rfl,rfl,NW l⟩
theorem Rd.HP{A:Reg}{s:Nat}(h:Rd A w s v cs)(ha:∀b,A b->B b):Rd B w s v cs:=h.step ha λ_ _=>rfl
theorem enc_row{l:List k.T}(h:Rd (λ_=>True) w 1 v (Go.Lv.JB (k:=k.k) l)):Jj (λ_=>True/\True) w [] (.val (.list (.int k)) l) v:=
 ⟨v,_,rfl,Rd.HP h λ_ _=>⟨trivial,trivial⟩,NW l⟩
theorem enc_iv(x:k.T):Jj (λ_=>True/\True) w [] (.val (.int k) x) (iv (T:=k.T) (k:=k.k) x):=rfl
theorem enc_str(s:List UInt8):Jj (λ_=>True/\True) w [] (.val .str s) (sv s):=rfl
theorem string_sv(a:ByteArray):∃l,(.string a:Value)=sv l:=⟨a.data.toList,by cases a;rfl⟩
theorem encs_nil:Fc B w [] [] []:=rfl
theorem encs_cons{p:PV}{ps:List PV}(h:Jj B w [] p v)(hs:Fc B w [] ps vs):Fc B w [] (p::ps) (v::vs):=⟨v,vs,rfl,h,hs⟩
theorem row_true{gl:List (Nat×List Value)}{f:Nat}{ps:List Sh}{F:RP (AZ ps)->Option Bool}(hC:ConOk P gl f ⟨ps,[.lf .bool none],F⟩){x:RP (AZ ps)}{pvs:List PV}(ha:args ps x=some pvs)(hi:s? ps x=[])
  (hv:Fc (λ_=>True/\True) w [] pvs vs) (hg:GlOk gl (λ_=>True) w) (hF:F x=some true):Calls P f vs.toArray w λe w'=>e= .returned (.bool true)/\Below w.heap.size w w':=by
 refine(hC.ok (λ_=>True) (λ_=>True) w [] vs pvs x true ha (by rw[hi];rfl) (λi a m h=>by rw[hi]at h;simp at h) trivial hv hg hF).mono ?_;rintro e w' ⟨us,rfl,hk,A1,L1,g1,g2,g3⟩;obtain⟨qs,its,k1,k2,k3,k4,k5⟩:=g3 ⟨[],[],[]⟩ [] (λ_=>True) rfl (λ_ _=>trivial) (λ_ _ _=>trivial);refine⟨?_,⟨hk.gr.os,hk.gr.tape,hk.gr.output,hk.gr.le,λb hb=>hk.same b hb trivial⟩⟩;obtain rfl:=YX (show some [PV.val .bool true]=some qs from k2);obtain⟨_,_,rfl,e1,rfl⟩:=k3;cases(show [_]=[Value.bool true]from e1);rfl
theorem laid_ints{H:Type}{enc:TypeId×Value->H}{fuel:Nat}{t e n:Nat}{k:IntKind}{zs:List Int}{p:List MemPlace}(hu:P.underlying t=some (.array n e))(he:P.underlying e=some (.int k))(hc:P.cellsOf e=1)(ht:P.cellsOf t=n)
  (h:DataW.trod enc P w 0 (λ_=>true) false fuel t cs=some (.agg (zs.map λz=> .lit (.int k z)),p)):cs=zs.map λz=>Value.int k z:=by
 obtain⟨xs,m,rfl,hx,hlen,hn,hel⟩:=DataW.trod_array hu h;simp only[G_,DataW.agg.injEq]at hx;rw[ht]at hlen;have hz:zs.length=n:=by
  have:=congrArg List.length hx.1;simpa [hn]using this
 apply bE;intro i;by_cases hi:i<n
 ·have h0:=hel i hi;rw[hc,Nat.mul_one]at h0;have hxi:xs[i]? =some xs[i]:=RR F0;rw[hxi]at h0;obtain⟨q,e1,e2,_⟩:=DataW.trod_int he h0;have e3:(cs.drop i).take 1=[cs[i]' F0]:=by
   rw[zW F0];rfl
  rw[e3]at e1;have e4:(xs.map (·.1))[i]? =(zs.map λz=>(DataW.lit (.int k z):DataW H))[i]? :=by rw[<-hx.1]
  rw[X4,X4,hxi,RR F0,e2]at e4;simp only[YW,DV,DataW.lit.injEq,Lit.int.injEq,Z0]at e4;rw[X4,RR F0,RR F0];simp only[bL,VX]at e1;rw[e1,e4];rfl
 ·rw[Xq F0,Xq F7]
theorem glOk_cons{n:String}{g:Nat}{cs:Array Value}{l:List Value}{gl:List (Nat×List Value)}(hg:P.globalNamed n=some g)(hv:w.var? P n=some cs)(hl:cs.toList=l)(h:GlOk gl (λ_=>True) w):GlOk ((g,l)::gl) (λ_=>True) w:=by
 intro p hp;rcases List.mem_cons.1 hp with rfl|hp
 ·simp only[World.var?,hg,Option.bind_some]at hv;split at hv
  ·rename_i cs' T fr hh;cases hv;refine⟨(Array.getElem?_eq_some_iff.1 hh).1,trivial,T,fr,?_⟩;rw[hh,<-hl]
  ·cases hv
 ·exact h p hp
theorem glOk_nil{N:Reg}:GlOk [] N w:=λp hp=>by simp at hp
end Go.Rx
namespace Go.Rx
open Go Go.Lv Go.RowKit Go.ChangeShapes Go.WideShapes
variable{cs:List Value}{fuel:Nat}{H:Type}{t:TypeId}{w:World}
variable {P:Program}
theorem laid_bool_int{enc:TypeId×Value->H}{f0 f1:Field}{k:IntKind}{b:Bool}{z:Int}{p:List MemPlace}(hu:P.underlying t=some (.struct #[f0,f1]))
  (h0:P.underlying f0.type=some .bool) (h1:P.underlying f1.type=some (.int k)) (o0:f0.offset=0) (o1:f1.offset=1) (c0:P.cellsOf f0.type=1) (c1:P.cellsOf f1.type=1) (ct:P.cellsOf t=2)
  (h:DataW.trod enc P w 0 (λ_=>true) false fuel t cs=some (.agg [.lit (.bool b), .lit (.int k z)],p)):cs=[.bool b, .int k z]:=by
 obtain⟨xs,m,rfl,hx,hlen,hn,hel⟩:=DataW.trod_struct hu h;rw[ct]at hlen
 match cs,hlen with
 |[a,c],_=>
  match xs,hn with
  |[y0,y1],_=>
   simp only[G_,DataW.agg.injEq,T!,bP,bL,VX]at hx;have e0:=hel 0 f0 rfl;have e1:=hel 1 f1 rfl;rw[o0,c0]at e0;rw[o1,c1]at e1;obtain⟨b',q0,r0⟩:=DataW.trod_bool h0 e0;obtain⟨z',q1,r1,_⟩:=DataW.trod_int h1 e1;simp at q0 q1;rw[r0,r1]at hx;simp at hx;rw[q0,q1,hx.1.1,hx.1.2]
theorem fld{enc:TypeId×Value->H}{base:Nat}{spare:Nat->Bool}{held:Bool}{fs:Array Field}{x:DataW H×List MemPlace}(ht:P.underlying t=some (.struct fs))(h:DataW.trod enc P w base spare held fuel t cs=some x)
  (i:Nat) {ft:TypeId} {off k:Nat} {part:List Value} (hf:(fs[i]?).map (λf=>(f.type,f.offset))=some (ft,off)) (hc:P.cellsOf ft=k) (hd:(cs.drop off).take k=part):∃n y,DataW.trod enc P w base spare held n ft part=some y:=by
 obtain⟨xs,n,_,_,_,hn,hel⟩:=DataW.trod_struct ht h;cases hi:fs[i]? with
 |none=>rw[hi]at hf;cases hf
 |some f=>
  rw[hi]at hf;cases hf;have g:=hel i f hi;rw[hc,hd,RR (by rw[hn];exact(Array.getElem?_eq_some_iff.1 hi).1)]at g;exact⟨n,_,g⟩
end Go.Rx
namespace Go.Rx
open Go Go.Lv Go.RowKit Go.ChangeShapes Go.WideShapes
variable {P:Program}
end Go.Rx
