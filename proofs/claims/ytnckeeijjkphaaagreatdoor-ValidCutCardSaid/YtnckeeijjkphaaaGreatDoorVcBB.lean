/- A part of a proof (see the text that ends in Proof). No conditions. -/
import Derived.Test.YtnckeeijjkphaaaGreatDoorVcBA
import Derived.ProofKit
import Derived.LaidMore
import Derived.DataReads
import Derived.RangeFuncNested
import Derived.RangeFuncLeaves
import Derived.LoopIn
set_option linter.unusedVariables false
set_option linter.unusedSimpArgs false
namespace Go.Rx
open Go Go.Lv
variable {P:Program} {w w':World} {L L':List MD} {s:S} {σs:List Env} {σ:Env} {Z:Fix} {A A':Reg} {n:Nat} {ops:Array Oper} {rest:List Oper} {K:Env->World->Prop}
variable {R:Type} {k:S->Option R} {r:R} {d:Option Nat} {ty:TypeId} {pos:String} {after:Array Edge}
theorem WL.Adm{o:Oper}{v:Value}{w':World}(hg:o.guard=none)(hdn:Jt n o=true)
  (hx:(execOp (ev σ) o).run P w= .ok (.value v) w') (h:WL P n ops rest K (Ail σ o.dst v) w'):WL P n ops (o::rest) K σ w:=by
 intro ds a ha;refine wpList_plain hg λK' hK'=>?_;unfold Oper.wp;rw[ha.eval,hx];refine hK' _ _ ?_;cases hd:o.dst with
 |none=>rw[hd]at h;exact h _ _ (ha.zV v)
 |some d=>
  rw[hd]at h;unfold Jt at hdn;rw[hd]at hdn;exact h _ _ (ha.put hdn v)
def J2(Z:Fix)(σs:List Env)(k:S->Option R)(r:R)(G:Prop)(A:Reg)(L:List MD)(it:List Item)(w:World)(σ':Env)(w':World):Prop:=
 ∃s' A' L',k s'=some r/\Rel Z s' σs A' L' σ' w'/\ (G->Grow A L it w A' L' s'.it w')
abbrev AY(P:Program)(n:Nat)(ops:Array Oper)(o:Oper)(Z:Fix)(s:S)(σs:List Env)(k:S->Option R)(r:R)(G:Prop)(A:Reg)(L:List MD)(σ:Env)(w:World):Prop:=
 WL P n ops [o] (J2 Z σs k r G A L s.it w) σ w
theorem Ds{o:Op}{p:PV}{val:Value}{G:Prop}(hr:Rel Z s σs A L σ w)(hd:Jt n ⟨d,o,ty,pos,after,none⟩=true)(hx:XO P σ w o val)(hv:p.isV=true)(h:Ef (λb=>A b/\Z.R b) w L p val)
  (hk:k (s.Gm d p)=some r):AY P n ops ⟨d,o,ty,pos,after,none⟩ Z s σs k r G A L σ w:=by
 refine WL.Adm rfl hd (hx _ _ _ _ _) (WL.nil ⟨_,A,L,hk,hr.Gm hv h,λ_=>?_⟩);have:(s.Gm d p).it=s.it:=by cases d<;>rfl
 rw[this];exact .refl
theorem IK{p:PV}{j:Int}{v:Value}{B:Reg}(h:bY p=some j)(hv:Ef B w L p v):∃q,v= .int q j:=by
 unfold bY at h;split at h
 ·rename_i e x;split at h
  ·cases h;exact⟨_,RO hv⟩
  ·cases h
 ·cases h
theorem TC{p:PV}{j:Int}(h:bY p=some j):p.isV=true:=by unfold bY at h;split at h;rfl;cases h
theorem xL{p:PV}{j:Int}{v:Value}{B:Reg}(h:asInt p=some j)(hv:Ef B w L p v):v=iv j:=by
 unfold asInt at h;split at h
 ·rename_i e x;split at h
  ·rename_i q y;split at h
   ·cases h;exact RO hv
   ·cases h
  ·cases h
 ·cases h
theorem X4{p:PV}{j:Int}(h:asInt p=some j):p.isV=true:=by unfold asInt at h;split at h;rfl;cases h
theorem Kw{o:Option Operand}{dflt j:Int}{B:Reg}(hm:Fv B w L σ s.sl)(h:UJ s.sl o dflt=some j):(∃q,o.map (ev σ)=some (.int q j))\/ (o=none/\j=dflt):=by
 unfold UJ at h;split at h
 ·cases h;exact .inr ⟨rfl,rfl⟩
 ·rename_i x;obtain⟨q,hq⟩:=IK h (Qs hm x (TC h));exact .inl ⟨q,by rw[Azk,hq]⟩
theorem X.Akj{t:TypeId}{x ix:Operand}{l:List UInt8}{j:Int}{q:IntKind}{y:UInt8}(ht:P.underlying t=some .string)(hx:ev σ x=sv l)(hi:ev σ ix= .int q j)(hg:Aj l j=some y):
  XO P σ w (.index t x ix) (iv y):=λ_ _ _ _ _=>by
 obtain⟨h1,h2,h3⟩:=Iz hg;have h4:=run_index_string (P:=P) w t ⟨l.toArray⟩ q j ht;have h5:0<=j/\j<(⟨l.toArray⟩:ByteArray).size:=by simp[ByteArray.size];omega
 rw[dif_pos h5]at h4;have h6:(⟨l.toArray⟩:ByteArray)[j.toNat]'(by simp[ByteArray.size];omega)=y:=by
  have e1:l[j.toNat]=y:=by rw[List.getElem?_eq_getElem h2]at h3;simpa using h3
  rw[<-e1];rfl
 simp only[execOp,hx,hi,Aj3,h4,Ab3,Aph,Ae7];rw[h6]
theorem Ao2{t et:TypeId}{m:Nat}{e:ET}{x ix:Operand}{l:List e.T}{j:Int}{q:IntKind}{y:e.T}{cs:List Value}{B:Reg}(ht:P.underlying t=some (.array m et))(hsz:Ic P et e.size)
  (hag:∃u,P.underlying et=some u/\Aio u=(e.pv y).isA) (h1:(e.pv y).isA=false->e.size=1) (hlen:l.length=m)
  (hx:ev σ x= .agg cs.toArray) (hl:Bq (Ap B w e) l cs) (hi:ev σ ix= .int q j) (hg:Aj l j=some y):∃val,XO P σ w (.index t x ix) val/\Gl B w L (e.pv y) val:=by
 obtain⟨h3,h4,h5⟩:=Iz hg;obtain⟨c1,c2,c3,he,h6,h7,_⟩:=Bq.get (λx c h=>Ap.len h) hl h5;have h8:0<=j/\j<(m:Int):=by omega
 obtain⟨u,hu,ha⟩:=hag;have hc2:=h7.len;cases hA:(e.pv y).isA with
 |true=>
  refine⟨.agg c2.toArray,λ_ _ _ _ _=>?_,by unfold Gl;rw[hA];exact⟨c2,rfl,VL.2 h7⟩⟩;have e1:(cs.drop (j.toNat*e.size)).take e.size=c2:=by rw[he,<-h6,<-hc2];simp
  simp[execOp,hx,hi,Instr.index,asIntOf,Afc ht,h8,Bk hsz,asAgg,part,Ev hu (ha.trans hA),e1]
 |false=>
  rw[h1 hA]at hc2
  match c2,hc2 with
  |[v],_=>
   refine⟨v,λ_ _ _ _ _=>?_,by unfold Gl;rw[hA];exact VL.2 h7⟩;have e1:cs[j.toNat*e.size]? =some v:=by rw[he,<-h6];simp
   simp[execOp,hx,hi,Instr.index,asIntOf,Afc ht,h8,Bk hsz,asAgg,part,Ev hu (ha.trans hA),e1]
theorem Sf{t et:TypeId}{b o len cap z:Nat}{j:Int}{q:IntKind}{x ix:Operand}(ht:P.underlying t=some (.slice et))(hsz:Ic P et z)(hx:ev σ x= .slice (some ⟨b,o,none⟩) len cap)(hi:ev σ ix= .int q j)
  (h0:0<=j) (h1:j<len) (w:World):XO P σ w (.indexAddr t x ix) (.pointer (some ⟨b,o+j.toNat*z,none⟩)):=λ_ _ _ _ _=>by
 simp only[execOp,hx,hi,Instr.indexAt,Aj3,asIntOf,Aph,Ab3,Afc ht,h0,h1,and_self,Az3,Bk hsz,Mm]
theorem VF{t et:TypeId}{b o m z:Nat}{j:Int}{q:IntKind}{x ix:Operand}(ht:P.underlying t=some (.array m et))(hsz:Ic P et z)(hx:ev σ x= .pointer (some ⟨b,o,none⟩))(hi:ev σ ix= .int q j)
  (h0:0<=j) (h1:j<m) (w:World):XO P σ w (.indexAddr t x ix) (.pointer (some ⟨b,o+j.toNat*z,none⟩)):=λ_ _ _ _ _=>by
 simp only[execOp,hx,hi,Instr.indexAt,Instr.sureAddr,Aj3,asIntOf,Aph,Ab3,Afc ht,h0,h1,and_self,Az3,Bk hsz,Mm]
theorem Ey{t:TypeId}{i:TypeInfo}{z:Nat}(h:P.info? t=some i)(hz:Nat.beq i.size z=true):Ic P t z:=⟨i,h,Ce hz⟩
theorem Rel.base(hr:Rel Z s σs A L σ w){i z:Nat}{E:TypeId}{v:Value}{cs:List Value}(h:L[i]? =some (.own z E v cs))(hne:0<cs.length):∃b len cap,v= .slice (some ⟨b,0,none⟩) len cap/\cs.length=len*z:=by
 obtain⟨b,m,c,hv,_⟩:=St.dx hr (hr.Ia h) hne;obtain⟨p,len,cap,h1,h2,_⟩:=hr.Tc h;subst hv;cases h1;exact⟨b,m,c,rfl,h2⟩
theorem aS(st:Step):∀(p:List Step),As (p++[st])=As p+jS st
 |[]=>by simp[As]
 |a::p=>by simp[As,aS st p,Auz]
theorem Ab9{t:TypeId}{x ix:Operand}{G:Prop}(hr:Rel Z s σs A L σ w)(hd:Jt n ⟨d, .indexAddr t x ix,ty,pos,after,none⟩=true)(h:sD P s d t x ix k=some r):
  AY P n ops ⟨d, .indexAddr t x ix,ty,pos,after,none⟩ Z s σs k r G A L σ w:=by
 have hm:=hr.mem;unfold sD at h;split at h
 ·cases h
 ·rename_i j hj;obtain⟨q,hix⟩:=IK hj (Qs hm.sl ix (TC hj));split at h
  ·rename_i et ht;split at h
   ·cases h
   ·rename_i inf Ua;split at h
    ·rename_i e0 l0 hx;split at h
     ·rename_i e l;obtain⟨hb,h⟩:=Ay h;simp only[Abz]at hb;obtain⟨y,hy,h⟩:=bind_some h;obtain⟨hj0,hj1,hj2⟩:=Iz hy;obtain⟨c0,h1,h2⟩:=Zp (Cu hm.sl hx rfl);obtain⟨p,len,cap,h3,h4,h5,h6,h7⟩:=h1;have hlen:=h2.len λx c h=>Ap.len h;have hz:0<e.size:=by have:=Au4 hb.2;omega
      have hl:len=l.length:=Aoj hz (h4.symm.trans hlen);subst hl;obtain⟨b,off,arr,T,fr,rfl,hB,hbl,hcap,hc⟩:=h7 (by omega);obtain⟨c1,c2,c3,he,h8,h9,_⟩:=Bq.get (λx c h=>Ap.len h) h2 hj2;have h10:c2.length=e.size:=h9.len;have h11:(j.toNat+1)*e.size<=l.length*e.size:=Ab4 _ hj1;rw[Aza]at h11;have hp:S5 (λb=>A b/\Z.R b) w (.pointer (some ⟨b,off+j.toNat*e.size,none⟩)) c2:=by
       refine⟨b,off+j.toNat*e.size,arr,T,fr,rfl,hB,hbl,λq hq=>?_⟩;rw[Auz,hc _ (by omega),he,List.getElem?_append_right (by omega),h8,show j.toNat*e.size+q-j.toNat*e.size=q by omega,List.getElem?_append_left hq]
      have hvr:Ef (λb=>A b/\Z.R b) w L (.rptr (e.pv y)) (.pointer (some ⟨b,off+j.toNat*e.size,none⟩)):=⟨_,c2,rfl,hp,VL.2 h9⟩;exact Ds hr hd (Sf ht (Ey Ua hb.1) h3 hix (by omega) (by omega) w) rfl hvr h
     ·cases h
    ·rename_i i hx;split at h
     ·rename_i E e l hi;obtain⟨hb,h⟩:=Ay h;simp only[Abz]at hb;obtain⟨y,hy,h⟩:=bind_some h;obtain⟨hj0,hj1,hj2⟩:=Iz hy;obtain⟨v,cs,h1,h2⟩:=hm.arr hi;obtain⟨z',E',c',h3⟩:=KK (Cu hm.sl hx rfl);rw[h1]at h3;cases h3;have hlen:=h2.len λx c h=>Ap.len h;have hz:0<e.size:=by have:=Au4 hb.2;omega
      have hpos:0<cs.length:=by rw[hlen];exact Nat.mul_pos (by omega) hz
      obtain⟨b,len,cap,h4,h5⟩:=hr.base h1 hpos;have hl:len=l.length:=Aoj hz (h5.symm.trans hlen);subst hl;have:=Sf ht (Ey Ua hb.1) h4 hix (by omega) (by omega) w;refine Ds hr hd this rfl ?_ h;rw[show(0:Nat)+j.toNat*e.size=As [.idx j e.size] by simp[As,jS]];refine JZ h1 ?_;rw[h4];rfl
     ·cases h
    ·rename_i o i p e lo n' hx;obtain⟨hb,h⟩:=Ay h;simp only[Abz]at hb;obtain⟨_,hok,h⟩:=bind_some h;have hj':0<=j/\j<n':=Ay1 (Xx hok);obtain⟨md,v1,h3,h4,k1,k2,⟨pt,cap,k3,k4,k5,k6⟩,_⟩:=Cu hm.sl hx rfl;have h6:ev σ x=v1:=by simpa using h4
     obtain⟨b,e1,rfl⟩:=k6 (by omega);have:=Sf ht (Ey Ua hb.1) (h6.trans k3) hix hj'.1 (by omega) w;refine Ds hr hd this rfl ?_ h;rw[show As p+lo.toNat*e.size+j.toNat*e.size=As (p++[.idx (lo+j) e.size]) by
      rw[aS,Auz,<-Aux]
      show _=As p+(lo+j).toNat*e.size;rw[Int.toNat_add k1 hj'.1]]
     exact JZ h3 e1
    ·cases h
  ·rename_i m et ht;split at h
   ·cases h
   ·rename_i inf Ua;split at h
    ·rename_i i p hx;split at h
     ·rename_i T v hi;split at h
      ·rename_i e0 l0 hg;split at h
       ·rename_i m' e l;obtain⟨hb,h⟩:=Ay h;simp only[Abz]at hb;obtain⟨y,hy,h⟩:=bind_some h;obtain⟨hj0,hj1,hj2⟩:=Iz hy;obtain⟨b,cells,h1,h2⟩:=hm.box hi;obtain⟨c1,c2,c3,he,h3,h4⟩:=bR hg h2;obtain⟨md,b',h5,h6,h7⟩:=Xm (Cu hm.sl hx rfl);rw[h1]at h5;cases h5;cases h6;have hl:l.length=m:=(show l.length=m'/\ _ from h4).1.trans (Ce hb.2);have:=VF ht (Ey Ua hb.1.1) h7 hix (by omega) (by omega) w;refine Ds hr hd this rfl ?_ h;rw[show As p+j.toNat*e.size=As (p++[.idx j e.size]) by simp[RM,As,jS]];exact JZ h1 rfl
       ·cases h
      ·cases h
     ·cases h
    ·cases h
  ·cases h
def MD.cells:MD->List Value| .box _ c _=>c| .own _ _ _ c=>c| .dead=>[]
theorem Rel.cells(hr:Rel Z s σs A L σ w){i b:Nat}{md:MD}(h:L[i]? =some md)(hb:md.base=some b):∀j,j<md.cells.length->w.cell? ⟨b,j,none⟩=md.cells[j]? :=by
 intro j hj;cases md with
 |dead=>cases hb
 |box b' cells T=>cases hb;rw[cell_of (St.box hr (hr.Ia h))];simp[MD.cells]
 |own z E v cells=>
  obtain⟨b',m,c,hv,hs'⟩:=St.dx hr (hr.Ia h) (by simp[MD.cells]at hj;omega);subst hv;cases hb;obtain⟨o,rfl,h2⟩:=Ct.mem (A:=A) hs'.mobs (i:=i) (m:= .at_ b z E m c cells) (by rw[List.getElem?_set_self (by simpa using(List.getElem?_eq_some_iff.1 h).1)]);obtain⟨_,len,cap,e,h3,_,_,_,h6⟩:=h2;obtain⟨arr,fr,_,hb,_,_,hc⟩:=h6 b rfl;rw[cell_of hb];exact hc j (by rw[<-h3];exact hj)
theorem fH{t:TypeId}{u:PV}{x:Operand}{c2:List Value}{b off:Nat}{B:Reg}(h:OkLoad P t u)(hu:Ba B w L u c2)
  (hx:ev σ x= .pointer (some ⟨b,off,none⟩)):∃val,Gl B w L u val/\∀w':World,(∀j,j<c2.length->w'.cell? ⟨b,off+j,none⟩=c2[j]?)->XO P σ w' (.load t x) val:=by
 obtain⟨d,hd,ha⟩:=h.agg;have hlen:=hu.len;cases hA:u.isA with
 |true=>
  refine⟨.agg c2.toArray,by unfold Gl;rw[hA];exact⟨c2,rfl,hu⟩,λw' hc _ _ _ _ _=>?_⟩;have h1:=Lh (P:=P) (w:=w') (b:=b) (off:=off) c2 hc;rw[hlen]at h1;simp only[execOp,hx,Instr.loadAt,Instr.sureAddr,Aj3,Aph,Ab3,loadVar,Ev hd (ha.trans hA),Az3,Bk h.size,h1]
 |false=>
  have h1:=h.one hA;rw[h1]at hlen
  match c2,hlen with
  |[v],_=>
   refine⟨v,by unfold Gl;rw[hA];exact hu,λw' hc _ _ _ _ _=>?_⟩;have h2:w'.cell? ⟨b,off,none⟩=some v:=by simpa using hc 0 (by simp)
   simp only[execOp,hx,Instr.loadAt,Instr.sureAddr,Aj3,Aph,Ab3,loadVar,Ev hd (ha.trans hA),Ao4,Axj,HU h2]
theorem H3{t:TypeId}{u:PV}{x:Operand}{c2:List Value}{b off:Nat}{B:Reg}(h:OkLoad P t u)(hu:Ba B w L u c2)(hc:∀j,j<c2.length->w.cell? ⟨b,off+j,none⟩=c2[j]?)
  (hx:ev σ x= .pointer (some ⟨b,off,none⟩)):∃val,Gl B w L u val/\XO P σ w (.load t x) val:=by
 obtain⟨val,h1,h2⟩:=fH (P:=P) (σ:=σ) h hu hx;exact⟨val,h1,h2 w hc⟩
def At1:Item->MD->Prop| .box T _,md=>∃b c,md= .box b c T| .arr E e _,md=>∃v c,md= .own e.size E v c| .dead,_=>False
def Xh(off:Nat)(ns:List Value):MD->MD->Prop
 | .box b c T,md'=>md'= .box b (Bb c off ns) T
 | .own z E v c,md'=>md'= .own z E v (Bb c off ns)
 | .dead,_=>False
theorem MemR.root{B:Reg}(hm:MemR B w L s σs σ){i:Nat}{md:MD}(h:L[i]? =some md)(hd:Cb s.it i≠ .dead):mL B w L (Cb s.it i) md.cells/\At1 (Cb s.it i) md:=by
 obtain⟨md',h1,h2⟩:=hm.item rfl hd;rw[h]at h1;cases h1
 revert h2 hd
 cases Cb s.it i with
 |dead=>intro hd _;exact absurd rfl hd
 |box T v=>
  intro _ h2;cases md with
  |box b c T'=>obtain⟨rfl,h3⟩:=h2;exact⟨h3,b,c,rfl⟩
  |_=>exact h2.elim
 |arr E e l=>
  intro _ h2;cases md with
  |own z E' v c=>obtain⟨rfl,rfl,h3⟩:=h2;exact⟨h3,v,c,rfl⟩
  |_=>exact h2.elim
theorem Ara{t:TypeId}{x:Operand}{G:Prop}(hr:Rel Z s σs A L σ w)(hd:Jt n ⟨d, .load t x,ty,pos,after,none⟩=true)(h:Acm P s d t x k=some r):
  AY P n ops ⟨d, .load t x,ty,pos,after,none⟩ Z s σs k r G A L σ w:=by
 have hm:=hr.mem;unfold Acm at h;split at h
 ·rename_i i p hx;obtain⟨md,b,h1,h2,h3⟩:=Xm (Cu hm.sl hx rfl);have hne:Cb s.it i≠ .dead:=by intro e;rw[e]at h;simp[getRoot]at h
  obtain⟨h4,_⟩:=hm.root h1 hne;obtain⟨u,c1,c2,c3,hk,he,h5,h6⟩:=H2 h h4;obtain⟨hb,hk⟩:=Ay hk;have hc:=hr.cells h1 h2;obtain⟨val,h7,h8⟩:=H3 (P:=P) (σ:=σ) (x:=x) (b:=b) (off:=As p) (Qa hb) h6 (λj hj=>by
   rw[hc _ (by rw[he];simp;omega),he,List.getElem?_append_right (by omega),h5,show As p+j-As p=j by omega,List.getElem?_append_left hj]) h3
  obtain⟨hv,hv'⟩:=Jc h7;exact Ds hr hd h8 hv hv' hk
 ·cases h
mutual
theorem Ba.one{B:Reg}:∀{p:PV} {cs:List Value},Ba B w L p cs->L.all (λm=>match m with| .own _ _ v _=>v.oneCell'|_=>true)=true->∀v∈cs,v.oneCell'=true
 | .val e x,cs,h,_,v,hv=>Ap.one (show Ap B w e x cs from h) v hv
 | .agg l,cs,h,hL,v,hv=>Ba.lD (show Ba.go B w L l cs from h) hL v hv
 | .tup _,_,h,_,_,_=>h.elim
 | .nils,cs,h,_,v,hv=>by rw[show cs=_ from h]at hv;simp at hv;subst hv;rfl
 | .own i,cs,⟨z,E,u,c,h1,h2⟩,hL,v,hv=>by
  rw[h2]at hv;simp at hv;subst hv;exact List.all_eq_true.1 hL _ (List.mem_of_getElem? h1)
 | .ptr i p,cs,⟨_,_,_,_,h⟩,_,v,hv=>by rw[h]at hv;simp at hv;subst hv;rfl
 | .rptr q,cs,⟨pv,_,h,⟨_,_,_,_,_,e,_⟩,_⟩,_,v,hv=>by rw[h]at hv;simp at hv;subst hv;rw[e];rfl
 | .fn f caps,cs,⟨_,h,_⟩,_,v,hv=>by rw[h]at hv;simp at hv;subst hv;rfl
 | .cst u,cs,h,_,v,hv=>by rw[show cs=_ from h.1]at hv;simp at hv;subst hv;exact h.2
 | .any,cs,⟨u,h,h'⟩,_,v,hv=>by rw[h]at hv;simp at hv;subst hv;exact h'
 | .view _ _ _ _ _ _,cs,⟨_,u,_,h,_,_,⟨_,_,e,_⟩,_⟩,_,v,hv=>by rw[h]at hv;simp at hv;subst hv;rw[e];rfl
 | .gd _ _ _,_,h,_,_,_=>h.elim
 | .off,_,h,_,_,_=>h.elim
 | .undef,_,h,_,_,_=>h.elim
theorem Ba.lD{B:Reg}:∀{l:List PV} {cs:List Value},Ba.go B w L l cs->L.all (λm=>match m with| .own _ _ v _=>v.oneCell'|_=>true)=true->∀v∈cs,v.oneCell'=true
 |[],cs,h,_,v,hv=>by rw[show cs=[]from h]at hv;simp at hv
 |a::q,cs,⟨c1,c2,e,h1,h2⟩,hL,v,hv=>by
  subst e;rcases List.mem_append.1 hv with hv|hv
  ·exact Ba.one h1 hL v hv
  ·exact Ba.lD h2 hL v hv
end
theorem Rel.lD(hr:Rel Z s σs A L σ w):L.all (λm=>match m with| .own _ _ v _=>v.oneCell'|_=>true)=true:=by
 refine List.all_eq_true.2 λm hm=>?_;obtain⟨i,hi,he⟩:=List.getElem_of_mem hm;cases m with
 |own z E v c=>
  obtain⟨p,len,cap,rfl,_⟩:=hr.Tc (i:=i) (by rw[List.getElem?_eq_getElem hi,he]);rfl
 |_=>rfl
theorem PM{p:PV}{v:Value}{B:Reg}(hr:Rel Z s σs A L σ w)(h:Gl B w L p v):∃cs:List Value,v.cells=cs.toArray/\Ba B w L p cs:=by
 unfold Gl asV at h;split at h
 ·obtain⟨cs,rfl,h⟩:=h;exact⟨cs,rfl,h⟩
 ·refine⟨[v],?_,h⟩;have:=h.one hr.lD v (.head _);cases v<;>first|rfl|cases this
theorem cW.own{i z:Nat}{E:TypeId}{v:Value}{cs cs':List Value}(h:L[i]? =some (.own z E v cs)):cW L (L.set i (.own z E v cs')):=
 cW.set h (λ_ _ _ _ e=>by cases e;exact⟨_,_,_,rfl⟩) (λb hb=>by
  unfold MD.base at hb⊢;split at hb
  ·rename_i e;cases e
  ·rename_i e;cases e;exact hb
  ·cases hb)
theorem cW.box{i b:Nat}{T:TypeId}{cs cs':List Value}(h:L[i]? =some (.box b cs T)):cW L (L.set i (.box b cs' T)):=
 cW.set h (λ_ _ _ _ e=>by cases e) (λb hb=>hb)
theorem Y1{i:Nat}{md:MD}(h:L[i]? =some md):(L.map MD.Ia)[i]? =some md.Ia:=by simp[h]
theorem Aji{t:TypeId}{a x:Operand}{i b off z:Nat}{md:MD}{v:Value}{ns:List Value}{K:Env->World->Prop}{F:List Fact}(hr:St A w F (L.map MD.Ia))(h:L[i]? =some md)(hb:md.base=some b)
  (hsz:Ic P t z) (ha:ev σ a= .pointer (some ⟨b,off,none⟩)) (hx:ev σ x=v) (hv:v.cells=ns.toArray) (hl:ns.length=z) (h1:ns.all (·.oneCell')=true) (hle:off+z<=md.cells.length) (hz:0<z)
  (hK:∀(w':World) (md':MD),St A w' F ((L.map MD.Ia).set i md'.Ia)->Xh off ns md md'->K σ w'):
  WL P n ops [⟨none, .store t a x,ty,pos,after,none⟩] K σ w:=by
 cases md with
 |dead=>cases hb
 |box b' cells T=>
  cases hb;exact WL.Ahs hr (Y1 h) hsz ha hx hv hl h1 (by simpa [Nat.ble_eq,MD.cells]using hle) rfl rfl (λw' hs'=>WL.nil (hK w' (.box b (Bb cells off ns) T) hs' rfl))
 |own z' E u cells=>
  obtain⟨b',m,c,hu,hs'⟩:=St.dx hr (Y1 h) (by simp[MD.cells]at hle;omega);subst hu;cases hb;have hlen:i<(L.map MD.Ia).length:=by simpa using(List.getElem?_eq_some_iff.1 h).1
  have hL1:((L.map MD.Ia).set i (.at_ b z' E m c cells))[i]? =some (.at_ b z' E m c cells):=by rw[List.getElem?_set_self hlen]
  refine WL.Aj5 hs' hL1 hsz ha hx hv hl h1 hle rfl rfl (λw' hs2=>WL.nil ?_);have hs3:=hs2.Avn (i:=i) (b:=b) (s:=z') (m:=m) (c:=c) (E:=E) (cs:=Bb cells off ns) (by rw[List.getElem?_set_self (by simpa using hlen)]);rw[List.set_set,List.set_set]at hs3;exact hK w' (.own z' E (.slice (some ⟨b,0,none⟩) m c) (Bb cells off ns)) hs3 rfl
end Go.Rx
namespace Go.Rx
open Go Go.Lv
variable {P:Program} {B:Reg} {w w':World} {L L':List MD} {s:S} {σs:List Env} {σ:Env} {Z:Fix} {A A':Reg} {n:Nat} {ops:Array Oper} {rest:List Oper} {K:Env->World->Prop}
variable {R:Type} {k:S->Option R} {r:R} {d:Option Nat} {ty:TypeId} {pos:String} {after:Array Edge}
structure Frz (B:Reg) (w:World) (L:List MD) (i:Nat) (m:PV):Prop where
 enc:∀z E v c,L[i]? =some (.own z E v c)->Ba B w (L.set i .dead) m [v]
 isA:m.isA=false
 isV:m.isV=true
theorem M9{i:Nat}{m p:PV}(hm:m.isA=false):(subst i m p).isA=p.isA:=by
 cases p<;>try rfl
 ·rename_i j;simp only[subst];cases hb:Nat.beq i j with
  |true=>exact hm
  |false=>rfl
 ·rename_i j q;simp only[subst];cases hb:Nat.beq i j<;>rfl
 ·rename_i o j q e lo n;simp only[subst];cases hb:Nat.beq i j<;>rfl
theorem iH{i j:Nat}(h:Nat.beq i j=false):(L.set i .dead)[j]? =L[j]? :=by
 rw[List.getElem?_set_ne];intro e;subst e;simp at h
mutual
theorem WZ{i:Nat}{m:PV}(hf:Frz B w L i m):∀{p:PV} {cs:List Value},Ba B w L p cs->Ba B w (L.set i .dead) (subst i m p) cs
 | .val _ x,cs,h=>h
 | .agg q,cs,h=>xW hf (show Ba.go B w L q cs from h)
 | .tup _,_,h=>h.elim
 | .nils,cs,h=>h
 | .own j,cs,⟨z,E,v,c,h1,h2⟩=>by
  simp only[subst];cases hb:Nat.beq i j with
  |true=>
   have:=Ce hb;subst this;rw[h2];exact hf.enc _ _ _ _ h1
  |false=>exact⟨z,E,v,c,by rw[iH hb];exact h1,h2⟩
 | .ptr j q,cs,⟨md,b,h1,h2,h3⟩=>by
  simp only[subst];cases hb:Nat.beq i j with
  |true=>exact⟨_,h3,rfl⟩
  |false=>exact⟨md,b,by rw[iH hb];exact h1,h2,h3⟩
 | .view o j q e lo n,cs,⟨md,v,h1,h2,h3⟩=>by
  simp only[subst];cases hb:Nat.beq i j with
  |true=>
   obtain⟨_,_,⟨pt,cap,e',_⟩,_⟩:=h3;exact⟨v,h2,by rw[e'];rfl⟩
  |false=>exact⟨md,v,by rw[iH hb];exact h1,h2,h3⟩
 | .rptr v,cs,⟨pv,c0,h1,h2,h3⟩=>by
  exact⟨pv,c0,h1,h2,WZ hf h3⟩
 | .fn f caps,cs,⟨vs,h1,h2⟩=>⟨vs,h1,nU hf h2⟩
 | .cst v,cs,h=>h
 | .any,cs,h=>h
 | .gd _ _ _,_,h=>h.elim
 | .off,_,h=>h.elim
 | .undef,_,h=>h.elim
theorem xW{i:Nat}{m:PV}(hf:Frz B w L i m):∀{q:List PV} {cs:List Value},Ba.go B w L q cs->Ba.go B w (L.set i .dead) (subst.go i m q) cs
 |[],cs,h=>h
 |a::q,cs,⟨c1,c2,e',h1,h2⟩=>⟨c1,c2,e',WZ hf h1,xW hf h2⟩
theorem nU{i:Nat}{m:PV}(hf:Frz B w L i m):∀{q:List PV} {vs:List Value},Gk B w L q vs->Gk B w (L.set i .dead) (subst.go i m q) vs
 |[],vs,h=>h
 |a::q,vs,⟨v,vs',e',h1,h2⟩=>⟨v,vs',e',by rw[M9 hf.isA];exact h1.mono λc h=>WZ hf h,nU hf h2⟩
end
theorem Aax{i:Nat}{m:PV}(hf:Frz B w L i m){p:PV}{v:Value}(h:Gl B w L p v):Gl B w (L.set i .dead) (subst i m p) v:=by
 unfold Gl;rw[M9 hf.isA];exact asV.mono (λc h=>WZ hf h) h
theorem H7{i:Nat}{m:PV}(hf:Frz B w L i m){p:PV}{v:Value}(h:Ef B w L p v):Ef B w (L.set i .dead) (subst i m p) v:=by
 cases hp:p.jf with
 |true=>exact(Jc (Aax hf ((ZG hp).1 h))).2
 |false=>
  cases p
  case tup q=>obtain⟨vs,h1,h2⟩:=h;exact⟨vs,h1,nU hf h2⟩
  case undef=>exact(show False from h).elim
  case off=>exact(show False from h).elim
  case gd=>exact(show False from h).elim
  all_goals cases hp
theorem zi{i:Nat}{m:PV}(hf:Frz B w L i m){t:Nat}{p:PV}(h:Hu B w L σ t p):Hu B w (L.set i .dead) σ t (subst i m p):=by
 cases hv:p.isV with
 |true=>
  have h1:=H7 hf ((Hu.iff hv).1 h);have h2:(subst i m p).isV=true:=by
   cases p<;>first|rfl|cases hv|skip
   ·rename_i j;simp only[subst];cases Nat.beq i j;rfl;exact hf.isV
   ·rename_i j q;simp only[subst];cases Nat.beq i j<;>rfl
   ·rename_i o j q e lo n;simp only[subst];cases Nat.beq i j<;>rfl
  exact(Hu.iff h2).2 h1
 |false=>
  rcases Zw hv with rfl|rfl|⟨j,u,q,rfl⟩
  ·exact trivial
  ·exact h
  ·obtain⟨b,h1,h2,h3⟩:=h;exact⟨b,h1,λe=>H7 hf (h2 e),h3⟩
theorem pO{i:Nat}{m:PV}(hf:Frz B w L i m){sl:Slots}(h:Fv B w L σ sl):Fv B w (L.set i .dead) σ (Af7 i m sl):=by
 intro p hp;obtain⟨q,hq,rfl⟩:=List.mem_map.1 hp;exact zi hf (h q hq)
theorem qJ{i:Nat}{m:PV}(hf:Frz B w L i m):∀{σs:List Env} {st:List Slots},YV B w L σs st->YV B w (L.set i .dead) σs (st.map (Af7 i m))
 |[],[],h=>h
 |_::_,_::_,⟨h1,h2⟩=>⟨pO hf h1,qJ hf h2⟩
theorem Aa7{i:Nat}{m:PV}(hf:Frz B w L i m){a:Item}{md:MD}(h:Xv B w L a md):Xv B w (L.set i .dead) (Aey i m a) md:=by
 cases a<;>cases md<;>first
  |exact h
  |exact⟨h.1,WZ hf h.2⟩
theorem MemR.subst(hm:MemR B w L s σs σ){i:Nat}{m:PV}(hf:Frz B w L i m):MemR B w (L.set i .dead) ((s.Ub i .dead).sub i m) σs σ:=by
 refine⟨⟨?_,?_⟩,pO hf hm.sl,qJ hf hm.stk⟩
 ·simp[S.sub,S.Ub,jZ,hm.it.1]
 ·intro j a md g1 g2;simp only[S.sub,S.Ub,List.getElem?_map,Ayt]at g1;obtain⟨a0,g3,rfl⟩:=g1;rcases jW g3 with⟨rfl,rfl⟩|⟨g4,g5⟩
  ·trivial
  ·rw[List.getElem?_set_ne (Az4 g4)]at g2;exact Aa7 hf (hm.it.2 j a0 md g5 g2)
theorem mW(hr:Rel Z s σs A L σ w){i:Nat}{s':S}(h:s.freeze i=some s'):∃A',Rel Z s' σs A' (L.set i .dead) σ w/\∃E e l,Cb s.it i= .arr E e l/\s'=(s.Ub i .dead).sub i (.val (.list e) l):=by
 unfold S.freeze at h;split at h
 ·rename_i E e l hi;cases h;have hm:=hr.mem;obtain⟨v,cs,h1,h2⟩:=hm.arr hi;have hR:∀b,¬A b->Z.R b:=λb hb=>by
   rcases Ay8 b Z.w0.heap.size with hlt|hge
   ·have hold:=(hr.fact 1 (f:= .old Z.M Z.w0) rfl).2 b hlt;exact Z.mod b (Ay3 λhM=>hb (hold hM).1)
   ·exact Z.new b hge
  obtain⟨A',hA,hs'⟩:=St.freeze hr (hr.Ia h1) rfl Z.R hR;have hs2:=Ct.bO (hs'.C3 1 0) (RB (m':=MD.dead.Ia) (hr.Ia h1));have hm2:MemR (λb=>A' b/\Z.R b) w L s σs σ:=hs2.fact 1 rfl;have hrd:Rd (λb=>A' b/\Z.R b) w e.size v cs:=hs2.fact 0 (f:= .rd Z.R e.size v cs) rfl;have hall:=h2.mono (g:=Ap (λb=>A' b/\Z.R b) w e) λx c h=>Ap.step (λb hb=>⟨hA b hb.1,hb.2⟩) (λ_ _=>rfl) h;have hf:Frz (λb=>A' b/\Z.R b) w L i (.val (.list e) l):=⟨λz E' v' c' h=>by rw[h1]at h;cases h;exact⟨v,cs,rfl,hrd,hall⟩,rfl,rfl⟩;exact⟨A',Rel.as hs2 (i:=2) rfl (hm2.subst hf) (by rw[Azw]),E,e,l,hi,rfl⟩
 ·cases h
theorem Qi:∀{is:List Nat} {s s':S} {A:Reg} {L:List MD},Rel Z s σs A L σ w->s.EG is=some s'->∃A' L',Rel Z s' σs A' L' σ w/\ (is=[]->s'=s/\A'=A/\L'=L)
 |[],s,s',A,L,hr,h=>by simp only[S.EG,Ajx]at h;subst h;exact⟨A,L,hr,λ_=>⟨rfl,rfl,rfl⟩⟩
 |i::is,s,s',A,L,hr,h=>by
  simp only[S.EG]at h;split at h
  ·obtain⟨A',L',h1,_⟩:=Qi hr h;exact⟨A',L',h1,λe=>by cases e⟩
  ·cases h
  ·split at h
   ·rename_i s1 h1;obtain⟨A1,h2,_⟩:=mW hr h1;obtain⟨A',L',h3,_⟩:=Qi h2 h;exact⟨A',L',h3,λe=>by cases e⟩
   ·cases h
theorem Q7{p:PV}(h:wL p=true):p.jf=true:=by cases p<;>first|rfl|cases h
theorem WH{B:Reg}{x:Operand}(hm:Fv B w L σ s.sl)(h:(Ed s.sl x).jf=true):Gl B w L (Ed s.sl x) (ev σ x):=(ZG h).1 (Qs hm x (PV.N5 h))
theorem Aav{a x:Operand}{s':S}(hr:Rel Z s σs A L σ w)(h:H8 s a x=some s'):∃A' L',Rel Z s' σs A' L' σ w:=by
 unfold H8 at h;split at h
 ·split at h
  ·obtain⟨A',L',h1,_⟩:=Qi hr h;exact⟨A',L',h1⟩
  ·cases h;exact⟨A,L,hr⟩
 ·cases h
theorem mL.step{B B':Reg}{w w':World}(hb:∀b,B b->B' b)(hs:Same B w w')(hl:cW L L'){a:Item}{cs:List Value}(h:mL B w L a cs):mL B' w' L' a cs:=by
 cases a with
 |dead=>exact h
 |box T v=>exact Ba.step hb hs hl h
 |arr E e l=>exact Bq.mono (λx c h=>Ap.step hb hs h) h
def xT(R:Reg)(L:List MD)(a:Item)(cs:List Value):Fact where
 holds A w:=mL (λb=>A b/\R b) w L a cs
 step h ha hs _:=h.step (λb ⟨h1,h2⟩=>⟨ha b h1,h2⟩) (λb ⟨h1,_⟩=>hs b h1) (.refl L)
theorem Amv{t:TypeId}{a x:Operand}(hr:Rel Z s σs A L σ w)(h:U9 P s t a x k=some r):
  AY P n ops ⟨none, .store t a x,ty,pos,after,none⟩ Z s σs k r False A L σ w:=by
 unfold U9 at h;split at h
 ·cases h
 ·rename_i s1 hs1;obtain⟨A1,L1,hr1⟩:=Aav hr hs1;have hm:=hr1.mem;split at h
  ·rename_i i p ha;split at h
   ·rename_i inf Ua;obtain⟨hb,h⟩:=Ay h;simp only[Abz]at hb;obtain⟨md,b,h1,h2,h3⟩:=Xm (Cu hm.sl ha rfl);obtain⟨ns,h4,h5⟩:=PM hr1 (WH hm.sl (Q7 hb.1.1));have hne:Cb s1.it i≠ .dead:=by intro e;rw[e]at h;simp[wF]at h
    obtain⟨h6,h7⟩:=hm.root h1 hne;obtain⟨a',hk,h8,h9,h10⟩:=Adc h5 h h6;have hlen:=h5.len;have hz:=Ce hb.1.2;have hz0:0<inf.size:=by simpa [Nat.blt_eq]using hb.2
    have hrF:=St.qC (f:=xT Z.R L1 a' (Bb md.cells (As p) ns)) hr1 h9;refine Aji hrF h1 h2 ⟨inf,Ua,rfl⟩ h3 rfl h4 (hlen.trans hz.symm) (List.all_eq_true.2 (h5.one hr1.lD)) (by rw[hz,<-hlen];exact h8) hz0 (λw' md' hs' hmd=>?_);have h11:mL (λb=>A1 b/\Z.R b) w' L1 a' (Bb md.cells (As p) ns):=hs'.fact 0 rfl;have hs2:=hs'.uT
    revert h7 h10
    cases hi:Cb s1.it i with
    |dead=>exact absurd hi hne
    |box T v0=>
     rintro⟨b0,c0,rfl⟩ h10;simp only[Xh]at hmd;subst hmd;have key:=cW.box (cs':=Bb (MD.box b0 c0 T).cells (As p) ns) h1;refine⟨_,A1,_,hk,Rel.change hs2 h1 key ?_,λh=>h.elim⟩;cases a' with
     |box T' v'=>simp only[sameKind]at h10;subst h10;exact⟨rfl,Ba.step (λ_ h=>h) (λ_ _=>rfl) key h11⟩
     |dead=>exact h11.elim
     |arr _ _ _=>exact h10.elim
    |arr E e l=>
     rintro⟨v0,c0,rfl⟩ h10;simp only[Xh]at hmd;subst hmd;have key:=cW.own (cs':=Bb (MD.own e.size E v0 c0).cells (As p) ns) h1;refine⟨_,A1,_,hk,Rel.change hs2 h1 key ?_,λh=>h.elim⟩;cases a' with
     |arr E' e' l'=>obtain⟨rfl,rfl⟩:=h10;exact⟨rfl,rfl,h11⟩
     |dead=>exact h11.elim
     |box _ _=>exact h10.elim
   ·cases h
  ·cases h
end Go.Rx
namespace Go.Rx
open Go Go.Lv
variable {P:Program} {B:Reg} {w w':World} {L L':List MD} {s:S} {σs:List Env} {σ:Env} {Z:Fix} {A A':Reg} {n:Nat} {ops:Array Oper} {rest:List Oper} {K:Env->World->Prop}
variable {R:Type} {k:S->Option R} {r:R} {d:Option Nat} {ty:TypeId} {pos:String} {after:Array Edge}
theorem RS{t:TypeId}{p:PV}(h:zeroOf P t=some p):∃z,(∃i,P.info? t=some i/\i.zero=some z)/\∀(B:Reg) (w:World) (L:List MD),Ba B w L p z.cells.toList:=by
 unfold zeroOf at h;split at h
 ·rename_i i hi;split at h
  ·rename_i z hz;exact⟨z,⟨i,hi,hz⟩,λB w L=>mT h⟩
  ·cases h
 ·cases h
theorem Afn{md:MD}{b:Nat}(hb:md.base=some b){B:Reg}:Ef B w (L++[md]) (.ptr L.length []) (.pointer (some ⟨b,0,none⟩)):=⟨md,b,by simp,hb,rfl⟩
theorem vV{z:Nat}{E:TypeId}{v:Value}{c:List Value}{B:Reg}:Ef B w (L++[.own z E v c]) (.own L.length) v:=⟨z,E,v,c,by simp,rfl⟩
theorem Rel.len(hr:Rel Z s σs A L σ w):s.it.length=L.length:=hr.mem.it.1
theorem Rel.lt(hr:Rel Z s σs A L σ w):∀b,A b->b<w.heap.size:=St.lt hr
def Am6(A0:Reg)(w0:World):Fact where
 holds A w:=(∀b,A0 b->A b)/\Same A0 w0 w
 step h ha hs _:=⟨λb hb=>ha b (h.1 b hb),λb hb=>(hs b (h.1 b hb)).trans (h.2 b hb)⟩
theorem Rel.same(hr:Rel Z s σs A L σ w):St A w [Am6 A w,Ni Z.R L s σs σ, .old Z.M Z.w0] (L.map MD.Ia):=St.qC (f:=Am6 A w) hr ⟨λ_ h=>h,λ_ _=>rfl⟩
theorem iS{w':World}{A':Reg}{a:Item}{md:MD}{p:PV}{v:Value}{dn:Nat}{G:Prop}(hr:Rel Z s σs A L σ w)(hs:St A' w' [Am6 A w,Ni Z.R L s σs σ, .old Z.M Z.w0] (md.Ia::L.map MD.Ia))
  (ha:Xv (λb=>A' b/\Z.R b) w' (L++[md]) a md) (hv:p.isV=true) (hp:∀B,Ef B w' (L++[md]) p v) (hk:k ((s.add a).Gm (some dn) p)=some r):
  J2 Z σs k r G A L s.it w (Ub σ dn v) w':=by
 obtain⟨h1,h2⟩:(∀b,A b->A' b)/\Same A w w':=hs.fact 0 rfl;have hr':=Rel.push hs.uT ha;exact⟨_,A',L++[md],hk,hr'.Gm (d:=some dn) hv (hp _),λ_=>⟨h1,h2,⟨[md],rfl⟩,⟨[a],rfl⟩⟩⟩
theorem bG{o:Op}{dn:Nat}(h:Jt n ⟨some dn,o,ty,pos,after,none⟩=true):Nat.blt dn n=true:=h
theorem Akp{t:TypeId}{v:PV}{dn:Nat}{G:Prop}(hr:Rel Z s σs A L σ w)(hd:Jt n ⟨some dn, .alloc t,ty,pos,after,none⟩=true)(hz:zeroOf P t=some v)
  (hk:k ((s.add (.box t v)).Gm (some dn) (.ptr s.new []))=some r):AY P n ops ⟨some dn, .alloc t,ty,pos,after,none⟩ Z s σs k r G A L σ w:=by
 obtain⟨z,h1,h2⟩:=RS hz;refine WL.alloc (cells:=z.cells.toList) hr.same (bG hd) h1 (by simp) (λb w' hs'=>WL.nil ?_);refine iS (a:= .box t v) (md:= .box b z.cells.toList t) hr hs' ⟨rfl,h2 _ _ _⟩ rfl (λB=>?_) hk;rw[S.new,hr.len];exact Afn rfl
theorem As1{t:TypeId}{x:Operand}{dn:Nat}{G:Prop}(hr:Rel Z s σs A L σ w)(hd:Jt n ⟨some dn, .box t x,ty,pos,after,none⟩=true)(hx:wL (Ed s.sl x)=true)
  (hk:k ((s.add (.box t (Ed s.sl x))).Gm (some dn) (.ptr s.new []))=some r):AY P n ops ⟨some dn, .box t x,ty,pos,after,none⟩ Z s σs k r G A L σ w:=by
 obtain⟨cs,h1,h2⟩:=PM hr (WH hr.mem.sl (Q7 hx));have hF:=St.qC (f:=xT Z.R L (.box t (Ed s.sl x)) cs) hr.same h2;refine WL.box hF (bG hd) rfl h1 (λb w' hs'=>WL.nil ?_);have h3:mL (λb=>A b/\Z.R b) w' L (.box t (Ed s.sl x)) cs:=hs'.fact 0 rfl;refine iS (a:= .box t (Ed s.sl x)) (md:= .box b cs t) hr hs'.uT ⟨rfl,Ba.step (λ_ h=>h) (λ_ _=>rfl) (cW.append _ _) h3⟩ rfl (λB=>?_) hk;rw[S.new,hr.len];exact Afn rfl
theorem Aco{a t e:TypeId}{x:Operand}{l:List UInt8}{dn:Nat}{G:Prop}(hr:Rel Z s σs A L σ w)(hd:Jt n ⟨some dn, .convert a t x,ty,pos,after,none⟩=true)(ha:P.underlying a=some .string)(ht:P.underlying t=some (.slice e))
  (he:P.underlying e=some (.int .u8)) (hx:Ed s.sl x= .val .str l) (hk:k ((s.add (.arr e (.int .u8) l)).Gm (some dn) (.own s.new))=some r):AY P n ops ⟨some dn, .convert a t x,ty,pos,after,none⟩ Z s σs k r G A L σ w:=by
 refine WL.s2b ha ht he hr.same (bG hd) (Tw hr.mem.sl hx) (λp m c w' hs'=>WL.nil ?_);refine iS (a:= .arr e (.int .u8) l) (md:= .own 1 e (.slice p m c) (EN l)) hr hs' ⟨rfl,rfl,PJ⟩ rfl (λB=>?_) hk;rw[S.new,hr.len];exact vV
where PJ:∀{B:Reg} {w:World} {l:List UInt8},Bq (Ap B w (.int .u8)) l (EN l)
 |_,_,[]=>rfl
 |_,_,x::l=>⟨[iv x],EN l,rfl,rfl,PJ⟩
theorem Aoq{t e E:TypeId}{x:Operand}{i:Nat}{y:UInt8}{ys:List UInt8}{dn:Nat}{G:Prop}(hr:Rel Z s σs A L σ w)(hd:Jt n ⟨some dn, .convert t t x,ty,pos,after,none⟩=true)(ht:P.underlying t=some (.slice e))
  (he:P.underlying e=some (.int .u8)) (hx:Ed s.sl x= .own i) (hi:Cb s.it i= .arr E (.int .u8) (y::ys)) (hk:k (s.Gm (some dn) (.own i))=some r):AY P n ops ⟨some dn, .convert t t x,ty,pos,after,none⟩ Z s σs k r G A L σ w:=by
 obtain⟨v,cs,h1,h2⟩:=hr.mem.arr hi;have hne:0<cs.length:=by
  obtain⟨c,c',e1,e2,_⟩:=h2;rw[e1,Aby];have:c.length=(ET.int .u8).size:=Ap.len e2;rw[this];have:(ET.int Kd.u8).size=1:=rfl;omega
 have hvr:Ef (λb=>A b/\Z.R b) w L (.own i) (ev σ x):=by
  have:=Cu hr.mem.sl hx rfl;exact this
 have hev:ev σ x=v:=by
  obtain⟨z,E',v',c,g1,g2⟩:=hvr;rw[h1]at g1;cases g1;simpa using g2
 have hL:(L.map MD.Ia)[i]? =some (.own 1 E v cs):=by rw[List.getElem?_map,h1];rfl
 refine WL.Awa ht he hr.same hL hne (bG hd) hev (λw' hs'=>WL.nil ?_);obtain⟨g1,g2⟩:(∀b,A b->A b)/\Same A w w':=hs'.fact 0 rfl;have hr':Rel Z s σs A L σ w':=hs'.uT;exact⟨_,A,L,hk,hr'.Gm (d:=some dn) (p:= .own i) rfl ⟨_,_,_,_,h1,rfl⟩,λ_=>⟨g1,g2,⟨[],by simp⟩,⟨[],by simp[S.Gm,S.set]⟩⟩⟩
theorem sX{t:TypeId}{e:ET}(h:B0 P t e=true):ElemOk P t e.size:=by
 unfold B0 at h;split at h
 ·rename_i i hi;simp only[Abz]at h;obtain⟨⟨⟨h1,h2⟩,h3⟩,h4⟩:=h;split at h3
  ·rename_i z hz;exact⟨⟨i,z,hi,Ce h1,hz,Ce h3,Au4 h2⟩,by have:=Au4 h4;omega⟩
  ·cases h3
 ·cases h
theorem kB{t E:TypeId}(h:tG P t=some E):P.underlying t=some (.slice E):=by
 unfold tG at h;split at h
 ·rename_i e he;cases h;exact he
 ·cases h
theorem U4{e:ET}{x:e.T}{c:List Value}(h:Ap B w e x c):∀m,Bq (Ap B w e) (List.replicate m x) (List.replicate m c).flatten
 |0=>rfl
 |m+1=>⟨c,(List.replicate m c).flatten,rfl,h,U4 h m⟩
theorem Aql{t:TypeId}{a b:Operand}{dn:Nat}{G:Prop}(hr:Rel Z s σs A L σ w)(hd:Jt n ⟨some dn, .makeSlice t a b,ty,pos,after,none⟩=true)(h:Acf P s (some dn) t a b k=some r):
  AY P n ops ⟨some dn, .makeSlice t a b,ty,pos,after,none⟩ Z s σs k r G A L σ w:=by
 unfold Acf at h;split at h
 ·cases h
 ·rename_i E hE;split at h
  ·cases h
  ·rename_i e he;obtain⟨hb,h⟩:=Ay h;split at h
   ·rename_i m m' z hm hm' hz;split at h
    ·rename_i x hx;obtain⟨l,hl,h⟩:=bind_some h;obtain⟨_,hq,h⟩:=bind_some h;obtain⟨h1,h2,rfl⟩:=xg hl;have h3:m'=m:=by have:=Xx hq;simpa [geq,GI.toZ]using this
     subst h3;obtain⟨zv,hz1,hz2⟩:=RS hz;have ea:=xL hm (Qs hr.mem.sl a (X4 hm));have eb:=xL hm' (Qs hr.mem.sl b (X4 hm'));refine WL.makeSlice (kB hE) (sX hb) hz1 (zs:=zv.cells.toList) (by simp) hr.same (bG hd) (m:=m'.toNat) (by rw[<-h1];exact ea) (by rw[<-h1];exact eb) h2 (λp q c w' hs'=>WL.nil ?_);refine iS (a:= .arr E e (List.replicate m'.toNat x)) (md:= .own e.size E (.slice p q c) (List.replicate m'.toNat zv.cells.toList).flatten) hr hs' ⟨rfl,rfl,U4 (RK hx (hz2 _ _ (L++[]))) _⟩ rfl (λB=>?_) h;rw[S.new,hr.len];exact vV
    ·cases h
   ·cases h
end Go.Rx
namespace Go.Rx
open Go Go.Lv
variable {P:Program} {B:Reg} {w w':World} {L L':List MD} {s:S} {σs:List Env} {σ:Env} {Z:Fix} {A A':Reg} {n:Nat} {ops:Array Oper} {rest:List Oper} {K:Env->World->Prop}
variable {R:Type} {k:S->Option R} {r:R} {d:Option Nat} {ty:TypeId} {pos:String} {after:Array Edge}
theorem J2.of{G:Prop}{s1:S}{A1:Reg}{L1:List MD}{σ':Env}(h:G->s1=s/\A1=A/\L1=L)(hp:J2 Z σs k r G A1 L1 s1.it w σ' w'):J2 Z σs k r G A L s.it w σ' w':=by
 obtain⟨s',A',L',h1,h2,h3⟩:=hp;refine⟨s',A',L',h1,h2,λg=>?_⟩;obtain⟨e1,e2,e3⟩:=h g;subst e1 e2 e3;exact h3 g
theorem isEmpty_nil{α:Type}{l:List α}(h:l.isEmpty=true):l=[]:=by cases l<;>simp_all
theorem jl{z:Nat}(h:Nat.ble 1 z=true):0<z:=by have:=Au4 h;omega
theorem Rel.At0(hr:Rel Z s σs A L σ w){i z:Nat}{E:TypeId}{v:Value}{cs:List Value}(h:L[i]? =some (.own z E v cs)):
  ∃q len cap,v= .slice q len cap/\cs.length=len*z/\len<=cap/\ (q=none->cap=0)/\ (0<cap->∃b,q=some ⟨b,0,none⟩/\ (MD.own z E v cs).base=some b):=by
 obtain⟨o,q,len,cap,h1,h2,h3,h4,h5,h6⟩:=Ct.mem (A:=A) (St.mobs hr) (hr.Ia h);refine⟨q,len,cap,h1,h2,h3,h4,λhc=>?_⟩;cases o with
 |none=>have:=h5 rfl;omega
 |some b=>
  obtain⟨arr,fr,e1,_⟩:=h6 b rfl;subst h1 e1;exact⟨b,rfl,rfl⟩
theorem X.rT{t e:TypeId}{z len cap a b:Nat}{p:Option Addr}{x:Operand}{lo hi:Option Operand}(ht:P.underlying t=some (.slice e))(hsz:Ic P e z)(h1:a<=b)(h2:b<=len)(h3:len<=cap)(hx:ev σ x= .slice p len cap)
  (hlo:(∃q,lo.map (ev σ)=some (.int q (a:Int)))\/ (lo=none/\a=0)) (hhi:(∃q,hi.map (ev σ)=some (.int q (b:Int)))\/ (hi=none/\b=len)):
  XO P σ w (.slice t x lo hi none) (.slice (if cap=a then p else p.map (·.add (a*z))) (b-a) (cap-a)):=λ_ _ _ _ _=>by
 have hr:=O5 (P:=P) (w:=w) (p:=p) (vlo:=lo.map (ev σ)) (vhi:=hi.map (ev σ)) ht hsz h1 h2 h3 (by rcases hlo with h|⟨h,h'⟩;exact .inl h;exact .inr ⟨by rw[h];rfl,h'⟩)
   (by rcases hhi with h|⟨h,h'⟩;exact .inl h;exact .inr ⟨by rw[h];rfl,h'⟩)
 simp only[execOp,hx,Instr.sliceAt,Aj3,Afc ht,Ab3,Azj,hr,Aph]
theorem X.P8{t u e:TypeId}{z m a b:Nat}{ad:Addr}{x:Operand}{lo hi:Option Operand}(ht:Afy P t=some (u,m,e))(hsz:Ic P e z)(h1:a<=b)(h2:b<=m)(hx:ev σ x= .pointer (some ad))
  (hlo:(∃q,lo.map (ev σ)=some (.int q (a:Int)))\/ (lo=none/\a=0)) (hhi:(∃q,hi.map (ev σ)=some (.int q (b:Int)))\/ (hi=none/\b=m)):
  XO P σ w (.slice t x lo hi none) (.slice (some (if m=a then ad else ad.add (a*z))) (b-a) (m-a)):=λ_ _ _ _ _=>by
 have hlo':(∃q,lo.map (ev σ)=some (.int q (a:Int)))\/ (lo.map (ev σ)=none/\a=0):=hlo.imp id λh=>⟨by rw[h.1];rfl,h.2⟩;have hhi':(∃q,hi.map (ev σ)=some (.int q (b:Int)))\/ (hi.map (ev σ)=none/\b=m):=hhi.imp id λh=>⟨by rw[h.1];rfl,h.2⟩;unfold Afy at ht;split at ht
 ·rename_i m' et hu;cases ht;simp only[execOp,hx,Instr.sliceAt,Aj3,Afc hu,Ab3,Azj];generalize lo.map (ev σ)=vlo at hlo'⊢;generalize hi.map (ev σ)=vhi at hhi'⊢;clear hlo hhi;rcases hlo' with⟨q,rfl⟩|⟨rfl,rfl⟩<;>rcases hhi' with⟨q',rfl⟩|⟨rfl,rfl⟩<;>
   simp[Instr.sureAddr,Instr.sliceBounds,Instr.sliceBound,asIntOf,Bk hsz,h1,h2]
 ·rename_i u' hp;split at ht
  ·rename_i m' et hu;cases ht;simp only[execOp,hx,Instr.sliceAt,Aj3,Afc hp,Ab3,Azj];generalize lo.map (ev σ)=vlo at hlo'⊢;generalize hi.map (ev σ)=vhi at hhi'⊢;clear hlo hhi;rcases hlo' with⟨q,rfl⟩|⟨rfl,rfl⟩<;>rcases hhi' with⟨q',rfl⟩|⟨rfl,rfl⟩<;>
    simp[Instr.slice,Afc hp,Afc hu,Instr.sliceBounds,Instr.sliceBound,asIntOf,Bk hsz,h1,h2,asAddr]
  ·cases ht
 ·cases ht
theorem Aqh{t et:TypeId}{x:Operand}{lo hi:Option Operand}{G:Prop}(hr:Rel Z s σs A L σ w)(hd:Jt n ⟨d, .slice t x lo hi none,ty,pos,after,none⟩=true)(ht:P.underlying t=some (.slice et))(h:Adv P s d et (Ed s.sl x) lo hi k=some r):
  AY P n ops ⟨d, .slice t x lo hi none,ty,pos,after,none⟩ Z s σs k r G A L σ w:=by
 have hm:=hr.mem;unfold Adv at h;split at h
 ·cases h
 ·rename_i inf Ua;split at h
  ·rename_i i hx;split at h
   ·rename_i E e l hi';obtain⟨hb,h⟩:=Ay h;simp only[Abz]at hb;split at h
    ·rename_i a b ha hb';obtain⟨_,hok,h⟩:=bind_some h;have hab:0<=a/\a<=b/\b<=Ac l:=Ay1 (Xx hok);obtain⟨u,cs,h1,h2⟩:=hm.arr hi';obtain⟨z',E',c',h3⟩:=KK (Cu hm.sl hx rfl);rw[h1]at h3;have h3':=h3;cases h3;obtain⟨q,len,cap,g1,g2,g3,g4,g5⟩:=hr.At0 h1;have hz:0<e.size:=by have:=Au4 hb.2;omega
     have hl:len=l.length:=Aoj hz (g2.symm.trans (h2.len λx c h=>Ap.len h));obtain⟨a1,ha1⟩:=Ake hab.1;obtain⟨b1,hb1⟩:=Ake (show 0<=b by omega);subst ha1 hb1;have hbl:b1<=len:=by rw[hl];have:=hab.2.2;unfold Ac at this;omega
     have hxo:=X.rT (P:=P) (σ:=σ) (w:=w) (x:=x) (lo:=lo) (hi:=hi) (a:=a1) (b:=b1) ht (Ey Ua hb.1) (by omega) hbl g3 g1
      (by rcases Kw hm.sl ha with h|⟨h,h'⟩;exact .inl h;exact .inr ⟨h,by omega⟩) (by rcases Kw hm.sl hb' with h|⟨h,h'⟩;exact .inl h;exact .inr ⟨h,by unfold Ac at h';omega⟩)
     rw[g1]at h1;refine Ds (p:= .view true i [] e a1 (b1-a1)) hr hd hxo rfl ⟨_,_,h1,rfl,by omega,by omega,⟨_,_,by rw[show((b1:Int)-a1).toNat=b1-a1 by omega],by omega,λhn=>?_,λhc=>?_⟩,
      (λ_=>⟨_,_,q,len,cap,cs,rfl,rfl,by omega,λpt m c' hv=>?_,λh0=>?_⟩),(λh=>by cases h)⟩ h
     ·split at hn
      ·omega
      ·have:q=none:=by simpa using hn
       have:=g4 this;omega
     ·obtain⟨bb,e1,e2⟩:=g5 (by omega);rw[g1]at e2;refine⟨bb,e2,?_⟩;rw[Aba (by omega),e1];simp[Mm,As]
     ·cases hv;simp only[Aiq];omega
     ·have ha0:a1=0:=by omega
      subst ha0;rw[show((b1:Int)-(0:Nat)).toNat=b1 by omega];simp only[Nat.sub_zero];congr 1;split
      ·rfl
      ·by_cases hc:0<cap
       ·obtain⟨bb,e1,_⟩:=g5 hc;rw[e1];simp[Mm]
       ·omega
    ·cases h
   ·cases h
  ·rename_i o i p e l0 n' hx;obtain⟨hb,h⟩:=Ay h;simp only[Abz]at hb;split at h
   ·rename_i a b ha hb';obtain⟨_,hok,hk⟩:=bind_some h;have hab:0<=a/\a<=b/\b<=n':=Ay1 (Xx hok);obtain⟨md,v1,h3,h4,k1,k2,⟨pt,cap,k3,k4,k5,k6⟩,k7,k8⟩:=Cu hm.sl hx rfl;have h6:ev σ x=v1:=by simpa using h4
    obtain⟨a1,ha1⟩:=Ake hab.1;obtain⟨b1,hb1⟩:=Ake (show 0<=b by omega);obtain⟨l1,hl1⟩:=Ake k1;obtain⟨n1,hn1⟩:=Ake k2;subst ha1 hb1 hl1 hn1;simp only[Aiq]at k3 k4 k6 k7;have hxo:=X.rT (P:=P) (σ:=σ) (w:=w) (x:=x) (lo:=lo) (hi:=hi) (a:=a1) (b:=b1) ht (Ey Ua hb.1) (by omega) (by omega) k4 (h6.trans k3)
     (by rcases Kw hm.sl ha with h|⟨h,h'⟩;exact .inl h;exact .inr ⟨h,by omega⟩) (by rcases Kw hm.sl hb' with h|⟨h,h'⟩;exact .inl h;exact .inr ⟨h,by omega⟩)
    have e0:((l1:Int)+a1).toNat=l1+a1:=by omega
    refine Ds (p:= .view o i p e (l1+a1) (b1-a1)) hr hd hxo rfl ⟨md,_,h3,rfl,by omega,by omega,⟨_,_,by rw[show((b1:Int)-a1).toNat=b1-a1 by omega],by omega,λhn=>?_,λhc=>?_⟩,(λho=>?_),k8⟩ hk
    ·split at hn
     ·omega
     ·have:pt=none:=by simpa using hn
      have:=k5 this;omega
    ·obtain⟨bb,e1,e2⟩:=k6 (by omega);refine⟨bb,e1,?_⟩;rw[Aba (by omega),e2,e0];simp[Mm,Aux,Auz]
    ·obtain⟨s',E',q,len,cap0,c0,e1,e2,e3,e4,e5⟩:=k7 ho;have e6:=e4 _ _ _ k3;refine⟨s',E',q,len,cap0,c0,e1,e2,by omega,λpt' m c' hv=>?_,λh0=>?_⟩
     ·cases hv;omega
     ·have h00:l1=0/\a1=0:=by omega
      obtain⟨rfl,rfl⟩:=h00;have e7:=e5 rfl;rw[k3]at e7;cases e7;rw[show((b1:Int)-(0:Nat)).toNat=b1 by omega];simp only[Nat.sub_zero];congr 1;split
      ·rfl
      ·by_cases hc:0<cap
       ·obtain⟨bb,_,e8⟩:=k6 hc;rw[e8];simp[Mm]
       ·omega
   ·cases h
  ·cases h
theorem Ak3{t:TypeId}{x:Operand}{lo hi:Option Operand}{G:Prop}(hr0:Rel Z s σs A L σ w)(hd:Jt n ⟨d, .slice t x lo hi none,ty,pos,after,none⟩=true){vw:Bool}(h:T9 vw s d t x lo hi k P=some r)(hG:G-> (owns (Ed s.sl x)).isEmpty=true):
  AY P n ops ⟨d, .slice t x lo hi none,ty,pos,after,none⟩ Z s σs k r G A L σ w:=by
 unfold T9 at h;split at h
 ·rename_i ht;split at h
  ·rename_i l hx;split at h
   ·rename_i a b ha hb;obtain⟨y,hy,h⟩:=bind_some h;exact Ds (p:= .val .str y) hr0 hd (X.Avp ht (Tw hr0.mem.sl hx) hy (Kw hr0.mem.sl ha) (Kw hr0.mem.sl hb)) rfl rfl h
   ·cases h
  ·cases h
 ·rename_i et ht;cases hvw:(vw&&zu (Ed s.sl x))with
  |true=>
   rw[hvw]at h;exact Aqh hr0 hd ht h
  |false=>
  rw[hvw]at h;dsimp only[Cm,cond]at h;split at h
  ·cases h
  ·rename_i s1 hs1;obtain⟨A1,L1,hr,hsame⟩:=Qi hr0 hs1;have hm:=hr.mem;split at h
   ·rename_i e0 l0 hx;split at h
    ·rename_i e l;split at h
     ·rename_i inf Ua;obtain⟨hb,h⟩:=Ay h;simp only[Abz]at hb;split at h
      ·rename_i a b ha hb';obtain⟨y,hy,h⟩:=bind_some h;obtain⟨h1,h2,h3,h4,rfl⟩:=OB hy;obtain⟨c0,h5,h6⟩:=Zp (Cu hm.sl hx rfl);have hlen:=h6.len λx c h=>Ap.len h;obtain⟨p',l',c',h7,h8⟩:=X.Aak (P:=P) (l:=a.toNat) (k:=b.toNat) (m:=l.length) ht (Ey Ua hb.1) (St.Am3 hr h5) (j:=0) rfl hlen (jl hb.2) h3 h4;have hxo:=h7 σ w x lo hi rfl (by rcases Kw hm.sl ha with h|⟨h,h'⟩;exact .inl (by rw[<-h1];exact h);exact .inr ⟨h,by omega⟩)
        (by rcases Kw hm.sl hb' with h|⟨h,h'⟩;exact .inl (by rw[<-h2];exact h);exact .inr ⟨h,by rw[h'];simp[Ac]⟩)
       have hv:Ef (λb=>A1 b/\Z.R b) w L1 (.val (.list e) ((l.take b.toNat).drop a.toNat)) (.slice p' l' c'):=
        kT (h8.fact 0 rfl) (Bq.drop (λx c h=>Ap.len h) _ (Bq.take (λx c h=>Ap.len h) _ h6))
       refine WL.Adm rfl hd (hxo _ _ _ _ _) (WL.nil ⟨_,A1,L1,h,hr.Gm rfl hv,λg=>?_⟩);obtain⟨e1,e2,e3⟩:=hsame (isEmpty_nil (hG g));subst e1 e2 e3;have:(s1.Gm d (.val (.list e) ((l.take b.toNat).drop a.toNat))).it=s1.it:=by cases d<;>rfl
       rw[this];exact .refl
      ·cases h
     ·cases h
    ·cases h
   ·rename_i hx;split at h
    ·rename_i inf a b Ua ha hb';obtain⟨_,hok,hk⟩:=bind_some h;have hab:0<=a/\a<=b/\b<=0:=Ay1 (Xx hok);have ha0:a=0:=by omega
     have hb0:b=0:=by omega
     subst ha0 hb0;have hv:=GJ (Cu hm.sl hx rfl);have hxo:=X.rT (P:=P) (σ:=σ) (w:=w) (x:=x) (lo:=lo) (hi:=hi) (a:=0) (b:=0) (z:=inf.size) ht ⟨inf,Ua,rfl⟩ (Aj0 _) (Aj0 _) (Aj0 _) hv
      (by rcases Kw hm.sl ha with h|⟨h,h'⟩;exact .inl h;exact .inr ⟨h,rfl⟩) (by rcases Kw hm.sl hb' with h|⟨h,h'⟩;exact .inl h;exact .inr ⟨h,rfl⟩)
     refine WL.Adm rfl hd (hxo _ _ _ _ _) (WL.nil ⟨_,A1,L1,hk,hr.Gm rfl rfl,λg=>?_⟩);obtain⟨e1,e2,e3⟩:=hsame (isEmpty_nil (hG g));subst e1 e2 e3;have:(s1.Gm d .nils).it=s1.it:=by cases d<;>rfl
     rw[this];exact .refl
    ·cases h
   ·cases h
 ·split at h
  ·rename_i u m et hat;split at h
   ·cases h
   ·rename_i inf Ua;split at h
    ·rename_i i p hx;split at h
     ·rename_i T v hit;split at h
      ·rename_i e0 l0 hg;split at h
       ·rename_i m' e l;obtain⟨hb,h⟩:=Ay h;simp only[Abz]at hb;split at h
        ·rename_i a b ha hb';obtain⟨_,hok,hk⟩:=bind_some h;have hab:0<=a/\a<=b/\b<=m:=Ay1 (Xx hok);have hm:=hr0.mem;obtain⟨md,bb,h1,h2,h3⟩:=Xm (Cu hm.sl hx rfl);obtain⟨a1,ha1⟩:=Ake hab.1;obtain⟨b1,hb1⟩:=Ake (show 0<=b by omega);subst ha1 hb1;have hxo:=X.P8 (P:=P) (σ:=σ) (w:=w) (x:=x) (lo:=lo) (hi:=hi) (a:=a1) (b:=b1) hat (Ey Ua hb.1.2) (by omega) (by omega) h3
          (by rcases Kw hm.sl ha with h|⟨h,h'⟩;exact .inl h;exact .inr ⟨h,by omega⟩) (by rcases Kw hm.sl hb' with h|⟨h,h'⟩;exact .inl h;exact .inr ⟨h,by omega⟩)
         refine Ds (p:= .view false i p e a1 (b1-a1)) hr0 hd hxo rfl ⟨md,_,h1,rfl,by omega,by omega,⟨_,_,(by rw[show((b1:Int)-a1).toNat=b1-a1 by omega]),(by omega),(λh=>by cases h),λhc=>⟨bb,h2,?_⟩⟩,(λh=>by cases h),λ_=>⟨bb,h2⟩⟩ hk;rw[Aba (by omega),Mm];rfl
        ·cases h
       ·cases h
      ·cases h
     ·cases h
    ·cases h
  ·cases h
theorem Ajd{t:TypeId}{x hi mx:Operand}{lo:Option Operand}{G:Prop}(hr0:Rel Z s σs A L σ w)(hd:Jt n ⟨d, .slice t x lo (some hi) (some mx),ty,pos,after,none⟩=true)(h:zF s d t x lo hi mx k P=some r)(hG:G-> (owns (Ed s.sl x)).isEmpty=true):
  AY P n ops ⟨d, .slice t x lo (some hi) (some mx),ty,pos,after,none⟩ Z s σs k r G A L σ w:=by
 unfold zF at h;split at h
 ·rename_i et ht;split at h
  ·cases h
  ·rename_i s1 hs1;obtain⟨A1,L1,hr,hsame⟩:=Qi hr0 hs1;have hm:=hr.mem;split at h
   ·rename_i e0 l0 hx;split at h
    ·rename_i e l;split at h
     ·rename_i inf Ua;obtain⟨hb,h⟩:=Ay h;simp only[Abz]at hb;split at h
      ·rename_i a b c ha hb' hc';obtain⟨_,hok,h⟩:=bind_some h;have hbc:b<=c/\c<=Ac l:=Ay1 (Xx hok);obtain⟨y,hy,h⟩:=bind_some h;obtain⟨h1,h2,h3,h4,rfl⟩:=OB hy;obtain⟨c0,h5,h6⟩:=Zp (Cu hm.sl hx rfl);have hlen:=h6.len λx c h=>Ap.len h;obtain⟨q1,hq1⟩:=IK hb' (Qs hm.sl hi (TC hb'));obtain⟨q2,hq2⟩:=IK hc' (Qs hm.sl mx (TC hc'));unfold Ac at hbc;obtain⟨p',l',c',h7,h8⟩:=X.Aht (P:=P) (l:=a.toNat) (k:=b.toNat) (c:=c.toNat) (m:=l.length) ht (Ey Ua hb.1) (St.Am3 hr h5) (j:=0) rfl hlen (jl hb.2) h3 (by omega) (by omega);have hxo:=h7 σ w x lo hi mx rfl (by rcases Kw hm.sl ha with h|⟨h,h'⟩;exact .inl (by rw[<-h1];exact h);exact .inr ⟨h,by omega⟩)
        ⟨q1,by rw[hq1,<-h2]⟩ ⟨q2,by rw[hq2,show((c.toNat:Nat):Int)=c by omega]⟩
       have hv:Ef (λb=>A1 b/\Z.R b) w L1 (.val (.list e) ((l.take b.toNat).drop a.toNat)) (.slice p' l' c'):=
        kT (h8.fact 0 rfl) (Bq.drop (λx c h=>Ap.len h) _ (Bq.take (λx c h=>Ap.len h) _ h6))
       refine WL.Adm rfl hd (hxo _ _ _ _ _) (WL.nil ⟨_,A1,L1,h,hr.Gm rfl hv,λg=>?_⟩);obtain⟨e1,e2,e3⟩:=hsame (isEmpty_nil (hG g));subst e1 e2 e3;have:(s1.Gm d (.val (.list e) ((l.take b.toNat).drop a.toNat))).it=s1.it:=by cases d<;>rfl
       rw[this];exact .refl
      ·cases h
     ·cases h
    ·cases h
   ·cases h
 ·cases h
theorem Awj{e:ET}{p:PV}{x:e.T}(h:e.of p=some x):p.jf=true:=by
 unfold ET.of Aal at h;split at h
 ·rfl
 ·rfl
 ·rfl
 ·cases h
theorem P4{e:ET}(hr:Rel Z s σs A L σ w):∀{xs:List Operand} {l:List e.T},K6 e (xs.map (Ed s.sl))=some l->
  Bq (Ap (λb=>A b/\Z.R b) w e) l ((xs.map (ev σ)).map λv:Value=>v.cells.toList).flatten/\l.length=xs.length/\∀v∈xs.map (ev σ),v.cells.size=e.size
 |[],l,h=>by simp only[List.map_nil,K6,Ajx]at h;subst h;exact⟨rfl,rfl,by simp⟩
 |x::xs,l,h=>by
  simp only[Aw7,K6]at h;split at h
  ·rename_i y ys hy hys;cases h;obtain⟨h1,h2,h3⟩:=P4 hr hys;obtain⟨cs,h4,h5⟩:=PM hr (WH hr.mem.sl (x:=x) (Awj hy));have h6:=RK hy h5;refine⟨⟨cs,_,by simp[h4],h6,h1⟩,by simp[h2],λv hv=>?_⟩;simp only[Aw7,List.mem_cons]at hv;rcases hv with rfl|hv
   ·rw[h4];simpa using h6.len
   ·exact h3 v hv
  ·cases h
theorem Aa2:∀{ps:List (Nat×Operand)} {m:Nat},Afm m ps=true-> (ps.map λp=>(p.1,ev σ p.2))=(((ps.map Prod.snd).map (ev σ)).zipIdx m).map λp=>(p.2,p.1)
 |[],_,_=>rfl
 |(i,x)::ps,m,h=>by
  simp only[Afm,Abz]at h;simp only[Aw7,List.zipIdx_cons,Aa2 h.2,Ce h.1]
theorem I7{t:TypeId}{len:Nat}{ps:Array (Nat×Operand)}{dn:Nat}{G:Prop}(hr0:Rel Z s σs A L σ w)(hd:Jt n ⟨some dn, .buildSlice t len ps,ty,pos,after,none⟩=true)
  (h:aV P s (some dn) t len ps.toList k=some r) (hG:G-> (owns.go (ps.toList.map λp=>Ed s.sl p.2)).isEmpty=true):AY P n ops ⟨some dn, .buildSlice t len ps,ty,pos,after,none⟩ Z s σs k r G A L σ w:=by
 unfold aV at h;split at h
 ·cases h
 ·rename_i E hE;split at h
  ·cases h
  ·rename_i e he;obtain⟨hb,h⟩:=Ay h;simp only[Abz]at hb;obtain⟨⟨⟨hb1,hb2⟩,hb3⟩,hb4⟩:=hb;split at h
   ·cases h
   ·rename_i s1 hs1;obtain⟨A1,L1,hr,hsame⟩:=Qi hr0 hs1;split at h
    ·rename_i l hl;have hl':K6 e ((ps.toList.map Prod.snd).map (Ed s1.sl))=some l:=by rw[List.map_map];exact hl
     obtain⟨h1,h2,h3⟩:=P4 hr hl';have hps:ps=ps.toList.toArray:=by simp
     rw[show(⟨some dn, .buildSlice t len ps,ty,pos,after,none⟩:Oper)=⟨some dn, .buildSlice t len ps.toList.toArray,ty,pos,after,none⟩ by rw[<-hps]];have hlen:((ps.toList.map Prod.snd).map (ev σ)).length=len:=by simpa using Ce hb3
     have hF:=St.qC (f:=xT Z.R L1 (.arr E e l) (((ps.toList.map Prod.snd).map (ev σ)).map λv:Value=>v.cells.toList).flatten) hr.same h1;refine WL.buildSlice (vs:=(ps.toList.map Prod.snd).map (ev σ)) (kB hE) (sX hb1) hF (bG (o:= .buildSlice t len ps) hd) (Aa2 hb2) hlen hb4 h3 rfl (λp q c w' hs'=>WL.nil ?_);have h4:Bq (Ap (λb=>A1 b/\Z.R b) w' e) l (((ps.toList.map Prod.snd).map (ev σ)).map λv:Value=>v.cells.toList).flatten:=hs'.fact 0 rfl;refine J2.of (λg=>hsame (isEmpty_nil (hG g))) (iS (a:= .arr E e l) (md:= .own e.size E (.slice p q c) _) hr hs'.uT ⟨rfl,rfl,h4⟩ rfl (λB=>?_) h);rw[S.new,hr.len];exact vV
    ·cases h
theorem Aja{E:TypeId}{e:ET}{i len cap m:Nat}{q:Option Addr}{cs:List Value}{l:List e.T}(hr:Rel Z s σs A L σ w)(hi:L[i]? =some (.own e.size E (.slice q len cap) cs))(hm:m<=len)(hl:Bq (Ap (λb=>A b/\Z.R b) w e) l (cs.take (m*e.size))):
  Rel Z (((s.Ub i .dead).sub i .any).add (.arr E e l)) σs A (L.set i .dead++[.own e.size E (.slice q m cap) (cs.take (m*e.size))]) σ w:=by
 have hf:Frz (λb=>A b/\Z.R b) w L i .any:=⟨λz E' u c h=>⟨u,rfl,by rw[hi]at h;cases h;rfl⟩,rfl,rfl⟩;have hm2:=hr.mem.subst hf;have tV:(L.map MD.Ia)[i]? =some (Mob.own e.size E (.slice q len cap) cs):=hr.Ia hi;obtain⟨o,h1,h2,h3⟩:=(St.mobs hr).perm (nQ tV).symm;have h4:(Mob.own e.size E (.slice q m cap) (cs.take (m*e.size))).holds o w:=by
  obtain⟨q',len',cap',g1,g2,g3,g4,g5,g6⟩:=h1;cases g1;have e5:m*e.size<=len*e.size:=Ab4 _ hm;refine⟨q,m,cap,rfl,by rw[Afw];omega,by omega,g4,g5,λb hb=>?_⟩;obtain⟨arr,fr,k1,k2,k3,k4,k5⟩:=g6 b hb;exact⟨arr,fr,k1,k2,k3,k4,λj hj=>by rw[k5 j (by omega),List.getElem?_take,Abb hj]⟩
 have h5:Ct w A (Mob.own e.size E (.slice q m cap) (cs.take (m*e.size))::(L.map MD.Ia).eraseIdx i):=⟨o,h4,h2,h3⟩;have h6:Ct w A (MD.dead.Ia::Mob.own e.size E (.slice q m cap) (cs.take (m*e.size))::(L.map MD.Ia).eraseIdx i):=⟨none,⟨none,0,0,rfl,by simp,Aj0 _,λ_=>rfl,λ_=>rfl,λb h=>by cases h⟩,λb hb=>(by cases hb),h5.Xo λb hb=>hb.elim id λh=>by cases h⟩;have h7:Ct w A ((MD.own e.size E (.slice q m cap) (cs.take (m*e.size))).Ia::(L.set i .dead).map MD.Ia):=by
  rw[Azw];exact h6.perm ((List.Perm.swap _ _ _).trans ((RB (m':=MD.dead.Ia) tV).cons _))
 have h8:St A w [Ni Z.R (L.set i .dead) ((s.Ub i .dead).sub i .any) σs σ, .old Z.M Z.w0] ((MD.own e.size E (.slice q m cap) (cs.take (m*e.size))).Ia::(L.set i .dead).map MD.Ia):=by
  refine⟨St.lt hr,λf hf=>?_,h7⟩;cases hf with
  |head=>exact hm2
  |tail _ hf=>exact hr.facts f (.tail _ hf)
 exact Rel.push (a:= .arr E e l) h8 ⟨rfl,rfl,hl⟩
theorem Aat{E:TypeId}{e:ET}{x:Operand}{s1:S}{i:Nat}(hr:Rel Z s σs A L σ w)(hz:0<e.size)(hx:(Ed s.sl x).jf=true)(h:Afd s E e (Ed s.sl x)=some (s1,i)):
  ∃L1,Rel Z s1 σs A L1 σ w/\∃c0,L1[i]? =some (.own e.size E (ev σ x) c0):=by
 have hv:=Qs hr.mem.sl x (PV.N5 hx);unfold Afd at h;split at h
 ·rename_i hp;cases h;rw[hp]at hv;have hev:=GJ hv;have hr':=Rel.push (a:= .arr E e []) (md:= .own e.size E (.slice none 0 0) []) (St.C3 hr e.size E) ⟨rfl,rfl,rfl⟩;refine⟨_,hr',[],?_⟩;rw[S.new,hr.len,hev];simp
 ·rename_i j hp;rw[hp]at hv;split at h
  ·rename_i E' e' l hj;obtain⟨hb,h⟩:=Ay h;split at h
   ·rename_i he;cases h;subst he;have:=Ce hb;subst this;obtain⟨v,cs,h1,h2⟩:=hr.mem.arr hj;obtain⟨z,E',c,h3⟩:=KK hv;rw[h1]at h3;cases h3;exact⟨L,hr,cs,h1⟩
   ·cases h
  ·cases h
 ·rename_i j p e1 lo n' hp;rw[hp]at hv;split at h
  ·rename_i E' e' l hj;obtain⟨hb,h⟩:=Ay h;simp only[Abz,Ab2]at hb;obtain⟨⟨hE,h0⟩,he1⟩:=hb;split at h
   ·rename_i he;cases h;subst he he1;have:=Ce hE;subst this;subst h0;obtain⟨u,cs,h1,h2⟩:=hr.mem.arr hj;obtain⟨md,v1,h3,h4,k1,k2,_,k7,_⟩:=hv;rw[h1]at h3;cases h3;have h6:ev σ x=v1:=by simpa using h4
    obtain⟨s',E2,q,len,cap,c0,e1,e2,e3,_,e5⟩:=k7 rfl;cases e1;have e7:=e5 rfl;have hl:Bq (Ap (λb=>A b/\Z.R b) w e1) (SL l 0 n') (cs.take (n'.toNat*e1.size)):=by
     have:=Bq.take (λx c h=>Ap.len h) n'.toNat h2;simpa [SL]using this
    have hr':=Aja hr h1 (m:=n'.toNat) (by simpa using e3) hl;refine⟨_,hr',cs.take (n'.toNat*e1.size),?_⟩;rw[h6,e7,S.new,hr.len];have:L.length=(L.set j .dead).length:=by simp
    rw[this,List.getElem?_append_right (Aj0 _)];simp
   ·cases h
  ·cases h
 ·cases h
theorem Ao6{e:ET}{a:Item}{l:List e.T}(h:Ato e a=some l):∃E,a= .arr E e l:=by
 unfold Ato at h;split at h
 ·rename_i E e' l';split at h
  ·rename_i he;subst he;cases h;exact⟨E,rfl⟩
  ·cases h
 ·cases h
theorem Aa6{E:TypeId}{e:ET}{i dn:Nat}{l m:List e.T}{cs ys:List Value}{v v':Value}{w':World}{s0:S}{A0:Reg}{L0:List MD}{w0:World}(hr:Rel Z s σs A L σ w)(hi:L[i]? =some (.own e.size E v cs))(hl:Bq (Ap (λb=>A b/\Z.R b) w e) (l++m) (cs++ys))
  (hs:St A w' [xT Z.R L (.arr E e (l++m)) (cs++ys),Ni Z.R L s σs σ, .old Z.M Z.w0] ((L.map MD.Ia).set i (.own e.size E v' (cs++ys))))
  (hk:k ((((s.Ub i .dead).sub i .any).add (.arr E e (l++m))).Gm (some dn) (.own s.new))=some r):J2 Z σs k r False A0 L0 s0.it w0 (Ub σ dn v') w':=by
 have h1:Bq (Ap (λb=>A b/\Z.R b) w' e) (l++m) (cs++ys):=hs.fact 0 rfl;have hone:v.oneCell'=true:=by obtain⟨p,len,cap,rfl,_⟩:=hr.Tc hi;rfl
 have hs1:=hs.uT;have hm:MemR (λb=>A b/\Z.R b) w' L s σs σ:=hs1.fact 0 rfl;have hf:Frz (λb=>A b/\Z.R b) w' L i .any:=⟨λz E' u c h=>⟨u,rfl,by rw[hi]at h;cases h;exact hone⟩,rfl,rfl⟩;have hm2:=hm.subst hf;have tV:(L.map MD.Ia)[i]? =some (Mob.own e.size E v cs):=hr.Ia hi;have hs2:=Ct.bO hs1 (RB (m':=Mob.own e.size E v' (cs++ys)) tV).symm;have hs3:=Ct.bO (hs2.C3 1 0) (List.Perm.swap _ _ _);have hs4:=Ct.bO hs3 ((RB (m':=MD.dead.Ia) tV).cons _);have hs5:St A w' [Ni Z.R (L.set i .dead) ((s.Ub i .dead).sub i .any) σs σ, .old Z.M Z.w0] ((MD.own e.size E v' (cs++ys)).Ia::(L.set i .dead).map MD.Ia):=by
  rw[Azw];exact(hs4.noF.qC (f:= .old Z.M Z.w0) (hs4.fact 1 rfl)).qC (f:=Ni Z.R (L.set i .dead) ((s.Ub i .dead).sub i .any) σs σ) hm2
 have hr2:=Rel.push (a:= .arr E e (l++m)) hs5 ⟨rfl,rfl,h1⟩;have hnew:s.new=(L.set i .dead).length:=by rw[Axa,<-hr.len];rfl
 refine⟨_,A,_,hk,hr2.Gm (d:=some dn) rfl ?_,λg=>g.elim⟩;rw[hnew];exact vV
theorem Amr(z:Array Value)(hz:0<z.size)(m:Nat):((List.replicate m z.toList).flatten).toArray=Builtin.zeroCells z m:=by
 apply Array.ext
 ·simp[Builtin.zeroCells]
 ·intro j h1 h2;simp only[Builtin.zeroCells,Array.getElem_map,Array.getElem_range];have h3:j<m*z.size:=by simpa [Builtin.zeroCells]using h2
  have h4:=zK z.toList z.size (by simp) hz m j h3;have h5:j %z.size<z.size:=Aw3 _ hz;simp only[List.getElem_toArray];rw[List.getElem?_eq_getElem (by simpa using h1)]at h4;simp[h5]at h4;simp[h4,h5]
theorem Apu{E t t2:TypeId}{e:ET}{y:Operand}{kk:List e.T->Option R}(hr:Rel Z s σs A L σ w)(ht:P.underlying t=some (.slice E))(hel:ElemOk P E e.size)(h:Atn P s E e t2 y kk=some r):
  ∃m ys,kk m=some r/\Bq (Ap (λb=>A b/\Z.R b) w e) m ys/\∀(A1:Reg) (F:List Fact) (LL:List Mob) (i ll:Nat) (vx:Value) (cs:List Value),St A1 w F LL->LL[i]? =some (.own e.size E vx cs)->cs.length=ll*e.size->ll+m.length<=ko->
   ∃v' w',(Builtin.append_ #[t,t2] ty #[vx,ev σ y]).run P w= .ok v' w'/\St A1 w' F (LL.set i (.own e.size E v' (cs++ys))):=by
 unfold Atn at h;split at h
 ·rename_i ht2;split at h
  ·rename_i m0 hy;split at h
   ·rename_i m hm;unfold jB at hm;split at hm
    ·rename_i he;cases he;cases hm;refine⟨m0,EN m0,h,Aco.PJ,λA1 F LL i ll vx cs hs hL hlen hlim=>?_⟩;rw[Tw hr.mem.sl hy];exact nP (x:=y) (y:=y) ht hel hs hL (Src.string ht2) (Apq m0) hlen (by simp[EN,ET.size]) hlim
    ·cases hm
   ·cases h
  ·cases h
 ·rename_i et2 ht2;split at h
  ·rename_i m hm;have hV:(Ed s.sl y).isV=true:=by
    cases hq:(Ed s.sl y).isV with
    |true=>rfl
    |false=>rcases Zw hq with h|h|⟨_,_,_,h⟩<;>rw[h]at hm<;>cases hm
   obtain⟨c0,h1,h2⟩:=pH hr.mem hm (Qs hr.mem.sl y hV);have hrd:Rd (λ_=>True) w e.size (ev σ y) c0:=by
    rcases h2 with h2|⟨j,E',u,cs',_,h2,hpart⟩
    ·exact h2.step (λ_ _=>trivial) (λ_ _=>rfl)
    ·exact hpart _ _ (hr.Tc h2)
   have hly:=h1.len λx c h=>Ap.len h;exact⟨m,c0,h,h1,λA1 F LL i ll vx cs hs hL hlen hlim=>nP (x:=y) (y:=y) ht hel hs hL (Src.slice ⟨_,ht2⟩ hrd hly hel.pos) h1.Y7 hlen hly hlim⟩
  ·cases h
 ·rename_i kk2 ht2;split at h
  ·rename_i q z hq hz;split at h
   ·rename_i x0 hx0;obtain⟨m,hm,h⟩:=bind_some h;obtain⟨h1,h2,rfl⟩:=xg hm;obtain⟨zv,⟨i0,hi0,hz0⟩,hz2⟩:=RS hz;have hx1:=RK hx0 (hz2 (λb=>A b/\Z.R b) w L);have hall:=U4 hx1 q.toNat;refine⟨_,_,h,hall,λA1 F LL i ll vx cs hs hL hlen hlim=>?_⟩;rw[xL hq (Qs hr.mem.sl y (X4 hq)),h1];have hzs:zv.cells.size=e.size:=by have:=hx1.len;simpa using this
    rw[Ash]at hlim;exact jh (x:=y) (y:=y) (ly:=q.toNat) ht hel hs hL ⟨_,ht2⟩ (λi z' hi hz'=>by rw[hi0]at hi;cases hi;rw[hz0]at hz';cases hz';exact Amr zv.cells (by rw[hzs];exact hel.pos) _)
     hall.Y7 hlen ((hall.len λx c h=>Ap.len h).trans (by simp)) hlim
   ·cases h
  ·cases h
 ·cases h
theorem Ajq{t t2:TypeId}{x y:Operand}{dn:Nat}(hr0:Rel Z s σs A L σ w)(hd:Jt n ⟨some dn, .call ⟨.builtin .append, #[x,y], #[t,t2]⟩,ty,pos,after,none⟩=true)
  (h:yA P s (some dn) x y t t2 k=some r):AY P n ops ⟨some dn, .call ⟨.builtin .append, #[x,y], #[t,t2]⟩,ty,pos,after,none⟩ Z s σs k r False A L σ w:=by
 unfold yA at h;split at h
 ·cases h
 ·rename_i E hE;split at h
  ·cases h
  ·rename_i e he;obtain⟨hb,h⟩:=Ay h;simp only[Abz]at hb;have hel:=sX hb.1;split at h
   ·cases h
   ·rename_i s1 i hown;obtain⟨L1,hr,cs,hi⟩:=Aat hr0 hel.pos hb.2 hown;split at h
    ·cases h
    ·rename_i l hl;obtain⟨E',hit⟩:=Ao6 hl;obtain⟨v1,cs1,h1,h2⟩:=hr.mem.arr hit;rw[hi]at h1;cases h1;have hlen:=h2.len λx c h=>Ap.len h;obtain⟨m,ys,hk,hm,hrun⟩:=Apu (ty:=ty) hr0 (kB hE) hel h;obtain⟨r',ha,hk⟩:=bind_some hk;obtain⟨h3,rfl⟩:=M1 ha;have hF:=St.qC (f:=xT Z.R L1 (.arr E e (l++m)) (cs++ys)) hr (h2.append hm);obtain⟨v',w',h4,h5⟩:=hrun A _ _ i l.length (ev σ x) cs hF (hr.Ia hi) hlen h3;refine WL.val (v:=v') (w':=w') rfl rfl (bG hd) ?_ (WL.nil (Aa6 hr hi (h2.append hm) h5 hk));simp[execOp,resolve,invoke,builtin,h4]
end Go.Rx
namespace Go.Rx
open Go Go.Lv
variable {P:Program} {B:Reg} {w w':World} {L L':List MD} {s:S} {σs:List Env} {σ:Env} {Z:Fix} {A A':Reg} {n:Nat} {ops:Array Oper} {rest:List Oper} {K:Env->World->Prop}
variable {R:Type} {k:S->Option R} {r:R} {d:Option Nat} {ty:TypeId} {pos:String} {after:Array Edge}
theorem P1{place:Nat->Option (Nat×Nat)}{acc ns:List Value}{i off z:Nat}{v:Value}{rest:List (Nat×Value)}(hp:place i=some (off,z))(hv:v.cells=ns.toArray)(hz:ns.length=z)(hl:off+z<=acc.length):
  Instr.fill place acc.toArray ((i,v)::rest)=Instr.fill place (Bb acc off ns).toArray rest:=by
 have hf:=gE off ns 0 acc (by omega);have An6:v.cells.zipIdx.foldl (λcs (x:Value×Nat)=>cs.setIfInBounds (off+x.2) x.1) acc.toArray=(Bb acc off ns).toArray:=by
  rw[hv,<-Array.foldl_toList,Array.toList_zipIdx];simpa using hf
 simp only[Instr.fill,hp];have hc:(decide (v.cells.size≠z)||decide (off+v.cells.size>acc.toArray.size))=false:=by rw[hv];simp;omega
 rw[Aba (by rw[hc];simp)]
 show Instr.fill _ (v.cells.zipIdx.foldl (λcs (x:Value×Nat)=>cs.setIfInBounds (off+x.2) x.1) acc.toArray) _=_;rw[An6]
def places:List PV->Nat->List (Nat×Nat)
 |[],_=>[]
 |v::vs,off=>(off,v.size)::places vs (off+v.size)
theorem yM:∀{l:List PV} {i off:Nat} {u:PV},l[i]? =some u-> (places l off)[i]? =some (off+xV l i,u.size)
 |[],_,_,_,h=>by simp at h
 |a::l,0,off,u,h=>by simp at h;subst h;rfl
 |a::l,i+1,off,u,h=>by
  have:=yM (l:=l) (i:=i) (off:=off+a.size) (by simpa using h);simpa [places,xV,Auz]using this
theorem xX:∀{l:List PV} {i off:Nat} {u v:PV},l[i]? =some u->u.size=v.size->places (l.set i v) off=places l off
 |[],_,_,_,_,h,_=>by simp at h
 |a::l,0,off,u,v,h,hs=>by simp at h;subst h;simp[places,hs]
 |a::l,i+1,off,u,v,h,hs=>by simp[places,xX (l:=l) (i:=i) (by simpa using h) hs]
theorem vM:∀{fs:List Field} {vs:List PV} {off:Nat},WQ P fs vs off=true-> (fs.map λf=>(f.offset,(P.info? f.type).map (·.size)))=(places vs off).map λp=>(p.1,some p.2)
 |[],[],_,_=>rfl
 |[],_::_,_,h=>by simp[WQ]at h
 |_::_,[],_,h=>by simp[WQ]at h
 |f::fs,v::vs,off,h=>by
  simp only[WQ,Abz]at h;obtain⟨⟨h1,h2⟩,h3⟩:=h;split at h2
  ·rename_i i hi;simp[places,vM h3,hi,Ce h1,Ce h2]
  ·cases h2
theorem uX(hr:Rel Z s σs A L σ w){pl:List (Nat×Nat)}:∀{parts:List (Nat×Operand)} {zs l:List PV} {acc:List Value},iX (parts.map λp=>(p.1,Ed s.sl p.2)) zs=some l->
  places zs 0=pl->Ba.go (λb=>A b/\Z.R b) w L zs acc->∃cells,Instr.fill (pl[·]?) acc.toArray (parts.map λp=>(p.1,ev σ p.2))=some cells.toArray/\Ba.go (λb=>A b/\Z.R b) w L l cells
 |[],zs,l,acc,h,_,ha=>by simp only[List.map_nil,iX,Ajx]at h;subst h;exact⟨acc,rfl,ha⟩
 |(i,x)::ps,zs,l,acc,h,hpl,ha=>by
  subst hpl;simp only[Aw7,iX]at h;split at h
  ·rename_i u hu;obtain⟨hb,h⟩:=Ay h;simp only[Abz]at hb;have hsz:=Ce hb.1;obtain⟨ns,h1,h2⟩:=PM hr (WH hr.mem.sl (x:=x) hb.2);obtain⟨c1,c2,c3,e,h3,h4,h5⟩:=Ba.field ha hu;have hlen:=h2.len;have mO:=h4.len;obtain⟨cells,h6,h7⟩:=uX hr (zs:=zs.set i (Ed s.sl x)) (acc:=c1++(ns++c3)) h (by rw[xX hu hsz]) (h5 _ _ h2);refine⟨cells,?_,h7⟩;rw[Aw7,P1 (off:=c1.length) (z:=u.size) (ns:=ns) (by rw[yM hu,Au1,h3]) h1 (by omega) (by rw[e];simp;omega),e,ZF (by omega)];exact h6
  ·cases h
theorem qw(hr:Rel Z s σs A L σ w){e:ET}:∀{parts:List (Nat×Operand)} {l l':List e.T} {acc:List Value},zW e (parts.map λp=>(p.1,Ed s.sl p.2)) l=some l'->
  Bq (Ap (λb=>A b/\Z.R b) w e) l acc->∃cells,Instr.fill (λi=>some (i*e.size,e.size)) acc.toArray (parts.map λp=>(p.1,ev σ p.2))=some cells.toArray/\Bq (Ap (λb=>A b/\Z.R b) w e) l' cells/\l'.length=l.length
 |[],l,l',acc,h,ha=>by simp only[List.map_nil,zW,Ajx]at h;subst h;exact⟨acc,rfl,ha,rfl⟩
 |(i,x)::ps,l,l',acc,h,ha=>by
  simp only[Aw7,zW]at h;split at h
  ·rename_i u y hu hy;obtain⟨ns,h1,h2⟩:=PM hr (WH hr.mem.sl (x:=x) (Awj hy));have h3:=RK hy h2;obtain⟨c1,c2,c3,e',h4,h5,h6⟩:=Bq.get (λx c h=>Ap.len h) ha hu;have hlen:=h3.len;have mO:=h5.len;obtain⟨cells,h7,h8,h9⟩:=qw hr (l:=l.set i y) (acc:=c1++(ns++c3)) h (h6 _ _ h3);refine⟨cells,?_,h8,by rw[h9,Axa]⟩;rw[Aw7,P1 (off:=c1.length) (z:=e.size) (ns:=ns) (by rw[h4]) h1 hlen (by rw[e'];simp;omega),e',ZF (by omega)];exact h7
  ·cases h
theorem Ais{t et:TypeId}{m z:Nat}{parts:List (Nat×Operand)}{zv:Value}{cells:List Value}(ht:P.underlying t=some (.array m et))(hz:∃i,P.info? t=some i/\i.zero=some zv)(hsz:Ic P et z)
  (hf:Instr.fill (λi=>some (i*z,z)) zv.cells (parts.map λp=>(p.1,ev σ p.2))=some cells.toArray) (w:World):XO P σ w (.build t parts.toArray) (.agg cells.toArray):=λ_ _ _ _ _=>by
 obtain⟨i,hi,hz⟩:=hz;simp only[execOp,Instr.build,Aj3,zeroValue,typeInfo];simp[hi,hz,Afc ht,Bk hsz,hf]
theorem Aj8{t:TypeId}{ps:Array (Nat×Operand)}{G:Prop}(hr:Rel Z s σs A L σ w)(hd:Jt n ⟨d, .build t ps,ty,pos,after,none⟩=true)(h:S0 P s d t ps.toList k=some r):
  AY P n ops ⟨d, .build t ps,ty,pos,after,none⟩ Z s σs k r G A L σ w:=by
 have hps:ps=ps.toList.toArray:=by simp
 rw[show(⟨d, .build t ps,ty,pos,after,none⟩:Oper)=⟨d, .build t ps.toList.toArray,ty,pos,after,none⟩ by rw[<-hps]];unfold S0 at h;split at h
 ·rename_i fs zs ht hz;obtain⟨hb,h⟩:=Ay h;obtain⟨z,⟨i,hi,hz0⟩,hz2⟩:=RS hz;split at h
  ·rename_i l hl;obtain⟨cells,h1,h2⟩:=uX hr (pl:=places zs 0) hl rfl (show Ba.go _ w L zs _ from hz2 _ _ _);have hst:XX P t (places zs 0) z.cells.toList:=by
    unfold XX bA;rw[ht];simp only[vM hb,hi,hz0,Azk]
   exact Ds hr (d:=d) (o:= .build t ps.toList.toArray) (by simpa using hd) (X.build hst rfl (by simpa using h1)) rfl (show Ef _ w L (.agg l) _ from⟨cells,rfl,h2⟩) h
  ·cases h
 ·rename_i m et e0 l0 ht hz;split at h
  ·rename_i m' a l;split at h
   ·rename_i inf l' Ua hl;obtain⟨hb,h⟩:=Ay h;obtain⟨z,hz1,hz2⟩:=RS hz;obtain⟨h0,h0'⟩:l.length=m'/\Bq (Ap (λb=>A b/\Z.R b) w a) l z.cells.toList:=hz2 _ _ L;obtain⟨cells,h1,h2,h3⟩:=qw hr hl h0';have:=Ais (σ:=σ) (parts:=ps.toList) ht hz1 (Ey Ua hb) (by simpa using h1) w;exact Ds hr (d:=d) (o:= .build t ps.toList.toArray) (by simpa using hd) this rfl (show Ef _ w L (.val (.vec m' a) l') _ from⟨cells,rfl,h3.trans h0,h2⟩) h
   ·cases h
  ·cases h
 ·cases h
end Go.Rx
namespace Go.Rx
open Go Go.Lv
variable {P:Program} {B B':Reg} {w w':World} {L L':List MD} {s:S} {σs:List Env} {σ:Env} {Z:Fix} {A A':Reg} {n:Nat}
def cH(B:Reg)(w:World)(L:List MD)(B':Reg)(w':World)(L':List MD)(q q':PV):Prop:=q'.isA=q.isA/\∀cs,Ba B w L q cs->Ba B' w' L' q' cs
inductive All2 {α β:Type} (f:α->β->Prop):List α->List β->Prop
 |nil:All2 f [] []
 |cons {a b l m}:f a b->All2 f l m->All2 f (a::l) (b::m)
theorem All2.split{α β:Type}{f:α->β->Prop}:∀{l1 l2:List α} {m:List β},All2 f (l1++l2) m->∃m1 m2,m=m1++m2/\All2 f l1 m1/\All2 f l2 m2
 |[],_,m,h=>⟨[],m,rfl, .nil,h⟩
 |a::l1,l2,_, .cons h1 h2=>let⟨m1,m2,e,h3,h4⟩:=All2.split h2;⟨_::m1,m2,by rw[e];rfl, .cons h1 h3,h4⟩
mutual
theorem nH:∀{sh:Sh} {p:PV} {ls ls' rest:List PV} {cs:List Value},Uy sh p=some ls->Ba B w L p cs->All2 (cH B w L B' w' L') ls ls'->∃p',Rr sh (ls'++rest)=some (p',rest)/\p'.isA=p.isA/\Ba B' w' L' p' cs
 | .lf e o,p,ls,ls',rest,cs,h,hp,ha=>by
  simp only[Uy,Ajx]at h;subst h;cases ha with
  |cons h1 h2=>
   cases h2;exact⟨_,rfl,h1.1,h1.2 _ hp⟩
 | .agg l,p,ls,ls',rest,cs,h,hp,ha=>by
  cases p<;>simp only[Uy,reduceCtorEq]at h;rename_i vs;obtain⟨us,h1,h2⟩:=tW (rest:=rest) h (show Ba.go B w L vs cs from hp) ha;exact⟨.agg us,by simp only[Rr,h1],rfl,h2⟩
theorem tW:∀{l:List Sh} {ps:List PV} {ls ls' rest:List PV} {cs:List Value},Uy.go l ps=some ls->Ba.go B w L ps cs->All2 (cH B w L B' w' L') ls ls'->∃ps',Rr.go l (ls'++rest)=some (ps',rest)/\Ba.go B' w' L' ps' cs
 |[],[],ls,ls',rest,cs,h,hp,ha=>by
  simp only[Uy.go,Ajx]at h;subst h;cases ha;exact⟨[],rfl,hp⟩
 |a::l,p::ps,ls,ls',rest,cs,h,⟨c1,c2,e,hp1,hp2⟩,ha=>by
  simp only[Uy.go]at h;split at h
  ·rename_i x y hx hy;cases h;obtain⟨m1,m2,rfl,h1,h2⟩:=ha.split;obtain⟨p',h3,_,h4⟩:=nH (rest:=m2++rest) hx hp1 h1;obtain⟨ps',h5,h6⟩:=tW (rest:=rest) hy hp2 h2;exact⟨p'::ps',by simp only[Rr.go,Adn,h3,h5],c1,c2,e,h4,h6⟩
  ·cases h
 |[],_::_,_,_,_,_,h,_,_=>by simp[Uy.go]at h
 |_::_,[],_,_,_,_,h,_,_=>by simp[Uy.go]at h
end
theorem lR:∀{l:List Sh} {ps:List PV} {ls ls' rest:List PV} {us:List Value},Uy.go l ps=some ls->Gk B w L ps us->All2 (cH B w L B' w' L') ls ls'->∃ps',Rr.go l (ls'++rest)=some (ps',rest)/\Gk B' w' L' ps' us
 |[],[],ls,ls',rest,us,h,hp,ha=>by
  simp only[Uy.go,Ajx]at h;subst h;cases ha;exact⟨[],rfl,hp⟩
 |a::l,p::ps,ls,ls',rest,us,h,⟨v,us',e,hp1,hp2⟩,ha=>by
  simp only[Uy.go]at h;split at h
  ·rename_i x y hx hy;cases h;obtain⟨m1,m2,rfl,h1,h2⟩:=ha.split;have key:∃p',Rr a (m1++(m2++rest))=some (p',m2++rest)/\asV p'.isA (Ba B' w' L' p') v:=by
    cases hA:p.isA with
    |true=>
     rw[hA]at hp1;obtain⟨cs,e1,hc⟩:=hp1;obtain⟨p',h3,h4,h5⟩:=nH (rest:=m2++rest) hx hc h1;exact⟨p',h3,by rw[h4,hA];exact⟨cs,e1,h5⟩⟩
    |false=>
     rw[hA]at hp1;obtain⟨p',h3,h4,h5⟩:=nH (rest:=m2++rest) hx hp1 h1;exact⟨p',h3,by rw[h4,hA];exact h5⟩
   obtain⟨p',h3,h4⟩:=key;obtain⟨ps',h5,h6⟩:=lR (rest:=rest) hy hp2 h2;exact⟨p'::ps',by simp only[Rr.go,Adn,h3,h5],v,us',e,h4,h6⟩
  ·cases h
 |[],_::_,_,_,_,_,h,_,_=>by simp[Uy.go]at h
 |_::_,[],_,_,_,_,h,_,_=>by simp[Uy.go]at h
theorem qU{l:List Sh}{ps ls ls':List PV}{us:List Value}(h:Ag1 l ps=some ls)(hp:Gk B w L ps us)(ha:All2 (cH B w L B' w' L') ls ls'):∃ps',fK l ls'=some ps'/\Gk B' w' L' ps' us:=by
 obtain⟨ps',h1,h2⟩:=lR (rest:=[]) h hp ha;rw[Aun]at h1;exact⟨ps',by simp only[fK,h1],h2⟩
theorem oz{e:ET}{q:PV}{x:e.T}(h:jJ s e q=some x):(∃e0,e= .list e0)\/ (∃e' x',q= .val e' x'/\jB e' e x'=some x):=by
 unfold jJ at h;split at h
 ·exact .inl ⟨_,rfl⟩
 ·exact .inr ⟨_,_,rfl,h⟩
 ·cases h
theorem cast_eq{e e':ET}{x:e.T}{y:e'.T}(h:jB e e' x=some y):PV.val e x=PV.val e' y:=by
 unfold jB at h;split at h
 ·rename_i he;subst he;cases h;rfl
 ·cases h
theorem Ajm{e:ET}{q:PV}{l:List e.T}(h:Y5 s e q=some l):elems s e q=some l/\q.isA=false/\q.size=1:=by
 unfold Y5 at h;split at h
 ·cases h
 ·refine⟨h,?_⟩;unfold elems at h;split at h
  ·split at h
   ·exact⟨rfl,rfl⟩
   ·cases h
  ·exact⟨rfl,rfl⟩
  ·exact⟨rfl,rfl⟩
  ·exact⟨rfl,rfl⟩
  ·cases h
theorem Aai(hr:Rel Z s σs A L σ w){e:ET}{q:PV}{x:e.T}(h:jJ s e q=some x)(hb:∀b,A b/\Z.R b->B' b)(ho:∀i∈owns q,∀z E v c,L[i]? =some (.own z E v c)->Rd B' w z v c):cH (λb=>A b/\Z.R b) w L B' w L' q (.val e x):=by
 rcases oz h with⟨e0,rfl⟩|⟨e',x',rfl,hc⟩
 ·obtain⟨h1,hA,h2⟩:=Ajm (show Y5 s e0 q=some x from h);refine⟨by rw[hA];rfl,λcs hcs=>?_⟩;have hP:=hcs.sV;have hlen:=hcs.len;have:∃v,cs=[v]:=by
   rw[h2]at hlen
   match cs,hlen with
   |[v],_=>exact⟨v,rfl⟩
  obtain⟨v,rfl⟩:=this;have hv:Ef (λb=>A b/\Z.R b) w L q v:=(ZG hP).2 (by unfold Gl;rw[hA];exact hcs);obtain⟨c0,h3,h4⟩:=pH hr.mem h1 hv;refine⟨v,c0,rfl,?_,h3.mono λx c h=>Ap.step hb (λ_ _=>rfl) h⟩;rcases h4 with h4|⟨i,E,u,cs,hi,h4,hpart⟩
  ·exact h4.step hb (λ_ _=>rfl)
  ·exact hpart _ _ (ho i hi _ _ _ _ h4)
 ·have:=cast_eq hc;rw[this];exact⟨rfl,λcs h=>Ap.step hb (λ_ _=>rfl) (show Ap _ w e x cs from h)⟩
theorem Af3{e:ET}{x:e.T}{s0:S}:Ew e none x s0=(.val e x,s0):=by cases e<;>rfl
theorem xH(x:AP [])(s0:S):Fc [] x s0=([],s0):=rfl
theorem YT(p:ET×Option TypeId)(x:AP [p])(s0:S):Fc [p] x s0=([(Ew p.1 p.2 x s0).1],(Ew p.1 p.2 x s0).2):=rfl
theorem SU(p q:ET×Option TypeId)(r:List (ET×Option TypeId))(x:p.1.T)(y:AP (q::r))(s0:S):Fc (p::q::r) (x,y) s0=
  ((Ew p.1 p.2 x s0).1::(Fc (q::r) y (Ew p.1 p.2 x s0).2).1,(Fc (q::r) y (Ew p.1 p.2 x s0).2).2):=rfl
theorem pk0{p:ET×Option TypeId}:PN s [p] []=none:=rfl
theorem pk2{p:ET×Option TypeId}{q r:PV}{qs:List PV}:PN s [p] (q::r::qs)=none:=rfl
theorem pk3{q:PV}{qs:List PV}:PN s [] (q::qs)=none:=rfl
theorem pk4{p q:ET×Option TypeId}{r:List (ET×Option TypeId)}:PN s (p::q::r) []=none:=rfl
theorem pk5{p q:ET×Option TypeId}{r:List (ET×Option TypeId)}{v:PV}{vs:List PV}:PN s (p::q::r) (v::vs)=(match jJ s p.1 v,PN s (q::r) vs with|some x,some y=>some ((x,y):p.1.T×AP (q::r))|_,_=>none):=rfl
theorem Aac{qs:List PV}{x:AP []}(h:PN s [] qs=some x):qs=[]:=by
 match qs,h with
 |[],_=>rfl
 |_::_,h=>rw[pk3]at h;cases h
theorem uz{p:ET×Option TypeId}{qs:List PV}{x:AP [p]}(h:PN s [p] qs=some x):∃q,qs=[q]/\jJ s p.1 q=some x:=by
 match qs,h with
 |[],h=>rw[pk0]at h;cases h
 |[q],h=>exact⟨q,rfl,h⟩
 |q::r::qs,h=>rw[pk2]at h;cases h
theorem O3{p q:ET×Option TypeId}{r:List (ET×Option TypeId)}{qs:List PV}{z:AP (p::q::r)}(h:PN s (p::q::r) qs=some z):
  ∃v vs,∃(x:p.1.T) (y:AP (q::r)),qs=v::vs/\z=(x,y)/\jJ s p.1 v=some x/\PN s (q::r) vs=some y:=by
 match qs,h with
 |[],h=>rw[pk4]at h;cases h
 |v::vs,h=>
  rw[pk5]at h;split at h
  ·rename_i x y hx hy;cases h;exact⟨v,vs,x,y,rfl,rfl,hx,hy⟩
  ·cases h
def Mb(L:List MD):List (ET×Option TypeId)->List PV->List MD
 |p::r,v::vs=>match p.2 with
  |none=>Mb L r vs
  |some E=>(match p.1,v with
   | .list _, .own i=>L.getD i .dead
   | .list a,_=> .own a.size E (.slice none 0 0) []
   |_,_=> .dead)::Mb L r vs
 |_,_=>[]
theorem rG:∀{ls:List (ET×Option TypeId)} {vs:List PV} {is:List Nat},L6 ls=true->consume s ls vs=some is->is=[]
 |[],[],is,_,h=>by simp[consume]at h;exact h
 |[],_::_,_,_,h=>by simp[consume]at h
 |_::_,[],_,_,h=>by simp[consume]at h
 |(e,none)::r,v::vs,is,hn,h=>rG (ls:=r) (vs:=vs) (by simpa [L6]using hn) (by simpa [consume]using h)
 |(e,some _)::r,v::vs,is,hn,h=>by simp[L6]at hn
theorem oM{N:Reg}:∀{ls:List (ET×Option TypeId)} {vs:List PV} {is:List Nat} {A:Reg},consume s ls vs=some is->Ct w A (is.map λi=>(L.getD i .dead).Ia)->Ct w A ((Mb L ls vs).map MD.Ia)
 |[],[],_,_,_,_=>trivial
 |[],_::_,_,_,h,_=>by simp[consume]at h
 |_::_,[],_,_,h,_=>by simp[consume]at h
 |(e,none)::r,v::vs,is,A,h,hm=>oM (N:=N) (ls:=r) (vs:=vs) (by simpa [consume]using h) hm
 |(e,some E)::r,v::vs,is,A,h,hm=>by
  simp only[consume]at h;split at h
  ·rename_i a;exact⟨none,⟨none,0,0,rfl,by simp,Aj0 _,λ_=>rfl,λ_=>rfl,λb h=>by cases h⟩,λb hb=>(by cases hb),(oM (N:=N) h hm).Xo λb hb=>hb.elim id (λh=>by cases h)⟩
  ·rename_i a i;split at h
   ·rename_i E' a' l hi;obtain⟨_,h⟩:=Ay h;simp only[Ayt]at h;obtain⟨is',h1,rfl⟩:=h;obtain⟨o,g1,g2,g3⟩:=hm;exact⟨o,g1,g2,oM (N:=N) h1 g3⟩
   ·cases h
  ·cases h
theorem Q1{B1:Reg}(hr:Rel Z s σs A L σ w)(hb:∀b,A b/\Z.R b->B1 b):∀(ls:List (ET×Option TypeId)) (vs:List PV) (x:AP ls) (is:List Nat) (s0:S) (Lx LF:List MD),
  PN s ls vs=some x->consume s ls vs=some is-> (∀i∈Tf ls vs,∀z E v c,L[i]? =some (.own z E v c)->Rd B1 w z v c)->Lx.length=s0.it.length->LF=Lx++Mb L ls vs->
  ∃its,(Fc ls x s0).2=⟨s0.sl,s0.it++its,s0.st⟩/\its.length=(Mb L ls vs).length/\All2 (cH (λb=>A b/\Z.R b) w L B1 w LF) vs (Fc ls x s0).1/\
   ∀(i:Nat) (a:Item) (m:MD),its[i]? =some a-> (Mb L ls vs)[i]? =some m->Xv B1 w LF a m
 |[],vs,x,is,s0,Lx,LF,hp,hc,_,_,_=>by
  rw[Aac hp];refine⟨[],?_,rfl,All2.nil,λi a m h=>by simp at h⟩;rw[xH];simp
 |p::ls,vs,x,is,s0,Lx,LF,hp,hc,ho,hlen,hLF=>by
  have main:∀(v:PV) (vs':List PV) (x1:p.1.T) (rest:S->List PV×S),vs=v::vs'->jJ s p.1 v=some x1->
    (Fc (p::ls) x s0=((Ew p.1 p.2 x1 s0).1::(rest (Ew p.1 p.2 x1 s0).2).1,(rest (Ew p.1 p.2 x1 s0).2).2))->
    (∀(is:List Nat) (s1:S) (Lx:List MD),consume s ls vs'=some is-> (∀i∈Tf ls vs',∀z E v c,L[i]? =some (.own z E v c)->Rd B1 w z v c)->Lx.length=s1.it.length->LF=Lx++Mb L ls vs'->
     ∃its,(rest s1).2=⟨s1.sl,s1.it++its,s1.st⟩/\its.length=(Mb L ls vs').length/\All2 (cH (λb=>A b/\Z.R b) w L B1 w LF) vs' (rest s1).1/\
      ∀(i:Nat) (a:Item) (m:MD),its[i]? =some a-> (Mb L ls vs')[i]? =some m->Xv B1 w LF a m)->
    ∃its,(Fc (p::ls) x s0).2=⟨s0.sl,s0.it++its,s0.st⟩/\its.length=(Mb L (p::ls) vs).length/\All2 (cH (λb=>A b/\Z.R b) w L B1 w LF) vs (Fc (p::ls) x s0).1/\
     ∀(i:Nat) (a:Item) (m:MD),its[i]? =some a-> (Mb L (p::ls) vs)[i]? =some m->Xv B1 w LF a m:=by
   intro v vs' x1 rest hvs hx hu hrest;subst hvs;rw[hu];obtain⟨e,o⟩:=p;cases o with
   |none=>
    have hc':consume s ls vs'=some is:=by simpa [consume]using hc
    have e1:Ew e none x1 s0=(.val e x1,s0):=Af3;simp only[e1];obtain⟨its,h1,h2,h3,h4⟩:=hrest is s0 Lx hc' (λi hi=>ho i (by simp[Tf,hi])) hlen hLF;refine⟨its,h1,h2, .cons (Aai hr hx hb (λi hi z E v c hL=>ho i (by simp[Tf,hi]) z E v c hL)) h3,h4⟩
   |some E=>
    simp only[consume]at hc;split at hc
    ·rename_i a;have hx':x1=[]:=by
      have:elems s a .nils=some x1:=hx;simpa [elems]using this.symm
     subst hx';have e1:Ew (.list a) (some E) [] s0=(.own s0.new,s0.add (.arr E a [])):=rfl;simp only[e1];obtain⟨its,h1,h2,h3,h4⟩:=hrest is (s0.add (.arr E a [])) (Lx++[.own a.size E (.slice none 0 0) []]) hc (λi hi=>ho i (by simpa [Tf]using hi)) (by simp[S.add,hlen]) (by rw[hLF];simp[Mb]);refine⟨.arr E a []::its,by rw[h1];simp[S.add],by simp[Mb,h2], .cons ⟨rfl,λcs hcs=>?_⟩ h3,λi b m hi hm=>?_⟩
     ·refine⟨a.size,E, .slice none 0 0,[],?_,hcs⟩;rw[hLF,S.new,<-hlen];simp[Mb]
     ·cases i with
      |zero=>
       simp[Mb]at hi hm;subst hi hm;exact⟨rfl,rfl,rfl⟩
      |succ i=>exact h4 i b m (by simpa using hi) (by simpa [Mb]using hm)
    ·rename_i a i;split at hc
     ·rename_i E' a' l hi;obtain⟨hb1,hc1⟩:=Ay hc;clear hc;simp only[Abz,Ab2]at hb1;obtain⟨hE,rfl⟩:=hb1;have:=Ce hE;subst this;simp only[Ayt]at hc1;obtain⟨is',hc',rfl⟩:=hc1;obtain⟨u,cs0,g1,g2⟩:=hr.mem.arr hi;have hx':x1=l:=by
       have:elems s a' (.own i)=some x1:=hx;simp[elems,hi]at this;exact this.symm
      subst hx';have hg:L.getD i .dead= .own a'.size E' u cs0:=by simp[List.getD_eq_getElem?_getD,g1]
      have e1:Ew (.list a') (some E') x1 s0=(.own s0.new,s0.add (.arr E' a' x1)):=rfl;simp only[e1];obtain⟨its,h1,h2,h3,h4⟩:=hrest is' (s0.add (.arr E' a' x1)) (Lx++[.own a'.size E' u cs0]) hc' (λi hi=>ho i (by simpa [Tf]using hi)) (by simp[S.add,hlen]) (by rw[hLF];simp only[Mb,hg];simp);refine⟨.arr E' a' x1::its,by rw[h1];simp[S.add],by simp[Mb,h2], .cons ⟨rfl,λcs hcs=>?_⟩ h3,λq b m hq hm=>?_⟩
      ·obtain⟨z,E2,v2,c2,k1,k2⟩:=hcs;rw[g1]at k1;cases k1;refine⟨a'.size,E',u,cs0,?_,k2⟩;rw[hLF,S.new,<-hlen];simp only[Mb,hg];simp
      ·cases q with
       |zero=>
        simp only[Mb,hg]at hq hm;simp at hq hm;subst hq hm;exact⟨rfl,rfl,g2.mono λx c h=>Ap.step hb (λ_ _=>rfl) h⟩
       |succ q=>exact h4 q b m (by simpa using hq) (by simpa [Mb]using hm)
     ·cases hc
    ·cases hc
  cases ls with
  |nil=>
   obtain⟨v,rfl,hx⟩:=uz hp;exact main v [] x (λs1=>([],s1)) rfl hx (YT p x s0) (λis s1 Lx _ _ hlen hLF=>⟨[],by simp,rfl,All2.nil,λi a m h=>by simp at h⟩)
  |cons q r=>
   obtain⟨v,vs',x1,y',rfl,rfl,hx,hy⟩:=O3 hp;exact main v vs' x1 (λs1=>Fc (q::r) y' s1) rfl hx (SU p q r x1 y' s0)
    (λis s1 Lx hc ho hlen hLF=>Q1 hr hb (q::r) vs' y' is s1 Lx LF hy hc ho hlen hLF)
theorem qp:∀(a b:List PV),owns.go (a++b)=owns.go a++owns.go b
 |[],b=>rfl
 |x::a,b=>by simp[owns.go,qp a b]
mutual
theorem Ac2:∀{sh:Sh} {p:PV} {ls:List PV},Uy sh p=some ls->owns.go ls=owns p
 | .lf e o,p,ls,h=>by simp only[Uy,Ajx]at h;subst h;simp[owns.go]
 | .agg l,p,ls,h=>by cases p<;>simp only[Uy,reduceCtorEq]at h;exact nJ h
theorem nJ:∀{l:List Sh} {ps ls:List PV},Uy.go l ps=some ls->owns.go ls=owns.go ps
 |[],[],ls,h=>by simp only[Uy.go,Ajx]at h;subst h;rfl
 |a::l,p::ps,ls,h=>by
  simp only[Uy.go]at h;split at h
  ·rename_i x y hx hy;cases h;rw[qp,Ac2 hx,nJ hy];rfl
  ·cases h
 |[],_::_,_,h=>by simp[Uy.go]at h
 |_::_,[],_,h=>by simp[Uy.go]at h
end
structure KeepN (N:Reg) (w w':World):Prop where
 same:∀b,b<w.heap.size->N b->w'.heap[b]? =w.heap[b]?
 gr:Gr w w'
def GlOk(gl:List (Nat×List Value))(N:Reg)(w:World):Prop:=∀p∈gl,p.1<w.heap.size/\N p.1/\∃T fr,w.heap[p.1]? =some (.cells p.2.toArray T fr)
def Asl(gl:List (Nat×List Value))(R N:Reg)(w w':World)(rs:List Sh)(y:AP (Rt rs))(us:List Value):Prop:=
 KeepN N w w'/\∃(A1:Reg) (L1:List MD),(∀b,A1 b-> (¬N b\/w.heap.size<=b)/\b<w'.heap.size)/\Ct w' (λb=>A1 b\/ (b<w.heap.size/\N b)) (L1.map MD.Ia)/\
  ∀(s:S) (L:List MD) (B':Reg),L.length=s.it.length-> (∀b,A1 b->B' b)-> (Arl rs=true->∀b,(R b/\N b)\/ (∃p∈gl,p.1=b)->B' b)->
   ∃ps its,(Fc (Rt rs) y s).2=⟨s.sl,s.it++its,s.st⟩/\fK rs (Fc (Rt rs) y s).1=some ps/\Gk B' w' (L++L1) ps us/\its.length=L1.length/\
   ∀(i:Nat) (a:Item) (m:MD),its[i]? =some a->L1[i]? =some m->Xv B' w' (L++L1) a m
structure ConOk (P:Program) (gl:List (Nat×List Value)) (f:Nat) (c:Con):Prop where
 ent:Ent P f
 ok:∀(R N:Reg) (w:World) (L0:List MD) (vs:List Value) (ps:List PV) (x:AP (Rt c.ps)) (y:AP (Rt c.rs)),args c.ps x=some ps-> (jo c.ps x).length=L0.length->
  (∀(i:Nat) (a:Item) (m:MD),(jo c.ps x)[i]? =some a->L0[i]? =some m->Xv (λb=>R b/\N b) w L0 a m)->Ct w N (L0.map MD.Ia)->Gk (λb=>R b/\N b) w L0 ps vs->GlOk gl N w->c.fn x=some y->
  Calls P f vs.toArray w λe w'=>∃us,e= .returned (NF us)/\Asl gl R N w w' c.rs y us
end Go.Rx
namespace Go.Rx
open Go Go.Lv
variable {P:Program} {B B':Reg} {w w':World} {L L':List MD} {s:S} {σs:List Env} {σ:Env} {Z:Fix} {A A':Reg} {n:Nat} {ops:Array Oper}
variable {R:Type} {k:S->Option R} {r:R} {d:Option Nat} {ty:TypeId} {pos:String} {after:Array Edge} {T:Tab} {inl:sZ R}
def EX(P:Program)(gl:List (Nat×List Value))(inl:sZ R):Prop:=∀(Z:Fix),Z.gl=gl->∀(f:Nat) (as:List PV) (s:S) (k:S->PV->Option R) (r:R) (σs:List Env) (A:Reg) (L:List MD) (σ:Env) (w:World) (vs:List Value),
 inl f as s k=some r->Rel Z s σs A L σ w->Gk (λb=>A b/\Z.R b) w L as vs->Ent P f/\Calls P f vs.toArray w λe w'=>∃v p s' A' L',e= .returned v/\k s' p=some r/\Rel Z s' σs A' L' σ w'/\p.isV=true/\Ef (λb=>A' b/\Z.R b) w' L' p v
def FA(P:Program)(T:Tab):Prop:=∀f c,T.get f=some c->ConOk P T.gl f c
def lB(P:Program)(T:Tab)(Z:Fix):Prop:=FA P T/\Z.gl=T.gl
theorem Gk.step{q:List PV}{vs:List Value}(hb:∀b,B b->B' b)(hs:Same B w w')(hl:cW L L')(h:Gk B w L q vs):Gk B' w' L' q vs:=Ba.Afj hb hs hl h
theorem Gk.append:∀{p q:List PV} {us vs:List Value},Gk B w L p us->Gk B w L q vs->Gk B w L (p++q) (us++vs)
 |[],q,us,vs,h,h'=>by rw[show us=[]from h];exact h'
 |a::p,q,us,vs,⟨v,us',e,h1,h2⟩,h'=>⟨v,us'++vs,by rw[e];rfl,h1,Gk.append h2 h'⟩
theorem Aaw{ps:List PV}{us:List Value}(h:Gk B w L ps us):(uq ps).isV=true/\Ef B w L (uq ps) (NF us):=by
 match ps,us,h with
 |[],us,h=>rw[show us=[]from h];exact⟨rfl,[],rfl,rfl⟩
 |[p],us,⟨v,us',e,h1,h2⟩=>
  rw[show us'=[]from h2]at e;subst e;exact Jc h1
 |p::q::r,us,h=>
  obtain⟨v,us',e,h1,v2,us2,e2,h2,h3⟩:=h;subst e2 e;exact⟨rfl,v::v2::us2,rfl,v,_,rfl,h1,v2,us2,rfl,h2,h3⟩
theorem Rel.Ajn{w':World}{A1 BX:Reg}{L1:List MD}{its:List Item}(hr:Rel Z s σs A L σ w)(hBX:∀b,BX b-> ¬A b/\b<w.heap.size)(hY:Ct w (λb=>A b\/BX b) (L.map MD.Ia))
  (hk:KeepN (λb=>¬BX b) w w') (hA1:∀b,A1 b-> (¬ ¬BX b\/w.heap.size<=b)/\b<w'.heap.size)
  (hm:Ct w' (λb=>A1 b\/ (b<w.heap.size/\ ¬BX b)) (L1.map MD.Ia)) (hlen:its.length=L1.length)
  (hit:∀(i:Nat) (a:Item) (m:MD),its[i]? =some a->L1[i]? =some m->Xv (λb=>(A b\/A1 b)/\Z.R b) w' (L++L1) a m):
  Rel Z ⟨s.sl,s.it++its,s.st⟩ σs (λb=>A b\/A1 b) (L++L1) σ w':=by
 have hlt:=St.lt hr;have hsame:Same A w w':=λb hb=>hk.same b (hlt b hb) λh=>(hBX b h).1 hb;have hmem:MemR (λb=>A b/\Z.R b) w' L s σs σ:=Fact.step _ (hr.fact 0 (f:=Ni Z.R L s σs σ) rfl) (λ_ h=>h) hsame hk.gr;have hold:(Fact.old Z.M Z.w0).holds A w':=Fact.step _ (hr.fact 1 (f:= .old Z.M Z.w0) rfl) (λ_ h=>h) hsame hk.gr;have hl:=cW.append L L1;have hst:St (λb=>A b\/A1 b) w' [.old Z.M Z.w0] (L1.map MD.Ia++L.map MD.Ia):=by
  refine⟨λb hb=>hb.elim (λh=>Aj4 (hlt b h) hk.gr.le) (λh=>(hA1 b h).2),λf hf=>?_,?_⟩
  ·cases hf with
   |head=>exact Fact.step _ hold (λ_ h=> .inl h) (λ_ _=>rfl) (.refl _)
   |tail _ h=>cases h
  ·refine Ct.append (λb=>b<w.heap.size/\ ¬BX b) (λb hb=>Aj4 hb.1 hk.gr.le) (hm.Xo ?_) ?_
   ·rintro b ((h|h)|h)
    ·exact .inr ⟨hlt b h,λhx=>(hBX b hx).1 h⟩
    ·exact .inl h
    ·exact .inr h
   ·refine(hY.lt.step hk.gr.le λb hb hn=>hk.same b hb λh=>hn (.inl (.inr h))).Xo ?_;rintro b ((h|h)|h)
    ·exact .inl (.inl h)
    ·rcases(hA1 b h).1 with h|h
     ·exact .inl (.inr (Classical.not_not.1 h))
     ·exact .inr h
    ·by_cases hx:BX b
     ·exact .inl (.inr hx)
     ·exact .inr (Nat.le_of_not_lt λhl=>h ⟨hl,hx⟩)
 have hb:∀b,A b/\Z.R b-> (A b\/A1 b)/\Z.R b:=λb h=>⟨.inl h.1,h.2⟩;refine Rel.as (Ct.bO hst List.perm_append_comm) (i:=0) rfl ⟨⟨?_,?_⟩,hmem.sl.step hb (λ_ _=>rfl) hl,hmem.stk.step hb (λ_ _=>rfl) hl⟩ (by rw[List.map_append])
 ·simp[hmem.it.1,hlen]
 ·intro i a m g1 g2;simp only at g1;rcases Ay8 i s.it.length with hi|hi
  ·rw[List.getElem?_append_left hi]at g1;rw[List.getElem?_append_left (by rw[<-hmem.it.1];exact hi)]at g2;exact(hmem.it.2 i a m g1 g2).step hb (λ_ _=>rfl) hl
  ·rw[List.getElem?_append_right hi]at g1;rw[List.getElem?_append_right (by rw[<-hmem.it.1];exact hi)]at g2;rw[hmem.it.1]at g1;exact hit _ a m g1 g2
theorem Ct.split:∀{X Y:List Mob} {A:Reg},Ct w A (X++Y)->∃BX:Reg,(∀b,BX b-> ¬A b/\b<w.heap.size)/\Ct w (λb=>¬BX b) X/\Ct w (λb=>A b\/BX b) Y
 |[],Y,A,h=>⟨λ_=>False,λb hb=>hb.elim,trivial,h.Xo λb hb=>hb.elim id λh=>h.elim⟩
 |m::X,Y,A,⟨o,h1,h2,h3⟩=>by
  obtain⟨BX,g1,g2,g3⟩:=Ct.split h3;refine⟨λb=>BX b\/o=some b,λb hb=>?_,⟨o,h1,λb hb=>⟨λh=>h (.inr hb),(h2 b hb).2⟩,g2.Xo ?_⟩,g3.Xo ?_⟩
  ·rcases hb with hb|hb
   ·exact⟨λh=>(g1 b hb).1 (.inl h),(g1 b hb).2⟩
   ·exact h2 b hb
  ·rintro b (hb|hb)
   ·exact λh=>hb (.inl h)
   ·exact λh=>(g1 b h).1 (.inr hb)
  ·rintro b (hb|hb|hb)
   ·exact .inl (.inl hb)
   ·exact .inr hb
   ·exact .inl (.inr hb)
theorem Ct.Avc:∀{Y:List Mob} {A:Reg} {i:Nat} {m:Mob},Ct w A Y->Y[i]? =some m->∃o,m.holds o w/\∀b,o=some b-> ¬A b
 |_::_,A,0,m,⟨o,h1,h2,_⟩,h=>⟨o,by simp at h;exact h▸h1,λb hb=>(h2 b hb).1⟩
 |_::Y,A,i+1,m,⟨o,_,_,h3⟩,h=>by
  obtain⟨q,g1,g2⟩:=Ct.Avc h3 (i:=i) (by simpa using h);exact⟨q,g1,λb hb hA=>g2 b hb (.inl hA)⟩
theorem Abd{w:World}:MD.dead.Ia.holds none w:=⟨none,0,0,rfl,by simp,Aj0 _,λ_=>rfl,λ_=>rfl,λb h=>by cases h⟩
theorem Zr{i:Nat}:∀{l:List Nat},Xt i l=true↔i∈l
 |[]=>by simp[Xt]
 |j::l=>by
  simp only[Xt,Awf,List.mem_cons,Zr (l:=l)];exact or_congr ⟨Ce,λh=>by subst h;simp⟩ Iff.rfl
theorem sT{f:Item->Item}(hf:f .dead= .dead):∀{l:List Item} {i:Nat},Cb (l.map f) i=f (Cb l i)
 |[],_=>by simp[Cb,hf]
 |_::_,0=>rfl
 |_::r,i+1=>by simpa [Cb]using sT hf (l:=r) (i:=i)
theorem jG:∀{l:List Item} {i j:Nat},Cb l i= .dead->Cb (DB l j .dead) i= .dead
 |[],_,_,h=>by simpa [DB]using h
 |_::_,0,0,_=>rfl
 |_::_,0,j+1,h=>by simpa [DB,Cb]using h
 |_::_,i+1,0,h=>by simpa [DB,Cb]using h
 |_::r,i+1,j+1,h=>by simpa [DB,Cb]using jG (l:=r) (i:=i) (j:=j) (by simpa [Cb]using h)
theorem eY:∀{l:List Item} {i:Nat},Cb (DB l i .dead) i= .dead
 |[],_=>rfl
 |_::_,0=>rfl
 |_::r,i+1=>by simpa [DB,Cb]using eY (l:=r) (i:=i)
theorem C1{i:Nat}:∀{is:List Nat} {s s':S},Cb s.it i= .dead->s.vG is=some s'->Xt i is=false
 |[],_,_,_,_=>rfl
 |j::is,s,s',hd,h=>by
  simp only[S.vG]at h;split at h
  ·rename_i s1 h1;unfold S.kill at h1;split at h1
   ·rename_i E e l hj;cases h1;have hij:Nat.beq i j=false:=by
     cases hb:Nat.beq i j with
     |false=>rfl
     |true=>rw[Ce hb]at hd;rw[hd]at hj;cases hj
    have:Cb ((s.Ub j .dead).sub j .any).it i= .dead:=by
     show Cb ((DB s.it j .dead).map _) i=_;rw[sT rfl,jG hd];rfl
    simp[Xt,hij,C1 this h]
   ·cases h1
  ·cases h
theorem Aam:∀{is:List Nat} {s s':S} {L:List MD},MemR B w L s σs σ-> (∀(i z:Nat) (E:TypeId) (v:Value) (c:List Value),L[i]? =some (.own z E v c)->v.oneCell'=true)->s.vG is=some s'->
  ∃L',MemR B w L' s' σs σ/\ (is=[]->L'=L)/\ (∀j,Xt j is=false->L'[j]? =L[j]?)/\∀(A:Reg) (X:List Mob),Ct w A (X++L.map MD.Ia)->Ct w A (X++(is.map λi=>(L.getD i .dead).Ia)++L'.map MD.Ia)
 |[],s,s',L,hm,_,h=>by
  simp only[S.vG,Ajx]at h;subst h;exact⟨L,hm,λ_=>rfl,λ_ _=>rfl,λA X hX=>by simpa using hX⟩
 |i::is,s,s',L,hm,hone,h=>by
  simp only[S.vG]at h;split at h
  ·rename_i s1 h1;unfold S.kill at h1;split at h1
   ·rename_i E e l hi;cases h1;obtain⟨v,cs,hL,_⟩:=hm.arr hi;have hf:Frz B w L i .any:=⟨λz E' u c h=>⟨u,rfl,by rw[hL]at h;cases h;exact hone _ _ _ _ _ hL⟩,rfl,rfl⟩;have hm2:=hm.subst hf;have hlt:=(List.getElem?_eq_some_iff.1 hL).1;obtain⟨L',g1,g2,g3,g4⟩:=Aam hm2 (λj z E v c hj=>by
     by_cases hji:j=i
     ·subst hji;rw[List.getElem?_set_self hlt]at hj;cases hj
     ·rw[List.getElem?_set_ne (Az4 hji)]at hj;exact hone _ _ _ _ _ hj) h
    refine⟨L',g1,(λe=>by cases e),λj hj=>?_,λA X hX=>?_⟩
    ·simp only[Xt,Bool.or_eq_false_iff]at hj;rw[g3 j hj.2,List.getElem?_set_ne (λe=>by subst e;simp at hj)]
    ·have tV:(L.map MD.Ia)[i]? =some (L.getD i .dead).Ia:=by simp[hL,List.getD_eq_getElem?_getD]
     have hX1:Ct w A (MD.dead.Ia::(L.map MD.Ia).eraseIdx i++(X++[(L.getD i .dead).Ia])):=by
      have h1:Ct w A (MD.dead.Ia::(X++L.map MD.Ia)):=⟨none,Abd,λb hb=>(by cases hb),hX.Xo λb hb=>hb.elim id λh=>by cases h⟩;refine h1.perm (.cons _ ?_);have hp:=(nQ tV).symm;refine(List.Perm.append_left X hp).trans ?_;rw[show X++(L.getD i .dead).Ia::(L.map MD.Ia).eraseIdx i=(X++[(L.getD i .dead).Ia])++(L.map MD.Ia).eraseIdx i by simp];exact List.perm_append_comm
     have hX2:Ct w A ((X++[(L.getD i .dead).Ia])++(L.set i .dead).map MD.Ia):=by
      refine hX1.perm (List.perm_append_comm.trans (List.Perm.append_left _ ?_));rw[Azw];exact RB tV
     have:=g4 A _ hX2;have hni:Xt i is=false:=C1 (s:=(s.Ub i .dead).sub i .any) (by
      show Cb ((DB s.it i .dead).map _) i=_;rw[sT rfl,eY];rfl) h
     have he:(is.map λj=>((L.set i .dead).getD j .dead).Ia)=is.map λj=>(L.getD j .dead).Ia:=by
      refine List.map_congr_left λj hj=>?_;have:j≠i:=λe=>by
       subst e;rw[Zr.2 hj]at hni;cases hni
      simp only[List.getD_eq_getElem?_getD,List.getElem?_set_ne (Az4 this)]
     rw[he]at this;simpa using this
   ·cases h1
  ·cases h
theorem Ap.noL:∀{e:ET} {x:e.T} {cs:List Value},e.G7=false->Ap B w e x cs->Ap B' w' e x cs
 | .int k,x,cs,_,h=>h
 | .bool,x,cs,_,h=>h
 | .str,x,cs,_,h=>h
 | .list e,l,cs,hL,h=>by cases hL
 | .vec m e,l,cs,hL,⟨h1,h2⟩=>⟨h1,h2.mono λx c h=>Ap.noL (e:=e) hL h⟩
 | .cons a q,x,cs,hL,⟨c1,c2,e,h1,h2⟩=>by
  simp only[ET.G7,Bool.or_eq_false_iff]at hL;exact⟨c1,c2,e,Ap.noL hL.1 h1,Ap.noL hL.2 h2⟩
 | .nil,_,cs,_,h=>h
theorem yV:∀{ls:List (ET×Option TypeId)} {vs:List PV},owns.go vs=[]->Tf ls vs=[]
 |[],_,_=>by unfold Tf;rfl
 |_::_,[],_=>by unfold Tf;rfl
 |(e,o)::ls,v::vs,h=>by
  simp only[owns.go,List.append_eq_nil_iff]at h;cases o<;>simp[Tf,h.1,yV h.2]
theorem Rel.out(hr:Rel Z s σs A L σ w){b:Nat}(hb:¬A b):Z.R b:=by
 rcases Ay8 b Z.w0.heap.size with hlt|hge
 ·have hold:=(hr.fact 1 (f:= .old Z.M Z.w0) rfl).2 b hlt;exact Z.mod b (Ay3 λhM=>hb (hold hM).1)
 ·exact Z.new b hge
theorem Ap1{f:Nat}{caps:List PV}{as:Array Operand}{g:Operand}{ts:Array TypeId}{dn:Nat}{G:Prop}(hT:lB P T Z)(hI:EX P T.gl inl)(hr0:Rel Z s σs A L σ w)(hg:Ed s.sl g= .fn f caps)
  (hd:Jt n ⟨some dn, .call ⟨.value g,as,ts⟩,ty,pos,after,none⟩=true) (h:Ad2 P T inl s (some dn) f caps as.toList k=some r)
  (hG:G->∃c,T.get f=some c/\L6 (Rt c.ps)=true/\ (yT c=false\/owns.go (as.toList.map (Ed s.sl))=[])):
  AY P n ops ⟨some dn, .call ⟨.value g,as,ts⟩,ty,pos,after,none⟩ Z s σs k r G A L σ w:=by
 obtain⟨cvs,hgv,Asw⟩:=Aev (Cu hr0.mem.sl hg rfl);have has:as=as.toList.toArray:=by simp
 have hxe:Ent P f->XE P σ w (.call ⟨.value g,as,ts⟩) f (as.toList.map (ev σ)++cvs).toArray:=λhe=>by
  have:=X.Avx (P:=P) (σ:=σ) (w:=w) (args:=as.toList) (ts:=ts) he hgv rfl;rw[<-has]at this;exact this
 unfold Ad2 at h;split at h
 ·rename_i c hc;have hcon:=hT.1 f c hc;split at h
  ·have hc0:cvs=[]:=Asw;subst hc0;split at h
   ·cases h
   ·rename_i ls0 Awo;split at h
    ·cases h
    ·rename_i s1 hs1;obtain⟨A1,L1,hr,hsame⟩:∃A1 L1,Rel Z s1 σs A1 L1 σ w/\ (G->s1=s/\A1=A/\L1=L):=by
      split at hs1
      ·rename_i hro;obtain⟨A1,L1,h1,h2⟩:=Qi hr0 hs1;refine⟨A1,L1,h1,λg=>h2 ?_⟩;obtain⟨c',hc',_,h3⟩:=hG g;rw[hc]at hc';cases hc';rcases h3 with h3|h3
       ·rw[hro]at h3;cases h3
       ·exact yV (by rw[nJ Awo];exact h3)
      ·cases hs1;exact⟨A,L,hr0,λ_=>⟨rfl,rfl,rfl⟩⟩
     cases hP:Aaa (as.toList.map (Ed s1.sl))with
     |false=>rw[hP]at h;cases h
     |true=>
     rw[hP]at h;simp only[Aze,Az5]at h;try dsimp only[Cm]at h
     split at h
     ·cases h
     ·rename_i ls hls;cases Aoa:(yT c&& !(Tf (Rt c.ps) ls).isEmpty)with
      |true=>rw[Aoa]at h;cases h
      |false=>
      rw[Aoa]at h;dsimp only[Cm,cond]at h;split at h
      ·cases h
      ·rename_i x hx;split at h
       ·cases h
       ·rename_i is his;cases Aur:(!((Tf (Rt c.ps) ls).all λi=>!Xt i is))with
        |true=>rw[Aur]at h;cases h
        |false=>
        rw[Aur]at h;dsimp only[Cm,cond]at h;split at h
        ·cases h
        ·rename_i s2 hs2;obtain⟨y,hy,h⟩:=bind_some h;change (match fK c.rs (Fc (Rt c.rs) y s2).1 with|some vs=>k ((Fc (Rt c.rs) y s2).2.Gm (some dn) (uq vs))|none=>none)=some r at h;have hpv:=wG hr.mem.sl _ hP;have hone:∀(i z:Nat) (E:TypeId) (v:Value) (c:List Value),L1[i]? =some (.own z E v c)->v.oneCell'=true:=λi z E v c hi=>by
          obtain⟨p,len,cap,rfl,_⟩:=hr.Tc hi;rfl
         obtain⟨L2,hm2,hnil,hget,Awp⟩:=Aam hr.mem hone hs2;obtain⟨BX,hBX,hX,hY⟩:=Ct.split (Awp A1 [] (by simpa using St.mobs hr));have hr2:Rel Z s2 σs A1 L2 σ w:=Rel.as (h:=(⟨St.lt hr,hr.facts,hY.Xo λ_ h=> .inl h⟩:St A1 w _ (L2.map MD.Ia))) (i:=1) rfl hm2 rfl;have hL0:Ct w (λb=>¬BX b) ((Mb L1 (Rt c.ps) ls).map MD.Ia):=oM (N:=λ_=>True) his (by simpa using hX);have key:∀R0:Reg,(∀b,A1 b/\Z.R b->R0 b)-> (Tf (Rt c.ps) ls=[]\/∀b,R0 b)-> (yT c=true->∀b,R0 b->A1 b/\Z.R b)->
           AY P n ops ⟨some dn, .call ⟨.value g,as,ts⟩,ty,pos,after,none⟩ Z s σs k r G A L σ w:=by
          intro R0 h1 h2 h3;have hb1:∀b,A1 b/\Z.R b->R0 b/\ ¬BX b:=λb hb=>⟨h1 b hb,λhx=>(hBX b hx).1 hb.1⟩;obtain⟨Ayb,e1,e2,e3,e4⟩:=Q1 (B1:=λb=>R0 b/\ ¬BX b) hr hb1 (Rt c.ps) ls x is ⟨[],[],[]⟩ [] (Mb L1 (Rt c.ps) ls) hx his (λi hi z E v cc hLi=>by
           rcases h2 with h2|h2
           ·rw[h2]at hi;cases hi
           ·have hni:Xt i is=false:=by
             have:=Aur;simp only[Bool.not_eq_false',List.all_eq_true,Au3]at this;exact this i hi
            have Ayc:=(hget i hni).trans hLi;obtain⟨o,g1,g2⟩:=Ct.Avc hY (hr2.Ia Ayc);exact(Go.Lv.Tc g1).step (λb hb=>⟨h2 b,λhx=>g2 b hb (.inr hx)⟩) (λ_ _=>rfl)) rfl rfl
          obtain⟨ps,h5,h6⟩:=qU hls hpv e3;have Ar1:jo c.ps x=Ayb:=by unfold jo;rw[e1];rfl
          have hcall:=hcon.ok R0 (λb=>¬BX b) w _ _ ps x y h5 (by rw[Ar1];exact e2) (by rw[Ar1];exact e4) hL0 h6 (λp hp=>by
           obtain⟨hA,T1,fr,hh⟩:=hr.Acn (hT.2▸hp);exact⟨lt_of_heap hh,λhx=>(hBX _ hx).1 hA.1,T1,fr,hh⟩) hy
          have hxe':=hxe hcon.ent;rw[Aun]at hxe';refine WL.e (bG hd) hxe' hcall ?_;rintro e w' ⟨us,rfl,hk,A2,LL,hA2,hm3,hres⟩;refine⟨_,rfl,WL.nil ?_⟩;have hnew:∀b,A2 b->Z.R b:=λb hb=>by
           rcases(hA2 b hb).1 with h7|h7
           ·exact hr.out (hBX b (Classical.not_not.1 h7)).1
           ·refine Z.new b ?_;have h8:Z.w0.heap.size<=w.heap.size:=(hr.fact 1 (f:= .old Z.M Z.w0) rfl).1.le;omega
          obtain⟨ps',its,g1,g2,g3,g4,g5⟩:=hres s2 L2 (λb=>(A1 b\/A2 b)/\Z.R b) hr2.len.symm (λb hb=>⟨.inr hb,hnew b hb⟩) (λhro b hb=>by
           rcases hb with hb|⟨p,hp,rfl⟩
           ·exact⟨.inl (h3 hro b hb.1).1,(h3 hro b hb.1).2⟩
           ·exact⟨.inl (hr.Acn (hT.2▸hp)).1.1,(hr.Acn (hT.2▸hp)).1.2⟩)
          have hr':=Rel.Ajn hr2 hBX hY hk hA2 hm3 g4 g5;obtain⟨hv,hv'⟩:=Aaw g3;rw[g2]at h;refine⟨_,λb=>A1 b\/A2 b,L2++LL,h,?_,λgg=>?_⟩
          ·rw[g1];exact hr'.Gm (d:=some dn) hv hv'
          ·obtain⟨e1',e2',e3'⟩:=hsame gg;obtain⟨c',hc',hno,_⟩:=hG gg;rw[hc]at hc';cases hc';have Aye:=rG hno his;subst Aye;have Ayf:s1=s2:=by simpa [S.vG]using hs2
           have Ayg:=hnil rfl;subst Ayf Ayg e1' e2' e3';rw[g1];exact⟨λb hb=> .inl hb,λb hb=>hk.same b (St.lt hr b hb) λhx=>(hBX b hx).1 hb,⟨LL,rfl⟩,⟨its,rfl⟩⟩
         cases hro':yT c with
         |true=>
          refine key (λb=>A1 b/\Z.R b) (λ_ h=>h) (.inl ?_) (λ_ _ h=>h);rw[hro']at Aoa;simp only[Azd,Bool.not_eq_false']at Aoa;exact isEmpty_nil Aoa
         |false=>exact key (λ_=>True) (λ_ _=>trivial) (.inr λ_=>trivial) (λh=>by rw[hro']at h;cases h)
  ·cases h
 ·rename_i hn;obtain⟨hP,h⟩:=Ay h;have hpv:=Gk.append (wG hr0.mem.sl _ hP) Asw;obtain⟨he,hcall⟩:=hI Z hT.2 f _ s _ r σs A L σ w _ h hr0 hpv;refine WL.e (bG hd) (hxe he) hcall ?_;rintro e w' ⟨v,p,s',A',L',rfl,hk,hr',hv,hv'⟩;refine⟨_,rfl,WL.nil ⟨_,A',L',hk,hr'.Gm (d:=some dn) hv hv',λgg=>?_⟩⟩;obtain⟨c,hc,_⟩:=hG gg;rw[hn]at hc;cases hc
end Go.Rx
namespace Go.Rx
open Go Go.Lv
variable {P:Program} {B B':Reg} {w w':World} {L L':List MD} {s:S} {σs:List Env} {σ:Env} {Z:Fix} {A A':Reg} {n:Nat} {ops:Array Oper}
variable {R:Type} {k:S->Option R} {r:R} {d:Option Nat} {ty:TypeId} {pos:String} {after:Array Edge} {T:Tab} {inl:sZ R}
theorem NV{l:List Oper}{K K':Env->World->Prop}(h:WL P n ops l K σ w)(hk:∀σ w,K σ w->K' σ w):WL P n ops l K' σ w:=by
 have:=WL.cut (rest:=[]) K l h (λσ w h=>WL.nil (hk σ w h));rwa [Aun]at this
theorem K3{cs:Array Value}{v:PV}(h:nA P ty (.agg cs)=some v)(hA:v.isA=true):v.isV=true/\Ef B w L v (.agg cs):=by
 have h1:=mT (B:=B) (w:=w) (L:=L) h;have h2:Gl B w L v (.agg cs):=by
  unfold Gl;rw[hA];exact⟨cs.toList,by simp,h1⟩
 exact Jc h2
theorem Y9{a:Option R}:∀{l:List (Option R)},both a l=some r->a=some r/\∀b∈l,b=some r
 |[],h=>⟨h,by simp⟩
 |b::l,h=>by
  unfold both at h;split at h
  ·rename_i hab;obtain⟨h1,h2⟩:=Y9 h;exact⟨h1,λc hc=>by
    rcases List.mem_cons.1 hc with rfl|hc
    ·exact hab▸h1
    ·exact h2 c hc⟩
  ·cases h
theorem Aqf{α:Type}{l:List α}{a b:Option R}(h:R6 l a b=some r):b=some r/\ (l=[]->a=some r):=by
 cases l with
 |nil=>
  obtain⟨h1,h2⟩:=Y9 h;exact⟨h2 _ (.head _),λ_=>h1⟩
 |cons x l=>exact⟨h,λe=>by cases e⟩
theorem sC{o:BinOp}{t e t':TypeId}{x y:Operand}{q:Bool}{p:Option Addr}{l c:Nat}(h:yX o=some q)(ht:P.underlying t=some (.slice e))(hx:ev σ x= .slice p l c)(hy:ev σ y= .slice none 0 0):
  XO P σ w (.binOp o t x y t') (.bool (p.isNone==q)):=by
 cases o<;>simp only[yX,Ajx,reduceCtorEq]at h<;>subst h
 ·have:=X.bin (w:=w) (t':=t') hx hy (Bin.Aqz ht p l c);simpa using this
 ·have:=X.bin (w:=w) (t':=t') hx hy (Bin.Aoo ht p l c);cases p<;>simpa using this
theorem elem_nil{B:Reg}{e:ET}{l:List e.T}(hz:Nat.ble 1 e.size=true)(h:Bq (Ap B w e) l []):l=[]:=by
 have h1:=Bq.len (λx c h=>Ap.len h) h;have h2:1<=e.size:=by simpa using hz
 cases l with
 |nil=>rfl
 |cons a l=>
  simp only[Aj1,List.length_nil]at h1;have:0<(l.length+1)*e.size:=Nat.mul_pos (by omega) (by omega);omega
theorem Am2{o:BinOp}{t t':TypeId}{x y:Operand}{a:PV}{dn:Nat}{G:Prop}(hr:Rel Z s σs A L σ w)(hd:Jt n ⟨some dn, .binOp o t x y t',ty,pos,after,none⟩=true)(hx:Ed s.sl x=a)(hy:Ed s.sl y= .nils)
  (h:Al3 P s dn o t a k=some r):AY P n ops ⟨some dn, .binOp o t x y t',ty,pos,after,none⟩ Z s σs k r G A L σ w:=by
 have hm:=hr.mem;have hy':=GJ (Cu hm.sl hy rfl);unfold Al3 at h;split at h
 ·rename_i q e hq ht;have main:∀{α:Type} {l:List α} {p:Option Addr} {len c:Nat},ev σ x= .slice p len c-> (p=none->l=[])->R6 l (k (s.set dn (.b q))) (k (s.set dn (.b (!q))))=some r->AY P n ops ⟨some dn, .binOp o t x y t',ty,pos,after,none⟩ Z s σs k r G A L σ w:=by
   intro α l p len c hv hp h;obtain⟨h1,h2⟩:=Aqf h;cases hn:p.isNone with
   |true=>
    have hk:=h2 (hp (by simpa using hn));have hxo:=sC (w:=w) (t':=t') hq ht hv hy';rw[hn]at hxo;have hb:(true==q)=q:=by cases q<;>rfl
    rw[hb]at hxo;exact Ds (p:= .b q) hr hd hxo rfl rfl hk
   |false=>
    have hxo:=sC (w:=w) (t':=t') hq ht hv hy';rw[hn]at hxo;have hb:(false==q)=!q:=by cases q<;>rfl
    rw[hb]at hxo;exact Ds (p:= .b (!q)) hr hd hxo rfl rfl h1
  split at h
  ·have hv:=GJ (Cu hm.sl hx rfl);have hxo:=sC (w:=w) (t':=t') hq ht hv hy';have hb:((none:Option Addr).isNone==q)=q:=by cases q<;>rfl
   rw[hb]at hxo;exact Ds (p:= .b q) hr hd hxo rfl rfl h
  ·split at h
   ·obtain⟨hz,h⟩:=Ay h;obtain⟨c0,h1,h2⟩:=Zp (Cu hm.sl hx rfl);have h1':=h1;obtain⟨p,len,cap,hv,h3,h4,h5,h6⟩:=h1;refine main hv (λhp=>?_) h;subst hp;have:c0=[]:=Go.Lv.Rd.Aa3 (by rw[<-hv];exact h1');subst this;have:=h5 rfl;exact elem_nil hz h2
   ·cases h
  ·rename_i i;split at h
   ·rename_i E e' l hi;obtain⟨hz,h⟩:=Ay h;obtain⟨v,cs,h1,h2⟩:=hm.arr hi;obtain⟨z,E',c0,h3⟩:=KK (Cu hm.sl hx rfl);rw[h1]at h3;cases h3;have hrd:=hr.Tc h1;have h1':=hrd;obtain⟨p,len,cap,hv,h4,h5,h6,h7⟩:=hrd;refine main hv (λhp=>?_) h;subst hp;have:cs=[]:=Go.Lv.Rd.Aa3 (by rw[<-hv];exact h1');subst this;exact elem_nil hz h2
   ·cases h
  ·cases h
 ·cases h
theorem Ab5{i b off:Nat}{md:MD}{ns:List Value}{F:List Fact}(hr:St A w F (L.map MD.Ia))(h:L[i]? =some md)(hb:md.base=some b)(h1:ns.all (·.oneCell')=true)(hle:off+ns.length<=md.cells.length)(hz:0<ns.length):
  ∃w' md',(storeCells ⟨b,off,none⟩ ns).run P w= .ok () w'/\St A w' F ((L.map MD.Ia).set i md'.Ia)/\Xh off ns md md':=by
 cases md with
 |dead=>cases hb
 |box b' cells T=>
  cases hb;have hL:(L.map MD.Ia)[i]? =some (Mob.box b cells T):=Y1 h;have hr':=Gs (P:=P) b T (0,0) ns off 0 cells w (hr.box hL) (by simpa [MD.cells]using hle) (.inr (.inr (Aj0 _))) (λv hv=>by simpa using List.all_eq_true.1 h1 v hv);simp only[Aw6]at hr';exact⟨_, .box b (Bb cells off ns) T,hr',hr.Al7 hL,rfl⟩
 |own z' E u cs=>
  obtain⟨b',m,c,hu,hs'⟩:=St.dx hr (Y1 h) (by simp[MD.cells]at hle;omega);subst hu;cases hb;have hlen:i<(L.map MD.Ia).length:=by simpa using(List.getElem?_eq_some_iff.1 h).1
  have hL:((L.map MD.Ia).set i (.at_ b z' E m c cs))[i]? =some (.at_ b z' E m c cs):=by rw[List.getElem?_set_self hlen]
  have hle':off+ns.length<=cs.length:=hle;have hcore:∃w',(storeCells ⟨b,off,none⟩ ns).run P w= .ok () w'/\St A w' F (((L.map MD.Ia).set i (.at_ b z' E m c cs)).set i (.at_ b z' E m c (Bb cs off ns))):=by
   obtain⟨o,ho,_,_⟩:=(hs'.front hL).mobs;obtain⟨rfl,ho⟩:=ho;have ho':=ho;obtain⟨_,len,cap,e,h3,h4,h5,h5',h6⟩:=ho;cases e;obtain⟨arr,fr,e,hbb,hsz',hfz,hcells⟩:=h6 b rfl;have hcl:cs.length<=arr.size:=by rw[h3,hsz'];exact Ab4 _ h4
   have hr':=Gs (P:=P) b E fr ns off 0 arr.toList w (by simpa using hbb) (by simp;omega) (by simp;rcases hfz with h|h;exact .inr (.inr (Nat.le_of_eq h.symm));exact .inr (.inl h)) (λv hv=>by simpa using List.all_eq_true.1 h1 v hv);simp only[Aw6]at hr';have hbl:=lt_of_heap hbb;have hcs':(Bb cs off ns).length=cs.length:=Fo (by omega);have hget:∀i,i<m*z'-> (Bb arr.toList off ns)[i]? =(Bb cs off ns)[i]? :=λi hi=>by
    have An7:min off arr.toList.length=off:=by simp;omega
    have An8:min off cs.length=off:=by omega
    simp only[Bb,List.getElem?_append,Afw,An7,An8,List.getElem?_take,List.getElem?_drop];by_cases g1:i<off
    ·rw[Abb g1,Abb g1,Abb g1,Abb g1];simpa using hcells i hi
    ·rw[Aba g1,Aba g1];by_cases g2:i-off<ns.length
     ·rw[Abb g2,Abb g2]
     ·rw[Aba g2,Aba g2];have e1:off+ns.length+(i-off-ns.length)=i:=by omega
      rw[e1];simpa using hcells i hi
   refine⟨_,hr',hs'.fS hL (b:=b) ⟨rfl,ho'⟩ ⟨rfl,_,m,c,rfl,by rw[hcs',h3],h4,h5,h5',λb' hb'=>?_⟩ ?_⟩
   ·cases hb';refine⟨(Bb arr.toList off ns).toArray,fr,rfl,by simp[Ft,hbl],?_,?_,λi hi=>?_⟩
    ·simp only[Avl];rw[Fo (by simp;omega)];simpa using hsz'
    ·simp only[Avl];rw[Fo (by simp;omega)];simpa using hfz
    ·simpa using hget i hi
   ·rintro⟨q,hq,q1,q2⟩;exact⟨q,hq,q1,q2,hq.1⟩
  obtain⟨w',g1,g2⟩:=hcore;have hs3:=g2.Avn (i:=i) (b:=b) (s:=z') (m:=m) (c:=c) (E:=E) (cs:=Bb cs off ns) (by rw[List.getElem?_set_self (by simpa using hlen)]);rw[List.set_set,List.set_set]at hs3;exact⟨w', .own z' E (.slice (some ⟨b,0,none⟩) m c) (Bb cs off ns),g1,hs3,rfl⟩
structure SrcW (P:Program) (w:World) (vy:Value) (z ly:Nat) (ys:List Value):Prop where
 len:(Builtin.lenOf vy).run P w= .ok ly w
 first:∀m,m<=ly-> (Builtin.firstCells z m vy).run P w= .ok (ys.take (m*z)).toArray w
theorem SrcW.rd{vy:Value}{z ly:Nat}{ys:List Value}(h:Rd (λ_=>True) w z vy ys)(hl:ys.length=ly*z)(hz:0<z):SrcW P w vy z ly ys:=by
 obtain⟨p,len,cap,rfl,h2,h3,h4,h5⟩:=h;have he:len=ly:=Aoj hz (h2.symm.trans hl);subst he;refine⟨rfl,λm hm=>?_⟩;cases p with
 |none=>
  have:m=0:=by have:=h4 rfl;omega
  subst this;simp[Builtin.firstCells]
 |some a=>
  have hlen:(ys.take (m*z)).length=m*z:=by
   rw[Afw,h2];have:=Ab4 z hm;omega
  simp only[Builtin.firstCells];by_cases hc:0<cap
  ·obtain⟨b,off,arr,T,fr,e1,_,e2,_,e4⟩:=h5 hc;cases e1;have:=Lh (P:=P) (w:=w) (b:=b) (off:=off) (ys.take (m*z)) (λi hi=>by
    rw[hlen]at hi;have h6:i<len*z:=Aj4 hi (Ab4 z hm);rw[cell_of e2,e4 i h6,List.getElem?_take,Abb hi])
   rw[hlen]at this;exact this
  ·have:m=0:=by omega
   subst this;simp[loadCells,loadCellsFrom]
theorem SrcW.str{l:List UInt8}:SrcW P w (sv l) 1 l.length (EN (k:= .u8) l):=by
 refine⟨by simp[Builtin.lenOf,ByteArray.size],λm hm=>?_⟩;simp only[Builtin.firstCells,mV,Aph];congr 1;simp[EN,List.map_take];rfl
theorem R4{e:ET}{t2:TypeId}{y:Operand}{m:List e.T}(hr:Rel Z s σs A L σ w)(hz:0<e.size)(h:Amt P s e t2 y=some m):∃ys,Bq (Ap (λb=>A b/\Z.R b) w e) m ys/\SrcW P w (ev σ y) e.size m.length ys:=by
 have hm:=hr.mem;have plain:elems s e (Ed s.sl y)=some m->∃ys,Bq (Ap (λb=>A b/\Z.R b) w e) m ys/\SrcW P w (ev σ y) e.size m.length ys:=by
  intro h;have hV:(Ed s.sl y).isV=true:=by
   cases hq:(Ed s.sl y).isV with
   |true=>rfl
   |false=>rcases Zw hq with h'|h'|⟨_,_,_,h'⟩<;>rw[h']at h<;>cases h
  obtain⟨c0,h1,h2⟩:=pH hm h (Qs hm.sl y hV);have hrd:Rd (λ_=>True) w e.size (ev σ y) c0:=by
   rcases h2 with h2|⟨j,E',u,cs',_,h2,hpart⟩
   ·exact h2.step (λ_ _=>trivial) (λ_ _=>rfl)
   ·exact hpart _ _ (hr.Tc h2)
  exact⟨c0,h1, .rd hrd (h1.len λx c h=>Ap.len h) hz⟩
 unfold Amt at h;split at h
 ·split at h
  ·rename_i m0 hy;unfold jB at h;split at h
   ·rename_i he;cases he;cases h;rw[Tw hm.sl hy];exact⟨EN m0,Aco.PJ, .str⟩
   ·cases h
  ·cases h
 ·unfold Akz at h;split at h
  ·rename_i i p e1 lo n' hy;split at h
   ·rename_i T v hi;split at h
    ·rename_i a x hg;split at h
     ·rename_i q a l;obtain⟨hb,h⟩:=Ay h;simp only[Abz,Ab2]at hb;obtain⟨⟨k1,k2,k3⟩,rfl⟩:=hb;split at h
      ·rename_i ha;subst ha;cases h;obtain⟨md,v1,h3,h4,g1,g2,⟨pt,cap,g3,g4,g5,g6⟩,_⟩:=Cu hm.sl hy rfl;have h6:ev σ y=v1:=by simpa using h4
       obtain⟨b,cells,h7,h8⟩:=hm.box hi;rw[h7]at h3;cases h3;obtain⟨c1,c2,c3,he,h9,h10,h11⟩:=bR hg h8;have mO:=h11.len λx c h=>Ap.len h;obtain⟨lo',rfl⟩:=Ake k1;obtain⟨n1,rfl⟩:=Ake k2;simp only[Aiq]at g3 g4 g6;have hq:lo'+n1<=l.length:=by rw[h10];omega
       have hsub:(SL l lo' n1).length=n1:=by simp[SL];omega
       have e5:lo'*a.size+n1*a.size<=l.length*a.size:=by rw[<-Aux];exact Ab4 _ hq
       refine⟨(c2.drop (lo'*a.size)).take (n1*a.size),Bq.take (λx c h=>Ap.len h) _ (Bq.drop (λx c h=>Ap.len h) _ h11),?_,λm hm'=>?_⟩
       ·rw[h6,g3,hsub];rfl
       ·rw[hsub]at hm';rw[h6,g3];have hml:m*a.size<=n1*a.size:=Ab4 _ hm';cases pt with
        |none=>
         have:m=0:=by have:=g5 rfl;omega
         subst this;simp[Builtin.firstCells]
        |some ad=>
         simp only[Builtin.firstCells];by_cases hc:0<cap
         ·obtain⟨bb,e1,e2⟩:=g6 hc;cases e1;cases e2;have hlen3:(((c2.drop (lo'*a.size)).take (n1*a.size)).take (m*a.size)).length=m*a.size:=by
           simp only[Afw,Asn,mO];omega
          have:=Lh (P:=P) (w:=w) (b:=b) (off:=As p+lo'*a.size) (((c2.drop (lo'*a.size)).take (n1*a.size)).take (m*a.size)) (λi hi=>by
           rw[hlen3]at hi;have hcl:As p+lo'*a.size+i<(MD.box b cells T).cells.length:=by
            simp only[MD.cells,he,Aby,h9,mO];omega
           rw[hr.cells h7 rfl _ hcl];simp only[MD.cells];rw[he,List.getElem?_append_right (by omega),h9,show As p+lo'*a.size+i-As p=lo'*a.size+i by omega,List.getElem?_append_left (by rw[mO];omega),
            List.getElem?_take,Abb hi,List.getElem?_take,Abb (by omega),List.getElem?_drop])
          rw[hlen3]at this;exact this
         ·have:m=0:=by omega
          subst this;simp[loadCells,loadCellsFrom]
      ·cases h
     ·cases h
    ·cases h
   ·cases h
  ·exact plain h
 ·cases h
theorem uD(cs:List Value)(o:Nat):Bb cs o []=cs:=by simp[Bb]
theorem xq{t t2 E:TypeId}{vx vy:Value}{z ly nv J5 off i:Nat}{pt:Option Addr}{ys:List Value}{md:MD}{F:List Fact}(ht:P.underlying t=some (.slice E))(hsz:Ic P E z)(hsrc:SrcW P w vy z ly ys)(hys:ys.length=ly*z)(h1:ys.all (·.oneCell')=true)
  (hr:St A w F (L.map MD.Ia)) (h:L[i]? =some md) (hne:md≠ .dead) (hx:vx= .slice pt nv J5) (hcap:nv<=J5) (hpt:pt=none->J5=0) (hb:0<J5->∃b,md.base=some b/\pt=some ⟨b,off,none⟩) (hle:off+nv*z<=md.cells.length) (hz:0<z):
  ∃w' md',(Builtin.copy_ #[t,t2] ty #[vx,vy]).run P w= .ok (goInt (Nat.min ly nv)) w'/\St A w' F ((L.map MD.Ia).set i md'.Ia)/\Xh off (ys.take (nv*z)) md md':=by
 subst hx;have hmin:Nat.min ly nv<=ly:=Nat.min_le_left _ _;have jw:=hsrc.first _ hmin
 have htake:ys.take (Nat.min ly nv*z)=ys.take (nv*z):=by
  rcases Azv ly nv with h'|h'
  ·rw[show Nat.min ly nv=ly from Au6 h',<-hys,Axc,Aoy (by rw[hys];exact Ab4 z h')]
  ·rw[show Nat.min ly nv=nv from Ax8 h']
 rw[htake]at jw;have hmul:Nat.min ly nv*z<=nv*z:=Ab4 z (Nat.min_le_right _ _);have hlen:(ys.take (nv*z)).length=Nat.min ly nv*z:=by
  rw[<-htake,Afw,hys];have:=Ab4 z hmin;omega
 have hnone:(ys.take (nv*z))=[]->∃w' md',(Builtin.copy_ #[t,t2] ty #[.slice pt nv J5,vy]).run P w= .ok (goInt (Nat.min ly nv)) w'/\St A w' F ((L.map MD.Ia).set i md'.Ia)/\Xh off (ys.take (nv*z)) md md':=by
  intro he;refine⟨w,md,?_,?_,?_⟩
  ·rw[he]at jw;cases pt<;>simp[Builtin.copy_,Afc ht,hsrc.len,Bk hsz,jw,storeCells]
  ·rw[List.getElem?_eq_some_iff]at h;obtain⟨hlt,h⟩:=h;have:(L.map MD.Ia).set i md.Ia=L.map MD.Ia:=by
    rw[<-Azw,<-h,List.set_getElem_self]
   rw[this];exact hr
  ·rw[he];cases md with
   |dead=>exact absurd rfl hne
   |box b c T=>simp only[Xh,uD]
   |own z' E' v c=>simp only[Xh,uD]
 by_cases he:(ys.take (nv*z))=[]
 ·exact hnone he
 ·have hpos:0<(ys.take (nv*z)).length:=List.length_pos_iff.2 he;have hm0:0<Nat.min ly nv:=by
   rcases Nat.eq_zero_or_pos (Nat.min ly nv)with h'|h'
   ·rw[hlen,h']at hpos;simp at hpos
   ·exact h'
  have hnv:0<nv:=Aj4 hm0 (Nat.min_le_right _ _);obtain⟨b,e1,e2⟩:=hb (by omega);subst e2;obtain⟨w',md',g1,g2,g3⟩:=Ab5 (P:=P) (off:=off) hr h e1 (ns:=ys.take (nv*z)) (List.all_eq_true.2 λv hv=>List.all_eq_true.1 h1 v (List.mem_of_mem_take hv)) (by rw[hlen];omega) hpos;refine⟨w',md',?_,g2,g3⟩;simp[Builtin.copy_,Afc ht,hsrc.len,Bk hsz,jw,g1]
theorem Aag(nv k:Nat):RA (nv:Int) k=((Nat.min k nv:Nat):Int):=by
 unfold RA;rcases Ay8 k nv with h|h
 ·rw[Abb (by omega),show Nat.min k nv=k from Au6 (by omega)]
 ·rw[Aba (by omega),show Nat.min k nv=nv from Ax8 h]
theorem xB{B:Reg}{e:ET}{l m:List e.T}{cs ys:List Value}{lo nv:Nat}(hl:Bq (Ap B w e) l cs)(hm:Bq (Ap B w e) m ys):Bq (Ap B w e) (Sr l lo nv m) (Bb cs (lo*e.size) (ys.take (nv*e.size))):=by
 have h1:=Bq.take (λx c h=>Ap.len h) nv hm;have h2:=h1.len λx c h=>Ap.len h;have h3:=Bq.take (λx c h=>Ap.len h) lo hl;have h4:=Bq.drop (λx c h=>Ap.len h) (lo+(m.take nv).length) hl;unfold Sr Bb;simp only[Aiq];refine Bq.append h3 (Bq.append h1 ?_);rw[h2,<-Aux];exact h4
theorem Akf{α:Type}(l m:List α):G8 l m=Sr l ((0:Nat):Int) ((l.length:Nat):Int) m:=by
 unfold G8 Sr;simp only[Aiq,Axm,Avj,Au1,Afw];congr 1;rcases Azv m.length l.length with h|h
 ·rw[Ax8 h]
 ·rw[Au6 h,Azt (Aj0 _),Azt h]
theorem oq{t t2 E E':TypeId}{x y:Operand}{e:ET}{l m:List e.T}{ys cs:List Value}{u:Value}{lo nv J5 i:Nat}{pt:Option Addr}{ow:Option Nat}(hr:Rel Z s σs A L σ w)(hd:Jt n ⟨ow, .call ⟨.builtin .copy, #[x,y], #[t,t2]⟩,ty,pos,after,none⟩=true)
  (ht:P.underlying t=some (.slice E)) (hsz:Ic P E e.size) (hz:0<e.size) (hit:Cb s.it i= .arr E' e l) (hL:L[i]? =some (.own e.size E' u cs)) (hl:Bq (Ap (λb=>A b/\Z.R b) w e) l cs) (hm:Bq (Ap (λb=>A b/\Z.R b) w e) m ys) (hsrc:SrcW P w (ev σ y) e.size m.length ys)
  (hx:ev σ x= .slice pt nv J5) (hcap:nv<=J5) (hpt:pt=none->J5=0) (hb:0<J5->∃b,(MD.own e.size E' u cs).base=some b/\pt=some ⟨b,lo*e.size,none⟩) (hle:lo+nv<=l.length)
  (hk:k ((s.Ub i (.arr E' e (Sr l lo nv m))).Gm ow (.i .i64 (RA (nv:Int) m.length)))=some r):AY P n ops ⟨ow, .call ⟨.builtin .copy, #[x,y], #[t,t2]⟩,ty,pos,after,none⟩ Z s σs k r False A L σ w:=by
 have hcl:=hl.len λx c h=>Ap.len h;have hyl:=hm.len λx c h=>Ap.len h;have hF:=St.qC (f:=xT Z.R L (.arr E' e (Sr l lo nv m)) (Bb cs (lo*e.size) (ys.take (nv*e.size)))) hr (xB hl hm);obtain⟨w',md',g1,g2,g3⟩:=xq (P:=P) (ty:=ty) (t2:=t2) (off:=lo*e.size) ht hsz hsrc hyl hm.Y7 hF hL (by intro h;cases h) rfl hcap hpt hb (by
  show lo*e.size+nv*e.size<=cs.length;rw[hcl,<-Aux];exact Ab4 _ hle) hz
 simp only[Xh]at g3;subst g3;have key:=cW.own (cs':=Bb cs (lo*e.size) (ys.take (nv*e.size))) hL;have hr2:=Rel.change (a:= .arr E' e (Sr l lo nv m)) g2.uT hL key ⟨rfl,rfl,g2.fact 0 rfl⟩;refine WL.Adm (v:=goInt (Nat.min m.length nv)) rfl hd ?_ (WL.nil ⟨_,A,_,hk,hr2.Gm rfl ?_,λh=>h.elim⟩)
 ·simp[execOp,resolve,invoke,builtin,hx,g1]
 ·rw[Aag];rfl
theorem Af2{t t2:TypeId}{x y:Operand}{ow:Option Nat}(hr:Rel Z s σs A L σ w)(hd:Jt n ⟨ow, .call ⟨.builtin .copy, #[x,y], #[t,t2]⟩,ty,pos,after,none⟩=true)
  (h:U6 P s ow x y t t2 k=some r):AY P n ops ⟨ow, .call ⟨.builtin .copy, #[x,y], #[t,t2]⟩,ty,pos,after,none⟩ Z s σs k r False A L σ w:=by
 have hmm:=hr.mem;unfold U6 at h;split at h
 ·cases h
 ·rename_i E hE;have ht:=kB hE;split at h
  ·cases h
  ·rename_i inf Ua;split at h
   ·rename_i i hx;split at h
    ·rename_i E' e l hit;obtain⟨hb,h⟩:=Ay h;simp only[Abz]at hb;have hz:0<e.size:=by have:=Au4 hb.2;omega
     split at h
     ·rename_i m hsrc;obtain⟨ys,h1,h2⟩:=R4 hr hz hsrc;obtain⟨u,cs,h3,h4⟩:=hmm.arr hit;obtain⟨z',E2,c',h5⟩:=KK (Cu hmm.sl hx rfl);rw[h3]at h5;cases h5;obtain⟨q,len,cap,g1,g2,g3,g4,g5⟩:=hr.At0 h3;have hl:len=l.length:=Aoj hz (g2.symm.trans (h4.len λx c h=>Ap.len h));rw[Akf]at h;exact oq (lo:=0) (nv:=l.length) (ys:=ys) hr hd ht (Ey Ua hb.1) hz hit h3 h4 h1 h2 (by rw[g1,hl]) (by omega) g4 (λhc=>by obtain⟨b,e1,e2⟩:=g5 hc;exact⟨b,e2,by rw[e1];simp⟩) (by omega) h
     ·cases h
    ·cases h
   ·rename_i i p e1 lo n' hx;split at h
    ·rename_i E' e l hit;obtain⟨hb,h⟩:=Ay h;simp only[Abz,Ab2]at hb;obtain⟨⟨hb1,hb2⟩,rfl⟩:=hb;have hz:0<e1.size:=by have:=Au4 hb2;omega
     split at h
     ·rename_i m hsrc;obtain⟨ys,h1,h2⟩:=R4 hr hz hsrc;obtain⟨u,cs,h3,h4⟩:=hmm.arr hit;obtain⟨md,v1,h5,h6,k1,k2,⟨pt,cap,k3,k4,k5,k6⟩,k7,_⟩:=Cu hmm.sl hx rfl;rw[h3]at h5;cases h5;have h7:ev σ x=v1:=by simpa using h6
      obtain⟨lo',rfl⟩:=Ake k1;obtain⟨n1,rfl⟩:=Ake k2;simp only[Aiq]at k3 k4 k6 k7;obtain⟨s',E2,q,len,cap0,c0,e1',rfl,e3,_⟩:=k7 trivial;cases e1';obtain⟨q',len',cap',g1,g2,_⟩:=hr.At0 h3;cases g1;have hl:len=l.length:=Aoj hz (g2.symm.trans (h4.len λx c h=>Ap.len h));exact oq (lo:=lo') (nv:=n1) (ys:=ys) hr hd ht (Ey Ua hb1) hz hit h3 h4 h1 h2 (h7.trans k3) k4 k5 (λhc=>by obtain⟨b,e4,e5⟩:=k6 hc;exact⟨b,e4,by rw[e5];simp[As]⟩) (by omega) h
     ·cases h
    ·cases h
   ·rename_i i p e1 lo n' hx;split at h
    ·rename_i T v hit;split at h
     ·rename_i a0 x0 hg;split at h
      ·rename_i q e l;obtain⟨hb,h⟩:=Ay h;simp only[Abz,Ab2]at hb;obtain⟨⟨⟨hb1,hb2⟩,rfl⟩,k1,k2,k3⟩:=hb;have hz:0<e1.size:=by have:=Au4 hb2;omega
       split at h
       ·rename_i m hsrc;obtain⟨ys,h1,h2⟩:=R4 hr hz hsrc;obtain⟨md,v1,h5,h6,_,_,⟨pt,cap,g3,g4,g5,g6⟩,_⟩:=Cu hmm.sl hx rfl;have h7:ev σ x=v1:=by simpa using h6
        obtain⟨b,cells,h8,h9⟩:=hmm.box hit;rw[h8]at h5;cases h5;obtain⟨c1,c2,c3,he,h10,h11,h12⟩:=bR hg h9;have mO:=h12.len λx c h=>Ap.len h;have hyl:=h1.len λx c h=>Ap.len h;obtain⟨lo',rfl⟩:=Ake k1;obtain⟨n1,rfl⟩:=Ake k2;simp only[Aiq]at g3 g4 g6;have hq:lo'+n1<=l.length:=by rw[h11];omega
        have e5:lo'*e1.size+n1*e1.size<=l.length*e1.size:=by rw[<-Aux];exact Ab4 _ hq
        have hk1:=Bq.take (λx c h=>Ap.len h) n1 h1;have hk2:=hk1.len λx c h=>Ap.len h;have hk3:(ys.take (n1*e1.size)).length<=n1*e1.size:=by rw[Afw];omega
        have hcp:=xB (lo:=lo') (nv:=n1) h12 h1;have Awq:(Bb c2 (lo'*e1.size) (ys.take (n1*e1.size))).length=c2.length:=Fo (by rw[mO];omega);have Ayh:Ba (λb=>A b/\Z.R b) w L (.val (.vec q e1) (Sr l lo' n1 m)) (Bb c2 (lo'*e1.size) (ys.take (n1*e1.size))):=by
         refine⟨?_,hcp⟩;have:=hcp.len λx c h=>Ap.len h;rw[Awq,mO]at this;rw[<-h11];exact(Aoj hz this).symm
        obtain⟨v',hk,_,hv'⟩:=oP Ayh h h9;have hcells:Bb cells (As p) (Bb c2 (lo'*e1.size) (ys.take (n1*e1.size)))=Bb cells (As p+lo'*e1.size) (ys.take (n1*e1.size)):=by
         rw[he,VX h10 _ (by rw[mO];omega),<-h10,ZF Awq]
        rw[hcells]at hv';have hF:=St.qC (f:=xT Z.R L (.box T v') (Bb cells (As p+lo'*e1.size) (ys.take (n1*e1.size)))) hr hv';obtain⟨w',md',g1,g2,g3'⟩:=xq (P:=P) (ty:=ty) (t2:=t2) (off:=As p+lo'*e1.size) ht (Ey Ua hb1) h2 hyl h1.Y7 hF h8 (by intro h;cases h) rfl g4 g5 (λhc=>by obtain⟨b,e4,e5⟩:=g6 hc;exact⟨b,e4,e5⟩) (by
         show As p+lo'*e1.size+n1*e1.size<=cells.length;rw[he];simp only[Aby,h10,mO];omega) hz
        simp only[Xh]at g3';subst g3';have key:=cW.box (cs':=Bb cells (As p+lo'*e1.size) (ys.take (n1*e1.size))) h8;have hr2:=Rel.change (a:= .box T v') g2.uT h8 key ⟨rfl,Ba.step (λ_ h=>h) (λ_ _=>rfl) key (g2.fact 0 rfl)⟩;refine WL.Adm (v:=goInt (Nat.min m.length n1)) rfl hd ?_ (WL.nil ⟨_,A,_,hk,hr2.Gm rfl ?_,λh=>h.elim⟩)
        ·rw[<-g3,<-h7]at g1;simp[execOp,resolve,invoke,builtin,g1]
        ·rw[Aag];rfl
       ·cases h
      ·cases h
     ·cases h
    ·cases h
   ·cases h
theorem xG{g:Nat}{cs:List Value}:∀{l:List (Nat×List Value)},Ao3 l g=some cs-> (g,cs)∈l
 |[],h=>by cases h
 |(q,c)::r,h=>by
  simp only[Ao3]at h;cases hb:Nat.beq q g with
  |true=>
   rw[hb]at h;have:=Ce hb;subst this;cases h;exact .head _
  |false=>rw[hb]at h;exact .tail _ (xG h)
theorem Ac7{g:Nat}{t:TypeId}{v:PV}(hT:lB P T Z)(hr:Rel Z s σs A L σ w)(h:T.glv P g t=some v):∃cs T1 fr,w.heap[g]? =some (.cells cs.toArray T1 fr)/\ (A g/\Z.R g)/\Ba (λb=>A b/\Z.R b) w L v cs:=by
 unfold Tab.glv at h;split at h
 ·rename_i cs hg;split at h
  ·rename_i v' hp;cases h;obtain⟨h1,T1,fr,h2⟩:=hr.Acn (p:=(g,cs)) (by rw[hT.2];exact xG hg);obtain⟨c,e1,h3⟩:=XD (B:=λb=>A b/\Z.R b) (w:=w) (L:=L) Q hp;rw[Aun]at e1;subst e1;exact⟨_,T1,fr,h2,h1,h3⟩
  ·cases h
 ·cases h
theorem Y8{o:Op}{g dn:Nat}{G:Prop}(hT:lB P T Z)(hr:Rel Z s σs A L σ w)(hd:Jt n ⟨some dn,o,ty,pos,after,none⟩=true)
  (ho:(∃t,o= .load t (.global g))\/ (∃t ix,o= .indexAddr t (.global g) ix)\/ (∃t lo hi,o= .slice t (.global g) lo hi none)) (h:nX P T s dn g o k=some r):
  AY P n ops ⟨some dn,o,ty,pos,after,none⟩ Z s σs k r G A L σ w:=by
 have hm:=hr.mem;rcases ho with⟨t,rfl⟩|⟨t,ix,rfl⟩|⟨t,lo,hi,rfl⟩
 ·simp only[nX]at h;split at h
  ·rename_i v hv;obtain⟨hb,hk⟩:=Ay h;obtain⟨cs,T1,fr,h1,h2,h3⟩:=Ac7 hT hr hv;obtain⟨val,h7,h8⟩:=H3 (P:=P) (σ:=σ) (x:= .global g) (b:=g) (off:=0) (Qa hb) h3 (λj hj=>by rw[cell_of h1];simp) rfl;obtain⟨hv,hv'⟩:=Jc h7;exact Ds hr hd h8 hv hv' hk
  ·cases h
 ·simp only[nX]at h;split at h
  ·rename_i j m et e0 l0 hj ht hv;obtain⟨q,hix⟩:=IK hj (Qs hm.sl ix (TC hj));split at h
   ·rename_i inf m' e l Ua;obtain⟨hb,h⟩:=Ay h;simp only[Abz]at hb;obtain⟨y,hy,hk⟩:=bind_some h;obtain⟨hj0,hj1,hj2⟩:=Iz hy;obtain⟨cs,T1,fr,h1,h2,h3,h4⟩:=Ac7 hT hr hv;obtain⟨c1,c2,c3,he,h8,h9,_⟩:=Bq.get (λx c h=>Ap.len h) h4 hj2;have hmm:=Ce hb.1.1;subst hmm;have h10:c2.length=e.size:=h9.len;have hp:S5 (λb=>A b/\Z.R b) w (.pointer (some ⟨g,0+j.toNat*e.size,none⟩)) c2:=by
     refine⟨g,0+j.toNat*e.size,_,T1,fr,rfl,h2,h1,λq hq=>?_⟩;rw[List.getElem?_toArray,he,Au1,List.getElem?_append_right (by omega),h8,show j.toNat*e.size+q-j.toNat*e.size=q by omega,List.getElem?_append_left hq]
    have hvr:Ef (λb=>A b/\Z.R b) w L (.rptr (e.pv y)) (.pointer (some ⟨g,0+j.toNat*e.size,none⟩)):=⟨_,c2,rfl,hp,VL.2 h9⟩;exact Ds hr hd (VF (x:= .global g) ht (Ey Ua hb.1.2) rfl hix (by omega) (by rw[<-show l.length=m' from h3];omega) w) rfl hvr hk
   ·cases h
  ·cases h
 ·simp only[nX]at h;split at h
  ·rename_i u m et hat;split at h
   ·rename_i e0 l0 hv;split at h
    ·rename_i inf m' e l Ua;obtain⟨hb,h⟩:=Ay h;simp only[Abz]at hb;split at h
     ·rename_i a b ha hb';obtain⟨y,hy,hk⟩:=bind_some h;obtain⟨k1,k2,k3,k4,rfl⟩:=OB hy;obtain⟨cs,T1,fr,h1,h2,h3,h4⟩:=Ac7 hT hr hv;have hmm:=Ce hb.1.1;subst hmm;have hlen:=h4.len λx c h=>Ap.len h;have hz:0<e.size:=by have:=Au4 hb.2;omega
      have hm3:l.length=m':=h3;have hxo:=X.P8 (P:=P) (σ:=σ) (w:=w) (x:= .global g) (lo:=lo) (hi:=hi) (a:=a.toNat) (b:=b.toNat) (ad:=⟨g,0,none⟩) hat (Ey Ua hb.1.2) k3 (by omega) rfl
       (by rcases Kw hm.sl ha with h|⟨h,h'⟩;exact .inl (by rw[<-k1];exact h);exact .inr ⟨h,by omega⟩) (by rcases Kw hm.sl hb' with h|⟨h,h'⟩;exact .inl (by rw[<-k2];exact h);exact .inr ⟨h,by omega⟩)
      have e5:a.toNat*e.size<=b.toNat*e.size:=Ab4 _ k3;have e6:b.toNat*e.size<=l.length*e.size:=Ab4 _ k4;have e7:(b.toNat-a.toNat)*e.size=b.toNat*e.size-a.toNat*e.size:=Az0 _ _ _;refine Ds hr hd hxo rfl (kT ⟨_,_,_,rfl,?_,by omega,(λh=>by cases h),λhc=>?_⟩ (Bq.drop (λx c h=>Ap.len h) _ (Bq.take (λx c h=>Ap.len h) _ h4))) hk
      ·rw[Asn,Afw,hlen,e7];omega
      ·rw[Aba (by omega),Mm];refine⟨g,0+a.toNat*e.size,_,T1,fr,rfl,h2,h1,?_,λi hi=>?_⟩
       ·simp only[Avl,hlen,hm3];have:(m'-a.toNat)*e.size=m'*e.size-a.toNat*e.size:=Az0 _ _ _;have:a.toNat*e.size<=m'*e.size:=Ab4 _ (by omega);omega
       ·rw[List.getElem?_toArray,Au1,List.getElem?_drop,List.getElem?_take,Abb (by omega)]
     ·cases h
    ·cases h
   ·cases h
  ·cases h
theorem Aty{o:Op}{dn:Nat}(hT:lB P T Z)(hI:EX P T.gl inl)(hr:Rel Z s σs A L σ w)(hd:Jt n ⟨some dn,o,ty,pos,after,none⟩=true)(h:op2 P T inl s dn ty o k=some r):
  AY P n ops ⟨some dn,o,ty,pos,after,none⟩ Z s σs k r (N3 T s ⟨some dn,o,ty,pos,after,none⟩=true) A L σ w:=by
 have hm:=hr.mem;unfold op2 at h;split at h
 ·
  rename_i o t x y t';split at h
  ·rename_i a u b v hx hy;split at h
   ·rename_i c q hc hq;obtain⟨_,hok,h⟩:=bind_some h;have:=Xx hok;subst this;obtain⟨hv,val,hb,hvr⟩:=vZ (P:=P) (w:=w) (L:=L) (B:=λb=>A b/\Z.R b) (t:=t) hq hc;exact Ds hr hd (X.bin (Yd hm.sl hx) (Yd hm.sl hy) hb) hv hvr h
   ·cases h
  ·rename_i u v hx hy;split at h
   ·obtain⟨q,hq,h⟩:=bind_some h;exact Ds (p:= .val .str q) hr hd (X.Amk (Tw hm.sl hx) (Tw hm.sl hy) hq) rfl rfl h
   ·cases h
  ·rename_i a h1 h2 hy;exact Am2 hr hd rfl hy h
  ·cases h
 ·
  rename_i t x ix;split at h
  ·rename_i j e0 l0 hj hx;obtain⟨q,hix⟩:=IK hj (Qs hm.sl ix (TC hj));split at h
   ·rename_i l ht;obtain⟨y,hy,h⟩:=bind_some h;exact Ds (p:= .i .u8 y) hr hd (X.Akj ht (Tw hm.sl hx) hix hy) rfl rfl h
   ·rename_i m e l m' et ht;obtain⟨hb,h⟩:=Ay h;obtain⟨y,hy,h⟩:=bind_some h;obtain⟨hk,hkk⟩:=Ay h;have hok:=Qa hk;have hv:Gl (λb=>A b/\Z.R b) w L (.val (.vec m e) l) (ev σ x):=Cu hm.sl hx rfl;obtain⟨cs,h1,h2,h3⟩:=hv;have hsz:(e.pv y).size=e.size:=by
     obtain⟨_,_,h5⟩:=Iz hy;obtain⟨_,c2,_,_,_,h6,_⟩:=Bq.get (λx c h=>Ap.len h) h3 h5;rw[<- (VL (L:=L).2 h6).len,h6.len]
    have hmm:=Ce hb;subst hmm;obtain⟨d0,hd0,ha0⟩:=hok.agg;obtain⟨val,h4,h5⟩:=Ao2 (L:=L) ht (by rw[<-hsz];exact hok.size) ⟨d0,hd0,ha0⟩ (λhA=>by rw[<-hsz];exact hok.one hA) h2 h1 h3 hix hy;obtain⟨hv,hv'⟩:=Jc h5;exact Ds hr hd h4 hv hv' hkk
   ·cases h
  ·cases h
 ·split at h
  ·exact Y8 hT hr hd (.inr (.inr ⟨_,_,_,rfl⟩)) h
  ·exact Ak3 hr hd h (λg=>g)
 ·split at h
  ·exact Y8 hT hr hd (.inr (.inl ⟨_,_,rfl⟩)) h
  ·exact Ab9 hr hd h
 ·split at h
  ·exact Y8 hT hr hd (.inl ⟨_,rfl⟩) h
  ·exact Ara hr hd h
 ·
  split at h
  ·rename_i v hz;exact Akp hr hd hz h
  ·cases h
 ·obtain⟨hb,h⟩:=Ay h;exact As1 hr hd hb h
 ·split at h
  ·rename_i v hv;obtain⟨hA,h⟩:=Ay h;obtain⟨h1,h2⟩:=K3 (B:=λb=>A b/\Z.R b) (w:=w) (L:=L) hv hA;exact Ds hr hd (X.assign rfl) h1 h2 h
  ·cases h
 ·split at h
  ·rename_i v hv;obtain⟨hA,h⟩:=Ay h;obtain⟨h1,h2⟩:=K3 (B:=λb=>A b/\Z.R b) (w:=w) (L:=L) hv hA;exact Ds hr hd (X.move rfl) h1 h2 h
  ·cases h
 ·exact Aj8 hr hd h
 ·exact I7 hr hd h (λg=>g)
 ·exact Aql hr hd h
 ·
  split at h
  ·rename_i e ha ht;split at h
   ·rename_i l he hx;exact Aco hr hd ha ht he hx h
   ·cases h
  ·rename_i e ha ht;obtain⟨hb,h1⟩:=Ay h;clear h;have:=Ce hb;subst this;split at h1
   ·rename_i i he hx;split at h1
    ·rename_i E e' l hi;split at h1
     ·rename_i y ys;exact Aoq hr hd ht he hx hi h1
     ·cases h1
    ·cases h1
   ·cases h1
  ·cases h
 ·
  rename_i as ts;split at h
  ·rename_i x y t t2 has hts;have h1:=HF has;have h2:=HF hts;subst h1 h2;refine NV (Ajq hr hd h) ?_;rintro σ' w' ⟨s',A',L',g1,g2,g3⟩;exact⟨s',A',L',g1,g2,λg=>by simp[N3,brk]at g⟩
  ·cases h
 ·
  rename_i as ts;split at h
  ·rename_i x y t t2 has hts;have h1:=HF has;have h2:=HF hts;subst h1 h2;refine NV (Af2 hr hd h) ?_;rintro σ' w' ⟨s',A',L',g1,g2,g3⟩;exact⟨s',A',L',g1,g2,λg=>by simp[N3,brk]at g⟩
  ·cases h
 ·
  rename_i as ts;split at h
  ·rename_i x t has hts;have h1:=HF has;have h2:=HF hts;subst h1 h2;split at h
   ·rename_i e ht hx;refine Ds (p:= .i .i64 (0:Int)) hr hd (val:=iv (0:Int)) (λ_ _ _ _ _=>?_) rfl rfl h;have hv:=GJ (Cu hm.sl hx rfl);simp[execOp,resolve,invoke,builtin,hv,Builtin.cap_,Afc ht,goInt];rfl
   ·cases h
  ·cases h
 ·
  rename_i g as ts;split at h
  ·rename_i f caps hg;refine Ap1 hT hI hr hg hd h (λgg=>?_);unfold N3 at gg;split at gg
   ·rename_i heq;cases heq
   ·rename_i heq;cases heq
   ·rename_i f' as' ts' heq;cases heq;cases hg;split at gg
    ·rename_i c hc;simp only[Abz,Awf,Au3]at gg;exact⟨c,hc,gg.1,gg.2.imp id isEmpty_nil⟩
    ·cases gg
   ·rename_i h1 h2 h3;simp only[brk]at gg;split at gg<;>simp_all
  ·cases h
 ·exact Ajd hr hd h (λg=>g)
 ·cases h
end Go.Rx
namespace Go.Rx
open Go Go.Lv
variable {P:Program} {w w':World} {L:List MD} {s:S} {σs:List Env} {σ:Env} {Z:Fix} {A:Reg}
theorem XY{α:Type 1}{c:Bool}{x:Option α}{y:α}(h:(Cm (c) (x)<|none)=some y):c=true/\x=some y:=by cases c<;>simp_all
theorem Acg{o:Op}{b:BV}{x:b.X}(hr:Rel Z s σs A L σ w)(h:bnd P s o=some b)(hx:b.E=some x):(b.v x).isV=true/\∃val,(∀w',XO P σ w' o val)/\Ef (λb=>A b/\Z.R b) w L (b.v x) val:=by
 have hm:=hr.mem;unfold bnd at h;split at h
 ·
  rename_i o t x y t';split at h
  ·rename_i a u b v hx' hy;split at h
   ·rename_i c q hc hq;cases h;have:=Xx hx;subst this;obtain⟨hv,val,hb,hvr⟩:=vZ (P:=P) (w:=w) (L:=L) (B:=λb=>A b/\Z.R b) (t:=t) hq hc;exact⟨hv,val,λw'=>X.bin (Yd hm.sl hx') (Yd hm.sl hy) hb,hvr⟩
   ·cases h
  ·rename_i u v hx' hy;split at h
   ·cases h;exact⟨rfl,_,λw'=>X.Amk (Tw hm.sl hx') (Tw hm.sl hy) hx,rfl⟩
   ·cases h
  ·cases h
 ·
  split at h
  ·rename_i j l hj hx' ht;cases h;obtain⟨q,hix⟩:=IK hj (Qs hm.sl _ (TC hj));exact⟨rfl,_,λw'=>X.Akj ht (Tw hm.sl hx') hix hx,rfl⟩
  ·cases h
 ·
  split at h
  ·rename_i ht;split at h
   ·rename_i l hx';split at h
    ·rename_i a b ha hb;cases h;exact⟨rfl,_,λw'=>X.Avp ht (Tw hm.sl hx') hx (Kw hm.sl ha) (Kw hm.sl hb),rfl⟩
    ·cases h
   ·cases h
  ·rename_i et ht;split at h
   ·rename_i e0 l0 hx';split at h
    ·rename_i e l;split at h
     ·rename_i inf Ua;obtain⟨hb,h⟩:=XY h;simp only[Abz]at hb;split at h
      ·rename_i a b ha hb';cases h;obtain⟨h1,h2,h3,h4,h5'⟩:=OB hx;obtain⟨c0,h5,h6⟩:=Zp (Cu hm.sl hx' rfl);have hlen:=h6.len λx c h=>Ap.len h;obtain⟨p',l',c',h7,h8⟩:=X.Aak (P:=P) (l:=a.toNat) (k:=b.toNat) (m:=l.length) ht (Ey Ua hb.1) (St.Am3 hr h5) (j:=0) rfl hlen (jl hb.2) h3 h4;refine⟨rfl, .slice p' l' c',λw'=>h7 σ w' _ _ _ rfl (by rcases Kw hm.sl ha with h|⟨h,h'⟩;exact .inl (by rw[<-h1];exact h);exact .inr ⟨h,by omega⟩)
        (by rcases Kw hm.sl hb' with h|⟨h,h'⟩;exact .inl (by rw[<-h2];exact h);exact .inr ⟨h,by rw[h'];simp[Ac]⟩),?_⟩
       rw[h5'];exact kT (h8.fact 0 rfl) (Bq.drop (λx c h=>Ap.len h) _ (Bq.take (λx c h=>Ap.len h) _ h6))
      ·cases h
     ·cases h
    ·cases h
   ·cases h
  ·cases h
 ·
  split at h
  ·cases h
  ·rename_i j hj;obtain⟨q,hix⟩:=IK hj (Qs hm.sl _ (TC hj));split at h
   ·rename_i et ht;split at h
    ·cases h
    ·rename_i inf Ua;split at h
     ·rename_i e0 l0 hx';split at h
      ·rename_i e l;obtain⟨hb,h⟩:=XY h;cases h;simp only[Abz]at hb;obtain⟨hj0,hj1,hj2⟩:=Iz hx;obtain⟨c0,h1,h2⟩:=Zp (Cu hm.sl hx' rfl);obtain⟨p,len,cap,h3,h4,h5,h6,h7⟩:=h1;have hlen:=h2.len λx c h=>Ap.len h;have hz:0<e.size:=by have:=Au4 hb.2;omega
       have hl:len=l.length:=Aoj hz (h4.symm.trans hlen);subst hl;obtain⟨b,off,arr,T,fr,rfl,hB,hbl,hcap,hc⟩:=h7 (by omega);obtain⟨c1,c2,c3,he,h8,h9,_⟩:=Bq.get (λx c h=>Ap.len h) h2 hj2;have h10:c2.length=e.size:=h9.len;have h11:(j.toNat+1)*e.size<=l.length*e.size:=Ab4 _ hj1;rw[Aza]at h11;have hp:S5 (λb=>A b/\Z.R b) w (.pointer (some ⟨b,off+j.toNat*e.size,none⟩)) c2:=by
        refine⟨b,off+j.toNat*e.size,arr,T,fr,rfl,hB,hbl,λq hq=>?_⟩;rw[Auz,hc _ (by omega),he,List.getElem?_append_right (by omega),h8,show j.toNat*e.size+q-j.toNat*e.size=q by omega,List.getElem?_append_left hq]
       have hvr:Ef (λb=>A b/\Z.R b) w L (.rptr (e.pv x)) (.pointer (some ⟨b,off+j.toNat*e.size,none⟩)):=⟨_,c2,rfl,hp,VL.2 h9⟩;exact⟨rfl,_,λw'=>Sf ht (Ey Ua hb.1) h3 hix (by omega) (by omega) w',hvr⟩
      ·cases h
     ·rename_i i hx';split at h
      ·rename_i E e l hi;obtain⟨hb,h⟩:=XY h;cases h;simp only[Abz]at hb;obtain⟨hj0,hj1,hj2⟩:=Iz hx;obtain⟨v,cs,h1,h2⟩:=hm.arr hi;obtain⟨z',E',c',h3⟩:=KK (Cu hm.sl hx' rfl);rw[h1]at h3;cases h3;have hlen:=h2.len λx c h=>Ap.len h;have hz:0<e.size:=by have:=Au4 hb.2;omega
       have hpos:0<cs.length:=by rw[hlen];exact Nat.mul_pos (by omega) hz
       obtain⟨b,len,cap,h4,h5⟩:=hr.base h1 hpos;have hl:len=l.length:=Aoj hz (h5.symm.trans hlen);subst hl;refine⟨rfl,_,λw'=>Sf ht (Ey Ua hb.1) h4 hix (by omega) (by omega) w',?_⟩;rw[show(0:Nat)+j.toNat*e.size=As [.idx j e.size] by simp[As,jS]];refine JZ h1 ?_;rw[h4];rfl
      ·cases h
     ·rename_i o i p e lo n' hx';obtain⟨hb,h⟩:=XY h;cases h;simp only[Abz]at hb;have hj':0<=j/\j<n':=Ay1 (Xx hx);obtain⟨md,v1,h3,h4,k1,k2,⟨pt,cap,k3,k4,k5,k6⟩,_⟩:=Cu hm.sl hx' rfl;have h6:=List.cons.inj h4;obtain⟨b,e1,rfl⟩:=k6 (by omega);refine⟨rfl,_,λw'=>Sf ht (Ey Ua hb.1) (h6.1.trans k3) hix hj'.1 (by omega) w',?_⟩;rw[show As p+lo.toNat*e.size+j.toNat*e.size=As (p++[.idx (lo+j) e.size]) by
       rw[aS,Auz,<-Aux]
       show _=As p+(lo+j).toNat*e.size;rw[Int.toNat_add k1 hj'.1]]
      exact JZ h3 e1
     ·cases h
   ·rename_i m et ht;split at h
    ·cases h
    ·rename_i inf Ua;split at h
     ·rename_i i p hx';split at h
      ·rename_i T v hi;split at h
       ·rename_i e0 l0 hg;split at h
        ·rename_i m' e l;obtain⟨hb,h⟩:=XY h;cases h;simp only[Abz]at hb;obtain⟨hj0,hj1,hj2⟩:=Iz hx;obtain⟨md,b,h1,h2,h3⟩:=Xm (Cu hm.sl hx' rfl);obtain⟨b',cells,h4,h5⟩:=hm.box hi;rw[h4]at h1;cases h1;cases h2;obtain⟨c1,c2,c3,he,h6,h7,h8⟩:=bR hg h5;have hmm:=Ce hb.2;subst hmm;have hl:l.length=m':=h7;refine⟨rfl,_,λw'=>VF ht (Ey Ua hb.1.1) h3 hix (by omega) (by omega) w',?_⟩;rw[show As p+j.toNat*e.size=As (p++[.idx j e.size]) by simp[RM,As,jS]];exact JZ h4 rfl
        ·cases h
       ·cases h
      ·cases h
     ·cases h
   ·cases h
 ·cases h
end Go.Rx
namespace Go.Rx
open Go Go.Lv
variable {P:Program} {B B':Reg} {w w':World} {L L':List MD} {s:S} {σs:List Env} {σ:Env} {Z:Fix} {A A':Reg} {n:Nat} {ops:Array Oper}
variable {R:Type} {k:S->Option R} {r:R} {d:Option Nat} {ty:TypeId} {pos:String} {after:Array Edge} {T:Tab} {inl:sZ R}
theorem Ak2{o:Oper}(hT:lB P T Z)(hI:EX P T.gl inl)(hr:Rel Z s σs A L σ w)(hd:Jt n o=true)(h:exU P T inl o s k=some r):
  AY P n ops {o with guard:=none} Z s σs k r (N3 T s o=true) A L σ w:=by
 obtain⟨d,op,ty,pos,after,g⟩:=o;have hd':Jt n ⟨d,op,ty,pos,after,none⟩=true:=hd;unfold exU at h;split at h
 ·rename_i v hv;obtain⟨h1,val,h2,h3⟩:=Ac0 (P:=P) (B:=λb=>A b/\Z.R b) (w:=w) (L:=L) (λ_=>True) hr.mem.sl hv;exact Ds hr hd' (h2 w trivial) h1 h3 h
 ·split at h
  ·rename_i v hv;obtain⟨h1,val,h2,h3⟩:=Adb (P:=P) hr hv;exact Ds hr hd' (h2 w (.refl hr)) h1 h3 h
  ·cases d with
   |some dn=>exact Aty hT hI hr hd' h
   |none=>
    simp only at h;split at h
    ·rename_i t a x;refine NV (Amv hr h) ?_;rintro σ' w' ⟨s',A',L',g1,g2,g3⟩;exact⟨s',A',L',g1,g2,λg=>by simp[N3,brk]at g⟩
    ·rename_i as ts;split at h
     ·rename_i x y t t2 has hts;have h1:=HF has;have h2:=HF hts;subst h1 h2;refine NV (Af2 hr hd' h) ?_;rintro σ' w' ⟨s',A',L',g1,g2,g3⟩;exact⟨s',A',L',g1,g2,λg=>by simp[N3,brk]at g⟩
     ·cases h
    ·cases h
theorem WL.Avg{rest:List Oper}{K:Env->World->Prop}{o:Oper}{j t:Nat}{want b:Bool}(hg:o.guard=some (j,want))(hj:(ops[j]?).bind (·.dst)=some t)(hb:σ t= .bool b)(hne:(b==want)=false)
  (hdn:Jt n o=true) (h:WL P n ops rest K (Ail σ o.dst Go.undef) w):WL P n ops (o::rest) K σ w:=by
 intro ds a ha;refine wpList_step λK' hK'=>?_;have hw:Region.wanted o (yielded ops a.tmps)=false:=by
  simp only[Region.wanted,hg,SA ha hj hb];cases b<;>cases want<;>simp_all
 rw[Aba (by rw[hw];simp)];refine hK' _ _ ?_;cases hd:o.dst with
 |none=>rw[hd]at h;exact h _ _ (ha.zV _)
 |some d=>rw[hd]at h;unfold Jt at hdn;rw[hd]at hdn;exact h _ _ (ha.put hdn _)
theorem WL.Avr{rest:List Oper}{K:Env->World->Prop}{o:Oper}{j t:Nat}{want:Bool}(hg:o.guard=some (j,want))(hj:(ops[j]?).bind (·.dst)=some t)(hb:σ t=Go.undef)
  (hdn:Jt n o=true) (h:WL P n ops rest K (Ail σ o.dst Go.undef) w):WL P n ops (o::rest) K σ w:=by
 intro ds a ha;refine wpList_step λK' hK'=>?_;have hy:yielded ops a.tmps j=none:=by
  unfold yielded;rw[hj];have h1:=ha.get t;rw[hb]at h1;cases h:a.tmps[t]? with
  |none=>simp[h]
  |some v=>
   rw[Array.getD_eq_getD_getElem?,h]at h1;simp at h1;subst h1;simp[h,undef]
 have hw:Region.wanted o (yielded ops a.tmps)=false:=by
  simp only[Region.wanted,hg,hy];cases want<;>rfl
 rw[Aba (by rw[hw];simp)];refine hK' _ _ ?_;cases hd:o.dst with
 |none=>rw[hd]at h;exact h _ _ (ha.zV _)
 |some d=>rw[hd]at h;unfold Jt at hdn;rw[hd]at hdn;exact h _ _ (ha.put hdn _)
theorem sw{o:Oper}{G:Prop}(hr:Rel Z s σs A L σ w)(h:k (s.Gm o.dst .off)=some r):WL P n ops [] (J2 Z σs k r G A L s.it w) (Ail σ o.dst Go.undef) w:=by
 refine WL.nil ⟨_,A,L,h,hr.Aop,λ_=>?_⟩;have:(s.Gm o.dst .off).it=s.it:=by cases o.dst<;>rfl
 rw[this];exact .refl
theorem aL{a b:Bool}:mJ a b=(b==a):=by cases a<;>cases b<;>rfl
theorem Ace{G G':Prop}{σ':Env}{it:List Item}(hp:J2 Z σs k r G A L it w σ' w')(h:G'->G):J2 Z σs k r G' A L it w σ' w':=by
 obtain⟨s',A',L',h1,h2,h3⟩:=hp;exact⟨s',A',L',h1,h2,λg=>h3 (h g)⟩
theorem wK{t dn:Nat}{want b:Bool}{v:PV}{val:Value}(ht:σ t= .bool b)(hne:Nat.beq dn t=false)(h1:b=want->Ef B w L v val)(h2:b≠want->val=Go.undef):Hu B w L (Ub σ dn val) dn (.gd t want v):=by
 have htd:t≠dn:=by intro e;subst e;simp at hne
 exact⟨b,by rw[oD _ _ htd];exact ht,λe=>by rw[SG];exact h1 e,λe=>by rw[SG];exact h2 e⟩
theorem Ae6{o:Oper}{j t dn:Nat}{want b:Bool}{v:PV}{G:Prop}(hr:Rel Z s σs A L σ w)(hg:o.guard=some (j,want))(hj:(ops[j]?).bind (·.dst)=some t)(ht:σ t= .bool b)(hdn:Jt n o=true)(hd:o.dst=some dn)
  (hne:Nat.beq dn t=false) (hv:b=want->v.isV=true/\∃val,XO P σ w o.op val/\Ef (λb=>A b/\Z.R b) w L v val) (hk:k (s.set dn (.gd t want v))=some r):AY P n ops o Z s σs k r G A L σ w:=by
 by_cases hbw:b=want
 ·obtain⟨h1,val,h2,h3⟩:=hv hbw;refine WL.on hg hj ht (by simpa using hbw) (WL.Adm rfl (by simpa [Jt]using hdn) (h2 _ _ _ _ _) (WL.nil ⟨_,A,L,hk,?_,λ_=> .refl⟩));simp only[hd];exact hr.set (wK ht hne (λ_=>h3) (λe=>absurd hbw e))
 ·refine WL.Avg hg hj ht (by simpa using hbw) hdn (WL.nil ⟨_,A,L,hk,?_,λ_=> .refl⟩);rw[hd];exact hr.set (wK ht hne (λe=>absurd e hbw) (λ_=>rfl))
theorem OC{t:Nat}{b:Bool}(hm:Fv B w L σ s.sl)(h:AV s.sl t= .val .bool b):σ t= .bool b:=by
 have h1:=Sm (t:=t) hm;rw[h]at h1;exact HE h1
theorem pM{t:Nat}{b:Bool}(hm:Fv B w L σ s.sl)(h:AV s.sl t= .cst (.bool b)):σ t= .bool b:=by
 have h1:=Sm (t:=t) hm;rw[h]at h1;have: [σ t]=[Value.bool b]:=h1.1;simpa using this
theorem Atp{o:Oper}{j t:Nat}{want:Bool}(hT:lB P T Z)(hI:EX P T.gl inl)(hr:Rel Z s σs A L σ w)(hd:Jt n o=true)(hg:o.guard=some (j,want))(hj:(ops[j]?).bind (·.dst)=some t)
  (h:exG P T inl o t want s k=some r):AY P n ops o Z s σs k r (N3 T s o=true/\∃b,AV s.sl t= .cst (.bool b)) A L σ w:=by
 have hm:=hr.mem;have lit:∀(G:Prop) (s1:S) (b:Bool),(G->N3 T s1 o=true)->Rel Z s1 σs A L σ w->s1.it=s.it->σ t= .bool b-> (Cm (mJ want b) (exU P T inl o s1 k)<|k (s1.Gm o.dst .off))=some r->AY P n ops o Z s σs k r G A L σ w:=by
  intro G s1 b hG hr1 hit ht h;cases hb:mJ want b with
  |true=>
   rw[hb]at h;refine WL.on hg hj ht (by rw[<-aL];exact hb) (NV (Ak2 hT hI hr1 hd h) λσ' w' hp=>?_);rw[<-hit];exact Ace hp hG
  |false=>
   rw[hb]at h;refine WL.Avg hg hj ht (by rw[<-aL];exact hb) hd ?_;rw[<-hit];exact sw hr1 h
 unfold exG at h;simp only at h;split at h
 ·rename_i b hb;exact lit _ s b (λg=>g.1) hr rfl (pM hm.sl hb) h
 ·rename_i hb;have h1:=Sm (t:=t) hm.sl;rw[hb]at h1;exact WL.Avr hg hj h1 hd (sw hr h)
 ·rename_i b hb;have ht:=OC hm.sl hb;have nog:∀{X:Prop},(∃b,AV s.sl t= .cst (.bool b))->X:=λ⟨_,g⟩=>by rw[hb]at g;cases g
  split at h
  ·rename_i dn v hdn hv;cases hne:Nat.beq dn t with
   |true=>rw[hne]at h;cases h
   |false=>
    rw[hne]at h;refine Ae6 hr hg hj ht hd hdn hne (λhbw=>?_) h;subst hbw;obtain⟨h1,val,h2,h3⟩:=Ac0 (P:=P) (λ_=>True) (hr.res ht).mem.sl hv;exact⟨h1,val,h2 w trivial,h3⟩
  ·rename_i dn v hdn hv0 hv;cases hne:Nat.beq dn t with
   |true=>rw[hne]at h;cases h
   |false=>
    rw[hne]at h;refine Ae6 hr hg hj ht hd hdn hne (λhbw=>?_) h;subst hbw;obtain⟨h1,val,h2,h3⟩:=Adb (P:=P) (hr.res ht) hv;exact⟨h1,val,h2 w (.refl (hr.res ht)),h3⟩
  ·cases b with
   |true=>exact lit _ (s.res t true) true (λg=>nog g.2) (hr.res ht) rfl ht (by simpa using h)
   |false=>exact lit _ (s.res t false) false (λg=>nog g.2) (hr.res ht) rfl ht (by simpa using h)
 ·cases h
theorem Afz{o:Oper}(hT:lB P T Z)(hI:EX P T.gl inl)(hr:Rel Z s σs A L σ w)(h:yK P T inl n ops o s k=some r):AY P n ops o Z s σs k r (N3 T s o=true/\gOk ops s o=true) A L σ w:=by
 have hm:=hr.mem;unfold yK at h;cases hd:Jt n o with
 |false=>rw[hd]at h;cases h
 |true=>
  rw[hd]at h;simp only[Aze,Az5]at h;try dsimp only[Cm]at h
  split at h
  ·rename_i hg;have:({o with guard:=none}:Oper)=o:=by cases o;simp only at hg;subst hg;rfl
   rw[<-this];refine NV (Ak2 hT hI hr hd h) λσ' w' hp=>Ace hp ?_;rintro⟨g,_⟩;rw[this]at g;exact g
  ·rename_i j want hg;split at h
   ·cases h
   ·rename_i t hj;have fin:∀s1:S,(gOk ops s o=true->s1=s)->Rel Z s1 σs A L σ w->s1.it=s.it->exG P T inl o t want s1 k=some r->AY P n ops o Z s σs k r (N3 T s o=true/\gOk ops s o=true) A L σ w:=by
     intro s1 hs hr1 hit h;refine NV (Atp hT hI hr1 hd hg hj h) λσ' w' hp=>?_;rw[<-hit];refine Ace hp (λg=>?_);have:=hs g.2;subst this;refine⟨g.1,?_⟩;have h2:=g.2;unfold gOk at h2;simp only[hg,hj]at h2;split at h2
     ·exact⟨_,by assumption⟩
     ·cases h2
    split at h
    ·rename_i t2 w2 v hv;have nog:∀{X:Prop},gOk ops s o=true->X:=λg=>by
      unfold gOk at g;simp only[hg,hj,hv]at g;cases g
     split at h
     ·rename_i b hb;have ht:=OC hm.sl hb;cases b with
      |true=>exact fin _ nog (hr.res ht) rfl (by simpa using h)
      |false=>exact fin _ nog (hr.res ht) rfl (by simpa using h)
     ·cases h
    ·exact fin s (λ_=>rfl) hr rfl h
theorem yP(hT:lB P T Z)(hI:EX P T.gl inl):∀{l:List Oper} {s:S} {A:Reg} {L:List MD} {σ:Env} {w:World},Rel Z s σs A L σ w->lO P T inl n ops l s k=some r->
  WL P n ops l (λσ' w'=>∃s' A' L',k s'=some r/\Rel Z s' σs A' L' σ' w') σ w
 |[],s,A,L,σ,w,hr,h=>WL.nil ⟨s,A,L,h,hr⟩
 |o::l,s,A,L,σ,w,hr,h=>by
  have h1:=Afz (ops:=ops) hT hI hr h;refine WL.cut _ [o] h1 ?_;rintro σ' w' ⟨s',A',L',g1,g2,_⟩;exact yP hT hI g2 g1
end Go.Rx
namespace Go.Rx
open Go Go.Lv
variable {P:Program} {B B':Reg} {w w':World} {L L':List MD} {s:S} {σs:List Env} {σ:Env} {Z:Fix} {A A':Reg} {n:Nat} {ops:Array Oper}
variable {R:Type} {k:S->Option R} {r:R} {d:Option Nat} {ty:TypeId} {pos:String} {after:Array Edge} {T:Tab} {inl:sZ R} {mem:Bool} {listed:Array Bool}
def sP(Z:Fix)(σs:List Env)(A:Reg)(L:List MD)(it:List Item)(w w':World):Prop:=∃s2 σ2 A' L',Rel Z s2 σs A' L' σ2 w'/\Grow A L it w A' L' s2.it w'
theorem sP.refl(hr:Rel Z s σs A L σ w):sP Z σs A L s.it w w:=⟨s,σ,A,L,hr, .refl⟩
theorem sP.ext(hr:Rel Z s σs A L σ w)(h:sP Z σs A L s.it w w'):Ext Z s σs A L σ w w':=by
 obtain⟨s2,σ2,A',L',h1,h2⟩:=h;exact h2.ext hr h1
theorem qW{z:Array Bool}:∀{is:List Nat} {i d:Nat} {v:PV},AD P T n mem ops z listed s is=some (i,d,v)->∃o,ops[i]? =some o/\AK ops (tw z) listed i=true/\eu P T n mem ops o s=some (d,v)
 |[],_,_,_,h=>by simp[AD]at h
 |j::is,i,d,v,h=>by
  simp only[AD]at h;split at h
  ·cases h
  ·rename_i o ho;split at h
   ·rename_i d' v' hp;cases h;cases ht:AK ops (tw z) listed j with
    |true=>rw[ht]at hp;exact⟨o,ho,by first|exact ht|rfl,hp⟩
    |false=>rw[ht]at hp;cases hp
   ·exact qW h
def GS(Z:Fix)(σs:List Env)(w':World):Prop:=∃s2 σ2 A2 L2,Rel Z s2 σs A2 L2 σ2 w'
theorem Ext.gs(h:Ext Z s σs A L σ w w'):GS Z σs w':=by
 obtain⟨⟨A',L',it',_,hr⟩,_⟩:=h;exact⟨_,_,_,_,hr⟩
theorem Aif{g:Nat}{t:TypeId}{v:PV}(hT:lB P T Z)(h:T.glv P g t=some v):∃cs,(∀w',GS Z σs w'->∃T1 fr,w'.heap[g]? =some (.cells cs.toArray T1 fr))/\∀(B:Reg) (w:World) (L:List MD),Ba B w L v cs:=by
 unfold Tab.glv at h;split at h
 ·rename_i cs hg;split at h
  ·rename_i v' hp;cases h;refine⟨cs,λw' hw=>?_,λB w L=>?_⟩
   ·obtain⟨s2,σ2,A2,L2,hr⟩:=hw;obtain⟨_,T1,fr,h2⟩:=hr.Acn (p:=(g,cs)) (by rw[hT.2];exact xG hg);exact⟨T1,fr,h2⟩
   ·obtain⟨c,e1,h3⟩:=XD (B:=B) (w:=w) (L:=L) Q hp;rw[Aun]at e1;subst e1;exact h3
  ·cases h
 ·cases h
theorem Apd{o:Op}{v:PV}(hT:lB P T Z)(h:Aum P T o=some v):v.isV=true/\∃val,(∀w',GS Z σs w'->XO P σ w' o val)/\Ef (λb=>A b/\Z.R b) w L v val:=by
 unfold Aum at h;split at h
 ·rename_i t g;split at h
  ·rename_i u hv;obtain⟨hb,hk⟩:=Ay h;cases hk;obtain⟨cs,h1,h3⟩:=Aif (σs:=σs) hT hv;obtain⟨val,h7,h8⟩:=fH (P:=P) (σ:=σ) (x:= .global g) (b:=g) (off:=0) (Qa hb) (h3 (λb=>A b/\Z.R b) w L) rfl;obtain⟨hv1,hv2⟩:=Jc h7;refine⟨hv1,val,λw' hw=>h8 w' λj hj=>?_,hv2⟩;obtain⟨T1,fr,h4⟩:=h1 w' hw;rw[cell_of h4];simp
  ·cases h
 ·cases h
theorem yR{o:Op}{v:PV}{S:World->Prop}(hT:lB P T Z)(hr:Rel Z s σs A L σ w)(h:uC P T mem s o=some v)(hS:mem=true->∀w',S w'->Ext Z s σs A L σ w w')(hG:∀w',S w'->GS Z σs w'):v.isV=true/\∃val,(∀w',S w'->XO P σ w' o val)/\Ef (λb=>A b/\Z.R b) w L v val:=by
 unfold uC at h;split at h
 ·rename_i u hu;cases h;exact Ac0 (P:=P) S hr.mem.sl hu
 ·split at h
  ·rename_i u hu;cases h;cases mem with
   |true=>
    obtain⟨h1,val,h2,h3⟩:=Adb (P:=P) hr hu;exact⟨h1,val,λw' hw=>h2 w' (hS rfl w' hw),h3⟩
   |false=>cases hu
  ·obtain⟨h1,val,h2,h3⟩:=Apd (σs:=σs) (σ:=σ) (A:=A) (w:=w) (L:=L) hT h;exact⟨h1,val,λw' hw=>h2 w' (hG w' hw),h3⟩
theorem Aqx{t:Nat}{b:Bool}{w':World}(h:Ext Z s σs A L σ w w')(ht:σ t= .bool b):Ext Z (s.res t b) σs A L σ w w':=by
 obtain⟨⟨A',L',it',h1,h2⟩,h3⟩:=h;exact⟨⟨A',L',it',h1,Rel.res (s:=⟨s.sl,s.it++it',s.st⟩) h2 ht⟩,h3⟩
theorem Af5{S:World->Prop}{z:Array Bool}{fuel i dn:Nat}{o:Oper}{v:PV}{K:Env->World->Prop}(hT:lB P T Z)(hr:Rel Z s σs A L σ w)(hi:ops[i]? =some o)(hB:AK ops (tw z) listed i=true)(hp:eu P T n mem ops o s=some (dn,v))(hSw:S w)
  (hS:mem=true->∀w',S w'->Ext Z s σs A L σ w w') (hG:∀w',S w'->GS Z σs w') (h:∀σ',Rel Z (s.set dn v) σs A L σ' w->WD P n ops S (tw z) fuel (listed.setIfInBounds i true) K σ' w):WD P n ops S (tw z) (fuel+1) listed K σ w:=by
 obtain⟨d,op,ty,pos,after,g⟩:=o;have hm:=hr.mem;unfold eu at hp;simp only at hp;split at hp
 ·cases hp
 ·rename_i d';cases hn:Nat.blt d' n with
  |false=>rw[hn]at hp;cases hp
  |true=>
   rw[hn]at hp;simp only[Aze,Az5]at hp;try dsimp only[Cm]at hp
   split at hp
   ·
    cases hv:uC P T mem s op with
    |none=>rw[hv]at hp;cases hp
    |some u=>
     rw[hv]at hp;cases hp;obtain⟨h1,val,h2,h3⟩:=yR hT hr hv hS hG;exact WD.x i hi hB hn hSw h2 (h _ (hr.set (.put h1 h3)))
   ·rename_i j want;split at hp
    ·cases hp
    ·rename_i t hj;split at hp
     ·rename_i b hb;have ht:=pM hm.sl hb;cases hw:mJ want b with
      |true=>
       rw[hw]at hp;dsimp only[Cm,cond]at hp;cases hv:uC P T mem s op with
       |none=>rw[hv]at hp;cases hp
       |some u=>
        rw[hv]at hp;cases hp;obtain⟨h1,val,h2,h3⟩:=yR hT hr hv hS hG;have hbw:(b==want)=true:=by rw[<-aL];exact hw
        refine WD.gx (v:=val) i hi hB hn hj ht hSw (λ_=>h2) (h _ ?_);rw[xZ hbw];exact hr.set (.put h1 h3)
      |false=>
       rw[hw]at hp;cases hp;have hbw:(b==want)=false:=by rw[<-aL];exact hw
       refine WD.gx (v:=Go.undef) i hi hB hn hj ht hSw (λhg=>by rw[hbw]at hg;cases hg) (h _ ?_);rw[Acp hbw];exact hr.set (show Ub σ dn Go.undef dn=Go.undef from SG _ _ _)
     ·rename_i b hb;have ht:=OC hm.sl hb;cases hne:Nat.beq d' t with
      |true=>rw[hne]at hp;cases hp
      |false=>
       rw[hne]at hp;dsimp only[Cm,cond]at hp;cases hv:uC P T mem (s.res t want) op with
       |none=>rw[hv]at hp;cases hp
       |some u=>
        rw[hv]at hp;cases hp;by_cases hbw:b=want
        ·subst hbw;obtain⟨h1,val,h2,h3⟩:=yR hT (hr.res ht) hv (λhm w' hw=>Aqx (hS hm w' hw) ht) hG;refine WD.gx (v:=val) i hi hB hn hj ht hSw (λ_=>h2) (h _ ?_);rw[xZ (by simp)];exact hr.set (wK ht hne (λ_=>h3) (λe=>absurd rfl e))
        ·refine WD.gx (v:=Go.undef) i hi hB hn hj ht hSw (λhg=>absurd (by simpa using hg) hbw) (h _ ?_);rw[Acp (by simpa using hbw)];exact hr.set (wK ht hne (λe=>absurd e hbw) (λ_=>rfl))
     ·cases hp
theorem dY{z:Array Bool}:∀{is:List Nat} {i d:Nat} {v:BG},JE P n ops z listed s is=some (i,d,v)->∃o,ops[i]? =some o/\AK ops (tw z) listed i=true/\M5 P n ops o s=some (d,v)
 |[],_,_,_,h=>by simp[JE]at h
 |j::is,i,d,v,h=>by
  simp only[JE]at h;split at h
  ·cases h
  ·rename_i o ho;split at h
   ·rename_i d' v' hp;cases h;cases ht:AK ops (tw z) listed j with
    |true=>rw[ht]at hp;exact⟨o,ho,by first|exact ht|rfl,hp⟩
    |false=>rw[ht]at hp;cases hp
   ·exact dY h
theorem An3{S:World->Prop}{z:Array Bool}{fuel i dn:Nat}{o:Oper}{b:BV}{x:b.X}{K:Env->World->Prop}(hr:Rel Z s σs A L σ w)(hi:ops[i]? =some o)(hB:AK ops (tw z) listed i=true)(hp:M5 P n ops o s=some (dn, .on b))(hx:b.E=some x)(hSw:S w)
  (h:∀σ',Rel Z (s.set dn (b.v x)) σs A L σ' w->WD P n ops S (tw z) fuel (listed.setIfInBounds i true) K σ' w):WD P n ops S (tw z) (fuel+1) listed K σ w:=by
 obtain⟨d,op,ty,pos,after,g⟩:=o;have hm:=hr.mem;unfold M5 at hp;simp only at hp;split at hp
 ·cases hp
 ·rename_i d';cases hn:Nat.blt d' n with
  |false=>rw[hn]at hp;cases hp
  |true=>
   rw[hn]at hp;simp only[Aze,Az5]at hp;try dsimp only[Cm]at hp
   split at hp
   ·cases hv:bnd P s op with
    |none=>rw[hv]at hp;cases hp
    |some u=>
     rw[hv]at hp;cases hp;obtain⟨h1,val,h2,h3⟩:=Acg hr hv hx;exact WD.x i hi hB hn hSw (λw' _=>h2 w') (h _ (hr.set (.put h1 h3)))
   ·rename_i j want;split at hp
    ·cases hp
    ·rename_i t hj;split at hp
     ·rename_i c hb;have ht:=pM hm.sl hb;cases hw:mJ want c with
      |true=>
       rw[hw]at hp;dsimp only[Cm,cond]at hp;cases hv:bnd P s op with
       |none=>rw[hv]at hp;cases hp
       |some u=>
        rw[hv]at hp;cases hp;obtain⟨h1,val,h2,h3⟩:=Acg hr hv hx;have hbw:(c==want)=true:=by rw[<-aL];exact hw
        refine WD.gx (v:=val) i hi hB hn hj ht hSw (λ_ w' _=>h2 w') (h _ ?_);rw[xZ hbw];exact hr.set (.put h1 h3)
      |false=>rw[hw]at hp;cases hp
     ·rename_i c hb;cases hne:Nat.beq d' t with
      |true=>rw[hne]at hp;cases hp
      |false=>
       rw[hne]at hp;dsimp only[Cm,cond]at hp;cases hv:bnd P (s.res t want) op with
       |none=>rw[hv]at hp;cases hp
       |some u=>rw[hv]at hp;cases hp
     ·cases hp
theorem Agd{S:World->Prop}{z:Array Bool}{fuel i dn t:Nat}{want bv:Bool}{o:Oper}{b:BV}{K:Env->World->Prop}{X:Go.Rx.S->Option R}(hr:Rel Z s σs A L σ w)(hi:ops[i]? =some o)(hB:AK ops (tw z) listed i=true)(hp:M5 P n ops o s=some (dn, .ask t want bv b))(hSw:S w)
  (hx:(Cm (mJ want bv) (Option.bind b.E λx=>X ((s.res t bv).set dn (b.v x)))<|X ((s.res t bv).set dn .off))=some r)
  (h:∀s',s'.it=s.it->∀σ',Rel Z s' σs A L σ' w->X s'=some r->WD P n ops S (tw z) fuel (listed.setIfInBounds i true) K σ' w):WD P n ops S (tw z) (fuel+1) listed K σ w:=by
 obtain⟨d,op,ty,pos,after,g⟩:=o;have hm:=hr.mem;unfold M5 at hp;simp only at hp;split at hp
 ·cases hp
 ·rename_i d';cases hn:Nat.blt d' n with
  |false=>rw[hn]at hp;cases hp
  |true=>
   rw[hn]at hp;simp only[Aze,Az5]at hp;try dsimp only[Cm]at hp
   split at hp
   ·cases hv:bnd P s op with
    |none=>rw[hv]at hp;cases hp
    |some u=>rw[hv]at hp;cases hp
   ·rename_i j want';split at hp
    ·cases hp
    ·rename_i t' hj;split at hp
     ·rename_i c hb;cases hw:mJ want' c with
      |true=>
       rw[hw]at hp;dsimp only[Cm,cond]at hp;cases hv:bnd P s op with
       |none=>rw[hv]at hp;cases hp
       |some u=>rw[hv]at hp;cases hp
      |false=>rw[hw]at hp;cases hp
     ·rename_i c hb;have ht:=OC hm.sl hb;cases hne:Nat.beq d' t' with
      |true=>rw[hne]at hp;cases hp
      |false=>
       rw[hne]at hp;dsimp only[Cm,cond]at hp;cases hv:bnd P (s.res t' want') op with
       |none=>rw[hv]at hp;cases hp
       |some u=>
        rw[hv]at hp;cases hp;cases hw:mJ want bv with
        |true=>
         rw[hw]at hx;dsimp only[Cm,cond]at hx;obtain⟨x,hx,hk⟩:=bind_some hx;have hbw:bv=want:=by cases want<;>cases bv<;>simp_all [mJ]
         subst hbw;obtain⟨h1,val,h2,h3⟩:=Acg (hr.res ht) hv hx;refine WD.gx (v:=val) i hi hB hn hj ht hSw (λ_ w' _=>h2 w') (h ((s.res t bv).set dn (b.v x)) rfl _ ?_ hk);rw[xZ (by simp)];exact(hr.res ht).set (.put h1 h3)
        |false=>
         rw[hw]at hx;dsimp only[Cm,cond]at hx;have hbw:(bv==want)=false:=by rw[<-aL];exact hw
         refine WD.gx (v:=Go.undef) i hi hB hn hj ht hSw (λhg=>by rw[hbw]at hg;cases hg) (h ((s.res t bv).set dn .off) rfl _ ?_ hx);rw[Acp hbw];exact(hr.res ht).set (show Ub σ dn Go.undef dn=Go.undef from SG _ _ _)
     ·cases hp
theorem xU{z:Array Bool}:∀{is:List Nat} {i:Nat} {v:Nat×TypeId×Nat×List Step},TG n ops z listed s is=some (i,v)->∃o,ops[i]? =some o/\AK ops (tw z) listed i=true/\Arh n ops o s=some v
 |[],_,_,h=>by simp[TG]at h
 |j::is,i,v,h=>by
  simp only[TG]at h;split at h
  ·cases h
  ·rename_i o ho;split at h
   ·rename_i v' hp;cases h;cases ht:AK ops (tw z) listed j with
    |true=>rw[ht]at hp;exact⟨o,ho,by first|exact ht|rfl,hp⟩
    |false=>rw[ht]at hp;cases hp
   ·exact xU h
theorem Ar8{d dn:Nat}{o:Op}{t:TypeId}{j:Nat}{p:List Step}{u:PV}{kk:PV->Option R}(hr:Rel Z s σs A L σ w)(hp:Aqd s d o=some (dn,t,j,p))(h:getRoot (Cb s.it j) p kk=some r):
  d=dn/\∃u,kk u=some r/\ (Mu P t u=true->u.isV=true/\∃val,(∀w',Ext Z s σs A L σ w w'->XO P σ w' o val)/\Ef (λb=>A b/\Z.R b) w L u val):=by
 have hm:=hr.mem;unfold Aqd at hp;split at hp
 ·rename_i t' x;split at hp
  ·rename_i i p' hx;split at hp
   ·cases hp
   ·rename_i hne;cases hp;obtain⟨md,b,h1,h2,h3⟩:=Xm (Cu hm.sl hx rfl);obtain⟨h4,_⟩:=hm.root h1 (λe=>hne e);obtain⟨u,c1,c2,c3,hk,he,h5,h6⟩:=H2 h h4;refine⟨rfl,u,hk,λhb=>?_⟩;obtain⟨val,h7,h8⟩:=fH (P:=P) (σ:=σ) (x:=x) (b:=b) (off:=As p) (Qa hb) h6 h3;obtain⟨hv,hv'⟩:=Jc h7;refine⟨hv,val,λw' hext=>h8 w' λq hq=>?_,hv'⟩;obtain⟨A',L',it',ha,hr'⟩:=hext.ex;have h10:(L++L')[j]? =some md:=by rw[List.getElem?_append_left (List.getElem?_eq_some_iff.1 h1).1];exact h1
    rw[hr'.cells h10 h2 _ (by rw[he];simp;omega),he,List.getElem?_append_right (by omega),h5,show As p+q-As p=q by omega,List.getElem?_append_left hq]
  ·cases hp
 ·cases hp
theorem Awc{S:World->Prop}{z:Array Bool}{fuel i dn j:Nat}{t:TypeId}{p:List Step}{o:Oper}{kk:PV->Option R}{K:Env->World->Prop}(hr:Rel Z s σs A L σ w)(hi:ops[i]? =some o)(hB:AK ops (tw z) listed i=true)(hp:Arh n ops o s=some (dn,t,j,p))(hg:getRoot (Cb s.it j) p kk=some r)(hSw:S w)
  (hS:∀w',S w'->Ext Z s σs A L σ w w') (hkk:∀u,kk u=some r->Mu P t u=true)
  (h:∀u σ',kk u=some r->Rel Z (s.set dn u) σs A L σ' w->WD P n ops S (tw z) fuel (listed.setIfInBounds i true) K σ' w):WD P n ops S (tw z) (fuel+1) listed K σ w:=by
 obtain⟨d,op,ty,pos,after,g⟩:=o;have hm:=hr.mem;unfold Arh at hp;simp only at hp;split at hp
 ·cases hp
 ·rename_i d';cases hn:Nat.blt d' n with
  |false=>rw[hn]at hp;cases hp
  |true=>
   rw[hn]at hp;simp only[Aze,Az5]at hp;try dsimp only[Cm]at hp
   split at hp
   ·obtain⟨rfl,u,hk,hu⟩:=Ar8 (P:=P) (u:= .undef) hr hp hg;obtain⟨h1,val,h2,h3⟩:=hu (hkk u hk);exact WD.x i hi hB hn hSw (λw' hw=>h2 w' (hS w' hw)) (h u _ hk (hr.set (.put h1 h3)))
   ·rename_i q want;split at hp
    ·cases hp
    ·rename_i t' hj;split at hp
     ·rename_i c hb;have ht:=pM hm.sl hb;cases hw:mJ want c with
      |true=>
       rw[hw]at hp;dsimp only[Cm,cond]at hp;obtain⟨rfl,u,hk,hu⟩:=Ar8 (P:=P) (u:= .undef) hr hp hg;obtain⟨h1,val,h2,h3⟩:=hu (hkk u hk);have hbw:(c==want)=true:=by rw[<-aL];exact hw
       refine WD.gx (v:=val) i hi hB hn hj ht hSw (λ_ w' hw=>h2 w' (hS w' hw)) (h u _ hk ?_);rw[xZ hbw];exact hr.set (.put h1 h3)
      |false=>rw[hw]at hp;cases hp
     ·cases hp
theorem Aih{i t:Nat}{b:Bool}(hr:Rel Z s σs A L σ w)(h:Acj ops s i=some (t,b)):σ t= .bool b:=by
 unfold Acj at h;split at h
 ·cases h
 ·split at h
  ·cases h
  ·split at h
   ·cases h
   ·split at h
    ·rename_i hb;cases h;exact OC hr.mem.sl hb
    ·split at h
     ·rename_i hb;cases h;exact OC hr.mem.sl hb
     ·cases h
    ·cases h
theorem kM{fin:S->Option R}:∀{l:List Nat} {s:Go.Rx.S},Rel Z s σs A L σ w->ZN ops l s fin=some r->∃s',Rel Z s' σs A L σ w/\s'.it=s.it/\fin s'=some r
 |[],s,hr,h=>⟨s,hr,rfl,h⟩
 |i::l,s,hr,h=>by
  rw[ZN]at h;split at h
  ·rename_i t b hg;have ht:=Aih hr hg;cases b with
   |true=>
    obtain⟨s',h1,h2,h3⟩:=kM (l:=l) (hr.res ht) (by simpa using h);exact⟨s',h1,h2,h3⟩
   |false=>
    obtain⟨s',h1,h2,h3⟩:=kM (l:=l) (hr.res ht) (by simpa using h);exact⟨s',h1,h2,h3⟩
  ·exact kM (l:=l) hr h
theorem Atg(hT:lB P T Z)(hI:EX P T.gl inl):∀{fuel:Nat} {z0:Array Bool} {listed:Array Bool} {s:S} {A:Reg} {L:List MD} {σ:Env} {w:World} {S:World->Prop},Rel Z s σs A L σ w->SW P T inl n mem ops fuel z0 listed s k=some r->
  (mem=true->QX (tw z0) listed=true\/∀w',sP Z σs A L s.it w w'->S w')-> (mem=false->∀w',GS Z σs w'->S w')->
  WD P n ops S (tw z0) fuel listed (λσ' w'=>∃s' A' L',k s'=some r/\Rel Z s' σs A' L' σ' w') σ w:=by
 intro fuel
 induction fuel with
 |zero=>
  intro z0 listed s A L σ w S hr h hI1 hI2;unfold SW at h;split at h
  ·rename_i hrd;exact WD.done hrd ⟨s,A,L,h,hr⟩
  ·cases h
 |succ fuel ih=>
  intro z0 listed s A L σ w S hr h hI1 hI2;unfold SW at h;split at h
  ·rename_i hrd;exact WD.done hrd ⟨s,A,L,h,hr⟩
  ·rename_i i is hrd;simp only at h;have rest:∀(z:Array Bool) (S:World->Prop) (s:Go.Rx.S),Rel Z s σs A L σ w-> (mem=true->∀w',sP Z σs A L s.it w w'->S w')-> (mem=false->∀w',GS Z σs w'->S w')->
     both (match ops[i]? with
        |some o=>Cm (mem&& !((N3 T s o&&gOk ops s o)||(!tw z i&&QX (tw z) (listed.setIfInBounds i true)))) (none)<|
         yK P T inl n ops o s λs'=>SW P T inl n mem ops fuel z (listed.setIfInBounds i true) s' k
        |none=>none) (is.map λi=>match ops[i]? with
        |some o=>Cm (mem&& !((N3 T s o&&gOk ops s o)||(!tw z i&&QX (tw z) (listed.setIfInBounds i true)))) (none)<|
         yK P T inl n ops o s λs'=>SW P T inl n mem ops fuel z (listed.setIfInBounds i true) s' k
        |none=>none)=some r->WD P n ops S (tw z) (fuel+1) listed (λσ' w'=>∃s' A' L',k s'=some r/\Rel Z s' σs A' L' σ' w') σ w:=by
    intro z S s hr hS1 hS2 h;obtain⟨h1,h2⟩:=Y9 h;refine WD.steps hrd rfl ?_;intro q hq;have hone:(match ops[q]? with
       |some o=>Cm (mem&& !((N3 T s o&&gOk ops s o)||(!tw z q&&QX (tw z) (listed.setIfInBounds q true)))) (none)<|
        yK P T inl n ops o s λs'=>SW P T inl n mem ops fuel z (listed.setIfInBounds q true) s' k
       |none=>none)=some r:=by
     rcases List.mem_cons.1 hq with rfl|hq
     ·exact h1
     ·exact h2 _ (List.mem_map_of_mem hq)
    split at hone
    ·rename_i o ho;refine⟨o,ho,?_⟩;cases hc:(mem&& !((N3 T s o&&gOk ops s o)||(!tw z q&&QX (tw z) (listed.setIfInBounds q true))))with
     |true=>rw[hc]at hone;cases hone
     |false=>
      rw[hc]at hone;dsimp only[Cm,cond]at hone;refine NV (Afz hT hI hr hone) ?_;rintro σ' w' ⟨s',A',L',g1,g2,g3⟩;cases hmem:mem with
      |true=>
       subst hmem;simp only[Azd,Bool.not_eq_false',Awf,Abz,Au3]at hc;rcases hc with hc|⟨hc1,hc2⟩
       ·have g4:=g3 hc;refine⟨λ_=>hS1 rfl _ ⟨s',σ',A',L',g2,g4⟩,ih g2 g1 (λ_=> .inr λw'' hw=>?_) (λe=>by cases e)⟩;obtain⟨s2,σ2,A2,L2,h5,h6⟩:=hw;exact hS1 rfl _ ⟨s2,σ2,A2,L2,h5,g4.trans h6⟩
       ·refine⟨λhlt=>?_,ih g2 g1 (λ_=> .inl hc2) (λe=>by cases e)⟩;rw[hlt]at hc1;cases hc1
      |false=>
       subst hmem;exact⟨λ_=>hS2 rfl _ ⟨_,_,_,_,g2⟩,ih g2 g1 (λe=>by cases e) hS2⟩
    ·cases hone
   have main:∀(z:Array Bool) (S:World->Prop) (s:Go.Rx.S) (F:Option R),Rel Z s σs A L σ w-> (mem=true->∀w',sP Z σs A L s.it w w'->S w')-> (mem=false->∀w',GS Z σs w'->S w')-> (F=some r->WD P n ops S (tw z) (fuel+1) listed (λσ' w'=>∃s' A' L',k s'=some r/\Rel Z s' σs A' L' σ' w') σ w)->
     (match AD P T n mem ops z listed s (i::is)with
      |some (i,d,v)=>SW P T inl n mem ops fuel z (listed.setIfInBounds i true) (s.set d v) k
      |none=>match JE P n ops z listed s (i::is)with
       |some (i,d, .on b)=>Option.bind b.E λx=>SW P T inl n mem ops fuel z (listed.setIfInBounds i true) (s.set d (b.v x)) k
       |some (i,d, .ask t want bv b)=>if bv=true then
         (Cm (mJ want true) (Option.bind b.E λx=>SW P T inl n mem ops fuel z (listed.setIfInBounds i true) ((s.res t true).set d (b.v x)) k)<|SW P T inl n mem ops fuel z (listed.setIfInBounds i true) ((s.res t true).set d .off) k)
         else(Cm (mJ want false) (Option.bind b.E λx=>SW P T inl n mem ops fuel z (listed.setIfInBounds i true) ((s.res t false).set d (b.v x)) k)<|SW P T inl n mem ops fuel z (listed.setIfInBounds i true) ((s.res t false).set d .off) k)
       |none=>match(Cm (mem) (TG n ops z listed s (i::is))<|none)with
       |some (i,d,t,j,p)=>getRoot (Cb s.it j) p λu=>Cm (Mu P t u) (SW P T inl n mem ops fuel z (listed.setIfInBounds i true) (s.set d u) k)<|none
       |none=>F)=some r->WD P n ops S (tw z) (fuel+1) listed (λσ' w'=>∃s' A' L',k s'=some r/\Rel Z s' σs A' L' σ' w') σ w:=by
    intro z S s F hr hS1 hS2 hfin h;split at h
    ·rename_i i' d v hp;obtain⟨o,ho,hB,hp⟩:=qW hp;cases hmem:mem with
     |true=>
      subst hmem;refine WD.zR (S':=sP Z σs A L s.it w) (hS1 rfl) (Af5 hT hr ho hB hp (.refl hr) (λ_ w' hw=>hw.ext hr) (λw' hw=>(hw.ext hr).gs) λσ' hr'=>?_);exact ih hr' h (λ_=> .inr λw' hw=>hw) (λe=>by cases e)
     |false=>
      subst hmem;refine WD.zR (S':=GS Z σs) (hS2 rfl) (Af5 hT hr ho hB hp ⟨_,_,_,_,hr⟩ (λe=>by cases e) (λw' hw=>hw) λσ' hr'=>?_);exact ih hr' h (λe=>by cases e) (λ_ w' hw=>hw)
    ·split at h
     ·rename_i i' d b hp;obtain⟨o,ho,hB,hp⟩:=dY hp;obtain⟨x,hx,h⟩:=bind_some h;cases hmem:mem with
      |true=>
       subst hmem;refine WD.zR (S':=sP Z σs A L s.it w) (hS1 rfl) (An3 hr ho hB hp hx (.refl hr) λσ' hr'=>?_);exact ih hr' h (λ_=> .inr λw' hw=>hw) (λe=>by cases e)
      |false=>
       subst hmem;refine An3 hr ho hB hp hx (hS2 rfl _ ⟨_,_,_,_,hr⟩) λσ' hr'=>?_;exact ih hr' h (λe=>by cases e) hS2
     ·rename_i i' d t want bv b hp;obtain⟨o,ho,hB,hp⟩:=dY hp;have h:(Cm (mJ want bv) (Option.bind b.E λx=>SW P T inl n mem ops fuel z (listed.setIfInBounds i' true) ((s.res t bv).set d (b.v x)) k)<|SW P T inl n mem ops fuel z (listed.setIfInBounds i' true) ((s.res t bv).set d .off) k)=some r:=by
       cases bv with
       |true=>simpa using h
       |false=>simpa using h
      cases hmem:mem with
      |true=>
       subst hmem;refine WD.zR (S':=sP Z σs A L s.it w) (hS1 rfl) (Agd (X:=λs'=>SW P T inl n true ops fuel z (listed.setIfInBounds i' true) s' k) hr ho hB hp (.refl hr) h λs' hs' σ' hr' h=>?_);exact ih hr' h (λ_=> .inr λw' hw=>hs'▸hw) (λe=>by cases e)
      |false=>
       subst hmem;refine Agd (X:=λs'=>SW P T inl n false ops fuel z (listed.setIfInBounds i' true) s' k) hr ho hB hp (hS2 rfl _ ⟨_,_,_,_,hr⟩) h λs' hs' σ' hr' h=>?_;exact ih hr' h (λe=>by cases e) hS2
     ·split at h
      ·rename_i i' d t j p hp;cases hmem:mem with
       |false=>rw[hmem]at hp;cases hp
       |true=>
        subst hmem;dsimp only[Cm,cond]at hp;obtain⟨o,ho,hB,hp⟩:=xU hp;refine WD.zR (S':=sP Z σs A L s.it w) (hS1 rfl) (Awc (P:=P) hr ho hB hp h (.refl hr) (λw' hw=>hw.ext hr) (λu hu=>(Ay hu).1) λu σ' hu hr'=>?_);exact ih hr' (Ay hu).2 (λ_=> .inr λw' hw=>hw) (λe=>by cases e)
      exact hfin h
   have all:∀(z:Array Bool) (S:World->Prop),(mem=true->∀w',sP Z σs A L s.it w w'->S w')-> (mem=false->∀w',GS Z σs w'->S w')->
     (match AD P T n mem ops z listed s (i::is)with
      |some (i,d,v)=>SW P T inl n mem ops fuel z (listed.setIfInBounds i true) (s.set d v) k
      |none=>match JE P n ops z listed s (i::is)with
       |some (i,d, .on b)=>Option.bind b.E λx=>SW P T inl n mem ops fuel z (listed.setIfInBounds i true) (s.set d (b.v x)) k
       |some (i,d, .ask t want bv b)=>if bv=true then
         (Cm (mJ want true) (Option.bind b.E λx=>SW P T inl n mem ops fuel z (listed.setIfInBounds i true) ((s.res t true).set d (b.v x)) k)<|SW P T inl n mem ops fuel z (listed.setIfInBounds i true) ((s.res t true).set d .off) k)
         else(Cm (mJ want false) (Option.bind b.E λx=>SW P T inl n mem ops fuel z (listed.setIfInBounds i true) ((s.res t false).set d (b.v x)) k)<|SW P T inl n mem ops fuel z (listed.setIfInBounds i true) ((s.res t false).set d .off) k)
       |none=>match(Cm (mem) (TG n ops z listed s (i::is))<|none)with
       |some (i,d,t,j,p)=>getRoot (Cb s.it j) p λu=>Cm (Mu P t u) (SW P T inl n mem ops fuel z (listed.setIfInBounds i true) (s.set d u) k)<|none
       |none=>(λs=>Cm mem (ZN ops ((i::is)++(i::is)) s λs=>(match AD P T n mem ops z listed s (i::is)with
      |some (i,d,v)=>SW P T inl n mem ops fuel z (listed.setIfInBounds i true) (s.set d v) k
      |none=>match JE P n ops z listed s (i::is)with
       |some (i,d, .on b)=>Option.bind b.E λx=>SW P T inl n mem ops fuel z (listed.setIfInBounds i true) (s.set d (b.v x)) k
       |some (i,d, .ask t want bv b)=>if bv=true then
         (Cm (mJ want true) (Option.bind b.E λx=>SW P T inl n mem ops fuel z (listed.setIfInBounds i true) ((s.res t true).set d (b.v x)) k)<|SW P T inl n mem ops fuel z (listed.setIfInBounds i true) ((s.res t true).set d .off) k)
         else(Cm (mJ want false) (Option.bind b.E λx=>SW P T inl n mem ops fuel z (listed.setIfInBounds i true) ((s.res t false).set d (b.v x)) k)<|SW P T inl n mem ops fuel z (listed.setIfInBounds i true) ((s.res t false).set d .off) k)
       |none=>match(Cm (mem) (TG n ops z listed s (i::is))<|none)with
       |some (i,d,t,j,p)=>getRoot (Cb s.it j) p λu=>Cm (Mu P t u) (SW P T inl n mem ops fuel z (listed.setIfInBounds i true) (s.set d u) k)<|none
       |none=>both (match ops[i]? with
        |some o=>Cm (mem&& !((N3 T s o&&gOk ops s o)||(!tw z i&&QX (tw z) (listed.setIfInBounds i true)))) (none)<|
         yK P T inl n ops o s λs'=>SW P T inl n mem ops fuel z (listed.setIfInBounds i true) s' k
        |none=>none) (is.map λi=>match ops[i]? with
        |some o=>Cm (mem&& !((N3 T s o&&gOk ops s o)||(!tw z i&&QX (tw z) (listed.setIfInBounds i true)))) (none)<|
         yK P T inl n ops o s λs'=>SW P T inl n mem ops fuel z (listed.setIfInBounds i true) s' k
        |none=>none)))<|both (match ops[i]? with
        |some o=>Cm (mem&& !((N3 T s o&&gOk ops s o)||(!tw z i&&QX (tw z) (listed.setIfInBounds i true)))) (none)<|
         yK P T inl n ops o s λs'=>SW P T inl n mem ops fuel z (listed.setIfInBounds i true) s' k
        |none=>none) (is.map λi=>match ops[i]? with
        |some o=>Cm (mem&& !((N3 T s o&&gOk ops s o)||(!tw z i&&QX (tw z) (listed.setIfInBounds i true)))) (none)<|
         yK P T inl n ops o s λs'=>SW P T inl n mem ops fuel z (listed.setIfInBounds i true) s' k
        |none=>none)) s)=some r->WD P n ops S (tw z) (fuel+1) listed (λσ' w'=>∃s' A' L',k s'=some r/\Rel Z s' σs A' L' σ' w') σ w:=by
    intro z S hS1 hS2 h;refine main z S s _ hr hS1 hS2 (λhF=>?_) h;clear h;cases hmem:mem with
    |false=>
     simp only[hmem,Cm]at hF;subst hmem;exact rest z S s hr hS1 hS2 hF
    |true=>
     simp only[hmem,Cm]at hF;subst hmem;obtain⟨s',hr',hit,h'⟩:=kM hr hF;refine main z S s' _ hr' (by rw[hit];exact hS1) hS2 (λhG=>?_) h';exact rest z S s' hr' (by rw[hit];exact hS1) hS2 hG
   cases hz:(mem&&QX (tw z0) listed)with
   |true=>
    rw[hz]at h;simp only[Abz]at hz;obtain⟨hm,hov⟩:=hz;subst hm;exact WD.next (S':=sP Z σs A L s.it w) _ hov (all _ _ (λ_ w' hw=>hw) (λe=>by cases e) h)
   |false=>
    rw[hz]at h;refine all _ _ (λhm=>?_) hI2 h;subst hm;rcases hI1 rfl with h1|h1
    ·rw[h1]at hz;cases hz
    ·exact h1
end Go.Rx
namespace Go.Rx
open Go Go.Lv
variable {P:Program} {B B':Reg} {w w':World} {L L':List MD} {s:S} {σs:List Env} {σ:Env} {Z:Fix} {A A':Reg} {n:Nat} {ops:Array Oper}
variable {R:Type} {k:S->Option R} {r:R}
def Asi(w:World)(A:Reg)(L:List Mob)(os:Nat->Option Nat):Prop:=
 (∀(i:Nat) (m:Mob),L[i]? =some m->m.holds (os i) w/\∀b,os i=some b-> ¬A b/\b<w.heap.size)/\∀i j b,i<L.length->j<L.length->i≠j->os i=some b->os j≠some b
theorem Ct.toI:∀{L:List Mob} {A:Reg},Ct w A L->∃os,Asi w A L os
 |[],A,_=>⟨λ_=>none,λi m h=>by simp at h,λi j b h=>by simp at h⟩
 |m::L,A,⟨o,h1,h2,h3⟩=>by
  obtain⟨os,g1,g2⟩:=Ct.toI h3;refine⟨λi=>match i with|0=>o|i+1=>os i,λi m' h=>?_,λi j b hi hj hij h=>?_⟩
  ·cases i with
   |zero=>simp at h;subst h;exact⟨h1,h2⟩
   |succ i=>
    obtain⟨g3,g4⟩:=g1 i m' (by simpa using h);exact⟨g3,λb hb=>⟨λhA=>(g4 b hb).1 (.inl hA),(g4 b hb).2⟩⟩
  ·have key:∀q,q<L.length->∀b,os q=some b->o≠some b:=λq hq b hb ho=>by
    exact((g1 q L[q] (by simp[hq])).2 b hb).1 (.inr ho)
   cases i with
   |zero=>
    cases j with
    |zero=>exact absurd rfl hij
    |succ j=>intro hb;exact key j (by simpa using hj) b hb h
   |succ i=>
    cases j with
    |zero=>exact key i (by simpa using hi) b h
    |succ j=>exact g2 i j b (by simpa using hi) (by simpa using hj) (by omega) h
theorem Ct.ofI:∀{L:List Mob} {A:Reg} {os:Nat->Option Nat},Asi w A L os->Ct w A L
 |[],_,_,_=>trivial
 |m::L,A,os,⟨g1,g2⟩=>by
  obtain⟨h1,h2⟩:=g1 0 m rfl;refine⟨os 0,h1,h2,Ct.ofI (os:=λi=>os (i+1)) ⟨λi m' h=>?_,λi j b hi hj hij h=>?_⟩⟩
  ·obtain⟨g3,g4⟩:=g1 (i+1) m' (by simpa using h);refine⟨g3,λb hb=>⟨λhA=>?_,(g4 b hb).2⟩⟩;rcases hA with hA|hA
   ·exact(g4 b hb).1 hA
   ·have hlt:i<L.length:=(List.getElem?_eq_some_iff.1 h).1;exact g2 0 (i+1) b (by simp) (by simpa using hlt) (by omega) hA hb
  ·exact g2 (i+1) (j+1) b (by simpa using hi) (by simpa using hj) (by omega) h
def distinct:List Nat->Bool|[]=>true|i::r=>!Xt i r&&distinct r
theorem pS:∀{l:List Nat} {i j q:Nat},distinct l=true->l[i]? =some q->l[j]? =some q->i=j
 |[],_,_,_,_,h,_=>by simp at h
 |a::l,i,j,q,hd,hi,hj=>by
  simp only[distinct,Abz,Au3]at hd;have hn:a∉l:=λh=>by have:=Zr.2 h;rw[hd.1]at this;cases this
  cases i with
  |zero=>
   cases j with
   |zero=>rfl
   |succ j=>simp at hi hj;subst hi;exact absurd (List.mem_of_getElem? hj) hn
  |succ i=>
   cases j with
   |zero=>simp at hi hj;subst hj;exact absurd (List.mem_of_getElem? hi) hn
   |succ j=>exact congrArg (· +1) (pS (q:=q) hd.2 (by simpa using hi) (by simpa using hj))
theorem zD{w:World}:MD.dead.Ia.holds none w:=⟨none,0,0,rfl,by simp,Aj0 _,λ_=>rfl,λ_=>rfl,λb h=>by cases h⟩
theorem getD_some{i:Nat}{md:MD}(h:L[i]? =some md):L.getD i .dead=md:=by simp[List.getD_eq_getElem?_getD,h]
theorem getD_none{i:Nat}(h:L[i]? =none):L.getD i .dead= .dead:=by simp[List.getD_eq_getElem?_getD,h]
def Abx(o:List Nat)(L:List MD)(os:Nat->Option Nat)(j:Nat):Option Nat:=match o[j]? with|some i=>(match L[i]? with|some _=>os i|none=>none)|none=>none
theorem mS{o:List Nat}{os:Nat->Option Nat}{i j:Nat}{md:MD}(h:o[j]? =some i)(hL:L[i]? =some md):Abx o L os j=os i:=by unfold Abx;rw[h];simp only[hL]
theorem oE{o:List Nat}{os:Nat->Option Nat}{i j:Nat}(h:o[j]? =some i)(hL:L[i]? =none):Abx o L os j=none:=by unfold Abx;rw[h];simp only[hL]
theorem L4{o:List Nat}(h:Ct w A (L.map MD.Ia))(hd:distinct o=true):Ct w A ((o.map λi=>L.getD i .dead).map MD.Ia):=by
 obtain⟨os,g1,g2⟩:=Ct.toI h;refine Ct.ofI (os:=Abx o L os) ⟨λj m hm=>?_,λi j b hi hj hij hb=>?_⟩
 ·simp only[List.map_map,List.getElem?_map,Ayt,Function.comp]at hm;obtain⟨i,hi,rfl⟩:=hm;cases hL:L[i]? with
  |none=>rw[getD_none hL,oE hi hL];exact⟨zD,λb hb=>by cases hb⟩
  |some md=>rw[getD_some hL,mS hi hL];exact g1 i md.Ia (by simp[hL])
 ·simp only[List.length_map]at hi hj;have e1:o[i]? =some o[i]:=by simp[hi]
  have e2:o[j]? =some o[j]:=by simp[hj]
  have hne:o[i]≠o[j]:=λe=>hij (pS hd e1 (by rw[e2,e]));cases hL1:L[o[i]]? with
  |none=>rw[oE e1 hL1]at hb;cases hb
  |some m1=>
   rw[mS e1 hL1]at hb;cases hL2:L[o[j]]? with
   |none=>rw[oE e2 hL2];simp
   |some m2=>
    rw[mS e2 hL2];exact g2 _ _ b (by simpa using(List.getElem?_eq_some_iff.1 hL1).1) (by simpa using(List.getElem?_eq_some_iff.1 hL2).1) hne hb
theorem Abr{i:Nat}:∀{o:List Nat} {m j:Nat},posOf i o m=some j->∃q,j=m+q/\o[q]? =some i
 |[],_,_,h=>by simp[posOf]at h
 |a::o,m,j,h=>by
  simp only[posOf]at h;cases hb:Nat.beq i a with
  |true=>rw[hb]at h;cases h;exact⟨0,rfl,by simp[Ce hb]⟩
  |false=>
   rw[hb]at h;obtain⟨q,h1,h2⟩:=Abr (o:=o) h;exact⟨q+1,by omega,by simpa using h2⟩
theorem tJ{o:List Nat}{i j:Nat}{md:MD}(h:posOf i o 0=some j)(hL:L[i]? =some md):(o.map λi=>L.getD i .dead)[j]? =some md:=by
 obtain⟨q,h1,h2⟩:=Abr h;rw[Au1]at h1;subst h1;simp[h2,List.getD_eq_getElem?_getD,hL]
theorem Afl{o:List Nat}{p:PV}:(E6 o p).isA=p.isA:=by
 cases p<;>try rfl
 ·simp only[E6];split<;>rfl
 ·simp only[E6];split<;>rfl
 ·simp only[E6];split<;>rfl
abbrev lD(L:List MD):Prop:=L.all (λm=>match m with| .own _ _ v _=>v.oneCell'|_=>true)=true
mutual
theorem pB{o:List Nat}(h1:lD L):∀{p:PV} {cs:List Value},Ba B w L p cs->Ba B w (o.map λi=>L.getD i .dead) (E6 o p) cs
 | .val _ x,cs,h=>h
 | .agg q,cs,h=>Abn h1 (show Ba.go B w L q cs from h)
 | .tup _,_,h=>h.elim
 | .nils,cs,h=>h
 | .own j,cs,⟨z,E,v,c,g1,g2⟩=>by
  simp only[E6];split
  ·rename_i j' hj;exact⟨z,E,v,c,tJ hj g1,g2⟩
  ·exact⟨v,g2,List.all_eq_true.1 h1 _ (List.mem_of_getElem? g1)⟩
 | .ptr j q,cs,⟨md,b,g1,g2,g3⟩=>by
  simp only[E6];split
  ·rename_i j' hj;exact⟨md,b,tJ hj g1,g2,g3⟩
  ·exact⟨_,g3,rfl⟩
 | .view u j p e lo n,cs,⟨md,v,g1,g2,g3⟩=>by
  simp only[E6];split
  ·rename_i j' hj;exact⟨md,v,tJ hj g1,g2,g3⟩
  ·obtain⟨_,_,⟨pt,cap,e',_⟩,_⟩:=g3;exact⟨v,g2,by rw[e'];rfl⟩
 | .rptr v,cs,⟨pv,c0,g1,g2,g3⟩=>⟨pv,c0,g1,g2,pB h1 g3⟩
 | .fn f caps,cs,⟨vs,g1,g2⟩=>⟨vs,g1,wX h1 g2⟩
 | .cst v,cs,h=>h
 | .any,cs,h=>h
 | .gd _ _ _,_,h=>h.elim
 | .off,_,h=>h.elim
 | .undef,_,h=>h.elim
theorem Abn{o:List Nat}(h1:lD L):∀{q:List PV} {cs:List Value},Ba.go B w L q cs->Ba.go B w (o.map λi=>L.getD i .dead) (E6.go o q) cs
 |[],cs,h=>h
 |a::q,cs,⟨c1,c2,e',g1,g2⟩=>⟨c1,c2,e',pB h1 g1,Abn h1 g2⟩
theorem wX{o:List Nat}(h1:lD L):∀{q:List PV} {vs:List Value},Gk B w L q vs->Gk B w (o.map λi=>L.getD i .dead) (E6.go o q) vs
 |[],vs,h=>h
 |a::q,vs,⟨v,vs',e',g1,g2⟩=>⟨v,vs',e',by rw[Afl];exact g1.mono λc h=>pB h1 h,wX h1 g2⟩
end
theorem Aa4{o:List Nat}(h1:lD L){p:PV}{v:Value}(h:Ef B w L p v):Ef B w (o.map λi=>L.getD i .dead) (E6 o p) v:=by
 cases hp:p.jf with
 |true=>
  have h2:Gl B w (o.map λi=>L.getD i .dead) (E6 o p) v:=by
   unfold Gl;rw[Afl];exact asV.mono (λc h=>pB h1 h) ((ZG hp).1 h)
  exact(Jc h2).2
 |false=>
  cases p
  case tup q=>obtain⟨vs,g1,g2⟩:=h;exact⟨vs,g1,wX h1 g2⟩
  case undef=>exact(show False from h).elim
  case off=>exact(show False from h).elim
  case gd=>exact(show False from h).elim
  all_goals cases hp
theorem Ah2{o:List Nat}(h1:lD L){t:Nat}{p:PV}(h:Hu B w L σ t p):Hu B w (o.map λi=>L.getD i .dead) σ t (E6 o p):=by
 cases hv:p.isV with
 |true=>
  have g1:=Aa4 (o:=o) h1 ((Hu.iff hv).1 h);have g2:(E6 o p).isV=true:=by
   cases p<;>first|rfl|cases hv|skip
   ·simp only[E6];split<;>rfl
   ·simp only[E6];split<;>rfl
   ·simp only[E6];split<;>rfl
  exact(Hu.iff g2).2 g1
 |false=>
  rcases Zw hv with rfl|rfl|⟨j,u,q,rfl⟩
  ·exact trivial
  ·exact h
  ·obtain⟨b,g1,g2,g3⟩:=h;exact⟨b,g1,λe=>Aa4 h1 (g2 e),g3⟩
theorem D0{o:List Nat}(h1:lD L){sl:Slots}(h:Fv B w L σ sl):Fv B w (o.map λi=>L.getD i .dead) σ (Ag0 o sl):=by
 intro p hp;obtain⟨q,hq,rfl⟩:=List.mem_map.1 hp;exact Ah2 h1 (h q hq)
theorem E4{o:List Nat}(h1:lD L):∀{σs:List Env} {st:List Slots},YV B w L σs st->YV B w (o.map λi=>L.getD i .dead) σs (st.map (Ag0 o))
 |[],[],h=>h
 |_::_,_::_,⟨g1,g2⟩=>⟨D0 h1 g1,E4 h1 g2⟩
theorem P3{o:List Nat}(h1:lD L){a:Item}{md:MD}(h:Xv B w L a md):Xv B w (o.map λi=>L.getD i .dead) (Ar7 o a) md:=by
 cases a<;>cases md<;>first
  |exact h
  |exact⟨h.1,pB h1 h.2⟩
theorem XZ{sl:Slots}(h:Fv B w L σ sl):∀(lv:List Nat),Fv B w L σ (mE sl lv)
 |[]=>λp hp=>by simp[mE]at hp
 |t::lv=>by
  intro p hp;simp only[mE]at hp;split at hp
  ·exact XZ h lv p hp
  ·exact XZ h lv p hp
  ·exact XZ h lv p hp
  ·rcases List.mem_cons.1 hp with rfl|hp
   ·exact Sm (s:=⟨sl,[],[]⟩) (t:=t) h
   ·exact XZ h lv p hp
theorem mA:∀{l:List Nat} {i:Nat},distinct l=true->Xt i l=false->distinct (l++[i])=true
 |[],_,_,_=>rfl
 |a::l,i,hd,hi=>by
  simp only[distinct,Abz,Au3]at hd;simp only[Xt,Bool.or_eq_false_iff]at hi;simp only[Axs,distinct,Abz,Au3];refine⟨?_,mA hd.2 hi.2⟩;cases hx:Xt a (l++[i])with
  |false=>rfl
  |true=>
   rcases List.mem_append.1 (Zr.1 hx)with h|h
   ·have:=Zr.2 h;rw[hd.1]at this;cases this
   ·simp at h;subst h;simp at hi
theorem PA{it:List Item}:∀(q:Nat) (todo seen:List Nat),distinct seen=true->distinct (reach it q todo seen)=true
 |0,_,_,h=>h
 |_+1,[],_,h=>h
 |q+1,i::todo,seen,h=>by
  simp only[reach];cases he:Xt i seen with
  |true=>exact PA q _ _ h
  |false=>exact PA q _ _ (mA h he)
theorem Anl(hr:Rel Z s σs A L σ w)(lv:List Nat):∃L',Rel Z (s.canon lv) σs A L' σ w:=by
 have hm:=hr.mem;have h1:lD L:=hr.lD;unfold S.canon;simp only;generalize ho:reach s.it 200 (jm (mE s.sl lv)++(s.st.map jm).flatten) []=o;have hd:distinct o=true:=by rw[<-ho];exact PA _ _ _ rfl
 refine⟨o.map λi=>L.getD i .dead,?_⟩;have hst:St A w [Ni Z.R L s σs σ, .old Z.M Z.w0] ((o.map λi=>L.getD i .dead).map MD.Ia):=⟨St.lt hr,St.facts hr,L4 (St.mobs hr) hd⟩;refine Rel.as hst (i:=1) rfl ⟨⟨by simp,λj a m g1 g2=>?_⟩,D0 h1 (XZ hm.sl lv),E4 h1 hm.stk⟩ rfl;simp only[List.getElem?_map,Ayt]at g1 g2;obtain⟨i,g3,rfl⟩:=g1;obtain⟨i',g4,rfl⟩:=g2;rw[g3]at g4;cases g4;cases hi:Cb s.it i with
 |dead=>exact trivial
 |box T v=>
  obtain⟨md,g5,g6⟩:=hm.item hi (by intro e;cases e);rw[getD_some g5];exact P3 h1 g6
 |arr E e l=>
  obtain⟨md,g5,g6⟩:=hm.item hi (by intro e;cases e);rw[getD_some g5];exact P3 h1 g6
theorem yI:∀{p:List Nat} {v u:PV} {cs:List Value},atV v p=some u->Ba B w L v cs-> (∃c,Ba B w L u c)/\∀(B':Reg) (w':World) (L':List MD) (m v':PV),(∀q c,Ba B w L q c->Ba B' w' L' q c)-> (∀c,Ba B w L u c->Ba B' w' L' m c)->m.isA=u.isA->Adp m v p=some v'->Ba B' w' L' v' cs/\v'.isA=v.isA
 |[],v,u,cs,h,hv=>by
  simp only[atV,Ajx]at h;subst h;refine⟨⟨cs,hv⟩,λB' w' L' m v' _ hm hA hp=>?_⟩;simp only[Adp,Ajx]at hp;subst hp;exact⟨hm _ hv,hA⟩
 |i::p,v,u,cs,h,hv=>by
  cases v<;>simp only[atV,reduceCtorEq]at h;rename_i l;split at h
  ·rename_i f hf;obtain⟨c1,c2,c3,e,h1,h2,h3⟩:=Ba.field (show Ba.go B w L l cs from hv) hf;obtain⟨g1,g2⟩:=yI h h2;refine⟨g1,λB' w' L' m v' hq hm hA hp=>?_⟩;simp only[Adp,hf]at hp;split at hp
   ·rename_i f' hf';cases hp;obtain⟨g3,_⟩:=g2 B' w' L' m f' hq hm hA hf';refine⟨?_,rfl⟩;have hl:Ba.go B' w' L' l cs:=show Ba B' w' L' (.agg l) cs from hq _ _ hv;obtain⟨d1,d2,d3,e',k1,k2,k3⟩:=Ba.field hl hf;have:d2=c2:=by
     have l1:d1.length=c1.length:=k1.trans h1.symm;have l2:d2.length=c2.length:=k2.len.trans h2.len.symm;rw[e]at e';obtain⟨e1,e2⟩:=List.append_inj e' l1.symm;obtain⟨e3,_⟩:=List.append_inj e2 l2.symm;exact e3.symm
    rw[e'];exact k3 _ _ (by rw[this];exact g3)
   ·cases hp
  ·cases h
theorem oh(hr:Rel Z s σs A L σ w)(E:TypeId)(e:ET):Rel Z (s.add (.arr E e [])) σs A (L++[.own e.size E (.slice none 0 0) []]) σ w:=
 Rel.push (a:= .arr E e []) (md:= .own e.size E (.slice none 0 0) []) (St.C3 hr e.size E) ⟨rfl,rfl,rfl⟩
theorem B5{i b:Nat}{T:TypeId}{v':PV}{cells:List Value}(hr:Rel Z s σs A L σ w)(hL:L[i]? =some (.box b cells T))(hv:Ba (λb=>A b/\Z.R b) w L v' cells):Rel Z (s.Ub i (.box T v')) σs A L σ w:=by
 have hm:=hr.mem;refine Rel.as hr (i:=1) rfl ⟨⟨by simp[S.Ub,jZ,hm.it.1],λj a m h1 h2=>?_⟩,hm.sl,hm.stk⟩ rfl;simp only[S.Ub]at h1;rcases jW h1 with⟨rfl,rfl⟩|⟨_,h4⟩
 ·rw[hL]at h2;cases h2;exact⟨rfl,hv⟩
 ·exact hm.it.2 j a m h4 h2
theorem rz{t:Nat}{m:PV}:∀{sl:Slots} {q:Nat} {v:PV},(q,v)∈Ads t m sl-> (q,v)∈sl\/ (q=t/\v=m)
 |[],_,_,h=>by simp[Ads]at h
 |(q',v')::r,q,v,h=>by
  simp only[Ads]at h;cases hb:Nat.beq q' t with
  |true=>
   rw[hb]at h;rcases List.mem_cons.1 h with h|h
   ·cases h;exact .inr ⟨Ce hb,rfl⟩
   ·exact .inl (.tail _ h)
  |false=>
   rw[hb]at h;rcases List.mem_cons.1 h with h|h
   ·cases h;exact .inl (.head _)
   ·exact(rz h).imp (.tail _) id
theorem A7{t:Nat}{m:PV}(hr:Rel Z s σs A L σ w)(hm:Hu (λb=>A b/\Z.R b) w L σ t m):Rel Z ⟨Ads t m s.sl,s.it,s.st⟩ σs A L σ w:=by
 refine hr.sj rfl rfl ?_;rintro⟨q,v⟩ hp;rcases rz hp with h|⟨rfl,rfl⟩
 ·exact hr.mem.sl _ h
 ·exact hm
theorem Abc{e:ET}{c:List Value}(h:Ba B w L .nils c):Ba B w L (.val (.list e) []) c:=⟨_,[],show c=_ from h,Rd.nil,rfl⟩
theorem Apf{a:At}{s':S}(hr:Rel Z s σs A L σ w)(h:Aup s a=some s'):∃A' L',Rel Z s' σs A' L' σ w:=by
 have hm:=hr.mem;unfold Aup at h;simp only at h;split at h
 ·
  rename_i i q hsl;split at h
  ·rename_i T v hi;split at h
   ·rename_i u hu;obtain⟨b,cells,hL,hv⟩:=hm.box hi;split at h
    ·rename_i E e _;split at h
     ·rename_i v' hv';cases h;obtain⟨_,g⟩:=yI hu hv;have hr2:=oh hr E e;have hL2:(L++[.own e.size E (.slice none 0 0) []])[i]? =some (.box b cells T):=by rw[List.getElem?_append_left (List.getElem?_eq_some_iff.1 hL).1];exact hL
      obtain⟨g1,_⟩:=g (λb=>A b/\Z.R b) w (L++[.own e.size E (.slice none 0 0) []]) (.own s.new) v' (λq c h=>Ba.step (λ_ h=>h) (λ_ _=>rfl) (cW.append _ _) h)
       (λc hc=>⟨e.size,E,_,[],by rw[S.new,hr.len];simp,hc⟩) rfl hv'
      exact⟨_,_,B5 hr2 hL2 g1⟩
     ·cases h
    ·cases h;exact⟨A,L,hr⟩
    ·rename_i e _;split at h
     ·rename_i v' hv';cases h;obtain⟨_,g⟩:=yI hu hv;obtain⟨g1,_⟩:=g (λb=>A b/\Z.R b) w L (.val (.list e) []) v' (λq c h=>h) (λc hc=>Abc hc) rfl hv';exact⟨_,_,B5 hr hL g1⟩
     ·cases h
    ·obtain⟨A',h1,_⟩:=mW hr h;exact⟨A',_,h1⟩
    ·cases h;exact⟨A,L,hr⟩
    ·cases h
   ·cases h
  ·cases h
 split at h
 ·
  rename_i o i p e1 lo n hsl;split at h
  ·rename_i E e _ _;obtain⟨hb,h⟩:=Ay h;split at h
   ·rename_i s1 j h1;cases h;have hx:Ed s.sl (.tmp a.t)= .view o i p e1 lo n:=by simp only[Ed,hsl]
    obtain⟨L1,hr1,c0,hL⟩:=Aat (x:= .tmp a.t) hr (by simpa [Nat.blt_eq]using hb) (by rw[hx];rfl) (by rw[hx];exact h1);exact⟨_,_,A7 hr1 ⟨_,_,_,_,hL,rfl⟩⟩
   ·cases h
  ·cases h
 ·
  split at h
  ·rename_i u hu;have hsl:=Sm (t:=a.t) hm.sl;have Asx:∀(B':Reg) (L':List MD) (m v':PV),(∀q c,Ba (λb=>A b/\Z.R b) w L q c->Ba B' w L' q c)-> (∀c,Ba (λb=>A b/\Z.R b) w L u c->Ba B' w L' m c)->m.isA=u.isA->u= .nils->Adp m (AV s.sl a.t) a.p=some v'->Hu B' w L' σ a.t v':=by
    intro B' L' m v' hq hmu hA hun hp;have hP:(AV s.sl a.t).jf=true:=by
     revert hu
     generalize AV s.sl a.t=x;generalize a.p=pp;intro hu;cases pp with
     |nil=>simp only[atV,Ajx]at hu;rw[hu,hun];rfl
     |cons _ _=>cases x<;>first|rfl|simp[atV]at hu
    have hE:Gl (λb=>A b/\Z.R b) w L (AV s.sl a.t) (σ a.t):=(ZG hP).1 ((Hu.iff (PV.N5 hP)).1 hsl);have key:Gl B' w L' v' (σ a.t):=by
     unfold Gl asV at hE;split at hE
     ·rename_i hA';obtain⟨cs,e1,hc⟩:=hE;obtain⟨_,g⟩:=yI hu hc;obtain⟨g1,g2⟩:=g B' w L' m v' hq hmu hA hp;unfold Gl;rw[g2,hA'];exact⟨cs,e1,g1⟩
     ·rename_i hA';obtain⟨_,g⟩:=yI hu hE;obtain⟨g1,g2⟩:=g B' w L' m v' hq hmu hA hp;unfold Gl;rw[g2,hA'];exact g1
    obtain⟨k1,k2⟩:=Jc key;exact(Hu.iff k1).2 k2
   split at h
   ·rename_i E e _;split at h
    ·rename_i v' hv';cases h;have hr2:=oh hr E e;exact⟨_,_,A7 (s:=s.add (.arr E e [])) hr2 (Asx _ _ (.own s.new) v' (λq c h=>Ba.step (λ_ h=>h) (λ_ _=>rfl) (cW.append _ _) h) (λc hc=>⟨e.size,E,_,[],by rw[S.new,hr.len];simp,hc⟩) rfl rfl hv')⟩
    ·cases h
   ·cases h;exact⟨A,L,hr⟩
   ·rename_i e _;split at h
    ·rename_i v' hv';cases h;exact⟨_,_,A7 hr (Asx _ _ (.val (.list e) []) v' (λq c h=>h) (λc hc=>Abc hc) rfl rfl hv')⟩
    ·cases h
   ·obtain⟨A',h1,_⟩:=mW hr h;exact⟨A',_,h1⟩
   ·cases h;exact⟨A,L,hr⟩
   ·cases h
  ·cases h
theorem Af0:∀{l:List At} {s s':S} {A:Reg} {L:List MD},Rel Z s σs A L σ w->Aky s l=some s'->∃A' L',Rel Z s' σs A' L' σ w
 |[],s,s',A,L,hr,h=>by simp only[Aky,Ajx]at h;subst h;exact⟨A,L,hr⟩
 |a::l,s,s',A,L,hr,h=>by
  simp only[Aky]at h;split at h
  ·rename_i s1 h1;obtain⟨A1,L1,hr1⟩:=Apf hr h1;exact Af0 hr1 h
  ·cases h
theorem uF{lv:List Nat}{co:List At}{s':S}(hr:Rel Z s σs A L σ w)(h:s.cn lv co=some s'):∃A' L',Rel Z s' σs A' L' σ w:=by
 unfold S.cn at h;split at h
 ·rename_i s1 h1;cases h;obtain⟨A1,L1,hr1⟩:=Af0 hr h1;obtain⟨L',hr2⟩:=Anl hr1 lv;exact⟨A1,L',hr2⟩
 ·cases h
end Go.Rx
namespace Go.Rx
open Go Go.Lv
variable {P:Program} {B B':Reg} {w w':World} {L L':List MD} {s:S} {σs:List Env} {σ:Env} {Z:Fix} {A A':Reg} {n:Nat} {ops:Array Oper}
variable {R:Type} {r:R} {T:Tab} {inl:sZ R}
def kof(k:K R):Exit->S->Option R
 | .normal=>k.n| .exit id=>k.x id| .ret=>k.r|_=>λ_=>none
def QK(Z:Fix)(σs:List Env)(k:K R)(r:R)(e:Exit)(σ':Env)(w':World):Prop:=∃s' A' L',kof k e s'=some r/\Rel Z s' σs A' L' σ' w'
theorem Aff(an:An){gl:List (Nat×List Value)}(hI:EX P gl inl):EX P gl (jg an inl):=by
 unfold jg;split
 ·intro Z hZ f as s k r σs A L σ w vs h hr ha;exact hI Z hZ f as _ k r σs A L σ w vs h (hr.sj rfl rfl (XZ hr.mem.sl _)) ha
 ·exact hI
theorem uQ(SM:P.follows .mixedOrders=true)(hT:lB P T Z)(hI:EX P T.gl inl):∀(c:Code) {an:An} {k:K R} {s:S} {A:Reg} {L:List MD} {σ:Env} {w:World},ex P T inl n c an k s=some r->Rel Z s σs A L σ w->W P n c (QK Z σs k r) σ w:=by
 intro c
 induction c with
 |skip=>intro an k s A L σ w h hr;exact W.skip ⟨s,A,L,h,hr⟩
 |ret=>intro an k s A L σ w h hr;exact W.ret ⟨s,A,L,h,hr⟩
 |exit id=>intro an k s A L σ w h hr;exact W.exit ⟨s,A,L,h,hr⟩
 |seq a b iha ihb=>
  intro an k s A L σ w h hr;refine W.seq (W.mono (iha (an:=an.l) (k:={k with n:=G4 an λs'=>ex P T inl n b an.r k s'}) h hr) ?_);rintro e σ' w' ⟨s',A',L',h1,hr'⟩;cases e with
  |normal=>
   have h2:G4 an (λs'=>ex P T inl n b an.r k s') s'=some r:=h1;unfold G4 at h2;split at h2
   ·split at h2
    ·rename_i s2 hs2;obtain⟨A2,L2,hr2⟩:=uF hr' hs2;exact ihb h2 hr2
    ·cases h2
   ·exact ihb h2 hr'
  |exit id=>exact⟨s',A',L',h1,hr'⟩
  |ret=>exact⟨s',A',L',h1,hr'⟩
  |goto l=>exact⟨s',A',L',h1,hr'⟩
  |panic c=>exact⟨s',A',L',h1,hr'⟩
  |outgrown=>exact⟨s',A',L',h1,hr'⟩
 |cond c a b iha ihb=>
  intro an k s A L σ w h hr;simp only[ex]at h;split at h
  ·rename_i t hc;refine W.cond (qK hr.mem.sl hc) (λht=>?_) (λht=>?_)
   ·subst ht;exact iha (by simpa using h) hr
   ·subst ht;exact ihb (by simpa using h) hr
  ·cases h
 |block id a iha=>
  intro an k s A L σ w h hr;refine W.block (W.mono (iha (an:=an.l) (k:={k with x:=λid' s'=>Cm (Nat.beq id' id) (k.n s')<|k.x id' s'}) h hr) ?_);rintro e σ' w' ⟨s',A',L',h1,hr'⟩;cases e with
  |exit id'=>
   have h2:(Cm (Nat.beq id' id) (k.n s')<|k.x id' s')=some r:=h1;simp only[X0];by_cases hid:id'=id
   ·rw[Abb hid];subst hid;simp at h2;exact⟨s',A',L',h2,hr'⟩
   ·rw[Aba hid];have hb:Nat.beq id' id=false:=by
     cases hb:Nat.beq id' id with
     |false=>rfl
     |true=>exact absurd (Ce hb) hid
    rw[hb]at h2;exact⟨s',A',L',h2,hr'⟩
  |normal=>exact⟨s',A',L',h1,hr'⟩
  |ret=>exact⟨s',A',L',h1,hr'⟩
  |goto l=>exact⟨s',A',L',h1,hr'⟩
  |panic c=>exact⟨s',A',L',h1,hr'⟩
  |outgrown=>exact⟨s',A',L',h1,hr'⟩
 |loop a iha=>
  intro an k s A L σ w h hr;have head:∀(q:Nat) (s:S) (A:Reg) (L:List MD) (σ:Env) (w:World),TL an (iter an (λkn s'=>ex P T inl n a an.l {k with n:=kn} s') q) s=some r->Rel Z s σs A L σ w->
    ∃s' A' L',iter an (λkn s'=>ex P T inl n a an.l {k with n:=kn} s') q s'=some r/\Rel Z s' σs A' L' σ w:=by
   intro q s A L σ w h hr;unfold TL at h;split at h
   ·split at h
    ·rename_i s2 hs2;obtain⟨A2,L2,hr2⟩:=uF hr hs2;exact⟨s2,A2,L2,h,hr2⟩
    ·cases h
   ·cases h
  refine W.loop (λq σ w=>∃s A L,iter an (λkn s'=>ex P T inl n a an.l {k with n:=kn} s') q s=some r/\Rel Z s σs A L σ w) Cy (head _ _ _ _ _ _ h hr) ?_;rintro q σ w ⟨s,A,L,h,hr⟩;cases q with
  |zero=>cases h
  |succ q=>
   refine W.mono (iha (k:={k with n:=TL an (iter an (λkn s'=>ex P T inl n a an.l {k with n:=kn} s') q)}) h hr) ?_;rintro e σ' w' ⟨s',A',L',h1,hr'⟩;cases e with
   |normal=>exact⟨q,Nat.lt_succ_self _,head q s' A' L' σ' w' h1 hr'⟩
   |exit id=>exact⟨s',A',L',h1,hr'⟩
   |ret=>exact⟨s',A',L',h1,hr'⟩
   |goto l=>exact⟨s',A',L',h1,hr'⟩
   |panic c=>exact⟨s',A',L',h1,hr'⟩
   |outgrown=>exact⟨s',A',L',h1,hr'⟩
 |region id ops draw=>
  intro an k s A L σ w h hr;cases draw with
  |false=>
   obtain⟨hd,h⟩:=Ay (show(Cm (mF ops.toList) (lO P T (jg an inl) n ops ops.toList s k.n)<|none)=some r from h);have h1:=yP (ops:=ops) hT (Aff an hI) hr (show lO P T (jg an inl) n ops ops.toList s k.n=some r from h);have hops:ops=ops.toList.toArray:=by simp
   rw[hops];exact W.region hd (by rw[<-hops];exact h1)
  |true=>
   obtain⟨hd,h⟩:=Ay (show(Cm (mF ops.toList) (SW P T (jg an inl) n (sI an) ops ops.size (Cm (sI an) (#[])<|Array.replicate ops.size true) (Array.replicate ops.size false) s k.n)<|none)=some r from h);refine W.Aqq hd SM (λ_=>True) (tw (Cm (sI an) (#[])<|Array.replicate ops.size true)) (λw' hw hg=>?_);have hr':Rel Z s σs A L σ w':=St.Amh hr hw hg;refine Atg hT (Aff an hI) hr' h (λhm=> .inl ?_) (λ_ _ _=>trivial);rw[hm];simp[QX,tw]
 |rangeFunc=>intro an k s A L σ w h hr;cases h
 |scope=>intro an k s A L σ w h hr;cases h
 |label=>intro an k s A L σ w h hr;cases h
 |goto=>intro an k s A L σ w h hr;cases h
 |refuse=>intro an k s A L σ w h hr;cases h
theorem Ah9(hr:Rel Z s σs A L σ w){v:ResultVar}{p:PV}(h:Adi P s v=some p):∃u,UA P σ w v u/\Gl (λb=>A b/\Z.R b) w L p u:=by
 have hm:=hr.mem;cases v with
 |tmp t=>
  obtain⟨hp,h⟩:=Ay h;cases h;exact⟨σ t,rfl,WH hm.sl hp⟩
 |cell a t=>
  simp only[Adi]at h;split at h
  ·rename_i i p' hsl;split at h
   ·rename_i T v0 hi;split at h
    ·rename_i u hu;obtain⟨hk,h⟩:=Ay h;cases h;have hs1:=Sm (t:=a) hm.sl;rw[hsl]at hs1;obtain⟨md,b,h1,h2,h3⟩:=Xm hs1;obtain⟨b',cells,h4,h5⟩:=hm.box hi;rw[h4]at h1;cases h1;cases h2;obtain⟨c1,c2,c3,e,h6,h7⟩:=bR hu h5;have hok:=Qa hk;obtain⟨d,hd,ha⟩:=hok.agg;have hlen:=h7.len;cases hA:p.isA with
     |true=>
      refine⟨.agg c2.toArray,UA.cells hr (hr.Ia h4) ⟨d,hd,ha.trans hA⟩ hok.size h3 ?_ hlen,by unfold Gl;rw[hA];exact⟨c2,rfl,h7⟩⟩;rw[e,<-h6,<-hlen];exact Aga rfl
     |false=>
      rw[hok.one hA]at hlen
      match c2,hlen with
      |[u],_=>exact⟨u,UA.cell hr (hr.Ia h4) ⟨d,hd,ha.trans hA⟩ h3 (by rw[e,<-h6];simp),by unfold Gl;rw[hA];exact h7⟩
    ·cases h
   ·cases h
  ·cases h
theorem sF(hr:Rel Z s σs A L σ w):∀{vs:List ResultVar} {ps:List PV},tN P s vs=some ps->∃us,jL P σ w vs us/\Gk (λb=>A b/\Z.R b) w L ps us
 |[],ps,h=>by simp only[tN,Ajx]at h;subst h;exact⟨[],trivial,rfl⟩
 |v::vs,ps,h=>by
  simp only[tN]at h;split at h
  ·rename_i p ps' hp hps;cases h;obtain⟨u,h1,h2⟩:=Ah9 hr hp;obtain⟨us,h3,h4⟩:=sF hr hps;exact⟨u::us,⟨h1,h3⟩,u,us,rfl,h2,h4⟩
  ·cases h
theorem eO:∀{as:List PV} {vs:List Value} {m:Nat} {f:Nat->Value},Gk B w L as vs-> (∀i v,vs[i]? =some v->f (m+i)=v)->∀p∈Xk m as,Hu B w L f p.1 p.2
 |[],vs,m,f,_,_,p,hp=>by simp[Xk]at hp
 |a::as,vs,m,f,⟨v,vs',e,h1,h2⟩,hf,p,hp=>by
  subst e;simp only[Xk]at hp;rcases List.mem_cons.1 hp with rfl|hp
  ·obtain⟨k1,k2⟩:=Jc (show Gl B w L a v from h1);refine(Hu.iff k1).2 ?_;have:=hf 0 v rfl;rw[Aw6]at this;rw[this];exact k2
  ·exact eO h2 (λi v hi=>by have:=hf (i+1) v (by simpa using hi);rw[<-this];congr 1;omega) p hp
theorem N2{vs:List Value}{i:Nat}{v:Value}(h:vs[i]? =some v):lL vs i=v:=by simp[lL,List.getD_eq_getElem?_getD,h]
theorem Gk.length:∀{as:List PV} {vs:List Value},Gk B w L as vs->vs.length=as.length
 |[],vs,h=>by rw[show vs=[]from h];rfl
 |a::as,vs,⟨v,vs',e,h1,h2⟩=>by rw[e,Aj1,Gk.length h2];rfl
theorem Q6{f:Nat}{an:An}:∀{ans:List (Nat×An)},GM.I1 ans f=some an->∃a,(f,a)∈ans
 |[],h=>by simp[GM.I1]at h
 |(g,a)::ans,h=>by
  simp only[GM.I1]at h;cases hb:Nat.beq g f with
  |true=>have:=Ce hb;subst this;exact⟨a, .head _⟩
  |false=>rw[hb]at h;obtain⟨a',h1⟩:=Q6 h;exact⟨a', .tail _ h1⟩
theorem pA(SM:P.follows .mixedOrders=true)(hT:FA P T){ans:List (Nat×An)}(hA:∀p∈ans,Ent P p.1):∀(q:Nat),EX (R:=R) P T.gl (GM P T q ans)
 |0=>λZ hZ f as s k r σs A L σ w vs h hr ha=>by cases h
 |q+1=>λZ hZ f as s k r σs A L σ w vs h hr ha=>by
  have hI:=pA SM hT hA q;unfold GM at h;split at h
  ·rename_i an fn han hfn;obtain⟨a,hmem⟩:=Q6 han;split at h
   ·cases h
   ·rename_i c hc;obtain⟨hle,h⟩:=Ay h;refine⟨hA _ hmem,?_⟩;have hr1:Rel Z ⟨Xk 0 as,s.it,s.sl::s.st⟩ (σ::σs) A L (lL vs) w:=
     Rel.as hr (i:=1) rfl ⟨hr.mem.it,eO ha (λi v hi=>by rw[Au1];exact N2 hi),hr.mem.sl,hr.mem.stk⟩ rfl
    refine H9 (rs:=fn.results.toList) hfn hc rfl (by simp) (by rw[ha.length];exact hle) (W.mono (uQ SM ⟨hT,hZ⟩ hI c h hr1) ?_);rintro e σ' w' ⟨s',A',L',h1,hr'⟩;have fin:GM.Ajy P fn.results.toList k s'=some r->∃us,jL P σ' w' fn.results.toList us/\∃v p s'' A'' L'',Ending.returned (NF us)= .returned v/\k s'' p=some r/\Rel Z s'' σs A'' L'' σ w'/\p.isV=true/\Ef (λb=>A'' b/\Z.R b) w' L'' p v:=by
     intro h1;unfold GM.Ajy at h1;split at h1
     ·rename_i ps sl st hps hst;obtain⟨us,h2,h3⟩:=sF hr' hps;obtain⟨h4,h5⟩:=Aaw h3;have Ad4:=hr'.mem.stk;rw[hst]at Ad4;exact⟨us,h2,_,_,_,A',L',rfl,h1,Rel.as hr' (i:=1) rfl ⟨hr'.mem.it,Ad4.1,Ad4.2⟩ rfl,h4,h5⟩
     ·cases h1
    cases e with
    |normal=>exact⟨.inr rfl,fin h1⟩
    |ret=>exact⟨.inl rfl,fin h1⟩
    |exit id=>cases h1
    |goto l=>cases h1
    |panic c=>cases h1
    |outgrown=>cases h1
  ·cases h
end Go.Rx
namespace Go.Rx
open Go Go.Lv
variable {P:Program} {B B':Reg} {w w':World} {L L':List MD} {s:S} {σs:List Env} {σ:Env} {Z:Fix} {A A':Reg} {n:Nat} {ops:Array Oper}
variable {R:Type} {r:R} {T:Tab} {inl:sZ R}
abbrev LS:=List (ET×Option TypeId)
def Hf:LS->List PV->Nat->List Nat
 |p::r,v::vs,c=>match p.2 with
  |none=>Hf r vs c
  |some _=>(match v with| .own i=>i|_=>c)::Hf r vs (c+1)
 |_,_,_=>[]
def VP:LS->List MD
 |p::r=>match p.2 with
  |none=>VP r
  |some E=>(match p.1 with| .list a=> .own a.size E (.slice none 0 0) []|_=> .dead)::VP r
 |[]=>[]
theorem Al2(h:Ct w A (L.map MD.Ia)):∀(ls:LS),Ct w A ((L++VP ls).map MD.Ia):=by
 have one:∀(m:MD) (ms:List MD),m.Ia.holds none w->Ct w A ((L++ms).map MD.Ia)->Ct w A ((L++m::ms).map MD.Ia):=by
  intro m ms hm h;have:Ct w A (m.Ia::(L++ms).map MD.Ia):=⟨none,hm,λb hb=>(by cases hb),h.Xo λb hb=>hb.elim id (λh=>by cases h)⟩;refine this.perm ?_;rw[List.map_append,List.map_append,Aw7];exact(List.perm_middle).symm
 intro ls
 induction ls with
 |nil=>simpa [VP]using h
 |cons p ls ih=>
  obtain⟨e,o⟩:=p;cases o with
  |none=>exact ih
  |some E=>cases e<;>exact one _ _ (by first|exact zD|exact⟨none,0,0,rfl,by simp,Aj0 _,λ_=>rfl,λ_=>rfl,λb h=>by cases h⟩) ih
theorem kN:∀{ls:LS} {vs:List PV} {seen:List Nat} {c:Nat},WT s ls vs seen=true->s.it.length<=c->distinct (Hf ls vs c)=true/\∀i∈Hf ls vs c,(i<s.it.length/\i∉seen)\/c<=i
 |[],[],_,_,_,_=>⟨rfl,by simp[Hf]⟩
 |[],_::_,_,_,h,_=>by simp[WT]at h
 |_::_,[],_,_,h,_=>by simp[WT]at h
 |(e,none)::ls,v::vs,seen,c,h,hc=>by
  simp only[WT,Abz]at h;exact kN (ls:=ls) (vs:=vs) (seen:=seen) (c:=c) h.2 hc
 |(e,some E)::ls,v::vs,seen,c,h,hc=>by
  simp only[WT]at h;split at h
  ·obtain⟨h1,h2⟩:=kN h (c:=c+1) (by omega);refine⟨?_,λi hi=>?_⟩
   ·simp only[Hf,distinct,Abz,Au3];refine⟨?_,h1⟩;cases hx:Xt c (Hf ls vs (c+1))with
    |false=>rfl
    |true=>rcases h2 c (Zr.1 hx)with⟨h3,_⟩|h3<;>omega
   ·simp only[Hf,List.mem_cons]at hi;rcases hi with rfl|hi
    ·exact .inr (Aj0 _)
    ·rcases h2 i hi with h3|h3
     ·exact .inl h3
     ·exact .inr (by omega)
  ·rename_i a i;simp only[Abz,Au3]at h;obtain⟨⟨h0,hit⟩,h⟩:=h;have hlt:i<s.it.length:=by
    split at hit
    ·rename_i E' a' l hi;exact(List.getElem?_eq_some_iff.1 (oA hi (by intro e;cases e))).1
    ·cases hit
   obtain⟨h1,h2⟩:=kN h (c:=c+1) (by omega);refine⟨?_,λj hj=>?_⟩
   ·simp only[Hf,distinct,Abz,Au3];refine⟨?_,h1⟩;cases hx:Xt i (Hf ls vs (c+1))with
    |false=>rfl
    |true=>
     rcases h2 i (Zr.1 hx)with⟨_,h3⟩|h3
     ·exact absurd (At9) h3
     ·omega
   ·simp only[Hf,List.mem_cons]at hj;rcases hj with rfl|hj
    ·exact .inl ⟨hlt,λhm=>by have:=Zr.2 hm;rw[h0]at this;cases this⟩
    ·rcases h2 j hj with⟨h3,h4⟩|h3
     ·exact .inl ⟨h3,λhm=>h4 (Aj2 _ hm)⟩
     ·exact .inr (by omega)
  ·cases h
theorem Aow{e:ET}{q:PV}{x:e.T}(hr:Rel Z s σs A L σ w)(h:jJ s e q=some x)(ho:owns q=[])(hb:e.G7=true->∀b,A b/\Z.R b->B' b){L':List MD}:cH (λb=>A b/\Z.R b) w L B' w L' q (.val e x):=by
 obtain⟨h1,h2⟩:=Aai (L':=L') hr h (B':=λb=>A b/\Z.R b) (λ_ h=>h) (λi hi=>by rw[ho]at hi;cases hi);refine⟨h1,λcs hcs=>?_⟩;have h3:Ap (λb=>A b/\Z.R b) w e x cs:=h2 cs hcs;cases hl:e.G7 with
 |true=>exact Ap.step (hb hl) (λ_ _=>rfl) h3
 |false=>exact Ap.noL hl h3
theorem Ao5{e:ET}{l:List e.T}{cs:List Value}(hb:e.G7=true->∀b,B b->B' b)(h:Bq (Ap B w e) l cs):Bq (Ap B' w e) l cs:=by
 cases hl:e.G7 with
 |true=>exact h.mono λx c hx=>Ap.step (hb hl) (λ_ _=>rfl) hx
 |false=>exact h.mono λx c hx=>Ap.noL hl hx
theorem B4(hr:Rel Z s σs A L σ w){LP:List MD}(hP:∀(i:Nat) (m:MD),L[i]? =some m->LP[i]? =some m):∀(ls:LS) (vs:List PV) (y:AP ls) (seen:List Nat) (c:Nat) (s0:S) (Lx LF:List MD),
  WT s ls vs seen=true->PN s ls vs=some y-> (∀p∈ls,Ami p=true->∀b,A b/\Z.R b->B' b)-> (∀i m,(VP ls)[i]? =some m->LP[c+i]? =some m)->Lx.length=s0.it.length->LF=Lx++(Hf ls vs c).map (λi=>LP.getD i .dead)->
  ∃its,(Fc ls y s0).2=⟨s0.sl,s0.it++its,s0.st⟩/\its.length=(Hf ls vs c).length/\All2 (cH (λb=>A b/\Z.R b) w L B' w LF) vs (Fc ls y s0).1/\
   ∀(i:Nat) (a:Item) (m:MD),its[i]? =some a-> ((Hf ls vs c).map (λi=>LP.getD i .dead))[i]? =some m->Xv B' w LF a m
 |[],vs,y,seen,c,s0,Lx,LF,ho,hp,_,_,_,_=>by
  rw[Aac hp];refine⟨[],?_,rfl,All2.nil,λi a m h=>by simp at h⟩;rw[xH];simp
 |p::ls,vs,y,seen,c,s0,Lx,LF,ho,hp,hb,hn,hlen,hLF=>by
  have main:∀(v:PV) (vs':List PV) (x:p.1.T) (rest:S->List PV×S),vs=v::vs'->jJ s p.1 v=some x->
    (Fc (p::ls) y s0=((Ew p.1 p.2 x s0).1::(rest (Ew p.1 p.2 x s0).2).1,(rest (Ew p.1 p.2 x s0).2).2))->
    (∀(seen:List Nat) (c:Nat) (s1:S) (Lx:List MD),WT s ls vs' seen=true-> (∀i m,(VP ls)[i]? =some m->LP[c+i]? =some m)->Lx.length=s1.it.length->LF=Lx++(Hf ls vs' c).map (λi=>LP.getD i .dead)->
     ∃its,(rest s1).2=⟨s1.sl,s1.it++its,s1.st⟩/\its.length=(Hf ls vs' c).length/\All2 (cH (λb=>A b/\Z.R b) w L B' w LF) vs' (rest s1).1/\
      ∀(i:Nat) (a:Item) (m:MD),its[i]? =some a-> ((Hf ls vs' c).map (λi=>LP.getD i .dead))[i]? =some m->Xv B' w LF a m)->
    ∃its,(Fc (p::ls) y s0).2=⟨s0.sl,s0.it++its,s0.st⟩/\its.length=(Hf (p::ls) vs c).length/\All2 (cH (λb=>A b/\Z.R b) w L B' w LF) vs (Fc (p::ls) y s0).1/\
     ∀(i:Nat) (a:Item) (m:MD),its[i]? =some a-> ((Hf (p::ls) vs c).map (λi=>LP.getD i .dead))[i]? =some m->Xv B' w LF a m:=by
   intro v vs' x rest hvs hx hu hrest;subst hvs;rw[hu];have hbp:=hb p (.head _);obtain⟨e,o⟩:=p;cases o with
   |none=>
    simp only[WT,Abz]at ho;have e1:Ew e none x s0=(.val e x,s0):=Af3;simp only[e1];obtain⟨its,h1,h2,h3,h4⟩:=hrest seen c s0 Lx ho.2 hn hlen hLF;refine⟨its,h1,h2, .cons (Aow hr hx (isEmpty_nil ho.1) (λhl=>hbp ?_)) h3,h4⟩;cases e<;>first|exact hl|cases hl
   |some E=>
    simp only[WT]at ho;split at ho
    ·
     rename_i a;have hx':x=[]:=by
      have:elems s a .nils=some x:=hx;simpa [elems]using this.symm
     subst hx';have hc:LP[c]? =some (.own a.size E (.slice none 0 0) []):=hn 0 _ rfl;have e1:Ew (.list a) (some E) [] s0=(.own s0.new,s0.add (.arr E a [])):=rfl;simp only[e1];obtain⟨its,h1,h2,h3,h4⟩:=hrest seen (c+1) (s0.add (.arr E a [])) (Lx++[.own a.size E (.slice none 0 0) []]) ho (λi m hi=>by rw[Auz,Ay9 1 i];exact hn (i+1) m (by simpa [VP]using hi))
      (by simp[S.add,hlen]) (by rw[hLF];simp[Hf,List.getD_eq_getElem?_getD,hc])
     refine⟨.arr E a []::its,by rw[h1];simp[S.add],by simp[Hf,h2], .cons ⟨rfl,λcs hcs=>?_⟩ h3,λi b m hi hm=>?_⟩
     ·refine⟨a.size,E, .slice none 0 0,[],?_,hcs⟩;rw[hLF,S.new,<-hlen];simp[Hf,List.getD_eq_getElem?_getD,hc]
     ·cases i with
      |zero=>
       simp[Hf,List.getD_eq_getElem?_getD,hc]at hi hm;subst hi hm;exact⟨rfl,rfl,rfl⟩
      |succ i=>exact h4 i b m (by simpa using hi) (by simpa [Hf]using hm)
    ·
     rename_i a i;simp only[Abz,Au3]at ho;obtain⟨⟨h0,hit⟩,ho⟩:=ho;split at hit
     ·rename_i E' a' l hi;simp only[Abz,Ab2]at hit;obtain⟨hE,rfl⟩:=hit;have:=Ce hE;subst this;obtain⟨u,cs0,g1,g2⟩:=hr.mem.arr hi;have hx':x=l:=by
       have:elems s a' (.own i)=some x:=hx;simp[elems,hi]at this;exact this.symm
      subst hx';have hc:LP[i]? =some (.own a'.size E' u cs0):=hP i _ g1;have e1:Ew (.list a') (some E') x s0=(.own s0.new,s0.add (.arr E' a' x)):=rfl;simp only[e1];obtain⟨its,h1,h2,h3,h4⟩:=hrest (i::seen) (c+1) (s0.add (.arr E' a' x)) (Lx++[.own a'.size E' u cs0]) ho (λi m hi=>by rw[Auz,Ay9 1 i];exact hn (i+1) m (by simpa [VP]using hi))
       (by simp[S.add,hlen]) (by rw[hLF];simp[Hf,List.getD_eq_getElem?_getD,hc])
      refine⟨.arr E' a' x::its,by rw[h1];simp[S.add],by simp[Hf,h2], .cons ⟨rfl,λcs hcs=>?_⟩ h3,λq b m hq hm=>?_⟩
      ·obtain⟨z,E2,v2,c2,k1,k2⟩:=hcs;rw[g1]at k1;cases k1;refine⟨a'.size,E',u,cs0,?_,k2⟩;rw[hLF,S.new,<-hlen];simp[Hf,List.getD_eq_getElem?_getD,hc]
      ·cases q with
       |zero=>
        simp[Hf,List.getD_eq_getElem?_getD,hc]at hq hm;subst hq hm;exact⟨rfl,rfl,Ao5 hbp g2⟩
       |succ q=>exact h4 q b m (by simpa using hq) (by simpa [Hf]using hm)
     ·cases hit
    ·cases ho
  cases ls with
  |nil=>
   obtain⟨v,rfl,hx⟩:=uz hp;exact main v [] y (λs1=>([],s1)) rfl hx (YT p y s0) (λseen c s1 Lx _ _ hlen hLF=>⟨[],by simp,rfl,All2.nil,λi a m h=>by simp at h⟩)
  |cons q r=>
   obtain⟨v,vs',x,y',rfl,rfl,hx,hy⟩:=O3 hp;exact main v vs' x (λs1=>Fc (q::r) y' s1) rfl hx (SU p q r x y' s0)
    (λseen c s1 Lx ho hn hlen hLF=>B4 hr hP (q::r) vs' y' seen c s1 Lx LF ho hy (λp hp=>hb p (.tail _ hp)) hn hlen hLF)
theorem Ut{e:ET}{x:e.T}{cs:List Value}(h:Ap B w e x cs):Ap (λb=>b<w.heap.size/\B b) w e x cs:=
 match e,x,h with
 | .int _,_,h=>h
 | .bool,_,h=>h
 | .str,_,h=>h
 | .list _,_,⟨v,c0,h1,h2,h3⟩=>⟨v,c0,h1,h2.start,h3.mono λ_ _ h=>Ut h⟩
 | .vec _ _,_,⟨h1,h2⟩=>⟨h1,h2.mono λ_ _ h=>Ut h⟩
 | .cons _ _,_,⟨c1,c2,e,h1,h2⟩=>⟨c1,c2,e,Ut h1,Ut h2⟩
 | .nil,_,h=>h
def Bj:PV->Bool
 | .val _ _=>true
 | .own _=>true
 | .agg l=>go l
 |_=>false
where go:List PV->Bool
 |[]=>true
 |a::r=>Bj a&&go r
mutual
theorem M4:∀{p:PV} {cs:List Value},Bj p=true->Ba B w L p cs->Ba (λb=>b<w.heap.size/\B b) w L p cs
 | .val e x,cs,_,h=>Ut (show Ap B w e x cs from h)
 | .own i,cs,_,h=>h
 | .agg l,cs,hv,h=>D3 hv (show Ba.go B w L l cs from h)
 | .tup _,_,hv,_=>by cases hv
 | .nils,_,hv,_=>by cases hv
 | .ptr _ _,_,hv,_=>by cases hv
 | .view _ _ _ _ _ _,_,hv,_=>by cases hv
 | .rptr _,_,hv,_=>by cases hv
 | .fn _ _,_,hv,_=>by cases hv
 | .cst _,_,hv,_=>by cases hv
 | .any,_,hv,_=>by cases hv
 | .gd _ _ _,_,hv,_=>by cases hv
 | .off,_,hv,_=>by cases hv
 | .undef,_,hv,_=>by cases hv
theorem D3:∀{l:List PV} {cs:List Value},Bj.go l=true->Ba.go B w L l cs->Ba.go (λb=>b<w.heap.size/\B b) w L l cs
 |[],cs,_,h=>h
 |a::l,cs,hv,⟨c1,c2,e,h1,h2⟩=>by
  simp only[Bj.go,Abz]at hv;exact⟨c1,c2,e,M4 hv.1 h1,D3 hv.2 h2⟩
end
theorem wU:∀{l:List PV} {vs:List Value},Bj.go l=true->Gk B w L l vs->Gk (λb=>b<w.heap.size/\B b) w L l vs
 |[],vs,_,h=>h
 |a::l,vs,hv,⟨v,vs',e,h1,h2⟩=>by
  simp only[Bj.go,Abz]at hv;exact⟨v,vs',e,h1.mono λc h=>M4 hv.1 h,wU hv.2 h2⟩
theorem vJ{e:ET}{o:Option TypeId}{x:e.T}{s0:S}:Bj (Ew e o x s0).1=true:=by
 unfold Ew;split<;>rfl
theorem tX{e:ET}{o:Option TypeId}{x:e.T}{s0:S}(h:∀a∈s0.it,∃E e' l,a= .arr E e' l):∀a∈(Ew e o x s0).2.it,∃E e' l,a= .arr E e' l:=by
 unfold Ew;split
 ·intro a ha;simp only[S.add,List.mem_append,List.mem_singleton]at ha;rcases ha with ha|ha
  ·exact h a ha
  ·exact⟨_,_,_,ha⟩
 ·exact h
theorem G9:∀(ls:LS) (x:AP ls) (s0:S),Bj.go (Fc ls x s0).1=true
 |[],x,s0=>rfl
 |[p],x,s0=>by
  rw[YT];have h1:Bj (Ew p.1 p.2 x s0).1=true:=vJ;simp only[Bj.go,h1];rfl
 |p::q::r,(x,y),s0=>by
  rw[SU];have h1:Bj (Ew p.1 p.2 x s0).1=true:=vJ;simp only[Bj.go,h1,G9 (q::r) y _];rfl
theorem H4:∀(ls:LS) (x:AP ls) (s0:S),(∀a∈s0.it,∃E e' l,a= .arr E e' l)->∀a∈(Fc ls x s0).2.it,∃E e' l,a= .arr E e' l
 |[],x,s0,h=>h
 |[p],x,s0,h=>by rw[YT];exact tX h
 |p::q::r,(x,y),s0,h=>by rw[SU];exact H4 (q::r) y _ (tX h)
mutual
theorem Aie:∀{sh:Sh} {vs r:List PV} {u:PV},Rr sh vs=some (u,r)->Bj.go vs=true->Bj u=true/\Bj.go r=true
 | .lf e o,v::vs,r,u,h,hv=>by
  simp only[Rr,Ajx,Auu]at h;obtain⟨rfl,rfl⟩:=h;simpa [Bj.go]using hv
 | .lf e o,[],r,u,h,hv=>by simp[Rr]at h
 | .agg l,vs,r,u,h,hv=>by
  simp only[Rr]at h;split at h
  ·rename_i us r' h1;cases h;exact nT h1 hv
  ·cases h
theorem nT:∀{l:List Sh} {vs r us:List PV},Rr.go l vs=some (us,r)->Bj.go vs=true->Bj.go us=true/\Bj.go r=true
 |[],vs,r,us,h,hv=>by
  simp only[Rr.go,Ajx,Auu]at h;obtain⟨rfl,rfl⟩:=h;exact⟨rfl,hv⟩
 |a::l,vs,r,us,h,hv=>by
  simp only[Rr.go]at h;split at h
  ·rename_i u vs' h1;split at h
   ·rename_i us' vs'' h2;cases h;obtain⟨g1,g2⟩:=Aie h1 hv;obtain⟨g3,g4⟩:=nT h2 g2;exact⟨by simp[Bj.go,g1,g3],g4⟩
   ·cases h
  ·cases h
end
theorem Anw{rs:List Sh}{p:ET×Option TypeId}(hp:p∈Rt rs)(h:Ami p=true):Arl rs=true:=by
 unfold Arl;exact List.any_eq_true.2 ⟨p,hp,h⟩
theorem NP{f:Nat}{fn:Func}{ps rs:List Sh}{F:AP (Rt ps)->Option (AP (Rt rs))}{RUN:S->Option (AP (Rt rs))}(hE:Ent P f)
  (hrun:∀x y pvs,args ps x=some pvs->F x=some y->RUN ⟨Xk 0 pvs,jo ps x,[]⟩=some y)
  (Aus:∀(Z:Fix) (A:Reg) (L:List MD) (w:World) (s:S) (y:AP (Rt rs)) (vs:List Value) (Q:Ending->World->Prop),Z.gl=T.gl->Rel Z s [] A L (lL vs) w->vs.length=ps.length->RUN s=some y->
   (∀s' A' L' σ' w',kX P rs fn.results.toList s'=some y->Rel Z s' [] A' L' σ' w'->∃us,jL P σ' w' fn.results.toList us/\Q (.returned (NF us)) w')->Calls P f vs.toArray w Q):ConOk P T.gl f ⟨ps,rs,F⟩:=by
 refine⟨hE,λR N w L0 vs pvs x y hx Aws Ar1 Awt hvs hgl hy=>?_⟩;have hx':args ps x=some pvs:=hx;have hy':=hrun x y pvs hx' hy
 ·let Z:Fix:=⟨λb=>((R b/\N b)\/∃p∈T.gl,p.1=b)\/ ¬N b\/w.heap.size<=b,λb=>¬N b,w,λb hb=> .inr (.inr hb),λb hb=> .inr (.inl hb),T.gl,λp hp=>⟨.inl (.inr ⟨p,hp,rfl⟩),λh=>h (hgl p hp).2.1,(hgl p hp).1,(hgl p hp).2.2⟩⟩
  have hval:Bj.go pvs=true:=by
   unfold args fK at hx';split at hx'
   ·rename_i us hs;cases hx';exact(nT hs (G9 _ _ _)).1
   ·cases hx'
  have Ayi:Gk (λb=>(b<w.heap.size/\N b)/\Z.R b) w L0 pvs vs:=Gk.step (λb hb=>⟨⟨hb.1,hb.2.2⟩, .inl (.inl hb.2)⟩) (λ_ _=>rfl) (.refl L0) (wU hval hvs);have hst:St (λb=>b<w.heap.size/\N b) w [.old Z.M Z.w0] (L0.map MD.Ia):=by
   refine⟨λb hb=>hb.1,λf hf=>?_,Awt.Xo λb hb=>hb.2⟩;cases hf with
   |head=>exact⟨.refl _,λb hb hM=>⟨⟨hb,Classical.not_not.1 hM⟩,rfl⟩⟩
   |tail _ h=>cases h
  have hr:Rel Z ⟨Xk 0 pvs,jo ps x,[]⟩ [] (λb=>b<w.heap.size/\N b) L0 (lL vs) w:=
   Rel.as (L:=L0) hst (i:=0) rfl ⟨⟨Aws,λi a m h1 h2=>by
    have h3:=Ar1 i a m h1 h2;obtain⟨E,e',l,rfl⟩:=H4 (Rt ps) x ⟨[],[],[]⟩ (by simp) a (List.mem_of_getElem? h1);cases m with
    |dead=>exact h3
    |box _ _ _=>exact h3
    |own z E2 v2 c2=>exact⟨h3.1,h3.2.1,h3.2.2.mono λx c h=>Ap.step (λb hb=>⟨⟨hb.1,hb.2.2⟩, .inl (.inl hb.2)⟩) (λ_ _=>rfl) (Ut h)⟩⟩,
    eO Ayi (λi v hi=>by rw[Au1];exact N2 hi),trivial⟩ rfl
  have hlen:vs.length=pvs.length:=hvs.length;have hpl:pvs.length=ps.length:=by
   unfold args fK at hx';split at hx'
   ·rename_i us hs;cases hx';have key:∀(l:List Sh) (vs r us:List PV),Rr.go l vs=some (us,r)->us.length=l.length:=by
     intro l
     induction l with
     |nil=>intro vs r us h;simp only[Rr.go,Ajx,Auu]at h;obtain⟨rfl,_⟩:=h;rfl
     |cons a l ih=>
      intro vs r us h;simp only[Rr.go]at h;split at h
      ·split at h
       ·rename_i h2;cases h;simp[ih _ _ _ h2]
       ·cases h
      ·cases h
    exact key _ _ _ _ hs
   ·cases hx'
  refine Aus Z _ _ w _ y vs _ rfl hr (hlen.trans hpl) hy' ?_;intro s' A' L' σ' w' h1 hr';have fin:kX P rs fn.results.toList s'=some y->∃us,jL P σ' w' fn.results.toList us/\∃us',Ending.returned (NF us)= .returned (NF us')/\Asl T.gl R N w w' rs y us':=by
   intro h1;unfold kX at h1;split at h1
   ·cases h1
   ·rename_i ls0 Awo;split at h1
    ·cases h1
    ·rename_i s1 hs1;obtain⟨A1,L1,hr1,_⟩:=Qi hr' hs1;split at h1
     ·rename_i ls hls;obtain⟨ho,h1⟩:=Ay h1;unfold Aud at hls;split at hls
      ·rename_i vs1 Ayj;obtain⟨us,hus,huv⟩:=sF hr1 Ayj;refine⟨us,hus,us,rfl,?_⟩;have hold:=hr1.fact 1 (f:= .old Z.M Z.w0) rfl;have hA:∀b,b<w.heap.size->N b->A1 b:=λb hb hN=>(hold.2 b hb (λh=>h hN)).1;have hkeep:KeepN N w w':=⟨λb hb hN=>(hold.2 b hb (λh=>h hN)).2,hold.1⟩;have tV:=Al2 (St.mobs hr1) (Rt rs);obtain⟨hd,hidx⟩:=kN (s:=s1) (c:=L1.length) ho (by rw[hr1.len];exact Aj0 _);refine⟨hkeep,λb=>A1 b/\ (¬N b\/w.heap.size<=b),(Hf (Rt rs) ls L1.length).map (λi=>(L1++VP (Rt rs)).getD i .dead),λb hb=>⟨hb.2,St.lt hr1 b hb.1⟩,?_,?_⟩
       ·refine(L4 tV hd).Xo ?_;rintro b (hb|hb)
        ·exact hb.1
        ·exact hA b hb.1 hb.2
       ·intro s0 L0 B' hL0 hB1 hB2;obtain⟨its,g1,g2,g3,g4⟩:=B4 hr1 (B':=B') (LP:=L1++VP (Rt rs)) (λi m hi=>by rw[List.getElem?_append_left (List.getElem?_eq_some_iff.1 hi).1];exact hi) (Rt rs) ls y [] L1.length s0 L0 _ ho h1
         (λp hp hl b hb=>by
          rcases hb.2 with hR|hN
          ·exact hB2 (Anw hp hl) b hR
          ·exact hB1 b ⟨hb.1,hN⟩)
         (λi m hi=>by rw[List.getElem?_append_right (by omega),Av7];exact hi) hL0 rfl
        obtain⟨ps',g5,g6⟩:=qU hls huv g3;exact⟨ps',its,g1,g5,g6,by rw[g2];simp,g4⟩
      ·cases hls
     ·cases h1
  obtain⟨us,k1,us',k2,k3⟩:=fin h1;exact⟨us,k1,us',k2,k3⟩
theorem Acb(SM:P.follows .mixedOrders=true){f:Nat}{fn:Func}{ans:List (Nat×An)}{an:An}{ps rs:List Sh}{F:AP (Rt ps)->Option (AP (Rt rs))}(hf:P.funcs[f]? =some fn)(hE:Ent P f)(hT:FA P T)(hA:∀p∈ans,Ent P p.1)
  (hle:Nat.ble ps.length fn.ntmps=true) (h:∀x,run P T ans fn an ps rs x=F x):ConOk P T.gl f ⟨ps,rs,F⟩:=by
 cases hc:fn.body with
 |none=>
  refine NP (RUN:=λ_=>none) (fn:=fn) hE (λx y pvs hx hy=>?_) (λ_ _ _ _ _ _ _ _ _ _ _ h=>by cases h);rw[<-h x]at hy;unfold run at hy;rw[hc]at hy;exact hy
 |some c=>
  refine NP (T:=T) (fn:=fn) (RUN:=ex P T (GM P T 8 ans) fn.ntmps c an {n:=kX P rs fn.results.toList,x:=λ_ _=>none,r:=kX P rs fn.results.toList}) hE (λx y pvs hx hy=>?_) ?_
  ·rw[<-h x]at hy;unfold run at hy;rw[hc,hx]at hy;exact hy
  ·intro Z A L w s y vs Q hZ hr hl hy fin;refine H9 (rs:=fn.results.toList) hf hc rfl (by simp) (by rw[hl];exact hle) (W.mono (uQ SM ⟨hT,hZ⟩ (pA SM hT hA 8) c hy hr) ?_);rintro e σ' w' ⟨s',A',L',h1,hr'⟩;cases e with
   |normal=>exact⟨.inr rfl,fin s' A' L' σ' w' h1 hr'⟩
   |ret=>exact⟨.inl rfl,fin s' A' L' σ' w' h1 hr'⟩
   |exit id=>cases h1
   |goto l=>cases h1
   |panic c=>cases h1
   |outgrown=>cases h1
end Go.Rx
namespace Go.Rx
open Go Go.Lv
structure Pt (R:Type)where
 q:Nat
 n:Nat
 c:Code
 an:An
 k:K R
inductive PS (R:Type)|l|r|d|lp (kn:S->Option R)|call (i f:Nat)|dcall (i f fuel:Nat) (z listed:Array Bool)
def Acl(f:Func):Code:=match f.body with|some c=>c|none=> .skip
variable {R:Type}
noncomputable def Pt.e(P:Program)(T:Tab)(ans:List (Nat×An))(p:Pt R)(s:S):Option R:=match p.c with
 | .loop _=>ex P T (GM P T p.q ans) p.n p.c p.an p.k s
 |_=>hold (λs=>ex P T (GM P T p.q ans) p.n p.c p.an p.k s) s
noncomputable def Pt.it(P:Program)(T:Tab)(ans:List (Nat×An))(p:Pt R)(q:Nat)(s:S):Option R:=match p.c with
 | .loop a=>iter p.an (λkn s'=>ex P T (GM P T p.q ans) p.n a p.an.l {p.k with n:=kn} s') q s
 |_=>none
noncomputable def Pt.step(P:Program)(T:Tab)(ans:List (Nat×An))(p:Pt R):PS R->Pt R
 | .l=>match p.c with
  | .seq a b=>⟨p.q,p.n,a,p.an.l,{p.k with n:=G4 p.an λs'=>ex P T (GM P T p.q ans) p.n b p.an.r p.k s'}⟩
  | .cond _ a _=>⟨p.q,p.n,a,p.an.l,p.k⟩
  |_=>p
 | .r=>match p.c with
  | .seq _ b=>⟨p.q,p.n,b,p.an.r,p.k⟩
  | .cond _ _ b=>⟨p.q,p.n,b,p.an.r,p.k⟩
  |_=>p
 | .d=>match p.c with
  | .block id a=>⟨p.q,p.n,a,p.an.l,{p.k with x:=λid' s'=>Cm (Nat.beq id' id) (p.k.n s')<|p.k.x id' s'}⟩
  |_=>p
 | .lp kn=>match p.c with
  | .loop a=>⟨p.q,p.n,a,p.an.l,{p.k with n:=TL p.an kn}⟩
  |_=>p
 | .call i f=>match p.c,p.q,P.funcs[f]?,GM.I1 ans f with
  | .region _ ops false,q+1,some fn,some an=>
   let fin:=GM.Ajy P fn.results.toList λs v=>lO P T (jg p.an (GM P T (q+1) ans)) p.n ops (ops.toList.drop (i+1)) (s.Gm ((ops[i]?).bind (·.dst)) v) p.k.n
   ⟨q,fn.ntmps,Acl fn,an,{n:=fin,x:=λ_ _=>none,r:=fin}⟩
  |_,_,_,_=>p
 | .dcall i f fuel z listed=>match p.c,p.q,P.funcs[f]?,GM.I1 ans f with
  | .region _ ops true,q+1,some fn,some an=>
   let fin:=GM.Ajy P fn.results.toList λs v=>SW P T (jg p.an (GM P T (q+1) ans)) p.n (sI p.an) ops fuel z listed (s.Gm ((ops[i]?).bind (·.dst)) v) p.k.n
   ⟨q,fn.ntmps,Acl fn,an,{n:=fin,x:=λ_ _=>none,r:=fin}⟩
  |_,_,_,_=>p
noncomputable def Pt.at(P:Program)(T:Tab)(ans:List (Nat×An)):Pt R->List (PS R)->Pt R
 |p,[]=>p
 |p,x::l=>Pt.at P T ans (p.step P T ans x) l
noncomputable def Pt.root(P:Program)(fn:Func)(an:An)(rs:List Sh):Pt (AP (Rt rs)):=
 ⟨8,fn.ntmps,Acl fn,an,{n:=kX P rs fn.results.toList,x:=λ_ _=>none,r:=kX P rs fn.results.toList}⟩
noncomputable def PE(P:Program)(T:Tab)(ans:List (Nat×An))(fn:Func)(an:An)(rs:List Sh)(l:List (PS (AP (Rt rs))))(s:S):Option (AP (Rt rs)):=(Pt.at P T ans (Pt.root P fn an rs) l).e P T ans s
noncomputable def PI(P:Program)(T:Tab)(ans:List (Nat×An))(fn:Func)(an:An)(rs:List Sh)(l:List (PS (AP (Rt rs))))(q:Nat)(s:S):Option (AP (Rt rs)):=(Pt.at P T ans (Pt.root P fn an rs) l).it P T ans q s
theorem G6(a:Option R):both a [a,a]=a:=by simp[both]
theorem zJ(a:Option R):both a [a,a,a]=a:=by simp[both]
end Go.Rx
namespace Go.Rx
open Go Go.Lv
theorem ConOk.mono{P:Program}{gl gl':List (Nat×List Value)}{f:Nat}{c:Con}(h:ConOk P gl f c)(hs:gl.Sublist gl'):ConOk P gl' f c:=by
 refine⟨h.ent,λR N w L0 vs ps x y h1 h2 h3 h4 h5 h6 h7=>(h.ok R N w L0 vs ps x y h1 h2 h3 h4 h5 (λp hp=>h6 p (hs.subset hp)) h7).mono ?_⟩;rintro e w' ⟨us,he,hk,A1,L1,g1,g2,g3⟩;exact⟨us,he,hk,A1,L1,g1,g2,λs L B' k1 k2 k3=>g3 s L B' k1 k2 λhr b hb=>k3 hr b (hb.imp id λ⟨p,hp,he⟩=>⟨p,hs.subset hp,he⟩)⟩
theorem FA.nil{P:Program}{gl:List (Nat×List Value)}{vw:Bool}:FA P ⟨[],gl,vw⟩:=λf c h=>by cases h
theorem FA.cons{P:Program}{g:Nat}{c:Con}{r:List (Nat×Con)}{gl:List (Nat×List Value)}{vw:Bool}(h:ConOk P gl g c)(hr:FA P ⟨r,gl,vw⟩):FA P ⟨(g,c)::r,gl,vw⟩:=λf c' h'=>by
 simp only[Tab.get,Ata]at h';cases hb:Nat.beq g f with
 |true=>
  rw[hb]at h';have:=Ce hb;subst this;cases h';exact h
 |false=>rw[hb]at h';exact hr f c' h'
theorem Fa.nil{P:Program}:∀p∈([]:List (Nat×An)),Ent P p.1:=by simp
theorem Fa.cons{P:Program}{g:Nat}{a:An}{r:List (Nat×An)}(h:Ent P g)(hr:∀p∈r,Ent P p.1):∀p∈(g,a)::r,Ent P p.1:=by
 intro p hp;rcases List.mem_cons.1 hp with rfl|hp
 ·exact h
 ·exact hr p hp
end Go.Rx
namespace Go.Rx
variable {R α:Type}
theorem Xq{a b c:Option R}(h:a=c)(h1:b=c):both a [b]=c:=by subst h;subst h1;exact rV _
theorem Xg{a b d c:Option R}(h:a=c)(h1:b=c)(h2:d=c):both a [b,d]=c:=by subst h;subst h1;subst h2;exact G6 _
theorem Xu{a b d e c:Option R}(h:a=c)(h1:b=c)(h2:d=c)(h3:e=c):both a [b,d,e]=c:=by subst h;subst h1;subst h2;subst h3;exact zJ _
theorem HZ{l:List α}{a b c:Option R}(h:l=[]->a=c)(h1:b=c):R6 l a b=c:=by subst h1;exact Ars h
theorem HK{o:Option α}{f g:α->Option R}(h:∀x,f x=g x):Option.bind o f=Option.bind o g:=by rw[funext h]
theorem Nu{o:Option α}{f:α->Option R}{t:Option R}(h:o=none->none=t)(h1:∀x,o=some x->f x=t):Option.bind o f=t:=by
 cases o with
 |none=>exact h rfl
 |some x=>exact h1 x rfl
theorem HS(f:α->Option R):Option.bind none f=none:=rfl
theorem Jv(x:α)(f:α->Option R):Option.bind (some x) f=f x:=rfl
theorem Jj(o:Option α):Option.bind o (λ_=>(none:Option R))=none:=by cases o<;>rfl
theorem UN{c:Prop} [Decidable c]{a b a' b':Option R}(h:c->a=a')(h1:¬c->b=b'):(if c then a else b)=if c then a' else b':=by
 by_cases hc:c
 ·rw[Abb hc,Abb hc];exact h hc
 ·rw[Aba hc,Aba hc];exact h1 hc
theorem Sj{c:Prop} [Decidable c]{a b t:Option R}(h:c->a=t)(h1:¬c->b=t):(if c then a else b)=t:=by
 by_cases hc:c
 ·rw[Abb hc];exact h hc
 ·rw[Aba hc];exact h1 hc
abbrev vi(x:Int):PV:= .val (.int .i64) x
abbrev vc(x:UInt8):PV:= .val (.int .u8) x
abbrev vu(x:UInt32):PV:= .val (.int .u32) x
abbrev vq(x:UInt64):PV:= .val (.int .u64) x
abbrev vx(x:Int32):PV:= .val (.int .i32) x
abbrev vt(x:Bool):PV:= .val .bool x
abbrev vs(x:List UInt8):PV:= .val .str x
abbrev vb(x:List UInt8):PV:= .val (.list (.int .u8)) x
abbrev vl(x:List Int):PV:= .val (.list (.int .i64)) x
abbrev vw(x:List Int32):PV:= .val (.list (.int .i32)) x
abbrev vv(x:List UInt32):PV:= .val (.list (.int .u32)) x
end Go.Rx
namespace Go.Rx
open Go Go.Lv
structure Hd where
 p:List Sh
 r:List Sh
 a:An
 T:Tab
 s:List (Nat×An)
 f:Func
noncomputable def Hd.e(P:Program)(H:Hd):List (PS (AP (Rt H.r)))->S->Option (AP (Rt H.r)):=PE P H.T H.s H.f H.a H.r
noncomputable def Hd.i(P:Program)(H:Hd):List (PS (AP (Rt H.r)))->Nat->S->Option (AP (Rt H.r)):=PI P H.T H.s H.f H.a H.r
noncomputable def Hd.u(P:Program)(H:Hd)(x:AP (Rt H.p)):Option (AP (Rt H.r)):=run P H.T H.s H.f H.a H.p H.r x
def okH(H:Hd):Bool:=(!(H.f.name== "runtime.NumGoroutine")&&H.f.body.isSome)&&Nat.ble H.p.length H.f.ntmps
theorem Hd.con{P:Program}(hM:P.follows .mixedOrders=true)(H:Hd){f:Nat}{F:AP (Rt H.p)->Option (AP (Rt H.r))}(hf:P.funcs[f]? =some H.f)(hT:FA P H.T)(hA:∀p∈H.s,Ent P p.1)
  (hb:okH H=true) (h:∀x,H.u P x=F x):ConOk P H.T.gl f ⟨H.p,H.r,F⟩:=by
 simp only[okH,Abz,Au3]at hb;obtain⟨c,hc⟩:=Option.isSome_iff_exists.1 hb.1.2;exact Acb (T:=H.T) hM hf (Ent.mk hf hb.1.1 hc) hT hA hb.2 h
theorem Hd.Axt{P:Program}(hM:P.follows .mixedOrders=true)(H:Hd){f:Nat}{F:AP (Rt H.p)->Option (AP (Rt H.r))}(hf:P.funcs[f]? =some H.f)(hT:FA P H.T)
  (hb:(H.s.isEmpty&&okH H)=true) (h:∀x,H.u P x=F x):ConOk P H.T.gl f ⟨H.p,H.r,F⟩:=by
 rw[Abz,List.isEmpty_iff]at hb;exact Hd.con hM H hf hT (λp hp=>by rw[hb.1]at hp;cases hp) hb.2 h
theorem ind{p:Nat->Prop}(h:p 0)(hs:∀q,p q->p (q+1)):∀q,p q:=λq=>Nat.rec h hs q
variable {R α:Type}
noncomputable abbrev bo(a:Option R):Option R:=both a [a]
noncomputable abbrev bo2(a:Option R):Option R:=both a [a,a]
theorem vK(a:Option R):both a [a]=a:=rV a
theorem dT(a:Option R):both a [a,a]=a:=G6 a
theorem iF(a:Option R):both a [a,a,a]=a:=zJ a
abbrev Si:Sh:= .lf (.int .i64) none
abbrev Su:Sh:= .lf (.int .u32) none
abbrev Sq:Sh:= .lf (.int .u64) none
abbrev Sx:Sh:= .lf (.int .i32) none
abbrev Sz:Sh:= .lf .bool none
abbrev Ss:Sh:= .lf .str none
abbrev Sb:Sh:= .lf (.list (.int .u8)) none
abbrev Sl:Sh:= .lf (.list (.int .i64)) none
abbrev Sw:Sh:= .lf (.list (.int .i32)) none
abbrev Sv:Sh:= .lf (.list (.int .u32)) none
abbrev Ob(e:Nat):Sh:= .lf (.list (.int .u8)) (some e)
abbrev Ol(e:Nat):Sh:= .lf (.list (.int .i64)) (some e)
abbrev Ow(e:Nat):Sh:= .lf (.list (.int .i32)) (some e)
abbrev Ov(e:Nat):Sh:= .lf (.list (.int .u32)) (some e)
abbrev Ai(e:Nat)(l:List Int):Item:= .arr e (.int .i64) l
abbrev Ab(e:Nat)(l:List UInt8):Item:= .arr e (.int .u8) l
abbrev Aw(e:Nat)(l:List Int32):Item:= .arr e (.int .i32) l
abbrev Av(e:Nat)(l:List UInt32):Item:= .arr e (.int .u32) l
abbrev An.q(a:An):An:= .seq .d a
end Go.Rx
namespace Go.Rx
open Go Go.Lv Go.RowKit
variable {P:Program}
theorem PJ{B:Reg}{w:World}{k:Kd}:∀(l:List k.T),Bq (Ap B w (.int k)) l (Go.Lv.EN (k:=k.k) l)
 |[]=>rfl
 |x::l=>⟨[iv (T:=k.T) (k:=k.k) x],Go.Lv.EN (k:=k.k) l,rfl,rfl,PJ l⟩
theorem Rd.Xo{A B:Reg}{w:World}{s:Nat}{v:Value}{cs:List Value}(h:Rd A w s v cs)(ha:∀b,A b->B b):Rd B w s v cs:=h.step ha λ_ _=>rfl
theorem enc_row{w:World}{k:Kd}{v:Value}{l:List k.T}(h:Rd (λ_=>True) w 1 v (Go.Lv.EN (k:=k.k) l)):Gl (λ_=>True/\True) w [] (.val (.list (.int k)) l) v:=
 ⟨v,_,rfl,Rd.Xo h λ_ _=>⟨trivial,trivial⟩,PJ l⟩
theorem enc_iv{w:World}{k:Kd}(x:k.T):Gl (λ_=>True/\True) w [] (.val (.int k) x) (iv (T:=k.T) (k:=k.k) x):=rfl
theorem enc_str{w:World}(s:List UInt8):Gl (λ_=>True/\True) w [] (.val .str s) (sv s):=rfl
theorem string_sv(a:ByteArray):∃l,(.string a:Value)=sv l:=⟨a.data.toList,by cases a;rfl⟩
theorem encs_nil{B:Reg}{w:World}:Gk B w [] [] []:=rfl
theorem encs_cons{B:Reg}{w:World}{p:PV}{ps:List PV}{v:Value}{vs:List Value}(h:Gl B w [] p v)(hs:Gk B w [] ps vs):Gk B w [] (p::ps) (v::vs):=⟨v,vs,rfl,h,hs⟩
theorem row_true{gl:List (Nat×List Value)}{f:Nat}{ps:List Sh}{F:AP (Rt ps)->Option Bool}(hC:ConOk P gl f ⟨ps,[.lf .bool none],F⟩){x:AP (Rt ps)}{pvs:List PV}{vs:List Value}(ha:args ps x=some pvs)(hi:jo ps x=[]){w:World}
  (hv:Gk (λ_=>True/\True) w [] pvs vs) (hg:GlOk gl (λ_=>True) w) (hF:F x=some true):Calls P f vs.toArray w λe w'=>e= .returned (.bool true)/\Below w.heap.size w w':=by
 refine(hC.ok (λ_=>True) (λ_=>True) w [] vs pvs x true ha (by rw[hi];rfl) (λi a m h=>by rw[hi]at h;simp at h) trivial hv hg hF).mono ?_;rintro e w' ⟨us,rfl,hk,A1,L1,g1,g2,g3⟩;obtain⟨qs,its,k1,k2,k3,k4,k5⟩:=g3 ⟨[],[],[]⟩ [] (λ_=>True) rfl (λ_ _=>trivial) (λ_ _ _=>trivial);refine⟨?_,⟨hk.gr.os,hk.gr.tape,hk.gr.output,hk.gr.le,λb hb=>hk.same b hb trivial⟩⟩;obtain rfl:=At5 (show some [PV.val .bool true]=some qs from k2);obtain⟨_,_,rfl,e1,rfl⟩:=k3;cases(show [_]=[Value.bool true]from e1);rfl
theorem laid_ints{H:Type}{enc:TypeId×Value->H}{w:World}{fuel:Nat}{t e n:Nat}{k:IntKind}{cs:List Value}{zs:List Int}{p:List MemPlace}(hu:P.underlying t=some (.array n e))(he:P.underlying e=some (.int k))(hc:P.cellsOf e=1)(ht:P.cellsOf t=n)
  (h:DataW.trod enc P w 0 (λ_=>true) false fuel t cs=some (.agg (zs.map λz=> .lit (.int k z)),p)):cs=zs.map λz=>Value.int k z:=by
 obtain⟨xs,m,rfl,hx,hlen,hn,hel⟩:=DataW.trod_array hu h;simp only[Auu,DataW.agg.injEq]at hx;rw[ht]at hlen;have hz:zs.length=n:=by
  have:=congrArg List.length hx.1;simpa [hn]using this
 apply List.ext_getElem?;intro i;by_cases hi:i<n
 ·have h0:=hel i hi;rw[hc,Azh]at h0;have hxi:xs[i]? =some xs[i]:=List.getElem?_eq_getElem (by omega);rw[hxi]at h0;obtain⟨q,e1,e2,_⟩:=DataW.trod_int he h0;have e3:(cs.drop i).take 1=[cs[i]'(by omega)]:=by
   rw[List.drop_eq_getElem_cons (by omega)];rfl
  rw[e3]at e1;have e4:(xs.map (·.1))[i]? =(zs.map λz=>(DataW.lit (.int k z):DataW H))[i]? :=by rw[<-hx.1]
  rw[List.getElem?_map,List.getElem?_map,hxi,List.getElem?_eq_getElem (by omega),e2]at e4;simp only[Azk,Ajx,DataW.lit.injEq,Lit.int.injEq,true_and]at e4;rw[List.getElem?_map,List.getElem?_eq_getElem (by omega),List.getElem?_eq_getElem (by omega)];simp only[List.cons.injEq,and_true]at e1;rw[e1,e4];rfl
 ·rw[List.getElem?_eq_none (by omega),List.getElem?_eq_none (by simp;omega)]
theorem glOk_cons{n:String}{g:Nat}{cs:Array Value}{l:List Value}{gl:List (Nat×List Value)}{w:World}(hg:P.globalNamed n=some g)(hv:w.var? P n=some cs)(hl:cs.toList=l)(h:GlOk gl (λ_=>True) w):GlOk ((g,l)::gl) (λ_=>True) w:=by
 intro p hp;rcases List.mem_cons.1 hp with rfl|hp
 ·simp only[World.var?,hg,Option.bind_some]at hv;split at hv
  ·rename_i cs' T fr hh;cases hv;refine⟨(Array.getElem?_eq_some_iff.1 hh).1,trivial,T,fr,?_⟩;rw[hh,<-hl]
  ·cases hv
 ·exact h p hp
theorem glOk_nil{w:World}{N:Reg}:GlOk [] N w:=λp hp=>by simp at hp
end Go.Rx
namespace Go.Rx
open Go Go.Lv Go.RowKit Go.ChangeShapes Go.WideShapes
variable {P:Program}
theorem agg_nil{B:Reg}{w:World}:Ba.go B w [] [] []:=rfl
theorem agg_leaf{B:Reg}{w:World}{p:PV}{ps:List PV}{v:Value}{vs:List Value}(ha:p.isA=false)(h:Gl B w [] p v)(hs:Ba.go B w [] ps vs):Ba.go B w [] (p::ps) (v::vs):=by
 refine⟨[v],vs,rfl,?_,hs⟩;unfold Gl at h;rw[ha]at h;exact h
theorem enc_agg{B:Reg}{w:World}{l:List PV}{c:List Value}(h:Ba.go B w [] l c):Gl B w [] (.agg l) (.agg c.toArray):=⟨c,rfl,h⟩
theorem fld{H:Type}{enc:TypeId×Value->H}{w:World}{base:Nat}{spare:Nat->Bool}{held:Bool}{fuel:Nat}{t:TypeId}{fs:Array Field}{cs:List Value}{x:DataW H×List MemPlace}(ht:P.underlying t=some (.struct fs))(h:DataW.trod enc P w base spare held fuel t cs=some x)
  (i:Nat) {ft:TypeId} {off k:Nat} {part:List Value} (hf:(fs[i]?).map (λf=>(f.type,f.offset))=some (ft,off)) (hc:P.cellsOf ft=k) (hd:(cs.drop off).take k=part):∃n y,DataW.trod enc P w base spare held n ft part=some y:=by
 obtain⟨xs,n,_,_,_,hn,hel⟩:=DataW.trod_struct ht h;cases hi:fs[i]? with
 |none=>rw[hi]at hf;cases hf
 |some f=>
  rw[hi]at hf;cases hf;have g:=hel i f hi;rw[hc,hd,List.getElem?_eq_getElem (by rw[hn];exact(Array.getElem?_eq_some_iff.1 hi).1)]at g;exact⟨n,_,g⟩
section
variable {H:Type} {enc:TypeId×Value->H} {w:World} {base:Nat} {spare:Nat->Bool} {held:Bool} {fuel:Nat} {t:TypeId} {fs:Array Field} {cs:List Value} {x:DataW H×List MemPlace} (ht:P.underlying t=some (.struct fs)) (h:DataW.trod enc P w base spare held fuel t cs=some x)
  (i:Nat) {ft:TypeId} {off:Nat} {e:Value} (hf:(fs[i]?).map (λf=>(f.type,f.offset))=some (ft,off)) (hc:P.cellsOf ft=1)
include ht h hf hc
theorem fld_int{k:IntKind}(hk:P.underlying ft=some (.int k))(hd:(cs.drop off).take 1=[e]):∃a,e= .int k a/\ (Lit.int k a).wf=true:=by
 obtain⟨n,y,g⟩:=fld ht h i hf hc hd;obtain⟨a,e1,_,hw⟩:=DataW.trod_int hk g;cases e1;exact⟨a,rfl,hw⟩
end
theorem fld_row{H:Type}{enc:TypeId×Value->H}{w:World}{held:Bool}{fuel:Nat}{t:TypeId}{fs:Array Field}{cs:List Value}{x:DataW H×List MemPlace}(ht:P.underlying t=some (.struct fs))(h:DataW.trod enc P w 0 (λ_=>true) held fuel t cs=some x)
  (i:Nat) {ft et:TypeId} {off:Nat} {e:Value} (hf:(fs[i]?).map (λf=>(f.type,f.offset))=some (ft,off)) (hc:P.cellsOf ft=1) {k:IntKind} (hk:P.underlying ft=some (.slice et)) (he:P.underlying et=some (.int k)) (h1:P.cellsOf et=1) (hd:(cs.drop off).take 1=[e]):
  ∃(a:Option Addr) (len cap:Nat) (zs:List Int),e= .slice a len cap/\ ((a=none/\len=0/\cap=0/\zs=[])\/∃x,a=some x/\len<=cap/\cap<=maxLen/\zs.length=cap/\ (∀i,i<zs.length->w.cell? (x.add i)=some (.int k (zs.getD i 0)))/\∀n∈zs,(Lit.int k n).wf=true):=by
 obtain⟨n,y,g⟩:=fld ht h i hf hc hd;rcases open_ints hk he h1 g with⟨e1,_⟩|⟨x,l,c,zs,e1,_,hl,hm,hz,_,hcell,hwz⟩
 ·cases e1;exact⟨none,0,0,[],rfl, .inl ⟨rfl,rfl,rfl,rfl⟩⟩
 ·cases e1;exact⟨some x,l,c,zs,rfl, .inr ⟨x,rfl,hl,hm,by simpa using hz,hcell,hwz⟩⟩
end Go.Rx
namespace Go.Rx
open Go Go.Lv Go.RowKit Go.ChangeShapes Go.WideShapes
variable {P:Program}
end Go.Rx
namespace Go.Rx
open Go Go.Lv Go.RowKit
def Awe(P:Program)(m:Nat)(gf:Nat)(lb:Array Value)(N:Nat)(E:Nat->Reg->World->Value->Prop)(V0:Reg)(w:World):Prop:=
 ∀(l:Nat) (J:Nat->Reg->World->Prop) (Jx:World->Prop) (W:World),KeepN (λ_=>True) w W->
  (∀i V X Y,J i V X->KeepN (λ_=>True) X Y->J i (λb=>V b\/ (X.heap.size<=b/\b<Y.heap.size)) Y)->
  (∀X Y,Jx X->KeepN (λ_=>True) X Y->Jx Y)->
  (∀i V W1 v,i<N->J i V W1->E i V W1 v->YieldAt (wr none) (m-1) P l #[v] W1 λe W'=>
   (e= .returned (.bool true)/\J (i+1) V W'/\Gr W1 W'/\∀b,V b->W'.heap[b]? =W1.heap[b]?)\/ (e= .returned (.bool false)/\Jx W'))->
  J 0 V0 W->
  CallsIn (wr none) m P gf (#[.func (.yield l) #[] #[]]++lb) W λe W'=>(∃v,e= .returned v)/\ ((∃V,J N V W')\/Jx W')
def Aua(B:Nat)(I:Reg->World->Prop)(Ix:Code->World->Prop)(V:Reg)(W:World):Exit->Act->World->Prop
 | .normal,_,W'=>(∀b,(b=B\/b=B+1\/V b)->W'.heap[b]? =W.heap[b]?)/\Gr W W'/\I V W'
 | .ret,_,W'=>(∀b,(b=B\/b=B+1)->W'.heap[b]? =W.heap[b]?)/\Gr W W'/\Ix .ret W'
 | .exit id,_,W'=>(∀b,(b=B\/b=B+1)->W'.heap[b]? =W.heap[b]?)/\Gr W W'/\Ix (.exit id) W'
 |_,_,_=>False
theorem tM(W:World)(l:Nat)(o:Obj):Gr W (W.putObj l o):=by
 have h:=grownBy_putObj' W l o;exact⟨h.size,h.os,h.tape,h.output⟩
theorem zw(W:World)(o:Obj):Gr W (W.alloc o):=by
 have h:=World.grownBy_alloc W o none;exact⟨h.size,h.os,h.tape,h.output⟩
theorem Apa{P:Program}{n:Nat}{g:Operand}{ps:Array Tmp}{assign body:Code}{Q:Exit->Act->World->Prop}{a:Act}{w:World}
  {gf:Nat} {lb:Array Value} (hg:a.eval g= .func (.func gf) #[] lb) (eg:Ent P gf) {N:Nat} {E:Nat->Reg->World->Value->Prop} {V0:Reg} (hseq:Awe P (n-1) gf lb N E V0 w) (hps:ps.size=1)
  (I:Nat->Reg->World->Prop) (Ix:Code->World->Prop)
  (hI:∀i V X Y,I i V X->w.heap.size+1<X.heap.size->KeepN (λ_=>True) X Y->I i (λb=>V b\/ (X.heap.size<=b/\b<Y.heap.size)) Y)
  (hIx:∀c X Y,Ix c X->KeepN (λ_=>True) X Y->Ix c Y)
  (hIr:∀i V X (r r':Loop),I i V X->X.heap[w.heap.size+1]? =some (.loop r)->I i V (X.putObj (w.heap.size+1) (.loop r')))
  (Aob:∀c X (r r':Loop),Ix c X->X.heap[w.heap.size+1]? =some (.loop r)->Ix c (X.putObj (w.heap.size+1) (.loop r')))
  (hV:∀i V W,I i V W-> ¬V (w.heap.size+1))
  (h0:∀W,KeepN (λ_=>True) w W->I 0 V0 W)
  (Ad5:∀i V W v (r:Loop),i<N->I i V W->E i V W v->W.heap[w.heap.size+1]? =some (.loop r)->W.heap[w.heap.size]? =some (.deferred (some []))->
   assign.wpIn (wr (some (w.heap.size+1))) (n-1-1) P (Exit.then (λa' W'=>(∀b,(b=w.heap.size\/b=w.heap.size+1\/V b)->W'.heap[b]? =W.heap[b]?)/\Gr W W'/\
    ∀r',body.wpIn (wr (some (w.heap.size+1))) (n-1-1) P (Aua w.heap.size (I (i+1)) Ix V (W'.putObj (w.heap.size+1) (.loop r'))) a' (W'.putObj (w.heap.size+1) (.loop r'))) (λ_ _ _=>False))
    {tmps:=(ps.zip #[v]).foldl (λt (p,v)=>t.setIfInBounds p v) a.tmps,defers:=[]} W)
  (hdone:∀V W,I N V W->W.heap[w.heap.size]? =some (.deferred (some []))->Q .normal {a with defers:={target:= .collected w.heap.size,args:= #[]}::a.defers} W)
  (hstop:∀c W,Ix c W->W.heap[w.heap.size]? =some (.deferred (some []))->c.wpIn (wr none) n P Q {a with defers:={target:= .collected w.heap.size,args:= #[]}::a.defers} W):
  (Code.rangeFunc g ps assign body).wpIn (wr none) n P Q a w:=by
 refine wpIn_rangeFunc ?_;intro fn hfn;obtain⟨rec,hrec⟩:∃rec:LoopState->Option Code->Loop,rec=λst pe=>{state:=st,pending:=pe,fn,tmps:=a.tmps,params:=ps,assign,body,defers:=w.heap.size}:=⟨_,rfl⟩;obtain⟨W1,hW1⟩:∃W1,(w.alloc (.deferred (some []))).alloc (.loop (rec .ready none))=W1:=⟨_,rfl⟩;have hL1:W1.heap[w.heap.size+1]? =some (.loop (rec .ready none)):=by
  rw[<-hW1];have:=World.alloc_heap_new (w.alloc (.deferred (some []))) (.loop (rec .ready none));rwa [World.size_alloc]at this
 have hK1:W1.heap[w.heap.size]? =some (.deferred (some [])):=by
  rw[<-hW1];exact(Below.heap_alloc _ _ _ (by simp)).trans (World.alloc_heap_new w _)
 have hk1:KeepN (λ_=>True) w W1:=by
  rw[<-hW1];refine⟨λb hb _=>?_,(zw _ _).trans (zw _ _)⟩;exact(Below.heap_alloc _ _ _ (by simp;omega)).trans (Below.heap_alloc _ _ _ hb)
 refine⟨w.heap.size+1,[{target:= .collected w.heap.size,args:= #[]}],W1,{target:= .fn (.func gf) lb,args:= #[.func (.yield (w.heap.size+1)) #[] #[]]},W1,gf,
  #[.func (.yield (w.heap.size + 1)) #[] #[]] ++ lb, W1, ?_, ?_, ?_, ?_, (λh => by simp [wr, Fence.wide] at h), ?_⟩
 ·rw[<-hW1,hrec];exact run_enterLoop_outer _ _ _ _ _
 ·simp only[resolve,hg];simp[go_sem]
 ·intro f' hf';trivial
 ·simp[invoke,go_sem,eg _ _]
 ·refine(hseq (w.heap.size+1)
   (λi V W=>I i V W/\W.heap[w.heap.size+1]? =some (.loop (rec .ready none))/\W.heap[w.heap.size]? =some (.deferred (some [])))
   (λW=>∃c,Ix c W/\W.heap[w.heap.size+1]? =some (.loop (rec .done (some c)))/\W.heap[w.heap.size]? =some (.deferred (some [])))
   W1 hk1 ?_ ?_ ?_ ⟨h0 _ hk1,hL1,hK1⟩).mono ?_
  ·rintro i V X Y ⟨h1,h2,h3⟩ hk;exact⟨hI i V X Y h1 (lt_of_heap h2) hk,(hk.same _ (lt_of_heap h2) trivial).trans h2,(hk.same _ (lt_of_heap h3) trivial).trans h3⟩
  ·rintro X Y ⟨c,h1,h2,h3⟩ hk;exact⟨c,hIx c X Y h1 hk,(hk.same _ (lt_of_heap h2) trivial).trans h2,(hk.same _ (lt_of_heap h3) trivial).trans h3⟩
  ·
   rintro i V W v hlen ⟨hi,hl,hk⟩ hE;have hy:=run_yield (P:=P) (args:= #[v]) hl (by rw[hrec];exact hps.symm);rw[hrec]at hy;have hVl:=hV i V W hi;refine⟨fn,_,assign,body,hy,roundIn_of_wpIn hfn (Ayn (Ad5 i V W v _ hlen hi hE hl hk) ?_)⟩;clear hy;rintro e a' W2 hh;cases e with
   |normal=>
    obtain⟨hs,hgr,hb⟩:=hh;have hl2:=(hs _ (.inr (.inl rfl))).trans hl;have hk2:=(hs _ (.inl rfl)).trans hk;refine⟨_,run_beginRound hl2 (by rw[hrec]),?_⟩;refine Ayn (hb _) ?_;have hlt:=lt_of_heap hl2;have hl3:(W2.putObj (w.heap.size+1) (.loop {rec .ready none with state:= .busy})).heap[w.heap.size+1]? =some (.loop {rec .ready none with state:= .busy}):=World.putObj_heap_same hlt;have hk3:(W2.putObj (w.heap.size+1) (.loop {rec .ready none with state:= .busy})).heap[w.heap.size]? =some (.deferred (some [])):=(Awv (by omega)).trans hk2;have fin:∀(jump:Option Code) (W3:World),(∀b,(b=w.heap.size\/b=w.heap.size+1)->W3.heap[b]? =(W2.putObj (w.heap.size+1) (.loop {rec .ready none with state:= .busy})).heap[b]?)->
      (Instr.endRound (w.heap.size+1) jump).run P W3= .ok (.bool jump.isNone) (W3.putObj (w.heap.size+1) (.loop (rec (if jump.isNone then .ready else .done) jump)))/\
      W3.heap[w.heap.size+1]? =some (.loop {rec .ready none with state:= .busy})/\
      (W3.putObj (w.heap.size+1) (.loop (rec (if jump.isNone then .ready else .done) jump))).heap[w.heap.size+1]? =some (.loop (rec (if jump.isNone then .ready else .done) jump))/\
      (W3.putObj (w.heap.size+1) (.loop (rec (if jump.isNone then .ready else .done) jump))).heap[w.heap.size]? =some (.deferred (some [])):=λjump W3 hs3=>by
     have hl4:=(hs3 _ (.inr rfl)).trans hl3;have:=run_endRound (P:=P) jump hl4;rw[hrec]at this⊢;exact⟨this,by rw[hrec]at hl4;exact hl4,World.putObj_heap_same (lt_of_heap hl4),(Awv (by omega)).trans ((hs3 _ (.inl rfl)).trans hk3)⟩
    rintro e a3 W3 hp;cases e with
    |normal=>
     obtain⟨hs3,hg3,hi3⟩:=hp;obtain⟨hr,hl4,hl5,hk5⟩:=fin none W3 (λb hb=>hs3 b (hb.elim .inl λh=> .inr (.inl h)));refine⟨_,_,hr, .inl ⟨rfl,⟨hIr _ _ _ _ _ hi3 hl4,hl5,hk5⟩,hgr.trans ((tM _ _ _).trans (hg3.trans (tM _ _ _))),λb hb=>?_⟩⟩;have hne:b≠w.heap.size+1:=λe=>hVl (e▸hb);exact(Awv hne).trans ((hs3 b (.inr (.inr hb))).trans ((Awv hne).trans (hs b (.inr (.inr hb)))))
    |ret=>
     obtain⟨hs3,hg3,hi3⟩:=hp;obtain⟨hr,hl4,hl5,hk5⟩:=fin (some .ret) W3 hs3;exact⟨_,_,hr, .inr ⟨rfl, .ret,Aob _ _ _ _ hi3 hl4,hl5,hk5⟩⟩
    |exit id=>
     obtain⟨hs3,hg3,hi3⟩:=hp;obtain⟨hr,hl4,hl5,hk5⟩:=fin (some (.exit id)) W3 hs3;exact⟨_,_,hr, .inr ⟨rfl, .exit id,Aob _ _ _ _ hi3 hl4,hl5,hk5⟩⟩
    |goto t=>exact hp.elim
    |panic ch=>exact hp.elim
    |outgrown=>exact hp.elim
   |_=>exact hh.elim
  ·rintro e W2 ⟨⟨v,rfl⟩,(⟨V,hi,hl,hk⟩|⟨c,hi,hl,hk⟩)⟩
   ·exact⟨none,_,by have:=run_endLoop (P:=P) hl (by rw[hrec];simp);rw[hrec]at this;exact this,hdone _ _ (hIr _ _ _ _ _ hi hl) ((Awv (by omega)).trans hk)⟩
   ·exact⟨some c,_,by have:=run_endLoop (P:=P) hl (by rw[hrec];simp);rw[hrec]at this;exact this,hstop c _ (Aob _ _ _ _ hi hl) ((Awv (by omega)).trans hk)⟩
variable {P:Program} {B:Reg} {w w':World} {L L':List MD} {s s':S} {σs σs':List Env} {σ σ':Env} {Z:Fix} {A A':Reg} {n:Nat}
theorem Ahp{md:MD}{b:Nat}(h:md.Ia.holds (some b) w):∃arr T fr,w.heap[b]? =some (.cells arr T fr):=by
 cases md with
 |dead=>
  obtain⟨p,len,cap,h1,h2,h3,h4,h5,h6⟩:=h;obtain⟨arr,fr,e1,e2,_⟩:=h6 b rfl;exact⟨_,_,_,e2⟩
 |box b' c T=>obtain⟨h1,h2⟩:=h;cases h1;exact⟨_,_,_,h2⟩
 |own z E v cs=>
  obtain⟨p,len,cap,h1,h2,h3,h4,h5,h6⟩:=h;obtain⟨arr,fr,e1,e2,_⟩:=h6 b rfl;exact⟨_,_,_,e2⟩
theorem rU:∀{L:List MD} {A:Reg},Ct w A (L.map MD.Ia)->∃O:Reg,(∀b,O b-> ¬A b/\b<w.heap.size/\∃arr T fr,w.heap[b]? =some (.cells arr T fr))/\Ct w (λb=>¬O b) (L.map MD.Ia)
 |[],A,_=>⟨λ_=>False,λb h=>h.elim,trivial⟩
 |md::L,A,⟨o,h1,h2,h3⟩=>by
  obtain⟨O,g1,g2⟩:=rU h3;refine⟨λb=>O b\/o=some b,λb hb=>?_,o,h1,λb hb=>⟨λh=>h (.inr hb),(h2 b hb).2⟩,g2.Xo λb hb=>?_⟩
  ·rcases hb with hb|hb
   ·exact⟨λh=>(g1 b hb).1 (.inl h),(g1 b hb).2⟩
   ·subst hb;exact⟨(h2 b rfl).1,(h2 b rfl).2,Ahp h1⟩
  ·rcases hb with hb|hb
   ·exact λh=>hb (.inl h)
   ·exact λh=>(g1 b h).1 (.inr hb)
theorem Rel.gr0(hr:Rel Z s σs A L σ w):Gr Z.w0 w:=(hr.fact 1 (f:= .old Z.M Z.w0) rfl).1
theorem Rel.old(hr:Rel Z s σs A L σ w){b:Nat}(h1:b<Z.w0.heap.size)(h2:¬Z.M b):A b/\w.heap[b]? =Z.w0.heap[b]? :=(hr.fact 1 (f:= .old Z.M Z.w0) rfl).2 b h1 h2
theorem Rel.mk3{Z:Fix}(h1:∀b,A b->b<w.heap.size)(h2:MemR (λb=>A b/\Z.R b) w L s σs σ)(h3:Gr Z.w0 w)(h4:∀b,b<Z.w0.heap.size-> ¬Z.M b->A b/\w.heap[b]? =Z.w0.heap[b]?)(h5:Ct w A (L.map MD.Ia)):Rel Z s σs A L σ w:=
by
 refine⟨h1,λf hf=>?_,h5⟩;cases hf with
 |head=>exact h2
 |tail _ hf=>
  cases hf with
  |head=>exact⟨h3,h4⟩
  |tail _ hf=>cases hf
theorem Rel.grow(hr:Rel Z s σs A L σ w)(hk:KeepN (λ_=>True) w w')(h1:∀b,A b->A' b)(h2:∀b,A' b->A b\/ (w.heap.size<=b/\b<w'.heap.size)):Rel Z s σs A' L σ w':=by
 have same:∀b,b<w.heap.size->w'.heap[b]? =w.heap[b]? :=λb hb=>hk.same b hb trivial;refine Rel.mk3 (λb hb=>?_) (hr.mem.step (λb hb=>⟨h1 b hb.1,hb.2⟩) (λb hb=>same b (St.lt hr b hb.1))) (hr.gr0.trans hk.gr) (λb hb hM=>?_) ?_
 ·rcases h2 b hb with h|h
  ·exact Aj4 (St.lt hr b h) hk.gr.le
  ·exact h.2
 ·obtain⟨g1,g2⟩:=hr.old hb hM;exact⟨h1 b g1,(same b (St.lt hr b g1)).trans g2⟩
 ·exact((St.mobs hr).lt.step hk.gr.le λb hb _=>same b hb).Xo λb hb=>(h2 b hb).imp id And.left
theorem Rel.row(hr:Rel Z s σs A L σ w){l:Nat}{o o':Obj}(hA:¬A l)(hl:w.heap[l]? =some o)(ho:o.isCells=false):Rel Z s σs A L σ (w.putObj l o'):=by
 have hne:∀b,A b->b≠l:=λb hb e=>hA (e▸hb);have hg:=tM w l o';have same:∀b,b≠l-> (w.putObj l o').heap[b]? =w.heap[b]? :=λb hb=>Awv hb;refine Rel.mk3 (λb hb=>Aj4 (St.lt hr b hb) hg.le) (hr.mem.step (λb hb=>hb) (λb hb=>same b (hne b hb.1))) (hr.gr0.trans hg) (λb hb hM=>?_) ?_
 ·obtain⟨g1,g2⟩:=hr.old hb hM;exact⟨g1,(same b (hne b g1)).trans g2⟩
 ·obtain⟨O,g1,g2⟩:=rU (St.mobs hr);refine(g2.step hg.le λb hb hO=>same b λe=>?_).Xo λb hb hO=>(g1 b hO).1 hb;subst e;obtain⟨_,_,arr,T,fr,e⟩:=g1 b (Classical.not_not.1 hO);rw[hl]at e;cases e;cases ho
structure Rows (Z:Fix) (A:Reg) (w:World) (X:Reg):Prop where
 out:∀b,X b-> ¬A b
 new:∀b,X b->Z.w0.heap.size<=b
 row:∀b,X b->∃o,w.heap[b]? =some o/\o.isCells=false
def Fix.sub(Z:Fix)(hr:Rel Z s σs A L σ w)(X:Reg)(hX:Rows Z A w X):Fix where
 R b:=Z.R b/\ ¬X b
 M b:=b<w.heap.size/\ ¬A b/\ ¬X b
 w0:=w
 new b hb:=⟨Z.new b (Azu hr.gr0.le hb),λh=>by obtain⟨o,ho,_⟩:=hX.row b h;have:=lt_of_heap ho;omega⟩
 mod b hb:=⟨by
  rcases Ay8 b Z.w0.heap.size with h|h
  ·exact Z.mod b (Ay3 λhM=>hb.2.1 (hr.old h hM).1)
  ·exact Z.new b h,hb.2.2⟩
 gl:=Z.gl
 glok p hp:=by
  obtain⟨⟨h1,h2⟩,T,fr,h3⟩:=hr.Acn hp;exact⟨⟨h2,λh=>hX.out _ h h1⟩,λh=>h.2.1 h1,lt_of_heap h3,T,fr,h3⟩
theorem B7(hr:Rel Z s σs A L σ w){X:Reg}(hX:Rows Z A w X):Rel (Z.sub hr X hX) s σs (λb=>A b\/X b) L σ w:=by
 refine Rel.mk3 (λb hb=>?_) (hr.mem.step (λb hb=>⟨.inl hb.1,hb.2,λh=>hX.out b h hb.1⟩) (λ_ _=>rfl)) (.refl _) (λb hb hM=>⟨?_,rfl⟩) ?_
 ·rcases hb with h|h
  ·exact St.lt hr b h
  ·obtain⟨o,ho,_⟩:=hX.row b h;exact lt_of_heap ho
 ·exact Ay3 λh=>hM ⟨hb,λg=>h (.inl g),λg=>h (.inr g)⟩
 ·obtain⟨O,g1,g2⟩:=rU (St.mobs hr);refine g2.Xo λb hb hO=>?_;rcases hb with h|h
  ·exact(g1 b hO).1 h
  ·obtain⟨o,ho,hc⟩:=hX.row b h;obtain⟨_,_,arr,T,fr,e⟩:=g1 b hO;rw[ho]at e;cases e;cases hc
theorem rD(hr:Rel Z s σs A L σ w){X:Reg}(hX:Rows Z A w X){L2:List MD}{A2:Reg}(h:Rel (Z.sub hr X hX) s' σs' A2 L2 σ' w'):
  Rel Z s' σs' (λb=>A2 b/\ ¬X b) L2 σ' w'/\ (∀b,A b->A2 b/\ ¬X b)/\ (∀b,(X b\/A b)->w'.heap[b]? =w.heap[b]?)/\Gr w w':=by
 have hold:∀b,(X b\/A b)->A2 b/\w'.heap[b]? =w.heap[b]? :=λb hb=>by
  have hlt:b<w.heap.size:=by
   rcases hb with h|h
   ·obtain⟨o,ho,_⟩:=hX.row b h;exact lt_of_heap ho
   ·exact St.lt hr b h
  exact h.old (Z:=Z.sub hr X hX) hlt λhM=>hb.elim hM.2.2 hM.2.1
 have hg:Gr w w':=h.gr0 (Z:=Z.sub hr X hX);refine⟨Rel.mk3 (λb hb=>St.lt h b hb.1) (h.mem.step (λb hb=>⟨⟨hb.1,hb.2.2⟩,hb.2.1⟩) (λ_ _=>rfl)) (hr.gr0.trans hg) (λb hb hM=>?_) ((St.mobs h).Xo λb hb=>hb.1),
  λb hb=>⟨(hold b (.inr hb)).1,λhx=>hX.out b hx hb⟩,λb hb=>(hold b hb).2,hg⟩
 obtain⟨g1,g2⟩:=hr.old hb hM;obtain⟨g3,g4⟩:=hold b (.inr g1);exact⟨⟨g3,λhx=>by have:=hX.new b hx;omega⟩,g4.trans g2⟩
def mX:PV->Bool
 | .val _ _=>true
 | .agg l=>go l
 |_=>false
where go:List PV->Bool
 |[]=>true
 |a::r=>mX a&&go r
mutual
theorem N9:∀{p:PV} {cs:List Value},mX p=true->Ba B w L p cs->Ba B w L' p cs
 | .val e x,cs,_,h=>h
 | .agg l,cs,hv,h=>yC hv (show Ba.go B w L l cs from h)
 | .tup _,_,hv,_=>by cases hv
 | .nils,_,hv,_=>by cases hv
 | .own _,_,hv,_=>by cases hv
 | .ptr _ _,_,hv,_=>by cases hv
 | .view _ _ _ _ _ _,_,hv,_=>by cases hv
 | .rptr _,_,hv,_=>by cases hv
 | .fn _ _,_,hv,_=>by cases hv
 | .cst _,_,hv,_=>by cases hv
 | .any,_,hv,_=>by cases hv
 | .gd _ _ _,_,hv,_=>by cases hv
 | .off,_,hv,_=>by cases hv
 | .undef,_,hv,_=>by cases hv
theorem yC:∀{l:List PV} {cs:List Value},mX.go l=true->Ba.go B w L l cs->Ba.go B w L' l cs
 |[],cs,_,h=>h
 |a::l,cs,hv,⟨c1,c2,e,h1,h2⟩=>by
  simp only[mX.go,Abz]at hv;exact⟨c1,c2,e,N9 hv.1 h1,yC hv.2 h2⟩
end
theorem Ac4(hr:Rel Z s σs A L σ w){i:Nat}{T:TypeId}{v:PV}(hi:Cb s.it i= .box T v)(hv:mX v=true):
  ∃b cells A',L[i]? =some (.box b cells T)/\Rel Z ((s.Ub i .dead).sub i .any) σs A' (L.set i .dead) σ w/\A' b/\Z.R b/\w.heap[b]? =some (.cells cells.toArray T (0,0))/\Ba (λb=>A' b/\Z.R b) w [] v cells:=by
 have hm:=hr.mem;obtain⟨b,cells,h1,h2⟩:=hm.box hi;obtain⟨o,ho,h3,h4⟩:=(St.front hr (hr.Ia h1)).mobs;obtain⟨rfl,hb⟩:=ho;have hR:Z.R b:=by
  rcases Ay8 b Z.w0.heap.size with hlt|hge
  ·exact Z.mod b (Ay3 λhM=>(h3 b rfl).1 (hr.old hlt hM).1)
  ·exact Z.new b hge
 have hs:St (λk=>A k\/some b=some k) w [Ni Z.R L s σs σ, .old Z.M Z.w0] ((L.map MD.Ia).eraseIdx i):=by
  refine⟨λk hk=>hk.elim (St.lt hr k) λe=>(h3 k e).2,λf hf=>f.step (St.facts hr f hf) (λ_ h=> .inl h) (λ_ _=>rfl) (.refl _),h4⟩
 have hs2:=Ct.bO (hs.C3 1 0) (RB (m':=MD.dead.Ia) (hr.Ia h1));have hm2:MemR (λk=>(A k\/some b=some k)/\Z.R k) w L s σs σ:=hs2.fact 0 rfl;have hf:Frz (λk=>(A k\/some b=some k)/\Z.R k) w L i .any:=⟨(λz E' v' c' h=>by rw[h1]at h;cases h),rfl,rfl⟩;refine⟨b,cells,λk=>A k\/some b=some k,h1,Rel.as hs2 (i:=1) rfl (hm2.subst hf) (by rw[Azw]), .inr rfl,hR,hb,N9 hv (Ba.step (λb hb=>⟨.inl hb.1,hb.2⟩) (λ_ _=>rfl) (.refl L) h2)⟩
structure ItC where
 T:TypeId
 e:ET
 F:PV->Option (List e.T)
structure ItOk (P:Program) (gl:List (Nat×List Value)) (gf:Nat) (c:ItC):Prop where
 ent:Ent P gf
 ok:∀(m:Nat) (B:Reg) (w:World) (b:Nat) (v:PV) (cells:List Value) (xs:List c.e.T),(∀k,B k->k<w.heap.size)->B b->w.heap[b]? =some (.cells cells.toArray c.T (0,0))->Ba B w [] v cells->GlOk gl B w->c.F v=some xs->
  Awe P m gf #[.pointer (some ⟨b,0,none⟩)] xs.length (λi V W v=>∀x,xs[i]? =some x->Gl V W [] (.val c.e x) v) B w
def wu:Code->Bool
 | .rangeFunc _ _ _ _=>false
 | .seq a b=>wu a&&wu b
 | .cond _ a b=>wu a&&wu b
 | .block _ a=>wu a
 | .loop a=>wu a
 | .scope a=>wu a
 |_=>true
def rnd{R α:Type}(an:An)(body:(S->Option R)->α->S->Option R)(kn:S->Option R):List α->S->Option R
 |[],s=>kn s
 |x::xs,s=>body (TL an (rnd an body kn xs)) x s
def ze{R:Type}(k:S->Option R)(s:S):Option R:=match s.st with|sl::st=>k ⟨sl,s.it,st⟩|[]=>none
def Aj:List (Nat×ItC)->Nat->Option ItC|[],_=>none|(g,c)::r,f=>Cm (Nat.beq g f) (some c)<|Aj r f
noncomputable def iU{R:Type}(P:Program)(T:Tab)(inl:sZ R)(n:Nat)(p:Nat)(assign body:Code)(an:An)(k:K R)(e:ET)(kn:S->Option R)(x:e.T)(s:S):Option R:=
 ex P T inl n assign an.r {n:=λs2=>ex P T inl n body an.l ⟨ze kn,λid=>ze (k.x id),ze k.r⟩ s2,x:=λ_ _=>none,r:=λ_=>none} ⟨Aia s.sl p (.val e x),s.it,s.sl::s.st⟩
noncomputable def Ao9{R:Type}(P:Program)(T:Tab)(inl:sZ R)(n:Nat)(its:List (Nat×ItC))(g:Operand)(ps:Array Tmp)(assign body:Code)(an:An)(k:K R)(s:S):Option R:=
 match Ed s.sl g with
 | .fn gf caps=>match caps with
  |[.ptr i []]=>match ps.toList with
   |[p]=>match Cb s.it i with
    | .box T' v=>match Aj its gf with
     |some c=>Cm (Nat.beq T' c.T&&mX v&&Nat.blt p n) (Option.bind (c.F v) λxs=>TL an (rnd an (iU P T inl n p assign body an k c.e) k.n xs) ((s.Ub i .dead).sub i .any)) none
     |none=>none
    |_=>none
   |_=>none
  |_=>none
 |_=>none
noncomputable def pJ{R:Type}(P:Program)(T:Tab)(inl:sZ R)(n:Nat)(its:List (Nat×ItC)):Code->An->K R->S->Option R
 | .seq a b,an,k,s=>match wu a with
  |true=>ex P T inl n a an.l {k with n:=G4 an λs'=>pJ P T inl n its b an.r k s'} s
  |false=>pJ P T inl n its a an.l {k with n:=G4 an λs'=>ex P T inl n b an.r k s'} s
 | .block id a,an,k,s=>pJ P T inl n its a an.l {k with x:=λid' s'=>Cm (Nat.beq id' id) (k.n s')<|k.x id' s'} s
 | .rangeFunc g ps assign body,an,k,s=>Ao9 P T inl n its g ps assign body an k s
 |c,an,k,s=>ex P T inl n c an k s
def mark(D:Nat):Deferred:={target:= .collected D,args:= #[]}
def Aii:Option Nat->List Deferred|none=>[]|some D=>[mark D]
def W2(P:Program)(n:Nat)(c:Code)(Q:Exit->Env->World->Option Nat->Prop)(σ:Env)(w:World):Prop:=
 ∀(m:Nat) (a:Act),Fits [] n a σ->c.wpIn (wr none) m P (λe a' w'=>∃σ' D,Fits (Aii D) n a' σ'/\Q e σ' w' D) a w
variable {R:Type} {r:R} {T:Tab} {inl:sZ R}
def QK2(Z:Fix)(σs:List Env)(k:K R)(r:R)(e:Exit)(σ':Env)(w':World)(D:Option Nat):Prop:=
 ∃s' A' L',kof k e s'=some r/\Rel Z s' σs A' L' σ' w'/\∀d,D=some d->w'.heap[d]? =some (.deferred (some []))/\ ¬A' d/\Z.w0.heap.size<=d
def kx(k:K R):Code->S->Option R| .ret=>k.r| .exit id=>k.x id|_=>λ_=>none
theorem uw{f:Nat}{c:ItC}:∀{its:List (Nat×ItC)},Aj its f=some c-> (f,c)∈its
 |[],h=>by simp[Aj]at h
 |(g,a)::its,h=>by
  simp only[Aj]at h;cases hb:Nat.beq g f with
  |true=>have:=Ce hb;subst this;rw[hb]at h;cases h;exact .head _
  |false=>rw[hb]at h;exact .tail _ (uw h)
theorem zN{an:An}{k:S->Option R}(h:TL an k s=some r):∃lv co s',s.cn lv co=some s'/\k s'=some r:=by
 unfold TL at h;split at h
 ·split at h
  ·rename_i s2 hs2;exact⟨_,_,s2,hs2,h⟩
  ·cases h
 ·cases h
theorem Ak9{its:List (Nat×ItC)}{g:Operand}{ps:Array Tmp}{assign body:Code}{an:An}{k:K R}(h:Ao9 P T inl n its g ps assign body an k s=some r):
  ∃gf i p v c xs,Ed s.sl g= .fn gf [.ptr i []]/\ps.toList=[p]/\Cb s.it i= .box c.T v/\Aj its gf=some c/\mX v=true/\Nat.blt p n=true/\c.F v=some xs/\
   TL an (rnd an (iU P T inl n p assign body an k c.e) k.n xs) ((s.Ub i .dead).sub i .any)=some r:=by
 unfold Ao9 at h;split at h
 ·rename_i gf caps hg;split at h
  ·rename_i i;split at h
   ·rename_i p hps;split at h
    ·rename_i T' v hi;split at h
     ·rename_i c hc;obtain⟨hcond,h'⟩:=Ay h;simp only[Abz]at hcond;obtain⟨⟨hT',hpl⟩,hpn⟩:=hcond;obtain⟨xs,hF,h2⟩:=Go.Lv.bind_some h';exact⟨gf,i,p,v,c,xs,hg,hps,by rw[hi,Ce hT'],hc,hpl,hpn,hF,h2⟩
     ·cases h
    ·cases h
   ·cases h
  ·cases h
 ·cases h
theorem Aoz(SM:P.follows .mixedOrders=true)(hT:lB P T Z)(hI:EX P T.gl inl){its:List (Nat×ItC)}(hits:∀p∈its,ItOk P T.gl p.1 p.2){g:Operand}{ps:Array Tmp}{assign body:Code}{an:An}{k:K R}
  (h:Ao9 P T inl n its g ps assign body an k s=some r) (hr:Rel Z s σs A L σ w):W2 P n (.rangeFunc g ps assign body) (QK2 Z σs k r) σ w:=by
 intro m a ha;obtain⟨gf,i,p,v,c,xs,hg,hps,hi,hc,hpl,hpn,hF,hrun⟩:=Ak9 h;clear h;have hit:=hits _ (uw hc);have hg1:=Aev (by rw[<-hg];exact Qs hr.mem.sl g (by rw[hg];rfl));obtain⟨us,hgv,v0,_,rfl,hp0,rfl⟩:=hg1;obtain⟨b,cells,A1,hLb,hr1,hA1b,hRb,hcell,henc⟩:=Ac4 hr hi hpl;have hv0:v0= .pointer (some ⟨b,0,none⟩):=by
  obtain⟨md,b',e1,e2,e3⟩:=(show Ba (λb=>A b/\Z.R b) w L (.ptr i []) [v0]from hp0);rw[hLb]at e1;cases e1;cases e2;simpa [As]using e3
 subst hv0;have hB1:∀k,(A1 k/\Z.R k)->k<w.heap.size:=λk hk=>St.lt hr1 k hk.1;have hseq:=hit.ok (m-1) (λk=>A1 k/\Z.R k) w b v cells xs hB1 ⟨hA1b,hRb⟩ hcell henc
  (λq hq=>by rw[<-hT.2]at hq;obtain⟨g1,T1,fr,g2⟩:=hr1.Acn hq;exact⟨lt_of_heap g2,g1,T1,fr,g2⟩) hF
 have hps':ps= #[p]:=by rw[<-Array.toArray_toList (xs:=ps),hps]
 subst hps';have hrow2:∀(A:Reg) (W:World) (o o':Obj),¬A w.heap.size-> ¬A (w.heap.size+1)->W.heap[w.heap.size]? =some o->o.isCells=false->W.heap[w.heap.size+1]? =some o'->o'.isCells=false->Rows Z A W (λk=>k=w.heap.size\/k=w.heap.size+1):=λA W o o' h1 h2 h3 h4 h5 h6=>
  ⟨λk hk=>by rcases hk with rfl|rfl<;>assumption,λk hk=>by have:=hr.gr0.le;rcases hk with rfl|rfl<;>omega,λk hk=>by rcases hk with rfl|rfl<;>exact⟨_,by assumption,by assumption⟩⟩
 refine Apa (gf:=gf) (lb:= #[.pointer (some ⟨b,0,none⟩)]) (by rw[ha.eval];exact hgv) hit.ent hseq rfl
  (λi V W=>∃s A L,TL an (rnd an (iU P T inl n p assign body an k c.e) k.n (xs.drop i)) s=some r/\Rel Z s σs A L σ W/\ (∀b,V b->A b/\Z.R b)/\ ¬A w.heap.size/\ ¬A (w.heap.size+1))
  (λc W=>∃s A L,kx k c s=some r/\Rel Z s σs A L σ W/\ ¬A w.heap.size/\ ¬A (w.heap.size+1))
  ?hI ?hIx ?hIr ?Aob ?hV ?h0 ?Ad5 ?hdone ?hstop
 case hI=>
  rintro i V X Y ⟨s',A',L',h1,h2,h3,h4,h5⟩ hX hk;refine⟨s',λb=>A' b\/ (X.heap.size<=b/\b<Y.heap.size),L',h1,h2.grow hk (λ_ h=> .inl h) (λ_ h=>h),λb hb=>?_,?_,?_⟩
  ·rcases hb with h|h
   ·exact⟨.inl (h3 b h).1,(h3 b h).2⟩
   ·exact⟨.inr h,Z.new b (Azu h2.gr0.le h.1)⟩
  ·rintro(h|h)
   ·exact h4 h
   ·omega
  ·rintro(h|h)
   ·exact h5 h
   ·omega
 case hIx=>
  rintro c X Y ⟨s',A',L',h1,h2,h3,h4⟩ hk;exact⟨s',A',L',h1,h2.grow hk (λ_ h=>h) (λ_ h=> .inl h),h3,h4⟩
 case hIr=>
  rintro i V X rr rr' ⟨s',A',L',h1,h2,h3,h4,h5⟩ hX;exact⟨s',A',L',h1,h2.row h5 hX rfl,h3,h4,h5⟩
 case Aob=>
  rintro c X rr rr' ⟨s',A',L',h1,h2,h3,h4⟩ hX;exact⟨s',A',L',h1,h2.row h4 hX rfl,h3,h4⟩
 case hV=>
  rintro i V W ⟨s',A',L',h1,h2,h3,h4,h5⟩ hV;exact h5 (h3 _ hV).1
 case h0=>
  intro W hk;refine⟨_,A1,_,hrun,hr1.grow hk (λ_ h=>h) (λ_ h=> .inl h),λb hb=>hb,λh=>?_,λh=>?_⟩
  ·have:=St.lt hr1 _ h;omega
  ·have:=St.lt hr1 _ h;omega
 case hdone=>
  rintro V W ⟨s',A',L',h1,h2,h3,h4,h5⟩ hD;rw[Axw]at h1;obtain⟨lv,co,s2,hcn,h1⟩:=zN h1;have hX:Rows Z A' W (λk=>k=w.heap.size):=⟨λk hk=>by subst hk;exact h4,λk hk=>by subst hk;exact hr.gr0.le,λk hk=>by subst hk;exact⟨_,hD,rfl⟩⟩;obtain⟨A2,L2,hr2⟩:=uF (B7 h2 hX) hcn;obtain⟨g1,g2,g3,g4⟩:=rD h2 hX hr2;exact⟨σ,some w.heap.size,⟨ha.size,by simp[Aii,mark,ha.defers],ha.get⟩,s2,_,L2,h1,g1,λd hd=>by cases hd;exact⟨hD,λh=>h.2 rfl,hr.gr0.le⟩⟩
 case hstop=>
  rintro c W ⟨s',A',L',h1,h2,h3,h4⟩ hD;have key:∀e,kof k e s'=some r->∃σ' D,Fits (Aii D) n {a with defers:={target:= .collected w.heap.size,args:= #[]}::a.defers} σ'/\QK2 Z σs k r e σ' W D:=λe he=>
   ⟨σ,some w.heap.size,⟨ha.size,by simp[Aii,mark,ha.defers],ha.get⟩,s',A',L',he,h2,λd hd=>by cases hd;exact⟨hD,h3,hr.gr0.le⟩⟩
  cases c<;>first
   |exact wpIn_ret (key .ret h1)
   |exact wpIn_exit (key (.exit _) h1)
   |cases h1
 case Ad5=>
  rintro i V W v rr hi ⟨s',A',L',h1,h2,h3,h4,h5⟩ hE hl hD;have hX:=hrow2 A' W _ _ h4 h5 hD rfl hl rfl;have hin:=B7 h2 hX;obtain⟨lv,co,s2,hcn,h1⟩:=zN h1;obtain⟨A2,L2,hr2⟩:=uF hin hcn;obtain⟨x,hx⟩:∃x,xs[i]? =some x:=⟨_,List.getElem?_eq_getElem hi⟩;have hdrop:xs.drop i=x::xs.drop (i+1):=by rw[List.drop_eq_getElem_cons hi];congr 1;rw[List.getElem?_eq_getElem hi]at hx;exact At5 hx
  rw[hdrop]at h1;have h1':iU P T inl n p assign body an k c.e (TL an (rnd an (iU P T inl n p assign body an k c.e) k.n (xs.drop (i+1)))) x s2=some r:=h1;unfold iU at h1';have hlt:=lt_of_heap hl;have hA2:∀b,A' b->A2 b:=λb hb=>(hr2.old (Z:=Z.sub h2 _ hX) (St.lt h2 b hb) (λhM=>hM.2.1 hb)).1;have hval:Ef (λb=>A2 b/\ (Z.sub h2 _ hX).R b) W L2 (.val c.e x) v:=by
   refine(Jc (Gl.step (B:=V) (w:=W) (L:=[]) (λb hb=>⟨hA2 b (h3 b hb).1,(h3 b hb).2,λh=>?_⟩) (λb hb=>rfl) (by have:=cW.append [] L2;rwa [Avj]at this) (hE x hx))).2;rcases h with rfl|rfl
   ·exact h4 (h3 _ hb).1
   ·exact h5 (h3 _ hb).1
  have hr3:Rel (Z.sub h2 _ hX) ⟨Aia s2.sl p (.val c.e x),s2.it,s2.sl::s2.st⟩ (σ::σs) A2 L2 (Ub σ p v) W:=
   Rel.as hr2 (i:=1) rfl ⟨hr2.mem.it,hr2.mem.sl.set (Hu.put rfl hval),hr2.mem.sl,hr2.mem.stk⟩ rfl
  have hfit:Fits [] n ({tmps:=((#[p]:Array Tmp).zip #[v]).foldl (λt (p,v)=>t.setIfInBounds p v) a.tmps,defers:=[]}:Act) (Ub σ p v):=by
   have hp:=ha.put hpn v;exact⟨by simpa [Act.put]using hp.size,rfl,by simpa [Act.put]using hp.get⟩
  refine Ayn (uQ (Z:=Z.sub h2 _ hX) SM ⟨hT.1,hT.2⟩ hI assign h1' hr3 (some (w.heap.size+1)) (m-1-1) [] _ hfit) ?_;rintro e a2 W2 ⟨σ2,hf2,s3,A3,L3,hk3,hr3'⟩;cases e with
  |normal=>
   have hk3':ex P T inl n body an.l ⟨ze (TL an (rnd an (iU P T inl n p assign body an k c.e) k.n (xs.drop (i+1)))),λid=>ze (k.x id),ze k.r⟩ s3=some r:=hk3;obtain⟨g1,g2,g3,g4⟩:=rD h2 hX hr3';refine⟨λb hb=>g3 b (by rcases hb with h|h|h;exact .inl (.inl h);exact .inl (.inr h);exact .inr (h3 b h).1),g4,λr'=>?_⟩;have hl2:W2.heap[w.heap.size+1]? =some (.loop rr):=(g3 _ (.inl (.inr rfl))).trans hl;have hD2:W2.heap[w.heap.size]? =some (.deferred (some [])):=(g3 _ (.inl (.inl rfl))).trans hD;have hnl:¬(A3 (w.heap.size+1)/\ ¬(w.heap.size+1=w.heap.size\/w.heap.size+1=w.heap.size+1)):=λh=>h.2 (.inr rfl);have hnD:¬(A3 w.heap.size/\ ¬(w.heap.size=w.heap.size\/w.heap.size=w.heap.size+1)):=λh=>h.2 (.inl rfl);have hr4:=Rel.row (o':= .loop r') g1 hnl hl2 rfl;have hl3:(W2.putObj (w.heap.size+1) (.loop r')).heap[w.heap.size+1]? =some (.loop r'):=World.putObj_heap_same (lt_of_heap hl2);have hD3:(W2.putObj (w.heap.size+1) (.loop r')).heap[w.heap.size]? =some (.deferred (some [])):=(Awv (by omega)).trans hD2;have hX3:=hrow2 (λb=>A3 b/\ ¬(b=w.heap.size\/b=w.heap.size+1)) _ _ _ hnD hnl hD3 rfl hl3 rfl;refine Ayn (uQ (Z:=Z.sub hr4 _ hX3) SM ⟨hT.1,hT.2⟩ hI body hk3' (B7 hr4 hX3) (some (w.heap.size+1)) (m-1-1) [] a2 hf2) ?_;rintro e a5 W5 ⟨σ5,hf5,s5,A5,L5,hk5,hr5⟩;have pop:∀(kk:S->Option R),ze kk s5=some r->∃s6 A6,kk s6=some r/\Rel Z s6 σs A6 L5 σ W5/\ (∀b,A3 b/\ ¬(b=w.heap.size\/b=w.heap.size+1)->A6 b)/\ ¬A6 w.heap.size/\ ¬A6 (w.heap.size+1):=by
    intro kk hkk;unfold ze at hkk;split at hkk
    ·rename_i sl st hst;have Ad4:=hr5.mem.stk;rw[hst]at Ad4;have hr6:Rel (Z.sub hr4 _ hX3) ⟨sl,s5.it,st⟩ σs A5 L5 σ W5:=Rel.as hr5 (i:=1) rfl ⟨hr5.mem.it,Ad4.1,Ad4.2⟩ rfl;obtain⟨q1,q2,q3,q4⟩:=rD hr4 hX3 hr6;exact⟨_,_,hkk,q1,q2,λh=>h.2 (.inl rfl),λh=>h.2 (.inr rfl)⟩
    ·cases hkk
   obtain⟨_,_,q3,q4⟩:=rD hr4 hX3 hr5;cases e with
   |normal=>
    obtain⟨s6,A6,p1,p2,p3,p4,p5⟩:=pop _ hk5;refine⟨λb hb=>q3 b ?_,q4,s6,A6,L5,p1,p2,λb hb=>⟨p3 b (g2 b (h3 b hb).1),(h3 b hb).2⟩,p4,p5⟩;rcases hb with h|h|h
    ·exact .inl (.inl h)
    ·exact .inl (.inr h)
    ·exact .inr (g2 b (h3 b h).1)
   |ret=>
    obtain⟨s6,A6,p1,p2,p3,p4,p5⟩:=pop _ hk5;exact⟨λb hb=>q3 b (.inl hb),q4,s6,A6,L5,p1,p2,p4,p5⟩
   |exit id=>
    obtain⟨s6,A6,p1,p2,p3,p4,p5⟩:=pop _ hk5;exact⟨λb hb=>q3 b (.inl hb),q4,s6,A6,L5,p1,p2,p4,p5⟩
   |goto t=>cases hk5
   |panic ch=>cases hk5
   |outgrown=>cases hk5
  |ret=>cases hk3
  |exit id=>cases hk3
  |goto t=>cases hk3
  |panic ch=>cases hk3
  |outgrown=>cases hk3
theorem QK2.exit{e:Exit}{k k':K R}{σ':Env}{w':World}{D:Option Nat}(h:QK2 Z σs k r e σ' w' D)(he:∀s,kof k e s=some r->kof k' e s=some r):QK2 Z σs k' r e σ' w' D:=by
 obtain⟨s',A',L',h1,h2⟩:=h;exact⟨s',A',L',he _ h1,h2⟩
theorem Ate(SM:P.follows .mixedOrders=true)(hT:lB P T Z)(hI:EX P T.gl inl){its:List (Nat×ItC)}(hits:∀p∈its,ItOk P T.gl p.1 p.2):∀(c:Code) {an:An} {k:K R} {s:S} {A:Reg} {L:List MD} {σ:Env} {w:World},
  pJ P T inl n its c an k s=some r->Rel Z s σs A L σ w->W2 P n c (QK2 Z σs k r) σ w:=by
 have dflt:∀(c:Code) {an:An} {k:K R} {s:S} {A:Reg} {L:List MD} {σ:Env} {w:World},ex P T inl n c an k s=some r->Rel Z s σs A L σ w->W2 P n c (QK2 Z σs k r) σ w:=by
  intro c an k s A L σ w h hr m a ha;refine Ayn (uQ SM hT hI c h hr none m [] a ha) ?_;rintro e a' w' ⟨σ',hf,s',A',L',h1,h2⟩;exact⟨σ',none,hf,s',A',L',h1,h2,λd hd=>by cases hd⟩
 intro c
 induction c with
 |seq a b iha ihb=>
  intro an k s A L σ w h hr m act ha;simp only[pJ]at h;split at h
  ·refine wpIn_seq (Ayn (uQ SM hT hI a h hr none m [] act ha) ?_);rintro e a' w' ⟨σ',hf,s',A',L',h1,hr'⟩;cases e with
   |normal=>
    have h2:G4 an (λs'=>pJ P T inl n its b an.r k s') s'=some r:=h1;unfold G4 at h2;split at h2
    ·split at h2
     ·rename_i s2 hs2;obtain⟨A2,L2,hr2⟩:=uF hr' hs2;exact ihb h2 hr2 m a' hf
     ·cases h2
    ·exact ihb h2 hr' m a' hf
   |_=>exact⟨σ',none,hf,s',A',L',h1,hr',λd hd=>by cases hd⟩
  ·refine wpIn_seq (Ayn (iha h hr m act ha) ?_);rintro e a' w' ⟨σ',D,hf,s',A',L',h1,hr',hD⟩;cases e with
   |normal=>
    have h2:G4 an (λs'=>ex P T inl n b an.r k s') s'=some r:=h1;have hX:Rows Z A' w' (λk=>D=some k):=⟨λk hk=>(hD k hk).2.1,λk hk=>(hD k hk).2.2,λk hk=>⟨_,(hD k hk).1,rfl⟩⟩;have fin:∀{s2:S} {A2:Reg} {L2:List MD},ex P T inl n b an.r k s2=some r->Rel (Z.sub hr' _ hX) s2 σs A2 L2 σ' w'->b.wpIn (wr none) m P (λe a' w'=>∃σ' D,Fits (Aii D) n a' σ'/\QK2 Z σs k r e σ' w' D) a' w':=by
     intro s2 A2 L2 h3 hr2;refine Ayn (uQ (Z:=Z.sub hr' _ hX) SM ⟨hT.1,hT.2⟩ hI b h3 hr2 none m (Aii D) a' hf) ?_;rintro e a'' w'' ⟨σ'',hf',s3,A3,L3,h4,hr3⟩;obtain⟨g1,g2,g3,g4⟩:=rD hr' hX hr3;exact⟨σ'',D,hf',s3,_,L3,h4,g1,λd hd=>⟨(g3 d (.inl hd)).trans (hD d hd).1,λh=>h.2 hd,(hD d hd).2.2⟩⟩
    unfold G4 at h2;split at h2
    ·split at h2
     ·rename_i s2 hs2;obtain⟨A2,L2,hr2⟩:=uF (B7 hr' hX) hs2;exact fin h2 hr2
     ·cases h2
    ·exact fin h2 (B7 hr' hX)
   |_=>exact⟨σ',D,hf,s',A',L',h1,hr',hD⟩
 |block id a iha=>
  intro an k s A L σ w h hr m act ha;refine wpIn_block (Ayn (iha (an:=an.l) (k:={k with x:=λid' s'=>Cm (Nat.beq id' id) (k.n s')<|k.x id' s'}) h hr m act ha) ?_);rintro e a' w' ⟨σ',D,hf,hq⟩;cases e with
  |exit id'=>
   simp only[Exit.inBlock];obtain⟨s',A',L',h1,hr'⟩:=hq;have h2:(Cm (Nat.beq id' id) (k.n s')<|k.x id' s')=some r:=h1;by_cases hid:id'=id
   ·rw[Abb hid];subst hid;simp at h2;exact⟨σ',D,hf,s',A',L',h2,hr'⟩
   ·rw[Aba hid];have hb:Nat.beq id' id=false:=by
     cases hb:Nat.beq id' id with
     |false=>rfl
     |true=>exact absurd (Ce hb) hid
    rw[hb]at h2;exact⟨σ',D,hf,s',A',L',h2,hr'⟩
  |_=>exact⟨σ',D,hf,hq⟩
 |rangeFunc g ps assign body _ _=>intro an k s A L σ w h hr;exact Aoz SM hT hI hits h hr
 |_=>intro an k s A L σ w h hr;exact dflt _ (by simpa only[pJ]using h) hr
theorem zB{fn:Func}{vs:List Value}(hle:Nat.ble vs.length fn.ntmps=true):Fits [] fn.ntmps {tmps:=vs.toArray++Array.replicate (fn.ntmps-vs.toArray.size) undef,defers:=[]} (lL vs):=by
 have hle':vs.length<=fn.ntmps:=by simpa using hle
 refine⟨by simp;omega,rfl,λt=>?_⟩;simp only[lL,Array.getD_eq_getD_getElem?,List.getD_eq_getElem?_getD,Array.getElem?_append,Avl,List.getElem?_toArray];by_cases ht:t<vs.length
 ·simp[ht]
 ·rw[Aba ht,List.getElem?_eq_none (by omega)];by_cases h2:t-vs.length<fn.ntmps-vs.length
  ·simp[Array.getElem?_replicate,h2]
  ·simp[Array.getElem?_replicate,h2]
noncomputable def Aqj(P:Program)(T:Tab)(ans:List (Nat×An))(its:List (Nat×ItC))(f:Func)(an:An)(ps rs:List Sh)(x:AP (Rt ps)):Option (AP (Rt rs)):=
 match f.body,args ps x with
 |some c,some vs=>pJ P T (GM P T 8 ans) f.ntmps its c an {n:=kX P rs f.results.toList,x:=λ_ _=>none,r:=kX P rs f.results.toList} ⟨Xk 0 vs,jo ps x,[]⟩
 |_,_=>none
theorem vo(SM:P.follows .mixedOrders=true){f:Nat}{fn:Func}{ans:List (Nat×An)}{its:List (Nat×ItC)}{an:An}{ps rs:List Sh}{F:AP (Rt ps)->Option (AP (Rt rs))}(hf:P.funcs[f]? =some fn)(hE:Ent P f)(hT:FA P T)(hA:∀p∈ans,Ent P p.1)
  (hits:∀p∈its,ItOk P T.gl p.1 p.2) (hle:Nat.ble ps.length fn.ntmps=true) (h:∀x,Aqj P T ans its fn an ps rs x=F x):ConOk P T.gl f ⟨ps,rs,F⟩:=by
 cases hc:fn.body with
 |none=>
  refine NP (RUN:=λ_=>none) (fn:=fn) hE (λx y pvs hx hy=>?_) (λ_ _ _ _ _ _ _ _ _ _ _ h=>by cases h);rw[<-h x]at hy;unfold Aqj at hy;rw[hc]at hy;exact hy
 |some c=>
  refine NP (T:=T) (fn:=fn) (RUN:=pJ P T (GM P T 8 ans) fn.ntmps its c an {n:=kX P rs fn.results.toList,x:=λ_ _=>none,r:=kX P rs fn.results.toList}) hE (λx y pvs hx hy=>?_) ?_
  ·rw[<-h x]at hy;unfold Aqj at hy;rw[hc,hx]at hy;exact hy
  ·intro Z A L w s y vs Q hZ hr hl hy fin;refine(callsIn_wide (n:=4)).1 (callsIn_of_wp_marks hf hc trivial (Ayn (Ate SM ⟨hT,hZ⟩ (pA SM hT hA 8) hits c hy hr 4 _ (zB (by rw[hl];exact hle))) ?_) rfl);rintro e a' w' ⟨σ',D,hf',s',A',L',h1,hr',hD⟩;have key:kX P rs fn.results.toList s'=some y->LeavesInM (wr none) 4 P fn a'.tmps Q a'.defers .returning w':=by
    intro h1;rw[hf'.defers];cases D with
    |none=>
     obtain⟨us,h2,h3⟩:=fin s' A' L' σ' w' h1 hr';exact⟨_,SP (by simp) hf' h2,h3⟩
    |some d=>
     obtain⟨g1,g2,g3⟩:=hD d rfl;obtain⟨us,h2,h3⟩:=fin s' A' L' σ' _ h1 (hr'.row (o':= .deferred none) g2 g1 rfl);exact⟨by simp, .inl ⟨d,_,rfl,run_takeDeferred g1,_,SP (by simp) hf' h2,h3⟩⟩
   cases e with
   |normal=>exact key h1
   |ret=>exact key h1
   |exit id=>cases h1
   |goto l=>cases h1
   |panic c=>cases h1
   |outgrown=>cases h1
end Go.Rx
namespace Go.Rx
open Go Go.Lv Go.RowKit
variable {P:Program} {B:Reg} {w w':World} {L L':List MD} {s s':S} {σs σs':List Env} {σ σ':Env} {Z:Fix} {A A':Reg} {n:Nat}
variable {R:Type} {r:R} {T:Tab}
def nO:Exit->Option Nat| .normal=>some 0| .exit id=>some (id+2)| .ret=>some 1|_=>none
structure MemI (gl:List (Nat×List Value)) (V:Reg) (w:World) (s:S) (σ:Env):Prop where
 lt:∀b,V b->b<w.heap.size
 it:s.it=[]
 st:s.st=[]
 sl:Fv V w [] σ s.sl
 gl:GlOk gl V w
theorem GlOk.keep{gl:List (Nat×List Value)}{V V':Reg}(h:GlOk gl V w)(hV:∀b,V b->V' b)(hs:Same V w w')(hg:Gr w w'):GlOk gl V' w':=λp hp=>
 let⟨h1,h2,T,fr,h3⟩:=h p hp
 ⟨Aj4 h1 hg.le,hV _ h2,T,fr,(hs _ h2).trans h3⟩
theorem MemI.keep{gl:List (Nat×List Value)}{V V':Reg}(h:MemI gl V w s σ)(hV:∀b,V b->V' b)(hl:∀b,V' b->b<w'.heap.size)(hs:Same V w w')(hg:Gr w w'):MemI gl V' w' s σ:=
 ⟨hl,h.it,h.st,h.sl.step hV hs (.refl []),h.gl.keep hV hs hg⟩
theorem MemI.sj{gl:List (Nat×List Value)}{V:Reg}(h:MemI gl V w s σ){sl:Slots}(hs:∀p∈sl,p∈s.sl):MemI gl V w ⟨sl,[],[]⟩ σ:=
 ⟨h.lt,rfl,rfl,λp hp=>h.sl p (hs p hp),h.gl⟩
def Ahm(gl:List (Nat×List Value))(V:Reg)(w:World)(h:GlOk gl V w):Fix where
 R b:=V b\/w.heap.size<=b
 M _:=False
 w0:=w
 new _ hb:= .inr hb
 mod _ h:=h.elim
 gl:=gl
 glok p hp:=let⟨h1,h2,h3⟩:=h p hp;⟨.inl h2,id,h1,h3⟩
theorem MemI.rel{gl:List (Nat×List Value)}{V:Reg}(h:MemI gl V w s σ):Rel (Ahm gl V w h.gl) s [] (λb=>b<w.heap.size) [] σ w:=by
 refine Rel.mk3 (λb hb=>hb) ⟨⟨by rw[h.it];rfl,λi a m h1=>by rw[h.it]at h1;simp at h1⟩,h.sl.step (λb hb=>⟨h.lt b hb, .inl hb⟩) (λ_ _=>rfl) (.refl []),?_⟩ (.refl _) (λb hb _=>⟨hb,rfl⟩) trivial;rw[h.st];trivial
def grown(V:Reg)(w w':World):Reg:=λb=>V b\/ (w.heap.size<=b/\b<w'.heap.size)
theorem MemI.back{gl:List (Nat×List Value)}{V:Reg}(h:MemI gl V w s σ){A':Reg}{L':List MD}(hr:Rel (Ahm gl V w h.gl) s' [] A' L' σ' w')(h1:s'.it=[]):
  KeepN (λ_=>True) w w'/\MemI gl (grown V w w') w' s' σ':=by
 have hk:KeepN (λ_=>True) w w':=⟨λb hb _=>(hr.old (Z:=Ahm gl V w h.gl) hb id).2,hr.gr0 (Z:=Ahm gl V w h.gl)⟩;have hL:L'=[]:=by
  have:=hr.mem.it.1;rw[h1]at this;exact Asa this.symm
 subst hL;refine⟨hk,λb hb=>hb.elim (λh'=>Aj4 (h.lt b h') hk.gr.le) And.right,h1,?_,hr.mem.sl.step (λb hb=>hb.2.elim .inl λh=> .inr ⟨h,St.lt hr b hb.1⟩) (λ_ _=>rfl) (.refl []),?_⟩
 ·have:=hr.mem.stk;cases hst:s'.st with
  |nil=>rfl
  |cons a l=>rw[hst]at this;exact this.elim
 ·exact h.gl.keep (λb hb=> .inl hb) (λb hb=>hk.same b (h.lt b hb) trivial) hk.gr
theorem Amz{m:Nat}{o:Oper}{a:Act}{next next':Act->World->Prop}{Y:Act->World->Prop}{Q:Exit->Act->World->Prop}{x:Result Next}(hn:∀a w,next a w->next' a w)
  (h:o.uponIn (wr none) m P a next (Nrm Y) x):o.uponIn (wr none) m P a next' Q x:=by
 cases x with
 |ok x w'=>
  cases x with
  |value v=>exact hn _ _ h
  |skip=>exact hn _ _ h
  |defer d=>exact hn _ _ h
  |enter f args=>
   refine⟨h.1,h.2.mono ?_⟩;intro e w'' hh;cases e with
   |returned v=>exact hn _ _ hh
   |panicked c=>exact absurd hh.1 (by simp)
   |outgrown=>exact(jk hh).elim
  |row row args=>exact⟨h.1,h.2.mono λv w'' hh=>hn _ _ hh⟩
  |round l f t b c=>
   refine⟨h.1,h.2.mono ?_⟩;intro e w'' hh;cases e with
   |returned v=>exact hn _ _ hh
   |panicked c=>exact absurd hh.1 (by simp)
   |outgrown=>exact(jk hh).elim
  |_=>exact h.elim
 |halt x w'=>
  cases x with
  |panic v=>exact absurd h.1 (by simp)
  |_=>exact h.elim
theorem ZE{m:Nat}{ops:Array Oper}{Y:Act->World->Prop}{Q:Exit->Act->World->Prop}{l2:List Oper}(h2:∀a w,Y a w->wpListIn (wr none) m P ops Q l2 a w):∀{l1:List Oper} {a:Act} {w:World},
  wpListIn (wr none) m P ops (Nrm Y) l1 a w->wpListIn (wr none) m P ops Q (l1++l2) a w
 |[],a,w,h=>h2 a w h.2
 |o::l1,a,w,h=>by
  simp only[wpListIn,Axs]at h⊢;split
  ·rename_i hw;rw[Abb hw]at h;exact⟨h.1,Amz (λa w h=>ZE h2 h) h.2⟩
  ·rename_i hw;rw[Aba hw]at h;exact⟨h.1,ZE h2 h.2⟩
theorem Amm{m:Nat}{ops:Array Oper}{Q:Exit->Act->World->Prop}{rest:List Oper}{o:Oper}{d:Nat}(hg:o.guard=none)(hd:o.dst=some d)(hdn:Nat.blt d n=true)(hne:∀c,o.op≠ .defer c){l:Nat}{v:Value}
  (hx:(execOp (ev σ) o).run P w=(Instr.yield l #[v]).run P w) {RR:Ending->World->Prop} (hy:YieldAt (wr none) (m-1) P l #[v] w RR)
  (hR:∀e w',RR e w'->∃u,e= .returned u/\∀a',Fits [] n a' (Ub σ d u)->wpListIn (wr none) m P ops Q rest a' w') {a:Act} (ha:Fits [] n a σ):wpListIn (wr none) m P ops Q (o::rest) a w:=by
 obtain⟨fn,tmps,assign,body,hy1,hr⟩:=hy;simp only[wpListIn];have hw:Region.wanted o (yielded ops a.tmps)=true:=by simp only[Region.wanted,hg]
 rw[Abb hw];refine⟨λ_ _=>trivial,?_⟩;rw[Oper.semAt_eq _ _ _ hne,ha.eval,hx,hy1];refine⟨(λh=>by simp[wr,Fence.wide]at h),hr.mono ?_⟩;intro e w' he;obtain⟨u,rfl,h⟩:=hR e w' he;exact h _ (by rw[hd];exact ha.put hdn u)
def cnP(lv:List Nat)(co:List At)(q:Nat)(s:S):Option (Nat×S):=match s.cn lv co with|some s'=>some (q,s')|none=>none
def kC(lv:List Nat)(co:List At):K (Nat×S):=⟨cnP lv co 0,λid=>cnP lv co (id+2),cnP lv co 1⟩
theorem oQ{lv:List Nat}{co:List At}{q q':Nat}(h:cnP lv co q s=some (q',s')):q'=q/\s.cn lv co=some s':=by
 unfold cnP at h;split at h
 ·rename_i s2 hs;cases h;exact⟨rfl,hs⟩
 ·cases h
theorem jQ{inl:sZ (Nat×S)}(SM:P.follows .mixedOrders=true)(hT:FA P T)(hI:EX P T.gl inl){J:Reg->World->Prop}(hJ:∀V X Y,J V X->KeepN (λ_=>True) X Y->J (grown V X Y) Y)
  {c:Code} {an:An} {lv:List Nat} {co:List At} {q:Nat} (h:ex P T inl n c an (kC lv co) s=some (q,s')) (h1:s'.it=[]) {V:Reg} (hm:MemI T.gl V w s σ) (hj:J V w) {m:Nat} {a:Act} (ha:Fits [] n a σ):
  c.wpIn (wr none) m P (λe a' w'=>nO e=some q/\∃σ' V',Fits [] n a' σ'/\J V' w'/\MemI T.gl V' w' s' σ') a w:=by
 refine Ayn (uQ (Z:=Ahm T.gl V w hm.gl) SM ⟨hT,rfl⟩ hI c h hm.rel none m [] a ha) ?_;rintro e a' w' ⟨σ',hf,s2,A',L',h2,hr⟩;have key:nO e=some q/\s2.cn lv co=some s':=by
  cases e with
  |normal=>obtain⟨rfl,h3⟩:=oQ h2;exact⟨rfl,h3⟩
  |ret=>obtain⟨rfl,h3⟩:=oQ h2;exact⟨rfl,h3⟩
  |exit id=>obtain⟨rfl,h3⟩:=oQ h2;exact⟨rfl,h3⟩
  |goto l=>cases h2
  |panic c=>cases h2
  |outgrown=>cases h2
 obtain⟨h3,h4⟩:=key;obtain⟨A2,L2,hr2⟩:=uF hr h4;obtain⟨g1,g2⟩:=hm.back hr2 h1;exact⟨h3,σ',_,hf,hJ _ _ _ hj g1,g2⟩
theorem nN{inl:sZ (Nat×S)}(SM:P.follows .mixedOrders=true)(hT:FA P T)(hI:EX P T.gl inl){J:Reg->World->Prop}(hJ:∀V X Y,J V X->KeepN (λ_=>True) X Y->J (grown V X Y) Y)
  {c d:Code} (an:An) (lv:List Nat) (co:List At) (h:ex P T inl n c an (kC lv co) s=some (0,s')) (h1:s'.it=[]) {V:Reg} (hm:MemI T.gl V w s σ) (hj:J V w) {m:Nat} {a:Act} (ha:Fits [] n a σ) {Q:Exit->Act->World->Prop}
  (hk:∀σ' V' w' a',Fits [] n a' σ'->J V' w'->MemI T.gl V' w' s' σ'->d.wpIn (wr none) m P Q a' w'):(Code.seq c d).wpIn (wr none) m P Q a w:=by
 refine wpIn_seq (Ayn (jQ SM hT hI hJ h h1 hm hj ha) ?_);rintro e a' w' ⟨he,σ',V',h2,h3,h4⟩;cases e with
 |normal=>exact hk σ' V' w' a' h2 h3 h4
 |ret=>simp[nO]at he
 |exit id=>simp[nO]at he
 |goto l=>cases he
 |panic c=>cases he
 |outgrown=>cases he
theorem T3{inl:sZ (Nat×S)}(hT:FA P T)(hI:EX P T.gl inl){J:Reg->World->Prop}(hJ:∀V X Y,J V X->KeepN (λ_=>True) X Y->J (grown V X Y) Y){ops:Array Oper}{l l2:List Oper}(lv:List Nat)(hd:mF l=true)
  (h:lO P T inl n ops l s (cnP lv [] 0)=some (0,s')) (h1:s'.it=[]) {V:Reg} (hm:MemI T.gl V w s σ) (hj:J V w) {m:Nat} {a:Act} (ha:Fits [] n a σ) {Q:Exit->Act->World->Prop}
  (hk:∀σ' V' w' a',Fits [] n a' σ'->J V' w'->MemI T.gl V' w' s' σ'->wpListIn (wr none) m P ops Q l2 a' w'):wpListIn (wr none) m P ops Q (l++l2) a w:=by
 have h2:=yP (Z:=Ahm T.gl V w hm.gl) (ops:=ops) ⟨hT,rfl⟩ hI hm.rel h;have h3:WL P n ops l (λσ' w'=>∃V',J V' w'/\MemI T.gl V' w' s' σ') σ w:=by
  refine NV h2 ?_;rintro σ' w' ⟨s2,A',L',g1,hr⟩;obtain⟨_,g2⟩:=oQ g1;obtain⟨A2,L2,hr2⟩:=uF hr g2;obtain⟨g3,g4⟩:=hm.back hr2 h1;exact⟨_,hJ _ _ _ hj g3,g4⟩
 exact ZE (Y:=λa' w'=>∃σ',Fits [] n a' σ'/\∃V',J V' w'/\MemI T.gl V' w' s' σ') (λa' w' ⟨σ',g1,V',g2,g3⟩=>hk σ' V' w' a' g1 g2 g3) (rZ (xK hd) (h3 [] a ha))
theorem MemI.set{gl:List (Nat×List Value)}{V:Reg}(h:MemI gl V w s σ){d:Nat}{p:PV}{v:Value}(hv:p.isV=true)(hp:Ef V w [] p v):MemI gl V w ⟨Aia s.sl d p,[],[]⟩ (Ub σ d v):=
 ⟨h.lt,rfl,rfl,h.sl.set (.put hv hp),h.gl⟩
theorem MemI.round{gl:List (Nat×List Value)}{V:Reg}(h:MemI gl V w s σ)(hg:Gr w w')(hs:∀b,V b->w'.heap[b]? =w.heap[b]?):MemI gl V w' s σ:=
 h.keep (λ_ h=>h) (λb hb=>Aj4 (h.lt b hb) hg.le) hs hg
theorem MemI.val{gl:List (Nat×List Value)}{V:Reg}(h:MemI gl V w s σ){t:Nat}{p:PV}(hp:(t,p)∈s.sl)(hv:p.isV=true):Ef V w [] p (σ t):=(Hu.iff hv).1 (h.sl _ hp)
theorem yh{o:Oper}{g x:Operand}{ts:Array TypeId}(ho:o.op= .call ⟨.value g, #[x],ts⟩) {l:Nat} {v:Value} (hg:ev σ g= .func (.yield l) #[] #[]) (hx:ev σ x=v):
  (execOp (ev σ) o).run P w=(Instr.yield l #[v]).run P w:=by
 obtain⟨d,op,ty,pos,after,gd⟩:=o;simp only at ho;subst ho;simp[execOp,resolve,invoke,hg,hx,go_sem]
theorem kK{F:Fence}{n:Nat}{P:Program}{Q:Exit->Act->World->Prop}{a:Act}{w:World}{c:Code}(m:Nat)(I:Nat->Act->World->Prop)(h0:∀a w,¬I 0 a w)
  (hs:∀q a w,I (q+1) a w->c.wpIn F n P (Exit.then (I q) Q) a w) (h:I m a w):(Code.loop c).wpIn F n P Q a w:=by
 refine wpIn_loop_rounds m ?_
 induction m generalizing a w with
 |zero=>exact absurd h (h0 a w)
 |succ m ih=>
  rw[roundsIn_succ];refine Ayn (hs m a w h) λe a' w' hh=>?_;cases e<;>first|exact ih hh|exact hh
def cA:Code->Code| .seq a _=>a| .cond _ a _=>a| .block _ a=>a| .loop a=>a|c=>c
def cB:Code->Code| .seq _ b=>b| .cond _ _ b=>b|c=>c
def cO:Code->List Oper| .region _ ops _=>ops.toList|_=>[]
def fB(f:Func):Code:=match f.body with|some c=>c|none=> .skip
def oAt:List Oper->Nat->Oper
 |[],_=>⟨none, .move (.tmp 0),0, "", #[],none⟩
 |o::_,0=>o
 |_::l,q+1=>oAt l q
end Go.Rx
