/- A part of a proof (see the text that ends in Proof). No conditions. -/
import Derived.Test.YtjjeabieimfcpaaGreatDoorOdBA
import Derived.ProofKit
import Derived.LaidMore
import Derived.DataReads
set_option linter.unusedVariables false
set_option linter.unusedSimpArgs false
namespace Go.Rx
open Go Go.Lv
variable {P:Program} {w w':World} {L L':List MD} {s:S} {σs:List Env} {σ:Env} {Z:Fix} {A A':Reg} {n:Nat} {ops:Array Oper} {rest:List Oper} {K:Env->World->Prop}
variable {R:Type} {k:S->Option R} {r:R} {d:Option Nat} {ty:TypeId} {pos:String} {after:Array Edge}
theorem WL.Abz{o:Oper}{v:Value}{w':World}(hg:o.guard=none)(hdn:Nv n o=true)
  (hx:(execOp (ev σ) o).run P w= .ok (.value v) w') (h:WL P n ops rest K (Agb σ o.dst v) w'):WL P n ops (o::rest) K σ w:=by
 intro ds a ha;refine wpList_plain hg λK' hK'=>?_;unfold Oper.wp;rw[ha.eval,hx];refine hK' _ _ ?_;cases hd:o.dst with
 |none=>rw[hd]at h;exact h _ _ (ha.zE v)
 |some d=>
  rw[hd]at h;unfold Nv at hdn;rw[hd]at hdn;exact h _ _ (ha.put hdn v)
def H4(Z:Fix)(σs:List Env)(k:S->Option R)(r:R)(G:Prop)(A:Reg)(L:List MD)(it:List Item)(w:World)(σ':Env)(w':World):Prop:=
 ∃s' A' L',k s'=some r/\Rel Z s' σs A' L' σ' w'/\ (G->Grow A L it w A' L' s'.it w')
abbrev JQ(P:Program)(n:Nat)(ops:Array Oper)(o:Oper)(Z:Fix)(s:S)(σs:List Env)(k:S->Option R)(r:R)(G:Prop)(A:Reg)(L:List MD)(σ:Env)(w:World):Prop:=
 WL P n ops [o] (H4 Z σs k r G A L s.it w) σ w
theorem Fp{o:Op}{p:PV}{val:Value}{G:Prop}(hr:Rel Z s σs A L σ w)(hd:Nv n ⟨d,o,ty,pos,after,none⟩=true)(hx:XO P σ w o val)(hv:p.isV=true)(h:Gs (λb=>A b/\Z.R b) w L p val)
  (hk:k (s.Jk d p)=some r):JQ P n ops ⟨d,o,ty,pos,after,none⟩ Z s σs k r G A L σ w:=by
 refine WL.Abz rfl hd (hx _ _ _ _ _) (WL.nil ⟨_,A,L,hk,hr.Jk hv h,λ_=>?_⟩);have:(s.Jk d p).it=s.it:=by cases d<;>rfl
 rw[this];exact .refl
theorem QR{p:PV}{j:Int}{v:Value}{B:Reg}(h:fV p=some j)(hv:Gs B w L p v):∃q,v= .int q j:=by
 unfold fV at h;split at h
 ·rename_i e x;split at h
  ·cases h;exact⟨_,XZ hv⟩
  ·cases h
 ·cases h
theorem ZE{p:PV}{j:Int}(h:fV p=some j):p.isV=true:=by unfold fV at h;split at h;rfl;cases h
theorem xF{p:PV}{j:Int}{v:Value}{B:Reg}(h:asInt p=some j)(hv:Gs B w L p v):v=iv j:=by
 unfold asInt at h;split at h
 ·rename_i e x;split at h
  ·rename_i q y;split at h
   ·cases h;exact XZ hv
   ·cases h
  ·cases h
 ·cases h
theorem T5{p:PV}{j:Int}(h:asInt p=some j):p.isV=true:=by unfold asInt at h;split at h;rfl;cases h
theorem Pk{o:Option Operand}{dflt j:Int}{B:Reg}(hm:If B w L σ s.sl)(h:ZX s.sl o dflt=some j):(∃q,o.map (ev σ)=some (.int q j))\/ (o=none/\j=dflt):=by
 unfold ZX at h;split at h
 ·cases h;exact .inr ⟨rfl,rfl⟩
 ·rename_i x;obtain⟨q,hq⟩:=QR h (Ze hm x (ZE h));exact .inl ⟨q,by rw[Axt,hq]⟩
theorem X.Ah1{t:TypeId}{x ix:Operand}{l:List UInt8}{j:Int}{q:IntKind}{y:UInt8}(ht:P.underlying t=some .string)(hx:ev σ x=sv l)(hi:ev σ ix= .int q j)(hg:Ao l j=some y):
  XO P σ w (.index t x ix) (iv y):=λ_ _ _ _ _=>by
 obtain⟨h1,h2,h3⟩:=Mt hg;have h4:=run_index_string (P:=P) w t ⟨l.toArray⟩ q j ht;have h5:0<=j/\j<(⟨l.toArray⟩:ByteArray).size:=by simp[ByteArray.size];omega
 rw[dif_pos h5]at h4;have h6:(⟨l.toArray⟩:ByteArray)[j.toNat]'(by simp[ByteArray.size];omega)=y:=by
  have e1:l[j.toNat]=y:=by rw[List.getElem?_eq_getElem h2]at h3;simpa using h3
  rw[<-e1];rfl
 simp only[execOp,hx,hi,Al7,h4,Acb,Aqe,Adi];rw[h6]
theorem Amr{t et:TypeId}{m:Nat}{e:ET}{x ix:Operand}{l:List e.T}{j:Int}{q:IntKind}{y:e.T}{cs:List Value}{B:Reg}(ht:P.underlying t=some (.array m et))(hsz:Md P et e.size)
  (hag:∃u,P.underlying et=some u/\Age u=(e.pv y).isA) (h1:(e.pv y).isA=false->e.size=1) (hlen:l.length=m)
  (hx:ev σ x= .agg cs.toArray) (hl:Cv (Bc B w e) l cs) (hi:ev σ ix= .int q j) (hg:Ao l j=some y):∃val,XO P σ w (.index t x ix) val/\Mc B w L (e.pv y) val:=by
 obtain⟨h3,h4,h5⟩:=Mt hg;obtain⟨c1,c2,c3,he,h6,h7,_⟩:=Cv.get (λx c h=>Bc.len h) hl h5;have h8:0<=j/\j<(m:Int):=by omega
 obtain⟨u,hu,ha⟩:=hag;have hc2:=h7.len;cases hA:(e.pv y).isA with
 |true=>
  refine⟨.agg c2.toArray,λ_ _ _ _ _=>?_,by unfold Mc;rw[hA];exact⟨c2,rfl,aY.2 h7⟩⟩;have e1:(cs.drop (j.toNat*e.size)).take e.size=c2:=by rw[he,<-h6,<-hc2];simp
  simp[execOp,hx,hi,Instr.index,asIntOf,Agl ht,h8,Cj hsz,asAgg,part,Gl hu (ha.trans hA),e1]
 |false=>
  rw[h1 hA]at hc2
  match c2,hc2 with
  |[v],_=>
   refine⟨v,λ_ _ _ _ _=>?_,by unfold Mc;rw[hA];exact aY.2 h7⟩;have e1:cs[j.toNat*e.size]? =some v:=by rw[he,<-h6];simp
   simp[execOp,hx,hi,Instr.index,asIntOf,Agl ht,h8,Cj hsz,asAgg,part,Gl hu (ha.trans hA),e1]
theorem Yx{t et:TypeId}{b o len cap z:Nat}{j:Int}{q:IntKind}{x ix:Operand}(ht:P.underlying t=some (.slice et))(hsz:Md P et z)(hx:ev σ x= .slice (some ⟨b,o,none⟩) len cap)(hi:ev σ ix= .int q j)
  (h0:0<=j) (h1:j<len) (w:World):XO P σ w (.indexAddr t x ix) (.pointer (some ⟨b,o+j.toNat*z,none⟩)):=λ_ _ _ _ _=>by
 simp only[execOp,hx,hi,Instr.indexAt,Al7,asIntOf,Aqe,Acb,Agl ht,h0,h1,and_self,Ayc,Cj hsz,Re]
theorem aP{t et:TypeId}{b o m z:Nat}{j:Int}{q:IntKind}{x ix:Operand}(ht:P.underlying t=some (.array m et))(hsz:Md P et z)(hx:ev σ x= .pointer (some ⟨b,o,none⟩))(hi:ev σ ix= .int q j)
  (h0:0<=j) (h1:j<m) (w:World):XO P σ w (.indexAddr t x ix) (.pointer (some ⟨b,o+j.toNat*z,none⟩)):=λ_ _ _ _ _=>by
 simp only[execOp,hx,hi,Instr.indexAt,Instr.sureAddr,Al7,asIntOf,Aqe,Acb,Agl ht,h0,h1,and_self,Ayc,Cj hsz,Re]
theorem Gx{t:TypeId}{i:TypeInfo}{z:Nat}(h:P.info? t=some i)(hz:Nat.beq i.size z=true):Md P t z:=⟨i,h,Ds hz⟩
theorem Rel.base(hr:Rel Z s σs A L σ w){i z:Nat}{E:TypeId}{v:Value}{cs:List Value}(h:L[i]? =some (.own z E v cs))(hne:0<cs.length):∃b len cap,v= .slice (some ⟨b,0,none⟩) len cap/\cs.length=len*z:=by
 obtain⟨b,m,c,hv,_⟩:=St.W7 hr (hr.Ng h) hne;obtain⟨p,len,cap,h1,h2,_⟩:=hr.CQ h;subst hv;cases h1;exact⟨b,m,c,rfl,h2⟩
theorem fD(st:Step):∀(p:List Step),Be (p++[st])=Be p+lM st
 |[]=>by simp[Be]
 |a::p=>by simp[Be,fD st p,At0]
theorem Aap{t:TypeId}{x ix:Operand}{G:Prop}(hr:Rel Z s σs A L σ w)(hd:Nv n ⟨d, .indexAddr t x ix,ty,pos,after,none⟩=true)(h:rW P s d t x ix k=some r):
  JQ P n ops ⟨d, .indexAddr t x ix,ty,pos,after,none⟩ Z s σs k r G A L σ w:=by
 have hm:=hr.mem;unfold rW at h;split at h
 ·cases h
 ·rename_i j hj;obtain⟨q,hix⟩:=QR hj (Ze hm.sl ix (ZE hj));split at h
  ·rename_i et ht;split at h
   ·cases h
   ·rename_i inf BO;split at h
    ·rename_i e0 l0 hx;split at h
     ·rename_i e l;obtain⟨hb,h⟩:=Bj h;simp only[Aag]at hb;obtain⟨y,hy,h⟩:=bind_some h;obtain⟨hj0,hj1,hj2⟩:=Mt hy;obtain⟨c0,h1,h2⟩:=IH (Ei hm.sl hx rfl);obtain⟨p,len,cap,h3,h4,h5,h6,h7⟩:=h1;have hlen:=h2.len λx c h=>Bc.len h;have hz:0<e.size:=by have:=As9 hb.2;omega
      have hl:len=l.length:=Apr hz (h4.symm.trans hlen);subst hl;obtain⟨b,off,arr,T,fr,rfl,hB,hbl,hcap,hc⟩:=h7 (by omega);obtain⟨c1,c2,c3,he,h8,h9,_⟩:=Cv.get (λx c h=>Bc.len h) h2 hj2;have h10:c2.length=e.size:=h9.len;have h11:(j.toNat+1)*e.size<=l.length*e.size:=Ab5 _ hj1;rw[Axm]at h11;have hp:Q8 (λb=>A b/\Z.R b) w (.pointer (some ⟨b,off+j.toNat*e.size,none⟩)) c2:=by
       refine⟨b,off+j.toNat*e.size,arr,T,fr,rfl,hB,hbl,λq hq=>?_⟩;rw[At0,hc _ (by omega),he,List.getElem?_append_right (by omega),h8,show j.toNat*e.size+q-j.toNat*e.size=q by omega,List.getElem?_append_left hq]
      have hvr:Gs (λb=>A b/\Z.R b) w L (.rptr (e.pv y)) (.pointer (some ⟨b,off+j.toNat*e.size,none⟩)):=⟨_,c2,rfl,hp,aY.2 h9⟩;exact Fp hr hd (Yx ht (Gx BO hb.1) h3 hix (by omega) (by omega) w) rfl hvr h
     ·cases h
    ·rename_i i hx;split at h
     ·rename_i E e l hi;obtain⟨hb,h⟩:=Bj h;simp only[Aag]at hb;obtain⟨y,hy,h⟩:=bind_some h;obtain⟨hj0,hj1,hj2⟩:=Mt hy;obtain⟨v,cs,h1,h2⟩:=hm.arr hi;obtain⟨z',E',c',h3⟩:=RZ (Ei hm.sl hx rfl);rw[h1]at h3;cases h3;have hlen:=h2.len λx c h=>Bc.len h;have hz:0<e.size:=by have:=As9 hb.2;omega
      have hpos:0<cs.length:=by rw[hlen];exact Nat.mul_pos (by omega) hz
      obtain⟨b,len,cap,h4,h5⟩:=hr.base h1 hpos;have hl:len=l.length:=Apr hz (h5.symm.trans hlen);subst hl;have:=Yx ht (Gx BO hb.1) h4 hix (by omega) (by omega) w;refine Fp hr hd this rfl ?_ h;rw[show(0:Nat)+j.toNat*e.size=Be [.idx j e.size] by simp[Be,lM]];refine RU h1 ?_;rw[h4];rfl
     ·cases h
    ·rename_i o i p e lo n' hx;obtain⟨hb,h⟩:=Bj h;simp only[Aag]at hb;obtain⟨_,hok,h⟩:=bind_some h;have hj':0<=j/\j<n':=Axd (GR hok);obtain⟨md,v1,h3,h4,k1,k2,⟨pt,cap,k3,k4,k5,k6⟩,_⟩:=Ei hm.sl hx rfl;have h6:ev σ x=v1:=by simpa using h4
     obtain⟨b,e1,rfl⟩:=k6 (by omega);have:=Yx ht (Gx BO hb.1) (h6.trans k3) hix hj'.1 (by omega) w;refine Fp hr hd this rfl ?_ h;rw[show Be p+lo.toNat*e.size+j.toNat*e.size=Be (p++[.idx (lo+j) e.size]) by
      rw[fD,At0,<-Ara]
      show _=Be p+(lo+j).toNat*e.size;rw[Int.toNat_add k1 hj'.1]]
     exact RU h3 e1
    ·cases h
  ·rename_i m et ht;split at h
   ·cases h
   ·rename_i inf BO;split at h
    ·rename_i i p hx;split at h
     ·rename_i T v hi;split at h
      ·rename_i e0 l0 hg;split at h
       ·rename_i m' e l;obtain⟨hb,h⟩:=Bj h;simp only[Aag]at hb;obtain⟨y,hy,h⟩:=bind_some h;obtain⟨hj0,hj1,hj2⟩:=Mt hy;obtain⟨b,cells,h1,h2⟩:=hm.box hi;obtain⟨c1,c2,c3,he,h3,h4⟩:=fQ hg h2;obtain⟨md,b',h5,h6,h7⟩:=GH (Ei hm.sl hx rfl);rw[h1]at h5;cases h5;cases h6;have hl:l.length=m:=(show l.length=m'/\ _ from h4).1.trans (Ds hb.2);have:=aP ht (Gx BO hb.1.1) h7 hix (by omega) (by omega) w;refine Fp hr hd this rfl ?_ h;rw[show Be p+j.toNat*e.size=Be (p++[.idx j e.size]) by simp[XW,Be,lM]];exact RU h1 rfl
       ·cases h
      ·cases h
     ·cases h
    ·cases h
  ·cases h
def MD.cells:MD->List Value| .box _ c _=>c| .own _ _ _ c=>c| .dead=>[]
theorem Rel.cells(hr:Rel Z s σs A L σ w){i b:Nat}{md:MD}(h:L[i]? =some md)(hb:md.base=some b):∀j,j<md.cells.length->w.cell? ⟨b,j,none⟩=md.cells[j]? :=by
 intro j hj;cases md with
 |dead=>cases hb
 |box b' cells T=>cases hb;rw[cell_of (St.box hr (hr.Ng h))];simp[MD.cells]
 |own z E v cells=>
  obtain⟨b',m,c,hv,hs'⟩:=St.W7 hr (hr.Ng h) (by simp[MD.cells]at hj;omega);subst hv;cases hb;obtain⟨o,rfl,h2⟩:=Eo.mem (A:=A) hs'.mobs (i:=i) (m:= .at_ b z E m c cells) (by rw[List.getElem?_set_self (by simpa using(List.getElem?_eq_some_iff.1 h).1)]);obtain⟨_,len,cap,e,h3,_,_,_,h6⟩:=h2;obtain⟨arr,fr,_,hb,_,_,hc⟩:=h6 b rfl;rw[cell_of hb];exact hc j (by rw[<-h3];exact hj)
theorem iO{t:TypeId}{u:PV}{x:Operand}{c2:List Value}{b off:Nat}{B:Reg}(h:OkLoad P t u)(hu:Bt B w L u c2)
  (hx:ev σ x= .pointer (some ⟨b,off,none⟩)):∃val,Mc B w L u val/\∀w':World,(∀j,j<c2.length->w'.cell? ⟨b,off+j,none⟩=c2[j]?)->XO P σ w' (.load t x) val:=by
 obtain⟨d,hd,ha⟩:=h.agg;have hlen:=hu.len;cases hA:u.isA with
 |true=>
  refine⟨.agg c2.toArray,by unfold Mc;rw[hA];exact⟨c2,rfl,hu⟩,λw' hc _ _ _ _ _=>?_⟩;have h1:=Qc (P:=P) (w:=w') (b:=b) (off:=off) c2 hc;rw[hlen]at h1;simp only[execOp,hx,Instr.loadAt,Instr.sureAddr,Al7,Aqe,Acb,loadVar,Gl hd (ha.trans hA),Ayc,Cj h.size,h1]
 |false=>
  have h1:=h.one hA;rw[h1]at hlen
  match c2,hlen with
  |[v],_=>
   refine⟨v,by unfold Mc;rw[hA];exact hu,λw' hc _ _ _ _ _=>?_⟩;have h2:w'.cell? ⟨b,off,none⟩=some v:=by simpa using hc 0 (by simp)
   simp only[execOp,hx,Instr.loadAt,Instr.sureAddr,Al7,Aqe,Acb,loadVar,Gl hd (ha.trans hA),Aqi,Awd,QI h2]
theorem E0{t:TypeId}{u:PV}{x:Operand}{c2:List Value}{b off:Nat}{B:Reg}(h:OkLoad P t u)(hu:Bt B w L u c2)(hc:∀j,j<c2.length->w.cell? ⟨b,off+j,none⟩=c2[j]?)
  (hx:ev σ x= .pointer (some ⟨b,off,none⟩)):∃val,Mc B w L u val/\XO P σ w (.load t x) val:=by
 obtain⟨val,h1,h2⟩:=iO (P:=P) (σ:=σ) h hu hx;exact⟨val,h1,h2 w hc⟩
def Arx:Item->MD->Prop| .box T _,md=>∃b c,md= .box b c T| .arr E e _,md=>∃v c,md= .own e.size E v c| .dead,_=>False
def GC(off:Nat)(ns:List Value):MD->MD->Prop
 | .box b c T,md'=>md'= .box b (Bs c off ns) T
 | .own z E v c,md'=>md'= .own z E v (Bs c off ns)
 | .dead,_=>False
theorem MemR.root{B:Reg}(hm:MemR B w L s σs σ){i:Nat}{md:MD}(h:L[i]? =some md)(hd:Dl s.it i≠ .dead):nL B w L (Dl s.it i) md.cells/\Arx (Dl s.it i) md:=by
 obtain⟨md',h1,h2⟩:=hm.item rfl hd;rw[h]at h1;cases h1
 revert h2 hd
 cases Dl s.it i with
 |dead=>intro hd _;exact absurd rfl hd
 |box T v=>
  intro _ h2;cases md with
  |box b c T'=>obtain⟨rfl,h3⟩:=h2;exact⟨h3,b,c,rfl⟩
  |_=>exact h2.elim
 |arr E e l=>
  intro _ h2;cases md with
  |own z E' v c=>obtain⟨rfl,rfl,h3⟩:=h2;exact⟨h3,v,c,rfl⟩
  |_=>exact h2.elim
theorem Aot{t:TypeId}{x:Operand}{G:Prop}(hr:Rel Z s σs A L σ w)(hd:Nv n ⟨d, .load t x,ty,pos,after,none⟩=true)(h:Aa0 P s d t x k=some r):
  JQ P n ops ⟨d, .load t x,ty,pos,after,none⟩ Z s σs k r G A L σ w:=by
 have hm:=hr.mem;unfold Aa0 at h;split at h
 ·rename_i i p hx;obtain⟨md,b,h1,h2,h3⟩:=GH (Ei hm.sl hx rfl);have hne:Dl s.it i≠ .dead:=by intro e;rw[e]at h;simp[getRoot]at h
  obtain⟨h4,_⟩:=hm.root h1 hne;obtain⟨u,c1,c2,c3,hk,he,h5,h6⟩:=D9 h h4;obtain⟨hb,hk⟩:=Bj hk;have hc:=hr.cells h1 h2;obtain⟨val,h7,h8⟩:=E0 (P:=P) (σ:=σ) (x:=x) (b:=b) (off:=Be p) (Ww hb) h6 (λj hj=>by
   rw[hc _ (by rw[he];simp;omega),he,List.getElem?_append_right (by omega),h5,show Be p+j-Be p=j by omega,List.getElem?_append_left hj]) h3
  obtain⟨hv,hv'⟩:=Of h7;exact Fp hr hd h8 hv hv' hk
 ·cases h
mutual
theorem Bt.one{B:Reg}:∀{p:PV} {cs:List Value},Bt B w L p cs->L.all (λm=>match m with| .own _ _ v _=>v.oneCell'|_=>true)=true->∀v∈cs,v.oneCell'=true
 | .val e x,cs,h,_,v,hv=>Bc.one (show Bc B w e x cs from h) v hv
 | .agg l,cs,h,hL,v,hv=>Bt.mN (show Bt.go B w L l cs from h) hL v hv
 | .tup _,_,h,_,_,_=>h.elim
 | .nils,cs,h,_,v,hv=>by rw[show cs=_ from h]at hv;simp at hv;subst hv;rfl
 | .own i,cs,⟨z,E,u,c,h1,h2⟩,hL,v,hv=>by
  rw[h2]at hv;simp at hv;subst hv;exact List.all_eq_true.1 hL _ (List.mem_of_getElem? h1)
 | .ptr i p,cs,⟨_,_,_,_,h⟩,_,v,hv=>by rw[h]at hv;simp at hv;subst hv;rfl
 | .rptr q,cs,⟨pv,_,h,⟨_,_,_,_,_,e,_⟩,_⟩,_,v,hv=>by rw[h]at hv;simp at hv;subst hv;rw[e];rfl
 | .fn f caps,cs,⟨_,h,_⟩,_,v,hv=>by rw[h]at hv;simp at hv;subst hv;rfl
 | .cst u,cs,h,_,v,hv=>by rw[show cs=_ from h.1]at hv;simp at hv;subst hv;exact h.2
 | .any,cs,⟨u,h,h'⟩,_,v,hv=>by rw[h]at hv;simp at hv;subst hv;exact h'
 | .view _ _ _ _ _ _,cs,⟨_,u,_,h,_,_,⟨_,_,e,_⟩,_⟩,_,v,hv=>by rw[h]at hv;simp at hv;subst hv;rw[e];rfl
 | .gd _ _ _,_,h,_,_,_=>h.elim
 | .off,_,h,_,_,_=>h.elim
 | .undef,_,h,_,_,_=>h.elim
theorem Bt.mN{B:Reg}:∀{l:List PV} {cs:List Value},Bt.go B w L l cs->L.all (λm=>match m with| .own _ _ v _=>v.oneCell'|_=>true)=true->∀v∈cs,v.oneCell'=true
 |[],cs,h,_,v,hv=>by rw[show cs=[]from h]at hv;simp at hv
 |a::q,cs,⟨c1,c2,e,h1,h2⟩,hL,v,hv=>by
  subst e;rcases List.mem_append.1 hv with hv|hv
  ·exact Bt.one h1 hL v hv
  ·exact Bt.mN h2 hL v hv
end
theorem Rel.mN(hr:Rel Z s σs A L σ w):L.all (λm=>match m with| .own _ _ v _=>v.oneCell'|_=>true)=true:=by
 refine List.all_eq_true.2 λm hm=>?_;obtain⟨i,hi,he⟩:=List.getElem_of_mem hm;cases m with
 |own z E v c=>
  obtain⟨p,len,cap,rfl,_⟩:=hr.CQ (i:=i) (by rw[List.getElem?_eq_getElem hi,he]);rfl
 |_=>rfl
theorem WE{p:PV}{v:Value}{B:Reg}(hr:Rel Z s σs A L σ w)(h:Mc B w L p v):∃cs:List Value,v.cells=cs.toArray/\Bt B w L p cs:=by
 unfold Mc asV at h;split at h
 ·obtain⟨cs,rfl,h⟩:=h;exact⟨cs,rfl,h⟩
 ·refine⟨[v],?_,h⟩;have:=h.one hr.mN v (.head _);cases v<;>first|rfl|cases this
theorem gV.own{i z:Nat}{E:TypeId}{v:Value}{cs cs':List Value}(h:L[i]? =some (.own z E v cs)):gV L (L.set i (.own z E v cs')):=
 gV.set h (λ_ _ _ _ e=>by cases e;exact⟨_,_,_,rfl⟩) (λb hb=>by
  unfold MD.base at hb⊢;split at hb
  ·rename_i e;cases e
  ·rename_i e;cases e;exact hb
  ·cases hb)
theorem gV.box{i b:Nat}{T:TypeId}{cs cs':List Value}(h:L[i]? =some (.box b cs T)):gV L (L.set i (.box b cs' T)):=
 gV.set h (λ_ _ _ _ e=>by cases e) (λb hb=>hb)
theorem U2{i:Nat}{md:MD}(h:L[i]? =some md):(L.map MD.Ng)[i]? =some md.Ng:=by simp[h]
theorem Ag6{t:TypeId}{a x:Operand}{i b off z:Nat}{md:MD}{v:Value}{ns:List Value}{K:Env->World->Prop}{F:List Fact}(hr:St A w F (L.map MD.Ng))(h:L[i]? =some md)(hb:md.base=some b)
  (hsz:Md P t z) (ha:ev σ a= .pointer (some ⟨b,off,none⟩)) (hx:ev σ x=v) (hv:v.cells=ns.toArray) (hl:ns.length=z) (h1:ns.all (·.oneCell')=true) (hle:off+z<=md.cells.length) (hz:0<z)
  (hK:∀(w':World) (md':MD),St A w' F ((L.map MD.Ng).set i md'.Ng)->GC off ns md md'->K σ w'):
  WL P n ops [⟨none, .store t a x,ty,pos,after,none⟩] K σ w:=by
 cases md with
 |dead=>cases hb
 |box b' cells T=>
  cases hb;exact WL.Afj hr (U2 h) hsz ha hx hv hl h1 (by simpa [Nat.ble_eq,MD.cells]using hle) rfl rfl (λw' hs'=>WL.nil (hK w' (.box b (Bs cells off ns) T) hs' rfl))
 |own z' E u cells=>
  obtain⟨b',m,c,hu,hs'⟩:=St.W7 hr (U2 h) (by simp[MD.cells]at hle;omega);subst hu;cases hb;have hlen:i<(L.map MD.Ng).length:=by simpa using(List.getElem?_eq_some_iff.1 h).1
  have hL1:((L.map MD.Ng).set i (.at_ b z' E m c cells))[i]? =some (.at_ b z' E m c cells):=by rw[List.getElem?_set_self hlen]
  refine WL.Ahr hs' hL1 hsz ha hx hv hl h1 hle rfl rfl (λw' hs2=>WL.nil ?_);have hs3:=hs2.Atw (i:=i) (b:=b) (s:=z') (m:=m) (c:=c) (E:=E) (cs:=Bs cells off ns) (by rw[List.getElem?_set_self (by simpa using hlen)]);rw[List.set_set,List.set_set]at hs3;exact hK w' (.own z' E (.slice (some ⟨b,0,none⟩) m c) (Bs cells off ns)) hs3 rfl
end Go.Rx
namespace Go.Rx
open Go Go.Lv
variable {P:Program} {B:Reg} {w w':World} {L L':List MD} {s:S} {σs:List Env} {σ:Env} {Z:Fix} {A A':Reg} {n:Nat} {ops:Array Oper} {rest:List Oper} {K:Env->World->Prop}
variable {R:Type} {k:S->Option R} {r:R} {d:Option Nat} {ty:TypeId} {pos:String} {after:Array Edge}
structure Frz (B:Reg) (w:World) (L:List MD) (i:Nat) (m:PV):Prop where
 enc:∀z E v c,L[i]? =some (.own z E v c)->Bt B w (L.set i .dead) m [v]
 isA:m.isA=false
 isV:m.isV=true
theorem M0{i:Nat}{m p:PV}(hm:m.isA=false):(subst i m p).isA=p.isA:=by
 cases p<;>try rfl
 ·rename_i j;simp only[subst];cases hb:Nat.beq i j with
  |true=>exact hm
  |false=>rfl
 ·rename_i j q;simp only[subst];cases hb:Nat.beq i j<;>rfl
 ·rename_i o j q e lo n;simp only[subst];cases hb:Nat.beq i j<;>rfl
theorem kJ{i j:Nat}(h:Nat.beq i j=false):(L.set i .dead)[j]? =L[j]? :=by
 rw[List.getElem?_set_ne];intro e;subst e;simp at h
mutual
theorem bW{i:Nat}{m:PV}(hf:Frz B w L i m):∀{p:PV} {cs:List Value},Bt B w L p cs->Bt B w (L.set i .dead) (subst i m p) cs
 | .val _ x,cs,h=>h
 | .agg q,cs,h=>xN hf (show Bt.go B w L q cs from h)
 | .tup _,_,h=>h.elim
 | .nils,cs,h=>h
 | .own j,cs,⟨z,E,v,c,h1,h2⟩=>by
  simp only[subst];cases hb:Nat.beq i j with
  |true=>
   have:=Ds hb;subst this;rw[h2];exact hf.enc _ _ _ _ h1
  |false=>exact⟨z,E,v,c,by rw[kJ hb];exact h1,h2⟩
 | .ptr j q,cs,⟨md,b,h1,h2,h3⟩=>by
  simp only[subst];cases hb:Nat.beq i j with
  |true=>exact⟨_,h3,rfl⟩
  |false=>exact⟨md,b,by rw[kJ hb];exact h1,h2,h3⟩
 | .view o j q e lo n,cs,⟨md,v,h1,h2,h3⟩=>by
  simp only[subst];cases hb:Nat.beq i j with
  |true=>
   obtain⟨_,_,⟨pt,cap,e',_⟩,_⟩:=h3;exact⟨v,h2,by rw[e'];rfl⟩
  |false=>exact⟨md,v,by rw[kJ hb];exact h1,h2,h3⟩
 | .rptr v,cs,⟨pv,c0,h1,h2,h3⟩=>by
  exact⟨pv,c0,h1,h2,bW hf h3⟩
 | .fn f caps,cs,⟨vs,h1,h2⟩=>⟨vs,h1,oO hf h2⟩
 | .cst v,cs,h=>h
 | .any,cs,h=>h
 | .gd _ _ _,_,h=>h.elim
 | .off,_,h=>h.elim
 | .undef,_,h=>h.elim
theorem xN{i:Nat}{m:PV}(hf:Frz B w L i m):∀{q:List PV} {cs:List Value},Bt.go B w L q cs->Bt.go B w (L.set i .dead) (subst.go i m q) cs
 |[],cs,h=>h
 |a::q,cs,⟨c1,c2,e',h1,h2⟩=>⟨c1,c2,e',bW hf h1,xN hf h2⟩
theorem oO{i:Nat}{m:PV}(hf:Frz B w L i m):∀{q:List PV} {vs:List Value},Jd B w L q vs->Jd B w (L.set i .dead) (subst.go i m q) vs
 |[],vs,h=>h
 |a::q,vs,⟨v,vs',e',h1,h2⟩=>⟨v,vs',e',by rw[M0 hf.isA];exact h1.mono λc h=>bW hf h,oO hf h2⟩
end
theorem xq{i:Nat}{m:PV}(hf:Frz B w L i m){p:PV}{v:Value}(h:Mc B w L p v):Mc B w (L.set i .dead) (subst i m p) v:=by
 unfold Mc;rw[M0 hf.isA];exact asV.mono (λc h=>bW hf h) h
theorem E6{i:Nat}{m:PV}(hf:Frz B w L i m){p:PV}{v:Value}(h:Gs B w L p v):Gs B w (L.set i .dead) (subst i m p) v:=by
 cases hp:p.X3 with
 |true=>exact(Of (xq hf ((jE hp).1 h))).2
 |false=>
  cases p
  case tup q=>obtain⟨vs,h1,h2⟩:=h;exact⟨vs,h1,oO hf h2⟩
  case undef=>exact(show False from h).elim
  case off=>exact(show False from h).elim
  case gd=>exact(show False from h).elim
  all_goals cases hp
theorem qx{i:Nat}{m:PV}(hf:Frz B w L i m){t:Nat}{p:PV}(h:Na B w L σ t p):Na B w (L.set i .dead) σ t (subst i m p):=by
 cases hv:p.isV with
 |true=>
  have h1:=E6 hf ((Na.iff hv).1 h);have h2:(subst i m p).isV=true:=by
   cases p<;>first|rfl|cases hv|skip
   ·rename_i j;simp only[subst];cases Nat.beq i j;rfl;exact hf.isV
   ·rename_i j q;simp only[subst];cases Nat.beq i j<;>rfl
   ·rename_i o j q e lo n;simp only[subst];cases Nat.beq i j<;>rfl
  exact(Na.iff h2).2 h1
 |false=>
  rcases IM hv with rfl|rfl|⟨j,u,q,rfl⟩
  ·exact trivial
  ·exact h
  ·obtain⟨b,h1,h2,h3⟩:=h;exact⟨b,h1,λe=>E6 hf (h2 e),h3⟩
theorem qB{i:Nat}{m:PV}(hf:Frz B w L i m){sl:Slots}(h:If B w L σ sl):If B w (L.set i .dead) σ (Aee i m sl):=by
 intro p hp;obtain⟨q,hq,rfl⟩:=List.mem_map.1 hp;exact qx hf (h q hq)
theorem qO{i:Nat}{m:PV}(hf:Frz B w L i m):∀{σs:List Env} {st:List Slots},dG B w L σs st->dG B w (L.set i .dead) σs (st.map (Aee i m))
 |[],[],h=>h
 |_::_,_::_,⟨h1,h2⟩=>⟨qB hf h1,qO hf h2⟩
theorem yt{i:Nat}{m:PV}(hf:Frz B w L i m){a:Item}{md:MD}(h:GN B w L a md):GN B w (L.set i .dead) (Ac7 i m a) md:=by
 cases a<;>cases md<;>first
  |exact h
  |exact⟨h.1,bW hf h.2⟩
theorem MemR.subst(hm:MemR B w L s σs σ){i:Nat}{m:PV}(hf:Frz B w L i m):MemR B w (L.set i .dead) ((s.HB i .dead).sub i m) σs σ:=by
 refine⟨⟨?_,?_⟩,qB hf hm.sl,qO hf hm.stk⟩
 ·simp[S.sub,S.HB,lQ,hm.it.1]
 ·intro j a md g1 g2;simp only[S.sub,S.HB,List.getElem?_map,Axb]at g1;obtain⟨a0,g3,rfl⟩:=g1;rcases lO g3 with⟨rfl,rfl⟩|⟨g4,g5⟩
  ·trivial
  ·rw[List.getElem?_set_ne (Ayg g4)]at g2;exact yt hf (hm.it.2 j a0 md g5 g2)
theorem nW(hr:Rel Z s σs A L σ w){i:Nat}{s':S}(h:s.freeze i=some s'):∃A',Rel Z s' σs A' (L.set i .dead) σ w/\∃E e l,Dl s.it i= .arr E e l/\s'=(s.HB i .dead).sub i (.val (.list e) l):=by
 unfold S.freeze at h;split at h
 ·rename_i E e l hi;cases h;have hm:=hr.mem;obtain⟨v,cs,h1,h2⟩:=hm.arr hi;have hR:∀b,¬A b->Z.R b:=λb hb=>by
   rcases Axw b Z.w0.heap.size with hlt|hge
   ·have hold:=(hr.fact 1 (f:= .old Z.M Z.w0) rfl).2 b hlt;exact Z.mod b (Classical.byContradiction λhM=>hb (hold hM).1)
   ·exact Z.new b hge
  obtain⟨A',hA,hs'⟩:=St.freeze hr (hr.Ng h1) rfl Z.R hR;have hs2:=Eo.mI (hs'.U1 1 0) (cH (m':=MD.dead.Ng) (hr.Ng h1));have hm2:MemR (λb=>A' b/\Z.R b) w L s σs σ:=hs2.fact 1 rfl;have hrd:Rd (λb=>A' b/\Z.R b) w e.size v cs:=hs2.fact 0 (f:= .rd Z.R e.size v cs) rfl;have hall:=h2.mono (g:=Bc (λb=>A' b/\Z.R b) w e) λx c h=>Bc.step (λb hb=>⟨hA b hb.1,hb.2⟩) (λ_ _=>rfl) h;have hf:Frz (λb=>A' b/\Z.R b) w L i (.val (.list e) l):=⟨λz E' v' c' h=>by rw[h1]at h;cases h;exact⟨v,cs,rfl,hrd,hall⟩,rfl,rfl⟩;exact⟨A',Rel.as hs2 (i:=2) rfl (hm2.subst hf) (by rw[List.map_set]),E,e,l,hi,rfl⟩
 ·cases h
theorem Xb:∀{is:List Nat} {s s':S} {A:Reg} {L:List MD},Rel Z s σs A L σ w->s.MR is=some s'->∃A' L',Rel Z s' σs A' L' σ w/\ (is=[]->s'=s/\A'=A/\L'=L)
 |[],s,s',A,L,hr,h=>by simp only[S.MR,Ab0]at h;subst h;exact⟨A,L,hr,λ_=>⟨rfl,rfl,rfl⟩⟩
 |i::is,s,s',A,L,hr,h=>by
  simp only[S.MR]at h;split at h
  ·obtain⟨A',L',h1,_⟩:=Xb hr h;exact⟨A',L',h1,λe=>by cases e⟩
  ·cases h
  ·split at h
   ·rename_i s1 h1;obtain⟨A1,h2,_⟩:=nW hr h1;obtain⟨A',L',h3,_⟩:=Xb h2 h;exact⟨A',L',h3,λe=>by cases e⟩
   ·cases h
theorem P6{p:PV}(h:wE p=true):p.X3=true:=by cases p<;>first|rfl|cases h
theorem bJ{B:Reg}{x:Operand}(hm:If B w L σ s.sl)(h:(Gw s.sl x).X3=true):Mc B w L (Gw s.sl x) (ev σ x):=(jE h).1 (Ze hm x (PV.M9 h))
theorem xg{a x:Operand}{s':S}(hr:Rel Z s σs A L σ w)(h:E7 s a x=some s'):∃A' L',Rel Z s' σs A' L' σ w:=by
 unfold E7 at h;split at h
 ·split at h
  ·obtain⟨A',L',h1,_⟩:=Xb hr h;exact⟨A',L',h1⟩
  ·cases h;exact⟨A,L,hr⟩
 ·cases h
theorem nL.step{B B':Reg}{w w':World}(hb:∀b,B b->B' b)(hs:Same B w w')(hl:gV L L'){a:Item}{cs:List Value}(h:nL B w L a cs):nL B' w' L' a cs:=by
 cases a with
 |dead=>exact h
 |box T v=>exact Bt.step hb hs hl h
 |arr E e l=>exact Cv.mono (λx c h=>Bc.step hb hs h) h
def xK(R:Reg)(L:List MD)(a:Item)(cs:List Value):Fact where
 holds A w:=nL (λb=>A b/\R b) w L a cs
 step h ha hs _:=h.step (λb ⟨h1,h2⟩=>⟨ha b h1,h2⟩) (λb ⟨h1,_⟩=>hs b h1) (.refl L)
theorem Akg{t:TypeId}{a x:Operand}(hr:Rel Z s σs A L σ w)(h:S9 P s t a x k=some r):
  JQ P n ops ⟨none, .store t a x,ty,pos,after,none⟩ Z s σs k r False A L σ w:=by
 unfold S9 at h;split at h
 ·cases h
 ·rename_i s1 hs1;obtain⟨A1,L1,hr1⟩:=xg hr hs1;have hm:=hr1.mem;split at h
  ·rename_i i p ha;split at h
   ·rename_i inf BO;obtain⟨hb,h⟩:=Bj h;simp only[Aag]at hb;obtain⟨md,b,h1,h2,h3⟩:=GH (Ei hm.sl ha rfl);obtain⟨ns,h4,h5⟩:=WE hr1 (bJ hm.sl (P6 hb.1.1));have hne:Dl s1.it i≠ .dead:=by intro e;rw[e]at h;simp[vW]at h
    obtain⟨h6,h7⟩:=hm.root h1 hne;obtain⟨a',hk,h8,h9,h10⟩:=Abs h5 h h6;have hlen:=h5.len;have hz:=Ds hb.1.2;have hz0:0<inf.size:=by simpa [Nat.blt_eq]using hb.2
    have hrF:=St.qL (f:=xK Z.R L1 a' (Bs md.cells (Be p) ns)) hr1 h9;refine Ag6 hrF h1 h2 ⟨inf,BO,rfl⟩ h3 rfl h4 (hlen.trans hz.symm) (List.all_eq_true.2 (h5.one hr1.mN)) (by rw[hz,<-hlen];exact h8) hz0 (λw' md' hs' hmd=>?_);have h11:nL (λb=>A1 b/\Z.R b) w' L1 a' (Bs md.cells (Be p) ns):=hs'.fact 0 rfl;have hs2:=hs'.uE
    revert h7 h10
    cases hi:Dl s1.it i with
    |dead=>exact absurd hi hne
    |box T v0=>
     rintro⟨b0,c0,rfl⟩ h10;simp only[GC]at hmd;subst hmd;have key:=gV.box (cs':=Bs (MD.box b0 c0 T).cells (Be p) ns) h1;refine⟨_,A1,_,hk,Rel.change hs2 h1 key ?_,λh=>h.elim⟩;cases a' with
     |box T' v'=>simp only[sameKind]at h10;subst h10;exact⟨rfl,Bt.step (λ_ h=>h) (λ_ _=>rfl) key h11⟩
     |dead=>exact h11.elim
     |arr _ _ _=>exact h10.elim
    |arr E e l=>
     rintro⟨v0,c0,rfl⟩ h10;simp only[GC]at hmd;subst hmd;have key:=gV.own (cs':=Bs (MD.own e.size E v0 c0).cells (Be p) ns) h1;refine⟨_,A1,_,hk,Rel.change hs2 h1 key ?_,λh=>h.elim⟩;cases a' with
     |arr E' e' l'=>obtain⟨rfl,rfl⟩:=h10;exact⟨rfl,rfl,h11⟩
     |dead=>exact h11.elim
     |box _ _=>exact h10.elim
   ·cases h
  ·cases h
end Go.Rx
namespace Go.Rx
open Go Go.Lv
variable {P:Program} {B:Reg} {w w':World} {L L':List MD} {s:S} {σs:List Env} {σ:Env} {Z:Fix} {A A':Reg} {n:Nat} {ops:Array Oper} {rest:List Oper} {K:Env->World->Prop}
variable {R:Type} {k:S->Option R} {r:R} {d:Option Nat} {ty:TypeId} {pos:String} {after:Array Edge}
theorem YC{t:TypeId}{p:PV}(h:zeroOf P t=some p):∃z,(∃i,P.info? t=some i/\i.zero=some z)/\∀(B:Reg) (w:World) (L:List MD),Bt B w L p z.cells.toList:=by
 unfold zeroOf at h;split at h
 ·rename_i i hi;split at h
  ·rename_i z hz;exact⟨z,⟨i,hi,hz⟩,λB w L=>nS h⟩
  ·cases h
 ·cases h
theorem Adw{md:MD}{b:Nat}(hb:md.base=some b){B:Reg}:Gs B w (L++[md]) (.ptr L.length []) (.pointer (some ⟨b,0,none⟩)):=⟨md,b,by simp,hb,rfl⟩
theorem vL{z:Nat}{E:TypeId}{v:Value}{c:List Value}{B:Reg}:Gs B w (L++[.own z E v c]) (.own L.length) v:=⟨z,E,v,c,by simp,rfl⟩
theorem Rel.len(hr:Rel Z s σs A L σ w):s.it.length=L.length:=hr.mem.it.1
theorem Rel.lt(hr:Rel Z s σs A L σ w):∀b,A b->b<w.heap.size:=St.lt hr
def Akq(A0:Reg)(w0:World):Fact where
 holds A w:=(∀b,A0 b->A b)/\Same A0 w0 w
 step h ha hs _:=⟨λb hb=>ha b (h.1 b hb),λb hb=>(hs b (h.1 b hb)).trans (h.2 b hb)⟩
theorem Rel.same(hr:Rel Z s σs A L σ w):St A w [Akq A w,nT Z.R L s σs σ, .old Z.M Z.w0] (L.map MD.Ng):=St.qL (f:=Akq A w) hr ⟨λ_ h=>h,λ_ _=>rfl⟩
theorem kP{w':World}{A':Reg}{a:Item}{md:MD}{p:PV}{v:Value}{dn:Nat}{G:Prop}(hr:Rel Z s σs A L σ w)(hs:St A' w' [Akq A w,nT Z.R L s σs σ, .old Z.M Z.w0] (md.Ng::L.map MD.Ng))
  (ha:GN (λb=>A' b/\Z.R b) w' (L++[md]) a md) (hv:p.isV=true) (hp:∀B,Gs B w' (L++[md]) p v) (hk:k ((s.add a).Jk (some dn) p)=some r):
  H4 Z σs k r G A L s.it w (HB σ dn v) w':=by
 obtain⟨h1,h2⟩:(∀b,A b->A' b)/\Same A w w':=hs.fact 0 rfl;have hr':=Rel.push hs.uE ha;exact⟨_,A',L++[md],hk,hr'.Jk (d:=some dn) hv (hp _),λ_=>⟨h1,h2,⟨[md],rfl⟩,⟨[a],rfl⟩⟩⟩
theorem fK{o:Op}{dn:Nat}(h:Nv n ⟨some dn,o,ty,pos,after,none⟩=true):Nat.blt dn n=true:=h
theorem Aia{t:TypeId}{v:PV}{dn:Nat}{G:Prop}(hr:Rel Z s σs A L σ w)(hd:Nv n ⟨some dn, .alloc t,ty,pos,after,none⟩=true)(hz:zeroOf P t=some v)
  (hk:k ((s.add (.box t v)).Jk (some dn) (.ptr s.new []))=some r):JQ P n ops ⟨some dn, .alloc t,ty,pos,after,none⟩ Z s σs k r G A L σ w:=by
 obtain⟨z,h1,h2⟩:=YC hz;refine WL.alloc (cells:=z.cells.toList) hr.same (fK hd) h1 (by simp) (λb w' hs'=>WL.nil ?_);refine kP (a:= .box t v) (md:= .box b z.cells.toList t) hr hs' ⟨rfl,h2 _ _ _⟩ rfl (λB=>?_) hk;rw[S.new,hr.len];exact Adw rfl
theorem Aqq{t:TypeId}{x:Operand}{dn:Nat}{G:Prop}(hr:Rel Z s σs A L σ w)(hd:Nv n ⟨some dn, .box t x,ty,pos,after,none⟩=true)(hx:wE (Gw s.sl x)=true)
  (hk:k ((s.add (.box t (Gw s.sl x))).Jk (some dn) (.ptr s.new []))=some r):JQ P n ops ⟨some dn, .box t x,ty,pos,after,none⟩ Z s σs k r G A L σ w:=by
 obtain⟨cs,h1,h2⟩:=WE hr (bJ hr.mem.sl (P6 hx));have hF:=St.qL (f:=xK Z.R L (.box t (Gw s.sl x)) cs) hr.same h2;refine WL.box hF (fK hd) rfl h1 (λb w' hs'=>WL.nil ?_);have h3:nL (λb=>A b/\Z.R b) w' L (.box t (Gw s.sl x)) cs:=hs'.fact 0 rfl;refine kP (a:= .box t (Gw s.sl x)) (md:= .box b cs t) hr hs'.uE ⟨rfl,Bt.step (λ_ h=>h) (λ_ _=>rfl) (gV.append _ _) h3⟩ rfl (λB=>?_) hk;rw[S.new,hr.len];exact Adw rfl
theorem Aa4{a t e:TypeId}{x:Operand}{l:List UInt8}{dn:Nat}{G:Prop}(hr:Rel Z s σs A L σ w)(hd:Nv n ⟨some dn, .convert a t x,ty,pos,after,none⟩=true)(ha:P.underlying a=some .string)(ht:P.underlying t=some (.slice e))
  (he:P.underlying e=some (.int .u8)) (hx:Gw s.sl x= .val .str l) (hk:k ((s.add (.arr e (.int .u8) l)).Jk (some dn) (.own s.new))=some r):JQ P n ops ⟨some dn, .convert a t x,ty,pos,after,none⟩ Z s σs k r G A L σ w:=by
 refine WL.s2b ha ht he hr.same (fK hd) (BD hr.mem.sl hx) (λp m c w' hs'=>WL.nil ?_);refine kP (a:= .arr e (.int .u8) l) (md:= .own 1 e (.slice p m c) (NB l)) hr hs' ⟨rfl,rfl,WA⟩ rfl (λB=>?_) hk;rw[S.new,hr.len];exact vL
where WA:∀{B:Reg} {w:World} {l:List UInt8},Cv (Bc B w (.int .u8)) l (NB l)
 |_,_,[]=>rfl
 |_,_,x::l=>⟨[iv x],NB l,rfl,rfl,WA⟩
theorem Amf{t e E:TypeId}{x:Operand}{i:Nat}{y:UInt8}{ys:List UInt8}{dn:Nat}{G:Prop}(hr:Rel Z s σs A L σ w)(hd:Nv n ⟨some dn, .convert t t x,ty,pos,after,none⟩=true)(ht:P.underlying t=some (.slice e))
  (he:P.underlying e=some (.int .u8)) (hx:Gw s.sl x= .own i) (hi:Dl s.it i= .arr E (.int .u8) (y::ys)) (hk:k (s.Jk (some dn) (.own i))=some r):JQ P n ops ⟨some dn, .convert t t x,ty,pos,after,none⟩ Z s σs k r G A L σ w:=by
 obtain⟨v,cs,h1,h2⟩:=hr.mem.arr hi;have hne:0<cs.length:=by
  obtain⟨c,c',e1,e2,_⟩:=h2;rw[e1,Aai];have:c.length=(ET.int .u8).size:=Bc.len e2;rw[this];have:(ET.int Kd.u8).size=1:=rfl;omega
 have hvr:Gs (λb=>A b/\Z.R b) w L (.own i) (ev σ x):=by
  have:=Ei hr.mem.sl hx rfl;exact this
 have hev:ev σ x=v:=by
  obtain⟨z,E',v',c,g1,g2⟩:=hvr;rw[h1]at g1;cases g1;simpa using g2
 have hL:(L.map MD.Ng)[i]? =some (.own 1 E v cs):=by rw[List.getElem?_map,h1];rfl
 refine WL.Aup ht he hr.same hL hne (fK hd) hev (λw' hs'=>WL.nil ?_);obtain⟨g1,g2⟩:(∀b,A b->A b)/\Same A w w':=hs'.fact 0 rfl;have hr':Rel Z s σs A L σ w':=hs'.uE;exact⟨_,A,L,hk,hr'.Jk (d:=some dn) (p:= .own i) rfl ⟨_,_,_,_,h1,rfl⟩,λ_=>⟨g1,g2,⟨[],by simp⟩,⟨[],by simp[S.Jk,S.set]⟩⟩⟩
theorem sS{t:TypeId}{e:ET}(h:zM P t e=true):ElemOk P t e.size:=by
 unfold zM at h;split at h
 ·rename_i i hi;simp only[Aag]at h;obtain⟨⟨⟨h1,h2⟩,h3⟩,h4⟩:=h;split at h3
  ·rename_i z hz;exact⟨⟨i,z,hi,Ds h1,hz,Ds h3,As9 h2⟩,by have:=As9 h4;omega⟩
  ·cases h3
 ·cases h
theorem lR{t E:TypeId}(h:sX P t=some E):P.underlying t=some (.slice E):=by
 unfold sX at h;split at h
 ·rename_i e he;cases h;exact he
 ·cases h
theorem S7{e:ET}{x:e.T}{c:List Value}(h:Bc B w e x c):∀m,Cv (Bc B w e) (List.replicate m x) (List.replicate m c).flatten
 |0=>rfl
 |m+1=>⟨c,(List.replicate m c).flatten,rfl,h,S7 h m⟩
theorem An2{t:TypeId}{a b:Operand}{dn:Nat}{G:Prop}(hr:Rel Z s σs A L σ w)(hd:Nv n ⟨some dn, .makeSlice t a b,ty,pos,after,none⟩=true)(h:Aau P s (some dn) t a b k=some r):
  JQ P n ops ⟨some dn, .makeSlice t a b,ty,pos,after,none⟩ Z s σs k r G A L σ w:=by
 unfold Aau at h;split at h
 ·cases h
 ·rename_i E hE;split at h
  ·cases h
  ·rename_i e he;obtain⟨hb,h⟩:=Bj h;split at h
   ·rename_i m m' z hm hm' hz;split at h
    ·rename_i x hx;obtain⟨l,hl,h⟩:=bind_some h;obtain⟨_,hq,h⟩:=bind_some h;obtain⟨h1,h2,rfl⟩:=om hl;have h3:m'=m:=by have:=GR hq;simpa [geq,GI.toZ]using this
     subst h3;obtain⟨zv,hz1,hz2⟩:=YC hz;have ea:=xF hm (Ze hr.mem.sl a (T5 hm));have eb:=xF hm' (Ze hr.mem.sl b (T5 hm'));refine WL.makeSlice (lR hE) (sS hb) hz1 (zs:=zv.cells.toList) (by simp) hr.same (fK hd) (m:=m'.toNat) (by rw[<-h1];exact ea) (by rw[<-h1];exact eb) h2 (λp q c w' hs'=>WL.nil ?_);refine kP (a:= .arr E e (List.replicate m'.toNat x)) (md:= .own e.size E (.slice p q c) (List.replicate m'.toNat zv.cells.toList).flatten) hr hs' ⟨rfl,rfl,S7 (XU hx (hz2 _ _ (L++[]))) _⟩ rfl (λB=>?_) h;rw[S.new,hr.len];exact vL
    ·cases h
   ·cases h
end Go.Rx
namespace Go.Rx
open Go Go.Lv
variable {P:Program} {B:Reg} {w w':World} {L L':List MD} {s:S} {σs:List Env} {σ:Env} {Z:Fix} {A A':Reg} {n:Nat} {ops:Array Oper} {rest:List Oper} {K:Env->World->Prop}
variable {R:Type} {k:S->Option R} {r:R} {d:Option Nat} {ty:TypeId} {pos:String} {after:Array Edge}
theorem H4.of{G:Prop}{s1:S}{A1:Reg}{L1:List MD}{σ':Env}(h:G->s1=s/\A1=A/\L1=L)(hp:H4 Z σs k r G A1 L1 s1.it w σ' w'):H4 Z σs k r G A L s.it w σ' w':=by
 obtain⟨s',A',L',h1,h2,h3⟩:=hp;refine⟨s',A',L',h1,h2,λg=>?_⟩;obtain⟨e1,e2,e3⟩:=h g;subst e1 e2 e3;exact h3 g
theorem isEmpty_nil{α:Type}{l:List α}(h:l.isEmpty=true):l=[]:=by cases l<;>simp_all
theorem X7{z:Nat}(h:Nat.ble 1 z=true):0<z:=by have:=As9 h;omega
theorem Rel.Arv(hr:Rel Z s σs A L σ w){i z:Nat}{E:TypeId}{v:Value}{cs:List Value}(h:L[i]? =some (.own z E v cs)):
  ∃q len cap,v= .slice q len cap/\cs.length=len*z/\len<=cap/\ (q=none->cap=0)/\ (0<cap->∃b,q=some ⟨b,0,none⟩/\ (MD.own z E v cs).base=some b):=by
 obtain⟨o,q,len,cap,h1,h2,h3,h4,h5,h6⟩:=Eo.mem (A:=A) (St.mobs hr) (hr.Ng h);refine⟨q,len,cap,h1,h2,h3,h4,λhc=>?_⟩;cases o with
 |none=>have:=h5 rfl;omega
 |some b=>
  obtain⟨arr,fr,e1,_⟩:=h6 b rfl;subst h1 e1;exact⟨b,rfl,rfl⟩
theorem X.rO{t e:TypeId}{z len cap a b:Nat}{p:Option Addr}{x:Operand}{lo hi:Option Operand}(ht:P.underlying t=some (.slice e))(hsz:Md P e z)(h1:a<=b)(h2:b<=len)(h3:len<=cap)(hx:ev σ x= .slice p len cap)
  (hlo:(∃q,lo.map (ev σ)=some (.int q (a:Int)))\/ (lo=none/\a=0)) (hhi:(∃q,hi.map (ev σ)=some (.int q (b:Int)))\/ (hi=none/\b=len)):
  XO P σ w (.slice t x lo hi none) (.slice (if cap=a then p else p.map (·.add (a*z))) (b-a) (cap-a)):=λ_ _ _ _ _=>by
 have hr:=N8 (P:=P) (w:=w) (p:=p) (vlo:=lo.map (ev σ)) (vhi:=hi.map (ev σ)) ht hsz h1 h2 h3 (by rcases hlo with h|⟨h,h'⟩;exact .inl h;exact .inr ⟨by rw[h];rfl,h'⟩)
   (by rcases hhi with h|⟨h,h'⟩;exact .inl h;exact .inr ⟨by rw[h];rfl,h'⟩)
 simp only[execOp,hx,Instr.sliceAt,Al7,Agl ht,Acb,Axs,hr,Aqe]
theorem X.O6{t u e:TypeId}{z m a b:Nat}{ad:Addr}{x:Operand}{lo hi:Option Operand}(ht:Ad4 P t=some (u,m,e))(hsz:Md P e z)(h1:a<=b)(h2:b<=m)(hx:ev σ x= .pointer (some ad))
  (hlo:(∃q,lo.map (ev σ)=some (.int q (a:Int)))\/ (lo=none/\a=0)) (hhi:(∃q,hi.map (ev σ)=some (.int q (b:Int)))\/ (hi=none/\b=m)):
  XO P σ w (.slice t x lo hi none) (.slice (some (if m=a then ad else ad.add (a*z))) (b-a) (m-a)):=λ_ _ _ _ _=>by
 have hlo':(∃q,lo.map (ev σ)=some (.int q (a:Int)))\/ (lo.map (ev σ)=none/\a=0):=hlo.imp id λh=>⟨by rw[h.1];rfl,h.2⟩;have hhi':(∃q,hi.map (ev σ)=some (.int q (b:Int)))\/ (hi.map (ev σ)=none/\b=m):=hhi.imp id λh=>⟨by rw[h.1];rfl,h.2⟩;unfold Ad4 at ht;split at ht
 ·rename_i m' et hu;cases ht;simp only[execOp,hx,Instr.sliceAt,Al7,Agl hu,Acb,Axs];generalize lo.map (ev σ)=vlo at hlo'⊢;generalize hi.map (ev σ)=vhi at hhi'⊢;clear hlo hhi;rcases hlo' with⟨q,rfl⟩|⟨rfl,rfl⟩<;>rcases hhi' with⟨q',rfl⟩|⟨rfl,rfl⟩<;>
   simp[Instr.sureAddr,Instr.sliceBounds,Instr.sliceBound,asIntOf,Cj hsz,h1,h2]
 ·rename_i u' hp;split at ht
  ·rename_i m' et hu;cases ht;simp only[execOp,hx,Instr.sliceAt,Al7,Agl hp,Acb,Axs];generalize lo.map (ev σ)=vlo at hlo'⊢;generalize hi.map (ev σ)=vhi at hhi'⊢;clear hlo hhi;rcases hlo' with⟨q,rfl⟩|⟨rfl,rfl⟩<;>rcases hhi' with⟨q',rfl⟩|⟨rfl,rfl⟩<;>
    simp[Instr.slice,Agl hp,Agl hu,Instr.sliceBounds,Instr.sliceBound,asIntOf,Cj hsz,h1,h2,asAddr]
  ·cases ht
 ·cases ht
theorem Anz{t et:TypeId}{x:Operand}{lo hi:Option Operand}{G:Prop}(hr:Rel Z s σs A L σ w)(hd:Nv n ⟨d, .slice t x lo hi none,ty,pos,after,none⟩=true)(ht:P.underlying t=some (.slice et))(h:Ab9 P s d et (Gw s.sl x) lo hi k=some r):
  JQ P n ops ⟨d, .slice t x lo hi none,ty,pos,after,none⟩ Z s σs k r G A L σ w:=by
 have hm:=hr.mem;unfold Ab9 at h;split at h
 ·cases h
 ·rename_i inf BO;split at h
  ·rename_i i hx;split at h
   ·rename_i E e l hi';obtain⟨hb,h⟩:=Bj h;simp only[Aag]at hb;split at h
    ·rename_i a b ha hb';obtain⟨_,hok,h⟩:=bind_some h;have hab:0<=a/\a<=b/\b<=Ac l:=Axd (GR hok);obtain⟨u,cs,h1,h2⟩:=hm.arr hi';obtain⟨z',E',c',h3⟩:=RZ (Ei hm.sl hx rfl);rw[h1]at h3;have h3':=h3;cases h3;obtain⟨q,len,cap,g1,g2,g3,g4,g5⟩:=hr.Arv h1;have hz:0<e.size:=by have:=As9 hb.2;omega
     have hl:len=l.length:=Apr hz (g2.symm.trans (h2.len λx c h=>Bc.len h));obtain⟨a1,ha1⟩:=Aj8 hab.1;obtain⟨b1,hb1⟩:=Aj8 (show 0<=b by omega);subst ha1 hb1;have hbl:b1<=len:=by rw[hl];have:=hab.2.2;unfold Ac at this;omega
     have hxo:=X.rO (P:=P) (σ:=σ) (w:=w) (x:=x) (lo:=lo) (hi:=hi) (a:=a1) (b:=b1) ht (Gx BO hb.1) (by omega) hbl g3 g1
      (by rcases Pk hm.sl ha with h|⟨h,h'⟩;exact .inl h;exact .inr ⟨h,by omega⟩) (by rcases Pk hm.sl hb' with h|⟨h,h'⟩;exact .inl h;exact .inr ⟨h,by unfold Ac at h';omega⟩)
     rw[g1]at h1;refine Fp (p:= .view true i [] e a1 (b1-a1)) hr hd hxo rfl ⟨_,_,h1,rfl,by omega,by omega,⟨_,_,by rw[show((b1:Int)-a1).toNat=b1-a1 by omega],by omega,λhn=>?_,λhc=>?_⟩,
      (λ_=>⟨_,_,q,len,cap,cs,rfl,rfl,by omega,λpt m c' hv=>?_,λh0=>?_⟩),(λh=>by cases h)⟩ h
     ·split at hn
      ·omega
      ·have:q=none:=by simpa using hn
       have:=g4 this;omega
     ·obtain⟨bb,e1,e2⟩:=g5 (by omega);rw[g1]at e2;refine⟨bb,e2,?_⟩;rw[Aaa (by omega),e1];simp[Re,Be]
     ·cases hv;simp only[Al6];omega
     ·have ha0:a1=0:=by omega
      subst ha0;rw[show((b1:Int)-(0:Nat)).toNat=b1 by omega];simp only[Nat.sub_zero];congr 1;split
      ·rfl
      ·by_cases hc:0<cap
       ·obtain⟨bb,e1,_⟩:=g5 hc;rw[e1];simp[Re]
       ·omega
    ·cases h
   ·cases h
  ·rename_i o i p e l0 n' hx;obtain⟨hb,h⟩:=Bj h;simp only[Aag]at hb;split at h
   ·rename_i a b ha hb';obtain⟨_,hok,hk⟩:=bind_some h;have hab:0<=a/\a<=b/\b<=n':=Axd (GR hok);obtain⟨md,v1,h3,h4,k1,k2,⟨pt,cap,k3,k4,k5,k6⟩,k7,k8⟩:=Ei hm.sl hx rfl;have h6:ev σ x=v1:=by simpa using h4
    obtain⟨a1,ha1⟩:=Aj8 hab.1;obtain⟨b1,hb1⟩:=Aj8 (show 0<=b by omega);obtain⟨l1,hl1⟩:=Aj8 k1;obtain⟨n1,hn1⟩:=Aj8 k2;subst ha1 hb1 hl1 hn1;simp only[Al6]at k3 k4 k6 k7;have hxo:=X.rO (P:=P) (σ:=σ) (w:=w) (x:=x) (lo:=lo) (hi:=hi) (a:=a1) (b:=b1) ht (Gx BO hb.1) (by omega) (by omega) k4 (h6.trans k3)
     (by rcases Pk hm.sl ha with h|⟨h,h'⟩;exact .inl h;exact .inr ⟨h,by omega⟩) (by rcases Pk hm.sl hb' with h|⟨h,h'⟩;exact .inl h;exact .inr ⟨h,by omega⟩)
    have e0:((l1:Int)+a1).toNat=l1+a1:=by omega
    refine Fp (p:= .view o i p e (l1+a1) (b1-a1)) hr hd hxo rfl ⟨md,_,h3,rfl,by omega,by omega,⟨_,_,by rw[show((b1:Int)-a1).toNat=b1-a1 by omega],by omega,λhn=>?_,λhc=>?_⟩,(λho=>?_),k8⟩ hk
    ·split at hn
     ·omega
     ·have:pt=none:=by simpa using hn
      have:=k5 this;omega
    ·obtain⟨bb,e1,e2⟩:=k6 (by omega);refine⟨bb,e1,?_⟩;rw[Aaa (by omega),e2,e0];simp[Re,Ara,At0]
    ·obtain⟨s',E',q,len,cap0,c0,e1,e2,e3,e4,e5⟩:=k7 ho;have e6:=e4 _ _ _ k3;refine⟨s',E',q,len,cap0,c0,e1,e2,by omega,λpt' m c' hv=>?_,λh0=>?_⟩
     ·cases hv;omega
     ·have h00:l1=0/\a1=0:=by omega
      obtain⟨rfl,rfl⟩:=h00;have e7:=e5 rfl;rw[k3]at e7;cases e7;rw[show((b1:Int)-(0:Nat)).toNat=b1 by omega];simp only[Nat.sub_zero];congr 1;split
      ·rfl
      ·by_cases hc:0<cap
       ·obtain⟨bb,_,e8⟩:=k6 hc;rw[e8];simp[Re]
       ·omega
   ·cases h
  ·cases h
theorem Aip{t:TypeId}{x:Operand}{lo hi:Option Operand}{G:Prop}(hr0:Rel Z s σs A L σ w)(hd:Nv n ⟨d, .slice t x lo hi none,ty,pos,after,none⟩=true){vw:Bool}(h:S2 vw s d t x lo hi k P=some r)(hG:G-> (owns (Gw s.sl x)).isEmpty=true):
  JQ P n ops ⟨d, .slice t x lo hi none,ty,pos,after,none⟩ Z s σs k r G A L σ w:=by
 unfold S2 at h;split at h
 ·rename_i ht;split at h
  ·rename_i l hx;split at h
   ·rename_i a b ha hb;obtain⟨y,hy,h⟩:=bind_some h;exact Fp (p:= .val .str y) hr0 hd (X.At1 ht (BD hr0.mem.sl hx) hy (Pk hr0.mem.sl ha) (Pk hr0.mem.sl hb)) rfl rfl h
   ·cases h
  ·cases h
 ·rename_i et ht;cases hvw:(vw&&sj (Gw s.sl x))with
  |true=>
   rw[hvw]at h;exact Anz hr0 hd ht h
  |false=>
  rw[hvw]at h;dsimp only[Dz,cond]at h;split at h
  ·cases h
  ·rename_i s1 hs1;obtain⟨A1,L1,hr,hsame⟩:=Xb hr0 hs1;have hm:=hr.mem;split at h
   ·rename_i e0 l0 hx;split at h
    ·rename_i e l;split at h
     ·rename_i inf BO;obtain⟨hb,h⟩:=Bj h;simp only[Aag]at hb;split at h
      ·rename_i a b ha hb';obtain⟨y,hy,h⟩:=bind_some h;obtain⟨h1,h2,h3,h4,rfl⟩:=VD hy;obtain⟨c0,h5,h6⟩:=IH (Ei hm.sl hx rfl);have hlen:=h6.len λx c h=>Bc.len h;obtain⟨p',l',c',h7,h8⟩:=X.uy (P:=P) (l:=a.toNat) (k:=b.toNat) (m:=l.length) ht (Gx BO hb.1) (St.Akn hr h5) (j:=0) rfl hlen (X7 hb.2) h3 h4;have hxo:=h7 σ w x lo hi rfl (by rcases Pk hm.sl ha with h|⟨h,h'⟩;exact .inl (by rw[<-h1];exact h);exact .inr ⟨h,by omega⟩)
        (by rcases Pk hm.sl hb' with h|⟨h,h'⟩;exact .inl (by rw[<-h2];exact h);exact .inr ⟨h,by rw[h'];simp[Ac]⟩)
       have hv:Gs (λb=>A1 b/\Z.R b) w L1 (.val (.list e) ((l.take b.toNat).drop a.toNat)) (.slice p' l' c'):=
        mH (h8.fact 0 rfl) (Cv.drop (λx c h=>Bc.len h) _ (Cv.take (λx c h=>Bc.len h) _ h6))
       refine WL.Abz rfl hd (hxo _ _ _ _ _) (WL.nil ⟨_,A1,L1,h,hr.Jk rfl hv,λg=>?_⟩);obtain⟨e1,e2,e3⟩:=hsame (isEmpty_nil (hG g));subst e1 e2 e3;have:(s1.Jk d (.val (.list e) ((l.take b.toNat).drop a.toNat))).it=s1.it:=by cases d<;>rfl
       rw[this];exact .refl
      ·cases h
     ·cases h
    ·cases h
   ·rename_i hx;split at h
    ·rename_i inf a b BO ha hb';obtain⟨_,hok,hk⟩:=bind_some h;have hab:0<=a/\a<=b/\b<=0:=Axd (GR hok);have ha0:a=0:=by omega
     have hb0:b=0:=by omega
     subst ha0 hb0;have hv:=OT (Ei hm.sl hx rfl);have hxo:=X.rO (P:=P) (σ:=σ) (w:=w) (x:=x) (lo:=lo) (hi:=hi) (a:=0) (b:=0) (z:=inf.size) ht ⟨inf,BO,rfl⟩ (Alw _) (Alw _) (Alw _) hv
      (by rcases Pk hm.sl ha with h|⟨h,h'⟩;exact .inl h;exact .inr ⟨h,rfl⟩) (by rcases Pk hm.sl hb' with h|⟨h,h'⟩;exact .inl h;exact .inr ⟨h,rfl⟩)
     refine WL.Abz rfl hd (hxo _ _ _ _ _) (WL.nil ⟨_,A1,L1,hk,hr.Jk rfl rfl,λg=>?_⟩);obtain⟨e1,e2,e3⟩:=hsame (isEmpty_nil (hG g));subst e1 e2 e3;have:(s1.Jk d .nils).it=s1.it:=by cases d<;>rfl
     rw[this];exact .refl
    ·cases h
   ·cases h
 ·split at h
  ·rename_i u m et hat;split at h
   ·cases h
   ·rename_i inf BO;split at h
    ·rename_i i p hx;split at h
     ·rename_i T v hit;split at h
      ·rename_i e0 l0 hg;split at h
       ·rename_i m' e l;obtain⟨hb,h⟩:=Bj h;simp only[Aag]at hb;split at h
        ·rename_i a b ha hb';obtain⟨_,hok,hk⟩:=bind_some h;have hab:0<=a/\a<=b/\b<=m:=Axd (GR hok);have hm:=hr0.mem;obtain⟨md,bb,h1,h2,h3⟩:=GH (Ei hm.sl hx rfl);obtain⟨a1,ha1⟩:=Aj8 hab.1;obtain⟨b1,hb1⟩:=Aj8 (show 0<=b by omega);subst ha1 hb1;have hxo:=X.O6 (P:=P) (σ:=σ) (w:=w) (x:=x) (lo:=lo) (hi:=hi) (a:=a1) (b:=b1) hat (Gx BO hb.1.2) (by omega) (by omega) h3
          (by rcases Pk hm.sl ha with h|⟨h,h'⟩;exact .inl h;exact .inr ⟨h,by omega⟩) (by rcases Pk hm.sl hb' with h|⟨h,h'⟩;exact .inl h;exact .inr ⟨h,by omega⟩)
         refine Fp (p:= .view false i p e a1 (b1-a1)) hr0 hd hxo rfl ⟨md,_,h1,rfl,by omega,by omega,⟨_,_,(by rw[show((b1:Int)-a1).toNat=b1-a1 by omega]),(by omega),(λh=>by cases h),λhc=>⟨bb,h2,?_⟩⟩,(λh=>by cases h),λ_=>⟨bb,h2⟩⟩ hk;rw[Aaa (by omega),Re];rfl
        ·cases h
       ·cases h
      ·cases h
     ·cases h
    ·cases h
  ·cases h
theorem Ag0{t:TypeId}{x hi mx:Operand}{lo:Option Operand}{G:Prop}(hr0:Rel Z s σs A L σ w)(hd:Nv n ⟨d, .slice t x lo (some hi) (some mx),ty,pos,after,none⟩=true)(h:yQ s d t x lo hi mx k P=some r)(hG:G-> (owns (Gw s.sl x)).isEmpty=true):
  JQ P n ops ⟨d, .slice t x lo (some hi) (some mx),ty,pos,after,none⟩ Z s σs k r G A L σ w:=by
 unfold yQ at h;split at h
 ·rename_i et ht;split at h
  ·cases h
  ·rename_i s1 hs1;obtain⟨A1,L1,hr,hsame⟩:=Xb hr0 hs1;have hm:=hr.mem;split at h
   ·rename_i e0 l0 hx;split at h
    ·rename_i e l;split at h
     ·rename_i inf BO;obtain⟨hb,h⟩:=Bj h;simp only[Aag]at hb;split at h
      ·rename_i a b c ha hb' hc';obtain⟨_,hok,h⟩:=bind_some h;have hbc:b<=c/\c<=Ac l:=Axd (GR hok);obtain⟨y,hy,h⟩:=bind_some h;obtain⟨h1,h2,h3,h4,rfl⟩:=VD hy;obtain⟨c0,h5,h6⟩:=IH (Ei hm.sl hx rfl);have hlen:=h6.len λx c h=>Bc.len h;obtain⟨q1,hq1⟩:=QR hb' (Ze hm.sl hi (ZE hb'));obtain⟨q2,hq2⟩:=QR hc' (Ze hm.sl mx (ZE hc'));unfold Ac at hbc;obtain⟨p',l',c',h7,h8⟩:=X.Afk (P:=P) (l:=a.toNat) (k:=b.toNat) (c:=c.toNat) (m:=l.length) ht (Gx BO hb.1) (St.Akn hr h5) (j:=0) rfl hlen (X7 hb.2) h3 (by omega) (by omega);have hxo:=h7 σ w x lo hi mx rfl (by rcases Pk hm.sl ha with h|⟨h,h'⟩;exact .inl (by rw[<-h1];exact h);exact .inr ⟨h,by omega⟩)
        ⟨q1,by rw[hq1,<-h2]⟩ ⟨q2,by rw[hq2,show((c.toNat:Nat):Int)=c by omega]⟩
       have hv:Gs (λb=>A1 b/\Z.R b) w L1 (.val (.list e) ((l.take b.toNat).drop a.toNat)) (.slice p' l' c'):=
        mH (h8.fact 0 rfl) (Cv.drop (λx c h=>Bc.len h) _ (Cv.take (λx c h=>Bc.len h) _ h6))
       refine WL.Abz rfl hd (hxo _ _ _ _ _) (WL.nil ⟨_,A1,L1,h,hr.Jk rfl hv,λg=>?_⟩);obtain⟨e1,e2,e3⟩:=hsame (isEmpty_nil (hG g));subst e1 e2 e3;have:(s1.Jk d (.val (.list e) ((l.take b.toNat).drop a.toNat))).it=s1.it:=by cases d<;>rfl
       rw[this];exact .refl
      ·cases h
     ·cases h
    ·cases h
   ·cases h
 ·cases h
theorem Au7{e:ET}{p:PV}{x:e.T}(h:e.of p=some x):p.X3=true:=by
 unfold ET.of uz at h;split at h
 ·rfl
 ·rfl
 ·rfl
 ·cases h
theorem O4{e:ET}(hr:Rel Z s σs A L σ w):∀{xs:List Operand} {l:List e.T},J5 e (xs.map (Gw s.sl))=some l->
  Cv (Bc (λb=>A b/\Z.R b) w e) l ((xs.map (ev σ)).map λv:Value=>v.cells.toList).flatten/\l.length=xs.length/\∀v∈xs.map (ev σ),v.cells.size=e.size
 |[],l,h=>by simp only[List.map_nil,J5,Ab0]at h;subst h;exact⟨rfl,rfl,by simp⟩
 |x::xs,l,h=>by
  simp only[Awl,J5]at h;split at h
  ·rename_i y ys hy hys;cases h;obtain⟨h1,h2,h3⟩:=O4 hr hys;obtain⟨cs,h4,h5⟩:=WE hr (bJ hr.mem.sl (x:=x) (Au7 hy));have h6:=XU hy h5;refine⟨⟨cs,_,by simp[h4],h6,h1⟩,by simp[h2],λv hv=>?_⟩;simp only[Awl,List.mem_cons]at hv;rcases hv with rfl|hv
   ·rw[h4];simpa using h6.len
   ·exact h3 v hv
  ·cases h
theorem yc:∀{ps:List (Nat×Operand)} {m:Nat},Adv m ps=true-> (ps.map λp=>(p.1,ev σ p.2))=(((ps.map Prod.snd).map (ev σ)).zipIdx m).map λp=>(p.2,p.1)
 |[],_,_=>rfl
 |(i,x)::ps,m,h=>by
  simp only[Adv,Aag]at h;simp only[Awl,List.zipIdx_cons,yc h.2,Ds h.1]
theorem G9{t:TypeId}{len:Nat}{ps:Array (Nat×Operand)}{dn:Nat}{G:Prop}(hr0:Rel Z s σs A L σ w)(hd:Nv n ⟨some dn, .buildSlice t len ps,ty,pos,after,none⟩=true)
  (h:fF P s (some dn) t len ps.toList k=some r) (hG:G-> (owns.go (ps.toList.map λp=>Gw s.sl p.2)).isEmpty=true):JQ P n ops ⟨some dn, .buildSlice t len ps,ty,pos,after,none⟩ Z s σs k r G A L σ w:=by
 unfold fF at h;split at h
 ·cases h
 ·rename_i E hE;split at h
  ·cases h
  ·rename_i e he;obtain⟨hb,h⟩:=Bj h;simp only[Aag]at hb;obtain⟨⟨⟨hb1,hb2⟩,hb3⟩,hb4⟩:=hb;split at h
   ·cases h
   ·rename_i s1 hs1;obtain⟨A1,L1,hr,hsame⟩:=Xb hr0 hs1;split at h
    ·rename_i l hl;have hl':J5 e ((ps.toList.map Prod.snd).map (Gw s1.sl))=some l:=by rw[List.map_map];exact hl
     obtain⟨h1,h2,h3⟩:=O4 hr hl';have hps:ps=ps.toList.toArray:=by simp
     rw[show(⟨some dn, .buildSlice t len ps,ty,pos,after,none⟩:Oper)=⟨some dn, .buildSlice t len ps.toList.toArray,ty,pos,after,none⟩ by rw[<-hps]];have hlen:((ps.toList.map Prod.snd).map (ev σ)).length=len:=by simpa using Ds hb3
     have hF:=St.qL (f:=xK Z.R L1 (.arr E e l) (((ps.toList.map Prod.snd).map (ev σ)).map λv:Value=>v.cells.toList).flatten) hr.same h1;refine WL.buildSlice (vs:=(ps.toList.map Prod.snd).map (ev σ)) (lR hE) (sS hb1) hF (fK (o:= .buildSlice t len ps) hd) (yc hb2) hlen hb4 h3 rfl (λp q c w' hs'=>WL.nil ?_);have h4:Cv (Bc (λb=>A1 b/\Z.R b) w' e) l (((ps.toList.map Prod.snd).map (ev σ)).map λv:Value=>v.cells.toList).flatten:=hs'.fact 0 rfl;refine H4.of (λg=>hsame (isEmpty_nil (hG g))) (kP (a:= .arr E e l) (md:= .own e.size E (.slice p q c) _) hr hs'.uE ⟨rfl,rfl,h4⟩ rfl (λB=>?_) h);rw[S.new,hr.len];exact vL
    ·cases h
theorem Agy{E:TypeId}{e:ET}{i len cap m:Nat}{q:Option Addr}{cs:List Value}{l:List e.T}(hr:Rel Z s σs A L σ w)(hi:L[i]? =some (.own e.size E (.slice q len cap) cs))(hm:m<=len)(hl:Cv (Bc (λb=>A b/\Z.R b) w e) l (cs.take (m*e.size))):
  Rel Z (((s.HB i .dead).sub i .any).add (.arr E e l)) σs A (L.set i .dead++[.own e.size E (.slice q m cap) (cs.take (m*e.size))]) σ w:=by
 have hf:Frz (λb=>A b/\Z.R b) w L i .any:=⟨λz E' u c h=>⟨u,rfl,by rw[hi]at h;cases h;rfl⟩,rfl,rfl⟩;have hm2:=hr.mem.subst hf;have vH:(L.map MD.Ng)[i]? =some (Mob.own e.size E (.slice q len cap) cs):=hr.Ng hi;obtain⟨o,h1,h2,h3⟩:=(St.mobs hr).perm (oL vH).symm;have h4:(Mob.own e.size E (.slice q m cap) (cs.take (m*e.size))).holds o w:=by
  obtain⟨q',len',cap',g1,g2,g3,g4,g5,g6⟩:=h1;cases g1;have e5:m*e.size<=len*e.size:=Ab5 _ hm;refine⟨q,m,cap,rfl,by rw[Al5];omega,by omega,g4,g5,λb hb=>?_⟩;obtain⟨arr,fr,k1,k2,k3,k4,k5⟩:=g6 b hb;exact⟨arr,fr,k1,k2,k3,k4,λj hj=>by rw[k5 j (by omega),List.getElem?_take,Aae hj]⟩
 have h5:Eo w A (Mob.own e.size E (.slice q m cap) (cs.take (m*e.size))::(L.map MD.Ng).eraseIdx i):=⟨o,h4,h2,h3⟩;have h6:Eo w A (MD.dead.Ng::Mob.own e.size E (.slice q m cap) (cs.take (m*e.size))::(L.map MD.Ng).eraseIdx i):=⟨none,⟨none,0,0,rfl,by simp,Alw _,λ_=>rfl,λ_=>rfl,λb h=>by cases h⟩,λb hb=>(by cases hb),h5.PA λb hb=>hb.elim id λh=>by cases h⟩;have h7:Eo w A ((MD.own e.size E (.slice q m cap) (cs.take (m*e.size))).Ng::(L.set i .dead).map MD.Ng):=by
  rw[List.map_set];exact h6.perm ((List.Perm.swap _ _ _).trans ((cH (m':=MD.dead.Ng) vH).cons _))
 have h8:St A w [nT Z.R (L.set i .dead) ((s.HB i .dead).sub i .any) σs σ, .old Z.M Z.w0] ((MD.own e.size E (.slice q m cap) (cs.take (m*e.size))).Ng::(L.set i .dead).map MD.Ng):=by
  refine⟨St.lt hr,λf hf=>?_,h7⟩;cases hf with
  |head=>exact hm2
  |tail _ hf=>exact hr.facts f (.tail _ hf)
 exact Rel.push (a:= .arr E e l) h8 ⟨rfl,rfl,hl⟩
theorem wz{E:TypeId}{e:ET}{x:Operand}{s1:S}{i:Nat}(hr:Rel Z s σs A L σ w)(hz:0<e.size)(hx:(Gw s.sl x).X3=true)(h:Adn s E e (Gw s.sl x)=some (s1,i)):
  ∃L1,Rel Z s1 σs A L1 σ w/\∃c0,L1[i]? =some (.own e.size E (ev σ x) c0):=by
 have hv:=Ze hr.mem.sl x (PV.M9 hx);unfold Adn at h;split at h
 ·rename_i hp;cases h;rw[hp]at hv;have hev:=OT hv;have hr':=Rel.push (a:= .arr E e []) (md:= .own e.size E (.slice none 0 0) []) (St.U1 hr e.size E) ⟨rfl,rfl,rfl⟩;refine⟨_,hr',[],?_⟩;rw[S.new,hr.len,hev];simp
 ·rename_i j hp;rw[hp]at hv;split at h
  ·rename_i E' e' l hj;obtain⟨hb,h⟩:=Bj h;split at h
   ·rename_i he;cases h;subst he;have:=Ds hb;subst this;obtain⟨v,cs,h1,h2⟩:=hr.mem.arr hj;obtain⟨z,E',c,h3⟩:=RZ hv;rw[h1]at h3;cases h3;exact⟨L,hr,cs,h1⟩
   ·cases h
  ·cases h
 ·rename_i j p e1 lo n' hp;rw[hp]at hv;split at h
  ·rename_i E' e' l hj;obtain⟨hb,h⟩:=Bj h;simp only[Aag,Aaf]at hb;obtain⟨⟨hE,h0⟩,he1⟩:=hb;split at h
   ·rename_i he;cases h;subst he he1;have:=Ds hE;subst this;subst h0;obtain⟨u,cs,h1,h2⟩:=hr.mem.arr hj;obtain⟨md,v1,h3,h4,k1,k2,_,k7,_⟩:=hv;rw[h1]at h3;cases h3;have h6:ev σ x=v1:=by simpa using h4
    obtain⟨s',E2,q,len,cap,c0,e1,e2,e3,_,e5⟩:=k7 rfl;cases e1;have e7:=e5 rfl;have hl:Cv (Bc (λb=>A b/\Z.R b) w e1) (cC l 0 n') (cs.take (n'.toNat*e1.size)):=by
     have:=Cv.take (λx c h=>Bc.len h) n'.toNat h2;simpa [cC]using this
    have hr':=Agy hr h1 (m:=n'.toNat) (by simpa using e3) hl;refine⟨_,hr',cs.take (n'.toNat*e1.size),?_⟩;rw[h6,e7,S.new,hr.len];have:L.length=(L.set j .dead).length:=by simp
    rw[this,List.getElem?_append_right (Alw _)];simp
   ·cases h
  ·cases h
 ·cases h
theorem Amx{e:ET}{a:Item}{l:List e.T}(h:Ari e a=some l):∃E,a= .arr E e l:=by
 unfold Ari at h;split at h
 ·rename_i E e' l';split at h
  ·rename_i he;subst he;cases h;exact⟨E,rfl⟩
  ·cases h
 ·cases h
theorem yj{E:TypeId}{e:ET}{i dn:Nat}{l m:List e.T}{cs ys:List Value}{v v':Value}{w':World}{s0:S}{A0:Reg}{L0:List MD}{w0:World}(hr:Rel Z s σs A L σ w)(hi:L[i]? =some (.own e.size E v cs))(hl:Cv (Bc (λb=>A b/\Z.R b) w e) (l++m) (cs++ys))
  (hs:St A w' [xK Z.R L (.arr E e (l++m)) (cs++ys),nT Z.R L s σs σ, .old Z.M Z.w0] ((L.map MD.Ng).set i (.own e.size E v' (cs++ys))))
  (hk:k ((((s.HB i .dead).sub i .any).add (.arr E e (l++m))).Jk (some dn) (.own s.new))=some r):H4 Z σs k r False A0 L0 s0.it w0 (HB σ dn v') w':=by
 have h1:Cv (Bc (λb=>A b/\Z.R b) w' e) (l++m) (cs++ys):=hs.fact 0 rfl;have hone:v.oneCell'=true:=by obtain⟨p,len,cap,rfl,_⟩:=hr.CQ hi;rfl
 have hs1:=hs.uE;have hm:MemR (λb=>A b/\Z.R b) w' L s σs σ:=hs1.fact 0 rfl;have hf:Frz (λb=>A b/\Z.R b) w' L i .any:=⟨λz E' u c h=>⟨u,rfl,by rw[hi]at h;cases h;exact hone⟩,rfl,rfl⟩;have hm2:=hm.subst hf;have vH:(L.map MD.Ng)[i]? =some (Mob.own e.size E v cs):=hr.Ng hi;have hs2:=Eo.mI hs1 (cH (m':=Mob.own e.size E v' (cs++ys)) vH).symm;have hs3:=Eo.mI (hs2.U1 1 0) (List.Perm.swap _ _ _);have hs4:=Eo.mI hs3 ((cH (m':=MD.dead.Ng) vH).cons _);have hs5:St A w' [nT Z.R (L.set i .dead) ((s.HB i .dead).sub i .any) σs σ, .old Z.M Z.w0] ((MD.own e.size E v' (cs++ys)).Ng::(L.set i .dead).map MD.Ng):=by
  rw[List.map_set];exact(hs4.noF.qL (f:= .old Z.M Z.w0) (hs4.fact 1 rfl)).qL (f:=nT Z.R (L.set i .dead) ((s.HB i .dead).sub i .any) σs σ) hm2
 have hr2:=Rel.push (a:= .arr E e (l++m)) hs5 ⟨rfl,rfl,h1⟩;have hnew:s.new=(L.set i .dead).length:=by rw[Awe,<-hr.len];rfl
 refine⟨_,A,_,hk,hr2.Jk (d:=some dn) rfl ?_,λg=>g.elim⟩;rw[hnew];exact vL
theorem Akb(z:Array Value)(hz:0<z.size)(m:Nat):((List.replicate m z.toList).flatten).toArray=Builtin.zeroCells z m:=by
 apply Array.ext
 ·simp[Builtin.zeroCells]
 ·intro j h1 h2;simp only[Builtin.zeroCells,Array.getElem_map,Array.getElem_range];have h3:j<m*z.size:=by simpa [Builtin.zeroCells]using h2
  have h4:=yV z.toList z.size (by simp) hz m j h3;have h5:j %z.size<z.size:=Aw3 _ hz;simp only[List.getElem_toArray];rw[List.getElem?_eq_getElem (by simpa using h1)]at h4;simp[h5]at h4;simp[h4,h5]
theorem Ane{E t t2:TypeId}{e:ET}{y:Operand}{kk:List e.T->Option R}(hr:Rel Z s σs A L σ w)(ht:P.underlying t=some (.slice E))(hel:ElemOk P E e.size)(h:Arf P s E e t2 y kk=some r):
  ∃m ys,kk m=some r/\Cv (Bc (λb=>A b/\Z.R b) w e) m ys/\∀(A1:Reg) (F:List Fact) (LL:List Mob) (i ll:Nat) (vx:Value) (cs:List Value),St A1 w F LL->LL[i]? =some (.own e.size E vx cs)->cs.length=ll*e.size->ll+m.length<=Z1->
   ∃v' w',(Builtin.append_ #[t,t2] ty #[vx,ev σ y]).run P w= .ok v' w'/\St A1 w' F (LL.set i (.own e.size E v' (cs++ys))):=by
 unfold Arf at h;split at h
 ·rename_i ht2;split at h
  ·rename_i m0 hy;split at h
   ·rename_i m hm;unfold kV at hm;split at hm
    ·rename_i he;cases he;cases hm;refine⟨m0,NB m0,h,Aa4.WA,λA1 F LL i ll vx cs hs hL hlen hlim=>?_⟩;rw[BD hr.mem.sl hy];exact oK (x:=y) (y:=y) ht hel hs hL (Src.string ht2) (Anb m0) hlen (by simp[NB,ET.size]) hlim
    ·cases hm
   ·cases h
  ·cases h
 ·rename_i et2 ht2;split at h
  ·rename_i m hm;have hV:(Gw s.sl y).isV=true:=by
    cases hq:(Gw s.sl y).isV with
    |true=>rfl
    |false=>rcases IM hq with h|h|⟨_,_,_,h⟩<;>rw[h]at hm<;>cases hm
   obtain⟨c0,h1,h2⟩:=pW hr.mem hm (Ze hr.mem.sl y hV);have hrd:Rd (λ_=>True) w e.size (ev σ y) c0:=by
    rcases h2 with h2|⟨j,E',u,cs',_,h2,hpart⟩
    ·exact h2.step (λ_ _=>trivial) (λ_ _=>rfl)
    ·exact hpart _ _ (hr.CQ h2)
   have zy:=h1.len λx c h=>Bc.len h;exact⟨m,c0,h,h1,λA1 F LL i ll vx cs hs hL hlen hlim=>oK (x:=y) (y:=y) ht hel hs hL (Src.slice ⟨_,ht2⟩ hrd zy hel.pos) h1.U9 hlen zy hlim⟩
  ·cases h
 ·rename_i kk2 ht2;split at h
  ·rename_i q z hq hz;split at h
   ·rename_i x0 hx0;obtain⟨m,hm,h⟩:=bind_some h;obtain⟨h1,h2,rfl⟩:=om hm;obtain⟨zv,⟨i0,hi0,hz0⟩,hz2⟩:=YC hz;have hx1:=XU hx0 (hz2 (λb=>A b/\Z.R b) w L);have hall:=S7 hx1 q.toNat;refine⟨_,_,h,hall,λA1 F LL i ll vx cs hs hL hlen hlim=>?_⟩;rw[xF hq (Ze hr.mem.sl y (T5 hq)),h1];have hzs:zv.cells.size=e.size:=by have:=hx1.len;simpa using this
    rw[List.length_replicate]at hlim;exact X5 (x:=y) (y:=y) (ly:=q.toNat) ht hel hs hL ⟨_,ht2⟩ (λi z' hi hz'=>by rw[hi0]at hi;cases hi;rw[hz0]at hz';cases hz';exact Akb zv.cells (by rw[hzs];exact hel.pos) _)
     hall.U9 hlen ((hall.len λx c h=>Bc.len h).trans (by simp)) hlim
   ·cases h
  ·cases h
 ·cases h
theorem Ahh{t t2:TypeId}{x y:Operand}{dn:Nat}(hr0:Rel Z s σs A L σ w)(hd:Nv n ⟨some dn, .call ⟨.builtin .append, #[x,y], #[t,t2]⟩,ty,pos,after,none⟩=true)
  (h:xQ P s (some dn) x y t t2 k=some r):JQ P n ops ⟨some dn, .call ⟨.builtin .append, #[x,y], #[t,t2]⟩,ty,pos,after,none⟩ Z s σs k r False A L σ w:=by
 unfold xQ at h;split at h
 ·cases h
 ·rename_i E hE;split at h
  ·cases h
  ·rename_i e he;obtain⟨hb,h⟩:=Bj h;simp only[Aag]at hb;have hel:=sS hb.1;split at h
   ·cases h
   ·rename_i s1 i hown;obtain⟨L1,hr,cs,hi⟩:=wz hr0 hel.pos hb.2 hown;split at h
    ·cases h
    ·rename_i l hl;obtain⟨E',hit⟩:=Amx hl;obtain⟨v1,cs1,h1,h2⟩:=hr.mem.arr hit;rw[hi]at h1;cases h1;have hlen:=h2.len λx c h=>Bc.len h;obtain⟨m,ys,hk,hm,hrun⟩:=Ane (ty:=ty) hr0 (lR hE) hel h;obtain⟨r',ha,hk⟩:=bind_some hk;obtain⟨h3,rfl⟩:=K7 ha;have hF:=St.qL (f:=xK Z.R L1 (.arr E e (l++m)) (cs++ys)) hr (h2.append hm);obtain⟨v',w',h4,h5⟩:=hrun A _ _ i l.length (ev σ x) cs hF (hr.Ng hi) hlen h3;refine WL.val (v:=v') (w':=w') rfl rfl (fK hd) ?_ (WL.nil (yj hr hi (h2.append hm) h5 hk));simp[execOp,resolve,invoke,builtin,h4]
end Go.Rx
namespace Go.Rx
open Go Go.Lv
variable {P:Program} {B:Reg} {w w':World} {L L':List MD} {s:S} {σs:List Env} {σ:Env} {Z:Fix} {A A':Reg} {n:Nat} {ops:Array Oper} {rest:List Oper} {K:Env->World->Prop}
variable {R:Type} {k:S->Option R} {r:R} {d:Option Nat} {ty:TypeId} {pos:String} {after:Array Edge}
theorem O2{place:Nat->Option (Nat×Nat)}{acc ns:List Value}{i off z:Nat}{v:Value}{rest:List (Nat×Value)}(hp:place i=some (off,z))(hv:v.cells=ns.toArray)(hz:ns.length=z)(hl:off+z<=acc.length):
  Instr.fill place acc.toArray ((i,v)::rest)=Instr.fill place (Bs acc off ns).toArray rest:=by
 have hf:=jK off ns 0 acc (by omega);have Als:v.cells.zipIdx.foldl (λcs (x:Value×Nat)=>cs.setIfInBounds (off+x.2) x.1) acc.toArray=(Bs acc off ns).toArray:=by
  rw[hv,<-Array.foldl_toList,Array.toList_zipIdx];simpa using hf
 simp only[Instr.fill,hp];have hc:(decide (v.cells.size≠z)||decide (off+v.cells.size>acc.toArray.size))=false:=by rw[hv];simp;omega
 rw[Aaa (by rw[hc];simp)]
 show Instr.fill _ (v.cells.zipIdx.foldl (λcs (x:Value×Nat)=>cs.setIfInBounds (off+x.2) x.1) acc.toArray) _=_;rw[Als]
def places:List PV->Nat->List (Nat×Nat)
 |[],_=>[]
 |v::vs,off=>(off,v.size)::places vs (off+v.size)
theorem xZ:∀{l:List PV} {i off:Nat} {u:PV},l[i]? =some u-> (places l off)[i]? =some (off+xM l i,u.size)
 |[],_,_,_,h=>by simp at h
 |a::l,0,off,u,h=>by simp at h;subst h;rfl
 |a::l,i+1,off,u,h=>by
  have:=xZ (l:=l) (i:=i) (off:=off+a.size) (by simpa using h);simpa [places,xM,At0]using this
theorem xO:∀{l:List PV} {i off:Nat} {u v:PV},l[i]? =some u->u.size=v.size->places (l.set i v) off=places l off
 |[],_,_,_,_,h,_=>by simp at h
 |a::l,0,off,u,v,h,hs=>by simp at h;subst h;simp[places,hs]
 |a::l,i+1,off,u,v,h,hs=>by simp[places,xO (l:=l) (i:=i) (by simpa using h) hs]
theorem uZ:∀{fs:List Field} {vs:List PV} {off:Nat},bN P fs vs off=true-> (fs.map λf=>(f.offset,(P.info? f.type).map (·.size)))=(places vs off).map λp=>(p.1,some p.2)
 |[],[],_,_=>rfl
 |[],_::_,_,h=>by simp[bN]at h
 |_::_,[],_,h=>by simp[bN]at h
 |f::fs,v::vs,off,h=>by
  simp only[bN,Aag]at h;obtain⟨⟨h1,h2⟩,h3⟩:=h;split at h2
  ·rename_i i hi;simp[places,uZ h3,hi,Ds h1,Ds h2]
  ·cases h2
theorem uL(hr:Rel Z s σs A L σ w){pl:List (Nat×Nat)}:∀{parts:List (Nat×Operand)} {zs l:List PV} {acc:List Value},kR (parts.map λp=>(p.1,Gw s.sl p.2)) zs=some l->
  places zs 0=pl->Bt.go (λb=>A b/\Z.R b) w L zs acc->∃cells,Instr.fill (pl[·]?) acc.toArray (parts.map λp=>(p.1,ev σ p.2))=some cells.toArray/\Bt.go (λb=>A b/\Z.R b) w L l cells
 |[],zs,l,acc,h,_,ha=>by simp only[List.map_nil,kR,Ab0]at h;subst h;exact⟨acc,rfl,ha⟩
 |(i,x)::ps,zs,l,acc,h,hpl,ha=>by
  subst hpl;simp only[Awl,kR]at h;split at h
  ·rename_i u hu;obtain⟨hb,h⟩:=Bj h;simp only[Aag]at hb;have hsz:=Ds hb.1;obtain⟨ns,h1,h2⟩:=WE hr (bJ hr.mem.sl (x:=x) hb.2);obtain⟨c1,c2,c3,e,h3,h4,h5⟩:=Bt.field ha hu;have hlen:=h2.len;have nN:=h4.len;obtain⟨cells,h6,h7⟩:=uL hr (zs:=zs.set i (Gw s.sl x)) (acc:=c1++(ns++c3)) h (by rw[xO hu hsz]) (h5 _ _ h2);refine⟨cells,?_,h7⟩;rw[Awl,O2 (off:=c1.length) (z:=u.size) (ns:=ns) (by rw[xZ hu,Avg,h3]) h1 (by omega) (by rw[e];simp;omega),e,dO (by omega)];exact h6
  ·cases h
theorem jr(hr:Rel Z s σs A L σ w){e:ET}:∀{parts:List (Nat×Operand)} {l l':List e.T} {acc:List Value},zG e (parts.map λp=>(p.1,Gw s.sl p.2)) l=some l'->
  Cv (Bc (λb=>A b/\Z.R b) w e) l acc->∃cells,Instr.fill (λi=>some (i*e.size,e.size)) acc.toArray (parts.map λp=>(p.1,ev σ p.2))=some cells.toArray/\Cv (Bc (λb=>A b/\Z.R b) w e) l' cells/\l'.length=l.length
 |[],l,l',acc,h,ha=>by simp only[List.map_nil,zG,Ab0]at h;subst h;exact⟨acc,rfl,ha,rfl⟩
 |(i,x)::ps,l,l',acc,h,ha=>by
  simp only[Awl,zG]at h;split at h
  ·rename_i u y hu hy;obtain⟨ns,h1,h2⟩:=WE hr (bJ hr.mem.sl (x:=x) (Au7 hy));have h3:=XU hy h2;obtain⟨c1,c2,c3,e',h4,h5,h6⟩:=Cv.get (λx c h=>Bc.len h) ha hu;have hlen:=h3.len;have nN:=h5.len;obtain⟨cells,h7,h8,h9⟩:=jr hr (l:=l.set i y) (acc:=c1++(ns++c3)) h (h6 _ _ h3);refine⟨cells,?_,h8,by rw[h9,Awe]⟩;rw[Awl,O2 (off:=c1.length) (z:=e.size) (ns:=ns) (by rw[h4]) h1 hlen (by rw[e'];simp;omega),e',dO (by omega)];exact h7
  ·cases h
theorem Agg{t et:TypeId}{m z:Nat}{parts:List (Nat×Operand)}{zv:Value}{cells:List Value}(ht:P.underlying t=some (.array m et))(hz:∃i,P.info? t=some i/\i.zero=some zv)(hsz:Md P et z)
  (hf:Instr.fill (λi=>some (i*z,z)) zv.cells (parts.map λp=>(p.1,ev σ p.2))=some cells.toArray) (w:World):XO P σ w (.build t parts.toArray) (.agg cells.toArray):=λ_ _ _ _ _=>by
 obtain⟨i,hi,hz⟩:=hz;simp only[execOp,Instr.build,Al7,zeroValue,typeInfo];simp[hi,hz,Agl ht,Cj hsz,hf]
theorem Aht{t:TypeId}{ps:Array (Nat×Operand)}{G:Prop}(hr:Rel Z s σs A L σ w)(hd:Nv n ⟨d, .build t ps,ty,pos,after,none⟩=true)(h:Q5 P s d t ps.toList k=some r):
  JQ P n ops ⟨d, .build t ps,ty,pos,after,none⟩ Z s σs k r G A L σ w:=by
 have hps:ps=ps.toList.toArray:=by simp
 rw[show(⟨d, .build t ps,ty,pos,after,none⟩:Oper)=⟨d, .build t ps.toList.toArray,ty,pos,after,none⟩ by rw[<-hps]];unfold Q5 at h;split at h
 ·rename_i fs zs ht hz;obtain⟨hb,h⟩:=Bj h;obtain⟨z,⟨i,hi,hz0⟩,hz2⟩:=YC hz;split at h
  ·rename_i l hl;obtain⟨cells,h1,h2⟩:=uL hr (pl:=places zs 0) hl rfl (show Bt.go _ w L zs _ from hz2 _ _ _);have hst:cO P t (places zs 0) z.cells.toList:=by
    unfold cO fG;rw[ht];simp only[uZ hb,hi,hz0,Axt]
   exact Fp hr (d:=d) (o:= .build t ps.toList.toArray) (by simpa using hd) (X.build hst rfl (by simpa using h1)) rfl (show Gs _ w L (.agg l) _ from⟨cells,rfl,h2⟩) h
  ·cases h
 ·rename_i m et e0 l0 ht hz;split at h
  ·rename_i m' a l;split at h
   ·rename_i inf l' BO hl;obtain⟨hb,h⟩:=Bj h;obtain⟨z,hz1,hz2⟩:=YC hz;obtain⟨h0,h0'⟩:l.length=m'/\Cv (Bc (λb=>A b/\Z.R b) w a) l z.cells.toList:=hz2 _ _ L;obtain⟨cells,h1,h2,h3⟩:=jr hr hl h0';have:=Agg (σ:=σ) (parts:=ps.toList) ht hz1 (Gx BO hb) (by simpa using h1) w;exact Fp hr (d:=d) (o:= .build t ps.toList.toArray) (by simpa using hd) this rfl (show Gs _ w L (.val (.vec m' a) l') _ from⟨cells,rfl,h3.trans h0,h2⟩) h
   ·cases h
  ·cases h
 ·cases h
end Go.Rx
namespace Go.Rx
open Go Go.Lv
variable {P:Program} {B B':Reg} {w w':World} {L L':List MD} {s:S} {σs:List Env} {σ:Env} {Z:Fix} {A A':Reg} {n:Nat}
def gC(B:Reg)(w:World)(L:List MD)(B':Reg)(w':World)(L':List MD)(q q':PV):Prop:=q'.isA=q.isA/\∀cs,Bt B w L q cs->Bt B' w' L' q' cs
inductive All2 {α β:Type} (f:α->β->Prop):List α->List β->Prop
 |nil:All2 f [] []
 |cons {a b l m}:f a b->All2 f l m->All2 f (a::l) (b::m)
theorem All2.split{α β:Type}{f:α->β->Prop}:∀{l1 l2:List α} {m:List β},All2 f (l1++l2) m->∃m1 m2,m=m1++m2/\All2 f l1 m1/\All2 f l2 m2
 |[],_,m,h=>⟨[],m,rfl, .nil,h⟩
 |a::l1,l2,_, .cons h1 h2=>let⟨m1,m2,e,h3,h4⟩:=All2.split h2;⟨_::m1,m2,by rw[e];rfl, .cons h1 h3,h4⟩
mutual
theorem oE:∀{sh:Sh} {p:PV} {ls ls' rest:List PV} {cs:List Value},DH sh p=some ls->Bt B w L p cs->All2 (gC B w L B' w' L') ls ls'->∃p',Yk sh (ls'++rest)=some (p',rest)/\p'.isA=p.isA/\Bt B' w' L' p' cs
 | .lf e o,p,ls,ls',rest,cs,h,hp,ha=>by
  simp only[DH,Ab0]at h;subst h;cases ha with
  |cons h1 h2=>
   cases h2;exact⟨_,rfl,h1.1,h1.2 _ hp⟩
 | .agg l,p,ls,ls',rest,cs,h,hp,ha=>by
  cases p<;>simp only[DH,reduceCtorEq]at h;rename_i vs;obtain⟨us,h1,h2⟩:=tK (rest:=rest) h (show Bt.go B w L vs cs from hp) ha;exact⟨.agg us,by simp only[Yk,h1],rfl,h2⟩
theorem tK:∀{l:List Sh} {ps:List PV} {ls ls' rest:List PV} {cs:List Value},DH.go l ps=some ls->Bt.go B w L ps cs->All2 (gC B w L B' w' L') ls ls'->∃ps',Yk.go l (ls'++rest)=some (ps',rest)/\Bt.go B' w' L' ps' cs
 |[],[],ls,ls',rest,cs,h,hp,ha=>by
  simp only[DH.go,Ab0]at h;subst h;cases ha;exact⟨[],rfl,hp⟩
 |a::l,p::ps,ls,ls',rest,cs,h,⟨c1,c2,e,hp1,hp2⟩,ha=>by
  simp only[DH.go]at h;split at h
  ·rename_i x y hx hy;cases h;obtain⟨m1,m2,rfl,h1,h2⟩:=ha.split;obtain⟨p',h3,_,h4⟩:=oE (rest:=m2++rest) hx hp1 h1;obtain⟨ps',h5,h6⟩:=tK (rest:=rest) hy hp2 h2;exact⟨p'::ps',by simp only[Yk.go,Ahm,h3,h5],c1,c2,e,h4,h6⟩
  ·cases h
 |[],_::_,_,_,_,_,h,_,_=>by simp[DH.go]at h
 |_::_,[],_,_,_,_,h,_,_=>by simp[DH.go]at h
end
theorem mW:∀{l:List Sh} {ps:List PV} {ls ls' rest:List PV} {us:List Value},DH.go l ps=some ls->Jd B w L ps us->All2 (gC B w L B' w' L') ls ls'->∃ps',Yk.go l (ls'++rest)=some (ps',rest)/\Jd B' w' L' ps' us
 |[],[],ls,ls',rest,us,h,hp,ha=>by
  simp only[DH.go,Ab0]at h;subst h;cases ha;exact⟨[],rfl,hp⟩
 |a::l,p::ps,ls,ls',rest,us,h,⟨v,us',e,hp1,hp2⟩,ha=>by
  simp only[DH.go]at h;split at h
  ·rename_i x y hx hy;cases h;obtain⟨m1,m2,rfl,h1,h2⟩:=ha.split;have key:∃p',Yk a (m1++(m2++rest))=some (p',m2++rest)/\asV p'.isA (Bt B' w' L' p') v:=by
    cases hA:p.isA with
    |true=>
     rw[hA]at hp1;obtain⟨cs,e1,hc⟩:=hp1;obtain⟨p',h3,h4,h5⟩:=oE (rest:=m2++rest) hx hc h1;exact⟨p',h3,by rw[h4,hA];exact⟨cs,e1,h5⟩⟩
    |false=>
     rw[hA]at hp1;obtain⟨p',h3,h4,h5⟩:=oE (rest:=m2++rest) hx hp1 h1;exact⟨p',h3,by rw[h4,hA];exact h5⟩
   obtain⟨p',h3,h4⟩:=key;obtain⟨ps',h5,h6⟩:=mW (rest:=rest) hy hp2 h2;exact⟨p'::ps',by simp only[Yk.go,Ahm,h3,h5],v,us',e,h4,h6⟩
  ·cases h
 |[],_::_,_,_,_,_,h,_,_=>by simp[DH.go]at h
 |_::_,[],_,_,_,_,h,_,_=>by simp[DH.go]at h
theorem rA{l:List Sh}{ps ls ls':List PV}{us:List Value}(h:Aex l ps=some ls)(hp:Jd B w L ps us)(ha:All2 (gC B w L B' w' L') ls ls'):∃ps',iQ l ls'=some ps'/\Jd B' w' L' ps' us:=by
 obtain⟨ps',h1,h2⟩:=mW (rest:=[]) h hp ha;rw[Apk]at h1;exact⟨ps',by simp only[iQ,h1],h2⟩
theorem iy{e:ET}{q:PV}{x:e.T}(h:lB s e q=some x):(∃e0,e= .list e0)\/ (∃e' x',q= .val e' x'/\kV e' e x'=some x):=by
 unfold lB at h;split at h
 ·exact .inl ⟨_,rfl⟩
 ·exact .inr ⟨_,_,rfl,h⟩
 ·cases h
theorem cast_eq{e e':ET}{x:e.T}{y:e'.T}(h:kV e e' x=some y):PV.val e x=PV.val e' y:=by
 unfold kV at h;split at h
 ·rename_i he;subst he;cases h;rfl
 ·cases h
theorem Ahc{e:ET}{q:PV}{l:List e.T}(h:U6 s e q=some l):elems s e q=some l/\q.isA=false/\q.size=1:=by
 unfold U6 at h;split at h
 ·cases h
 ·refine⟨h,?_⟩;unfold elems at h;split at h
  ·split at h
   ·exact⟨rfl,rfl⟩
   ·cases h
  ·exact⟨rfl,rfl⟩
  ·exact⟨rfl,rfl⟩
  ·exact⟨rfl,rfl⟩
  ·cases h
theorem uq(hr:Rel Z s σs A L σ w){e:ET}{q:PV}{x:e.T}(h:lB s e q=some x)(hb:∀b,A b/\Z.R b->B' b)(ho:∀i∈owns q,∀z E v c,L[i]? =some (.own z E v c)->Rd B' w z v c):gC (λb=>A b/\Z.R b) w L B' w L' q (.val e x):=by
 rcases iy h with⟨e0,rfl⟩|⟨e',x',rfl,hc⟩
 ·obtain⟨h1,hA,h2⟩:=Ahc (show U6 s e0 q=some x from h);refine⟨by rw[hA];rfl,λcs hcs=>?_⟩;have hP:=hcs.sQ;have hlen:=hcs.len;have:∃v,cs=[v]:=by
   rw[h2]at hlen
   match cs,hlen with
   |[v],_=>exact⟨v,rfl⟩
  obtain⟨v,rfl⟩:=this;have hv:Gs (λb=>A b/\Z.R b) w L q v:=(jE hP).2 (by unfold Mc;rw[hA];exact hcs);obtain⟨c0,h3,h4⟩:=pW hr.mem h1 hv;refine⟨v,c0,rfl,?_,h3.mono λx c h=>Bc.step hb (λ_ _=>rfl) h⟩;rcases h4 with h4|⟨i,E,u,cs,hi,h4,hpart⟩
  ·exact h4.step hb (λ_ _=>rfl)
  ·exact hpart _ _ (ho i hi _ _ _ _ h4)
 ·have:=cast_eq hc;rw[this];exact⟨rfl,λcs h=>Bc.step hb (λ_ _=>rfl) (show Bc _ w e x cs from h)⟩
theorem Ad9{e:ET}{x:e.T}{s0:S}:Gm e none x s0=(.val e x,s0):=by cases e<;>rfl
theorem xC(x:SJ [])(s0:S):Gz [] x s0=([],s0):=rfl
theorem dD(p:ET×Option TypeId)(x:SJ [p])(s0:S):Gz [p] x s0=([(Gm p.1 p.2 x s0).1],(Gm p.1 p.2 x s0).2):=rfl
theorem YV(p q:ET×Option TypeId)(r:List (ET×Option TypeId))(x:p.1.T)(y:SJ (q::r))(s0:S):Gz (p::q::r) (x,y) s0=
  ((Gm p.1 p.2 x s0).1::(Gz (q::r) y (Gm p.1 p.2 x s0).2).1,(Gz (q::r) y (Gm p.1 p.2 x s0).2).2):=rfl
theorem pk0{p:ET×Option TypeId}:WG s [p] []=none:=rfl
theorem pk2{p:ET×Option TypeId}{q r:PV}{qs:List PV}:WG s [p] (q::r::qs)=none:=rfl
theorem pk3{q:PV}{qs:List PV}:WG s [] (q::qs)=none:=rfl
theorem pk4{p q:ET×Option TypeId}{r:List (ET×Option TypeId)}:WG s (p::q::r) []=none:=rfl
theorem pk5{p q:ET×Option TypeId}{r:List (ET×Option TypeId)}{v:PV}{vs:List PV}:WG s (p::q::r) (v::vs)=(match lB s p.1 v,WG s (q::r) vs with|some x,some y=>some ((x,y):p.1.T×SJ (q::r))|_,_=>none):=rfl
theorem ug{qs:List PV}{x:SJ []}(h:WG s [] qs=some x):qs=[]:=by
 match qs,h with
 |[],_=>rfl
 |_::_,h=>rw[pk3]at h;cases h
theorem nu{p:ET×Option TypeId}{qs:List PV}{x:SJ [p]}(h:WG s [p] qs=some x):∃q,qs=[q]/\lB s p.1 q=some x:=by
 match qs,h with
 |[],h=>rw[pk0]at h;cases h
 |[q],h=>exact⟨q,rfl,h⟩
 |q::r::qs,h=>rw[pk2]at h;cases h
theorem N6{p q:ET×Option TypeId}{r:List (ET×Option TypeId)}{qs:List PV}{z:SJ (p::q::r)}(h:WG s (p::q::r) qs=some z):
  ∃v vs,∃(x:p.1.T) (y:SJ (q::r)),qs=v::vs/\z=(x,y)/\lB s p.1 v=some x/\WG s (q::r) vs=some y:=by
 match qs,h with
 |[],h=>rw[pk4]at h;cases h
 |v::vs,h=>
  rw[pk5]at h;split at h
  ·rename_i x y hx hy;cases h;exact⟨v,vs,x,y,rfl,rfl,hx,hy⟩
  ·cases h
def Qr(L:List MD):List (ET×Option TypeId)->List PV->List MD
 |p::r,v::vs=>match p.2 with
  |none=>Qr L r vs
  |some E=>(match p.1,v with
   | .list _, .own i=>L.getD i .dead
   | .list a,_=> .own a.size E (.slice none 0 0) []
   |_,_=> .dead)::Qr L r vs
 |_,_=>[]
theorem rI:∀{ls:List (ET×Option TypeId)} {vs:List PV} {is:List Nat},K0 ls=true->consume s ls vs=some is->is=[]
 |[],[],is,_,h=>by simp[consume]at h;exact h
 |[],_::_,_,_,h=>by simp[consume]at h
 |_::_,[],_,_,h=>by simp[consume]at h
 |(e,none)::r,v::vs,is,hn,h=>rI (ls:=r) (vs:=vs) (by simpa [K0]using hn) (by simpa [consume]using h)
 |(e,some _)::r,v::vs,is,hn,h=>by simp[K0]at hn
theorem pF{N:Reg}:∀{ls:List (ET×Option TypeId)} {vs:List PV} {is:List Nat} {A:Reg},consume s ls vs=some is->Eo w A (is.map λi=>(L.getD i .dead).Ng)->Eo w A ((Qr L ls vs).map MD.Ng)
 |[],[],_,_,_,_=>trivial
 |[],_::_,_,_,h,_=>by simp[consume]at h
 |_::_,[],_,_,h,_=>by simp[consume]at h
 |(e,none)::r,v::vs,is,A,h,hm=>pF (N:=N) (ls:=r) (vs:=vs) (by simpa [consume]using h) hm
 |(e,some E)::r,v::vs,is,A,h,hm=>by
  simp only[consume]at h;split at h
  ·rename_i a;exact⟨none,⟨none,0,0,rfl,by simp,Alw _,λ_=>rfl,λ_=>rfl,λb h=>by cases h⟩,λb hb=>(by cases hb),(pF (N:=N) h hm).PA λb hb=>hb.elim id (λh=>by cases h)⟩
  ·rename_i a i;split at h
   ·rename_i E' a' l hi;obtain⟨_,h⟩:=Bj h;simp only[Axb]at h;obtain⟨is',h1,rfl⟩:=h;obtain⟨o,g1,g2,g3⟩:=hm;exact⟨o,g1,g2,pF (N:=N) h1 g3⟩
   ·cases h
  ·cases h
theorem O9{B1:Reg}(hr:Rel Z s σs A L σ w)(hb:∀b,A b/\Z.R b->B1 b):∀(ls:List (ET×Option TypeId)) (vs:List PV) (x:SJ ls) (is:List Nat) (s0:S) (Lx LF:List MD),
  WG s ls vs=some x->consume s ls vs=some is-> (∀i∈Zs ls vs,∀z E v c,L[i]? =some (.own z E v c)->Rd B1 w z v c)->Lx.length=s0.it.length->LF=Lx++Qr L ls vs->
  ∃its,(Gz ls x s0).2=⟨s0.sl,s0.it++its,s0.st⟩/\its.length=(Qr L ls vs).length/\All2 (gC (λb=>A b/\Z.R b) w L B1 w LF) vs (Gz ls x s0).1/\
   ∀(i:Nat) (a:Item) (m:MD),its[i]? =some a-> (Qr L ls vs)[i]? =some m->GN B1 w LF a m
 |[],vs,x,is,s0,Lx,LF,hp,hc,_,_,_=>by
  rw[ug hp];refine⟨[],?_,rfl,All2.nil,λi a m h=>by simp at h⟩;rw[xC];simp
 |p::ls,vs,x,is,s0,Lx,LF,hp,hc,ho,hlen,hLF=>by
  have main:∀(v:PV) (vs':List PV) (x1:p.1.T) (rest:S->List PV×S),vs=v::vs'->lB s p.1 v=some x1->
    (Gz (p::ls) x s0=((Gm p.1 p.2 x1 s0).1::(rest (Gm p.1 p.2 x1 s0).2).1,(rest (Gm p.1 p.2 x1 s0).2).2))->
    (∀(is:List Nat) (s1:S) (Lx:List MD),consume s ls vs'=some is-> (∀i∈Zs ls vs',∀z E v c,L[i]? =some (.own z E v c)->Rd B1 w z v c)->Lx.length=s1.it.length->LF=Lx++Qr L ls vs'->
     ∃its,(rest s1).2=⟨s1.sl,s1.it++its,s1.st⟩/\its.length=(Qr L ls vs').length/\All2 (gC (λb=>A b/\Z.R b) w L B1 w LF) vs' (rest s1).1/\
      ∀(i:Nat) (a:Item) (m:MD),its[i]? =some a-> (Qr L ls vs')[i]? =some m->GN B1 w LF a m)->
    ∃its,(Gz (p::ls) x s0).2=⟨s0.sl,s0.it++its,s0.st⟩/\its.length=(Qr L (p::ls) vs).length/\All2 (gC (λb=>A b/\Z.R b) w L B1 w LF) vs (Gz (p::ls) x s0).1/\
     ∀(i:Nat) (a:Item) (m:MD),its[i]? =some a-> (Qr L (p::ls) vs)[i]? =some m->GN B1 w LF a m:=by
   intro v vs' x1 rest hvs hx hu hrest;subst hvs;rw[hu];obtain⟨e,o⟩:=p;cases o with
   |none=>
    have hc':consume s ls vs'=some is:=by simpa [consume]using hc
    have e1:Gm e none x1 s0=(.val e x1,s0):=Ad9;simp only[e1];obtain⟨its,h1,h2,h3,h4⟩:=hrest is s0 Lx hc' (λi hi=>ho i (by simp[Zs,hi])) hlen hLF;refine⟨its,h1,h2, .cons (uq hr hx hb (λi hi z E v c hL=>ho i (by simp[Zs,hi]) z E v c hL)) h3,h4⟩
   |some E=>
    simp only[consume]at hc;split at hc
    ·rename_i a;have hx':x1=[]:=by
      have:elems s a .nils=some x1:=hx;simpa [elems]using this.symm
     subst hx';have e1:Gm (.list a) (some E) [] s0=(.own s0.new,s0.add (.arr E a [])):=rfl;simp only[e1];obtain⟨its,h1,h2,h3,h4⟩:=hrest is (s0.add (.arr E a [])) (Lx++[.own a.size E (.slice none 0 0) []]) hc (λi hi=>ho i (by simpa [Zs]using hi)) (by simp[S.add,hlen]) (by rw[hLF];simp[Qr]);refine⟨.arr E a []::its,by rw[h1];simp[S.add],by simp[Qr,h2], .cons ⟨rfl,λcs hcs=>?_⟩ h3,λi b m hi hm=>?_⟩
     ·refine⟨a.size,E, .slice none 0 0,[],?_,hcs⟩;rw[hLF,S.new,<-hlen];simp[Qr]
     ·cases i with
      |zero=>
       simp[Qr]at hi hm;subst hi hm;exact⟨rfl,rfl,rfl⟩
      |succ i=>exact h4 i b m (by simpa using hi) (by simpa [Qr]using hm)
    ·rename_i a i;split at hc
     ·rename_i E' a' l hi;obtain⟨hb1,hc1⟩:=Bj hc;clear hc;simp only[Aag,Aaf]at hb1;obtain⟨hE,rfl⟩:=hb1;have:=Ds hE;subst this;simp only[Axb]at hc1;obtain⟨is',hc',rfl⟩:=hc1;obtain⟨u,cs0,g1,g2⟩:=hr.mem.arr hi;have hx':x1=l:=by
       have:elems s a' (.own i)=some x1:=hx;simp[elems,hi]at this;exact this.symm
      subst hx';have hg:L.getD i .dead= .own a'.size E' u cs0:=by simp[List.getD_eq_getElem?_getD,g1]
      have e1:Gm (.list a') (some E') x1 s0=(.own s0.new,s0.add (.arr E' a' x1)):=rfl;simp only[e1];obtain⟨its,h1,h2,h3,h4⟩:=hrest is' (s0.add (.arr E' a' x1)) (Lx++[.own a'.size E' u cs0]) hc' (λi hi=>ho i (by simpa [Zs]using hi)) (by simp[S.add,hlen]) (by rw[hLF];simp only[Qr,hg];simp);refine⟨.arr E' a' x1::its,by rw[h1];simp[S.add],by simp[Qr,h2], .cons ⟨rfl,λcs hcs=>?_⟩ h3,λq b m hq hm=>?_⟩
      ·obtain⟨z,E2,v2,c2,k1,k2⟩:=hcs;rw[g1]at k1;cases k1;refine⟨a'.size,E',u,cs0,?_,k2⟩;rw[hLF,S.new,<-hlen];simp only[Qr,hg];simp
      ·cases q with
       |zero=>
        simp only[Qr,hg]at hq hm;simp at hq hm;subst hq hm;exact⟨rfl,rfl,g2.mono λx c h=>Bc.step hb (λ_ _=>rfl) h⟩
       |succ q=>exact h4 q b m (by simpa using hq) (by simpa [Qr]using hm)
     ·cases hc
    ·cases hc
  cases ls with
  |nil=>
   obtain⟨v,rfl,hx⟩:=nu hp;exact main v [] x (λs1=>([],s1)) rfl hx (dD p x s0) (λis s1 Lx _ _ hlen hLF=>⟨[],by simp,rfl,All2.nil,λi a m h=>by simp at h⟩)
  |cons q r=>
   obtain⟨v,vs',x1,y',rfl,rfl,hx,hy⟩:=N6 hp;exact main v vs' x1 (λs1=>Gz (q::r) y' s1) rfl hx (YV p q r x1 y' s0)
    (λis s1 Lx hc ho hlen hLF=>O9 hr hb (q::r) vs' y' is s1 Lx LF hy hc ho hlen hLF)
theorem jq:∀(a b:List PV),owns.go (a++b)=owns.go a++owns.go b
 |[],b=>rfl
 |x::a,b=>by simp[owns.go,jq a b]
mutual
theorem Abk:∀{sh:Sh} {p:PV} {ls:List PV},DH sh p=some ls->owns.go ls=owns p
 | .lf e o,p,ls,h=>by simp only[DH,Ab0]at h;subst h;simp[owns.go]
 | .agg l,p,ls,h=>by cases p<;>simp only[DH,reduceCtorEq]at h;exact oF h
theorem oF:∀{l:List Sh} {ps ls:List PV},DH.go l ps=some ls->owns.go ls=owns.go ps
 |[],[],ls,h=>by simp only[DH.go,Ab0]at h;subst h;rfl
 |a::l,p::ps,ls,h=>by
  simp only[DH.go]at h;split at h
  ·rename_i x y hx hy;cases h;rw[jq,Abk hx,oF hy];rfl
  ·cases h
 |[],_::_,_,h=>by simp[DH.go]at h
 |_::_,[],_,h=>by simp[DH.go]at h
end
structure KeepN (N:Reg) (w w':World):Prop where
 same:∀b,b<w.heap.size->N b->w'.heap[b]? =w.heap[b]?
 gr:Gr w w'
def GlOk(gl:List (Nat×List Value))(N:Reg)(w:World):Prop:=∀p∈gl,p.1<w.heap.size/\N p.1/\∃T fr,w.heap[p.1]? =some (.cells p.2.toArray T fr)
def Aqb(gl:List (Nat×List Value))(R N:Reg)(w w':World)(rs:List Sh)(y:SJ (EP rs))(us:List Value):Prop:=
 KeepN N w w'/\∃(A1:Reg) (L1:List MD),(∀b,A1 b-> (¬N b\/w.heap.size<=b)/\b<w'.heap.size)/\Eo w' (λb=>A1 b\/ (b<w.heap.size/\N b)) (L1.map MD.Ng)/\
  ∀(s:S) (L:List MD) (B':Reg),L.length=s.it.length-> (∀b,A1 b->B' b)-> (Ao6 rs=true->∀b,(R b/\N b)\/ (∃p∈gl,p.1=b)->B' b)->
   ∃ps its,(Gz (EP rs) y s).2=⟨s.sl,s.it++its,s.st⟩/\iQ rs (Gz (EP rs) y s).1=some ps/\Jd B' w' (L++L1) ps us/\its.length=L1.length/\
   ∀(i:Nat) (a:Item) (m:MD),its[i]? =some a->L1[i]? =some m->GN B' w' (L++L1) a m
structure ConOk (P:Program) (gl:List (Nat×List Value)) (f:Nat) (c:Con):Prop where
 ent:Ent P f
 ok:∀(R N:Reg) (w:World) (L0:List MD) (vs:List Value) (ps:List PV) (x:SJ (EP c.ps)) (y:SJ (EP c.rs)),args c.ps x=some ps-> (zu c.ps x).length=L0.length->
  (∀(i:Nat) (a:Item) (m:MD),(zu c.ps x)[i]? =some a->L0[i]? =some m->GN (λb=>R b/\N b) w L0 a m)->Eo w N (L0.map MD.Ng)->Jd (λb=>R b/\N b) w L0 ps vs->GlOk gl N w->c.fn x=some y->
  Calls P f vs.toArray w λe w'=>∃us,e= .returned (UF us)/\Aqb gl R N w w' c.rs y us
end Go.Rx
namespace Go.Rx
open Go Go.Lv
variable {P:Program} {B B':Reg} {w w':World} {L L':List MD} {s:S} {σs:List Env} {σ:Env} {Z:Fix} {A A':Reg} {n:Nat} {ops:Array Oper}
variable {R:Type} {k:S->Option R} {r:R} {d:Option Nat} {ty:TypeId} {pos:String} {after:Array Edge} {T:Tab} {inl:Y7 R}
def iI(P:Program)(gl:List (Nat×List Value))(inl:Y7 R):Prop:=∀(Z:Fix),Z.gl=gl->∀(f:Nat) (as:List PV) (s:S) (k:S->PV->Option R) (r:R) (σs:List Env) (A:Reg) (L:List MD) (σ:Env) (w:World) (vs:List Value),
 inl f as s k=some r->Rel Z s σs A L σ w->Jd (λb=>A b/\Z.R b) w L as vs->Ent P f/\Calls P f vs.toArray w λe w'=>∃v p s' A' L',e= .returned v/\k s' p=some r/\Rel Z s' σs A' L' σ w'/\p.isV=true/\Gs (λb=>A' b/\Z.R b) w' L' p v
def fX(P:Program)(T:Tab):Prop:=∀f c,T.get f=some c->ConOk P T.gl f c
def pT(P:Program)(T:Tab)(Z:Fix):Prop:=fX P T/\Z.gl=T.gl
theorem Jd.step{q:List PV}{vs:List Value}(hb:∀b,B b->B' b)(hs:Same B w w')(hl:gV L L')(h:Jd B w L q vs):Jd B' w' L' q vs:=Bt.Adr hb hs hl h
theorem Jd.append:∀{p q:List PV} {us vs:List Value},Jd B w L p us->Jd B w L q vs->Jd B w L (p++q) (us++vs)
 |[],q,us,vs,h,h'=>by rw[show us=[]from h];exact h'
 |a::p,q,us,vs,⟨v,us',e,h1,h2⟩,h'=>⟨v,us'++vs,by rw[e];rfl,h1,Jd.append h2 h'⟩
theorem xk{ps:List PV}{us:List Value}(h:Jd B w L ps us):(ni ps).isV=true/\Gs B w L (ni ps) (UF us):=by
 match ps,us,h with
 |[],us,h=>rw[show us=[]from h];exact⟨rfl,[],rfl,rfl⟩
 |[p],us,⟨v,us',e,h1,h2⟩=>
  rw[show us'=[]from h2]at e;subst e;exact Of h1
 |p::q::r,us,h=>
  obtain⟨v,us',e,h1,v2,us2,e2,h2,h3⟩:=h;subst e2 e;exact⟨rfl,v::v2::us2,rfl,v,_,rfl,h1,v2,us2,rfl,h2,h3⟩
theorem Rel.Ahd{w':World}{A1 BX:Reg}{L1:List MD}{its:List Item}(hr:Rel Z s σs A L σ w)(hBX:∀b,BX b-> ¬A b/\b<w.heap.size)(hY:Eo w (λb=>A b\/BX b) (L.map MD.Ng))
  (hk:KeepN (λb=>¬BX b) w w') (hA1:∀b,A1 b-> (¬ ¬BX b\/w.heap.size<=b)/\b<w'.heap.size)
  (hm:Eo w' (λb=>A1 b\/ (b<w.heap.size/\ ¬BX b)) (L1.map MD.Ng)) (hlen:its.length=L1.length)
  (hit:∀(i:Nat) (a:Item) (m:MD),its[i]? =some a->L1[i]? =some m->GN (λb=>(A b\/A1 b)/\Z.R b) w' (L++L1) a m):
  Rel Z ⟨s.sl,s.it++its,s.st⟩ σs (λb=>A b\/A1 b) (L++L1) σ w':=by
 have hlt:=St.lt hr;have hsame:Same A w w':=λb hb=>hk.same b (hlt b hb) λh=>(hBX b h).1 hb;have hmem:MemR (λb=>A b/\Z.R b) w' L s σs σ:=Fact.step _ (hr.fact 0 (f:=nT Z.R L s σs σ) rfl) (λ_ h=>h) hsame hk.gr;have hold:(Fact.old Z.M Z.w0).holds A w':=Fact.step _ (hr.fact 1 (f:= .old Z.M Z.w0) rfl) (λ_ h=>h) hsame hk.gr;have hl:=gV.append L L1;have hst:St (λb=>A b\/A1 b) w' [.old Z.M Z.w0] (L1.map MD.Ng++L.map MD.Ng):=by
  refine⟨λb hb=>hb.elim (λh=>Aqa (hlt b h) hk.gr.le) (λh=>(hA1 b h).2),λf hf=>?_,?_⟩
  ·cases hf with
   |head=>exact Fact.step _ hold (λ_ h=> .inl h) (λ_ _=>rfl) (.refl _)
   |tail _ h=>cases h
  ·refine Eo.append (λb=>b<w.heap.size/\ ¬BX b) (λb hb=>Aqa hb.1 hk.gr.le) (hm.PA ?_) ?_
   ·rintro b ((h|h)|h)
    ·exact .inr ⟨hlt b h,λhx=>(hBX b hx).1 h⟩
    ·exact .inl h
    ·exact .inr h
   ·refine(hY.lt.step hk.gr.le λb hb hn=>hk.same b hb λh=>hn (.inl (.inr h))).PA ?_;rintro b ((h|h)|h)
    ·exact .inl (.inl h)
    ·rcases(hA1 b h).1 with h|h
     ·exact .inl (.inr (Classical.not_not.1 h))
     ·exact .inr h
    ·by_cases hx:BX b
     ·exact .inl (.inr hx)
     ·exact .inr (Nat.le_of_not_lt λhl=>h ⟨hl,hx⟩)
 have hb:∀b,A b/\Z.R b-> (A b\/A1 b)/\Z.R b:=λb h=>⟨.inl h.1,h.2⟩;refine Rel.as (Eo.mI hst List.perm_append_comm) (i:=0) rfl ⟨⟨?_,?_⟩,hmem.sl.step hb (λ_ _=>rfl) hl,hmem.stk.step hb (λ_ _=>rfl) hl⟩ (by rw[List.map_append])
 ·simp[hmem.it.1,hlen]
 ·intro i a m g1 g2;simp only at g1;rcases Axw i s.it.length with hi|hi
  ·rw[List.getElem?_append_left hi]at g1;rw[List.getElem?_append_left (by rw[<-hmem.it.1];exact hi)]at g2;exact(hmem.it.2 i a m g1 g2).step hb (λ_ _=>rfl) hl
  ·rw[List.getElem?_append_right hi]at g1;rw[List.getElem?_append_right (by rw[<-hmem.it.1];exact hi)]at g2;rw[hmem.it.1]at g1;exact hit _ a m g1 g2
theorem Eo.split:∀{X Y:List Mob} {A:Reg},Eo w A (X++Y)->∃BX:Reg,(∀b,BX b-> ¬A b/\b<w.heap.size)/\Eo w (λb=>¬BX b) X/\Eo w (λb=>A b\/BX b) Y
 |[],Y,A,h=>⟨λ_=>False,λb hb=>hb.elim,trivial,h.PA λb hb=>hb.elim id λh=>h.elim⟩
 |m::X,Y,A,⟨o,h1,h2,h3⟩=>by
  obtain⟨BX,g1,g2,g3⟩:=Eo.split h3;refine⟨λb=>BX b\/o=some b,λb hb=>?_,⟨o,h1,λb hb=>⟨λh=>h (.inr hb),(h2 b hb).2⟩,g2.PA ?_⟩,g3.PA ?_⟩
  ·rcases hb with hb|hb
   ·exact⟨λh=>(g1 b hb).1 (.inl h),(g1 b hb).2⟩
   ·exact h2 b hb
  ·rintro b (hb|hb)
   ·exact λh=>hb (.inl h)
   ·exact λh=>(g1 b h).1 (.inr hb)
  ·rintro b (hb|hb|hb)
   ·exact .inl (.inl hb)
   ·exact .inr hb
   ·exact .inl (.inr hb)
theorem Eo.Atj:∀{Y:List Mob} {A:Reg} {i:Nat} {m:Mob},Eo w A Y->Y[i]? =some m->∃o,m.holds o w/\∀b,o=some b-> ¬A b
 |_::_,A,0,m,⟨o,h1,h2,_⟩,h=>⟨o,by simp at h;exact h▸h1,λb hb=>(h2 b hb).1⟩
 |_::Y,A,i+1,m,⟨o,_,_,h3⟩,h=>by
  obtain⟨q,g1,g2⟩:=Eo.Atj h3 (i:=i) (by simpa using h);exact⟨q,g1,λb hb hA=>g2 b hb (.inl hA)⟩
theorem za{w:World}:MD.dead.Ng.holds none w:=⟨none,0,0,rfl,by simp,Alw _,λ_=>rfl,λ_=>rfl,λb h=>by cases h⟩
theorem II{i:Nat}:∀{l:List Nat},GM i l=true↔i∈l
 |[]=>by simp[GM]
 |j::l=>by
  simp only[GM,Atu,List.mem_cons,II (l:=l)];exact or_congr ⟨Ds,λh=>by subst h;simp⟩ Iff.rfl
theorem sO{f:Item->Item}(hf:f .dead= .dead):∀{l:List Item} {i:Nat},Dl (l.map f) i=f (Dl l i)
 |[],_=>by simp[Dl,hf]
 |_::_,0=>rfl
 |_::r,i+1=>by simpa [Dl]using sO hf (l:=r) (i:=i)
theorem kZ:∀{l:List Item} {i j:Nat},Dl l i= .dead->Dl (LG l j .dead) i= .dead
 |[],_,_,h=>by simpa [LG]using h
 |_::_,0,0,_=>rfl
 |_::_,0,j+1,h=>by simpa [LG,Dl]using h
 |_::_,i+1,0,h=>by simpa [LG,Dl]using h
 |_::r,i+1,j+1,h=>by simpa [LG,Dl]using kZ (l:=r) (i:=i) (j:=j) (by simpa [Dl]using h)
theorem iJ:∀{l:List Item} {i:Nat},Dl (LG l i .dead) i= .dead
 |[],_=>rfl
 |_::_,0=>rfl
 |_::r,i+1=>by simpa [LG,Dl]using iJ (l:=r) (i:=i)
theorem zX{i:Nat}:∀{is:List Nat} {s s':S},Dl s.it i= .dead->s.uV is=some s'->GM i is=false
 |[],_,_,_,_=>rfl
 |j::is,s,s',hd,h=>by
  simp only[S.uV]at h;split at h
  ·rename_i s1 h1;unfold S.kill at h1;split at h1
   ·rename_i E e l hj;cases h1;have hij:Nat.beq i j=false:=by
     cases hb:Nat.beq i j with
     |false=>rfl
     |true=>rw[Ds hb]at hd;rw[hd]at hj;cases hj
    have:Dl ((s.HB j .dead).sub j .any).it i= .dead:=by
     show Dl ((LG s.it j .dead).map _) i=_;rw[sO rfl,kZ hd];rfl
    simp[GM,hij,zX this h]
   ·cases h1
  ·cases h
theorem vg:∀{is:List Nat} {s s':S} {L:List MD},MemR B w L s σs σ-> (∀(i z:Nat) (E:TypeId) (v:Value) (c:List Value),L[i]? =some (.own z E v c)->v.oneCell'=true)->s.uV is=some s'->
  ∃L',MemR B w L' s' σs σ/\ (is=[]->L'=L)/\ (∀j,GM j is=false->L'[j]? =L[j]?)/\∀(A:Reg) (X:List Mob),Eo w A (X++L.map MD.Ng)->Eo w A (X++(is.map λi=>(L.getD i .dead).Ng)++L'.map MD.Ng)
 |[],s,s',L,hm,_,h=>by
  simp only[S.uV,Ab0]at h;subst h;exact⟨L,hm,λ_=>rfl,λ_ _=>rfl,λA X hX=>by simpa using hX⟩
 |i::is,s,s',L,hm,hone,h=>by
  simp only[S.uV]at h;split at h
  ·rename_i s1 h1;unfold S.kill at h1;split at h1
   ·rename_i E e l hi;cases h1;obtain⟨v,cs,hL,_⟩:=hm.arr hi;have hf:Frz B w L i .any:=⟨λz E' u c h=>⟨u,rfl,by rw[hL]at h;cases h;exact hone _ _ _ _ _ hL⟩,rfl,rfl⟩;have hm2:=hm.subst hf;have hlt:=(List.getElem?_eq_some_iff.1 hL).1;obtain⟨L',g1,g2,g3,g4⟩:=vg hm2 (λj z E v c hj=>by
     by_cases hji:j=i
     ·subst hji;rw[List.getElem?_set_self hlt]at hj;cases hj
     ·rw[List.getElem?_set_ne (Ayg hji)]at hj;exact hone _ _ _ _ _ hj) h
    refine⟨L',g1,(λe=>by cases e),λj hj=>?_,λA X hX=>?_⟩
    ·simp only[GM,Axp]at hj;rw[g3 j hj.2,List.getElem?_set_ne (λe=>by subst e;simp at hj)]
    ·have vH:(L.map MD.Ng)[i]? =some (L.getD i .dead).Ng:=by simp[hL,List.getD_eq_getElem?_getD]
     have hX1:Eo w A (MD.dead.Ng::(L.map MD.Ng).eraseIdx i++(X++[(L.getD i .dead).Ng])):=by
      have h1:Eo w A (MD.dead.Ng::(X++L.map MD.Ng)):=⟨none,za,λb hb=>(by cases hb),hX.PA λb hb=>hb.elim id λh=>by cases h⟩;refine h1.perm (.cons _ ?_);have hp:=(oL vH).symm;refine(List.Perm.append_left X hp).trans ?_;rw[show X++(L.getD i .dead).Ng::(L.map MD.Ng).eraseIdx i=(X++[(L.getD i .dead).Ng])++(L.map MD.Ng).eraseIdx i by simp];exact List.perm_append_comm
     have hX2:Eo w A ((X++[(L.getD i .dead).Ng])++(L.set i .dead).map MD.Ng):=by
      refine hX1.perm (List.perm_append_comm.trans (List.Perm.append_left _ ?_));rw[List.map_set];exact cH vH
     have:=g4 A _ hX2;have hni:GM i is=false:=zX (s:=(s.HB i .dead).sub i .any) (by
      show Dl ((LG s.it i .dead).map _) i=_;rw[sO rfl,iJ];rfl) h
     have he:(is.map λj=>((L.set i .dead).getD j .dead).Ng)=is.map λj=>(L.getD j .dead).Ng:=by
      refine Axz λj hj=>?_;have:j≠i:=λe=>by
       subst e;rw[II.2 hj]at hni;cases hni
      simp only[List.getD_eq_getElem?_getD,List.getElem?_set_ne (Ayg this)]
     rw[he]at this;simpa using this
   ·cases h1
  ·cases h
theorem Bc.noL:∀{e:ET} {x:e.T} {cs:List Value},e.D3=false->Bc B w e x cs->Bc B' w' e x cs
 | .int k,x,cs,_,h=>h
 | .bool,x,cs,_,h=>h
 | .str,x,cs,_,h=>h
 | .list e,l,cs,hL,h=>by cases hL
 | .vec m e,l,cs,hL,⟨h1,h2⟩=>⟨h1,h2.mono λx c h=>Bc.noL (e:=e) hL h⟩
 | .cons a q,x,cs,hL,⟨c1,c2,e,h1,h2⟩=>by
  simp only[ET.D3,Axp]at hL;exact⟨c1,c2,e,Bc.noL hL.1 h1,Bc.noL hL.2 h2⟩
 | .nil,_,cs,_,h=>h
theorem yH:∀{ls:List (ET×Option TypeId)} {vs:List PV},owns.go vs=[]->Zs ls vs=[]
 |[],_,_=>by unfold Zs;rfl
 |_::_,[],_=>by unfold Zs;rfl
 |(e,o)::ls,v::vs,h=>by
  simp only[owns.go,List.append_eq_nil_iff]at h;cases o<;>simp[Zs,h.1,yH h.2]
theorem Rel.out(hr:Rel Z s σs A L σ w){b:Nat}(hb:¬A b):Z.R b:=by
 rcases Axw b Z.w0.heap.size with hlt|hge
 ·have hold:=(hr.fact 1 (f:= .old Z.M Z.w0) rfl).2 b hlt;exact Z.mod b (Classical.byContradiction λhM=>hb (hold hM).1)
 ·exact Z.new b hge
theorem Anm{f:Nat}{caps:List PV}{as:Array Operand}{g:Operand}{ts:Array TypeId}{dn:Nat}{G:Prop}(hT:pT P T Z)(hI:iI P T.gl inl)(hr0:Rel Z s σs A L σ w)(hg:Gw s.sl g= .fn f caps)
  (hd:Nv n ⟨some dn, .call ⟨.value g,as,ts⟩,ty,pos,after,none⟩=true) (h:Acl P T inl s (some dn) f caps as.toList k=some r)
  (hG:G->∃c,T.get f=some c/\K0 (EP c.ps)=true/\ (yG c=false\/owns.go (as.toList.map (Gw s.sl))=[])):
  JQ P n ops ⟨some dn, .call ⟨.value g,as,ts⟩,ty,pos,after,none⟩ Z s σs k r G A L σ w:=by
 obtain⟨cvs,hgv,Aqm⟩:=Amw (Ei hr0.mem.sl hg rfl);have has:as=as.toList.toArray:=by simp
 have hxe:Ent P f->XE P σ w (.call ⟨.value g,as,ts⟩) f (as.toList.map (ev σ)++cvs).toArray:=λhe=>by
  have:=X.At8 (P:=P) (σ:=σ) (w:=w) (args:=as.toList) (ts:=ts) he hgv rfl;rw[<-has]at this;exact this
 unfold Acl at h;split at h
 ·rename_i c hc;have hcon:=hT.1 f c hc;split at h
  ·have hc0:cvs=[]:=Aqm;subst hc0;split at h
   ·cases h
   ·rename_i ls0 Avd;split at h
    ·cases h
    ·rename_i s1 hs1;obtain⟨A1,L1,hr,hsame⟩:∃A1 L1,Rel Z s1 σs A1 L1 σ w/\ (G->s1=s/\A1=A/\L1=L):=by
      split at hs1
      ·rename_i hro;obtain⟨A1,L1,h1,h2⟩:=Xb hr0 hs1;refine⟨A1,L1,h1,λg=>h2 ?_⟩;obtain⟨c',hc',_,h3⟩:=hG g;rw[hc]at hc';cases hc';rcases h3 with h3|h3
       ·rw[hro]at h3;cases h3
       ·exact yH (by rw[oF Avd];exact h3)
      ·cases hs1;exact⟨A,L,hr0,λ_=>⟨rfl,rfl,rfl⟩⟩
     cases hP:tq (as.toList.map (Gw s1.sl))with
     |false=>rw[hP]at h;cases h
     |true=>
     rw[hP]at h;simp only[Axn,Ayh]at h;try dsimp only[Dz]at h
     split at h
     ·cases h
     ·rename_i ls hls;cases Alx:(yG c&& !(Zs (EP c.ps) ls).isEmpty)with
      |true=>rw[Alx]at h;cases h
      |false=>
      rw[Alx]at h;dsimp only[Dz,cond]at h;split at h
      ·cases h
      ·rename_i x hx;split at h
       ·cases h
       ·rename_i is his;cases Asv:(!((Zs (EP c.ps) ls).all λi=>!GM i is))with
        |true=>rw[Asv]at h;cases h
        |false=>
        rw[Asv]at h;dsimp only[Dz,cond]at h;split at h
        ·cases h
        ·rename_i s2 hs2;obtain⟨y,hy,h⟩:=bind_some h;change (match iQ c.rs (Gz (EP c.rs) y s2).1 with|some vs=>k ((Gz (EP c.rs) y s2).2.Jk (some dn) (ni vs))|none=>none)=some r at h;have hpv:=vX hr.mem.sl _ hP;have hone:∀(i z:Nat) (E:TypeId) (v:Value) (c:List Value),L1[i]? =some (.own z E v c)->v.oneCell'=true:=λi z E v c hi=>by
          obtain⟨p,len,cap,rfl,_⟩:=hr.CQ hi;rfl
         obtain⟨L2,hm2,hnil,hget,Ave⟩:=vg hr.mem hone hs2;obtain⟨BX,hBX,hX,hY⟩:=Eo.split (Ave A1 [] (by simpa using St.mobs hr));have hr2:Rel Z s2 σs A1 L2 σ w:=Rel.as (h:=(⟨St.lt hr,hr.facts,hY.PA λ_ h=> .inl h⟩:St A1 w _ (L2.map MD.Ng))) (i:=1) rfl hm2 rfl;have hL0:Eo w (λb=>¬BX b) ((Qr L1 (EP c.ps) ls).map MD.Ng):=pF (N:=λ_=>True) his (by simpa using hX);have key:∀R0:Reg,(∀b,A1 b/\Z.R b->R0 b)-> (Zs (EP c.ps) ls=[]\/∀b,R0 b)-> (yG c=true->∀b,R0 b->A1 b/\Z.R b)->
           JQ P n ops ⟨some dn, .call ⟨.value g,as,ts⟩,ty,pos,after,none⟩ Z s σs k r G A L σ w:=by
          intro R0 h1 h2 h3;have hb1:∀b,A1 b/\Z.R b->R0 b/\ ¬BX b:=λb hb=>⟨h1 b hb,λhx=>(hBX b hx).1 hb.1⟩;obtain⟨Awo,e1,e2,e3,e4⟩:=O9 (B1:=λb=>R0 b/\ ¬BX b) hr hb1 (EP c.ps) ls x is ⟨[],[],[]⟩ [] (Qr L1 (EP c.ps) ls) hx his (λi hi z E v cc hLi=>by
           rcases h2 with h2|h2
           ·rw[h2]at hi;cases hi
           ·have hni:GM i is=false:=by
             have:=Asv;simp only[Bool.not_eq_false',List.all_eq_true,Asr]at this;exact this i hi
            have Awp:=(hget i hni).trans hLi;obtain⟨o,g1,g2⟩:=Eo.Atj hY (hr2.Ng Awp);exact(Go.Lv.CQ g1).step (λb hb=>⟨h2 b,λhx=>g2 b hb (.inr hx)⟩) (λ_ _=>rfl)) rfl rfl
          obtain⟨ps,h5,h6⟩:=rA hls hpv e3;have Apm:zu c.ps x=Awo:=by unfold zu;rw[e1];rfl
          have hcall:=hcon.ok R0 (λb=>¬BX b) w _ _ ps x y h5 (by rw[Apm];exact e2) (by rw[Apm];exact e4) hL0 h6 (λp hp=>by
           obtain⟨hA,T1,fr,hh⟩:=hr.Aiu (hT.2▸hp);exact⟨lt_of_heap hh,λhx=>(hBX _ hx).1 hA.1,T1,fr,hh⟩) hy
          have hxe':=hxe hcon.ent;rw[Apk]at hxe';refine WL.e (fK hd) hxe' hcall ?_;rintro e w' ⟨us,rfl,hk,A2,LL,hA2,hm3,hres⟩;refine⟨_,rfl,WL.nil ?_⟩;have hnew:∀b,A2 b->Z.R b:=λb hb=>by
           rcases(hA2 b hb).1 with h7|h7
           ·exact hr.out (hBX b (Classical.not_not.1 h7)).1
           ·refine Z.new b ?_;have h8:Z.w0.heap.size<=w.heap.size:=(hr.fact 1 (f:= .old Z.M Z.w0) rfl).1.le;omega
          obtain⟨ps',its,g1,g2,g3,g4,g5⟩:=hres s2 L2 (λb=>(A1 b\/A2 b)/\Z.R b) hr2.len.symm (λb hb=>⟨.inr hb,hnew b hb⟩) (λhro b hb=>by
           rcases hb with hb|⟨p,hp,rfl⟩
           ·exact⟨.inl (h3 hro b hb.1).1,(h3 hro b hb.1).2⟩
           ·exact⟨.inl (hr.Aiu (hT.2▸hp)).1.1,(hr.Aiu (hT.2▸hp)).1.2⟩)
          have hr':=Rel.Ahd hr2 hBX hY hk hA2 hm3 g4 g5;obtain⟨hv,hv'⟩:=xk g3;rw[g2]at h;refine⟨_,λb=>A1 b\/A2 b,L2++LL,h,?_,λgg=>?_⟩
          ·rw[g1];exact hr'.Jk (d:=some dn) hv hv'
          ·obtain⟨e1',e2',e3'⟩:=hsame gg;obtain⟨c',hc',hno,_⟩:=hG gg;rw[hc]at hc';cases hc';have Awr:=rI hno his;subst Awr;have Aws:s1=s2:=by simpa [S.uV]using hs2
           have Awt:=hnil rfl;subst Aws Awt e1' e2' e3';rw[g1];exact⟨λb hb=> .inl hb,λb hb=>hk.same b (St.lt hr b hb) λhx=>(hBX b hx).1 hb,⟨LL,rfl⟩,⟨its,rfl⟩⟩
         cases hro':yG c with
         |true=>
          refine key (λb=>A1 b/\Z.R b) (λ_ h=>h) (.inl ?_) (λ_ _ h=>h);rw[hro']at Alx;simp only[Awg,Bool.not_eq_false']at Alx;exact isEmpty_nil Alx
         |false=>exact key (λ_=>True) (λ_ _=>trivial) (.inr λ_=>trivial) (λh=>by rw[hro']at h;cases h)
  ·cases h
 ·rename_i hn;obtain⟨hP,h⟩:=Bj h;have hpv:=Jd.append (vX hr0.mem.sl _ hP) Aqm;obtain⟨he,hcall⟩:=hI Z hT.2 f _ s _ r σs A L σ w _ h hr0 hpv;refine WL.e (fK hd) (hxe he) hcall ?_;rintro e w' ⟨v,p,s',A',L',rfl,hk,hr',hv,hv'⟩;refine⟨_,rfl,WL.nil ⟨_,A',L',hk,hr'.Jk (d:=some dn) hv hv',λgg=>?_⟩⟩;obtain⟨c,hc,_⟩:=hG gg;rw[hn]at hc;cases hc
end Go.Rx
namespace Go.Rx
open Go Go.Lv
variable {P:Program} {B B':Reg} {w w':World} {L L':List MD} {s:S} {σs:List Env} {σ:Env} {Z:Fix} {A A':Reg} {n:Nat} {ops:Array Oper}
variable {R:Type} {k:S->Option R} {r:R} {d:Option Nat} {ty:TypeId} {pos:String} {after:Array Edge} {T:Tab} {inl:Y7 R}
theorem ZR{l:List Oper}{K K':Env->World->Prop}(h:WL P n ops l K σ w)(hk:∀σ w,K σ w->K' σ w):WL P n ops l K' σ w:=by
 have:=WL.cut (rest:=[]) K l h (λσ w h=>WL.nil (hk σ w h));rwa [Apk]at this
theorem I9{cs:Array Value}{v:PV}(h:nZ P ty (.agg cs)=some v)(hA:v.isA=true):v.isV=true/\Gs B w L v (.agg cs):=by
 have h1:=nS (B:=B) (w:=w) (L:=L) h;have h2:Mc B w L v (.agg cs):=by
  unfold Mc;rw[hA];exact⟨cs.toList,by simp,h1⟩
 exact Of h2
theorem V1{a:Option R}:∀{l:List (Option R)},both a l=some r->a=some r/\∀b∈l,b=some r
 |[],h=>⟨h,by simp⟩
 |b::l,h=>by
  unfold both at h;split at h
  ·rename_i hab;obtain⟨h1,h2⟩:=V1 h;exact⟨h1,λc hc=>by
    rcases List.mem_cons.1 hc with rfl|hc
    ·exact hab▸h1
    ·exact h2 c hc⟩
  ·cases h
theorem Anx{α:Type}{l:List α}{a b:Option R}(h:wJ l a b=some r):b=some r/\ (l=[]->a=some r):=by
 cases l with
 |nil=>
  obtain⟨h1,h2⟩:=V1 h;exact⟨h2 _ (.head _),λ_=>h1⟩
 |cons x l=>exact⟨h,λe=>by cases e⟩
theorem rV{o:BinOp}{t e t':TypeId}{x y:Operand}{q:Bool}{p:Option Addr}{l c:Nat}(h:yL o=some q)(ht:P.underlying t=some (.slice e))(hx:ev σ x= .slice p l c)(hy:ev σ y= .slice none 0 0):
  XO P σ w (.binOp o t x y t') (.bool (p.isNone==q)):=by
 cases o<;>simp only[yL,Ab0,reduceCtorEq]at h<;>subst h
 ·have:=X.bin (w:=w) (t':=t') hx hy (Bin.Aof ht p l c);simpa using this
 ·have:=X.bin (w:=w) (t':=t') hx hy (Bin.Amd ht p l c);cases p<;>simpa using this
theorem elem_nil{B:Reg}{e:ET}{l:List e.T}(hz:Nat.ble 1 e.size=true)(h:Cv (Bc B w e) l []):l=[]:=by
 have h1:=Cv.len (λx c h=>Bc.len h) h;have h2:1<=e.size:=by simpa using hz
 cases l with
 |nil=>rfl
 |cons a l=>
  simp only[As0,List.length_nil]at h1;have:0<(l.length+1)*e.size:=Nat.mul_pos (by omega) (by omega);omega
theorem Akm{o:BinOp}{t t':TypeId}{x y:Operand}{a:PV}{dn:Nat}{G:Prop}(hr:Rel Z s σs A L σ w)(hd:Nv n ⟨some dn, .binOp o t x y t',ty,pos,after,none⟩=true)(hx:Gw s.sl x=a)(hy:Gw s.sl y= .nils)
  (h:Ajk P s dn o t a k=some r):JQ P n ops ⟨some dn, .binOp o t x y t',ty,pos,after,none⟩ Z s σs k r G A L σ w:=by
 have hm:=hr.mem;have hy':=OT (Ei hm.sl hy rfl);unfold Ajk at h;split at h
 ·rename_i q e hq ht;have main:∀{α:Type} {l:List α} {p:Option Addr} {len c:Nat},ev σ x= .slice p len c-> (p=none->l=[])->wJ l (k (s.set dn (.b q))) (k (s.set dn (.b (!q))))=some r->JQ P n ops ⟨some dn, .binOp o t x y t',ty,pos,after,none⟩ Z s σs k r G A L σ w:=by
   intro α l p len c hv hp h;obtain⟨h1,h2⟩:=Anx h;cases hn:p.isNone with
   |true=>
    have hk:=h2 (hp (by simpa using hn));have hxo:=rV (w:=w) (t':=t') hq ht hv hy';rw[hn]at hxo;have hb:(true==q)=q:=by cases q<;>rfl
    rw[hb]at hxo;exact Fp (p:= .b q) hr hd hxo rfl rfl hk
   |false=>
    have hxo:=rV (w:=w) (t':=t') hq ht hv hy';rw[hn]at hxo;have hb:(false==q)=!q:=by cases q<;>rfl
    rw[hb]at hxo;exact Fp (p:= .b (!q)) hr hd hxo rfl rfl h1
  split at h
  ·have hv:=OT (Ei hm.sl hx rfl);have hxo:=rV (w:=w) (t':=t') hq ht hv hy';have hb:((none:Option Addr).isNone==q)=q:=by cases q<;>rfl
   rw[hb]at hxo;exact Fp (p:= .b q) hr hd hxo rfl rfl h
  ·split at h
   ·obtain⟨hz,h⟩:=Bj h;obtain⟨c0,h1,h2⟩:=IH (Ei hm.sl hx rfl);have h1':=h1;obtain⟨p,len,cap,hv,h3,h4,h5,h6⟩:=h1;refine main hv (λhp=>?_) h;subst hp;have:c0=[]:=Go.Lv.Rd.yg (by rw[<-hv];exact h1');subst this;have:=h5 rfl;exact elem_nil hz h2
   ·cases h
  ·rename_i i;split at h
   ·rename_i E e' l hi;obtain⟨hz,h⟩:=Bj h;obtain⟨v,cs,h1,h2⟩:=hm.arr hi;obtain⟨z,E',c0,h3⟩:=RZ (Ei hm.sl hx rfl);rw[h1]at h3;cases h3;have hrd:=hr.CQ h1;have h1':=hrd;obtain⟨p,len,cap,hv,h4,h5,h6,h7⟩:=hrd;refine main hv (λhp=>?_) h;subst hp;have:cs=[]:=Go.Lv.Rd.yg (by rw[<-hv];exact h1');subst this;exact elem_nil hz h2
   ·cases h
  ·cases h
 ·cases h
theorem Aaj{i b off:Nat}{md:MD}{ns:List Value}{F:List Fact}(hr:St A w F (L.map MD.Ng))(h:L[i]? =some md)(hb:md.base=some b)(h1:ns.all (·.oneCell')=true)(hle:off+ns.length<=md.cells.length)(hz:0<ns.length):
  ∃w' md',(storeCells ⟨b,off,none⟩ ns).run P w= .ok () w'/\St A w' F ((L.map MD.Ng).set i md'.Ng)/\GC off ns md md':=by
 cases md with
 |dead=>cases hb
 |box b' cells T=>
  cases hb;have hL:(L.map MD.Ng)[i]? =some (Mob.box b cells T):=U2 h;have hr':=Jp (P:=P) b T (0,0) ns off 0 cells w (hr.box hL) (by simpa [MD.cells]using hle) (.inr (.inr (Alw _))) (λv hv=>by simpa using List.all_eq_true.1 h1 v hv);simp only[Aw2]at hr';exact⟨_, .box b (Bs cells off ns) T,hr',hr.Ajm hL,rfl⟩
 |own z' E u cs=>
  obtain⟨b',m,c,hu,hs'⟩:=St.W7 hr (U2 h) (by simp[MD.cells]at hle;omega);subst hu;cases hb;have hlen:i<(L.map MD.Ng).length:=by simpa using(List.getElem?_eq_some_iff.1 h).1
  have hL:((L.map MD.Ng).set i (.at_ b z' E m c cs))[i]? =some (.at_ b z' E m c cs):=by rw[List.getElem?_set_self hlen]
  have hle':off+ns.length<=cs.length:=hle;have hcore:∃w',(storeCells ⟨b,off,none⟩ ns).run P w= .ok () w'/\St A w' F (((L.map MD.Ng).set i (.at_ b z' E m c cs)).set i (.at_ b z' E m c (Bs cs off ns))):=by
   obtain⟨o,ho,_,_⟩:=(hs'.front hL).mobs;obtain⟨rfl,ho⟩:=ho;have ho':=ho;obtain⟨_,len,cap,e,h3,h4,h5,h5',h6⟩:=ho;cases e;obtain⟨arr,fr,e,hbb,hsz',hfz,hcells⟩:=h6 b rfl;have hcl:cs.length<=arr.size:=by rw[h3,hsz'];exact Ab5 _ h4
   have hr':=Jp (P:=P) b E fr ns off 0 arr.toList w (by simpa using hbb) (by simp;omega) (by simp;rcases hfz with h|h;exact .inr (.inr (Nat.le_of_eq h.symm));exact .inr (.inl h)) (λv hv=>by simpa using List.all_eq_true.1 h1 v hv);simp only[Aw2]at hr';have hbl:=lt_of_heap hbb;have hcs':(Bs cs off ns).length=cs.length:=Hn (by omega);have hget:∀i,i<m*z'-> (Bs arr.toList off ns)[i]? =(Bs cs off ns)[i]? :=λi hi=>by
    have Alu:min off arr.toList.length=off:=by simp;omega
    have Alv:min off cs.length=off:=by omega
    simp only[Bs,List.getElem?_append,Al5,Alu,Alv,List.getElem?_take,List.getElem?_drop];by_cases g1:i<off
    ·rw[Aae g1,Aae g1,Aae g1,Aae g1];simpa using hcells i hi
    ·rw[Aaa g1,Aaa g1];by_cases g2:i-off<ns.length
     ·rw[Aae g2,Aae g2]
     ·rw[Aaa g2,Aaa g2];have e1:off+ns.length+(i-off-ns.length)=i:=by omega
      rw[e1];simpa using hcells i hi
   refine⟨_,hr',hs'.iZ hL (b:=b) ⟨rfl,ho'⟩ ⟨rfl,_,m,c,rfl,by rw[hcs',h3],h4,h5,h5',λb' hb'=>?_⟩ ?_⟩
   ·cases hb';refine⟨(Bs arr.toList off ns).toArray,fr,rfl,by simp[Hr,hbl],?_,?_,λi hi=>?_⟩
    ·simp only[Avm];rw[Hn (by simp;omega)];simpa using hsz'
    ·simp only[Avm];rw[Hn (by simp;omega)];simpa using hfz
    ·simpa using hget i hi
   ·rintro⟨q,hq,q1,q2⟩;exact⟨q,hq,q1,q2,hq.1⟩
  obtain⟨w',g1,g2⟩:=hcore;have hs3:=g2.Atw (i:=i) (b:=b) (s:=z') (m:=m) (c:=c) (E:=E) (cs:=Bs cs off ns) (by rw[List.getElem?_set_self (by simpa using hlen)]);rw[List.set_set,List.set_set]at hs3;exact⟨w', .own z' E (.slice (some ⟨b,0,none⟩) m c) (Bs cs off ns),g1,hs3,rfl⟩
structure SrcW (P:Program) (w:World) (vy:Value) (z ly:Nat) (ys:List Value):Prop where
 len:(Builtin.lenOf vy).run P w= .ok ly w
 first:∀m,m<=ly-> (Builtin.firstCells z m vy).run P w= .ok (ys.take (m*z)).toArray w
theorem SrcW.rd{vy:Value}{z ly:Nat}{ys:List Value}(h:Rd (λ_=>True) w z vy ys)(hl:ys.length=ly*z)(hz:0<z):SrcW P w vy z ly ys:=by
 obtain⟨p,len,cap,rfl,h2,h3,h4,h5⟩:=h;have he:len=ly:=Apr hz (h2.symm.trans hl);subst he;refine⟨rfl,λm hm=>?_⟩;cases p with
 |none=>
  have:m=0:=by have:=h4 rfl;omega
  subst this;simp[Builtin.firstCells]
 |some a=>
  have hlen:(ys.take (m*z)).length=m*z:=by
   rw[Al5,h2];have:=Ab5 z hm;omega
  simp only[Builtin.firstCells];by_cases hc:0<cap
  ·obtain⟨b,off,arr,T,fr,e1,_,e2,_,e4⟩:=h5 hc;cases e1;have:=Qc (P:=P) (w:=w) (b:=b) (off:=off) (ys.take (m*z)) (λi hi=>by
    rw[hlen]at hi;have h6:i<len*z:=Aqa hi (Ab5 z hm);rw[cell_of e2,e4 i h6,List.getElem?_take,Aae hi])
   rw[hlen]at this;exact this
  ·have:m=0:=by omega
   subst this;simp[loadCells,loadCellsFrom]
theorem SrcW.str{l:List UInt8}:SrcW P w (sv l) 1 l.length (NB (k:= .u8) l):=by
 refine⟨by simp[Builtin.lenOf,ByteArray.size],λm hm=>?_⟩;simp only[Builtin.firstCells,nV,Aqe];congr 1;simp[NB,List.map_take];rfl
theorem Q3{e:ET}{t2:TypeId}{y:Operand}{m:List e.T}(hr:Rel Z s σs A L σ w)(hz:0<e.size)(h:Akd P s e t2 y=some m):∃ys,Cv (Bc (λb=>A b/\Z.R b) w e) m ys/\SrcW P w (ev σ y) e.size m.length ys:=by
 have hm:=hr.mem;have plain:elems s e (Gw s.sl y)=some m->∃ys,Cv (Bc (λb=>A b/\Z.R b) w e) m ys/\SrcW P w (ev σ y) e.size m.length ys:=by
  intro h;have hV:(Gw s.sl y).isV=true:=by
   cases hq:(Gw s.sl y).isV with
   |true=>rfl
   |false=>rcases IM hq with h'|h'|⟨_,_,_,h'⟩<;>rw[h']at h<;>cases h
  obtain⟨c0,h1,h2⟩:=pW hm h (Ze hm.sl y hV);have hrd:Rd (λ_=>True) w e.size (ev σ y) c0:=by
   rcases h2 with h2|⟨j,E',u,cs',_,h2,hpart⟩
   ·exact h2.step (λ_ _=>trivial) (λ_ _=>rfl)
   ·exact hpart _ _ (hr.CQ h2)
  exact⟨c0,h1, .rd hrd (h1.len λx c h=>Bc.len h) hz⟩
 unfold Akd at h;split at h
 ·split at h
  ·rename_i m0 hy;unfold kV at h;split at h
   ·rename_i he;cases he;cases h;rw[BD hm.sl hy];exact⟨NB m0,Aa4.WA, .str⟩
   ·cases h
  ·cases h
 ·unfold Ail at h;split at h
  ·rename_i i p e1 lo n' hy;split at h
   ·rename_i T v hi;split at h
    ·rename_i a x hg;split at h
     ·rename_i q a l;obtain⟨hb,h⟩:=Bj h;simp only[Aag,Aaf]at hb;obtain⟨⟨k1,k2,k3⟩,rfl⟩:=hb;split at h
      ·rename_i ha;subst ha;cases h;obtain⟨md,v1,h3,h4,g1,g2,⟨pt,cap,g3,g4,g5,g6⟩,_⟩:=Ei hm.sl hy rfl;have h6:ev σ y=v1:=by simpa using h4
       obtain⟨b,cells,h7,h8⟩:=hm.box hi;rw[h7]at h3;cases h3;obtain⟨c1,c2,c3,he,h9,h10,h11⟩:=fQ hg h8;have nN:=h11.len λx c h=>Bc.len h;obtain⟨lo',rfl⟩:=Aj8 k1;obtain⟨n1,rfl⟩:=Aj8 k2;simp only[Al6]at g3 g4 g6;have hq:lo'+n1<=l.length:=by rw[h10];omega
       have hsub:(cC l lo' n1).length=n1:=by simp[cC];omega
       have e5:lo'*a.size+n1*a.size<=l.length*a.size:=by rw[<-Ara];exact Ab5 _ hq
       refine⟨(c2.drop (lo'*a.size)).take (n1*a.size),Cv.take (λx c h=>Bc.len h) _ (Cv.drop (λx c h=>Bc.len h) _ h11),?_,λm hm'=>?_⟩
       ·rw[h6,g3,hsub];rfl
       ·rw[hsub]at hm';rw[h6,g3];have hml:m*a.size<=n1*a.size:=Ab5 _ hm';cases pt with
        |none=>
         have:m=0:=by have:=g5 rfl;omega
         subst this;simp[Builtin.firstCells]
        |some ad=>
         simp only[Builtin.firstCells];by_cases hc:0<cap
         ·obtain⟨bb,e1,e2⟩:=g6 hc;cases e1;cases e2;have hlen3:(((c2.drop (lo'*a.size)).take (n1*a.size)).take (m*a.size)).length=m*a.size:=by
           simp only[Al5,Ahp,nN];omega
          have:=Qc (P:=P) (w:=w) (b:=b) (off:=Be p+lo'*a.size) (((c2.drop (lo'*a.size)).take (n1*a.size)).take (m*a.size)) (λi hi=>by
           rw[hlen3]at hi;have hcl:Be p+lo'*a.size+i<(MD.box b cells T).cells.length:=by
            simp only[MD.cells,he,Aai,h9,nN];omega
           rw[hr.cells h7 rfl _ hcl];simp only[MD.cells];rw[he,List.getElem?_append_right (by omega),h9,show Be p+lo'*a.size+i-Be p=lo'*a.size+i by omega,List.getElem?_append_left (by rw[nN];omega),
            List.getElem?_take,Aae hi,List.getElem?_take,Aae (by omega),List.getElem?_drop])
          rw[hlen3]at this;exact this
         ·have:m=0:=by omega
          subst this;simp[loadCells,loadCellsFrom]
      ·cases h
     ·cases h
    ·cases h
   ·cases h
  ·exact plain h
 ·cases h
theorem tQ(cs:List Value)(o:Nat):Bs cs o []=cs:=by simp[Bs]
theorem ou{t t2 E:TypeId}{vx vy:Value}{z ly nv H9 off i:Nat}{pt:Option Addr}{ys:List Value}{md:MD}{F:List Fact}(ht:P.underlying t=some (.slice E))(hsz:Md P E z)(hsrc:SrcW P w vy z ly ys)(hys:ys.length=ly*z)(h1:ys.all (·.oneCell')=true)
  (hr:St A w F (L.map MD.Ng)) (h:L[i]? =some md) (hne:md≠ .dead) (hx:vx= .slice pt nv H9) (hcap:nv<=H9) (hpt:pt=none->H9=0) (hb:0<H9->∃b,md.base=some b/\pt=some ⟨b,off,none⟩) (hle:off+nv*z<=md.cells.length) (hz:0<z):
  ∃w' md',(Builtin.copy_ #[t,t2] ty #[vx,vy]).run P w= .ok (goInt (Nat.min ly nv)) w'/\St A w' F ((L.map MD.Ng).set i md'.Ng)/\GC off (ys.take (nv*z)) md md':=by
 subst hx;have hmin:Nat.min ly nv<=ly:=Nat.min_le_left _ _;have Y3:=hsrc.first _ hmin
 have htake:ys.take (Nat.min ly nv*z)=ys.take (nv*z):=by
  rcases Ax6 ly nv with h'|h'
  ·rw[show Nat.min ly nv=ly from As8 h',<-hys,Atb,Avq (by rw[hys];exact Ab5 z h')]
  ·rw[show Nat.min ly nv=nv from Aw8 h']
 rw[htake]at Y3;have hmul:Nat.min ly nv*z<=nv*z:=Ab5 z (Nat.min_le_right _ _);have hlen:(ys.take (nv*z)).length=Nat.min ly nv*z:=by
  rw[<-htake,Al5,hys];have:=Ab5 z hmin;omega
 have hnone:(ys.take (nv*z))=[]->∃w' md',(Builtin.copy_ #[t,t2] ty #[.slice pt nv H9,vy]).run P w= .ok (goInt (Nat.min ly nv)) w'/\St A w' F ((L.map MD.Ng).set i md'.Ng)/\GC off (ys.take (nv*z)) md md':=by
  intro he;refine⟨w,md,?_,?_,?_⟩
  ·rw[he]at Y3;cases pt<;>simp[Builtin.copy_,Agl ht,hsrc.len,Cj hsz,Y3,storeCells]
  ·rw[List.getElem?_eq_some_iff]at h;obtain⟨hlt,h⟩:=h;have:(L.map MD.Ng).set i md.Ng=L.map MD.Ng:=by
    rw[<-List.map_set,<-h,List.set_getElem_self]
   rw[this];exact hr
  ·rw[he];cases md with
   |dead=>exact absurd rfl hne
   |box b c T=>simp only[GC,tQ]
   |own z' E' v c=>simp only[GC,tQ]
 by_cases he:(ys.take (nv*z))=[]
 ·exact hnone he
 ·have hpos:0<(ys.take (nv*z)).length:=List.length_pos_iff.2 he;have hm0:0<Nat.min ly nv:=by
   rcases Nat.eq_zero_or_pos (Nat.min ly nv)with h'|h'
   ·rw[hlen,h']at hpos;simp at hpos
   ·exact h'
  have hnv:0<nv:=Aqa hm0 (Nat.min_le_right _ _);obtain⟨b,e1,e2⟩:=hb (by omega);subst e2;obtain⟨w',md',g1,g2,g3⟩:=Aaj (P:=P) (off:=off) hr h e1 (ns:=ys.take (nv*z)) (List.all_eq_true.2 λv hv=>List.all_eq_true.1 h1 v (Axq hv)) (by rw[hlen];omega) hpos;refine⟨w',md',?_,g2,g3⟩;simp[Builtin.copy_,Agl ht,hsrc.len,Cj hsz,Y3,g1]
theorem uo(nv k:Nat):XP (nv:Int) k=((Nat.min k nv:Nat):Int):=by
 unfold XP;rcases Axw k nv with h|h
 ·rw[Aae (by omega),show Nat.min k nv=k from As8 (by omega)]
 ·rw[Aaa (by omega),show Nat.min k nv=nv from Aw8 h]
theorem wW{B:Reg}{e:ET}{l m:List e.T}{cs ys:List Value}{lo nv:Nat}(hl:Cv (Bc B w e) l cs)(hm:Cv (Bc B w e) m ys):Cv (Bc B w e) (Zf l lo nv m) (Bs cs (lo*e.size) (ys.take (nv*e.size))):=by
 have h1:=Cv.take (λx c h=>Bc.len h) nv hm;have h2:=h1.len λx c h=>Bc.len h;have h3:=Cv.take (λx c h=>Bc.len h) lo hl;have h4:=Cv.drop (λx c h=>Bc.len h) (lo+(m.take nv).length) hl;unfold Zf Bs;simp only[Al6];refine Cv.append h3 (Cv.append h1 ?_);rw[h2,<-Ara];exact h4
theorem Ahy{α:Type}(l m:List α):D4 l m=Zf l ((0:Nat):Int) ((l.length:Nat):Int) m:=by
 unfold D4 Zf;simp only[Al6,Avn,Apz,Avg,Al5];congr 1;rcases Ax6 m.length l.length with h|h
 ·rw[Aw8 h]
 ·rw[As8 h,Ax4 (Alw _),Ax4 h]
theorem iq{t t2 E E':TypeId}{x y:Operand}{e:ET}{l m:List e.T}{ys cs:List Value}{u:Value}{lo nv H9 i:Nat}{pt:Option Addr}{ow:Option Nat}(hr:Rel Z s σs A L σ w)(hd:Nv n ⟨ow, .call ⟨.builtin .copy, #[x,y], #[t,t2]⟩,ty,pos,after,none⟩=true)
  (ht:P.underlying t=some (.slice E)) (hsz:Md P E e.size) (hz:0<e.size) (hit:Dl s.it i= .arr E' e l) (hL:L[i]? =some (.own e.size E' u cs)) (hl:Cv (Bc (λb=>A b/\Z.R b) w e) l cs) (hm:Cv (Bc (λb=>A b/\Z.R b) w e) m ys) (hsrc:SrcW P w (ev σ y) e.size m.length ys)
  (hx:ev σ x= .slice pt nv H9) (hcap:nv<=H9) (hpt:pt=none->H9=0) (hb:0<H9->∃b,(MD.own e.size E' u cs).base=some b/\pt=some ⟨b,lo*e.size,none⟩) (hle:lo+nv<=l.length)
  (hk:k ((s.HB i (.arr E' e (Zf l lo nv m))).Jk ow (.i .i64 (XP (nv:Int) m.length)))=some r):JQ P n ops ⟨ow, .call ⟨.builtin .copy, #[x,y], #[t,t2]⟩,ty,pos,after,none⟩ Z s σs k r False A L σ w:=by
 have hcl:=hl.len λx c h=>Bc.len h;have hyl:=hm.len λx c h=>Bc.len h;have hF:=St.qL (f:=xK Z.R L (.arr E' e (Zf l lo nv m)) (Bs cs (lo*e.size) (ys.take (nv*e.size)))) hr (wW hl hm);obtain⟨w',md',g1,g2,g3⟩:=ou (P:=P) (ty:=ty) (t2:=t2) (off:=lo*e.size) ht hsz hsrc hyl hm.U9 hF hL (by intro h;cases h) rfl hcap hpt hb (by
  show lo*e.size+nv*e.size<=cs.length;rw[hcl,<-Ara];exact Ab5 _ hle) hz
 simp only[GC]at g3;subst g3;have key:=gV.own (cs':=Bs cs (lo*e.size) (ys.take (nv*e.size))) hL;have hr2:=Rel.change (a:= .arr E' e (Zf l lo nv m)) g2.uE hL key ⟨rfl,rfl,g2.fact 0 rfl⟩;refine WL.Abz (v:=goInt (Nat.min m.length nv)) rfl hd ?_ (WL.nil ⟨_,A,_,hk,hr2.Jk rfl ?_,λh=>h.elim⟩)
 ·simp[execOp,resolve,invoke,builtin,hx,g1]
 ·rw[uo];rfl
theorem Ad7{t t2:TypeId}{x y:Operand}{ow:Option Nat}(hr:Rel Z s σs A L σ w)(hd:Nv n ⟨ow, .call ⟨.builtin .copy, #[x,y], #[t,t2]⟩,ty,pos,after,none⟩=true)
  (h:S8 P s ow x y t t2 k=some r):JQ P n ops ⟨ow, .call ⟨.builtin .copy, #[x,y], #[t,t2]⟩,ty,pos,after,none⟩ Z s σs k r False A L σ w:=by
 have hmm:=hr.mem;unfold S8 at h;split at h
 ·cases h
 ·rename_i E hE;have ht:=lR hE;split at h
  ·cases h
  ·rename_i inf BO;split at h
   ·rename_i i hx;split at h
    ·rename_i E' e l hit;obtain⟨hb,h⟩:=Bj h;simp only[Aag]at hb;have hz:0<e.size:=by have:=As9 hb.2;omega
     split at h
     ·rename_i m hsrc;obtain⟨ys,h1,h2⟩:=Q3 hr hz hsrc;obtain⟨u,cs,h3,h4⟩:=hmm.arr hit;obtain⟨z',E2,c',h5⟩:=RZ (Ei hmm.sl hx rfl);rw[h3]at h5;cases h5;obtain⟨q,len,cap,g1,g2,g3,g4,g5⟩:=hr.Arv h3;have hl:len=l.length:=Apr hz (g2.symm.trans (h4.len λx c h=>Bc.len h));rw[Ahy]at h;exact iq (lo:=0) (nv:=l.length) (ys:=ys) hr hd ht (Gx BO hb.1) hz hit h3 h4 h1 h2 (by rw[g1,hl]) (by omega) g4 (λhc=>by obtain⟨b,e1,e2⟩:=g5 hc;exact⟨b,e2,by rw[e1];simp⟩) (by omega) h
     ·cases h
    ·cases h
   ·rename_i i p e1 lo n' hx;split at h
    ·rename_i E' e l hit;obtain⟨hb,h⟩:=Bj h;simp only[Aag,Aaf]at hb;obtain⟨⟨hb1,hb2⟩,rfl⟩:=hb;have hz:0<e1.size:=by have:=As9 hb2;omega
     split at h
     ·rename_i m hsrc;obtain⟨ys,h1,h2⟩:=Q3 hr hz hsrc;obtain⟨u,cs,h3,h4⟩:=hmm.arr hit;obtain⟨md,v1,h5,h6,k1,k2,⟨pt,cap,k3,k4,k5,k6⟩,k7,_⟩:=Ei hmm.sl hx rfl;rw[h3]at h5;cases h5;have h7:ev σ x=v1:=by simpa using h6
      obtain⟨lo',rfl⟩:=Aj8 k1;obtain⟨n1,rfl⟩:=Aj8 k2;simp only[Al6]at k3 k4 k6 k7;obtain⟨s',E2,q,len,cap0,c0,e1',rfl,e3,_⟩:=k7 trivial;cases e1';obtain⟨q',len',cap',g1,g2,_⟩:=hr.Arv h3;cases g1;have hl:len=l.length:=Apr hz (g2.symm.trans (h4.len λx c h=>Bc.len h));exact iq (lo:=lo') (nv:=n1) (ys:=ys) hr hd ht (Gx BO hb1) hz hit h3 h4 h1 h2 (h7.trans k3) k4 k5 (λhc=>by obtain⟨b,e4,e5⟩:=k6 hc;exact⟨b,e4,by rw[e5];simp[Be]⟩) (by omega) h
     ·cases h
    ·cases h
   ·rename_i i p e1 lo n' hx;split at h
    ·rename_i T v hit;split at h
     ·rename_i a0 x0 hg;split at h
      ·rename_i q e l;obtain⟨hb,h⟩:=Bj h;simp only[Aag,Aaf]at hb;obtain⟨⟨⟨hb1,hb2⟩,rfl⟩,k1,k2,k3⟩:=hb;have hz:0<e1.size:=by have:=As9 hb2;omega
       split at h
       ·rename_i m hsrc;obtain⟨ys,h1,h2⟩:=Q3 hr hz hsrc;obtain⟨md,v1,h5,h6,_,_,⟨pt,cap,g3,g4,g5,g6⟩,_⟩:=Ei hmm.sl hx rfl;have h7:ev σ x=v1:=by simpa using h6
        obtain⟨b,cells,h8,h9⟩:=hmm.box hit;rw[h8]at h5;cases h5;obtain⟨c1,c2,c3,he,h10,h11,h12⟩:=fQ hg h9;have nN:=h12.len λx c h=>Bc.len h;have hyl:=h1.len λx c h=>Bc.len h;obtain⟨lo',rfl⟩:=Aj8 k1;obtain⟨n1,rfl⟩:=Aj8 k2;simp only[Al6]at g3 g4 g6;have hq:lo'+n1<=l.length:=by rw[h11];omega
        have e5:lo'*e1.size+n1*e1.size<=l.length*e1.size:=by rw[<-Ara];exact Ab5 _ hq
        have hk1:=Cv.take (λx c h=>Bc.len h) n1 h1;have hk2:=hk1.len λx c h=>Bc.len h;have hk3:(ys.take (n1*e1.size)).length<=n1*e1.size:=by rw[Al5];omega
        have hcp:=wW (lo:=lo') (nv:=n1) h12 h1;have Avf:(Bs c2 (lo'*e1.size) (ys.take (n1*e1.size))).length=c2.length:=Hn (by rw[nN];omega);have Awu:Bt (λb=>A b/\Z.R b) w L (.val (.vec q e1) (Zf l lo' n1 m)) (Bs c2 (lo'*e1.size) (ys.take (n1*e1.size))):=by
         refine⟨?_,hcp⟩;have:=hcp.len λx c h=>Bc.len h;rw[Avf,nN]at this;rw[<-h11];exact(Apr hz this).symm
        obtain⟨v',hk,_,hv'⟩:=pI Awu h h9;have hcells:Bs cells (Be p) (Bs c2 (lo'*e1.size) (ys.take (n1*e1.size)))=Bs cells (Be p+lo'*e1.size) (ys.take (n1*e1.size)):=by
         rw[he,bE h10 _ (by rw[nN];omega),<-h10,dO Avf]
        rw[hcells]at hv';have hF:=St.qL (f:=xK Z.R L (.box T v') (Bs cells (Be p+lo'*e1.size) (ys.take (n1*e1.size)))) hr hv';obtain⟨w',md',g1,g2,g3'⟩:=ou (P:=P) (ty:=ty) (t2:=t2) (off:=Be p+lo'*e1.size) ht (Gx BO hb1) h2 hyl h1.U9 hF h8 (by intro h;cases h) rfl g4 g5 (λhc=>by obtain⟨b,e4,e5⟩:=g6 hc;exact⟨b,e4,e5⟩) (by
         show Be p+lo'*e1.size+n1*e1.size<=cells.length;rw[he];simp only[Aai,h10,nN];omega) hz
        simp only[GC]at g3';subst g3';have key:=gV.box (cs':=Bs cells (Be p+lo'*e1.size) (ys.take (n1*e1.size))) h8;have hr2:=Rel.change (a:= .box T v') g2.uE h8 key ⟨rfl,Bt.step (λ_ h=>h) (λ_ _=>rfl) key (g2.fact 0 rfl)⟩;refine WL.Abz (v:=goInt (Nat.min m.length n1)) rfl hd ?_ (WL.nil ⟨_,A,_,hk,hr2.Jk rfl ?_,λh=>h.elim⟩)
        ·rw[<-g3,<-h7]at g1;simp[execOp,resolve,invoke,builtin,g1]
        ·rw[uo];rfl
       ·cases h
      ·cases h
     ·cases h
    ·cases h
   ·cases h
theorem xB{g:Nat}{cs:List Value}:∀{l:List (Nat×List Value)},Ams l g=some cs-> (g,cs)∈l
 |[],h=>by cases h
 |(q,c)::r,h=>by
  simp only[Ams]at h;cases hb:Nat.beq q g with
  |true=>
   rw[hb]at h;have:=Ds hb;subst this;cases h;exact .head _
  |false=>rw[hb]at h;exact .tail _ (xB h)
theorem Abo{g:Nat}{t:TypeId}{v:PV}(hT:pT P T Z)(hr:Rel Z s σs A L σ w)(h:T.glv P g t=some v):∃cs T1 fr,w.heap[g]? =some (.cells cs.toArray T1 fr)/\ (A g/\Z.R g)/\Bt (λb=>A b/\Z.R b) w L v cs:=by
 unfold Tab.glv at h;split at h
 ·rename_i cs hg;split at h
  ·rename_i v' hp;cases h;obtain⟨h1,T1,fr,h2⟩:=hr.Aiu (p:=(g,cs)) (by rw[hT.2];exact xB hg);obtain⟨c,e1,h3⟩:=cB (B:=λb=>A b/\Z.R b) (w:=w) (L:=L) Q hp;rw[Apk]at e1;subst e1;exact⟨_,T1,fr,h2,h1,h3⟩
  ·cases h
 ·cases h
theorem V0{o:Op}{g dn:Nat}{G:Prop}(hT:pT P T Z)(hr:Rel Z s σs A L σ w)(hd:Nv n ⟨some dn,o,ty,pos,after,none⟩=true)
  (ho:(∃t,o= .load t (.global g))\/ (∃t ix,o= .indexAddr t (.global g) ix)\/ (∃t lo hi,o= .slice t (.global g) lo hi none)) (h:oQ P T s dn g o k=some r):
  JQ P n ops ⟨some dn,o,ty,pos,after,none⟩ Z s σs k r G A L σ w:=by
 have hm:=hr.mem;rcases ho with⟨t,rfl⟩|⟨t,ix,rfl⟩|⟨t,lo,hi,rfl⟩
 ·simp only[oQ]at h;split at h
  ·rename_i v hv;obtain⟨hb,hk⟩:=Bj h;obtain⟨cs,T1,fr,h1,h2,h3⟩:=Abo hT hr hv;obtain⟨val,h7,h8⟩:=E0 (P:=P) (σ:=σ) (x:= .global g) (b:=g) (off:=0) (Ww hb) h3 (λj hj=>by rw[cell_of h1];simp) rfl;obtain⟨hv,hv'⟩:=Of h7;exact Fp hr hd h8 hv hv' hk
  ·cases h
 ·simp only[oQ]at h;split at h
  ·rename_i j m et e0 l0 hj ht hv;obtain⟨q,hix⟩:=QR hj (Ze hm.sl ix (ZE hj));split at h
   ·rename_i inf m' e l BO;obtain⟨hb,h⟩:=Bj h;simp only[Aag]at hb;obtain⟨y,hy,hk⟩:=bind_some h;obtain⟨hj0,hj1,hj2⟩:=Mt hy;obtain⟨cs,T1,fr,h1,h2,h3,h4⟩:=Abo hT hr hv;obtain⟨c1,c2,c3,he,h8,h9,_⟩:=Cv.get (λx c h=>Bc.len h) h4 hj2;have hmm:=Ds hb.1.1;subst hmm;have h10:c2.length=e.size:=h9.len;have hp:Q8 (λb=>A b/\Z.R b) w (.pointer (some ⟨g,0+j.toNat*e.size,none⟩)) c2:=by
     refine⟨g,0+j.toNat*e.size,_,T1,fr,rfl,h2,h1,λq hq=>?_⟩;rw[List.getElem?_toArray,he,Avg,List.getElem?_append_right (by omega),h8,show j.toNat*e.size+q-j.toNat*e.size=q by omega,List.getElem?_append_left hq]
    have hvr:Gs (λb=>A b/\Z.R b) w L (.rptr (e.pv y)) (.pointer (some ⟨g,0+j.toNat*e.size,none⟩)):=⟨_,c2,rfl,hp,aY.2 h9⟩;exact Fp hr hd (aP (x:= .global g) ht (Gx BO hb.1.2) rfl hix (by omega) (by rw[<-show l.length=m' from h3];omega) w) rfl hvr hk
   ·cases h
  ·cases h
 ·simp only[oQ]at h;split at h
  ·rename_i u m et hat;split at h
   ·rename_i e0 l0 hv;split at h
    ·rename_i inf m' e l BO;obtain⟨hb,h⟩:=Bj h;simp only[Aag]at hb;split at h
     ·rename_i a b ha hb';obtain⟨y,hy,hk⟩:=bind_some h;obtain⟨k1,k2,k3,k4,rfl⟩:=VD hy;obtain⟨cs,T1,fr,h1,h2,h3,h4⟩:=Abo hT hr hv;have hmm:=Ds hb.1.1;subst hmm;have hlen:=h4.len λx c h=>Bc.len h;have hz:0<e.size:=by have:=As9 hb.2;omega
      have hm3:l.length=m':=h3;have hxo:=X.O6 (P:=P) (σ:=σ) (w:=w) (x:= .global g) (lo:=lo) (hi:=hi) (a:=a.toNat) (b:=b.toNat) (ad:=⟨g,0,none⟩) hat (Gx BO hb.1.2) k3 (by omega) rfl
       (by rcases Pk hm.sl ha with h|⟨h,h'⟩;exact .inl (by rw[<-k1];exact h);exact .inr ⟨h,by omega⟩) (by rcases Pk hm.sl hb' with h|⟨h,h'⟩;exact .inl (by rw[<-k2];exact h);exact .inr ⟨h,by omega⟩)
      have e5:a.toNat*e.size<=b.toNat*e.size:=Ab5 _ k3;have e6:b.toNat*e.size<=l.length*e.size:=Ab5 _ k4;have e7:(b.toNat-a.toNat)*e.size=b.toNat*e.size-a.toNat*e.size:=Ayd _ _ _;refine Fp hr hd hxo rfl (mH ⟨_,_,_,rfl,?_,by omega,(λh=>by cases h),λhc=>?_⟩ (Cv.drop (λx c h=>Bc.len h) _ (Cv.take (λx c h=>Bc.len h) _ h4))) hk
      ·rw[Ahp,Al5,hlen,e7];omega
      ·rw[Aaa (by omega),Re];refine⟨g,0+a.toNat*e.size,_,T1,fr,rfl,h2,h1,?_,λi hi=>?_⟩
       ·simp only[Avm,hlen,hm3];have:(m'-a.toNat)*e.size=m'*e.size-a.toNat*e.size:=Ayd _ _ _;have:a.toNat*e.size<=m'*e.size:=Ab5 _ (by omega);omega
       ·rw[List.getElem?_toArray,Avg,List.getElem?_drop,List.getElem?_take,Aae (by omega)]
     ·cases h
    ·cases h
   ·cases h
  ·cases h
theorem Art{o:Op}{dn:Nat}(hT:pT P T Z)(hI:iI P T.gl inl)(hr:Rel Z s σs A L σ w)(hd:Nv n ⟨some dn,o,ty,pos,after,none⟩=true)(h:op2 P T inl s dn ty o k=some r):
  JQ P n ops ⟨some dn,o,ty,pos,after,none⟩ Z s σs k r (M7 T s ⟨some dn,o,ty,pos,after,none⟩=true) A L σ w:=by
 have hm:=hr.mem;unfold op2 at h;split at h
 ·
  rename_i o t x y t';split at h
  ·rename_i a u b v hx hy;split at h
   ·rename_i c q hc hq;obtain⟨_,hok,h⟩:=bind_some h;have:=GR hok;subst this;obtain⟨hv,val,hb,hvr⟩:=vP (P:=P) (w:=w) (L:=L) (B:=λb=>A b/\Z.R b) (t:=t) hq hc;exact Fp hr hd (X.bin (HC hm.sl hx) (HC hm.sl hy) hb) hv hvr h
   ·cases h
  ·rename_i u v hx hy;split at h
   ·obtain⟨q,hq,h⟩:=bind_some h;exact Fp (p:= .val .str q) hr hd (X.Aj3 (BD hm.sl hx) (BD hm.sl hy) hq) rfl rfl h
   ·cases h
  ·rename_i a h1 h2 hy;exact Akm hr hd rfl hy h
  ·cases h
 ·
  rename_i t x ix;split at h
  ·rename_i j e0 l0 hj hx;obtain⟨q,hix⟩:=QR hj (Ze hm.sl ix (ZE hj));split at h
   ·rename_i l ht;obtain⟨y,hy,h⟩:=bind_some h;exact Fp (p:= .i .u8 y) hr hd (X.Ah1 ht (BD hm.sl hx) hix hy) rfl rfl h
   ·rename_i m e l m' et ht;obtain⟨hb,h⟩:=Bj h;obtain⟨y,hy,h⟩:=bind_some h;obtain⟨hk,hkk⟩:=Bj h;have hok:=Ww hk;have hv:Mc (λb=>A b/\Z.R b) w L (.val (.vec m e) l) (ev σ x):=Ei hm.sl hx rfl;obtain⟨cs,h1,h2,h3⟩:=hv;have hsz:(e.pv y).size=e.size:=by
     obtain⟨_,_,h5⟩:=Mt hy;obtain⟨_,c2,_,_,_,h6,_⟩:=Cv.get (λx c h=>Bc.len h) h3 h5;rw[<- (aY (L:=L).2 h6).len,h6.len]
    have hmm:=Ds hb;subst hmm;obtain⟨d0,hd0,ha0⟩:=hok.agg;obtain⟨val,h4,h5⟩:=Amr (L:=L) ht (by rw[<-hsz];exact hok.size) ⟨d0,hd0,ha0⟩ (λhA=>by rw[<-hsz];exact hok.one hA) h2 h1 h3 hix hy;obtain⟨hv,hv'⟩:=Of h5;exact Fp hr hd h4 hv hv' hkk
   ·cases h
  ·cases h
 ·split at h
  ·exact V0 hT hr hd (.inr (.inr ⟨_,_,_,rfl⟩)) h
  ·exact Aip hr hd h (λg=>g)
 ·split at h
  ·exact V0 hT hr hd (.inr (.inl ⟨_,_,rfl⟩)) h
  ·exact Aap hr hd h
 ·split at h
  ·exact V0 hT hr hd (.inl ⟨_,rfl⟩) h
  ·exact Aot hr hd h
 ·
  split at h
  ·rename_i v hz;exact Aia hr hd hz h
  ·cases h
 ·obtain⟨hb,h⟩:=Bj h;exact Aqq hr hd hb h
 ·split at h
  ·rename_i v hv;obtain⟨hA,h⟩:=Bj h;obtain⟨h1,h2⟩:=I9 (B:=λb=>A b/\Z.R b) (w:=w) (L:=L) hv hA;exact Fp hr hd (X.assign rfl) h1 h2 h
  ·cases h
 ·split at h
  ·rename_i v hv;obtain⟨hA,h⟩:=Bj h;obtain⟨h1,h2⟩:=I9 (B:=λb=>A b/\Z.R b) (w:=w) (L:=L) hv hA;exact Fp hr hd (X.move rfl) h1 h2 h
  ·cases h
 ·exact Aht hr hd h
 ·exact G9 hr hd h (λg=>g)
 ·exact An2 hr hd h
 ·
  split at h
  ·rename_i e ha ht;split at h
   ·rename_i l he hx;exact Aa4 hr hd ha ht he hx h
   ·cases h
  ·rename_i e ha ht;obtain⟨hb,h1⟩:=Bj h;clear h;have:=Ds hb;subst this;split at h1
   ·rename_i i he hx;split at h1
    ·rename_i E e' l hi;split at h1
     ·rename_i y ys;exact Amf hr hd ht he hx hi h1
     ·cases h1
    ·cases h1
   ·cases h1
  ·cases h
 ·
  rename_i as ts;split at h
  ·rename_i x y t t2 has hts;have h1:=PM has;have h2:=PM hts;subst h1 h2;refine ZR (Ahh hr hd h) ?_;rintro σ' w' ⟨s',A',L',g1,g2,g3⟩;exact⟨s',A',L',g1,g2,λg=>by simp[M7,brk]at g⟩
  ·cases h
 ·
  rename_i as ts;split at h
  ·rename_i x y t t2 has hts;have h1:=PM has;have h2:=PM hts;subst h1 h2;refine ZR (Ad7 hr hd h) ?_;rintro σ' w' ⟨s',A',L',g1,g2,g3⟩;exact⟨s',A',L',g1,g2,λg=>by simp[M7,brk]at g⟩
  ·cases h
 ·
  rename_i as ts;split at h
  ·rename_i x t has hts;have h1:=PM has;have h2:=PM hts;subst h1 h2;split at h
   ·rename_i e ht hx;refine Fp (p:= .i .i64 (0:Int)) hr hd (val:=iv (0:Int)) (λ_ _ _ _ _=>?_) rfl rfl h;have hv:=OT (Ei hm.sl hx rfl);simp[execOp,resolve,invoke,builtin,hv,Builtin.cap_,Agl ht,goInt];rfl
   ·cases h
  ·cases h
 ·
  rename_i g as ts;split at h
  ·rename_i f caps hg;refine Anm hT hI hr hg hd h (λgg=>?_);unfold M7 at gg;split at gg
   ·rename_i heq;cases heq
   ·rename_i heq;cases heq
   ·rename_i f' as' ts' heq;cases heq;cases hg;split at gg
    ·rename_i c hc;simp only[Aag,Atu,Asr]at gg;exact⟨c,hc,gg.1,gg.2.imp id isEmpty_nil⟩
    ·cases gg
   ·rename_i h1 h2 h3;simp only[brk]at gg;split at gg<;>simp_all
  ·cases h
 ·exact Ag0 hr hd h (λg=>g)
 ·cases h
end Go.Rx
namespace Go.Rx
open Go Go.Lv
variable {P:Program} {w w':World} {L:List MD} {s:S} {σs:List Env} {σ:Env} {Z:Fix} {A:Reg}
theorem cP{α:Type 1}{c:Bool}{x:Option α}{y:α}(h:(Dz (c) (x)<|none)=some y):c=true/\x=some y:=by cases c<;>simp_all
theorem Aav{o:Op}{b:BV}{x:b.X}(hr:Rel Z s σs A L σ w)(h:ZB P s o=some b)(hx:b.E=some x):(b.v x).isV=true/\∃val,(∀w',XO P σ w' o val)/\Gs (λb=>A b/\Z.R b) w L (b.v x) val:=by
 have hm:=hr.mem;unfold ZB at h;split at h
 ·
  rename_i o t x y t';split at h
  ·rename_i a u b v hx' hy;split at h
   ·rename_i c q hc hq;cases h;have:=GR hx;subst this;obtain⟨hv,val,hb,hvr⟩:=vP (P:=P) (w:=w) (L:=L) (B:=λb=>A b/\Z.R b) (t:=t) hq hc;exact⟨hv,val,λw'=>X.bin (HC hm.sl hx') (HC hm.sl hy) hb,hvr⟩
   ·cases h
  ·rename_i u v hx' hy;split at h
   ·cases h;exact⟨rfl,_,λw'=>X.Aj3 (BD hm.sl hx') (BD hm.sl hy) hx,rfl⟩
   ·cases h
  ·cases h
 ·
  split at h
  ·rename_i j l hj hx' ht;cases h;obtain⟨q,hix⟩:=QR hj (Ze hm.sl _ (ZE hj));exact⟨rfl,_,λw'=>X.Ah1 ht (BD hm.sl hx') hix hx,rfl⟩
  ·cases h
 ·
  split at h
  ·rename_i ht;split at h
   ·rename_i l hx';split at h
    ·rename_i a b ha hb;cases h;exact⟨rfl,_,λw'=>X.At1 ht (BD hm.sl hx') hx (Pk hm.sl ha) (Pk hm.sl hb),rfl⟩
    ·cases h
   ·cases h
  ·rename_i et ht;split at h
   ·rename_i e0 l0 hx';split at h
    ·rename_i e l;split at h
     ·rename_i inf BO;obtain⟨hb,h⟩:=cP h;simp only[Aag]at hb;split at h
      ·rename_i a b ha hb';cases h;obtain⟨h1,h2,h3,h4,h5'⟩:=VD hx;obtain⟨c0,h5,h6⟩:=IH (Ei hm.sl hx' rfl);have hlen:=h6.len λx c h=>Bc.len h;obtain⟨p',l',c',h7,h8⟩:=X.uy (P:=P) (l:=a.toNat) (k:=b.toNat) (m:=l.length) ht (Gx BO hb.1) (St.Akn hr h5) (j:=0) rfl hlen (X7 hb.2) h3 h4;refine⟨rfl, .slice p' l' c',λw'=>h7 σ w' _ _ _ rfl (by rcases Pk hm.sl ha with h|⟨h,h'⟩;exact .inl (by rw[<-h1];exact h);exact .inr ⟨h,by omega⟩)
        (by rcases Pk hm.sl hb' with h|⟨h,h'⟩;exact .inl (by rw[<-h2];exact h);exact .inr ⟨h,by rw[h'];simp[Ac]⟩),?_⟩
       rw[h5'];exact mH (h8.fact 0 rfl) (Cv.drop (λx c h=>Bc.len h) _ (Cv.take (λx c h=>Bc.len h) _ h6))
      ·cases h
     ·cases h
    ·cases h
   ·cases h
  ·cases h
 ·
  split at h
  ·cases h
  ·rename_i j hj;obtain⟨q,hix⟩:=QR hj (Ze hm.sl _ (ZE hj));split at h
   ·rename_i et ht;split at h
    ·cases h
    ·rename_i inf BO;split at h
     ·rename_i e0 l0 hx';split at h
      ·rename_i e l;obtain⟨hb,h⟩:=cP h;cases h;simp only[Aag]at hb;obtain⟨hj0,hj1,hj2⟩:=Mt hx;obtain⟨c0,h1,h2⟩:=IH (Ei hm.sl hx' rfl);obtain⟨p,len,cap,h3,h4,h5,h6,h7⟩:=h1;have hlen:=h2.len λx c h=>Bc.len h;have hz:0<e.size:=by have:=As9 hb.2;omega
       have hl:len=l.length:=Apr hz (h4.symm.trans hlen);subst hl;obtain⟨b,off,arr,T,fr,rfl,hB,hbl,hcap,hc⟩:=h7 (by omega);obtain⟨c1,c2,c3,he,h8,h9,_⟩:=Cv.get (λx c h=>Bc.len h) h2 hj2;have h10:c2.length=e.size:=h9.len;have h11:(j.toNat+1)*e.size<=l.length*e.size:=Ab5 _ hj1;rw[Axm]at h11;have hp:Q8 (λb=>A b/\Z.R b) w (.pointer (some ⟨b,off+j.toNat*e.size,none⟩)) c2:=by
        refine⟨b,off+j.toNat*e.size,arr,T,fr,rfl,hB,hbl,λq hq=>?_⟩;rw[At0,hc _ (by omega),he,List.getElem?_append_right (by omega),h8,show j.toNat*e.size+q-j.toNat*e.size=q by omega,List.getElem?_append_left hq]
       have hvr:Gs (λb=>A b/\Z.R b) w L (.rptr (e.pv x)) (.pointer (some ⟨b,off+j.toNat*e.size,none⟩)):=⟨_,c2,rfl,hp,aY.2 h9⟩;exact⟨rfl,_,λw'=>Yx ht (Gx BO hb.1) h3 hix (by omega) (by omega) w',hvr⟩
      ·cases h
     ·rename_i i hx';split at h
      ·rename_i E e l hi;obtain⟨hb,h⟩:=cP h;cases h;simp only[Aag]at hb;obtain⟨hj0,hj1,hj2⟩:=Mt hx;obtain⟨v,cs,h1,h2⟩:=hm.arr hi;obtain⟨z',E',c',h3⟩:=RZ (Ei hm.sl hx' rfl);rw[h1]at h3;cases h3;have hlen:=h2.len λx c h=>Bc.len h;have hz:0<e.size:=by have:=As9 hb.2;omega
       have hpos:0<cs.length:=by rw[hlen];exact Nat.mul_pos (by omega) hz
       obtain⟨b,len,cap,h4,h5⟩:=hr.base h1 hpos;have hl:len=l.length:=Apr hz (h5.symm.trans hlen);subst hl;refine⟨rfl,_,λw'=>Yx ht (Gx BO hb.1) h4 hix (by omega) (by omega) w',?_⟩;rw[show(0:Nat)+j.toNat*e.size=Be [.idx j e.size] by simp[Be,lM]];refine RU h1 ?_;rw[h4];rfl
      ·cases h
     ·rename_i o i p e lo n' hx';obtain⟨hb,h⟩:=cP h;cases h;simp only[Aag]at hb;have hj':0<=j/\j<n':=Axd (GR hx);obtain⟨md,v1,h3,h4,k1,k2,⟨pt,cap,k3,k4,k5,k6⟩,_⟩:=Ei hm.sl hx' rfl;have h6:=List.cons.inj h4;obtain⟨b,e1,rfl⟩:=k6 (by omega);refine⟨rfl,_,λw'=>Yx ht (Gx BO hb.1) (h6.1.trans k3) hix hj'.1 (by omega) w',?_⟩;rw[show Be p+lo.toNat*e.size+j.toNat*e.size=Be (p++[.idx (lo+j) e.size]) by
       rw[fD,At0,<-Ara]
       show _=Be p+(lo+j).toNat*e.size;rw[Int.toNat_add k1 hj'.1]]
      exact RU h3 e1
     ·cases h
   ·rename_i m et ht;split at h
    ·cases h
    ·rename_i inf BO;split at h
     ·rename_i i p hx';split at h
      ·rename_i T v hi;split at h
       ·rename_i e0 l0 hg;split at h
        ·rename_i m' e l;obtain⟨hb,h⟩:=cP h;cases h;simp only[Aag]at hb;obtain⟨hj0,hj1,hj2⟩:=Mt hx;obtain⟨md,b,h1,h2,h3⟩:=GH (Ei hm.sl hx' rfl);obtain⟨b',cells,h4,h5⟩:=hm.box hi;rw[h4]at h1;cases h1;cases h2;obtain⟨c1,c2,c3,he,h6,h7,h8⟩:=fQ hg h5;have hmm:=Ds hb.2;subst hmm;have hl:l.length=m':=h7;refine⟨rfl,_,λw'=>aP ht (Gx BO hb.1.1) h3 hix (by omega) (by omega) w',?_⟩;rw[show Be p+j.toNat*e.size=Be (p++[.idx j e.size]) by simp[XW,Be,lM]];exact RU h4 rfl
        ·cases h
       ·cases h
      ·cases h
     ·cases h
   ·cases h
 ·cases h
end Go.Rx
namespace Go.Rx
open Go Go.Lv
variable {P:Program} {B B':Reg} {w w':World} {L L':List MD} {s:S} {σs:List Env} {σ:Env} {Z:Fix} {A A':Reg} {n:Nat} {ops:Array Oper}
variable {R:Type} {k:S->Option R} {r:R} {d:Option Nat} {ty:TypeId} {pos:String} {after:Array Edge} {T:Tab} {inl:Y7 R}
theorem Aio{o:Oper}(hT:pT P T Z)(hI:iI P T.gl inl)(hr:Rel Z s σs A L σ w)(hd:Nv n o=true)(h:exU P T inl o s k=some r):
  JQ P n ops {o with guard:=none} Z s σs k r (M7 T s o=true) A L σ w:=by
 obtain⟨d,op,ty,pos,after,g⟩:=o;have hd':Nv n ⟨d,op,ty,pos,after,none⟩=true:=hd;unfold exU at h;split at h
 ·rename_i v hv;obtain⟨h1,val,h2,h3⟩:=Abi (P:=P) (B:=λb=>A b/\Z.R b) (w:=w) (L:=L) (λ_=>True) hr.mem.sl hv;exact Fp hr hd' (h2 w trivial) h1 h3 h
 ·split at h
  ·rename_i v hv;obtain⟨h1,val,h2,h3⟩:=Abr (P:=P) hr hv;exact Fp hr hd' (h2 w (.refl hr)) h1 h3 h
  ·cases d with
   |some dn=>exact Art hT hI hr hd' h
   |none=>
    simp only at h;split at h
    ·rename_i t a x;refine ZR (Akg hr h) ?_;rintro σ' w' ⟨s',A',L',g1,g2,g3⟩;exact⟨s',A',L',g1,g2,λg=>by simp[M7,brk]at g⟩
    ·rename_i as ts;split at h
     ·rename_i x y t t2 has hts;have h1:=PM has;have h2:=PM hts;subst h1 h2;refine ZR (Ad7 hr hd' h) ?_;rintro σ' w' ⟨s',A',L',g1,g2,g3⟩;exact⟨s',A',L',g1,g2,λg=>by simp[M7,brk]at g⟩
     ·cases h
    ·cases h
theorem WL.Ato{rest:List Oper}{K:Env->World->Prop}{o:Oper}{j t:Nat}{want b:Bool}(hg:o.guard=some (j,want))(hj:(ops[j]?).bind (·.dst)=some t)(hb:σ t= .bool b)(hne:(b==want)=false)
  (hdn:Nv n o=true) (h:WL P n ops rest K (Agb σ o.dst Go.undef) w):WL P n ops (o::rest) K σ w:=by
 intro ds a ha;refine wpList_step λK' hK'=>?_;have hw:Region.wanted o (yielded ops a.tmps)=false:=by
  simp only[Region.wanted,hg,YJ ha hj hb];cases b<;>cases want<;>simp_all
 rw[Aaa (by rw[hw];simp)];refine hK' _ _ ?_;cases hd:o.dst with
 |none=>rw[hd]at h;exact h _ _ (ha.zE _)
 |some d=>rw[hd]at h;unfold Nv at hdn;rw[hd]at hdn;exact h _ _ (ha.put hdn _)
theorem WL.At2{rest:List Oper}{K:Env->World->Prop}{o:Oper}{j t:Nat}{want:Bool}(hg:o.guard=some (j,want))(hj:(ops[j]?).bind (·.dst)=some t)(hb:σ t=Go.undef)
  (hdn:Nv n o=true) (h:WL P n ops rest K (Agb σ o.dst Go.undef) w):WL P n ops (o::rest) K σ w:=by
 intro ds a ha;refine wpList_step λK' hK'=>?_;have hy:yielded ops a.tmps j=none:=by
  unfold yielded;rw[hj];have h1:=ha.get t;rw[hb]at h1;cases h:a.tmps[t]? with
  |none=>simp[h]
  |some v=>
   rw[Array.getD_eq_getD_getElem?,h]at h1;simp at h1;subst h1;simp[h,undef]
 have hw:Region.wanted o (yielded ops a.tmps)=false:=by
  simp only[Region.wanted,hg,hy];cases want<;>rfl
 rw[Aaa (by rw[hw];simp)];refine hK' _ _ ?_;cases hd:o.dst with
 |none=>rw[hd]at h;exact h _ _ (ha.zE _)
 |some d=>rw[hd]at h;unfold Nv at hdn;rw[hd]at hdn;exact h _ _ (ha.put hdn _)
theorem ko{o:Oper}{G:Prop}(hr:Rel Z s σs A L σ w)(h:k (s.Jk o.dst .off)=some r):WL P n ops [] (H4 Z σs k r G A L s.it w) (Agb σ o.dst Go.undef) w:=by
 refine WL.nil ⟨_,A,L,h,hr.Ame,λ_=>?_⟩;have:(s.Jk o.dst .off).it=s.it:=by cases o.dst<;>rfl
 rw[this];exact .refl
theorem eS{a b:Bool}:nK a b=(b==a):=by cases a<;>cases b<;>rfl
theorem Aat{G G':Prop}{σ':Env}{it:List Item}(hp:H4 Z σs k r G A L it w σ' w')(h:G'->G):H4 Z σs k r G' A L it w σ' w':=by
 obtain⟨s',A',L',h1,h2,h3⟩:=hp;exact⟨s',A',L',h1,h2,λg=>h3 (h g)⟩
theorem wD{t dn:Nat}{want b:Bool}{v:PV}{val:Value}(ht:σ t= .bool b)(hne:Nat.beq dn t=false)(h1:b=want->Gs B w L v val)(h2:b≠want->val=Go.undef):Na B w L (HB σ dn val) dn (.gd t want v):=by
 have htd:t≠dn:=by intro e;subst e;simp at hne
 exact⟨b,by rw[oX _ _ htd];exact ht,λe=>by rw[YL];exact h1 e,λe=>by rw[YL];exact h2 e⟩
theorem Adh{o:Oper}{j t dn:Nat}{want b:Bool}{v:PV}{G:Prop}(hr:Rel Z s σs A L σ w)(hg:o.guard=some (j,want))(hj:(ops[j]?).bind (·.dst)=some t)(ht:σ t= .bool b)(hdn:Nv n o=true)(hd:o.dst=some dn)
  (hne:Nat.beq dn t=false) (hv:b=want->v.isV=true/\∃val,XO P σ w o.op val/\Gs (λb=>A b/\Z.R b) w L v val) (hk:k (s.set dn (.gd t want v))=some r):JQ P n ops o Z s σs k r G A L σ w:=by
 by_cases hbw:b=want
 ·obtain⟨h1,val,h2,h3⟩:=hv hbw;refine WL.on hg hj ht (by simpa using hbw) (WL.Abz rfl (by simpa [Nv]using hdn) (h2 _ _ _ _ _) (WL.nil ⟨_,A,L,hk,?_,λ_=> .refl⟩));simp only[hd];exact hr.set (wD ht hne (λ_=>h3) (λe=>absurd hbw e))
 ·refine WL.Ato hg hj ht (by simpa using hbw) hdn (WL.nil ⟨_,A,L,hk,?_,λ_=> .refl⟩);rw[hd];exact hr.set (wD ht hne (λe=>absurd e hbw) (λ_=>rfl))
theorem VE{t:Nat}{b:Bool}(hm:If B w L σ s.sl)(h:JM s.sl t= .val .bool b):σ t= .bool b:=by
 have h1:=Zb (t:=t) hm;rw[h]at h1;exact PL h1
theorem pZ{t:Nat}{b:Bool}(hm:If B w L σ s.sl)(h:JM s.sl t= .cst (.bool b)):σ t= .bool b:=by
 have h1:=Zb (t:=t) hm;rw[h]at h1;have: [σ t]=[Value.bool b]:=h1.1;simpa using this
theorem Arj{o:Oper}{j t:Nat}{want:Bool}(hT:pT P T Z)(hI:iI P T.gl inl)(hr:Rel Z s σs A L σ w)(hd:Nv n o=true)(hg:o.guard=some (j,want))(hj:(ops[j]?).bind (·.dst)=some t)
  (h:exG P T inl o t want s k=some r):JQ P n ops o Z s σs k r (M7 T s o=true/\∃b,JM s.sl t= .cst (.bool b)) A L σ w:=by
 have hm:=hr.mem;have lit:∀(G:Prop) (s1:S) (b:Bool),(G->M7 T s1 o=true)->Rel Z s1 σs A L σ w->s1.it=s.it->σ t= .bool b-> (Dz (nK want b) (exU P T inl o s1 k)<|k (s1.Jk o.dst .off))=some r->JQ P n ops o Z s σs k r G A L σ w:=by
  intro G s1 b hG hr1 hit ht h;cases hb:nK want b with
  |true=>
   rw[hb]at h;refine WL.on hg hj ht (by rw[<-eS];exact hb) (ZR (Aio hT hI hr1 hd h) λσ' w' hp=>?_);rw[<-hit];exact Aat hp hG
  |false=>
   rw[hb]at h;refine WL.Ato hg hj ht (by rw[<-eS];exact hb) hd ?_;rw[<-hit];exact ko hr1 h
 unfold exG at h;simp only at h;split at h
 ·rename_i b hb;exact lit _ s b (λg=>g.1) hr rfl (pZ hm.sl hb) h
 ·rename_i hb;have h1:=Zb (t:=t) hm.sl;rw[hb]at h1;exact WL.At2 hg hj h1 hd (ko hr h)
 ·rename_i b hb;have ht:=VE hm.sl hb;have nog:∀{X:Prop},(∃b,JM s.sl t= .cst (.bool b))->X:=λ⟨_,g⟩=>by rw[hb]at g;cases g
  split at h
  ·rename_i dn v hdn hv;cases hne:Nat.beq dn t with
   |true=>rw[hne]at h;cases h
   |false=>
    rw[hne]at h;refine Adh hr hg hj ht hd hdn hne (λhbw=>?_) h;subst hbw;obtain⟨h1,val,h2,h3⟩:=Abi (P:=P) (λ_=>True) (hr.res ht).mem.sl hv;exact⟨h1,val,h2 w trivial,h3⟩
  ·rename_i dn v hdn hv0 hv;cases hne:Nat.beq dn t with
   |true=>rw[hne]at h;cases h
   |false=>
    rw[hne]at h;refine Adh hr hg hj ht hd hdn hne (λhbw=>?_) h;subst hbw;obtain⟨h1,val,h2,h3⟩:=Abr (P:=P) (hr.res ht) hv;exact⟨h1,val,h2 w (.refl (hr.res ht)),h3⟩
  ·cases b with
   |true=>exact lit _ (s.res t true) true (λg=>nog g.2) (hr.res ht) rfl ht (by simpa using h)
   |false=>exact lit _ (s.res t false) false (λg=>nog g.2) (hr.res ht) rfl ht (by simpa using h)
 ·cases h
theorem Ad5{o:Oper}(hT:pT P T Z)(hI:iI P T.gl inl)(hr:Rel Z s σs A L σ w)(h:xX P T inl n ops o s k=some r):JQ P n ops o Z s σs k r (M7 T s o=true/\gOk ops s o=true) A L σ w:=by
 have hm:=hr.mem;unfold xX at h;cases hd:Nv n o with
 |false=>rw[hd]at h;cases h
 |true=>
  rw[hd]at h;simp only[Axn,Ayh]at h;try dsimp only[Dz]at h
  split at h
  ·rename_i hg;have:({o with guard:=none}:Oper)=o:=by cases o;simp only at hg;subst hg;rfl
   rw[<-this];refine ZR (Aio hT hI hr hd h) λσ' w' hp=>Aat hp ?_;rintro⟨g,_⟩;rw[this]at g;exact g
  ·rename_i j want hg;split at h
   ·cases h
   ·rename_i t hj;have fin:∀s1:S,(gOk ops s o=true->s1=s)->Rel Z s1 σs A L σ w->s1.it=s.it->exG P T inl o t want s1 k=some r->JQ P n ops o Z s σs k r (M7 T s o=true/\gOk ops s o=true) A L σ w:=by
     intro s1 hs hr1 hit h;refine ZR (Arj hT hI hr1 hd hg hj h) λσ' w' hp=>?_;rw[<-hit];refine Aat hp (λg=>?_);have:=hs g.2;subst this;refine⟨g.1,?_⟩;have h2:=g.2;unfold gOk at h2;simp only[hg,hj]at h2;split at h2
     ·exact⟨_,by assumption⟩
     ·cases h2
    split at h
    ·rename_i t2 w2 v hv;have nog:∀{X:Prop},gOk ops s o=true->X:=λg=>by
      unfold gOk at g;simp only[hg,hj,hv]at g;cases g
     split at h
     ·rename_i b hb;have ht:=VE hm.sl hb;cases b with
      |true=>exact fin _ nog (hr.res ht) rfl (by simpa using h)
      |false=>exact fin _ nog (hr.res ht) rfl (by simpa using h)
     ·cases h
    ·exact fin s (λ_=>rfl) hr rfl h
theorem kr(hT:pT P T Z)(hI:iI P T.gl inl):∀{l:List Oper} {s:S} {A:Reg} {L:List MD} {σ:Env} {w:World},Rel Z s σs A L σ w->K3 P T inl n ops l s k=some r->
  WL P n ops l (λσ' w'=>∃s' A' L',k s'=some r/\Rel Z s' σs A' L' σ' w') σ w
 |[],s,A,L,σ,w,hr,h=>WL.nil ⟨s,A,L,h,hr⟩
 |o::l,s,A,L,σ,w,hr,h=>by
  have h1:=Ad5 (ops:=ops) hT hI hr h;refine WL.cut _ [o] h1 ?_;rintro σ' w' ⟨s',A',L',g1,g2,_⟩;exact kr hT hI g2 g1
end Go.Rx
namespace Go.Rx
open Go Go.Lv
variable {P:Program} {B B':Reg} {w w':World} {L L':List MD} {s:S} {σs:List Env} {σ:Env} {Z:Fix} {A A':Reg} {n:Nat} {ops:Array Oper}
variable {R:Type} {k:S->Option R} {r:R} {d:Option Nat} {ty:TypeId} {pos:String} {after:Array Edge} {T:Tab} {inl:Y7 R} {mem:Bool} {listed:Array Bool}
def sL(Z:Fix)(σs:List Env)(A:Reg)(L:List MD)(it:List Item)(w w':World):Prop:=∃s2 σ2 A' L',Rel Z s2 σs A' L' σ2 w'/\Grow A L it w A' L' s2.it w'
theorem sL.refl(hr:Rel Z s σs A L σ w):sL Z σs A L s.it w w:=⟨s,σ,A,L,hr, .refl⟩
theorem sL.ext(hr:Rel Z s σs A L σ w)(h:sL Z σs A L s.it w w'):Ext Z s σs A L σ w w':=by
 obtain⟨s2,σ2,A',L',h1,h2⟩:=h;exact h2.ext hr h1
theorem rC{z:Array Bool}:∀{is:List Nat} {i d:Nat} {v:PV},IW P T n mem ops z listed s is=some (i,d,v)->∃o,ops[i]? =some o/\JA ops (tw z) listed i=true/\X0 P T n mem ops o s=some (d,v)
 |[],_,_,_,h=>by simp[IW]at h
 |j::is,i,d,v,h=>by
  simp only[IW]at h;split at h
  ·cases h
  ·rename_i o ho;split at h
   ·rename_i d' v' hp;cases h;cases ht:JA ops (tw z) listed j with
    |true=>rw[ht]at hp;exact⟨o,ho,by first|exact ht|rfl,hp⟩
    |false=>rw[ht]at hp;cases hp
   ·exact rC h
def GS(Z:Fix)(σs:List Env)(w':World):Prop:=∃s2 σ2 A2 L2,Rel Z s2 σs A2 L2 σ2 w'
theorem Ext.gs(h:Ext Z s σs A L σ w w'):GS Z σs w':=by
 obtain⟨⟨A',L',it',_,hr⟩,_⟩:=h;exact⟨_,_,_,_,hr⟩
theorem Af5{g:Nat}{t:TypeId}{v:PV}(hT:pT P T Z)(h:T.glv P g t=some v):∃cs,(∀w',GS Z σs w'->∃T1 fr,w'.heap[g]? =some (.cells cs.toArray T1 fr))/\∀(B:Reg) (w:World) (L:List MD),Bt B w L v cs:=by
 unfold Tab.glv at h;split at h
 ·rename_i cs hg;split at h
  ·rename_i v' hp;cases h;refine⟨cs,λw' hw=>?_,λB w L=>?_⟩
   ·obtain⟨s2,σ2,A2,L2,hr⟩:=hw;obtain⟨_,T1,fr,h2⟩:=hr.Aiu (p:=(g,cs)) (by rw[hT.2];exact xB hg);exact⟨T1,fr,h2⟩
   ·obtain⟨c,e1,h3⟩:=cB (B:=B) (w:=w) (L:=L) Q hp;rw[Apk]at e1;subst e1;exact h3
  ·cases h
 ·cases h
theorem Am1{o:Op}{v:PV}(hT:pT P T Z)(h:Asq P T o=some v):v.isV=true/\∃val,(∀w',GS Z σs w'->XO P σ w' o val)/\Gs (λb=>A b/\Z.R b) w L v val:=by
 unfold Asq at h;split at h
 ·rename_i t g;split at h
  ·rename_i u hv;obtain⟨hb,hk⟩:=Bj h;cases hk;obtain⟨cs,h1,h3⟩:=Af5 (σs:=σs) hT hv;obtain⟨val,h7,h8⟩:=iO (P:=P) (σ:=σ) (x:= .global g) (b:=g) (off:=0) (Ww hb) (h3 (λb=>A b/\Z.R b) w L) rfl;obtain⟨hv1,hv2⟩:=Of h7;refine⟨hv1,val,λw' hw=>h8 w' λj hj=>?_,hv2⟩;obtain⟨T1,fr,h4⟩:=h1 w' hw;rw[cell_of h4];simp
  ·cases h
 ·cases h
theorem yE{o:Op}{v:PV}{S:World->Prop}(hT:pT P T Z)(hr:Rel Z s σs A L σ w)(h:tP P T mem s o=some v)(hS:mem=true->∀w',S w'->Ext Z s σs A L σ w w')(hG:∀w',S w'->GS Z σs w'):v.isV=true/\∃val,(∀w',S w'->XO P σ w' o val)/\Gs (λb=>A b/\Z.R b) w L v val:=by
 unfold tP at h;split at h
 ·rename_i u hu;cases h;exact Abi (P:=P) S hr.mem.sl hu
 ·split at h
  ·rename_i u hu;cases h;cases mem with
   |true=>
    obtain⟨h1,val,h2,h3⟩:=Abr (P:=P) hr hu;exact⟨h1,val,λw' hw=>h2 w' (hS rfl w' hw),h3⟩
   |false=>cases hu
  ·obtain⟨h1,val,h2,h3⟩:=Am1 (σs:=σs) (σ:=σ) (A:=A) (w:=w) (L:=L) hT h;exact⟨h1,val,λw' hw=>h2 w' (hG w' hw),h3⟩
theorem Aoe{t:Nat}{b:Bool}{w':World}(h:Ext Z s σs A L σ w w')(ht:σ t= .bool b):Ext Z (s.res t b) σs A L σ w w':=by
 obtain⟨⟨A',L',it',h1,h2⟩,h3⟩:=h;exact⟨⟨A',L',it',h1,Rel.res (s:=⟨s.sl,s.it++it',s.st⟩) h2 ht⟩,h3⟩
theorem Aeb{S:World->Prop}{z:Array Bool}{fuel i dn:Nat}{o:Oper}{v:PV}{K:Env->World->Prop}(hT:pT P T Z)(hr:Rel Z s σs A L σ w)(hi:ops[i]? =some o)(hB:JA ops (tw z) listed i=true)(hp:X0 P T n mem ops o s=some (dn,v))(hSw:S w)
  (hS:mem=true->∀w',S w'->Ext Z s σs A L σ w w') (hG:∀w',S w'->GS Z σs w') (h:∀σ',Rel Z (s.set dn v) σs A L σ' w->WD P n ops S (tw z) fuel (listed.setIfInBounds i true) K σ' w):WD P n ops S (tw z) (fuel+1) listed K σ w:=by
 obtain⟨d,op,ty,pos,after,g⟩:=o;have hm:=hr.mem;unfold X0 at hp;simp only at hp;split at hp
 ·cases hp
 ·rename_i d';cases hn:Nat.blt d' n with
  |false=>rw[hn]at hp;cases hp
  |true=>
   rw[hn]at hp;simp only[Axn,Ayh]at hp;try dsimp only[Dz]at hp
   split at hp
   ·
    cases hv:tP P T mem s op with
    |none=>rw[hv]at hp;cases hp
    |some u=>
     rw[hv]at hp;cases hp;obtain⟨h1,val,h2,h3⟩:=yE hT hr hv hS hG;exact WD.x i hi hB hn hSw h2 (h _ (hr.set (.put h1 h3)))
   ·rename_i j want;split at hp
    ·cases hp
    ·rename_i t hj;split at hp
     ·rename_i b hb;have ht:=pZ hm.sl hb;cases hw:nK want b with
      |true=>
       rw[hw]at hp;dsimp only[Dz,cond]at hp;cases hv:tP P T mem s op with
       |none=>rw[hv]at hp;cases hp
       |some u=>
        rw[hv]at hp;cases hp;obtain⟨h1,val,h2,h3⟩:=yE hT hr hv hS hG;have hbw:(b==want)=true:=by rw[<-eS];exact hw
        refine WD.gx (v:=val) i hi hB hn hj ht hSw (λ_=>h2) (h _ ?_);rw[xP hbw];exact hr.set (.put h1 h3)
      |false=>
       rw[hw]at hp;cases hp;have hbw:(b==want)=false:=by rw[<-eS];exact hw
       refine WD.gx (v:=Go.undef) i hi hB hn hj ht hSw (λhg=>by rw[hbw]at hg;cases hg) (h _ ?_);rw[Aa5 hbw];exact hr.set (show HB σ dn Go.undef dn=Go.undef from YL _ _ _)
     ·rename_i b hb;have ht:=VE hm.sl hb;cases hne:Nat.beq d' t with
      |true=>rw[hne]at hp;cases hp
      |false=>
       rw[hne]at hp;dsimp only[Dz,cond]at hp;cases hv:tP P T mem (s.res t want) op with
       |none=>rw[hv]at hp;cases hp
       |some u=>
        rw[hv]at hp;cases hp;by_cases hbw:b=want
        ·subst hbw;obtain⟨h1,val,h2,h3⟩:=yE hT (hr.res ht) hv (λhm w' hw=>Aoe (hS hm w' hw) ht) hG;refine WD.gx (v:=val) i hi hB hn hj ht hSw (λ_=>h2) (h _ ?_);rw[xP (by simp)];exact hr.set (wD ht hne (λ_=>h3) (λe=>absurd rfl e))
        ·refine WD.gx (v:=Go.undef) i hi hB hn hj ht hSw (λhg=>absurd (by simpa using hg) hbw) (h _ ?_);rw[Aa5 (by simpa using hbw)];exact hr.set (wD ht hne (λe=>absurd e hbw) (λ_=>rfl))
     ·cases hp
theorem gZ{z:Array Bool}:∀{is:List Nat} {i d:Nat} {v:BG},RF P n ops z listed s is=some (i,d,v)->∃o,ops[i]? =some o/\JA ops (tw z) listed i=true/\L6 P n ops o s=some (d,v)
 |[],_,_,_,h=>by simp[RF]at h
 |j::is,i,d,v,h=>by
  simp only[RF]at h;split at h
  ·cases h
  ·rename_i o ho;split at h
   ·rename_i d' v' hp;cases h;cases ht:JA ops (tw z) listed j with
    |true=>rw[ht]at hp;exact⟨o,ho,by first|exact ht|rfl,hp⟩
    |false=>rw[ht]at hp;cases hp
   ·exact gZ h
theorem Alo{S:World->Prop}{z:Array Bool}{fuel i dn:Nat}{o:Oper}{b:BV}{x:b.X}{K:Env->World->Prop}(hr:Rel Z s σs A L σ w)(hi:ops[i]? =some o)(hB:JA ops (tw z) listed i=true)(hp:L6 P n ops o s=some (dn, .on b))(hx:b.E=some x)(hSw:S w)
  (h:∀σ',Rel Z (s.set dn (b.v x)) σs A L σ' w->WD P n ops S (tw z) fuel (listed.setIfInBounds i true) K σ' w):WD P n ops S (tw z) (fuel+1) listed K σ w:=by
 obtain⟨d,op,ty,pos,after,g⟩:=o;have hm:=hr.mem;unfold L6 at hp;simp only at hp;split at hp
 ·cases hp
 ·rename_i d';cases hn:Nat.blt d' n with
  |false=>rw[hn]at hp;cases hp
  |true=>
   rw[hn]at hp;simp only[Axn,Ayh]at hp;try dsimp only[Dz]at hp
   split at hp
   ·cases hv:ZB P s op with
    |none=>rw[hv]at hp;cases hp
    |some u=>
     rw[hv]at hp;cases hp;obtain⟨h1,val,h2,h3⟩:=Aav hr hv hx;exact WD.x i hi hB hn hSw (λw' _=>h2 w') (h _ (hr.set (.put h1 h3)))
   ·rename_i j want;split at hp
    ·cases hp
    ·rename_i t hj;split at hp
     ·rename_i c hb;have ht:=pZ hm.sl hb;cases hw:nK want c with
      |true=>
       rw[hw]at hp;dsimp only[Dz,cond]at hp;cases hv:ZB P s op with
       |none=>rw[hv]at hp;cases hp
       |some u=>
        rw[hv]at hp;cases hp;obtain⟨h1,val,h2,h3⟩:=Aav hr hv hx;have hbw:(c==want)=true:=by rw[<-eS];exact hw
        refine WD.gx (v:=val) i hi hB hn hj ht hSw (λ_ w' _=>h2 w') (h _ ?_);rw[xP hbw];exact hr.set (.put h1 h3)
      |false=>rw[hw]at hp;cases hp
     ·rename_i c hb;cases hne:Nat.beq d' t with
      |true=>rw[hne]at hp;cases hp
      |false=>
       rw[hne]at hp;dsimp only[Dz,cond]at hp;cases hv:ZB P (s.res t want) op with
       |none=>rw[hv]at hp;cases hp
       |some u=>rw[hv]at hp;cases hp
     ·cases hp
theorem Aeh{S:World->Prop}{z:Array Bool}{fuel i dn t:Nat}{want bv:Bool}{o:Oper}{b:BV}{K:Env->World->Prop}{X:Go.Rx.S->Option R}(hr:Rel Z s σs A L σ w)(hi:ops[i]? =some o)(hB:JA ops (tw z) listed i=true)(hp:L6 P n ops o s=some (dn, .ask t want bv b))(hSw:S w)
  (hx:(Dz (nK want bv) (Option.bind b.E λx=>X ((s.res t bv).set dn (b.v x)))<|X ((s.res t bv).set dn .off))=some r)
  (h:∀s',s'.it=s.it->∀σ',Rel Z s' σs A L σ' w->X s'=some r->WD P n ops S (tw z) fuel (listed.setIfInBounds i true) K σ' w):WD P n ops S (tw z) (fuel+1) listed K σ w:=by
 obtain⟨d,op,ty,pos,after,g⟩:=o;have hm:=hr.mem;unfold L6 at hp;simp only at hp;split at hp
 ·cases hp
 ·rename_i d';cases hn:Nat.blt d' n with
  |false=>rw[hn]at hp;cases hp
  |true=>
   rw[hn]at hp;simp only[Axn,Ayh]at hp;try dsimp only[Dz]at hp
   split at hp
   ·cases hv:ZB P s op with
    |none=>rw[hv]at hp;cases hp
    |some u=>rw[hv]at hp;cases hp
   ·rename_i j want';split at hp
    ·cases hp
    ·rename_i t' hj;split at hp
     ·rename_i c hb;cases hw:nK want' c with
      |true=>
       rw[hw]at hp;dsimp only[Dz,cond]at hp;cases hv:ZB P s op with
       |none=>rw[hv]at hp;cases hp
       |some u=>rw[hv]at hp;cases hp
      |false=>rw[hw]at hp;cases hp
     ·rename_i c hb;have ht:=VE hm.sl hb;cases hne:Nat.beq d' t' with
      |true=>rw[hne]at hp;cases hp
      |false=>
       rw[hne]at hp;dsimp only[Dz,cond]at hp;cases hv:ZB P (s.res t' want') op with
       |none=>rw[hv]at hp;cases hp
       |some u=>
        rw[hv]at hp;cases hp;cases hw:nK want bv with
        |true=>
         rw[hw]at hx;dsimp only[Dz,cond]at hx;obtain⟨x,hx,hk⟩:=bind_some hx;have hbw:bv=want:=by cases want<;>cases bv<;>simp_all [nK]
         subst hbw;obtain⟨h1,val,h2,h3⟩:=Aav (hr.res ht) hv hx;refine WD.gx (v:=val) i hi hB hn hj ht hSw (λ_ w' _=>h2 w') (h ((s.res t bv).set dn (b.v x)) rfl _ ?_ hk);rw[xP (by simp)];exact(hr.res ht).set (.put h1 h3)
        |false=>
         rw[hw]at hx;dsimp only[Dz,cond]at hx;have hbw:(bv==want)=false:=by rw[<-eS];exact hw
         refine WD.gx (v:=Go.undef) i hi hB hn hj ht hSw (λhg=>by rw[hbw]at hg;cases hg) (h ((s.res t bv).set dn .off) rfl _ ?_ hx);rw[Aa5 hbw];exact(hr.res ht).set (show HB σ dn Go.undef dn=Go.undef from YL _ _ _)
     ·cases hp
theorem xL{z:Array Bool}:∀{is:List Nat} {i:Nat} {v:Nat×TypeId×Nat×List Step},ZH n ops z listed s is=some (i,v)->∃o,ops[i]? =some o/\JA ops (tw z) listed i=true/\Aoy n ops o s=some v
 |[],_,_,h=>by simp[ZH]at h
 |j::is,i,v,h=>by
  simp only[ZH]at h;split at h
  ·cases h
  ·rename_i o ho;split at h
   ·rename_i v' hp;cases h;cases ht:JA ops (tw z) listed j with
    |true=>rw[ht]at hp;exact⟨o,ho,by first|exact ht|rfl,hp⟩
    |false=>rw[ht]at hp;cases hp
   ·exact xL h
theorem Apw{d dn:Nat}{o:Op}{t:TypeId}{j:Nat}{p:List Step}{u:PV}{kk:PV->Option R}(hr:Rel Z s σs A L σ w)(hp:Anv s d o=some (dn,t,j,p))(h:getRoot (Dl s.it j) p kk=some r):
  d=dn/\∃u,kk u=some r/\ (Ru P t u=true->u.isV=true/\∃val,(∀w',Ext Z s σs A L σ w w'->XO P σ w' o val)/\Gs (λb=>A b/\Z.R b) w L u val):=by
 have hm:=hr.mem;unfold Anv at hp;split at hp
 ·rename_i t' x;split at hp
  ·rename_i i p' hx;split at hp
   ·cases hp
   ·rename_i hne;cases hp;obtain⟨md,b,h1,h2,h3⟩:=GH (Ei hm.sl hx rfl);obtain⟨h4,_⟩:=hm.root h1 (λe=>hne e);obtain⟨u,c1,c2,c3,hk,he,h5,h6⟩:=D9 h h4;refine⟨rfl,u,hk,λhb=>?_⟩;obtain⟨val,h7,h8⟩:=iO (P:=P) (σ:=σ) (x:=x) (b:=b) (off:=Be p) (Ww hb) h6 h3;obtain⟨hv,hv'⟩:=Of h7;refine⟨hv,val,λw' hext=>h8 w' λq hq=>?_,hv'⟩;obtain⟨A',L',it',ha,hr'⟩:=hext.ex;have h10:(L++L')[j]? =some md:=by rw[List.getElem?_append_left (List.getElem?_eq_some_iff.1 h1).1];exact h1
    rw[hr'.cells h10 h2 _ (by rw[he];simp;omega),he,List.getElem?_append_right (by omega),h5,show Be p+q-Be p=q by omega,List.getElem?_append_left hq]
  ·cases hp
 ·cases hp
theorem Aux{S:World->Prop}{z:Array Bool}{fuel i dn j:Nat}{t:TypeId}{p:List Step}{o:Oper}{kk:PV->Option R}{K:Env->World->Prop}(hr:Rel Z s σs A L σ w)(hi:ops[i]? =some o)(hB:JA ops (tw z) listed i=true)(hp:Aoy n ops o s=some (dn,t,j,p))(hg:getRoot (Dl s.it j) p kk=some r)(hSw:S w)
  (hS:∀w',S w'->Ext Z s σs A L σ w w') (hkk:∀u,kk u=some r->Ru P t u=true)
  (h:∀u σ',kk u=some r->Rel Z (s.set dn u) σs A L σ' w->WD P n ops S (tw z) fuel (listed.setIfInBounds i true) K σ' w):WD P n ops S (tw z) (fuel+1) listed K σ w:=by
 obtain⟨d,op,ty,pos,after,g⟩:=o;have hm:=hr.mem;unfold Aoy at hp;simp only at hp;split at hp
 ·cases hp
 ·rename_i d';cases hn:Nat.blt d' n with
  |false=>rw[hn]at hp;cases hp
  |true=>
   rw[hn]at hp;simp only[Axn,Ayh]at hp;try dsimp only[Dz]at hp
   split at hp
   ·obtain⟨rfl,u,hk,hu⟩:=Apw (P:=P) (u:= .undef) hr hp hg;obtain⟨h1,val,h2,h3⟩:=hu (hkk u hk);exact WD.x i hi hB hn hSw (λw' hw=>h2 w' (hS w' hw)) (h u _ hk (hr.set (.put h1 h3)))
   ·rename_i q want;split at hp
    ·cases hp
    ·rename_i t' hj;split at hp
     ·rename_i c hb;have ht:=pZ hm.sl hb;cases hw:nK want c with
      |true=>
       rw[hw]at hp;dsimp only[Dz,cond]at hp;obtain⟨rfl,u,hk,hu⟩:=Apw (P:=P) (u:= .undef) hr hp hg;obtain⟨h1,val,h2,h3⟩:=hu (hkk u hk);have hbw:(c==want)=true:=by rw[<-eS];exact hw
       refine WD.gx (v:=val) i hi hB hn hj ht hSw (λ_ w' hw=>h2 w' (hS w' hw)) (h u _ hk ?_);rw[xP hbw];exact hr.set (.put h1 h3)
      |false=>rw[hw]at hp;cases hp
     ·cases hp
theorem Af7{i t:Nat}{b:Bool}(hr:Rel Z s σs A L σ w)(h:Aax ops s i=some (t,b)):σ t= .bool b:=by
 unfold Aax at h;split at h
 ·cases h
 ·split at h
  ·cases h
  ·split at h
   ·cases h
   ·split at h
    ·rename_i hb;cases h;exact VE hr.mem.sl hb
    ·split at h
     ·rename_i hb;cases h;exact VE hr.mem.sl hb
     ·cases h
    ·cases h
theorem mB{fin:S->Option R}:∀{l:List Nat} {s:Go.Rx.S},Rel Z s σs A L σ w->dS ops l s fin=some r->∃s',Rel Z s' σs A L σ w/\s'.it=s.it/\fin s'=some r
 |[],s,hr,h=>⟨s,hr,rfl,h⟩
 |i::l,s,hr,h=>by
  rw[dS]at h;split at h
  ·rename_i t b hg;have ht:=Af7 hr hg;cases b with
   |true=>
    obtain⟨s',h1,h2,h3⟩:=mB (l:=l) (hr.res ht) (by simpa using h);exact⟨s',h1,h2,h3⟩
   |false=>
    obtain⟨s',h1,h2,h3⟩:=mB (l:=l) (hr.res ht) (by simpa using h);exact⟨s',h1,h2,h3⟩
  ·exact mB (l:=l) hr h
theorem Aq3(hT:pT P T Z)(hI:iI P T.gl inl):∀{fuel:Nat} {z0:Array Bool} {listed:Array Bool} {s:S} {A:Reg} {L:List MD} {σ:Env} {w:World} {S:World->Prop},Rel Z s σs A L σ w->ZA P T inl n mem ops fuel z0 listed s k=some r->
  (mem=true->XL (tw z0) listed=true\/∀w',sL Z σs A L s.it w w'->S w')-> (mem=false->∀w',GS Z σs w'->S w')->
  WD P n ops S (tw z0) fuel listed (λσ' w'=>∃s' A' L',k s'=some r/\Rel Z s' σs A' L' σ' w') σ w:=by
 intro fuel
 induction fuel with
 |zero=>
  intro z0 listed s A L σ w S hr h hI1 hI2;unfold ZA at h;split at h
  ·rename_i hrd;exact WD.done hrd ⟨s,A,L,h,hr⟩
  ·cases h
 |succ fuel ih=>
  intro z0 listed s A L σ w S hr h hI1 hI2;unfold ZA at h;split at h
  ·rename_i hrd;exact WD.done hrd ⟨s,A,L,h,hr⟩
  ·rename_i i is hrd;simp only at h;have rest:∀(z:Array Bool) (S:World->Prop) (s:Go.Rx.S),Rel Z s σs A L σ w-> (mem=true->∀w',sL Z σs A L s.it w w'->S w')-> (mem=false->∀w',GS Z σs w'->S w')->
     both (match ops[i]? with
        |some o=>Dz (mem&& !((M7 T s o&&gOk ops s o)||(!tw z i&&XL (tw z) (listed.setIfInBounds i true)))) (none)<|
         xX P T inl n ops o s λs'=>ZA P T inl n mem ops fuel z (listed.setIfInBounds i true) s' k
        |none=>none) (is.map λi=>match ops[i]? with
        |some o=>Dz (mem&& !((M7 T s o&&gOk ops s o)||(!tw z i&&XL (tw z) (listed.setIfInBounds i true)))) (none)<|
         xX P T inl n ops o s λs'=>ZA P T inl n mem ops fuel z (listed.setIfInBounds i true) s' k
        |none=>none)=some r->WD P n ops S (tw z) (fuel+1) listed (λσ' w'=>∃s' A' L',k s'=some r/\Rel Z s' σs A' L' σ' w') σ w:=by
    intro z S s hr hS1 hS2 h;obtain⟨h1,h2⟩:=V1 h;refine WD.steps hrd rfl ?_;intro q hq;have hone:(match ops[q]? with
       |some o=>Dz (mem&& !((M7 T s o&&gOk ops s o)||(!tw z q&&XL (tw z) (listed.setIfInBounds q true)))) (none)<|
        xX P T inl n ops o s λs'=>ZA P T inl n mem ops fuel z (listed.setIfInBounds q true) s' k
       |none=>none)=some r:=by
     rcases List.mem_cons.1 hq with rfl|hq
     ·exact h1
     ·exact h2 _ (List.mem_map_of_mem hq)
    split at hone
    ·rename_i o ho;refine⟨o,ho,?_⟩;cases hc:(mem&& !((M7 T s o&&gOk ops s o)||(!tw z q&&XL (tw z) (listed.setIfInBounds q true))))with
     |true=>rw[hc]at hone;cases hone
     |false=>
      rw[hc]at hone;dsimp only[Dz,cond]at hone;refine ZR (Ad5 hT hI hr hone) ?_;rintro σ' w' ⟨s',A',L',g1,g2,g3⟩;cases hmem:mem with
      |true=>
       subst hmem;simp only[Awg,Bool.not_eq_false',Atu,Aag,Asr]at hc;rcases hc with hc|⟨hc1,hc2⟩
       ·have g4:=g3 hc;refine⟨λ_=>hS1 rfl _ ⟨s',σ',A',L',g2,g4⟩,ih g2 g1 (λ_=> .inr λw'' hw=>?_) (λe=>by cases e)⟩;obtain⟨s2,σ2,A2,L2,h5,h6⟩:=hw;exact hS1 rfl _ ⟨s2,σ2,A2,L2,h5,g4.trans h6⟩
       ·refine⟨λhlt=>?_,ih g2 g1 (λ_=> .inl hc2) (λe=>by cases e)⟩;rw[hlt]at hc1;cases hc1
      |false=>
       subst hmem;exact⟨λ_=>hS2 rfl _ ⟨_,_,_,_,g2⟩,ih g2 g1 (λe=>by cases e) hS2⟩
    ·cases hone
   have main:∀(z:Array Bool) (S:World->Prop) (s:Go.Rx.S) (F:Option R),Rel Z s σs A L σ w-> (mem=true->∀w',sL Z σs A L s.it w w'->S w')-> (mem=false->∀w',GS Z σs w'->S w')-> (F=some r->WD P n ops S (tw z) (fuel+1) listed (λσ' w'=>∃s' A' L',k s'=some r/\Rel Z s' σs A' L' σ' w') σ w)->
     (match IW P T n mem ops z listed s (i::is)with
      |some (i,d,v)=>ZA P T inl n mem ops fuel z (listed.setIfInBounds i true) (s.set d v) k
      |none=>match RF P n ops z listed s (i::is)with
       |some (i,d, .on b)=>Option.bind b.E λx=>ZA P T inl n mem ops fuel z (listed.setIfInBounds i true) (s.set d (b.v x)) k
       |some (i,d, .ask t want bv b)=>if bv=true then
         (Dz (nK want true) (Option.bind b.E λx=>ZA P T inl n mem ops fuel z (listed.setIfInBounds i true) ((s.res t true).set d (b.v x)) k)<|ZA P T inl n mem ops fuel z (listed.setIfInBounds i true) ((s.res t true).set d .off) k)
         else(Dz (nK want false) (Option.bind b.E λx=>ZA P T inl n mem ops fuel z (listed.setIfInBounds i true) ((s.res t false).set d (b.v x)) k)<|ZA P T inl n mem ops fuel z (listed.setIfInBounds i true) ((s.res t false).set d .off) k)
       |none=>match(Dz (mem) (ZH n ops z listed s (i::is))<|none)with
       |some (i,d,t,j,p)=>getRoot (Dl s.it j) p λu=>Dz (Ru P t u) (ZA P T inl n mem ops fuel z (listed.setIfInBounds i true) (s.set d u) k)<|none
       |none=>F)=some r->WD P n ops S (tw z) (fuel+1) listed (λσ' w'=>∃s' A' L',k s'=some r/\Rel Z s' σs A' L' σ' w') σ w:=by
    intro z S s F hr hS1 hS2 hfin h;split at h
    ·rename_i i' d v hp;obtain⟨o,ho,hB,hp⟩:=rC hp;cases hmem:mem with
     |true=>
      subst hmem;refine WD.zB (S':=sL Z σs A L s.it w) (hS1 rfl) (Aeb hT hr ho hB hp (.refl hr) (λ_ w' hw=>hw.ext hr) (λw' hw=>(hw.ext hr).gs) λσ' hr'=>?_);exact ih hr' h (λ_=> .inr λw' hw=>hw) (λe=>by cases e)
     |false=>
      subst hmem;refine WD.zB (S':=GS Z σs) (hS2 rfl) (Aeb hT hr ho hB hp ⟨_,_,_,_,hr⟩ (λe=>by cases e) (λw' hw=>hw) λσ' hr'=>?_);exact ih hr' h (λe=>by cases e) (λ_ w' hw=>hw)
    ·split at h
     ·rename_i i' d b hp;obtain⟨o,ho,hB,hp⟩:=gZ hp;obtain⟨x,hx,h⟩:=bind_some h;cases hmem:mem with
      |true=>
       subst hmem;refine WD.zB (S':=sL Z σs A L s.it w) (hS1 rfl) (Alo hr ho hB hp hx (.refl hr) λσ' hr'=>?_);exact ih hr' h (λ_=> .inr λw' hw=>hw) (λe=>by cases e)
      |false=>
       subst hmem;refine Alo hr ho hB hp hx (hS2 rfl _ ⟨_,_,_,_,hr⟩) λσ' hr'=>?_;exact ih hr' h (λe=>by cases e) hS2
     ·rename_i i' d t want bv b hp;obtain⟨o,ho,hB,hp⟩:=gZ hp;have h:(Dz (nK want bv) (Option.bind b.E λx=>ZA P T inl n mem ops fuel z (listed.setIfInBounds i' true) ((s.res t bv).set d (b.v x)) k)<|ZA P T inl n mem ops fuel z (listed.setIfInBounds i' true) ((s.res t bv).set d .off) k)=some r:=by
       cases bv with
       |true=>simpa using h
       |false=>simpa using h
      cases hmem:mem with
      |true=>
       subst hmem;refine WD.zB (S':=sL Z σs A L s.it w) (hS1 rfl) (Aeh (X:=λs'=>ZA P T inl n true ops fuel z (listed.setIfInBounds i' true) s' k) hr ho hB hp (.refl hr) h λs' hs' σ' hr' h=>?_);exact ih hr' h (λ_=> .inr λw' hw=>hs'▸hw) (λe=>by cases e)
      |false=>
       subst hmem;refine Aeh (X:=λs'=>ZA P T inl n false ops fuel z (listed.setIfInBounds i' true) s' k) hr ho hB hp (hS2 rfl _ ⟨_,_,_,_,hr⟩) h λs' hs' σ' hr' h=>?_;exact ih hr' h (λe=>by cases e) hS2
     ·split at h
      ·rename_i i' d t j p hp;cases hmem:mem with
       |false=>rw[hmem]at hp;cases hp
       |true=>
        subst hmem;dsimp only[Dz,cond]at hp;obtain⟨o,ho,hB,hp⟩:=xL hp;refine WD.zB (S':=sL Z σs A L s.it w) (hS1 rfl) (Aux (P:=P) hr ho hB hp h (.refl hr) (λw' hw=>hw.ext hr) (λu hu=>(Bj hu).1) λu σ' hu hr'=>?_);exact ih hr' (Bj hu).2 (λ_=> .inr λw' hw=>hw) (λe=>by cases e)
      exact hfin h
   have all:∀(z:Array Bool) (S:World->Prop),(mem=true->∀w',sL Z σs A L s.it w w'->S w')-> (mem=false->∀w',GS Z σs w'->S w')->
     (match IW P T n mem ops z listed s (i::is)with
      |some (i,d,v)=>ZA P T inl n mem ops fuel z (listed.setIfInBounds i true) (s.set d v) k
      |none=>match RF P n ops z listed s (i::is)with
       |some (i,d, .on b)=>Option.bind b.E λx=>ZA P T inl n mem ops fuel z (listed.setIfInBounds i true) (s.set d (b.v x)) k
       |some (i,d, .ask t want bv b)=>if bv=true then
         (Dz (nK want true) (Option.bind b.E λx=>ZA P T inl n mem ops fuel z (listed.setIfInBounds i true) ((s.res t true).set d (b.v x)) k)<|ZA P T inl n mem ops fuel z (listed.setIfInBounds i true) ((s.res t true).set d .off) k)
         else(Dz (nK want false) (Option.bind b.E λx=>ZA P T inl n mem ops fuel z (listed.setIfInBounds i true) ((s.res t false).set d (b.v x)) k)<|ZA P T inl n mem ops fuel z (listed.setIfInBounds i true) ((s.res t false).set d .off) k)
       |none=>match(Dz (mem) (ZH n ops z listed s (i::is))<|none)with
       |some (i,d,t,j,p)=>getRoot (Dl s.it j) p λu=>Dz (Ru P t u) (ZA P T inl n mem ops fuel z (listed.setIfInBounds i true) (s.set d u) k)<|none
       |none=>(λs=>Dz mem (dS ops ((i::is)++(i::is)) s λs=>(match IW P T n mem ops z listed s (i::is)with
      |some (i,d,v)=>ZA P T inl n mem ops fuel z (listed.setIfInBounds i true) (s.set d v) k
      |none=>match RF P n ops z listed s (i::is)with
       |some (i,d, .on b)=>Option.bind b.E λx=>ZA P T inl n mem ops fuel z (listed.setIfInBounds i true) (s.set d (b.v x)) k
       |some (i,d, .ask t want bv b)=>if bv=true then
         (Dz (nK want true) (Option.bind b.E λx=>ZA P T inl n mem ops fuel z (listed.setIfInBounds i true) ((s.res t true).set d (b.v x)) k)<|ZA P T inl n mem ops fuel z (listed.setIfInBounds i true) ((s.res t true).set d .off) k)
         else(Dz (nK want false) (Option.bind b.E λx=>ZA P T inl n mem ops fuel z (listed.setIfInBounds i true) ((s.res t false).set d (b.v x)) k)<|ZA P T inl n mem ops fuel z (listed.setIfInBounds i true) ((s.res t false).set d .off) k)
       |none=>match(Dz (mem) (ZH n ops z listed s (i::is))<|none)with
       |some (i,d,t,j,p)=>getRoot (Dl s.it j) p λu=>Dz (Ru P t u) (ZA P T inl n mem ops fuel z (listed.setIfInBounds i true) (s.set d u) k)<|none
       |none=>both (match ops[i]? with
        |some o=>Dz (mem&& !((M7 T s o&&gOk ops s o)||(!tw z i&&XL (tw z) (listed.setIfInBounds i true)))) (none)<|
         xX P T inl n ops o s λs'=>ZA P T inl n mem ops fuel z (listed.setIfInBounds i true) s' k
        |none=>none) (is.map λi=>match ops[i]? with
        |some o=>Dz (mem&& !((M7 T s o&&gOk ops s o)||(!tw z i&&XL (tw z) (listed.setIfInBounds i true)))) (none)<|
         xX P T inl n ops o s λs'=>ZA P T inl n mem ops fuel z (listed.setIfInBounds i true) s' k
        |none=>none)))<|both (match ops[i]? with
        |some o=>Dz (mem&& !((M7 T s o&&gOk ops s o)||(!tw z i&&XL (tw z) (listed.setIfInBounds i true)))) (none)<|
         xX P T inl n ops o s λs'=>ZA P T inl n mem ops fuel z (listed.setIfInBounds i true) s' k
        |none=>none) (is.map λi=>match ops[i]? with
        |some o=>Dz (mem&& !((M7 T s o&&gOk ops s o)||(!tw z i&&XL (tw z) (listed.setIfInBounds i true)))) (none)<|
         xX P T inl n ops o s λs'=>ZA P T inl n mem ops fuel z (listed.setIfInBounds i true) s' k
        |none=>none)) s)=some r->WD P n ops S (tw z) (fuel+1) listed (λσ' w'=>∃s' A' L',k s'=some r/\Rel Z s' σs A' L' σ' w') σ w:=by
    intro z S hS1 hS2 h;refine main z S s _ hr hS1 hS2 (λhF=>?_) h;clear h;cases hmem:mem with
    |false=>
     simp only[hmem,Dz]at hF;subst hmem;exact rest z S s hr hS1 hS2 hF
    |true=>
     simp only[hmem,Dz]at hF;subst hmem;obtain⟨s',hr',hit,h'⟩:=mB hr hF;refine main z S s' _ hr' (by rw[hit];exact hS1) hS2 (λhG=>?_) h';exact rest z S s' hr' (by rw[hit];exact hS1) hS2 hG
   cases hz:(mem&&XL (tw z0) listed)with
   |true=>
    rw[hz]at h;simp only[Aag]at hz;obtain⟨hm,hov⟩:=hz;subst hm;exact WD.next (S':=sL Z σs A L s.it w) _ hov (all _ _ (λ_ w' hw=>hw) (λe=>by cases e) h)
   |false=>
    rw[hz]at h;refine all _ _ (λhm=>?_) hI2 h;subst hm;rcases hI1 rfl with h1|h1
    ·rw[h1]at hz;cases hz
    ·exact h1
end Go.Rx
namespace Go.Rx
open Go Go.Lv
variable {P:Program} {B B':Reg} {w w':World} {L L':List MD} {s:S} {σs:List Env} {σ:Env} {Z:Fix} {A A':Reg} {n:Nat} {ops:Array Oper}
variable {R:Type} {k:S->Option R} {r:R}
def Ap8(w:World)(A:Reg)(L:List Mob)(os:Nat->Option Nat):Prop:=
 (∀(i:Nat) (m:Mob),L[i]? =some m->m.holds (os i) w/\∀b,os i=some b-> ¬A b/\b<w.heap.size)/\∀i j b,i<L.length->j<L.length->i≠j->os i=some b->os j≠some b
theorem Eo.toI:∀{L:List Mob} {A:Reg},Eo w A L->∃os,Ap8 w A L os
 |[],A,_=>⟨λ_=>none,λi m h=>by simp at h,λi j b h=>by simp at h⟩
 |m::L,A,⟨o,h1,h2,h3⟩=>by
  obtain⟨os,g1,g2⟩:=Eo.toI h3;refine⟨λi=>match i with|0=>o|i+1=>os i,λi m' h=>?_,λi j b hi hj hij h=>?_⟩
  ·cases i with
   |zero=>simp at h;subst h;exact⟨h1,h2⟩
   |succ i=>
    obtain⟨g3,g4⟩:=g1 i m' (by simpa using h);exact⟨g3,λb hb=>⟨λhA=>(g4 b hb).1 (.inl hA),(g4 b hb).2⟩⟩
  ·have key:∀q,q<L.length->∀b,os q=some b->o≠some b:=λq hq b hb ho=>by
    exact((g1 q L[q] (by simp[hq])).2 b hb).1 (.inr ho)
   cases i with
   |zero=>
    cases j with
    |zero=>exact absurd rfl hij
    |succ j=>intro hb;exact key j (by simpa using hj) b hb h
   |succ i=>
    cases j with
    |zero=>exact key i (by simpa using hi) b h
    |succ j=>exact g2 i j b (by simpa using hi) (by simpa using hj) (by omega) h
theorem Eo.ofI:∀{L:List Mob} {A:Reg} {os:Nat->Option Nat},Ap8 w A L os->Eo w A L
 |[],_,_,_=>trivial
 |m::L,A,os,⟨g1,g2⟩=>by
  obtain⟨h1,h2⟩:=g1 0 m rfl;refine⟨os 0,h1,h2,Eo.ofI (os:=λi=>os (i+1)) ⟨λi m' h=>?_,λi j b hi hj hij h=>?_⟩⟩
  ·obtain⟨g3,g4⟩:=g1 (i+1) m' (by simpa using h);refine⟨g3,λb hb=>⟨λhA=>?_,(g4 b hb).2⟩⟩;rcases hA with hA|hA
   ·exact(g4 b hb).1 hA
   ·have hlt:i<L.length:=(List.getElem?_eq_some_iff.1 h).1;exact g2 0 (i+1) b (by simp) (by simpa using hlt) (by omega) hA hb
  ·exact g2 (i+1) (j+1) b (by simpa using hi) (by simpa using hj) (by omega) h
def distinct:List Nat->Bool|[]=>true|i::r=>!GM i r&&distinct r
theorem qE:∀{l:List Nat} {i j q:Nat},distinct l=true->l[i]? =some q->l[j]? =some q->i=j
 |[],_,_,_,_,h,_=>by simp at h
 |a::l,i,j,q,hd,hi,hj=>by
  simp only[distinct,Aag,Asr]at hd;have hn:a∉l:=λh=>by have:=II.2 h;rw[hd.1]at this;cases this
  cases i with
  |zero=>
   cases j with
   |zero=>rfl
   |succ j=>simp at hi hj;subst hi;exact absurd (List.mem_of_getElem? hj) hn
  |succ i=>
   cases j with
   |zero=>simp at hi hj;subst hj;exact absurd (List.mem_of_getElem? hi) hn
   |succ j=>exact congrArg (· +1) (qE (q:=q) hd.2 (by simpa using hi) (by simpa using hj))
theorem yN{w:World}:MD.dead.Ng.holds none w:=⟨none,0,0,rfl,by simp,Alw _,λ_=>rfl,λ_=>rfl,λb h=>by cases h⟩
theorem getD_some{i:Nat}{md:MD}(h:L[i]? =some md):L.getD i .dead=md:=by simp[List.getD_eq_getElem?_getD,h]
theorem getD_none{i:Nat}(h:L[i]? =none):L.getD i .dead= .dead:=by simp[List.getD_eq_getElem?_getD,h]
def zx(o:List Nat)(L:List MD)(os:Nat->Option Nat)(j:Nat):Option Nat:=match o[j]? with|some i=>(match L[i]? with|some _=>os i|none=>none)|none=>none
theorem nR{o:List Nat}{os:Nat->Option Nat}{i j:Nat}{md:MD}(h:o[j]? =some i)(hL:L[i]? =some md):zx o L os j=os i:=by unfold zx;rw[h];simp only[hL]
theorem oZ{o:List Nat}{os:Nat->Option Nat}{i j:Nat}(h:o[j]? =some i)(hL:L[i]? =none):zx o L os j=none:=by unfold zx;rw[h];simp only[hL]
theorem J9{o:List Nat}(h:Eo w A (L.map MD.Ng))(hd:distinct o=true):Eo w A ((o.map λi=>L.getD i .dead).map MD.Ng):=by
 obtain⟨os,g1,g2⟩:=Eo.toI h;refine Eo.ofI (os:=zx o L os) ⟨λj m hm=>?_,λi j b hi hj hij hb=>?_⟩
 ·simp only[List.map_map,List.getElem?_map,Axb,Function.comp]at hm;obtain⟨i,hi,rfl⟩:=hm;cases hL:L[i]? with
  |none=>rw[getD_none hL,oZ hi hL];exact⟨yN,λb hb=>by cases hb⟩
  |some md=>rw[getD_some hL,nR hi hL];exact g1 i md.Ng (by simp[hL])
 ·simp only[List.length_map]at hi hj;have e1:o[i]? =some o[i]:=by simp[hi]
  have e2:o[j]? =some o[j]:=by simp[hj]
  have hne:o[i]≠o[j]:=λe=>hij (qE hd e1 (by rw[e2,e]));cases hL1:L[o[i]]? with
  |none=>rw[oZ e1 hL1]at hb;cases hb
  |some m1=>
   rw[nR e1 hL1]at hb;cases hL2:L[o[j]]? with
   |none=>rw[oZ e2 hL2];simp
   |some m2=>
    rw[nR e2 hL2];exact g2 _ _ b (by simpa using(List.getElem?_eq_some_iff.1 hL1).1) (by simpa using(List.getElem?_eq_some_iff.1 hL2).1) hne hb
theorem zo{i:Nat}:∀{o:List Nat} {m j:Nat},posOf i o m=some j->∃q,j=m+q/\o[q]? =some i
 |[],_,_,h=>by simp[posOf]at h
 |a::o,m,j,h=>by
  simp only[posOf]at h;cases hb:Nat.beq i a with
  |true=>rw[hb]at h;cases h;exact⟨0,rfl,by simp[Ds hb]⟩
  |false=>
   rw[hb]at h;obtain⟨q,h1,h2⟩:=zo (o:=o) h;exact⟨q+1,by omega,by simpa using h2⟩
theorem tE{o:List Nat}{i j:Nat}{md:MD}(h:posOf i o 0=some j)(hL:L[i]? =some md):(o.map λi=>L.getD i .dead)[j]? =some md:=by
 obtain⟨q,h1,h2⟩:=zo h;rw[Avg]at h1;subst h1;simp[h2,List.getD_eq_getElem?_getD,hL]
theorem Adu{o:List Nat}{p:PV}:(G5 o p).isA=p.isA:=by
 cases p<;>try rfl
 ·simp only[G5];split<;>rfl
 ·simp only[G5];split<;>rfl
 ·simp only[G5];split<;>rfl
abbrev mN(L:List MD):Prop:=L.all (λm=>match m with| .own _ _ v _=>v.oneCell'|_=>true)=true
mutual
theorem pQ{o:List Nat}(h1:mN L):∀{p:PV} {cs:List Value},Bt B w L p cs->Bt B w (o.map λi=>L.getD i .dead) (G5 o p) cs
 | .val _ x,cs,h=>h
 | .agg q,cs,h=>zl h1 (show Bt.go B w L q cs from h)
 | .tup _,_,h=>h.elim
 | .nils,cs,h=>h
 | .own j,cs,⟨z,E,v,c,g1,g2⟩=>by
  simp only[G5];split
  ·rename_i j' hj;exact⟨z,E,v,c,tE hj g1,g2⟩
  ·exact⟨v,g2,List.all_eq_true.1 h1 _ (List.mem_of_getElem? g1)⟩
 | .ptr j q,cs,⟨md,b,g1,g2,g3⟩=>by
  simp only[G5];split
  ·rename_i j' hj;exact⟨md,b,tE hj g1,g2,g3⟩
  ·exact⟨_,g3,rfl⟩
 | .view u j p e lo n,cs,⟨md,v,g1,g2,g3⟩=>by
  simp only[G5];split
  ·rename_i j' hj;exact⟨md,v,tE hj g1,g2,g3⟩
  ·obtain⟨_,_,⟨pt,cap,e',_⟩,_⟩:=g3;exact⟨v,g2,by rw[e'];rfl⟩
 | .rptr v,cs,⟨pv,c0,g1,g2,g3⟩=>⟨pv,c0,g1,g2,pQ h1 g3⟩
 | .fn f caps,cs,⟨vs,g1,g2⟩=>⟨vs,g1,wT h1 g2⟩
 | .cst v,cs,h=>h
 | .any,cs,h=>h
 | .gd _ _ _,_,h=>h.elim
 | .off,_,h=>h.elim
 | .undef,_,h=>h.elim
theorem zl{o:List Nat}(h1:mN L):∀{q:List PV} {cs:List Value},Bt.go B w L q cs->Bt.go B w (o.map λi=>L.getD i .dead) (G5.go o q) cs
 |[],cs,h=>h
 |a::q,cs,⟨c1,c2,e',g1,g2⟩=>⟨c1,c2,e',pQ h1 g1,zl h1 g2⟩
theorem wT{o:List Nat}(h1:mN L):∀{q:List PV} {vs:List Value},Jd B w L q vs->Jd B w (o.map λi=>L.getD i .dead) (G5.go o q) vs
 |[],vs,h=>h
 |a::q,vs,⟨v,vs',e',g1,g2⟩=>⟨v,vs',e',by rw[Adu];exact g1.mono λc h=>pQ h1 h,wT h1 g2⟩
end
theorem yh{o:List Nat}(h1:mN L){p:PV}{v:Value}(h:Gs B w L p v):Gs B w (o.map λi=>L.getD i .dead) (G5 o p) v:=by
 cases hp:p.X3 with
 |true=>
  have h2:Mc B w (o.map λi=>L.getD i .dead) (G5 o p) v:=by
   unfold Mc;rw[Adu];exact asV.mono (λc h=>pQ h1 h) ((jE hp).1 h)
  exact(Of h2).2
 |false=>
  cases p
  case tup q=>obtain⟨vs,g1,g2⟩:=h;exact⟨vs,g1,wT h1 g2⟩
  case undef=>exact(show False from h).elim
  case off=>exact(show False from h).elim
  case gd=>exact(show False from h).elim
  all_goals cases hp
theorem Afs{o:List Nat}(h1:mN L){t:Nat}{p:PV}(h:Na B w L σ t p):Na B w (o.map λi=>L.getD i .dead) σ t (G5 o p):=by
 cases hv:p.isV with
 |true=>
  have g1:=yh (o:=o) h1 ((Na.iff hv).1 h);have g2:(G5 o p).isV=true:=by
   cases p<;>first|rfl|cases hv|skip
   ·simp only[G5];split<;>rfl
   ·simp only[G5];split<;>rfl
   ·simp only[G5];split<;>rfl
  exact(Na.iff g2).2 g1
 |false=>
  rcases IM hv with rfl|rfl|⟨j,u,q,rfl⟩
  ·exact trivial
  ·exact h
  ·obtain⟨b,g1,g2,g3⟩:=h;exact⟨b,g1,λe=>yh h1 (g2 e),g3⟩
theorem A8{o:List Nat}(h1:mN L){sl:Slots}(h:If B w L σ sl):If B w (o.map λi=>L.getD i .dead) σ (Aew o sl):=by
 intro p hp;obtain⟨q,hq,rfl⟩:=List.mem_map.1 hp;exact Afs h1 (h q hq)
theorem B9{o:List Nat}(h1:mN L):∀{σs:List Env} {st:List Slots},dG B w L σs st->dG B w (o.map λi=>L.getD i .dead) σs (st.map (Aew o))
 |[],[],h=>h
 |_::_,_::_,⟨g1,g2⟩=>⟨A8 h1 g1,B9 h1 g2⟩
theorem O3{o:List Nat}(h1:mN L){a:Item}{md:MD}(h:GN B w L a md):GN B w (o.map λi=>L.getD i .dead) (Apu o a) md:=by
 cases a<;>cases md<;>first
  |exact h
  |exact⟨h.1,pQ h1 h.2⟩
theorem cQ{sl:Slots}(h:If B w L σ sl):∀(lv:List Nat),If B w L σ (nF sl lv)
 |[]=>λp hp=>by simp[nF]at hp
 |t::lv=>by
  intro p hp;simp only[nF]at hp;split at hp
  ·exact cQ h lv p hp
  ·exact cQ h lv p hp
  ·exact cQ h lv p hp
  ·rcases List.mem_cons.1 hp with rfl|hp
   ·exact Zb (s:=⟨sl,[],[]⟩) (t:=t) h
   ·exact cQ h lv p hp
theorem nB:∀{l:List Nat} {i:Nat},distinct l=true->GM i l=false->distinct (l++[i])=true
 |[],_,_,_=>rfl
 |a::l,i,hd,hi=>by
  simp only[distinct,Aag,Asr]at hd;simp only[GM,Axp]at hi;simp only[Axh,distinct,Aag,Asr];refine⟨?_,nB hd.2 hi.2⟩;cases hx:GM a (l++[i])with
  |false=>rfl
  |true=>
   rcases List.mem_append.1 (II.1 hx)with h|h
   ·have:=II.2 h;rw[hd.1]at this;cases this
   ·simp at h;subst h;simp at hi
theorem VU{it:List Item}:∀(q:Nat) (todo seen:List Nat),distinct seen=true->distinct (reach it q todo seen)=true
 |0,_,_,h=>h
 |_+1,[],_,h=>h
 |q+1,i::todo,seen,h=>by
  simp only[reach];cases he:GM i seen with
  |true=>exact VU q _ _ h
  |false=>exact VU q _ _ (nB h he)
theorem Ak5(hr:Rel Z s σs A L σ w)(lv:List Nat):∃L',Rel Z (s.canon lv) σs A L' σ w:=by
 have hm:=hr.mem;have h1:mN L:=hr.mN;unfold S.canon;simp only;generalize ho:reach s.it 200 (X8 (nF s.sl lv)++(s.st.map X8).flatten) []=o;have hd:distinct o=true:=by rw[<-ho];exact VU _ _ _ rfl
 refine⟨o.map λi=>L.getD i .dead,?_⟩;have hst:St A w [nT Z.R L s σs σ, .old Z.M Z.w0] ((o.map λi=>L.getD i .dead).map MD.Ng):=⟨St.lt hr,St.facts hr,J9 (St.mobs hr) hd⟩;refine Rel.as hst (i:=1) rfl ⟨⟨by simp,λj a m g1 g2=>?_⟩,A8 h1 (cQ hm.sl lv),B9 h1 hm.stk⟩ rfl;simp only[List.getElem?_map,Axb]at g1 g2;obtain⟨i,g3,rfl⟩:=g1;obtain⟨i',g4,rfl⟩:=g2;rw[g3]at g4;cases g4;cases hi:Dl s.it i with
 |dead=>exact trivial
 |box T v=>
  obtain⟨md,g5,g6⟩:=hm.item hi (by intro e;cases e);rw[getD_some g5];exact O3 h1 g6
 |arr E e l=>
  obtain⟨md,g5,g6⟩:=hm.item hi (by intro e;cases e);rw[getD_some g5];exact O3 h1 g6
theorem xU:∀{p:List Nat} {v u:PV} {cs:List Value},atV v p=some u->Bt B w L v cs-> (∃c,Bt B w L u c)/\∀(B':Reg) (w':World) (L':List MD) (m v':PV),(∀q c,Bt B w L q c->Bt B' w' L' q c)-> (∀c,Bt B w L u c->Bt B' w' L' m c)->m.isA=u.isA->Ab2 m v p=some v'->Bt B' w' L' v' cs/\v'.isA=v.isA
 |[],v,u,cs,h,hv=>by
  simp only[atV,Ab0]at h;subst h;refine⟨⟨cs,hv⟩,λB' w' L' m v' _ hm hA hp=>?_⟩;simp only[Ab2,Ab0]at hp;subst hp;exact⟨hm _ hv,hA⟩
 |i::p,v,u,cs,h,hv=>by
  cases v<;>simp only[atV,reduceCtorEq]at h;rename_i l;split at h
  ·rename_i f hf;obtain⟨c1,c2,c3,e,h1,h2,h3⟩:=Bt.field (show Bt.go B w L l cs from hv) hf;obtain⟨g1,g2⟩:=xU h h2;refine⟨g1,λB' w' L' m v' hq hm hA hp=>?_⟩;simp only[Ab2,hf]at hp;split at hp
   ·rename_i f' hf';cases hp;obtain⟨g3,_⟩:=g2 B' w' L' m f' hq hm hA hf';refine⟨?_,rfl⟩;have hl:Bt.go B' w' L' l cs:=show Bt B' w' L' (.agg l) cs from hq _ _ hv;obtain⟨d1,d2,d3,e',k1,k2,k3⟩:=Bt.field hl hf;have:d2=c2:=by
     have l1:d1.length=c1.length:=k1.trans h1.symm;have l2:d2.length=c2.length:=k2.len.trans h2.len.symm;rw[e]at e';obtain⟨e1,e2⟩:=List.append_inj e' l1.symm;obtain⟨e3,_⟩:=List.append_inj e2 l2.symm;exact e3.symm
    rw[e'];exact k3 _ _ (by rw[this];exact g3)
   ·cases hp
  ·cases h
theorem cu(hr:Rel Z s σs A L σ w)(E:TypeId)(e:ET):Rel Z (s.add (.arr E e [])) σs A (L++[.own e.size E (.slice none 0 0) []]) σ w:=
 Rel.push (a:= .arr E e []) (md:= .own e.size E (.slice none 0 0) []) (St.U1 hr e.size E) ⟨rfl,rfl,rfl⟩
theorem zR{i b:Nat}{T:TypeId}{v':PV}{cells:List Value}(hr:Rel Z s σs A L σ w)(hL:L[i]? =some (.box b cells T))(hv:Bt (λb=>A b/\Z.R b) w L v' cells):Rel Z (s.HB i (.box T v')) σs A L σ w:=by
 have hm:=hr.mem;refine Rel.as hr (i:=1) rfl ⟨⟨by simp[S.HB,lQ,hm.it.1],λj a m h1 h2=>?_⟩,hm.sl,hm.stk⟩ rfl;simp only[S.HB]at h1;rcases lO h1 with⟨rfl,rfl⟩|⟨_,h4⟩
 ·rw[hL]at h2;cases h2;exact⟨rfl,hv⟩
 ·exact hm.it.2 j a m h4 h2
theorem kg{t:Nat}{m:PV}:∀{sl:Slots} {q:Nat} {v:PV},(q,v)∈Ab6 t m sl-> (q,v)∈sl\/ (q=t/\v=m)
 |[],_,_,h=>by simp[Ab6]at h
 |(q',v')::r,q,v,h=>by
  simp only[Ab6]at h;cases hb:Nat.beq q' t with
  |true=>
   rw[hb]at h;rcases List.mem_cons.1 h with h|h
   ·cases h;exact .inr ⟨Ds hb,rfl⟩
   ·exact .inl (.tail _ h)
  |false=>
   rw[hb]at h;rcases List.mem_cons.1 h with h|h
   ·cases h;exact .inl (.head _)
   ·exact(kg h).imp (.tail _) id
theorem zJ{t:Nat}{m:PV}(hr:Rel Z s σs A L σ w)(hm:Na (λb=>A b/\Z.R b) w L σ t m):Rel Z ⟨Ab6 t m s.sl,s.it,s.st⟩ σs A L σ w:=by
 refine hr.Ac9 rfl rfl ?_;rintro⟨q,v⟩ hp;rcases kg hp with h|⟨rfl,rfl⟩
 ·exact hr.mem.sl _ h
 ·exact hm
theorem yx{e:ET}{c:List Value}(h:Bt B w L .nils c):Bt B w L (.val (.list e) []) c:=⟨_,[],show c=_ from h,Rd.nil,rfl⟩
theorem Am3{a:At}{s':S}(hr:Rel Z s σs A L σ w)(h:Asu s a=some s'):∃A' L',Rel Z s' σs A' L' σ w:=by
 have hm:=hr.mem;unfold Asu at h;simp only at h;split at h
 ·
  rename_i i q hsl;split at h
  ·rename_i T v hi;split at h
   ·rename_i u hu;obtain⟨b,cells,hL,hv⟩:=hm.box hi;split at h
    ·rename_i E e _;split at h
     ·rename_i v' hv';cases h;obtain⟨_,g⟩:=xU hu hv;have hr2:=cu hr E e;have hL2:(L++[.own e.size E (.slice none 0 0) []])[i]? =some (.box b cells T):=by rw[List.getElem?_append_left (List.getElem?_eq_some_iff.1 hL).1];exact hL
      obtain⟨g1,_⟩:=g (λb=>A b/\Z.R b) w (L++[.own e.size E (.slice none 0 0) []]) (.own s.new) v' (λq c h=>Bt.step (λ_ h=>h) (λ_ _=>rfl) (gV.append _ _) h)
       (λc hc=>⟨e.size,E,_,[],by rw[S.new,hr.len];simp,hc⟩) rfl hv'
      exact⟨_,_,zR hr2 hL2 g1⟩
     ·cases h
    ·cases h;exact⟨A,L,hr⟩
    ·rename_i e _;split at h
     ·rename_i v' hv';cases h;obtain⟨_,g⟩:=xU hu hv;obtain⟨g1,_⟩:=g (λb=>A b/\Z.R b) w L (.val (.list e) []) v' (λq c h=>h) (λc hc=>yx hc) rfl hv';exact⟨_,_,zR hr hL g1⟩
     ·cases h
    ·obtain⟨A',h1,_⟩:=nW hr h;exact⟨A',_,h1⟩
    ·cases h;exact⟨A,L,hr⟩
    ·cases h
   ·cases h
  ·cases h
 split at h
 ·
  rename_i o i p e1 lo n hsl;split at h
  ·rename_i E e _ _;obtain⟨hb,h⟩:=Bj h;split at h
   ·rename_i s1 j h1;cases h;have hx:Gw s.sl (.tmp a.t)= .view o i p e1 lo n:=by simp only[Gw,hsl]
    obtain⟨L1,hr1,c0,hL⟩:=wz (x:= .tmp a.t) hr (by simpa [Nat.blt_eq]using hb) (by rw[hx];rfl) (by rw[hx];exact h1);exact⟨_,_,zJ hr1 ⟨_,_,_,_,hL,rfl⟩⟩
   ·cases h
  ·cases h
 ·
  split at h
  ·rename_i u hu;have hsl:=Zb (t:=a.t) hm.sl;have Aqn:∀(B':Reg) (L':List MD) (m v':PV),(∀q c,Bt (λb=>A b/\Z.R b) w L q c->Bt B' w L' q c)-> (∀c,Bt (λb=>A b/\Z.R b) w L u c->Bt B' w L' m c)->m.isA=u.isA->u= .nils->Ab2 m (JM s.sl a.t) a.p=some v'->Na B' w L' σ a.t v':=by
    intro B' L' m v' hq hmu hA hun hp;have hP:(JM s.sl a.t).X3=true:=by
     revert hu
     generalize JM s.sl a.t=x;generalize a.p=pp;intro hu;cases pp with
     |nil=>simp only[atV,Ab0]at hu;rw[hu,hun];rfl
     |cons _ _=>cases x<;>first|rfl|simp[atV]at hu
    have hE:Mc (λb=>A b/\Z.R b) w L (JM s.sl a.t) (σ a.t):=(jE hP).1 ((Na.iff (PV.M9 hP)).1 hsl);have key:Mc B' w L' v' (σ a.t):=by
     unfold Mc asV at hE;split at hE
     ·rename_i hA';obtain⟨cs,e1,hc⟩:=hE;obtain⟨_,g⟩:=xU hu hc;obtain⟨g1,g2⟩:=g B' w L' m v' hq hmu hA hp;unfold Mc;rw[g2,hA'];exact⟨cs,e1,g1⟩
     ·rename_i hA';obtain⟨_,g⟩:=xU hu hE;obtain⟨g1,g2⟩:=g B' w L' m v' hq hmu hA hp;unfold Mc;rw[g2,hA'];exact g1
    obtain⟨k1,k2⟩:=Of key;exact(Na.iff k1).2 k2
   split at h
   ·rename_i E e _;split at h
    ·rename_i v' hv';cases h;have hr2:=cu hr E e;exact⟨_,_,zJ (s:=s.add (.arr E e [])) hr2 (Aqn _ _ (.own s.new) v' (λq c h=>Bt.step (λ_ h=>h) (λ_ _=>rfl) (gV.append _ _) h) (λc hc=>⟨e.size,E,_,[],by rw[S.new,hr.len];simp,hc⟩) rfl rfl hv')⟩
    ·cases h
   ·cases h;exact⟨A,L,hr⟩
   ·rename_i e _;split at h
    ·rename_i v' hv';cases h;exact⟨_,_,zJ hr (Aqn _ _ (.val (.list e) []) v' (λq c h=>h) (λc hc=>yx hc) rfl rfl hv')⟩
    ·cases h
   ·obtain⟨A',h1,_⟩:=nW hr h;exact⟨A',_,h1⟩
   ·cases h;exact⟨A,L,hr⟩
   ·cases h
  ·cases h
theorem Ad6:∀{l:List At} {s s':S} {A:Reg} {L:List MD},Rel Z s σs A L σ w->Aik s l=some s'->∃A' L',Rel Z s' σs A' L' σ w
 |[],s,s',A,L,hr,h=>by simp only[Aik,Ab0]at h;subst h;exact⟨A,L,hr⟩
 |a::l,s,s',A,L,hr,h=>by
  simp only[Aik]at h;split at h
  ·rename_i s1 h1;obtain⟨A1,L1,hr1⟩:=Am3 hr h1;exact Ad6 hr1 h
  ·cases h
theorem Apv{lv:List Nat}{co:List At}{s':S}(hr:Rel Z s σs A L σ w)(h:s.cn lv co=some s'):∃A' L',Rel Z s' σs A' L' σ w:=by
 unfold S.cn at h;split at h
 ·rename_i s1 h1;cases h;obtain⟨A1,L1,hr1⟩:=Ad6 hr h1;obtain⟨L',hr2⟩:=Ak5 hr1 lv;exact⟨A1,L',hr2⟩
 ·cases h
end Go.Rx
namespace Go.Rx
open Go Go.Lv
variable {P:Program} {B B':Reg} {w w':World} {L L':List MD} {s:S} {σs:List Env} {σ:Env} {Z:Fix} {A A':Reg} {n:Nat} {ops:Array Oper}
variable {R:Type} {r:R} {T:Tab} {inl:Y7 R}
def kof(k:K R):Exit->S->Option R
 | .normal=>k.n| .exit id=>k.x id| .ret=>k.r|_=>λ_=>none
def QK(Z:Fix)(σs:List Env)(k:K R)(r:R)(e:Exit)(σ':Env)(w':World):Prop:=∃s' A' L',kof k e s'=some r/\Rel Z s' σs A' L' σ' w'
theorem Adq(an:An){gl:List (Nat×List Value)}(hI:iI P gl inl):iI P gl (X4 an inl):=by
 unfold X4;split
 ·intro Z hZ f as s k r σs A L σ w vs h hr ha;exact hI Z hZ f as _ k r σs A L σ w vs h (hr.Ac9 rfl rfl (cQ hr.mem.sl _)) ha
 ·exact hI
theorem Ap2(Acn:P.follows .mixedOrders=true)(hT:pT P T Z)(hI:iI P T.gl inl):∀(c:Code) {an:An} {k:K R} {s:S} {A:Reg} {L:List MD} {σ:Env} {w:World},ex P T inl n c an k s=some r->Rel Z s σs A L σ w->W P n c (QK Z σs k r) σ w:=by
 intro c
 induction c with
 |skip=>intro an k s A L σ w h hr;exact W.skip ⟨s,A,L,h,hr⟩
 |ret=>intro an k s A L σ w h hr;exact W.ret ⟨s,A,L,h,hr⟩
 |exit id=>intro an k s A L σ w h hr;exact W.exit ⟨s,A,L,h,hr⟩
 |seq a b iha ihb=>
  intro an k s A L σ w h hr;refine W.seq (W.mono (iha (an:=an.l) (k:={k with n:=Akw an λs'=>ex P T inl n b an.r k s'}) h hr) ?_);rintro e σ' w' ⟨s',A',L',h1,hr'⟩;cases e with
  |normal=>
   have h2:Akw an (λs'=>ex P T inl n b an.r k s') s'=some r:=h1;unfold Akw at h2;split at h2
   ·split at h2
    ·rename_i s2 hs2;obtain⟨A2,L2,hr2⟩:=Apv hr' hs2;exact ihb h2 hr2
    ·cases h2
   ·exact ihb h2 hr'
  |exit id=>exact⟨s',A',L',h1,hr'⟩
  |ret=>exact⟨s',A',L',h1,hr'⟩
  |goto l=>exact⟨s',A',L',h1,hr'⟩
  |panic c=>exact⟨s',A',L',h1,hr'⟩
  |outgrown=>exact⟨s',A',L',h1,hr'⟩
 |cond c a b iha ihb=>
  intro an k s A L σ w h hr;simp only[ex]at h;split at h
  ·rename_i t hc;refine W.cond (qP hr.mem.sl hc) (λht=>?_) (λht=>?_)
   ·subst ht;exact iha (by simpa using h) hr
   ·subst ht;exact ihb (by simpa using h) hr
  ·cases h
 |block id a iha=>
  intro an k s A L σ w h hr;refine W.block (W.mono (iha (an:=an.l) (k:={k with x:=λid' s'=>Dz (Nat.beq id' id) (k.n s')<|k.x id' s'}) h hr) ?_);rintro e σ' w' ⟨s',A',L',h1,hr'⟩;cases e with
  |exit id'=>
   have h2:(Dz (Nat.beq id' id) (k.n s')<|k.x id' s')=some r:=h1;simp only[T0];by_cases hid:id'=id
   ·rw[Aae hid];subst hid;simp at h2;exact⟨s',A',L',h2,hr'⟩
   ·rw[Aaa hid];have hb:Nat.beq id' id=false:=by
     cases hb:Nat.beq id' id with
     |false=>rfl
     |true=>exact absurd (Ds hb) hid
    rw[hb]at h2;exact⟨s',A',L',h2,hr'⟩
  |normal=>exact⟨s',A',L',h1,hr'⟩
  |ret=>exact⟨s',A',L',h1,hr'⟩
  |goto l=>exact⟨s',A',L',h1,hr'⟩
  |panic c=>exact⟨s',A',L',h1,hr'⟩
  |outgrown=>exact⟨s',A',L',h1,hr'⟩
 |loop a iha=>
  intro an k s A L σ w h hr;have head:∀(q:Nat) (s:S) (A:Reg) (L:List MD) (σ:Env) (w:World),N2 an (iter an (λkn s'=>ex P T inl n a an.l {k with n:=kn} s') q) s=some r->Rel Z s σs A L σ w->
    ∃s' A' L',iter an (λkn s'=>ex P T inl n a an.l {k with n:=kn} s') q s'=some r/\Rel Z s' σs A' L' σ w:=by
   intro q s A L σ w h hr;unfold N2 at h;split at h
   ·split at h
    ·rename_i s2 hs2;obtain⟨A2,L2,hr2⟩:=Apv hr hs2;exact⟨s2,A2,L2,h,hr2⟩
    ·cases h
   ·cases h
  refine W.loop (λq σ w=>∃s A L,iter an (λkn s'=>ex P T inl n a an.l {k with n:=kn} s') q s=some r/\Rel Z s σs A L σ w) Cl (head _ _ _ _ _ _ h hr) ?_;rintro q σ w ⟨s,A,L,h,hr⟩;cases q with
  |zero=>cases h
  |succ q=>
   refine W.mono (iha (k:={k with n:=N2 an (iter an (λkn s'=>ex P T inl n a an.l {k with n:=kn} s') q)}) h hr) ?_;rintro e σ' w' ⟨s',A',L',h1,hr'⟩;cases e with
   |normal=>exact⟨q,Nat.lt_succ_self _,head q s' A' L' σ' w' h1 hr'⟩
   |exit id=>exact⟨s',A',L',h1,hr'⟩
   |ret=>exact⟨s',A',L',h1,hr'⟩
   |goto l=>exact⟨s',A',L',h1,hr'⟩
   |panic c=>exact⟨s',A',L',h1,hr'⟩
   |outgrown=>exact⟨s',A',L',h1,hr'⟩
 |region id ops draw=>
  intro an k s A L σ w h hr;cases draw with
  |false=>
   obtain⟨hd,h⟩:=Bj (show(Dz (qT ops.toList) (K3 P T (X4 an inl) n ops ops.toList s k.n)<|none)=some r from h);have h1:=kr (ops:=ops) hT (Adq an hI) hr (show K3 P T (X4 an inl) n ops ops.toList s k.n=some r from h);have hops:ops=ops.toList.toArray:=by simp
   rw[hops];exact W.region hd (by rw[<-hops];exact h1)
  |true=>
   obtain⟨hd,h⟩:=Bj (show(Dz (qT ops.toList) (ZA P T (X4 an inl) n (sC an) ops ops.size (Dz (sC an) (#[])<|Array.replicate ops.size true) (Array.replicate ops.size false) s k.n)<|none)=some r from h);refine W.An7 hd Acn (λ_=>True) (tw (Dz (sC an) (#[])<|Array.replicate ops.size true)) (λw' hw hg=>?_);have hr':Rel Z s σs A L σ w':=St.Ajx hr hw hg;refine Aq3 hT (Adq an hI) hr' h (λhm=> .inl ?_) (λ_ _ _=>trivial);rw[hm];simp[XL,tw]
 |rangeFunc=>intro an k s A L σ w h hr;cases h
 |scope=>intro an k s A L σ w h hr;cases h
 |label=>intro an k s A L σ w h hr;cases h
 |goto=>intro an k s A L σ w h hr;cases h
 |refuse=>intro an k s A L σ w h hr;cases h
theorem Afz(hr:Rel Z s σs A L σ w){v:ResultVar}{p:PV}(h:Abw P s v=some p):∃u,ZT P σ w v u/\Mc (λb=>A b/\Z.R b) w L p u:=by
 have hm:=hr.mem;cases v with
 |tmp t=>
  obtain⟨hp,h⟩:=Bj h;cases h;exact⟨σ t,rfl,bJ hm.sl hp⟩
 |cell a t=>
  simp only[Abw]at h;split at h
  ·rename_i i p' hsl;split at h
   ·rename_i T v0 hi;split at h
    ·rename_i u hu;obtain⟨hk,h⟩:=Bj h;cases h;have hs1:=Zb (t:=a) hm.sl;rw[hsl]at hs1;obtain⟨md,b,h1,h2,h3⟩:=GH hs1;obtain⟨b',cells,h4,h5⟩:=hm.box hi;rw[h4]at h1;cases h1;cases h2;obtain⟨c1,c2,c3,e,h6,h7⟩:=fQ hu h5;have hok:=Ww hk;obtain⟨d,hd,ha⟩:=hok.agg;have hlen:=h7.len;cases hA:p.isA with
     |true=>
      refine⟨.agg c2.toArray,ZT.cells hr (hr.Ng h4) ⟨d,hd,ha.trans hA⟩ hok.size h3 ?_ hlen,by unfold Mc;rw[hA];exact⟨c2,rfl,h7⟩⟩;rw[e,<-h6,<-hlen];exact Aef rfl
     |false=>
      rw[hok.one hA]at hlen
      match c2,hlen with
      |[u],_=>exact⟨u,ZT.cell hr (hr.Ng h4) ⟨d,hd,ha.trans hA⟩ h3 (by rw[e,<-h6];simp),by unfold Mc;rw[hA];exact h7⟩
    ·cases h
   ·cases h
  ·cases h
theorem rY(hr:Rel Z s σs A L σ w):∀{vs:List ResultVar} {ps:List PV},tG P s vs=some ps->∃us,lE P σ w vs us/\Jd (λb=>A b/\Z.R b) w L ps us
 |[],ps,h=>by simp only[tG,Ab0]at h;subst h;exact⟨[],trivial,rfl⟩
 |v::vs,ps,h=>by
  simp only[tG]at h;split at h
  ·rename_i p ps' hp hps;cases h;obtain⟨u,h1,h2⟩:=Afz hr hp;obtain⟨us,h3,h4⟩:=rY hr hps;exact⟨u::us,⟨h1,h3⟩,u,us,rfl,h2,h4⟩
  ·cases h
theorem iF:∀{as:List PV} {vs:List Value} {m:Nat} {f:Nat->Value},Jd B w L as vs-> (∀i v,vs[i]? =some v->f (m+i)=v)->∀p∈KB m as,Na B w L f p.1 p.2
 |[],vs,m,f,_,_,p,hp=>by simp[KB]at hp
 |a::as,vs,m,f,⟨v,vs',e,h1,h2⟩,hf,p,hp=>by
  subst e;simp only[KB]at hp;rcases List.mem_cons.1 hp with rfl|hp
  ·obtain⟨k1,k2⟩:=Of (show Mc B w L a v from h1);refine(Na.iff k1).2 ?_;have:=hf 0 v rfl;rw[Aw2]at this;rw[this];exact k2
  ·exact iF h2 (λi v hi=>by have:=hf (i+1) v (by simpa using hi);rw[<-this];congr 1;omega) p hp
theorem M5{vs:List Value}{i:Nat}{v:Value}(h:vs[i]? =some v):wN vs i=v:=by simp[wN,List.getD_eq_getElem?_getD,h]
theorem Jd.length:∀{as:List PV} {vs:List Value},Jd B w L as vs->vs.length=as.length
 |[],vs,h=>by rw[show vs=[]from h];rfl
 |a::as,vs,⟨v,vs',e,h1,h2⟩=>by rw[e,As0,Jd.length h2];rfl
theorem P5{f:Nat}{an:An}:∀{ans:List (Nat×An)},bR.G2 ans f=some an->∃a,(f,a)∈ans
 |[],h=>by simp[bR.G2]at h
 |(g,a)::ans,h=>by
  simp only[bR.G2]at h;cases hb:Nat.beq g f with
  |true=>have:=Ds hb;subst this;exact⟨a, .head _⟩
  |false=>rw[hb]at h;obtain⟨a',h1⟩:=P5 h;exact⟨a', .tail _ h1⟩
theorem Adf(Acn:P.follows .mixedOrders=true)(hT:fX P T){ans:List (Nat×An)}(hA:∀p∈ans,Ent P p.1):∀(q:Nat),iI (R:=R) P T.gl (bR P T q ans)
 |0=>λZ hZ f as s k r σs A L σ w vs h hr ha=>by cases h
 |q+1=>λZ hZ f as s k r σs A L σ w vs h hr ha=>by
  have hI:=Adf Acn hT hA q;unfold bR at h;split at h
  ·rename_i an fn han hfn;obtain⟨a,hmem⟩:=P5 han;split at h
   ·cases h
   ·rename_i c hc;obtain⟨hle,h⟩:=Bj h;refine⟨hA _ hmem,?_⟩;have hr1:Rel Z ⟨KB 0 as,s.it,s.sl::s.st⟩ (σ::σs) A L (wN vs) w:=
     Rel.as hr (i:=1) rfl ⟨hr.mem.it,iF ha (λi v hi=>by rw[Avg];exact M5 hi),hr.mem.sl,hr.mem.stk⟩ rfl
    refine E8 (rs:=fn.results.toList) hfn hc rfl (by simp) (by rw[ha.length];exact hle) (W.mono (Ap2 Acn ⟨hT,hZ⟩ hI c h hr1) ?_);rintro e σ' w' ⟨s',A',L',h1,hr'⟩;have fin:bR.Ahn P fn.results.toList k s'=some r->∃us,lE P σ' w' fn.results.toList us/\∃v p s'' A'' L'',Ending.returned (UF us)= .returned v/\k s'' p=some r/\Rel Z s'' σs A'' L'' σ w'/\p.isV=true/\Gs (λb=>A'' b/\Z.R b) w' L'' p v:=by
     intro h1;unfold bR.Ahn at h1;split at h1
     ·rename_i ps sl st hps hst;obtain⟨us,h2,h3⟩:=rY hr' hps;obtain⟨h4,h5⟩:=xk h3;have Asw:=hr'.mem.stk;rw[hst]at Asw;exact⟨us,h2,_,_,_,A',L',rfl,h1,Rel.as hr' (i:=1) rfl ⟨hr'.mem.it,Asw.1,Asw.2⟩ rfl,h4,h5⟩
     ·cases h1
    cases e with
    |normal=>exact⟨.inr rfl,fin h1⟩
    |ret=>exact⟨.inl rfl,fin h1⟩
    |exit id=>cases h1
    |goto l=>cases h1
    |panic c=>cases h1
    |outgrown=>cases h1
  ·cases h
end Go.Rx
namespace Go.Rx
open Go Go.Lv
variable {P:Program} {B B':Reg} {w w':World} {L L':List MD} {s:S} {σs:List Env} {σ:Env} {Z:Fix} {A A':Reg} {n:Nat} {ops:Array Oper}
variable {R:Type} {r:R} {T:Tab} {inl:Y7 R}
abbrev LS:=List (ET×Option TypeId)
def Kn:LS->List PV->Nat->List Nat
 |p::r,v::vs,c=>match p.2 with
  |none=>Kn r vs c
  |some _=>(match v with| .own i=>i|_=>c)::Kn r vs (c+1)
 |_,_,_=>[]
def bB:LS->List MD
 |p::r=>match p.2 with
  |none=>bB r
  |some E=>(match p.1 with| .list a=> .own a.size E (.slice none 0 0) []|_=> .dead)::bB r
 |[]=>[]
theorem Ajj(h:Eo w A (L.map MD.Ng)):∀(ls:LS),Eo w A ((L++bB ls).map MD.Ng):=by
 have one:∀(m:MD) (ms:List MD),m.Ng.holds none w->Eo w A ((L++ms).map MD.Ng)->Eo w A ((L++m::ms).map MD.Ng):=by
  intro m ms hm h;have:Eo w A (m.Ng::(L++ms).map MD.Ng):=⟨none,hm,λb hb=>(by cases hb),h.PA λb hb=>hb.elim id (λh=>by cases h)⟩;refine this.perm ?_;rw[List.map_append,List.map_append,Awl];exact(List.perm_middle).symm
 intro ls
 induction ls with
 |nil=>simpa [bB]using h
 |cons p ls ih=>
  obtain⟨e,o⟩:=p;cases o with
  |none=>exact ih
  |some E=>cases e<;>exact one _ _ (by first|exact yN|exact⟨none,0,0,rfl,by simp,Alw _,λ_=>rfl,λ_=>rfl,λb h=>by cases h⟩) ih
theorem mD:∀{ls:LS} {vs:List PV} {seen:List Nat} {c:Nat},bS s ls vs seen=true->s.it.length<=c->distinct (Kn ls vs c)=true/\∀i∈Kn ls vs c,(i<s.it.length/\i∉seen)\/c<=i
 |[],[],_,_,_,_=>⟨rfl,by simp[Kn]⟩
 |[],_::_,_,_,h,_=>by simp[bS]at h
 |_::_,[],_,_,h,_=>by simp[bS]at h
 |(e,none)::ls,v::vs,seen,c,h,hc=>by
  simp only[bS,Aag]at h;exact mD (ls:=ls) (vs:=vs) (seen:=seen) (c:=c) h.2 hc
 |(e,some E)::ls,v::vs,seen,c,h,hc=>by
  simp only[bS]at h;split at h
  ·obtain⟨h1,h2⟩:=mD h (c:=c+1) (by omega);refine⟨?_,λi hi=>?_⟩
   ·simp only[Kn,distinct,Aag,Asr];refine⟨?_,h1⟩;cases hx:GM c (Kn ls vs (c+1))with
    |false=>rfl
    |true=>rcases h2 c (II.1 hx)with⟨h3,_⟩|h3<;>omega
   ·simp only[Kn,List.mem_cons]at hi;rcases hi with rfl|hi
    ·exact .inr (Alw _)
    ·rcases h2 i hi with h3|h3
     ·exact .inl h3
     ·exact .inr (by omega)
  ·rename_i a i;simp only[Aag,Asr]at h;obtain⟨⟨h0,hit⟩,h⟩:=h;have hlt:i<s.it.length:=by
    split at hit
    ·rename_i E' a' l hi;exact(List.getElem?_eq_some_iff.1 (oU hi (by intro e;cases e))).1
    ·cases hit
   obtain⟨h1,h2⟩:=mD h (c:=c+1) (by omega);refine⟨?_,λj hj=>?_⟩
   ·simp only[Kn,distinct,Aag,Asr];refine⟨?_,h1⟩;cases hx:GM i (Kn ls vs (c+1))with
    |false=>rfl
    |true=>
     rcases h2 i (II.1 hx)with⟨_,h3⟩|h3
     ·exact absurd (Au1) h3
     ·omega
   ·simp only[Kn,List.mem_cons]at hj;rcases hj with rfl|hj
    ·exact .inl ⟨hlt,λhm=>by have:=II.2 hm;rw[h0]at this;cases this⟩
    ·rcases h2 j hj with⟨h3,h4⟩|h3
     ·exact .inl ⟨h3,λhm=>h4 (Arz _ hm)⟩
     ·exact .inr (by omega)
  ·cases h
theorem Amk{e:ET}{q:PV}{x:e.T}(hr:Rel Z s σs A L σ w)(h:lB s e q=some x)(ho:owns q=[])(hb:e.D3=true->∀b,A b/\Z.R b->B' b){L':List MD}:gC (λb=>A b/\Z.R b) w L B' w L' q (.val e x):=by
 obtain⟨h1,h2⟩:=uq (L':=L') hr h (B':=λb=>A b/\Z.R b) (λ_ h=>h) (λi hi=>by rw[ho]at hi;cases hi);refine⟨h1,λcs hcs=>?_⟩;have h3:Bc (λb=>A b/\Z.R b) w e x cs:=h2 cs hcs;cases hl:e.D3 with
 |true=>exact Bc.step (hb hl) (λ_ _=>rfl) h3
 |false=>exact Bc.noL hl h3
theorem Amu{e:ET}{l:List e.T}{cs:List Value}(hb:e.D3=true->∀b,B b->B' b)(h:Cv (Bc B w e) l cs):Cv (Bc B' w e) l cs:=by
 cases hl:e.D3 with
 |true=>exact h.mono λx c hx=>Bc.step (hb hl) (λ_ _=>rfl) hx
 |false=>exact h.mono λx c hx=>Bc.noL hl hx
theorem zQ(hr:Rel Z s σs A L σ w){LP:List MD}(hP:∀(i:Nat) (m:MD),L[i]? =some m->LP[i]? =some m):∀(ls:LS) (vs:List PV) (y:SJ ls) (seen:List Nat) (c:Nat) (s0:S) (Lx LF:List MD),
  bS s ls vs seen=true->WG s ls vs=some y-> (∀p∈ls,Ajy p=true->∀b,A b/\Z.R b->B' b)-> (∀i m,(bB ls)[i]? =some m->LP[c+i]? =some m)->Lx.length=s0.it.length->LF=Lx++(Kn ls vs c).map (λi=>LP.getD i .dead)->
  ∃its,(Gz ls y s0).2=⟨s0.sl,s0.it++its,s0.st⟩/\its.length=(Kn ls vs c).length/\All2 (gC (λb=>A b/\Z.R b) w L B' w LF) vs (Gz ls y s0).1/\
   ∀(i:Nat) (a:Item) (m:MD),its[i]? =some a-> ((Kn ls vs c).map (λi=>LP.getD i .dead))[i]? =some m->GN B' w LF a m
 |[],vs,y,seen,c,s0,Lx,LF,ho,hp,_,_,_,_=>by
  rw[ug hp];refine⟨[],?_,rfl,All2.nil,λi a m h=>by simp at h⟩;rw[xC];simp
 |p::ls,vs,y,seen,c,s0,Lx,LF,ho,hp,hb,hn,hlen,hLF=>by
  have main:∀(v:PV) (vs':List PV) (x:p.1.T) (rest:S->List PV×S),vs=v::vs'->lB s p.1 v=some x->
    (Gz (p::ls) y s0=((Gm p.1 p.2 x s0).1::(rest (Gm p.1 p.2 x s0).2).1,(rest (Gm p.1 p.2 x s0).2).2))->
    (∀(seen:List Nat) (c:Nat) (s1:S) (Lx:List MD),bS s ls vs' seen=true-> (∀i m,(bB ls)[i]? =some m->LP[c+i]? =some m)->Lx.length=s1.it.length->LF=Lx++(Kn ls vs' c).map (λi=>LP.getD i .dead)->
     ∃its,(rest s1).2=⟨s1.sl,s1.it++its,s1.st⟩/\its.length=(Kn ls vs' c).length/\All2 (gC (λb=>A b/\Z.R b) w L B' w LF) vs' (rest s1).1/\
      ∀(i:Nat) (a:Item) (m:MD),its[i]? =some a-> ((Kn ls vs' c).map (λi=>LP.getD i .dead))[i]? =some m->GN B' w LF a m)->
    ∃its,(Gz (p::ls) y s0).2=⟨s0.sl,s0.it++its,s0.st⟩/\its.length=(Kn (p::ls) vs c).length/\All2 (gC (λb=>A b/\Z.R b) w L B' w LF) vs (Gz (p::ls) y s0).1/\
     ∀(i:Nat) (a:Item) (m:MD),its[i]? =some a-> ((Kn (p::ls) vs c).map (λi=>LP.getD i .dead))[i]? =some m->GN B' w LF a m:=by
   intro v vs' x rest hvs hx hu hrest;subst hvs;rw[hu];have hbp:=hb p (.head _);obtain⟨e,o⟩:=p;cases o with
   |none=>
    simp only[bS,Aag]at ho;have e1:Gm e none x s0=(.val e x,s0):=Ad9;simp only[e1];obtain⟨its,h1,h2,h3,h4⟩:=hrest seen c s0 Lx ho.2 hn hlen hLF;refine⟨its,h1,h2, .cons (Amk hr hx (isEmpty_nil ho.1) (λhl=>hbp ?_)) h3,h4⟩;cases e<;>first|exact hl|cases hl
   |some E=>
    simp only[bS]at ho;split at ho
    ·
     rename_i a;have hx':x=[]:=by
      have:elems s a .nils=some x:=hx;simpa [elems]using this.symm
     subst hx';have hc:LP[c]? =some (.own a.size E (.slice none 0 0) []):=hn 0 _ rfl;have e1:Gm (.list a) (some E) [] s0=(.own s0.new,s0.add (.arr E a [])):=rfl;simp only[e1];obtain⟨its,h1,h2,h3,h4⟩:=hrest seen (c+1) (s0.add (.arr E a [])) (Lx++[.own a.size E (.slice none 0 0) []]) ho (λi m hi=>by rw[At0,Ax5 1 i];exact hn (i+1) m (by simpa [bB]using hi))
      (by simp[S.add,hlen]) (by rw[hLF];simp[Kn,List.getD_eq_getElem?_getD,hc])
     refine⟨.arr E a []::its,by rw[h1];simp[S.add],by simp[Kn,h2], .cons ⟨rfl,λcs hcs=>?_⟩ h3,λi b m hi hm=>?_⟩
     ·refine⟨a.size,E, .slice none 0 0,[],?_,hcs⟩;rw[hLF,S.new,<-hlen];simp[Kn,List.getD_eq_getElem?_getD,hc]
     ·cases i with
      |zero=>
       simp[Kn,List.getD_eq_getElem?_getD,hc]at hi hm;subst hi hm;exact⟨rfl,rfl,rfl⟩
      |succ i=>exact h4 i b m (by simpa using hi) (by simpa [Kn]using hm)
    ·
     rename_i a i;simp only[Aag,Asr]at ho;obtain⟨⟨h0,hit⟩,ho⟩:=ho;split at hit
     ·rename_i E' a' l hi;simp only[Aag,Aaf]at hit;obtain⟨hE,rfl⟩:=hit;have:=Ds hE;subst this;obtain⟨u,cs0,g1,g2⟩:=hr.mem.arr hi;have hx':x=l:=by
       have:elems s a' (.own i)=some x:=hx;simp[elems,hi]at this;exact this.symm
      subst hx';have hc:LP[i]? =some (.own a'.size E' u cs0):=hP i _ g1;have e1:Gm (.list a') (some E') x s0=(.own s0.new,s0.add (.arr E' a' x)):=rfl;simp only[e1];obtain⟨its,h1,h2,h3,h4⟩:=hrest (i::seen) (c+1) (s0.add (.arr E' a' x)) (Lx++[.own a'.size E' u cs0]) ho (λi m hi=>by rw[At0,Ax5 1 i];exact hn (i+1) m (by simpa [bB]using hi))
       (by simp[S.add,hlen]) (by rw[hLF];simp[Kn,List.getD_eq_getElem?_getD,hc])
      refine⟨.arr E' a' x::its,by rw[h1];simp[S.add],by simp[Kn,h2], .cons ⟨rfl,λcs hcs=>?_⟩ h3,λq b m hq hm=>?_⟩
      ·obtain⟨z,E2,v2,c2,k1,k2⟩:=hcs;rw[g1]at k1;cases k1;refine⟨a'.size,E',u,cs0,?_,k2⟩;rw[hLF,S.new,<-hlen];simp[Kn,List.getD_eq_getElem?_getD,hc]
      ·cases q with
       |zero=>
        simp[Kn,List.getD_eq_getElem?_getD,hc]at hq hm;subst hq hm;exact⟨rfl,rfl,Amu hbp g2⟩
       |succ q=>exact h4 q b m (by simpa using hq) (by simpa [Kn]using hm)
     ·cases hit
    ·cases ho
  cases ls with
  |nil=>
   obtain⟨v,rfl,hx⟩:=nu hp;exact main v [] y (λs1=>([],s1)) rfl hx (dD p y s0) (λseen c s1 Lx _ _ hlen hLF=>⟨[],by simp,rfl,All2.nil,λi a m h=>by simp at h⟩)
  |cons q r=>
   obtain⟨v,vs',x,y',rfl,rfl,hx,hy⟩:=N6 hp;exact main v vs' x (λs1=>Gz (q::r) y' s1) rfl hx (YV p q r x y' s0)
    (λseen c s1 Lx ho hn hlen hLF=>zQ hr hP (q::r) vs' y' seen c s1 Lx LF ho hy (λp hp=>hb p (.tail _ hp)) hn hlen hLF)
theorem DA{e:ET}{x:e.T}{cs:List Value}(h:Bc B w e x cs):Bc (λb=>b<w.heap.size/\B b) w e x cs:=
 match e,x,h with
 | .int _,_,h=>h
 | .bool,_,h=>h
 | .str,_,h=>h
 | .list _,_,⟨v,c0,h1,h2,h3⟩=>⟨v,c0,h1,h2.start,h3.mono λ_ _ h=>DA h⟩
 | .vec _ _,_,⟨h1,h2⟩=>⟨h1,h2.mono λ_ _ h=>DA h⟩
 | .cons _ _,_,⟨c1,c2,e,h1,h2⟩=>⟨c1,c2,e,DA h1,DA h2⟩
 | .nil,_,h=>h
def Dm:PV->Bool
 | .val _ _=>true
 | .own _=>true
 | .agg l=>go l
 |_=>false
where go:List PV->Bool
 |[]=>true
 |a::r=>Dm a&&go r
mutual
theorem L4:∀{p:PV} {cs:List Value},Dm p=true->Bt B w L p cs->Bt (λb=>b<w.heap.size/\B b) w L p cs
 | .val e x,cs,_,h=>DA (show Bc B w e x cs from h)
 | .own i,cs,_,h=>h
 | .agg l,cs,hv,h=>B2 hv (show Bt.go B w L l cs from h)
 | .tup _,_,hv,_=>by cases hv
 | .nils,_,hv,_=>by cases hv
 | .ptr _ _,_,hv,_=>by cases hv
 | .view _ _ _ _ _ _,_,hv,_=>by cases hv
 | .rptr _,_,hv,_=>by cases hv
 | .fn _ _,_,hv,_=>by cases hv
 | .cst _,_,hv,_=>by cases hv
 | .any,_,hv,_=>by cases hv
 | .gd _ _ _,_,hv,_=>by cases hv
 | .off,_,hv,_=>by cases hv
 | .undef,_,hv,_=>by cases hv
theorem B2:∀{l:List PV} {cs:List Value},Dm.go l=true->Bt.go B w L l cs->Bt.go (λb=>b<w.heap.size/\B b) w L l cs
 |[],cs,_,h=>h
 |a::l,cs,hv,⟨c1,c2,e,h1,h2⟩=>by
  simp only[Dm.go,Aag]at hv;exact⟨c1,c2,e,L4 hv.1 h1,B2 hv.2 h2⟩
end
theorem wP:∀{l:List PV} {vs:List Value},Dm.go l=true->Jd B w L l vs->Jd (λb=>b<w.heap.size/\B b) w L l vs
 |[],vs,_,h=>h
 |a::l,vs,hv,⟨v,vs',e,h1,h2⟩=>by
  simp only[Dm.go,Aag]at hv;exact⟨v,vs',e,h1.mono λc h=>L4 hv.1 h,wP hv.2 h2⟩
theorem uY{e:ET}{o:Option TypeId}{x:e.T}{s0:S}:Dm (Gm e o x s0).1=true:=by
 unfold Gm;split<;>rfl
theorem tL{e:ET}{o:Option TypeId}{x:e.T}{s0:S}(h:∀a∈s0.it,∃E e' l,a= .arr E e' l):∀a∈(Gm e o x s0).2.it,∃E e' l,a= .arr E e' l:=by
 unfold Gm;split
 ·intro a ha;simp only[S.add,List.mem_append,List.mem_singleton]at ha;rcases ha with ha|ha
  ·exact h a ha
  ·exact⟨_,_,_,ha⟩
 ·exact h
theorem D6:∀(ls:LS) (x:SJ ls) (s0:S),Dm.go (Gz ls x s0).1=true
 |[],x,s0=>rfl
 |[p],x,s0=>by
  rw[dD];have h1:Dm (Gm p.1 p.2 x s0).1=true:=uY;simp only[Dm.go,h1];rfl
 |p::q::r,(x,y),s0=>by
  rw[YV];have h1:Dm (Gm p.1 p.2 x s0).1=true:=uY;simp only[Dm.go,h1,D6 (q::r) y _];rfl
theorem E1:∀(ls:LS) (x:SJ ls) (s0:S),(∀a∈s0.it,∃E e' l,a= .arr E e' l)->∀a∈(Gz ls x s0).2.it,∃E e' l,a= .arr E e' l
 |[],x,s0,h=>h
 |[p],x,s0,h=>by rw[dD];exact tL h
 |p::q::r,(x,y),s0,h=>by rw[YV];exact E1 (q::r) y _ (tL h)
mutual
theorem Af4:∀{sh:Sh} {vs r:List PV} {u:PV},Yk sh vs=some (u,r)->Dm.go vs=true->Dm u=true/\Dm.go r=true
 | .lf e o,v::vs,r,u,h,hv=>by
  simp only[Yk,Ab0,Adm]at h;obtain⟨rfl,rfl⟩:=h;simpa [Dm.go]using hv
 | .lf e o,[],r,u,h,hv=>by simp[Yk]at h
 | .agg l,vs,r,u,h,hv=>by
  simp only[Yk]at h;split at h
  ·rename_i us r' h1;cases h;exact oN h1 hv
  ·cases h
theorem oN:∀{l:List Sh} {vs r us:List PV},Yk.go l vs=some (us,r)->Dm.go vs=true->Dm.go us=true/\Dm.go r=true
 |[],vs,r,us,h,hv=>by
  simp only[Yk.go,Ab0,Adm]at h;obtain⟨rfl,rfl⟩:=h;exact⟨rfl,hv⟩
 |a::l,vs,r,us,h,hv=>by
  simp only[Yk.go]at h;split at h
  ·rename_i u vs' h1;split at h
   ·rename_i us' vs'' h2;cases h;obtain⟨g1,g2⟩:=Af4 h1 hv;obtain⟨g3,g4⟩:=oN h2 g2;exact⟨by simp[Dm.go,g1,g3],g4⟩
   ·cases h
  ·cases h
end
theorem Ali{rs:List Sh}{p:ET×Option TypeId}(hp:p∈EP rs)(h:Ajy p=true):Ao6 rs=true:=by
 unfold Ao6;exact List.any_eq_true.2 ⟨p,hp,h⟩
theorem qI{f:Nat}{fn:Func}{ps rs:List Sh}{F:SJ (EP ps)->Option (SJ (EP rs))}{RUN:S->Option (SJ (EP rs))}(hE:Ent P f)
  (hrun:∀x y pvs,args ps x=some pvs->F x=some y->RUN ⟨KB 0 pvs,zu ps x,[]⟩=some y)
  (Asx:∀(Z:Fix) (A:Reg) (L:List MD) (w:World) (s:S) (y:SJ (EP rs)) (vs:List Value) (Q:Ending->World->Prop),Z.gl=T.gl->Rel Z s [] A L (wN vs) w->vs.length=ps.length->RUN s=some y->
   (∀s' A' L' σ' w',R3 P rs fn.results.toList s'=some y->Rel Z s' [] A' L' σ' w'->∃us,lE P σ' w' fn.results.toList us/\Q (.returned (UF us)) w')->Calls P f vs.toArray w Q):ConOk P T.gl f ⟨ps,rs,F⟩:=by
 refine⟨hE,λR N w L0 vs pvs x y hx Avh Apm Avi hvs hgl hy=>?_⟩;have hx':args ps x=some pvs:=hx;have hy':=hrun x y pvs hx' hy
 ·let Z:Fix:=⟨λb=>((R b/\N b)\/∃p∈T.gl,p.1=b)\/ ¬N b\/w.heap.size<=b,λb=>¬N b,w,λb hb=> .inr (.inr hb),λb hb=> .inr (.inl hb),T.gl,λp hp=>⟨.inl (.inr ⟨p,hp,rfl⟩),λh=>h (hgl p hp).2.1,(hgl p hp).1,(hgl p hp).2.2⟩⟩
  have hval:Dm.go pvs=true:=by
   unfold args iQ at hx';split at hx'
   ·rename_i us hs;cases hx';exact(oN hs (D6 _ _ _)).1
   ·cases hx'
  have Awv:Jd (λb=>(b<w.heap.size/\N b)/\Z.R b) w L0 pvs vs:=Jd.step (λb hb=>⟨⟨hb.1,hb.2.2⟩, .inl (.inl hb.2)⟩) (λ_ _=>rfl) (.refl L0) (wP hval hvs);have hst:St (λb=>b<w.heap.size/\N b) w [.old Z.M Z.w0] (L0.map MD.Ng):=by
   refine⟨λb hb=>hb.1,λf hf=>?_,Avi.PA λb hb=>hb.2⟩;cases hf with
   |head=>exact⟨.refl _,λb hb hM=>⟨⟨hb,Classical.not_not.1 hM⟩,rfl⟩⟩
   |tail _ h=>cases h
  have hr:Rel Z ⟨KB 0 pvs,zu ps x,[]⟩ [] (λb=>b<w.heap.size/\N b) L0 (wN vs) w:=
   Rel.as (L:=L0) hst (i:=0) rfl ⟨⟨Avh,λi a m h1 h2=>by
    have h3:=Apm i a m h1 h2;obtain⟨E,e',l,rfl⟩:=E1 (EP ps) x ⟨[],[],[]⟩ (by simp) a (List.mem_of_getElem? h1);cases m with
    |dead=>exact h3
    |box _ _ _=>exact h3
    |own z E2 v2 c2=>exact⟨h3.1,h3.2.1,h3.2.2.mono λx c h=>Bc.step (λb hb=>⟨⟨hb.1,hb.2.2⟩, .inl (.inl hb.2)⟩) (λ_ _=>rfl) (DA h)⟩⟩,
    iF Awv (λi v hi=>by rw[Avg];exact M5 hi),trivial⟩ rfl
  have hlen:vs.length=pvs.length:=hvs.length;have hpl:pvs.length=ps.length:=by
   unfold args iQ at hx';split at hx'
   ·rename_i us hs;cases hx';have key:∀(l:List Sh) (vs r us:List PV),Yk.go l vs=some (us,r)->us.length=l.length:=by
     intro l
     induction l with
     |nil=>intro vs r us h;simp only[Yk.go,Ab0,Adm]at h;obtain⟨rfl,_⟩:=h;rfl
     |cons a l ih=>
      intro vs r us h;simp only[Yk.go]at h;split at h
      ·split at h
       ·rename_i h2;cases h;simp[ih _ _ _ h2]
       ·cases h
      ·cases h
    exact key _ _ _ _ hs
   ·cases hx'
  refine Asx Z _ _ w _ y vs _ rfl hr (hlen.trans hpl) hy' ?_;intro s' A' L' σ' w' h1 hr';have fin:R3 P rs fn.results.toList s'=some y->∃us,lE P σ' w' fn.results.toList us/\∃us',Ending.returned (UF us)= .returned (UF us')/\Aqb T.gl R N w w' rs y us':=by
   intro h1;unfold R3 at h1;split at h1
   ·cases h1
   ·rename_i ls0 Avd;split at h1
    ·cases h1
    ·rename_i s1 hs1;obtain⟨A1,L1,hr1,_⟩:=Xb hr' hs1;split at h1
     ·rename_i ls hls;obtain⟨ho,h1⟩:=Bj h1;unfold Asg at hls;split at hls
      ·rename_i vs1 Aww;obtain⟨us,hus,huv⟩:=rY hr1 Aww;refine⟨us,hus,us,rfl,?_⟩;have hold:=hr1.fact 1 (f:= .old Z.M Z.w0) rfl;have hA:∀b,b<w.heap.size->N b->A1 b:=λb hb hN=>(hold.2 b hb (λh=>h hN)).1;have hkeep:KeepN N w w':=⟨λb hb hN=>(hold.2 b hb (λh=>h hN)).2,hold.1⟩;have vH:=Ajj (St.mobs hr1) (EP rs);obtain⟨hd,hidx⟩:=mD (s:=s1) (c:=L1.length) ho (by rw[hr1.len];exact Alw _);refine⟨hkeep,λb=>A1 b/\ (¬N b\/w.heap.size<=b),(Kn (EP rs) ls L1.length).map (λi=>(L1++bB (EP rs)).getD i .dead),λb hb=>⟨hb.2,St.lt hr1 b hb.1⟩,?_,?_⟩
       ·refine(J9 vH hd).PA ?_;rintro b (hb|hb)
        ·exact hb.1
        ·exact hA b hb.1 hb.2
       ·intro s0 L0 B' hL0 hB1 hB2;obtain⟨its,g1,g2,g3,g4⟩:=zQ hr1 (B':=B') (LP:=L1++bB (EP rs)) (λi m hi=>by rw[List.getElem?_append_left (List.getElem?_eq_some_iff.1 hi).1];exact hi) (EP rs) ls y [] L1.length s0 L0 _ ho h1
         (λp hp hl b hb=>by
          rcases hb.2 with hR|hN
          ·exact hB2 (Ali hp hl) b hR
          ·exact hB1 b ⟨hb.1,hN⟩)
         (λi m hi=>by rw[List.getElem?_append_right (by omega),Axk];exact hi) hL0 rfl
        obtain⟨ps',g5,g6⟩:=rA hls huv g3;exact⟨ps',its,g1,g5,g6,by rw[g2];simp,g4⟩
      ·cases hls
     ·cases h1
  obtain⟨us,k1,us',k2,k3⟩:=fin h1;exact⟨us,k1,us',k2,k3⟩
theorem Aar(Acn:P.follows .mixedOrders=true){f:Nat}{fn:Func}{ans:List (Nat×An)}{an:An}{ps rs:List Sh}{F:SJ (EP ps)->Option (SJ (EP rs))}(hf:P.funcs[f]? =some fn)(hE:Ent P f)(hT:fX P T)(hA:∀p∈ans,Ent P p.1)
  (hle:Nat.ble ps.length fn.ntmps=true) (h:∀x,run P T ans fn an ps rs x=F x):ConOk P T.gl f ⟨ps,rs,F⟩:=by
 cases hc:fn.body with
 |none=>
  refine qI (RUN:=λ_=>none) (fn:=fn) hE (λx y pvs hx hy=>?_) (λ_ _ _ _ _ _ _ _ _ _ _ h=>by cases h);rw[<-h x]at hy;unfold run at hy;rw[hc]at hy;exact hy
 |some c=>
  refine qI (T:=T) (fn:=fn) (RUN:=ex P T (bR P T 8 ans) fn.ntmps c an {n:=R3 P rs fn.results.toList,x:=λ_ _=>none,r:=R3 P rs fn.results.toList}) hE (λx y pvs hx hy=>?_) ?_
  ·rw[<-h x]at hy;unfold run at hy;rw[hc,hx]at hy;exact hy
  ·intro Z A L w s y vs Q hZ hr hl hy fin;refine E8 (rs:=fn.results.toList) hf hc rfl (by simp) (by rw[hl];exact hle) (W.mono (Ap2 Acn ⟨hT,hZ⟩ (Adf Acn hT hA 8) c hy hr) ?_);rintro e σ' w' ⟨s',A',L',h1,hr'⟩;cases e with
   |normal=>exact⟨.inr rfl,fin s' A' L' σ' w' h1 hr'⟩
   |ret=>exact⟨.inl rfl,fin s' A' L' σ' w' h1 hr'⟩
   |exit id=>cases h1
   |goto l=>cases h1
   |panic c=>cases h1
   |outgrown=>cases h1
end Go.Rx
namespace Go.Rx
open Go Go.Lv
structure Pt (R:Type)where
 q:Nat
 n:Nat
 c:Code
 an:An
 k:K R
inductive PS (R:Type)|l|r|d|lp (kn:S->Option R)|call (i f:Nat)|dcall (i f fuel:Nat) (z listed:Array Bool)
def Aaz(f:Func):Code:=match f.body with|some c=>c|none=> .skip
variable {R:Type}
noncomputable def Pt.e(P:Program)(T:Tab)(ans:List (Nat×An))(p:Pt R)(s:S):Option R:=match p.c with
 | .loop _=>ex P T (bR P T p.q ans) p.n p.c p.an p.k s
 |_=>hold (λs=>ex P T (bR P T p.q ans) p.n p.c p.an p.k s) s
noncomputable def Pt.it(P:Program)(T:Tab)(ans:List (Nat×An))(p:Pt R)(q:Nat)(s:S):Option R:=match p.c with
 | .loop a=>iter p.an (λkn s'=>ex P T (bR P T p.q ans) p.n a p.an.l {p.k with n:=kn} s') q s
 |_=>none
noncomputable def Pt.step(P:Program)(T:Tab)(ans:List (Nat×An))(p:Pt R):PS R->Pt R
 | .l=>match p.c with
  | .seq a b=>⟨p.q,p.n,a,p.an.l,{p.k with n:=Akw p.an λs'=>ex P T (bR P T p.q ans) p.n b p.an.r p.k s'}⟩
  | .cond _ a _=>⟨p.q,p.n,a,p.an.l,p.k⟩
  |_=>p
 | .r=>match p.c with
  | .seq _ b=>⟨p.q,p.n,b,p.an.r,p.k⟩
  | .cond _ _ b=>⟨p.q,p.n,b,p.an.r,p.k⟩
  |_=>p
 | .d=>match p.c with
  | .block id a=>⟨p.q,p.n,a,p.an.l,{p.k with x:=λid' s'=>Dz (Nat.beq id' id) (p.k.n s')<|p.k.x id' s'}⟩
  |_=>p
 | .lp kn=>match p.c with
  | .loop a=>⟨p.q,p.n,a,p.an.l,{p.k with n:=N2 p.an kn}⟩
  |_=>p
 | .call i f=>match p.c,p.q,P.funcs[f]?,bR.G2 ans f with
  | .region _ ops false,q+1,some fn,some an=>
   let fin:=bR.Ahn P fn.results.toList λs v=>K3 P T (X4 p.an (bR P T (q+1) ans)) p.n ops (ops.toList.drop (i+1)) (s.Jk ((ops[i]?).bind (·.dst)) v) p.k.n
   ⟨q,fn.ntmps,Aaz fn,an,{n:=fin,x:=λ_ _=>none,r:=fin}⟩
  |_,_,_,_=>p
 | .dcall i f fuel z listed=>match p.c,p.q,P.funcs[f]?,bR.G2 ans f with
  | .region _ ops true,q+1,some fn,some an=>
   let fin:=bR.Ahn P fn.results.toList λs v=>ZA P T (X4 p.an (bR P T (q+1) ans)) p.n (sC p.an) ops fuel z listed (s.Jk ((ops[i]?).bind (·.dst)) v) p.k.n
   ⟨q,fn.ntmps,Aaz fn,an,{n:=fin,x:=λ_ _=>none,r:=fin}⟩
  |_,_,_,_=>p
noncomputable def Pt.at(P:Program)(T:Tab)(ans:List (Nat×An)):Pt R->List (PS R)->Pt R
 |p,[]=>p
 |p,x::l=>Pt.at P T ans (p.step P T ans x) l
noncomputable def Pt.root(P:Program)(fn:Func)(an:An)(rs:List Sh):Pt (SJ (EP rs)):=
 ⟨8,fn.ntmps,Aaz fn,an,{n:=R3 P rs fn.results.toList,x:=λ_ _=>none,r:=R3 P rs fn.results.toList}⟩
noncomputable def PE(P:Program)(T:Tab)(ans:List (Nat×An))(fn:Func)(an:An)(rs:List Sh)(l:List (PS (SJ (EP rs))))(s:S):Option (SJ (EP rs)):=(Pt.at P T ans (Pt.root P fn an rs) l).e P T ans s
noncomputable def PI(P:Program)(T:Tab)(ans:List (Nat×An))(fn:Func)(an:An)(rs:List Sh)(l:List (PS (SJ (EP rs))))(q:Nat)(s:S):Option (SJ (EP rs)):=(Pt.at P T ans (Pt.root P fn an rs) l).it P T ans q s
theorem D1(a:Option R):both a [a,a]=a:=by simp[both]
theorem yT(a:Option R):both a [a,a,a]=a:=by simp[both]
end Go.Rx
namespace Go.Rx
open Go Go.Lv
theorem ConOk.mono{P:Program}{gl gl':List (Nat×List Value)}{f:Nat}{c:Con}(h:ConOk P gl f c)(hs:gl.Sublist gl'):ConOk P gl' f c:=by
 refine⟨h.ent,λR N w L0 vs ps x y h1 h2 h3 h4 h5 h6 h7=>(h.ok R N w L0 vs ps x y h1 h2 h3 h4 h5 (λp hp=>h6 p (hs.subset hp)) h7).mono ?_⟩;rintro e w' ⟨us,he,hk,A1,L1,g1,g2,g3⟩;exact⟨us,he,hk,A1,L1,g1,g2,λs L B' k1 k2 k3=>g3 s L B' k1 k2 λhr b hb=>k3 hr b (hb.imp id λ⟨p,hp,he⟩=>⟨p,hs.subset hp,he⟩)⟩
theorem fX.nil{P:Program}{gl:List (Nat×List Value)}{vw:Bool}:fX P ⟨[],gl,vw⟩:=λf c h=>by cases h
theorem fX.cons{P:Program}{g:Nat}{c:Con}{r:List (Nat×Con)}{gl:List (Nat×List Value)}{vw:Bool}(h:ConOk P gl g c)(hr:fX P ⟨r,gl,vw⟩):fX P ⟨(g,c)::r,gl,vw⟩:=λf c' h'=>by
 simp only[Tab.get,Aqz]at h';cases hb:Nat.beq g f with
 |true=>
  rw[hb]at h';have:=Ds hb;subst this;cases h';exact h
 |false=>rw[hb]at h';exact hr f c' h'
theorem Mr.nil{P:Program}:∀p∈([]:List (Nat×An)),Ent P p.1:=by simp
theorem Mr.cons{P:Program}{g:Nat}{a:An}{r:List (Nat×An)}(h:Ent P g)(hr:∀p∈r,Ent P p.1):∀p∈(g,a)::r,Ent P p.1:=by
 intro p hp;rcases List.mem_cons.1 hp with rfl|hp
 ·exact h
 ·exact hr p hp
end Go.Rx
namespace Go.Rx
variable {R α:Type}
theorem Gn{a b c:Option R}(h:a=c)(h1:b=c):both a [b]=c:=by subst h;subst h1;exact rP _
theorem Gi{a b d c:Option R}(h:a=c)(h1:b=c)(h2:d=c):both a [b,d]=c:=by subst h;subst h1;subst h2;exact D1 _
theorem Gp{a b d e c:Option R}(h:a=c)(h1:b=c)(h2:d=c)(h3:e=c):both a [b,d,e]=c:=by subst h;subst h1;subst h2;subst h3;exact yT _
theorem Km{l:List α}{a b c:Option R}(h:l=[]->a=c)(h1:b=c):wJ l a b=c:=by subst h1;exact Apc h
theorem Kk{o:Option α}{f g:α->Option R}(h:∀x,f x=g x):Option.bind o f=Option.bind o g:=by rw[funext h]
theorem Du{o:Option α}{f:α->Option R}{t:Option R}(h:o=none->none=t)(h1:∀x,o=some x->f x=t):Option.bind o f=t:=by
 cases o with
 |none=>exact h rfl
 |some x=>exact h1 x rfl
theorem Kl(f:α->Option R):Option.bind none f=none:=rfl
theorem Cy(x:α)(f:α->Option R):Option.bind (some x) f=f x:=rfl
theorem Cu(o:Option α):Option.bind o (λ_=>(none:Option R))=none:=by cases o<;>rfl
theorem Pr{c:Prop} [Decidable c]{a b a' b':Option R}(h:c->a=a')(h1:¬c->b=b'):(if c then a else b)=if c then a' else b':=by
 by_cases hc:c
 ·rw[Aae hc,Aae hc];exact h hc
 ·rw[Aaa hc,Aaa hc];exact h1 hc
theorem Et{c:Prop} [Decidable c]{a b t:Option R}(h:c->a=t)(h1:¬c->b=t):(if c then a else b)=t:=by
 by_cases hc:c
 ·rw[Aae hc];exact h hc
 ·rw[Aaa hc];exact h1 hc
abbrev vi(x:Int):PV:= .val (.int .i64) x
abbrev vc(x:UInt8):PV:= .val (.int .u8) x
abbrev vu(x:UInt32):PV:= .val (.int .u32) x
abbrev vq(x:UInt64):PV:= .val (.int .u64) x
abbrev vx(x:Int32):PV:= .val (.int .i32) x
abbrev vt(x:Bool):PV:= .val .bool x
abbrev vs(x:List UInt8):PV:= .val .str x
abbrev vb(x:List UInt8):PV:= .val (.list (.int .u8)) x
abbrev vl(x:List Int):PV:= .val (.list (.int .i64)) x
abbrev vw(x:List Int32):PV:= .val (.list (.int .i32)) x
abbrev vv(x:List UInt32):PV:= .val (.list (.int .u32)) x
end Go.Rx
namespace Go.Rx
open Go Go.Lv
structure Hd where
 p:List Sh
 r:List Sh
 a:An
 T:Tab
 s:List (Nat×An)
 f:Func
noncomputable def Hd.e(P:Program)(H:Hd):List (PS (SJ (EP H.r)))->S->Option (SJ (EP H.r)):=PE P H.T H.s H.f H.a H.r
noncomputable def Hd.i(P:Program)(H:Hd):List (PS (SJ (EP H.r)))->Nat->S->Option (SJ (EP H.r)):=PI P H.T H.s H.f H.a H.r
noncomputable def Hd.u(P:Program)(H:Hd)(x:SJ (EP H.p)):Option (SJ (EP H.r)):=run P H.T H.s H.f H.a H.p H.r x
def okH(H:Hd):Bool:=(!(H.f.name== "runtime.NumGoroutine")&&H.f.body.isSome)&&Nat.ble H.p.length H.f.ntmps
theorem Hd.con{P:Program}(hM:P.follows .mixedOrders=true)(H:Hd){f:Nat}{F:SJ (EP H.p)->Option (SJ (EP H.r))}(hf:P.funcs[f]? =some H.f)(hT:fX P H.T)(hA:∀p∈H.s,Ent P p.1)
  (hb:okH H=true) (h:∀x,H.u P x=F x):ConOk P H.T.gl f ⟨H.p,H.r,F⟩:=by
 simp only[okH,Aag,Asr]at hb;obtain⟨c,hc⟩:=Option.isSome_iff_exists.1 hb.1.2;exact Aar (T:=H.T) hM hf (Ent.mk hf hb.1.1 hc) hT hA hb.2 h
theorem Hd.Av5{P:Program}(hM:P.follows .mixedOrders=true)(H:Hd){f:Nat}{F:SJ (EP H.p)->Option (SJ (EP H.r))}(hf:P.funcs[f]? =some H.f)(hT:fX P H.T)
  (hb:(H.s.isEmpty&&okH H)=true) (h:∀x,H.u P x=F x):ConOk P H.T.gl f ⟨H.p,H.r,F⟩:=by
 rw[Aag,List.isEmpty_iff]at hb;exact Hd.con hM H hf hT (λp hp=>by rw[hb.1]at hp;cases hp) hb.2 h
theorem ind{p:Nat->Prop}(h:p 0)(hs:∀q,p q->p (q+1)):∀q,p q:=λq=>Nat.rec h hs q
variable {R α:Type}
noncomputable abbrev bo(a:Option R):Option R:=both a [a]
noncomputable abbrev bo2(a:Option R):Option R:=both a [a,a]
theorem NZ(a:Option R):both a [a]=a:=rP a
theorem Zd(a:Option R):both a [a,a]=a:=D1 a
theorem AH(a:Option R):both a [a,a,a]=a:=yT a
abbrev Si:Sh:= .lf (.int .i64) none
abbrev Sc:Sh:= .lf (.int .u8) none
abbrev Su:Sh:= .lf (.int .u32) none
abbrev Sq:Sh:= .lf (.int .u64) none
abbrev Sx:Sh:= .lf (.int .i32) none
abbrev Sz:Sh:= .lf .bool none
abbrev Ss:Sh:= .lf .str none
abbrev Sb:Sh:= .lf (.list (.int .u8)) none
abbrev Sl:Sh:= .lf (.list (.int .i64)) none
abbrev Sw:Sh:= .lf (.list (.int .i32)) none
abbrev Sv:Sh:= .lf (.list (.int .u32)) none
abbrev Ob(e:Nat):Sh:= .lf (.list (.int .u8)) (some e)
abbrev Ol(e:Nat):Sh:= .lf (.list (.int .i64)) (some e)
abbrev Ow(e:Nat):Sh:= .lf (.list (.int .i32)) (some e)
abbrev Ov(e:Nat):Sh:= .lf (.list (.int .u32)) (some e)
abbrev Ai(e:Nat)(l:List Int):Item:= .arr e (.int .i64) l
abbrev Ab(e:Nat)(l:List UInt8):Item:= .arr e (.int .u8) l
abbrev Aw(e:Nat)(l:List Int32):Item:= .arr e (.int .i32) l
abbrev Av(e:Nat)(l:List UInt32):Item:= .arr e (.int .u32) l
abbrev An.q(a:An):An:= .seq .d a
end Go.Rx
namespace Go.Rx
open Go Go.Lv Go.RowKit
variable {P:Program}
theorem WA{B:Reg}{w:World}{k:Kd}:∀(l:List k.T),Cv (Bc B w (.int k)) l (Go.Lv.NB (k:=k.k) l)
 |[]=>rfl
 |x::l=>⟨[iv (T:=k.T) (k:=k.k) x],Go.Lv.NB (k:=k.k) l,rfl,rfl,WA l⟩
theorem Rd.PA{A B:Reg}{w:World}{s:Nat}{v:Value}{cs:List Value}(h:Rd A w s v cs)(ha:∀b,A b->B b):Rd B w s v cs:=h.step ha λ_ _=>rfl
theorem enc_row{w:World}{k:Kd}{v:Value}{l:List k.T}(h:Rd (λ_=>True) w 1 v (Go.Lv.NB (k:=k.k) l)):Mc (λ_=>True/\True) w [] (.val (.list (.int k)) l) v:=
 ⟨v,_,rfl,Rd.PA h λ_ _=>⟨trivial,trivial⟩,WA l⟩
theorem enc_str{w:World}(s:List UInt8):Mc (λ_=>True/\True) w [] (.val .str s) (sv s):=rfl
theorem string_sv(a:ByteArray):∃l,(.string a:Value)=sv l:=⟨a.data.toList,by cases a;rfl⟩
theorem encs_nil{B:Reg}{w:World}:Jd B w [] [] []:=rfl
theorem encs_cons{B:Reg}{w:World}{p:PV}{ps:List PV}{v:Value}{vs:List Value}(h:Mc B w [] p v)(hs:Jd B w [] ps vs):Jd B w [] (p::ps) (v::vs):=⟨v,vs,rfl,h,hs⟩
theorem row_true{gl:List (Nat×List Value)}{f:Nat}{ps:List Sh}{F:SJ (EP ps)->Option Bool}(hC:ConOk P gl f ⟨ps,[.lf .bool none],F⟩){x:SJ (EP ps)}{pvs:List PV}{vs:List Value}(ha:args ps x=some pvs)(hi:zu ps x=[]){w:World}
  (hv:Jd (λ_=>True/\True) w [] pvs vs) (hg:GlOk gl (λ_=>True) w) (hF:F x=some true):Calls P f vs.toArray w λe w'=>e= .returned (.bool true)/\Below w.heap.size w w':=by
 refine(hC.ok (λ_=>True) (λ_=>True) w [] vs pvs x true ha (by rw[hi];rfl) (λi a m h=>by rw[hi]at h;simp at h) trivial hv hg hF).mono ?_;rintro e w' ⟨us,rfl,hk,A1,L1,g1,g2,g3⟩;obtain⟨qs,its,k1,k2,k3,k4,k5⟩:=g3 ⟨[],[],[]⟩ [] (λ_=>True) rfl (λ_ _=>trivial) (λ_ _ _=>trivial);refine⟨?_,⟨hk.gr.os,hk.gr.tape,hk.gr.output,hk.gr.le,λb hb=>hk.same b hb trivial⟩⟩;obtain rfl:=Ap6 (show some [PV.val .bool true]=some qs from k2);obtain⟨_,_,rfl,e1,rfl⟩:=k3;cases(show [_]=[Value.bool true]from e1);rfl
theorem laid_ints{H:Type}{enc:TypeId×Value->H}{w:World}{fuel:Nat}{t e n:Nat}{k:IntKind}{cs:List Value}{zs:List Int}{p:List MemPlace}(hu:P.underlying t=some (.array n e))(he:P.underlying e=some (.int k))(hc:P.cellsOf e=1)(ht:P.cellsOf t=n)
  (h:DataW.trod enc P w 0 (λ_=>true) false fuel t cs=some (.agg (zs.map λz=> .lit (.int k z)),p)):cs=zs.map λz=>Value.int k z:=by
 obtain⟨xs,m,rfl,hx,hlen,hn,hel⟩:=DataW.trod_array hu h;simp only[Adm,DataW.agg.injEq]at hx;rw[ht]at hlen;have hz:zs.length=n:=by
  have:=congrArg List.length hx.1;simpa [hn]using this
 apply List.ext_getElem?;intro i;by_cases hi:i<n
 ·have h0:=hel i hi;rw[hc,Nat.mul_one]at h0;have hxi:xs[i]? =some xs[i]:=List.getElem?_eq_getElem (by omega);rw[hxi]at h0;obtain⟨q,e1,e2,_⟩:=DataW.trod_int he h0;have e3:(cs.drop i).take 1=[cs[i]'(by omega)]:=by
   rw[List.drop_eq_getElem_cons (by omega)];rfl
  rw[e3]at e1;have e4:(xs.map (·.1))[i]? =(zs.map λz=>(DataW.lit (.int k z):DataW H))[i]? :=by rw[<-hx.1]
  rw[List.getElem?_map,List.getElem?_map,hxi,List.getElem?_eq_getElem (by omega),e2]at e4;simp only[Axt,Ab0,DataW.lit.injEq,Lit.int.injEq,true_and]at e4;rw[List.getElem?_map,List.getElem?_eq_getElem (by omega),List.getElem?_eq_getElem (by omega)];simp only[List.cons.injEq,Ayb]at e1;rw[e1,e4];rfl
 ·rw[List.getElem?_eq_none (by omega),List.getElem?_eq_none (by simp;omega)]
theorem glOk_cons{n:String}{g:Nat}{cs:Array Value}{l:List Value}{gl:List (Nat×List Value)}{w:World}(hg:P.globalNamed n=some g)(hv:w.var? P n=some cs)(hl:cs.toList=l)(h:GlOk gl (λ_=>True) w):GlOk ((g,l)::gl) (λ_=>True) w:=by
 intro p hp;rcases List.mem_cons.1 hp with rfl|hp
 ·simp only[World.var?,hg,Option.bind_some]at hv;split at hv
  ·rename_i cs' T fr hh;cases hv;refine⟨(Array.getElem?_eq_some_iff.1 hh).1,trivial,T,fr,?_⟩;rw[hh,<-hl]
  ·cases hv
 ·exact h p hp
theorem glOk_nil{w:World}{N:Reg}:GlOk [] N w:=λp hp=>by simp at hp
end Go.Rx
namespace Go.Rx
open Go Go.Lv Go.RowKit Go.ChangeShapes Go.WideShapes
variable {P:Program}
theorem laid_bool_int{H:Type}{enc:TypeId×Value->H}{w:World}{fuel:Nat}{t:TypeId}{f0 f1:Field}{k:IntKind}{cs:List Value}{b:Bool}{z:Int}{p:List MemPlace}(hu:P.underlying t=some (.struct #[f0,f1]))
  (h0:P.underlying f0.type=some .bool) (h1:P.underlying f1.type=some (.int k)) (o0:f0.offset=0) (o1:f1.offset=1) (c0:P.cellsOf f0.type=1) (c1:P.cellsOf f1.type=1) (ct:P.cellsOf t=2)
  (h:DataW.trod enc P w 0 (λ_=>true) false fuel t cs=some (.agg [.lit (.bool b), .lit (.int k z)],p)):cs=[.bool b, .int k z]:=by
 obtain⟨xs,m,rfl,hx,hlen,hn,hel⟩:=DataW.trod_struct hu h;rw[ct]at hlen
 match cs,hlen with
 |[a,c],_=>
  match xs,hn with
  |[y0,y1],_=>
   simp only[Adm,DataW.agg.injEq,Awl,List.map_nil,List.cons.injEq,Ayb]at hx;have e0:=hel 0 f0 rfl;have e1:=hel 1 f1 rfl;rw[o0,c0]at e0;rw[o1,c1]at e1;obtain⟨b',q0,r0⟩:=DataW.trod_bool h0 e0;obtain⟨z',q1,r1,_⟩:=DataW.trod_int h1 e1;simp at q0 q1;rw[r0,r1]at hx;simp at hx;rw[q0,q1,hx.1.1,hx.1.2]
theorem fld{H:Type}{enc:TypeId×Value->H}{w:World}{base:Nat}{spare:Nat->Bool}{held:Bool}{fuel:Nat}{t:TypeId}{fs:Array Field}{cs:List Value}{x:DataW H×List MemPlace}(ht:P.underlying t=some (.struct fs))(h:DataW.trod enc P w base spare held fuel t cs=some x)
  (i:Nat) {ft:TypeId} {off k:Nat} {part:List Value} (hf:(fs[i]?).map (λf=>(f.type,f.offset))=some (ft,off)) (hc:P.cellsOf ft=k) (hd:(cs.drop off).take k=part):∃n y,DataW.trod enc P w base spare held n ft part=some y:=by
 obtain⟨xs,n,_,_,_,hn,hel⟩:=DataW.trod_struct ht h;cases hi:fs[i]? with
 |none=>rw[hi]at hf;cases hf
 |some f=>
  rw[hi]at hf;cases hf;have g:=hel i f hi;rw[hc,hd,List.getElem?_eq_getElem (by rw[hn];exact(Array.getElem?_eq_some_iff.1 hi).1)]at g;exact⟨n,_,g⟩
end Go.Rx
namespace Go.Rx
open Go Go.Lv Go.RowKit Go.ChangeShapes Go.WideShapes
variable {P:Program}
end Go.Rx
