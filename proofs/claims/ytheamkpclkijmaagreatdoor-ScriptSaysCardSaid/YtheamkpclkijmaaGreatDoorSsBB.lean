/- A part of a proof (see the text that ends in Proof). No conditions. -/
import Derived.Test.YtheamkpclkijmaaGreatDoorSsBA
import Derived.MapKept
import Derived.ProofKit
import Derived.LaidMore
import Derived.DataReads
import Derived.ChangeSame
set_option linter.unusedVariables false
set_option linter.unusedSimpArgs false
namespace Go.Rx
open Go Go.Lv
variable{j:Int}{q:IntKind}{x ix:Operand}{p u:PV}{v:Value}
variable {P:Program} {w w':World} {L L':List MD} {s:S} {σs:List Env} {σ:Env} {Z:Fix} {A A':Reg} {n:Nat} {ops:Array Oper} {rest:List Oper} {K:Env->World->Prop}
variable {R:Type} {k:S->Option R} {r:R} {d:Option Nat} {ty:TypeId} {pos:String} {after:Array Edge}
theorem WL.Acl{o:Oper}{w':World}(hg:o.guard=none)(hdn:Kn n o=true)
  (hx:(execOp (ev σ) o).run P w= .ok (.value v) w') (h:WL P n ops rest K (Agr σ o.dst v) w'):WL P n ops (o::rest) K σ w:=by
 intro ds a ha;refine wpList_plain hg λK' hK'=>?_;unfold Oper.wp;rw[ha.eval,hx];refine hK' _ _ ?_;cases hd:o.dst with
 |none=>rw[hd]at h;exact h _ _ (ha.A8 v)
 |some d=>
  rw[hd]at h;unfold Kn at hdn;rw[hd]at hdn;exact h _ _ (ha.put hdn v)
def K4(Z:Fix)(σs:List Env)(k:S->Option R)(r:R)(G:Prop)(A:Reg)(L:List MD)(it:List Item)(w:World)(σ':Env)(w':World):Prop:=
 ∃s' A' L',k s'=some r/\Rel Z s' σs A' L' σ' w'/\ (G->Grow A L it w A' L' s'.it w')
abbrev AI(P:Program)(n:Nat)(ops:Array Oper)(o:Oper)(Z:Fix)(s:S)(σs:List Env)(k:S->Option R)(r:R)(G:Prop)(A:Reg)(L:List MD)(σ:Env)(w:World):Prop:=
 WL P n ops [o] (K4 Z σs k r G A L s.it w) σ w
theorem Ed{o:Op}{val:Value}{G:Prop}(hr:Rel Z s σs A L σ w)(hd:Kn n ⟨d,o,ty,pos,after,none⟩=true)(hx:XO P σ w o val)(hv:p.isV=true)(h:Fs (λb=>A b/\Z.R b) w L p val)
  (hk:k (s.Gt d p)=some r):AI P n ops ⟨d,o,ty,pos,after,none⟩ Z s σs k r G A L σ w:=by
 refine WL.Acl rfl hd (hx _ _ _ _ _) (WL.nil ⟨_,A,L,hk,hr.Gt hv h,λ_=>?_⟩);have:(s.Gt d p).it=s.it:=by cases d<;>rfl
 rw[this];exact .refl
theorem JX{B:Reg}(h:bS p=some j)(hv:Fs B w L p v):∃q,v= .int q j:=by
 unfold bS at h;split at h
 ·rename_i e x;split at h
  ·cases h;exact⟨_,LW hv⟩
  ·cases h
 ·cases h
theorem TX(h:bS p=some j):p.isV=true:=by unfold bS at h;split at h;rfl;cases h
theorem yF{B:Reg}(h:asInt p=some j)(hv:Fs B w L p v):v=iv j:=by
 unfold asInt at h;split at h
 ·rename_i e x;split at h
  ·rename_i q y;split at h
   ·cases h;exact LW hv
   ·cases h
  ·cases h
 ·cases h
theorem X3(h:asInt p=some j):p.isV=true:=by unfold asInt at h;split at h;rfl;cases h
theorem Me{o:Option Operand}{dflt:Int}{B:Reg}(hm:Gy B w L σ s.sl)(h:VK s.sl o dflt=some j):(∃q,o.map (ev σ)=some (.int q j))\/ (o=none/\j=dflt):=by
 unfold VK at h;split at h
 ·cases h;exact .inr ⟨rfl,rfl⟩
 ·rename_i x;obtain⟨q,hq⟩:=JX h (Rv hm x (TX h));exact .inl ⟨q,by rw[Awt,hq]⟩
theorem X.Aia{t:TypeId}{l:List UInt8}{y:UInt8}(ht:P.underlying t=some .string)(hx:ev σ x=sv l)(hi:ev σ ix= .int q j)(hg:Ah l j=some y):
  XO P σ w (.index t x ix) (iv y):=λ_ _ _ _ _=>by
 obtain⟨h1,h2,h3⟩:=Kg hg;have h4:=run_index_string (P:=P) w t ⟨l.toArray⟩ q j ht;have h5:0<=j/\j<(⟨l.toArray⟩:ByteArray).size:=by simp[ByteArray.size];omega
 rw[dif_pos h5]at h4;have h6:(⟨l.toArray⟩:ByteArray)[j.toNat]'(by simp[ByteArray.size];omega)=y:=by
  have e1:l[j.toNat]=y:=by rw[List.getElem?_eq_getElem h2]at h3;simpa using h3
  rw[<-e1];rfl
 simp only[execOp,hx,hi,Al4,h4,Aea,Ap5,Ad5];rw[h6]
theorem Amw{t et:TypeId}{m:Nat}{e:ET}{l:List e.T}{y:e.T}{cs:List Value}{B:Reg}(ht:P.underlying t=some (.array m et))(hsz:Jk P et e.size)
  (hag:∃u,P.underlying et=some u/\Agv u=(e.pv y).isA) (h1:(e.pv y).isA=false->e.size=1) (hlen:l.length=m)
  (hx:ev σ x= .agg cs.toArray) (hl:Ci (Az B w e) l cs) (hi:ev σ ix= .int q j) (hg:Ah l j=some y):∃val,XO P σ w (.index t x ix) val/\Ih B w L (e.pv y) val:=by
 obtain⟨h3,h4,h5⟩:=Kg hg;obtain⟨c1,c2,c3,he,h6,h7,_⟩:=Ci.get (λx c h=>Az.len h) hl h5;have h8:0<=j/\j<(m:Int):=F0
 obtain⟨u,hu,ha⟩:=hag;have hc2:=h7.len;cases hA:(e.pv y).isA with
 |true=>
  refine⟨.agg c2.toArray,λ_ _ _ _ _=>?_,by unfold Ih;rw[hA];exact⟨c2,rfl,WE.2 h7⟩⟩;have e1:(cs.drop (j.toNat*e.size)).take e.size=c2:=by rw[he,<-h6,<-hc2];simp
  simp[execOp,hx,hi,Instr.index,asIntOf,Ahy ht,h8,Bz hsz,asAgg,part,Fo hu (ha.trans hA),e1]
 |false=>
  rw[h1 hA]at hc2
  match c2,hc2 with
  |[v],_=>
   refine⟨v,λ_ _ _ _ _=>?_,by unfold Ih;rw[hA];exact WE.2 h7⟩;have e1:cs[j.toNat*e.size]? =some v:=by rw[he,<-h6];simp
   simp[execOp,hx,hi,Instr.index,asIntOf,Ahy ht,h8,Bz hsz,asAgg,part,Fo hu (ha.trans hA),e1]
theorem Tq{t et:TypeId}{b o len cap z:Nat}(ht:P.underlying t=some (.slice et))(hsz:Jk P et z)(hx:ev σ x= .slice (some ⟨b,o,none⟩) len cap)(hi:ev σ ix= .int q j)
  (h0:0<=j) (h1:j<len) (w:World):XO P σ w (.indexAddr t x ix) (.pointer (some ⟨b,o+j.toNat*z,none⟩)):=λ_ _ _ _ _=>by
 simp only[execOp,hx,hi,Instr.indexAt,Al4,asIntOf,Ap5,Aea,Ahy ht,h0,h1,and_self,Axf,Bz hsz,Lc]
theorem VX{t et:TypeId}{b o m z:Nat}(ht:P.underlying t=some (.array m et))(hsz:Jk P et z)(hx:ev σ x= .pointer (some ⟨b,o,none⟩))(hi:ev σ ix= .int q j)
  (h0:0<=j) (h1:j<m) (w:World):XO P σ w (.indexAddr t x ix) (.pointer (some ⟨b,o+j.toNat*z,none⟩)):=λ_ _ _ _ _=>by
 simp only[execOp,hx,hi,Instr.indexAt,Instr.sureAddr,Al4,asIntOf,Ap5,Aea,Ahy ht,h0,h1,and_self,Axf,Bz hsz,Lc]
theorem Ft{t:TypeId}{i:TypeInfo}{z:Nat}(h:P.info? t=some i)(hz:Nat.beq i.size z=true):Jk P t z:=⟨i,h,Da hz⟩
theorem Rel.base(hr:Rel Z s σs A L σ w){i z:Nat}{E:TypeId}{cs:List Value}(h:L[i]? =some (.own z E v cs))(hne:0<cs.length):∃b len cap,v= .slice (some ⟨b,0,none⟩) len cap/\cs.length=len*z:=by
 obtain⟨b,m,c,hv,_⟩:=St.Z6 hr (hr.Jy h) hne;obtain⟨p,len,cap,h1,h2,_⟩:=hr.Ua h;subst hv;cases h1;exact⟨b,m,c,rfl,h2⟩
theorem aX(st:Step):∀(p:List Step),Ay (p++[st])=Ay p+iR st
 |[]=>by simp[Ay]
 |a::p=>by simp[Ay,aX st p,Asn]
theorem Abe{t:TypeId}{G:Prop}(hr:Rel Z s σs A L σ w)(hd:Kn n ⟨d, .indexAddr t x ix,ty,pos,after,none⟩=true)(h:sC P s d t x ix k=some r):
  AI P n ops ⟨d, .indexAddr t x ix,ty,pos,after,none⟩ Z s σs k r G A L σ w:=by
 have hm:=hr.mem;unfold sC at h;split at h
 ·cases h
 ·rename_i j hj;obtain⟨q,hix⟩:=JX hj (Rv hm.sl ix (TX hj));split at h
  ·rename_i et ht;split at h
   ·cases h
   ·rename_i inf Tn;split at h
    ·rename_i e0 l0 hx;split at h
     ·rename_i e l;obtain⟨hb,h⟩:=Bb h;simp only[Aa5]at hb;obtain⟨y,hy,h⟩:=bind_some h;obtain⟨hj0,hj1,hj2⟩:=Kg hy;obtain⟨c0,h1,h2⟩:=BW (Dh hm.sl hx rfl);obtain⟨p,len,cap,h3,h4,h5,h6,h7⟩:=h1;have hlen:=h2.len λx c h=>Az.len h;have hz:0<e.size:=by have:=Asg hb.2;omega
      have hl:len=l.length:=Apd hz (h4.symm.trans hlen);subst hl;obtain⟨b,off,arr,T,fr,rfl,hB,hbl,hcap,hc⟩:=h7 F0;obtain⟨c1,c2,c3,he,h8,h9,_⟩:=Ci.get (λx c h=>Az.len h) h2 hj2;have h10:c2.length=e.size:=h9.len;have h11:(j.toNat+1)*e.size<=l.length*e.size:=Adh _ hj1;rw[Awa]at h11;have hp:T9 (λb=>A b/\Z.R b) w (.pointer (some ⟨b,off+j.toNat*e.size,none⟩)) c2:=by
       refine⟨b,off+j.toNat*e.size,arr,T,fr,rfl,hB,hbl,λq hq=>?_⟩;rw[Asn,hc _ F0,he,List.getElem?_append_right F0,h8,show j.toNat*e.size+q-j.toNat*e.size=q by omega,List.getElem?_append_left hq]
      have hvr:Fs (λb=>A b/\Z.R b) w L (.rptr (e.pv y)) (.pointer (some ⟨b,off+j.toNat*e.size,none⟩)):=⟨_,c2,rfl,hp,WE.2 h9⟩;exact Ed hr hd (Tq ht (Ft Tn hb.1) h3 hix F0 F0 w) rfl hvr h
     ·cases h
    ·rename_i i hx;split at h
     ·rename_i E e l hi;obtain⟨hb,h⟩:=Bb h;simp only[Aa5]at hb;obtain⟨y,hy,h⟩:=bind_some h;obtain⟨hj0,hj1,hj2⟩:=Kg hy;obtain⟨v,cs,h1,h2⟩:=hm.arr hi;obtain⟨z',E',c',h3⟩:=LY (Dh hm.sl hx rfl);rw[h1]at h3;cases h3;have hlen:=h2.len λx c h=>Az.len h;have hz:0<e.size:=by have:=Asg hb.2;omega
      have hpos:0<cs.length:=by rw[hlen];exact Nat.mul_pos F0 hz
      obtain⟨b,len,cap,h4,h5⟩:=hr.base h1 hpos;have hl:len=l.length:=Apd hz (h5.symm.trans hlen);subst hl;have:=Tq ht (Ft Tn hb.1) h4 hix F0 F0 w;refine Ed hr hd this rfl ?_ h;rw[show(0:Nat)+j.toNat*e.size=Ay [.idx j e.size] by simp[Ay,iR]];refine LD h1 ?_;rw[h4];rfl
     ·cases h
    ·rename_i o i p e lo n' hx;obtain⟨hb,h⟩:=Bb h;simp only[Aa5]at hb;obtain⟨_,hok,h⟩:=bind_some h;have hj':0<=j/\j<n':=Au6 (Xb hok);obtain⟨md,v1,h3,h4,k1,k2,⟨pt,cap,k3,k4,k5,k6⟩,_⟩:=Dh hm.sl hx rfl;have h6:ev σ x=v1:=by simpa using h4
     obtain⟨b,e1,rfl⟩:=k6 F0;have:=Tq ht (Ft Tn hb.1) (h6.trans k3) hix hj'.1 F0 w;refine Ed hr hd this rfl ?_ h;rw[show Ay p+lo.toNat*e.size+j.toNat*e.size=Ay (p++[.idx (lo+j) e.size]) by
      rw[aX,Asn,<-Arr]
      show _=Ay p+(lo+j).toNat*e.size;rw[Int.toNat_add k1 hj'.1]]
     exact LD h3 e1
    ·cases h
  ·rename_i m et ht;split at h
   ·cases h
   ·rename_i inf Tn;split at h
    ·rename_i i p hx;split at h
     ·rename_i T v hi;split at h
      ·rename_i e0 l0 hg;split at h
       ·rename_i m' e l;obtain⟨hb,h⟩:=Bb h;simp only[Aa5]at hb;obtain⟨y,hy,h⟩:=bind_some h;obtain⟨hj0,hj1,hj2⟩:=Kg hy;obtain⟨b,cells,h1,h2⟩:=hm.box hi;obtain⟨c1,c2,c3,he,h3,h4⟩:=bJ hg h2;obtain⟨md,b',h5,h6,h7⟩:=Zi (Dh hm.sl hx rfl);rw[h1]at h5;cases h5;cases h6;have hl:l.length=m:=(show l.length=m'/\ _ from h4).1.trans (Da hb.2);have:=VX ht (Ft Tn hb.1.1) h7 hix F0 F0 w;refine Ed hr hd this rfl ?_ h;rw[show Ay p+j.toNat*e.size=Ay (p++[.idx j e.size]) by simp[SC,Ay,iR]];exact LD h1 rfl
       ·cases h
      ·cases h
     ·cases h
    ·cases h
  ·cases h
def MD.cells:MD->List Value| .box _ c _=>c| .own _ _ _ c=>c| .dead=>[]
theorem Rel.cells(hr:Rel Z s σs A L σ w){i b:Nat}{md:MD}(h:L[i]? =some md)(hb:md.base=some b):∀j,j<md.cells.length->w.cell? ⟨b,j,none⟩=md.cells[j]? :=by
 intro j hj;cases md with
 |dead=>cases hb
 |box b' cells T=>cases hb;rw[cell_of (St.box hr (hr.Jy h))];simp[MD.cells]
 |own z E v cells=>
  obtain⟨b',m,c,hv,hs'⟩:=St.Z6 hr (hr.Jy h) (by simp[MD.cells]at hj;omega);subst hv;cases hb;obtain⟨o,rfl,h2⟩:=Dp.mem (A:=A) hs'.mobs (i:=i) (m:= .at_ b z E m c cells) (by rw[List.getElem?_set_self (by simpa using(List.getElem?_eq_some_iff.1 h).1)]);obtain⟨_,len,cap,e,h3,_,_,_,h6⟩:=h2;obtain⟨arr,fr,_,hb,_,_,hc⟩:=h6 b rfl;rw[cell_of hb];exact hc j (by rw[<-h3];exact hj)
theorem eW{t:TypeId}{c2:List Value}{b off:Nat}{B:Reg}(h:OkLoad P t u)(hu:Bj B w L u c2)
  (hx:ev σ x= .pointer (some ⟨b,off,none⟩)):∃val,Ih B w L u val/\∀w':World,(∀j,j<c2.length->w'.cell? ⟨b,off+j,none⟩=c2[j]?)->XO P σ w' (.load t x) val:=by
 obtain⟨d,hd,ha⟩:=h.agg;have hlen:=hu.len;cases hA:u.isA with
 |true=>
  refine⟨.agg c2.toArray,by unfold Ih;rw[hA];exact⟨c2,rfl,hu⟩,λw' hc _ _ _ _ _=>?_⟩;have h1:=Mq (P:=P) (w:=w') (b:=b) (off:=off) c2 hc;rw[hlen]at h1;simp only[execOp,hx,Instr.loadAt,Instr.sureAddr,Al4,Ap5,Aea,loadVar,Fo hd (ha.trans hA),Axf,Bz h.size,h1]
 |false=>
  have h1:=h.one hA;rw[h1]at hlen
  match c2,hlen with
  |[v],_=>
   refine⟨v,by unfold Ih;rw[hA];exact hu,λw' hc _ _ _ _ _=>?_⟩;have h2:w'.cell? ⟨b,off,none⟩=some v:=by simpa using hc 0 Axl
   simp only[execOp,hx,Instr.loadAt,Instr.sureAddr,Al4,Ap5,Aea,loadVar,Fo hd (ha.trans hA),Ap6,Av4,JM h2]
theorem H9{t:TypeId}{c2:List Value}{b off:Nat}{B:Reg}(h:OkLoad P t u)(hu:Bj B w L u c2)(hc:∀j,j<c2.length->w.cell? ⟨b,off+j,none⟩=c2[j]?)
  (hx:ev σ x= .pointer (some ⟨b,off,none⟩)):∃val,Ih B w L u val/\XO P σ w (.load t x) val:=by
 obtain⟨val,h1,h2⟩:=eW (P:=P) (σ:=σ) h hu hx;exact⟨val,h1,h2 w hc⟩
def Ard:Item->MD->Prop| .box T _,md=>∃b c,md= .box b c T| .arr E e _,md=>∃v c,md= .own e.size E v c| .dead,_=>False
def Zf(off:Nat)(ns:List Value):MD->MD->Prop
 | .box b c T,md'=>md'= .box b (Bl c off ns) T
 | .own z E v c,md'=>md'= .own z E v (Bl c off ns)
 | .dead,_=>False
theorem MemR.root{B:Reg}(hm:MemR B w L s σs σ){i:Nat}{md:MD}(h:L[i]? =some md)(hd:Cx s.it i≠ .dead):lU B w L (Cx s.it i) md.cells/\Ard (Cx s.it i) md:=by
 obtain⟨md',h1,h2⟩:=hm.item rfl hd;rw[h]at h1;cases h1
 revert h2 hd
 cases Cx s.it i with
 |dead=>intro hd _;exact absurd rfl hd
 |box T v=>
  intro _ h2;cases md with
  |box b c T'=>obtain⟨rfl,h3⟩:=h2;exact⟨h3,b,c,rfl⟩
  |_=>exact h2.elim
 |arr E e l=>
  intro _ h2;cases md with
  |own z E' v c=>obtain⟨rfl,rfl,h3⟩:=h2;exact⟨h3,v,c,rfl⟩
  |_=>exact h2.elim
theorem Aou{t:TypeId}{G:Prop}(hr:Rel Z s σs A L σ w)(hd:Kn n ⟨d, .load t x,ty,pos,after,none⟩=true)(h:Abo P s d t x k=some r):
  AI P n ops ⟨d, .load t x,ty,pos,after,none⟩ Z s σs k r G A L σ w:=by
 have hm:=hr.mem;unfold Abo at h;split at h
 ·rename_i i p hx;obtain⟨md,b,h1,h2,h3⟩:=Zi (Dh hm.sl hx rfl);have hne:Cx s.it i≠ .dead:=by intro e;rw[e]at h;simp[getRoot]at h
  obtain⟨h4,_⟩:=hm.root h1 hne;obtain⟨u,c1,c2,c3,hk,he,h5,h6⟩:=H8 h h4;obtain⟨hb,hk⟩:=Bb hk;have hc:=hr.cells h1 h2;obtain⟨val,h7,h8⟩:=H9 (P:=P) (σ:=σ) (x:=x) (b:=b) (off:=Ay p) (Rj hb) h6 (λj hj=>by
   rw[hc _ (by rw[he];simp;omega),he,List.getElem?_append_right F0,h5,show Ay p+j-Ay p=j by omega,List.getElem?_append_left hj]) h3
  obtain⟨hv,hv'⟩:=Lh h7;exact Ed hr hd h8 hv hv' hk
 ·cases h
mutual
theorem Bj.one{B:Reg}:∀{p:PV} {cs:List Value},Bj B w L p cs->L.all (λm=>match m with| .own _ _ v _=>v.oneCell'|_=>true)=true->∀v∈cs,v.oneCell'=true
 | .val e x,cs,h,_,v,hv=>Az.one (show Az B w e x cs from h) v hv
 | .agg l,cs,h,hL,v,hv=>Bj.jZ (show Bj.go B w L l cs from h) hL v hv
 | .tup _,_,h,_,_,_=>h.elim
 | .nils,cs,h,_,v,hv=>by rw[show cs=_ from h]at hv;simp at hv;subst hv;rfl
 | .own i,cs,⟨z,E,u,c,h1,h2⟩,hL,v,hv=>by
  rw[h2]at hv;simp at hv;subst hv;exact List.all_eq_true.1 hL _ (List.mem_of_getElem? h1)
 | .ptr i p,cs,⟨_,_,_,_,h⟩,_,v,hv=>by rw[h]at hv;simp at hv;subst hv;rfl
 | .rptr q,cs,⟨pv,_,h,⟨_,_,_,_,_,e,_⟩,_⟩,_,v,hv=>by rw[h]at hv;simp at hv;subst hv;rw[e];rfl
 | .fn f caps,cs,⟨_,h,_⟩,_,v,hv=>by rw[h]at hv;simp at hv;subst hv;rfl
 | .cap _ _ _,cs,⟨_,_,h,_,_,_,_,_,e⟩,_,v,hv=>by rw[h]at hv;simp at hv;subst hv;rw[e];rfl
 | .bfn _ _,cs,⟨_,h,_⟩,_,v,hv=>by rw[h]at hv;simp at hv;subst hv;rfl
 | .mp _ _,cs,⟨_,_,_,h,_⟩,_,v,hv=>by rw[h]at hv;simp at hv;subst hv;rfl
 | .cst u,cs,h,_,v,hv=>by rw[show cs=_ from h.1]at hv;simp at hv;subst hv;exact h.2
 | .any,cs,⟨u,h,h'⟩,_,v,hv=>by rw[h]at hv;simp at hv;subst hv;exact h'
 | .view _ _ _ _ _ _,cs,⟨_,u,_,h,_,_,⟨_,_,e,_⟩,_⟩,_,v,hv=>by rw[h]at hv;simp at hv;subst hv;rw[e];rfl
 | .gd _ _ _,_,h,_,_,_=>h.elim
 | .off,_,h,_,_,_=>h.elim
 | .undef,_,h,_,_,_=>h.elim
theorem Bj.jZ{B:Reg}:∀{l:List PV} {cs:List Value},Bj.go B w L l cs->L.all (λm=>match m with| .own _ _ v _=>v.oneCell'|_=>true)=true->∀v∈cs,v.oneCell'=true
 |[],cs,h,_,v,hv=>by rw[show cs=[]from h]at hv;simp at hv
 |a::q,cs,⟨c1,c2,e,h1,h2⟩,hL,v,hv=>by
  subst e;rcases List.mem_append.1 hv with hv|hv
  ·exact Bj.one h1 hL v hv
  ·exact Bj.jZ h2 hL v hv
end
theorem Rel.jZ(hr:Rel Z s σs A L σ w):L.all (λm=>match m with| .own _ _ v _=>v.oneCell'|_=>true)=true:=by
 refine List.all_eq_true.2 λm hm=>?_;obtain⟨i,hi,he⟩:=List.getElem_of_mem hm;cases m with
 |own z E v c=>
  obtain⟨p,len,cap,rfl,_⟩:=hr.Ua (i:=i) (by rw[List.getElem?_eq_getElem hi,he]);rfl
 |_=>rfl
theorem QW{B:Reg}(hr:Rel Z s σs A L σ w)(h:Ih B w L p v):∃cs:List Value,v.cells=cs.toArray/\Bj B w L p cs:=by
 unfold Ih asV at h;split at h
 ·obtain⟨cs,rfl,h⟩:=h;exact⟨cs,rfl,h⟩
 ·refine⟨[v],?_,h⟩;have:=h.one hr.jZ v (.head _);cases v<;>first|rfl|cases this
theorem dY.own{i z:Nat}{E:TypeId}{cs cs':List Value}(h:L[i]? =some (.own z E v cs)):dY L (L.set i (.own z E v cs')):=
 dY.set h (λ_ _ _ _ e=>by cases e;exact⟨_,_,_,rfl⟩) (λb hb=>by
  unfold MD.base at hb⊢;split at hb
  ·rename_i e;cases e
  ·rename_i e;cases e;exact hb
  ·cases hb)
theorem dY.box{i b:Nat}{T:TypeId}{cs cs':List Value}(h:L[i]? =some (.box b cs T)):dY L (L.set i (.box b cs' T)):=
 dY.set h (λ_ _ _ _ e=>by cases e) (λb hb=>hb)
theorem Y2{i:Nat}{md:MD}(h:L[i]? =some md):(L.map MD.Jy)[i]? =some md.Jy:=by simp[h]
theorem Ahm{t:TypeId}{a:Operand}{i b off z:Nat}{md:MD}{ns:List Value}{K:Env->World->Prop}{F:List Fact}(hr:St A w F (L.map MD.Jy))(h:L[i]? =some md)(hb:md.base=some b)
  (hsz:Jk P t z) (ha:ev σ a= .pointer (some ⟨b,off,none⟩)) (hx:ev σ x=v) (hv:v.cells=ns.toArray) (hl:ns.length=z) (h1:ns.all (·.oneCell')=true) (hle:off+z<=md.cells.length) (hz:0<z)
  (hK:∀(w':World) (md':MD),St A w' F ((L.map MD.Jy).set i md'.Jy)->Zf off ns md md'->K σ w'):
  WL P n ops [⟨none, .store t a x,ty,pos,after,none⟩] K σ w:=by
 cases md with
 |dead=>cases hb
 |box b' cells T=>
  cases hb;exact WL.Afy hr (Y2 h) hsz ha hx hv hl h1 (by simpa [Nat.ble_eq,MD.cells]using hle) rfl rfl (λw' hs'=>WL.nil (hK w' (.box b (Bl cells off ns) T) hs' rfl))
 |own z' E u cells=>
  obtain⟨b',m,c,hu,hs'⟩:=St.Z6 hr (Y2 h) (by simp[MD.cells]at hle;omega);subst hu;cases hb;have hlen:i<(L.map MD.Jy).length:=by simpa using(List.getElem?_eq_some_iff.1 h).1
  have hL1:((L.map MD.Jy).set i (.at_ b z' E m c cells))[i]? =some (.at_ b z' E m c cells):=by rw[List.getElem?_set_self hlen]
  refine WL.Ah2 hs' hL1 hsz ha hx hv hl h1 hle rfl rfl (λw' hs2=>WL.nil ?_);have hs3:=hs2.As5 (i:=i) (b:=b) (s:=z') (m:=m) (c:=c) (E:=E) (cs:=Bl cells off ns) (by rw[List.getElem?_set_self (by simpa using hlen)]);rw[List.set_set,List.set_set]at hs3;exact hK w' (.own z' E (.slice (some ⟨b,0,none⟩) m c) (Bl cells off ns)) hs3 rfl
end Go.Rx
namespace Go.Rx
open Go Go.Lv
variable{a x:Operand}{m p:PV}{v:Value}
variable {P:Program} {B:Reg} {w w':World} {L L':List MD} {s:S} {σs:List Env} {σ:Env} {Z:Fix} {A A':Reg} {n:Nat} {ops:Array Oper} {rest:List Oper} {K:Env->World->Prop}
variable {R:Type} {k:S->Option R} {r:R} {d:Option Nat} {ty:TypeId} {pos:String} {after:Array Edge}
structure Frz (B:Reg) (w:World) (L:List MD) (i:Nat) (m:PV):Prop where
 enc:∀z E v c,L[i]? =some (.own z E v c)->Bj B w (L.set i .dead) m [v]
 isA:m.isA=false
 isV:m.isV=true
theorem O9{i:Nat}(hm:m.isA=false):(subst i m p).isA=p.isA:=by
 cases p<;>try rfl
 ·rename_i j;simp only[subst];cases hb:Nat.beq i j with
  |true=>exact hm
  |false=>rfl
 ·rename_i j q;simp only[subst];cases hb:Nat.beq i j<;>rfl
 ·rename_i o j q e lo n;simp only[subst];cases hb:Nat.beq i j<;>rfl
theorem gQ{i j:Nat}(h:Nat.beq i j=false):(L.set i .dead)[j]? =L[j]? :=by
 rw[List.getElem?_set_ne];intro e;subst e;simp at h
mutual
theorem XI{i:Nat}{m:PV}(hf:Frz B w L i m):∀{p:PV} {cs:List Value},Bj B w L p cs->Bj B w (L.set i .dead) (subst i m p) cs
 | .val _ x,cs,h=>h
 | .agg q,cs,h=>yO hf (show Bj.go B w L q cs from h)
 | .tup _,_,h=>h.elim
 | .nils,cs,h=>h
 | .own j,cs,⟨z,E,v,c,h1,h2⟩=>by
  simp only[subst];cases hb:Nat.beq i j with
  |true=>
   have:=Da hb;subst this;rw[h2];exact hf.enc _ _ _ _ h1
  |false=>exact⟨z,E,v,c,by rw[gQ hb];exact h1,h2⟩
 | .ptr j q,cs,⟨md,b,h1,h2,h3⟩=>by
  simp only[subst];cases hb:Nat.beq i j with
  |true=>exact⟨_,h3,rfl⟩
  |false=>exact⟨md,b,by rw[gQ hb];exact h1,h2,h3⟩
 | .view o j q e lo n,cs,⟨md,v,h1,h2,h3⟩=>by
  simp only[subst];cases hb:Nat.beq i j with
  |true=>
   obtain⟨_,_,⟨pt,cap,e',_⟩,_⟩:=h3;exact⟨v,h2,by rw[e'];rfl⟩
  |false=>exact⟨md,v,by rw[gQ hb];exact h1,h2,h3⟩
 | .rptr v,cs,⟨pv,c0,h1,h2,h3⟩=>by
  exact⟨pv,c0,h1,h2,XI hf h3⟩
 | .fn f caps,cs,⟨vs,h1,h2⟩=>⟨vs,h1,SD hf h2⟩
 | .cap _ _ _,cs,h=>h
 | .bfn f fs,cs,⟨vs,h1,h2⟩=>⟨vs,h1,SD hf h2⟩
 | .mp ks l,cs,⟨r,es,n,h1,h2,h3,h4,h5⟩=>⟨r,es,n,h1,h2,h3,h4,SD hf h5⟩
 | .cst v,cs,h=>h
 | .any,cs,h=>h
 | .gd _ _ _,_,h=>h.elim
 | .off,_,h=>h.elim
 | .undef,_,h=>h.elim
theorem yO{i:Nat}{m:PV}(hf:Frz B w L i m):∀{q:List PV} {cs:List Value},Bj.go B w L q cs->Bj.go B w (L.set i .dead) (subst.go i m q) cs
 |[],cs,h=>h
 |a::q,cs,⟨c1,c2,e',h1,h2⟩=>⟨c1,c2,e',XI hf h1,yO hf h2⟩
theorem SD{i:Nat}{m:PV}(hf:Frz B w L i m):∀{q:List PV} {vs:List Value},Es B w L q vs->Es B w (L.set i .dead) (subst.go i m q) vs
 |[],vs,h=>h
 |a::q,vs,⟨v,vs',e',h1,h2⟩=>⟨v,vs',e',by rw[O9 hf.isA];exact h1.mono λc h=>XI hf h,SD hf h2⟩
end
theorem zx{i:Nat}(hf:Frz B w L i m)(h:Ih B w L p v):Ih B w (L.set i .dead) (subst i m p) v:=by
 unfold Ih;rw[O9 hf.isA];exact asV.mono (λc h=>XI hf h) h
theorem I4{i:Nat}(hf:Frz B w L i m)(h:Fs B w L p v):Fs B w (L.set i .dead) (subst i m p) v:=by
 cases hp:p.eu with
 |true=>exact(Lh (zx hf ((fK hp).1 h))).2
 |false=>
  cases p
  case tup q=>obtain⟨vs,h1,h2⟩:=h;exact⟨vs,h1,SD hf h2⟩
  case undef=>exact(show False from h).elim
  case off=>exact(show False from h).elim
  case gd=>exact(show False from h).elim
  all_goals cases hp
theorem wh{i:Nat}(hf:Frz B w L i m){t:Nat}(h:Kb B w L σ t p):Kb B w (L.set i .dead) σ t (subst i m p):=by
 cases hv:p.isV with
 |true=>
  have h1:=I4 hf ((Kb.iff hv).1 h);have h2:(subst i m p).isV=true:=by
   cases p<;>first|rfl|cases hv|skip
   ·rename_i j;simp only[subst];cases Nat.beq i j;rfl;exact hf.isV
   ·rename_i j q;simp only[subst];cases Nat.beq i j<;>rfl
   ·rename_i o j q e lo n;simp only[subst];cases Nat.beq i j<;>rfl
  exact(Kb.iff h2).2 h1
 |false=>
  rcases Xh hv with rfl|rfl|⟨j,u,q,rfl⟩
  ·exact trivial
  ·exact h
  ·obtain⟨b,h1,h2,h3⟩:=h;exact⟨b,h1,λe=>I4 hf (h2 e),h3⟩
theorem pK{i:Nat}(hf:Frz B w L i m){sl:Slots}(h:Gy B w L σ sl):Gy B w (L.set i .dead) σ (Ae0 i m sl):=by
 intro p hp;obtain⟨q,hq,rfl⟩:=List.mem_map.1 hp;exact wh hf (h q hq)
theorem qB{i:Nat}{m:PV}(hf:Frz B w L i m):∀{σs:List Env} {st:List Slots},ZL B w L σs st->ZL B w (L.set i .dead) σs (st.map (Ae0 i m))
 |[],[],h=>h
 |_::_,_::_,⟨h1,h2⟩=>⟨pK hf h1,qB hf h2⟩
theorem Aai{i:Nat}(hf:Frz B w L i m){a:Item}{md:MD}(h:Zp B w L a md):Zp B w (L.set i .dead) (Adv i m a) md:=by
 cases a<;>cases md<;>first
  |exact h
  |exact⟨h.1,XI hf h.2⟩
theorem MemR.subst(hm:MemR B w L s σs σ){i:Nat}(hf:Frz B w L i m):MemR B w (L.set i .dead) ((s.Xy i .dead).sub i m) σs σ:=by
 refine⟨⟨?_,?_⟩,pK hf hm.sl,qB hf hm.stk⟩
 ·simp[S.sub,S.Xy,iU,hm.it.1]
 ·intro j a md g1 g2;simp only[S.sub,S.Xy,List.getElem?_map,Awd]at g1;obtain⟨a0,g3,rfl⟩:=g1;rcases iS g3 with⟨rfl,rfl⟩|⟨g4,g5⟩
  ·trivial
  ·rw[List.getElem?_set_ne (Axe g4)]at g2;exact Aai hf (hm.it.2 j a0 md g5 g2)
theorem mJ(hr:Rel Z s σs A L σ w){i:Nat}{s':S}(h:s.freeze i=some s'):∃A',Rel Z s' σs A' (L.set i .dead) σ w/\∃E e l,Cx s.it i= .arr E e l/\s'=(s.Xy i .dead).sub i (.val (.list e) l):=by
 unfold S.freeze at h;split at h
 ·rename_i E e l hi;cases h;have hm:=hr.mem;obtain⟨v,cs,h1,h2⟩:=hm.arr hi;have hR:∀b,¬A b->Z.R b:=λb hb=>by
   rcases Awv b Z.w0.heap.size with hlt|hge
   ·have hold:=(hr.fact 1 (f:= .old Z.M Z.w0) rfl).2 b hlt;exact Z.mod b (Classical.byContradiction λhM=>hb (hold hM).1)
   ·exact Z.new b hge
  obtain⟨A',hA,hs'⟩:=St.freeze hr (hr.Jy h1) rfl Z.R hR;have hs2:=Dp.jL (hs'.X9 1 0) (XV (m':=MD.dead.Jy) (hr.Jy h1));have hm2:MemR (λb=>A' b/\Z.R b) w L s σs σ:=hs2.fact 1 rfl;have hrd:Rd (λb=>A' b/\Z.R b) w e.size v cs:=hs2.fact 0 (f:= .rd Z.R e.size v cs) rfl;have hall:=h2.mono (g:=Az (λb=>A' b/\Z.R b) w e) λx c h=>Az.step (λb hb=>⟨hA b hb.1,hb.2⟩) (λ_ _=>rfl) h;have hf:Frz (λb=>A' b/\Z.R b) w L i (.val (.list e) l):=⟨λz E' v' c' h=>by rw[h1]at h;cases h;exact⟨v,cs,rfl,hrd,hall⟩,rfl,rfl⟩;exact⟨A',Rel.as hs2 (i:=2) rfl (hm2.subst hf) (by rw[List.map_set]),E,e,l,hi,rfl⟩
 ·cases h
theorem Rp:∀{is:List Nat} {s s':S} {A:Reg} {L:List MD},Rel Z s σs A L σ w->s.GC is=some s'->∃A' L',Rel Z s' σs A' L' σ w/\ (is=[]->s'=s/\A'=A/\L'=L)
 |[],s,s',A,L,hr,h=>by simp only[S.GC,Aa6]at h;subst h;exact⟨A,L,hr,λ_=>⟨rfl,rfl,rfl⟩⟩
 |i::is,s,s',A,L,hr,h=>by
  simp only[S.GC]at h;split at h
  ·obtain⟨A',L',h1,_⟩:=Rp hr h;exact⟨A',L',h1,λe=>by cases e⟩
  ·cases h
  ·split at h
   ·rename_i s1 h1;obtain⟨A1,h2,_⟩:=mJ hr h1;obtain⟨A',L',h3,_⟩:=Rp h2 h;exact⟨A',L',h3,λe=>by cases e⟩
   ·cases h
theorem S7(h:xH p=true):p.eu=true:=by cases p<;>first|rfl|cases h
theorem QA{B:Reg}(hm:Gy B w L σ s.sl)(h:(Ei s.sl x).eu=true):Ih B w L (Ei s.sl x) (ev σ x):=(fK h).1 (Rv hm x (PV.P6 h))
theorem zu{s':S}(hr:Rel Z s σs A L σ w)(h:I5 s a x=some s'):∃A' L',Rel Z s' σs A' L' σ w:=by
 unfold I5 at h;split at h
 ·split at h
  ·obtain⟨A',L',h1,_⟩:=Rp hr h;exact⟨A',L',h1⟩
  ·cases h;exact⟨A,L,hr⟩
 ·cases h
theorem lU.step{B B':Reg}{w w':World}(hb:∀b,B b->B' b)(hs:Same B w w')(hl:dY L L'){a:Item}{cs:List Value}(h:lU B w L a cs):lU B' w' L' a cs:=by
 cases a with
 |dead=>exact h
 |box T v=>exact Bj.step hb hs hl h
 |arr E e l=>exact Ci.mono (λx c h=>Az.step hb hs h) h
def yL(R:Reg)(L:List MD)(a:Item)(cs:List Value):Fact where
 holds A w:=lU (λb=>A b/\R b) w L a cs
 step h ha hs _:=h.step (λb ⟨h1,h2⟩=>⟨ha b h1,h2⟩) (λb ⟨h1,_⟩=>hs b h1) (.refl L)
theorem Ako{t:TypeId}(hr:Rel Z s σs A L σ w)(h:W6 P s t a x k=some r):
  AI P n ops ⟨none, .store t a x,ty,pos,after,none⟩ Z s σs k r False A L σ w:=by
 unfold W6 at h;split at h
 ·cases h
 ·rename_i s1 hs1;obtain⟨A1,L1,hr1⟩:=zu hr hs1;have hm:=hr1.mem;split at h
  ·rename_i i p ha;split at h
   ·rename_i inf Tn;obtain⟨hb,h⟩:=Bb h;simp only[Aa5]at hb;obtain⟨md,b,h1,h2,h3⟩:=Zi (Dh hm.sl ha rfl);obtain⟨ns,h4,h5⟩:=QW hr1 (QA hm.sl (S7 hb.1.1));have hne:Cx s1.it i≠ .dead:=by intro e;rw[e]at h;simp[xB]at h
    obtain⟨h6,h7⟩:=hm.root h1 hne;obtain⟨a',hk,h8,h9,h10⟩:=Acd h5 h h6;have hlen:=h5.len;have hz:=Da hb.1.2;have hz0:0<inf.size:=by simpa [Nat.blt_eq]using hb.2
    have hrF:=St.pW (f:=yL Z.R L1 a' (Bl md.cells (Ay p) ns)) hr1 h9;refine Ahm hrF h1 h2 ⟨inf,Tn,rfl⟩ h3 rfl h4 (hlen.trans hz.symm) (List.all_eq_true.2 (h5.one hr1.jZ)) (by rw[hz,<-hlen];exact h8) hz0 (λw' md' hs' hmd=>?_);have h11:lU (λb=>A1 b/\Z.R b) w' L1 a' (Bl md.cells (Ay p) ns):=hs'.fact 0 rfl;have hs2:=hs'.vC
    revert h7 h10
    cases hi:Cx s1.it i with
    |dead=>exact absurd hi hne
    |box T v0=>
     rintro⟨b0,c0,rfl⟩ h10;simp only[Zf]at hmd;subst hmd;have key:=dY.box (cs':=Bl (MD.box b0 c0 T).cells (Ay p) ns) h1;refine⟨_,A1,_,hk,Rel.change hs2 h1 key ?_,λh=>h.elim⟩;cases a' with
     |box T' v'=>simp only[sameKind]at h10;subst h10;exact⟨rfl,Bj.step (λ_ h=>h) (λ_ _=>rfl) key h11⟩
     |dead=>exact h11.elim
     |arr _ _ _=>exact h10.elim
    |arr E e l=>
     rintro⟨v0,c0,rfl⟩ h10;simp only[Zf]at hmd;subst hmd;have key:=dY.own (cs':=Bl (MD.own e.size E v0 c0).cells (Ay p) ns) h1;refine⟨_,A1,_,hk,Rel.change hs2 h1 key ?_,λh=>h.elim⟩;cases a' with
     |arr E' e' l'=>obtain⟨rfl,rfl⟩:=h10;exact⟨rfl,rfl,h11⟩
     |dead=>exact h11.elim
     |box _ _=>exact h10.elim
   ·cases h
  ·cases h
end Go.Rx
namespace Go.Rx
open Go Go.Lv
variable{x:Operand}{p:PV}{v:Value}
variable {P:Program} {B:Reg} {w w':World} {L L':List MD} {s:S} {σs:List Env} {σ:Env} {Z:Fix} {A A':Reg} {n:Nat} {ops:Array Oper} {rest:List Oper} {K:Env->World->Prop}
variable {R:Type} {k:S->Option R} {r:R} {d:Option Nat} {ty:TypeId} {pos:String} {after:Array Edge}
theorem SH{t:TypeId}(h:zeroOf P t=some p):∃z,(∃i,P.info? t=some i/\i.zero=some z)/\∀(B:Reg) (w:World) (L:List MD),Bj B w L p z.cells.toList:=by
 unfold zeroOf at h;split at h
 ·rename_i i hi;split at h
  ·rename_i z hz;exact⟨z,⟨i,hi,hz⟩,λB w L=>mD h⟩
  ·cases h
 ·cases h
theorem Aej{md:MD}{b:Nat}(hb:md.base=some b){B:Reg}:Fs B w (L++[md]) (.ptr L.length []) (.pointer (some ⟨b,0,none⟩)):=⟨md,b,Axl,hb,rfl⟩
theorem oA{z:Nat}{E:TypeId}{c:List Value}{B:Reg}:Fs B w (L++[.own z E v c]) (.own L.length) v:=⟨z,E,v,c,Axl,rfl⟩
theorem Rel.len(hr:Rel Z s σs A L σ w):s.it.length=L.length:=hr.mem.it.1
theorem Rel.lt(hr:Rel Z s σs A L σ w):∀b,A b->b<w.heap.size:=St.lt hr
def Akx(A0:Reg)(w0:World):Fact where
 holds A w:=(∀b,A0 b->A b)/\Same A0 w0 w
 step h ha hs _:=⟨λb hb=>ha b (h.1 b hb),λb hb=>(hs b (h.1 b hb)).trans (h.2 b hb)⟩
theorem Rel.same(hr:Rel Z s σs A L σ w):St A w [Akx A w,oC Z.R L s σs σ, .old Z.M Z.w0] (L.map MD.Jy):=St.pW (f:=Akx A w) hr ⟨λ_ h=>h,λ_ _=>rfl⟩
theorem YI{w':World}{A':Reg}{a:Item}{md:MD}{dn:Nat}{G:Prop}(hr:Rel Z s σs A L σ w)(hs:St A' w' [Akx A w,oC Z.R L s σs σ, .old Z.M Z.w0] (md.Jy::L.map MD.Jy))
  (ha:Zp (λb=>A' b/\Z.R b) w' (L++[md]) a md) (hv:p.isV=true) (hp:∀B,Fs B w' (L++[md]) p v) (hk:k ((s.add a).Gt (some dn) p)=some r):
  K4 Z σs k r G A L s.it w (Xy σ dn v) w':=by
 obtain⟨h1,h2⟩:(∀b,A b->A' b)/\Same A w w':=hs.fact 0 rfl;have hr':=Rel.push hs.vC ha;exact⟨_,A',L++[md],hk,hr'.Gt (d:=some dn) hv (hp _),λ_=>⟨h1,h2,⟨[md],rfl⟩,⟨[a],rfl⟩⟩⟩
theorem SQ{o:Op}{dn:Nat}(h:Kn n ⟨some dn,o,ty,pos,after,none⟩=true):Nat.blt dn n=true:=h
theorem Aii{t:TypeId}{v:PV}{dn:Nat}{G:Prop}(hr:Rel Z s σs A L σ w)(hd:Kn n ⟨some dn, .alloc t,ty,pos,after,none⟩=true)(hz:zeroOf P t=some v)
  (hk:k ((s.add (.box t v)).Gt (some dn) (.ptr s.new []))=some r):AI P n ops ⟨some dn, .alloc t,ty,pos,after,none⟩ Z s σs k r G A L σ w:=by
 obtain⟨z,h1,h2⟩:=SH hz;refine WL.alloc (cells:=z.cells.toList) hr.same (SQ hd) h1 Axl (λb w' hs'=>WL.nil ?_);refine YI (a:= .box t v) (md:= .box b z.cells.toList t) hr hs' ⟨rfl,h2 _ _ _⟩ rfl (λB=>?_) hk;rw[S.new,hr.len];exact Aej rfl
theorem Aqb{t:TypeId}{dn:Nat}{G:Prop}(hr:Rel Z s σs A L σ w)(hd:Kn n ⟨some dn, .box t x,ty,pos,after,none⟩=true)(hx:xH (Ei s.sl x)=true)
  (hk:k ((s.add (.box t (Ei s.sl x))).Gt (some dn) (.ptr s.new []))=some r):AI P n ops ⟨some dn, .box t x,ty,pos,after,none⟩ Z s σs k r G A L σ w:=by
 obtain⟨cs,h1,h2⟩:=QW hr (QA hr.mem.sl (S7 hx));have hF:=St.pW (f:=yL Z.R L (.box t (Ei s.sl x)) cs) hr.same h2;refine WL.box hF (SQ hd) rfl h1 (λb w' hs'=>WL.nil ?_);have h3:lU (λb=>A b/\Z.R b) w' L (.box t (Ei s.sl x)) cs:=hs'.fact 0 rfl;refine YI (a:= .box t (Ei s.sl x)) (md:= .box b cs t) hr hs'.vC ⟨rfl,Bj.step (λ_ h=>h) (λ_ _=>rfl) (dY.append _ _) h3⟩ rfl (λB=>?_) hk;rw[S.new,hr.len];exact Aej rfl
theorem V2{a t e:TypeId}{l:List UInt8}{dn:Nat}{G:Prop}(hr:Rel Z s σs A L σ w)(hd:Kn n ⟨some dn, .convert a t x,ty,pos,after,none⟩=true)(ha:P.underlying a=some .string)(ht:P.underlying t=some (.slice e))
  (he:P.underlying e=some (.int .u8)) (hx:Ei s.sl x= .val .str l) (hk:k ((s.add (.arr e (.int .u8) l)).Gt (some dn) (.own s.new))=some r):AI P n ops ⟨some dn, .convert a t x,ty,pos,after,none⟩ Z s σs k r G A L σ w:=by
 refine WL.s2b ha ht he hr.same (SQ hd) (Sj hr.mem.sl hx) (λp m c w' hs'=>WL.nil ?_);refine YI (a:= .arr e (.int .u8) l) (md:= .own 1 e (.slice p m c) (FW l)) hr hs' ⟨rfl,rfl,KE⟩ rfl (λB=>?_) hk;rw[S.new,hr.len];exact oA
where KE:∀{B:Reg} {w:World} {l:List UInt8},Ci (Az B w (.int .u8)) l (FW l)
 |_,_,[]=>rfl
 |_,_,x::l=>⟨[iv x],FW l,rfl,rfl,KE⟩
theorem Aml{t e E:TypeId}{i:Nat}{y:UInt8}{ys:List UInt8}{dn:Nat}{G:Prop}(hr:Rel Z s σs A L σ w)(hd:Kn n ⟨some dn, .convert t t x,ty,pos,after,none⟩=true)(ht:P.underlying t=some (.slice e))
  (he:P.underlying e=some (.int .u8)) (hx:Ei s.sl x= .own i) (hi:Cx s.it i= .arr E (.int .u8) (y::ys)) (hk:k (s.Gt (some dn) (.own i))=some r):AI P n ops ⟨some dn, .convert t t x,ty,pos,after,none⟩ Z s σs k r G A L σ w:=by
 obtain⟨v,cs,h1,h2⟩:=hr.mem.arr hi;have hne:0<cs.length:=by
  obtain⟨c,c',e1,e2,_⟩:=h2;rw[e1,Aa7];have:c.length=(ET.int .u8).size:=Az.len e2;rw[this];have:(ET.int Kd.u8).size=1:=rfl;omega
 have hvr:Fs (λb=>A b/\Z.R b) w L (.own i) (ev σ x):=by
  have:=Dh hr.mem.sl hx rfl;exact this
 have hev:ev σ x=v:=by
  obtain⟨z,E',v',c,g1,g2⟩:=hvr;rw[h1]at g1;cases g1;simpa using g2
 have hL:(L.map MD.Jy)[i]? =some (.own 1 E v cs):=by rw[List.getElem?_map,h1];rfl
 refine WL.Atu ht he hr.same hL hne (SQ hd) hev (λw' hs'=>WL.nil ?_);obtain⟨g1,g2⟩:(∀b,A b->A b)/\Same A w w':=hs'.fact 0 rfl;have hr':Rel Z s σs A L σ w':=hs'.vC;exact⟨_,A,L,hk,hr'.Gt (d:=some dn) (p:= .own i) rfl ⟨_,_,_,_,h1,rfl⟩,λ_=>⟨g1,g2,⟨[],Axl⟩,⟨[],by simp[S.Gt,S.set]⟩⟩⟩
theorem sZ{t:TypeId}{e:ET}(h:B9 P t e=true):ElemOk P t e.size:=by
 unfold B9 at h;split at h
 ·rename_i i hi;simp only[Aa5]at h;obtain⟨⟨⟨h1,h2⟩,h3⟩,h4⟩:=h;split at h3
  ·rename_i z hz;exact⟨⟨i,z,hi,Da h1,hz,Da h3,Asg h2⟩,by have:=Asg h4;omega⟩
  ·cases h3
 ·cases h
theorem XM{t E:TypeId}(h:tI P t=some E):P.underlying t=some (.slice E):=by
 unfold tI at h;split at h
 ·rename_i e he;cases h;exact he
 ·cases h
theorem W4{e:ET}{x:e.T}{c:List Value}(h:Az B w e x c):∀m,Ci (Az B w e) (List.replicate m x) (List.replicate m c).flatten
 |0=>rfl
 |m+1=>⟨c,(List.replicate m c).flatten,rfl,h,W4 h m⟩
theorem An6{t:TypeId}{a b:Operand}{dn:Nat}{G:Prop}(hr:Rel Z s σs A L σ w)(hd:Kn n ⟨some dn, .makeSlice t a b,ty,pos,after,none⟩=true)(h:Abi P s (some dn) t a b k=some r):
  AI P n ops ⟨some dn, .makeSlice t a b,ty,pos,after,none⟩ Z s σs k r G A L σ w:=by
 unfold Abi at h;split at h
 ·cases h
 ·rename_i E hE;split at h
  ·cases h
  ·rename_i e he;obtain⟨hb,h⟩:=Bb h;split at h
   ·rename_i m m' z hm hm' hz;split at h
    ·rename_i x hx;obtain⟨l,hl,h⟩:=bind_some h;obtain⟨_,hq,h⟩:=bind_some h;obtain⟨h1,h2,rfl⟩:=uf hl;have h3:m'=m:=by have:=Xb hq;simpa [geq,GI.toZ]using this
     subst h3;obtain⟨zv,hz1,hz2⟩:=SH hz;have ea:=yF hm (Rv hr.mem.sl a (X3 hm));have eb:=yF hm' (Rv hr.mem.sl b (X3 hm'));refine WL.makeSlice (XM hE) (sZ hb) hz1 (zs:=zv.cells.toList) Axl hr.same (SQ hd) (m:=m'.toNat) (by rw[<-h1];exact ea) (by rw[<-h1];exact eb) h2 (λp q c w' hs'=>WL.nil ?_);refine YI (a:= .arr E e (List.replicate m'.toNat x)) (md:= .own e.size E (.slice p q c) (List.replicate m'.toNat zv.cells.toList).flatten) hr hs' ⟨rfl,rfl,W4 (SB hx (hz2 _ _ (L++[]))) _⟩ rfl (λB=>?_) h;rw[S.new,hr.len];exact oA
    ·cases h
   ·cases h
end Go.Rx
namespace Go.Rx
open Go Go.Lv
variable{vw:Bool}{e:ET}{x y:Operand}{p:PV}{v:Value}
variable {P:Program} {B:Reg} {w w':World} {L L':List MD} {s:S} {σs:List Env} {σ:Env} {Z:Fix} {A A':Reg} {n:Nat} {ops:Array Oper} {rest:List Oper} {K:Env->World->Prop}
variable {R:Type} {k:S->Option R} {r:R} {d:Option Nat} {ty:TypeId} {pos:String} {after:Array Edge}
theorem K4.of{G:Prop}{s1:S}{A1:Reg}{L1:List MD}{σ':Env}(h:G->s1=s/\A1=A/\L1=L)(hp:K4 Z σs k r G A1 L1 s1.it w σ' w'):K4 Z σs k r G A L s.it w σ' w':=by
 obtain⟨s',A',L',h1,h2,h3⟩:=hp;refine⟨s',A',L',h1,h2,λg=>?_⟩;obtain⟨e1,e2,e3⟩:=h g;subst e1 e2 e3;exact h3 g
theorem isEmpty_nil{α:Type}{l:List α}(h:l.isEmpty=true):l=[]:=by cases l<;>simp_all
theorem iy{z:Nat}(h:Nat.ble 1 z=true):0<z:=by have:=Asg h;omega
theorem Rel.Arc(hr:Rel Z s σs A L σ w){i z:Nat}{E:TypeId}{cs:List Value}(h:L[i]? =some (.own z E v cs)):
  ∃q len cap,v= .slice q len cap/\cs.length=len*z/\len<=cap/\ (q=none->cap=0)/\ (0<cap->∃b,q=some ⟨b,0,none⟩/\ (MD.own z E v cs).base=some b):=by
 obtain⟨o,q,len,cap,h1,h2,h3,h4,h5,h6⟩:=Dp.mem (A:=A) (St.mobs hr) (hr.Jy h);refine⟨q,len,cap,h1,h2,h3,h4,λhc=>?_⟩;cases o with
 |none=>have:=h5 rfl;omega
 |some b=>
  obtain⟨arr,fr,e1,_⟩:=h6 b rfl;subst h1 e1;exact⟨b,rfl,rfl⟩
theorem X.rT{t e:TypeId}{z len cap a b:Nat}{p:Option Addr}{lo hi:Option Operand}(ht:P.underlying t=some (.slice e))(hsz:Jk P e z)(h1:a<=b)(h2:b<=len)(h3:len<=cap)(hx:ev σ x= .slice p len cap)
  (hlo:(∃q,lo.map (ev σ)=some (.int q (a:Int)))\/ (lo=none/\a=0)) (hhi:(∃q,hi.map (ev σ)=some (.int q (b:Int)))\/ (hi=none/\b=len)):
  XO P σ w (.slice t x lo hi none) (.slice (if cap=a then p else p.map (·.add (a*z))) (b-a) (cap-a)):=λ_ _ _ _ _=>by
 have hr:=Q5 (P:=P) (w:=w) (p:=p) (vlo:=lo.map (ev σ)) (vhi:=hi.map (ev σ)) ht hsz h1 h2 h3 (by rcases hlo with h|⟨h,h'⟩;exact .inl h;exact .inr ⟨by rw[h];rfl,h'⟩)
   (by rcases hhi with h|⟨h,h'⟩;exact .inl h;exact .inr ⟨by rw[h];rfl,h'⟩)
 simp only[execOp,hx,Instr.sliceAt,Al4,Ahy ht,Aea,Aws,hr,Ap5]
theorem X.R6{t u e:TypeId}{z m a b:Nat}{ad:Addr}{lo hi:Option Operand}(ht:Aeq P t=some (u,m,e))(hsz:Jk P e z)(h1:a<=b)(h2:b<=m)(hx:ev σ x= .pointer (some ad))
  (hlo:(∃q,lo.map (ev σ)=some (.int q (a:Int)))\/ (lo=none/\a=0)) (hhi:(∃q,hi.map (ev σ)=some (.int q (b:Int)))\/ (hi=none/\b=m)):
  XO P σ w (.slice t x lo hi none) (.slice (some (if m=a then ad else ad.add (a*z))) (b-a) (m-a)):=λ_ _ _ _ _=>by
 have hlo':(∃q,lo.map (ev σ)=some (.int q (a:Int)))\/ (lo.map (ev σ)=none/\a=0):=hlo.imp id λh=>⟨by rw[h.1];rfl,h.2⟩;have hhi':(∃q,hi.map (ev σ)=some (.int q (b:Int)))\/ (hi.map (ev σ)=none/\b=m):=hhi.imp id λh=>⟨by rw[h.1];rfl,h.2⟩;unfold Aeq at ht;split at ht
 ·rename_i m' et hu;cases ht;simp only[execOp,hx,Instr.sliceAt,Al4,Ahy hu,Aea,Aws];generalize lo.map (ev σ)=vlo at hlo'⊢;generalize hi.map (ev σ)=vhi at hhi'⊢;clear hlo hhi;rcases hlo' with⟨q,rfl⟩|⟨rfl,rfl⟩<;>rcases hhi' with⟨q',rfl⟩|⟨rfl,rfl⟩<;>
   simp[Instr.sureAddr,Instr.sliceBounds,Instr.sliceBound,asIntOf,Bz hsz,h1,h2]
 ·rename_i u' hp;split at ht
  ·rename_i m' et hu;cases ht;simp only[execOp,hx,Instr.sliceAt,Al4,Ahy hp,Aea,Aws];generalize lo.map (ev σ)=vlo at hlo'⊢;generalize hi.map (ev σ)=vhi at hhi'⊢;clear hlo hhi;rcases hlo' with⟨q,rfl⟩|⟨rfl,rfl⟩<;>rcases hhi' with⟨q',rfl⟩|⟨rfl,rfl⟩<;>
    simp[Instr.slice,Ahy hp,Ahy hu,Instr.sliceBounds,Instr.sliceBound,asIntOf,Bz hsz,h1,h2,asAddr]
  ·cases ht
 ·cases ht
theorem An3{t et:TypeId}{lo hi:Option Operand}{G:Prop}(hr:Rel Z s σs A L σ w)(hd:Kn n ⟨d, .slice t x lo hi none,ty,pos,after,none⟩=true)(ht:P.underlying t=some (.slice et))(h:Acx P s d et (Ei s.sl x) lo hi k=some r):
  AI P n ops ⟨d, .slice t x lo hi none,ty,pos,after,none⟩ Z s σs k r G A L σ w:=by
 have hm:=hr.mem;unfold Acx at h;split at h
 ·cases h
 ·rename_i inf Tn;split at h
  ·rename_i i hx;split at h
   ·rename_i E e l hi';obtain⟨hb,h⟩:=Bb h;simp only[Aa5]at hb;split at h
    ·rename_i a b ha hb';obtain⟨_,hok,h⟩:=bind_some h;have hab:0<=a/\a<=b/\b<=Ac l:=Au6 (Xb hok);obtain⟨u,cs,h1,h2⟩:=hm.arr hi';obtain⟨z',E',c',h3⟩:=LY (Dh hm.sl hx rfl);rw[h1]at h3;have h3':=h3;cases h3;obtain⟨q,len,cap,g1,g2,g3,g4,g5⟩:=hr.Arc h1;have hz:0<e.size:=by have:=Asg hb.2;omega
     have hl:len=l.length:=Apd hz (g2.symm.trans (h2.len λx c h=>Az.len h));obtain⟨a1,ha1⟩:=Amd hab.1;obtain⟨b1,hb1⟩:=Amd (show 0<=b by omega);subst ha1 hb1;have hbl:b1<=len:=by rw[hl];have:=hab.2.2;unfold Ac at this;omega
     have hxo:=X.rT (P:=P) (σ:=σ) (w:=w) (x:=x) (lo:=lo) (hi:=hi) (a:=a1) (b:=b1) ht (Ft Tn hb.1) F0 hbl g3 g1
      (by rcases Me hm.sl ha with h|⟨h,h'⟩;exact .inl h;exact .inr ⟨h,F0⟩) (by rcases Me hm.sl hb' with h|⟨h,h'⟩;exact .inl h;exact .inr ⟨h,by unfold Ac at h';omega⟩)
     rw[g1]at h1;refine Ed (p:= .view true i [] e a1 (b1-a1)) hr hd hxo rfl ⟨_,_,h1,rfl,F0,F0,⟨_,_,by rw[show((b1:Int)-a1).toNat=b1-a1 by omega],F0,λhn=>?_,λhc=>?_⟩,
      (λ_=>⟨_,_,q,len,cap,cs,rfl,rfl,F0,λpt m c' hv=>?_,λh0=>?_⟩),(λh=>by cases h)⟩ h
     ·split at hn
      ·omega
      ·have:q=none:=by simpa using hn
       have:=g4 this;omega
     ·obtain⟨bb,e1,e2⟩:=g5 F0;rw[g1]at e2;refine⟨bb,e2,?_⟩;rw[Aa2 F0,e1];simp[Lc,Ay]
     ·cases hv;simp only[Amc];omega
     ·have ha0:a1=0:=F0
      subst ha0;rw[show((b1:Int)-(0:Nat)).toNat=b1 by omega];simp only[Nat.sub_zero];congr 1;split
      ·rfl
      ·by_cases hc:0<cap
       ·obtain⟨bb,e1,_⟩:=g5 hc;rw[e1];simp[Lc]
       ·omega
    ·cases h
   ·cases h
  ·rename_i o i p e l0 n' hx;obtain⟨hb,h⟩:=Bb h;simp only[Aa5]at hb;split at h
   ·rename_i a b ha hb';obtain⟨_,hok,hk⟩:=bind_some h;have hab:0<=a/\a<=b/\b<=n':=Au6 (Xb hok);obtain⟨md,v1,h3,h4,k1,k2,⟨pt,cap,k3,k4,k5,k6⟩,k7,k8⟩:=Dh hm.sl hx rfl;have h6:ev σ x=v1:=by simpa using h4
    obtain⟨a1,ha1⟩:=Amd hab.1;obtain⟨b1,hb1⟩:=Amd (show 0<=b by omega);obtain⟨l1,hl1⟩:=Amd k1;obtain⟨n1,hn1⟩:=Amd k2;subst ha1 hb1 hl1 hn1;simp only[Amc]at k3 k4 k6 k7;have hxo:=X.rT (P:=P) (σ:=σ) (w:=w) (x:=x) (lo:=lo) (hi:=hi) (a:=a1) (b:=b1) ht (Ft Tn hb.1) F0 F0 k4 (h6.trans k3)
     (by rcases Me hm.sl ha with h|⟨h,h'⟩;exact .inl h;exact .inr ⟨h,F0⟩) (by rcases Me hm.sl hb' with h|⟨h,h'⟩;exact .inl h;exact .inr ⟨h,F0⟩)
    have e0:((l1:Int)+a1).toNat=l1+a1:=F0
    refine Ed (p:= .view o i p e (l1+a1) (b1-a1)) hr hd hxo rfl ⟨md,_,h3,rfl,F0,F0,⟨_,_,by rw[show((b1:Int)-a1).toNat=b1-a1 by omega],F0,λhn=>?_,λhc=>?_⟩,(λho=>?_),k8⟩ hk
    ·split at hn
     ·omega
     ·have:pt=none:=by simpa using hn
      have:=k5 this;omega
    ·obtain⟨bb,e1,e2⟩:=k6 F0;refine⟨bb,e1,?_⟩;rw[Aa2 F0,e2,e0];simp[Lc,Arr,Asn]
    ·obtain⟨s',E',q,len,cap0,c0,e1,e2,e3,e4,e5⟩:=k7 ho;have e6:=e4 _ _ _ k3;refine⟨s',E',q,len,cap0,c0,e1,e2,F0,λpt' m c' hv=>?_,λh0=>?_⟩
     ·cases hv;omega
     ·have h00:l1=0/\a1=0:=F0
      obtain⟨rfl,rfl⟩:=h00;have e7:=e5 rfl;rw[k3]at e7;cases e7;rw[show((b1:Int)-(0:Nat)).toNat=b1 by omega];simp only[Nat.sub_zero];congr 1;split
      ·rfl
      ·by_cases hc:0<cap
       ·obtain⟨bb,_,e8⟩:=k6 hc;rw[e8];simp[Lc]
       ·omega
   ·cases h
  ·cases h
theorem Aiv{t:TypeId}{lo hi:Option Operand}{G:Prop}(hr0:Rel Z s σs A L σ w)(hd:Kn n ⟨d, .slice t x lo hi none,ty,pos,after,none⟩=true)(h:V6 vw s d t x lo hi k P=some r)(hG:G-> (owns (Ei s.sl x)).isEmpty=true):
  AI P n ops ⟨d, .slice t x lo hi none,ty,pos,after,none⟩ Z s σs k r G A L σ w:=by
 unfold V6 at h;split at h
 ·rename_i ht;split at h
  ·rename_i l hx;split at h
   ·rename_i a b ha hb;obtain⟨y,hy,h⟩:=bind_some h;exact Ed (p:= .val .str y) hr0 hd (X.As9 ht (Sj hr0.mem.sl hx) hy (Me hr0.mem.sl ha) (Me hr0.mem.sl hb)) rfl rfl h
   ·cases h
  ·cases h
 ·rename_i et ht;cases hvw:(vw&&wz (Ei s.sl x))with
  |true=>
   rw[hvw]at h;exact An3 hr0 hd ht h
  |false=>
  rw[hvw]at h;dsimp only[Df,cond]at h;split at h
  ·cases h
  ·rename_i s1 hs1;obtain⟨A1,L1,hr,hsame⟩:=Rp hr0 hs1;have hm:=hr.mem;split at h
   ·rename_i e0 l0 hx;split at h
    ·rename_i e l;split at h
     ·rename_i inf Tn;obtain⟨hb,h⟩:=Bb h;simp only[Aa5]at hb;split at h
      ·rename_i a b ha hb';obtain⟨y,hy,h⟩:=bind_some h;obtain⟨h1,h2,h3,h4,rfl⟩:=PU hy;obtain⟨c0,h5,h6⟩:=BW (Dh hm.sl hx rfl);have hlen:=h6.len λx c h=>Az.len h;obtain⟨p',l',c',h7,h8⟩:=X.ze (P:=P) (l:=a.toNat) (k:=b.toNat) (m:=l.length) ht (Ft Tn hb.1) (St.Aku hr h5) (j:=0) rfl hlen (iy hb.2) h3 h4;have hxo:=h7 σ w x lo hi rfl (by rcases Me hm.sl ha with h|⟨h,h'⟩;exact .inl (by rw[<-h1];exact h);exact .inr ⟨h,F0⟩)
        (by rcases Me hm.sl hb' with h|⟨h,h'⟩;exact .inl (by rw[<-h2];exact h);exact .inr ⟨h,by rw[h'];simp[Ac]⟩)
       have hv:Fs (λb=>A1 b/\Z.R b) w L1 (.val (.list e) ((l.take b.toNat).drop a.toNat)) (.slice p' l' c'):=
        jK (h8.fact 0 rfl) (Ci.drop (λx c h=>Az.len h) _ (Ci.take (λx c h=>Az.len h) _ h6))
       refine WL.Acl rfl hd (hxo _ _ _ _ _) (WL.nil ⟨_,A1,L1,h,hr.Gt rfl hv,λg=>?_⟩);obtain⟨e1,e2,e3⟩:=hsame (isEmpty_nil (hG g));subst e1 e2 e3;have:(s1.Gt d (.val (.list e) ((l.take b.toNat).drop a.toNat))).it=s1.it:=by cases d<;>rfl
       rw[this];exact .refl
      ·cases h
     ·cases h
    ·cases h
   ·rename_i hx;split at h
    ·rename_i inf a b Tn ha hb';obtain⟨_,hok,hk⟩:=bind_some h;have hab:0<=a/\a<=b/\b<=0:=Au6 (Xb hok);have ha0:a=0:=F0
     have hb0:b=0:=F0
     subst ha0 hb0;have hv:=IG (Dh hm.sl hx rfl);have hxo:=X.rT (P:=P) (σ:=σ) (w:=w) (x:=x) (lo:=lo) (hi:=hi) (a:=0) (b:=0) (z:=inf.size) ht ⟨inf,Tn,rfl⟩ (Apn _) (Apn _) (Apn _) hv
      (by rcases Me hm.sl ha with h|⟨h,h'⟩;exact .inl h;exact .inr ⟨h,rfl⟩) (by rcases Me hm.sl hb' with h|⟨h,h'⟩;exact .inl h;exact .inr ⟨h,rfl⟩)
     refine WL.Acl rfl hd (hxo _ _ _ _ _) (WL.nil ⟨_,A1,L1,hk,hr.Gt rfl rfl,λg=>?_⟩);obtain⟨e1,e2,e3⟩:=hsame (isEmpty_nil (hG g));subst e1 e2 e3;have:(s1.Gt d .nils).it=s1.it:=by cases d<;>rfl
     rw[this];exact .refl
    ·cases h
   ·cases h
 ·split at h
  ·rename_i u m et hat;split at h
   ·cases h
   ·rename_i inf Tn;split at h
    ·rename_i i p hx;split at h
     ·rename_i T v hit;split at h
      ·rename_i e0 l0 hg;split at h
       ·rename_i m' e l;obtain⟨hb,h⟩:=Bb h;simp only[Aa5]at hb;split at h
        ·rename_i a b ha hb';obtain⟨_,hok,hk⟩:=bind_some h;have hab:0<=a/\a<=b/\b<=m:=Au6 (Xb hok);have hm:=hr0.mem;obtain⟨md,bb,h1,h2,h3⟩:=Zi (Dh hm.sl hx rfl);obtain⟨a1,ha1⟩:=Amd hab.1;obtain⟨b1,hb1⟩:=Amd (show 0<=b by omega);subst ha1 hb1;have hxo:=X.R6 (P:=P) (σ:=σ) (w:=w) (x:=x) (lo:=lo) (hi:=hi) (a:=a1) (b:=b1) hat (Ft Tn hb.1.2) F0 F0 h3
          (by rcases Me hm.sl ha with h|⟨h,h'⟩;exact .inl h;exact .inr ⟨h,F0⟩) (by rcases Me hm.sl hb' with h|⟨h,h'⟩;exact .inl h;exact .inr ⟨h,F0⟩)
         refine Ed (p:= .view false i p e a1 (b1-a1)) hr0 hd hxo rfl ⟨md,_,h1,rfl,F0,F0,⟨_,_,(by rw[show((b1:Int)-a1).toNat=b1-a1 by omega]),F0,(λh=>by cases h),λhc=>⟨bb,h2,?_⟩⟩,(λh=>by cases h),λ_=>⟨bb,h2⟩⟩ hk;rw[Aa2 F0,Lc];rfl
        ·cases h
       ·cases h
      ·cases h
     ·cases h
    ·cases h
  ·cases h
theorem Ahg{t:TypeId}{hi mx:Operand}{lo:Option Operand}{G:Prop}(hr0:Rel Z s σs A L σ w)(hd:Kn n ⟨d, .slice t x lo (some hi) (some mx),ty,pos,after,none⟩=true)(h:zO vw s d t x lo hi mx k P=some r)(hG:G-> (owns (Ei s.sl x)).isEmpty=true):
  AI P n ops ⟨d, .slice t x lo (some hi) (some mx),ty,pos,after,none⟩ Z s σs k r G A L σ w:=by
 unfold zO at h;split at h
 ·rename_i et ht;split at h
  ·cases h
  ·rename_i s1 hs1;obtain⟨A1,L1,hr,hsame⟩:=Rp hr0 hs1;have hm:=hr.mem;split at h
   ·rename_i e0 l0 hx;split at h
    ·rename_i e l;split at h
     ·rename_i inf Tn;obtain⟨hb,h⟩:=Bb h;simp only[Aa5]at hb;split at h
      ·rename_i a b c ha hb' hc';obtain⟨_,hok,h⟩:=bind_some h;have hbc:b<=c/\c<=Ac l:=Au6 (Xb hok);obtain⟨y,hy,h⟩:=bind_some h;obtain⟨h1,h2,h3,h4,rfl⟩:=PU hy;obtain⟨c0,h5,h6⟩:=BW (Dh hm.sl hx rfl);have hlen:=h6.len λx c h=>Az.len h;obtain⟨q1,hq1⟩:=JX hb' (Rv hm.sl hi (TX hb'));obtain⟨q2,hq2⟩:=JX hc' (Rv hm.sl mx (TX hc'));unfold Ac at hbc;obtain⟨p',l',c',h7,h8,hc9⟩:=X.Afz (P:=P) (l:=a.toNat) (k:=b.toNat) (c:=c.toNat) (m:=l.length) ht (Ft Tn hb.1) (St.Aku hr h5) (j:=0) rfl hlen (iy hb.2) h3 F0 F0;have hxo:=h7 σ w x lo hi mx rfl (by rcases Me hm.sl ha with h|⟨h,h'⟩;exact .inl (by rw[<-h1];exact h);exact .inr ⟨h,F0⟩)
        ⟨q1,by rw[hq1,<-h2]⟩ ⟨q2,by rw[hq2,show((c.toNat:Nat):Int)=c by omega]⟩
       have hall:Ci (Az (λb=>A1 b/\Z.R b) w e) ((l.take b.toNat).drop a.toNat) ((c0.take (b.toNat*e.size)).drop (a.toNat*e.size)):=Ci.drop (λx c h=>Az.len h) _ (Ci.take (λx c h=>Az.len h) _ h6);have hv:Fs (λb=>A1 b/\Z.R b) w L1 (Df vw (.cap e ((l.take b.toNat).drop a.toNat) (c-a))<| .val (.list e) ((l.take b.toNat).drop a.toNat)) (.slice p' l' c'):=by
        cases vw with
        |true=>exact⟨_,_,rfl,h8.fact 0 rfl,hall,F0,p',l',by rw[hc9];congr 1;omega⟩
        |false=>exact jK (h8.fact 0 rfl) hall
       have hV:(Df vw (PV.cap e ((l.take b.toNat).drop a.toNat) (c-a))<| .val (.list e) ((l.take b.toNat).drop a.toNat)).isV=true:=by cases vw<;>rfl
       refine WL.Acl rfl hd (hxo _ _ _ _ _) (WL.nil ⟨_,A1,L1,h,hr.Gt hV hv,λg=>?_⟩);obtain⟨e1,e2,e3⟩:=hsame (isEmpty_nil (hG g));subst e1 e2 e3;have:∀q,(s1.Gt d q).it=s1.it:=λq=>by cases d<;>rfl
       rw[this];exact .refl
      ·cases h
     ·cases h
    ·cases h
   ·cases h
 ·cases h
theorem At8{x:e.T}(h:e.of p=some x):p.eu=true:=by
 unfold ET.of zf at h;split at h
 ·rfl
 ·rfl
 ·rfl
 ·cases h
theorem R3{e:ET}(hr:Rel Z s σs A L σ w):∀{xs:List Operand} {l:List e.T},M9 e (xs.map (Ei s.sl))=some l->
  Ci (Az (λb=>A b/\Z.R b) w e) l ((xs.map (ev σ)).map λv:Value=>v.cells.toList).flatten/\l.length=xs.length/\∀v∈xs.map (ev σ),v.cells.size=e.size
 |[],l,h=>by simp only[List.map_nil,M9,Aa6]at h;subst h;exact⟨rfl,rfl,Axl⟩
 |x::xs,l,h=>by
  simp only[Auo,M9]at h;split at h
  ·rename_i y ys hy hys;cases h;obtain⟨h1,h2,h3⟩:=R3 hr hys;obtain⟨cs,h4,h5⟩:=QW hr (QA hr.mem.sl (x:=x) (At8 hy));have h6:=SB hy h5;refine⟨⟨cs,_,by simp[h4],h6,h1⟩,by simp[h2],λv hv=>?_⟩;simp only[Auo,List.mem_cons]at hv;rcases hv with rfl|hv
   ·rw[h4];simpa using h6.len
   ·exact h3 v hv
  ·cases h
theorem Aad:∀{ps:List (Nat×Operand)} {m:Nat},Aei m ps=true-> (ps.map λp=>(p.1,ev σ p.2))=(((ps.map Prod.snd).map (ev σ)).zipIdx m).map λp=>(p.2,p.1)
 |[],_,_=>rfl
 |(i,x)::ps,m,h=>by
  simp only[Aei,Aa5]at h;simp only[Auo,List.zipIdx_cons,Aad h.2,Da h.1]
theorem K1{t:TypeId}{len:Nat}{ps:Array (Nat×Operand)}{dn:Nat}{G:Prop}(hr0:Rel Z s σs A L σ w)(hd:Kn n ⟨some dn, .buildSlice t len ps,ty,pos,after,none⟩=true)
  (h:aY P s (some dn) t len ps.toList k=some r) (hG:G-> (owns.go (ps.toList.map λp=>Ei s.sl p.2)).isEmpty=true):AI P n ops ⟨some dn, .buildSlice t len ps,ty,pos,after,none⟩ Z s σs k r G A L σ w:=by
 unfold aY at h;split at h
 ·cases h
 ·rename_i E hE;split at h
  ·cases h
  ·rename_i e he;obtain⟨hb,h⟩:=Bb h;simp only[Aa5]at hb;obtain⟨⟨⟨hb1,hb2⟩,hb3⟩,hb4⟩:=hb;split at h
   ·cases h
   ·rename_i s1 hs1;obtain⟨A1,L1,hr,hsame⟩:=Rp hr0 hs1;split at h
    ·rename_i l hl;have hl':M9 e ((ps.toList.map Prod.snd).map (Ei s1.sl))=some l:=by rw[List.map_map];exact hl
     obtain⟨h1,h2,h3⟩:=R3 hr hl';have hps:ps=ps.toList.toArray:=by simp
     rw[show(⟨some dn, .buildSlice t len ps,ty,pos,after,none⟩:Oper)=⟨some dn, .buildSlice t len ps.toList.toArray,ty,pos,after,none⟩ by rw[<-hps]];have hlen:((ps.toList.map Prod.snd).map (ev σ)).length=len:=by simpa using Da hb3
     have hF:=St.pW (f:=yL Z.R L1 (.arr E e l) (((ps.toList.map Prod.snd).map (ev σ)).map λv:Value=>v.cells.toList).flatten) hr.same h1;refine WL.buildSlice (vs:=(ps.toList.map Prod.snd).map (ev σ)) (XM hE) (sZ hb1) hF (SQ (o:= .buildSlice t len ps) hd) (Aad hb2) hlen hb4 h3 rfl (λp q c w' hs'=>WL.nil ?_);have h4:Ci (Az (λb=>A1 b/\Z.R b) w' e) l (((ps.toList.map Prod.snd).map (ev σ)).map λv:Value=>v.cells.toList).flatten:=hs'.fact 0 rfl;refine K4.of (λg=>hsame (isEmpty_nil (hG g))) (YI (a:= .arr E e l) (md:= .own e.size E (.slice p q c) _) hr hs'.vC ⟨rfl,rfl,h4⟩ rfl (λB=>?_) h);rw[S.new,hr.len];exact oA
    ·cases h
theorem Ahd{E:TypeId}{i len cap m:Nat}{q:Option Addr}{cs:List Value}{l:List e.T}(hr:Rel Z s σs A L σ w)(hi:L[i]? =some (.own e.size E (.slice q len cap) cs))(hm:m<=len)(hl:Ci (Az (λb=>A b/\Z.R b) w e) l (cs.take (m*e.size))):
  Rel Z (((s.Xy i .dead).sub i .any).add (.arr E e l)) σs A (L.set i .dead++[.own e.size E (.slice q m cap) (cs.take (m*e.size))]) σ w:=by
 have hf:Frz (λb=>A b/\Z.R b) w L i .any:=⟨λz E' u c h=>⟨u,rfl,by rw[hi]at h;cases h;rfl⟩,rfl,rfl⟩;have hm2:=hr.mem.subst hf;have kL:(L.map MD.Jy)[i]? =some (Mob.own e.size E (.slice q len cap) cs):=hr.Jy hi;obtain⟨o,h1,h2,h3⟩:=(St.mobs hr).perm (nB kL).symm;have h4:(Mob.own e.size E (.slice q m cap) (cs.take (m*e.size))).holds o w:=by
  obtain⟨q',len',cap',g1,g2,g3,g4,g5,g6⟩:=h1;cases g1;have e5:m*e.size<=len*e.size:=Adh _ hm;refine⟨q,m,cap,rfl,by rw[Ah0];omega,F0,g4,g5,λb hb=>?_⟩;obtain⟨arr,fr,k1,k2,k3,k4,k5⟩:=g6 b hb;exact⟨arr,fr,k1,k2,k3,k4,λj hj=>by rw[k5 j F0,List.getElem?_take,Aa4 hj]⟩
 have h5:Dp w A (Mob.own e.size E (.slice q m cap) (cs.take (m*e.size))::(L.map MD.Jy).eraseIdx i):=⟨o,h4,h2,h3⟩;have h6:Dp w A (MD.dead.Jy::Mob.own e.size E (.slice q m cap) (cs.take (m*e.size))::(L.map MD.Jy).eraseIdx i):=⟨none,⟨none,0,0,rfl,Axl,Apn _,λ_=>rfl,λ_=>rfl,λb h=>by cases h⟩,λb hb=>(by cases hb),h5.EL λb hb=>hb.elim id λh=>by cases h⟩;have h7:Dp w A ((MD.own e.size E (.slice q m cap) (cs.take (m*e.size))).Jy::(L.set i .dead).map MD.Jy):=by
  rw[List.map_set];exact h6.perm ((List.Perm.swap _ _ _).trans ((XV (m':=MD.dead.Jy) kL).cons _))
 have h8:St A w [oC Z.R (L.set i .dead) ((s.Xy i .dead).sub i .any) σs σ, .old Z.M Z.w0] ((MD.own e.size E (.slice q m cap) (cs.take (m*e.size))).Jy::(L.set i .dead).map MD.Jy):=by
  refine⟨St.lt hr,λf hf=>?_,h7⟩;cases hf with
  |head=>exact hm2
  |tail _ hf=>exact hr.facts f (.tail _ hf)
 exact Rel.push (a:= .arr E e l) h8 ⟨rfl,rfl,hl⟩
theorem zq{E:TypeId}{s1:S}{i:Nat}(hr:Rel Z s σs A L σ w)(hz:0<e.size)(hx:(Ei s.sl x).eu=true)(h:Aeb s E e (Ei s.sl x)=some (s1,i)):
  ∃L1,Rel Z s1 σs A L1 σ w/\∃c0,L1[i]? =some (.own e.size E (ev σ x) c0):=by
 have hv:=Rv hr.mem.sl x (PV.P6 hx);unfold Aeb at h;split at h
 ·rename_i hp;cases h;rw[hp]at hv;have hev:=IG hv;have hr':=Rel.push (a:= .arr E e []) (md:= .own e.size E (.slice none 0 0) []) (St.X9 hr e.size E) ⟨rfl,rfl,rfl⟩;refine⟨_,hr',[],?_⟩;rw[S.new,hr.len,hev];simp
 ·rename_i j hp;rw[hp]at hv;split at h
  ·rename_i E' e' l hj;obtain⟨hb,h⟩:=Bb h;split at h
   ·rename_i he;cases h;subst he;have:=Da hb;subst this;obtain⟨v,cs,h1,h2⟩:=hr.mem.arr hj;obtain⟨z,E',c,h3⟩:=LY hv;rw[h1]at h3;cases h3;exact⟨L,hr,cs,h1⟩
   ·cases h
  ·cases h
 ·rename_i j p e1 lo n' hp;rw[hp]at hv;split at h
  ·rename_i E' e' l hj;obtain⟨hb,h⟩:=Bb h;simp only[Aa5,Acr]at hb;obtain⟨⟨hE,h0⟩,he1⟩:=hb;split at h
   ·rename_i he;cases h;subst he he1;have:=Da hE;subst this;subst h0;obtain⟨u,cs,h1,h2⟩:=hr.mem.arr hj;obtain⟨md,v1,h3,h4,k1,k2,_,k7,_⟩:=hv;rw[h1]at h3;cases h3;have h6:ev σ x=v1:=by simpa using h4
    obtain⟨s',E2,q,len,cap,c0,e1,e2,e3,_,e5⟩:=k7 rfl;cases e1;have e7:=e5 rfl;have hl:Ci (Az (λb=>A b/\Z.R b) w e1) (KY l 0 n') (cs.take (n'.toNat*e1.size)):=by
     have:=Ci.take (λx c h=>Az.len h) n'.toNat h2;simpa [KY]using this
    have hr':=Ahd hr h1 (m:=n'.toNat) (by simpa using e3) hl;refine⟨_,hr',cs.take (n'.toNat*e1.size),?_⟩;rw[h6,e7,S.new,hr.len];have:L.length=(L.set j .dead).length:=by simp
    rw[this,List.getElem?_append_right (Apn _)];simp
   ·cases h
  ·cases h
 ·cases h
theorem Am0{a:Item}{l:List e.T}(h:Aq0 e a=some l):∃E,a= .arr E e l:=by
 unfold Aq0 at h;split at h
 ·rename_i E e' l';split at h
  ·rename_i he;subst he;cases h;exact⟨E,rfl⟩
  ·cases h
 ·cases h
theorem Aah{E:TypeId}{i dn:Nat}{l m:List e.T}{cs ys:List Value}{v':Value}{w':World}{s0:S}{A0:Reg}{L0:List MD}{w0:World}(hr:Rel Z s σs A L σ w)(hi:L[i]? =some (.own e.size E v cs))(hl:Ci (Az (λb=>A b/\Z.R b) w e) (l++m) (cs++ys))
  (hs:St A w' [yL Z.R L (.arr E e (l++m)) (cs++ys),oC Z.R L s σs σ, .old Z.M Z.w0] ((L.map MD.Jy).set i (.own e.size E v' (cs++ys))))
  (hk:k ((((s.Xy i .dead).sub i .any).add (.arr E e (l++m))).Gt (some dn) (.own s.new))=some r):K4 Z σs k r False A0 L0 s0.it w0 (Xy σ dn v') w':=by
 have h1:Ci (Az (λb=>A b/\Z.R b) w' e) (l++m) (cs++ys):=hs.fact 0 rfl;have hone:v.oneCell'=true:=by obtain⟨p,len,cap,rfl,_⟩:=hr.Ua hi;rfl
 have hs1:=hs.vC;have hm:MemR (λb=>A b/\Z.R b) w' L s σs σ:=hs1.fact 0 rfl;have hf:Frz (λb=>A b/\Z.R b) w' L i .any:=⟨λz E' u c h=>⟨u,rfl,by rw[hi]at h;cases h;exact hone⟩,rfl,rfl⟩;have hm2:=hm.subst hf;have kL:(L.map MD.Jy)[i]? =some (Mob.own e.size E v cs):=hr.Jy hi;have hs2:=Dp.jL hs1 (XV (m':=Mob.own e.size E v' (cs++ys)) kL).symm;have hs3:=Dp.jL (hs2.X9 1 0) (List.Perm.swap _ _ _);have hs4:=Dp.jL hs3 ((XV (m':=MD.dead.Jy) kL).cons _);have hs5:St A w' [oC Z.R (L.set i .dead) ((s.Xy i .dead).sub i .any) σs σ, .old Z.M Z.w0] ((MD.own e.size E v' (cs++ys)).Jy::(L.set i .dead).map MD.Jy):=by
  rw[List.map_set];exact(hs4.noF.pW (f:= .old Z.M Z.w0) (hs4.fact 1 rfl)).pW (f:=oC Z.R (L.set i .dead) ((s.Xy i .dead).sub i .any) σs σ) hm2
 have hr2:=Rel.push (a:= .arr E e (l++m)) hs5 ⟨rfl,rfl,h1⟩;have hnew:s.new=(L.set i .dead).length:=by rw[Avh,<-hr.len];rfl
 refine⟨_,A,_,hk,hr2.Gt (d:=some dn) rfl ?_,λg=>g.elim⟩;rw[hnew];exact oA
theorem Aki(z:Array Value)(hz:0<z.size)(m:Nat):((List.replicate m z.toList).flatten).toArray=Builtin.zeroCells z m:=by
 apply Array.ext
 ·simp[Builtin.zeroCells]
 ·intro j h1 h2;simp only[Builtin.zeroCells,Array.getElem_map,Array.getElem_range];have h3:j<m*z.size:=by simpa [Builtin.zeroCells]using h2
  have h4:=zT z.toList z.size Axl hz m j h3;have h5:j %z.size<z.size:=Av2 _ hz;simp only[List.getElem_toArray];rw[List.getElem?_eq_getElem (by simpa using h1)]at h4;simp[h5]at h4;simp[h4,h5]
theorem Ani{E t t2:TypeId}{kk:List e.T->Option R}(hr:Rel Z s σs A L σ w)(ht:P.underlying t=some (.slice E))(hel:ElemOk P E e.size)(h:Aqz P s E e t2 y kk=some r):
  ∃m ys,kk m=some r/\Ci (Az (λb=>A b/\Z.R b) w e) m ys/\∀(A1:Reg) (F:List Fact) (LL:List Mob) (i ll:Nat) (vx:Value) (cs:List Value),St A1 w F LL->LL[i]? =some (.own e.size E vx cs)->cs.length=ll*e.size->ll+m.length<=M2->
   ∃v' w',(Builtin.append_ #[t,t2] ty #[vx,ev σ y]).run P w= .ok v' w'/\St A1 w' F (LL.set i (.own e.size E v' (cs++ys))):=by
 unfold Aqz at h;split at h
 ·rename_i ht2;split at h
  ·rename_i m0 hy;split at h
   ·rename_i m hm;unfold YV at hm;split at hm
    ·rename_i he;cases he;cases hm;refine⟨m0,FW m0,h,V2.KE,λA1 F LL i ll vx cs hs hL hlen hlim=>?_⟩;rw[Sj hr.mem.sl hy];exact nA (x:=y) (y:=y) ht hel hs hL (Src.string ht2) (Ang m0) hlen (by simp[FW,ET.size]) hlim
    ·cases hm
   ·cases h
  ·cases h
 ·rename_i et2 ht2;split at h
  ·rename_i m hm;have hV:(Ei s.sl y).isV=true:=by
    cases hq:(Ei s.sl y).isV with
    |true=>rfl
    |false=>rcases Xh hq with h|h|⟨_,_,_,h⟩<;>rw[h]at hm<;>cases hm
   obtain⟨c0,h1,h2⟩:=fO hr.mem hm (Rv hr.mem.sl y hV);have hrd:Rd (λ_=>True) w e.size (ev σ y) c0:=by
    rcases h2 with h2|⟨j,E',u,cs',_,h2,hpart⟩
    ·exact h2.step (λ_ _=>trivial) (λ_ _=>rfl)
    ·exact hpart _ _ (hr.Ua h2)
   have L6:=h1.len λx c h=>Az.len h;exact⟨m,c0,h,h1,λA1 F LL i ll vx cs hs hL hlen hlim=>nA (x:=y) (y:=y) ht hel hs hL (Src.slice ⟨_,ht2⟩ hrd L6 hel.pos) h1.Y8 hlen L6 hlim⟩
  ·cases h
 ·rename_i kk2 ht2;split at h
  ·rename_i q z hq hz;split at h
   ·rename_i x0 hx0;obtain⟨m,hm,h⟩:=bind_some h;obtain⟨h1,h2,rfl⟩:=uf hm;obtain⟨zv,⟨i0,hi0,hz0⟩,hz2⟩:=SH hz;have hx1:=SB hx0 (hz2 (λb=>A b/\Z.R b) w L);have hall:=W4 hx1 q.toNat;refine⟨_,_,h,hall,λA1 F LL i ll vx cs hs hL hlen hlim=>?_⟩;rw[yF hq (Rv hr.mem.sl y (X3 hq)),h1];have hzs:zv.cells.size=e.size:=by have:=hx1.len;simpa using this
    rw[List.length_replicate]at hlim;exact iq (x:=y) (y:=y) (ly:=q.toNat) ht hel hs hL ⟨_,ht2⟩ (λi z' hi hz'=>by rw[hi0]at hi;cases hi;rw[hz0]at hz';cases hz';exact Aki zv.cells (by rw[hzs];exact hel.pos) _)
     hall.Y8 hlen ((hall.len λx c h=>Az.len h).trans Axl) hlim
   ·cases h
  ·cases h
 ·cases h
theorem Anf{t2:TypeId}{m:List e.T}(hr:Rel Z s σs A L σ w)(hz:0<e.size)(h:Ars P s e t2 y=some m):∃ys,Ci (Az (λb=>A b/\Z.R b) w e) m ys/\Src P w t2 (ev σ y) e.size m.length ys:=by
 unfold Ars at h;split at h
 ·rename_i ht2;split at h
  ·rename_i m0 hy;unfold YV at h;split at h
   ·rename_i he;cases he;cases h;refine⟨FW m0,V2.KE,?_⟩;rw[Sj hr.mem.sl hy];exact Src.string ht2
   ·cases h
  ·cases h
 ·rename_i et2 ht2;have hV:(Ei s.sl y).isV=true:=by
   cases hq:(Ei s.sl y).isV with
   |true=>rfl
   |false=>rcases Xh hq with h'|h'|⟨_,_,_,h'⟩<;>rw[h']at h<;>cases h
  obtain⟨c0,h1,h2⟩:=fO hr.mem h (Rv hr.mem.sl y hV);have hrd:Rd (λ_=>True) w e.size (ev σ y) c0:=by
   rcases h2 with h2|⟨j,E',u,cs',_,h2,hpart⟩
   ·exact h2.step (λ_ _=>trivial) (λ_ _=>rfl)
   ·exact hpart _ _ (hr.Ua h2)
  exact⟨c0,h1,Src.slice ⟨_,ht2⟩ hrd (h1.len λx c h=>Az.len h) hz⟩
 ·cases h
theorem Aoo{l:List e.T}{c:Int}(h:Arm e p=some (l,c)):p= .cap e l c:=by
 unfold Arm at h;split at h
 ·split at h
  ·rename_i he;subst he;cases h;rfl
  ·cases h
 ·cases h
theorem Ahv{t t2:TypeId}{dn:Nat}(hr0:Rel Z s σs A L σ w)(hd:Kn n ⟨some dn, .call ⟨.builtin .append, #[x,y], #[t,t2]⟩,ty,pos,after,none⟩=true)
  (h:yR P s (some dn) x y t t2 k=some r):AI P n ops ⟨some dn, .call ⟨.builtin .append, #[x,y], #[t,t2]⟩,ty,pos,after,none⟩ Z s σs k r False A L σ w:=by
 unfold yR at h;split at h
 ·cases h
 ·rename_i E hE;split at h
  ·cases h
  ·rename_i e he;obtain⟨hb,h⟩:=Bb h;simp only[Aa5]at hb;have hel:=sZ hb.1;split at h
   ·rename_i l c hcap;split at h
    ·rename_i m hm;obtain⟨r',ha,hk⟩:=bind_some h;obtain⟨h3,rfl⟩:=sE ha;obtain⟨_,hok,hk⟩:=bind_some hk;have hlt:c<Ac (l++m):=Au6 (Xb hok);obtain⟨ys,hy1,hy2⟩:=Anf hr0 hel.pos hm;obtain⟨v0,c0,g1,g2,g3,g4,p,len,g5⟩:=Dh hr0.mem.sl (Aoo hcap) rfl;cases g1;have hlen:=g3.len λx c h=>Az.len h;have L6:=hy1.len λx c h=>Az.len h;unfold Ac at hlt;rw[Aa7]at hlt;obtain⟨v',w',h4,h5⟩:=uq (ty:=ty) (XM hE) hel hr0.same (g2.step (A':=λ_=>True) (λ_ _=>trivial) (λ_ _=>rfl)) g5 F0 hy2 hlen L6 h3;refine WL.val (v:=v') (w':=w') rfl rfl (SQ hd) ?_ (WL.nil (YI (a:= .arr E e (l++m)) (md:= .own e.size E v' (c0++ys)) hr0 h5 ⟨rfl,rfl,?_⟩ rfl (λB=>?_) hk))
     ·simp[execOp,resolve,invoke,builtin,h4]
     ·obtain⟨k1,k2⟩:(∀b,A b->A b)/\Same A w w':=h5.fact 0 rfl;exact(g3.append hy1).mono λx c h=>Az.step (λ_ h=>h) (λb hb=>k2 b hb.1) h
     ·rw[S.new,hr0.len];exact oA
    ·cases h
   split at h
   ·cases h
   ·rename_i s1 i hown;obtain⟨L1,hr,cs,hi⟩:=zq hr0 hel.pos hb.2 hown;split at h
    ·cases h
    ·rename_i l hl;obtain⟨E',hit⟩:=Am0 hl;obtain⟨v1,cs1,h1,h2⟩:=hr.mem.arr hit;rw[hi]at h1;cases h1;have hlen:=h2.len λx c h=>Az.len h;obtain⟨m,ys,hk,hm,hrun⟩:=Ani (ty:=ty) hr0 (XM hE) hel h;obtain⟨r',ha,hk⟩:=bind_some hk;obtain⟨h3,rfl⟩:=sE ha;have hF:=St.pW (f:=yL Z.R L1 (.arr E e (l++m)) (cs++ys)) hr (h2.append hm);obtain⟨v',w',h4,h5⟩:=hrun A _ _ i l.length (ev σ x) cs hF (hr.Jy hi) hlen h3;refine WL.val (v:=v') (w':=w') rfl rfl (SQ hd) ?_ (WL.nil (Aah hr hi (h2.append hm) h5 hk));simp[execOp,resolve,invoke,builtin,h4]
end Go.Rx
namespace Go.Rx
open Go Go.Lv
variable {P:Program} {B:Reg} {w w':World} {L L':List MD} {s:S} {σs:List Env} {σ:Env} {Z:Fix} {A A':Reg} {n:Nat} {ops:Array Oper} {rest:List Oper} {K:Env->World->Prop}
variable {R:Type} {k:S->Option R} {r:R} {d:Option Nat} {ty:TypeId} {pos:String} {after:Array Edge}
theorem Q9{place:Nat->Option (Nat×Nat)}{acc ns:List Value}{i off z:Nat}{v:Value}{rest:List (Nat×Value)}(hp:place i=some (off,z))(hv:v.cells=ns.toArray)(hz:ns.length=z)(hl:off+z<=acc.length):
  Instr.fill place acc.toArray ((i,v)::rest)=Instr.fill place (Bl acc off ns).toArray rest:=by
 have hf:=fR off ns 0 acc F0;have Al1:v.cells.zipIdx.foldl (λcs (x:Value×Nat)=>cs.setIfInBounds (off+x.2) x.1) acc.toArray=(Bl acc off ns).toArray:=by
  rw[hv,<-Array.foldl_toList,Array.toList_zipIdx];simpa using hf
 simp only[Instr.fill,hp];have hc:(decide (v.cells.size≠z)||decide (off+v.cells.size>acc.toArray.size))=false:=by rw[hv];simp;omega
 rw[Aa2 (by rw[hc];simp)]
 show Instr.fill _ (v.cells.zipIdx.foldl (λcs (x:Value×Nat)=>cs.setIfInBounds (off+x.2) x.1) acc.toArray) _=_;rw[Al1]
def places:List PV->Nat->List (Nat×Nat)
 |[],_=>[]
 |v::vs,off=>(off,v.size)::places vs (off+v.size)
theorem zB:∀{l:List PV} {i off:Nat} {u:PV},l[i]? =some u-> (places l off)[i]? =some (off+yN l i,u.size)
 |[],_,_,_,h=>by simp at h
 |a::l,0,off,u,h=>by simp at h;subst h;rfl
 |a::l,i+1,off,u,h=>by
  have:=zB (l:=l) (i:=i) (off:=off+a.size) (by simpa using h);simpa [places,yN,Asn]using this
theorem yP:∀{l:List PV} {i off:Nat} {u v:PV},l[i]? =some u->u.size=v.size->places (l.set i v) off=places l off
 |[],_,_,_,_,h,_=>by simp at h
 |a::l,0,off,u,v,h,hs=>by simp at h;subst h;simp[places,hs]
 |a::l,i+1,off,u,v,h,hs=>by simp[places,yP (l:=l) (i:=i) (by simpa using h) hs]
theorem vY:∀{fs:List Field} {vs:List PV} {off:Nat},XA P fs vs off=true-> (fs.map λf=>(f.offset,(P.info? f.type).map (·.size)))=(places vs off).map λp=>(p.1,some p.2)
 |[],[],_,_=>rfl
 |[],_::_,_,h=>by simp[XA]at h
 |_::_,[],_,h=>by simp[XA]at h
 |f::fs,v::vs,off,h=>by
  simp only[XA,Aa5]at h;obtain⟨⟨h1,h2⟩,h3⟩:=h;split at h2
  ·rename_i i hi;simp[places,vY h3,hi,Da h1,Da h2]
  ·cases h2
theorem vI(hr:Rel Z s σs A L σ w){pl:List (Nat×Nat)}:∀{parts:List (Nat×Operand)} {zs l:List PV} {acc:List Value},gZ (parts.map λp=>(p.1,Ei s.sl p.2)) zs=some l->
  places zs 0=pl->Bj.go (λb=>A b/\Z.R b) w L zs acc->∃cells,Instr.fill (pl[·]?) acc.toArray (parts.map λp=>(p.1,ev σ p.2))=some cells.toArray/\Bj.go (λb=>A b/\Z.R b) w L l cells
 |[],zs,l,acc,h,_,ha=>by simp only[List.map_nil,gZ,Aa6]at h;subst h;exact⟨acc,rfl,ha⟩
 |(i,x)::ps,zs,l,acc,h,hpl,ha=>by
  subst hpl;simp only[Auo,gZ]at h;split at h
  ·rename_i u hu;obtain⟨hb,h⟩:=Bb h;simp only[Aa5]at hb;have hsz:=Da hb.1;obtain⟨ns,h1,h2⟩:=QW hr (QA hr.mem.sl (x:=x) hb.2);obtain⟨c1,c2,c3,e,h3,h4,h5⟩:=Bj.field ha hu;have hlen:=h2.len;have lY:=h4.len;obtain⟨cells,h6,h7⟩:=vI hr (zs:=zs.set i (Ei s.sl x)) (acc:=c1++(ns++c3)) h (by rw[yP hu hsz]) (h5 _ _ h2);refine⟨cells,?_,h7⟩;rw[Auo,Q9 (off:=c1.length) (z:=u.size) (ns:=ns) (by rw[zB hu,Av9,h3]) h1 F0 (by rw[e];simp;omega),e,ZW F0];exact h6
  ·cases h
theorem pq(hr:Rel Z s σs A L σ w){e:ET}:∀{parts:List (Nat×Operand)} {l l':List e.T} {acc:List Value},B0 e (parts.map λp=>(p.1,Ei s.sl p.2)) l=some l'->
  Ci (Az (λb=>A b/\Z.R b) w e) l acc->∃cells,Instr.fill (λi=>some (i*e.size,e.size)) acc.toArray (parts.map λp=>(p.1,ev σ p.2))=some cells.toArray/\Ci (Az (λb=>A b/\Z.R b) w e) l' cells/\l'.length=l.length
 |[],l,l',acc,h,ha=>by simp only[List.map_nil,B0,Aa6]at h;subst h;exact⟨acc,rfl,ha,rfl⟩
 |(i,x)::ps,l,l',acc,h,ha=>by
  simp only[Auo,B0]at h;split at h
  ·rename_i u y hu hy;obtain⟨ns,h1,h2⟩:=QW hr (QA hr.mem.sl (x:=x) (At8 hy));have h3:=SB hy h2;obtain⟨c1,c2,c3,e',h4,h5,h6⟩:=Ci.get (λx c h=>Az.len h) ha hu;have hlen:=h3.len;have lY:=h5.len;obtain⟨cells,h7,h8,h9⟩:=pq hr (l:=l.set i y) (acc:=c1++(ns++c3)) h (h6 _ _ h3);refine⟨cells,?_,h8,by rw[h9,Avh]⟩;rw[Auo,Q9 (off:=c1.length) (z:=e.size) (ns:=ns) (by rw[h4]) h1 hlen (by rw[e'];simp;omega),e',ZW F0];exact h7
  ·cases h
theorem Agy{t et:TypeId}{m z:Nat}{parts:List (Nat×Operand)}{zv:Value}{cells:List Value}(ht:P.underlying t=some (.array m et))(hz:∃i,P.info? t=some i/\i.zero=some zv)(hsz:Jk P et z)
  (hf:Instr.fill (λi=>some (i*z,z)) zv.cells (parts.map λp=>(p.1,ev σ p.2))=some cells.toArray) (w:World):XO P σ w (.build t parts.toArray) (.agg cells.toArray):=λ_ _ _ _ _=>by
 obtain⟨i,hi,hz⟩:=hz;simp only[execOp,Instr.build,Al4,zeroValue,typeInfo];simp[hi,hz,Ahy ht,Bz hsz,hf]
theorem Ah5{t:TypeId}{ps:Array (Nat×Operand)}{G:Prop}(hr:Rel Z s σs A L σ w)(hd:Kn n ⟨d, .build t ps,ty,pos,after,none⟩=true)(h:T5 P s d t ps.toList k=some r):
  AI P n ops ⟨d, .build t ps,ty,pos,after,none⟩ Z s σs k r G A L σ w:=by
 have hps:ps=ps.toList.toArray:=by simp
 rw[show(⟨d, .build t ps,ty,pos,after,none⟩:Oper)=⟨d, .build t ps.toList.toArray,ty,pos,after,none⟩ by rw[<-hps]];unfold T5 at h;split at h
 ·rename_i fs zs ht hz;obtain⟨hb,h⟩:=Bb h;obtain⟨z,⟨i,hi,hz0⟩,hz2⟩:=SH hz;split at h
  ·rename_i l hl;obtain⟨cells,h1,h2⟩:=vI hr (pl:=places zs 0) hl rfl (show Bj.go _ w L zs _ from hz2 _ _ _);have hst:YO P t (places zs 0) z.cells.toList:=by
    unfold YO bA;rw[ht];simp only[vY hb,hi,hz0,Awt]
   exact Ed hr (d:=d) (o:= .build t ps.toList.toArray) (by simpa using hd) (X.build hst rfl (by simpa using h1)) rfl (show Fs _ w L (.agg l) _ from⟨cells,rfl,h2⟩) h
  ·cases h
 ·rename_i m et e0 l0 ht hz;split at h
  ·rename_i m' a l;split at h
   ·rename_i inf l' Tn hl;obtain⟨hb,h⟩:=Bb h;obtain⟨z,hz1,hz2⟩:=SH hz;obtain⟨h0,h0'⟩:l.length=m'/\Ci (Az (λb=>A b/\Z.R b) w a) l z.cells.toList:=hz2 _ _ L;obtain⟨cells,h1,h2,h3⟩:=pq hr hl h0';have:=Agy (σ:=σ) (parts:=ps.toList) ht hz1 (Ft Tn hb) (by simpa using h1) w;exact Ed hr (d:=d) (o:= .build t ps.toList.toArray) (by simpa using hd) this rfl (show Fs _ w L (.val (.vec m' a) l') _ from⟨cells,rfl,h3.trans h0,h2⟩) h
   ·cases h
  ·cases h
 ·cases h
end Go.Rx
namespace Go.Rx
open Go Go.Lv
variable{e:ET}{q:PV}
variable {P:Program} {B B':Reg} {w w':World} {L L':List MD} {s:S} {σs:List Env} {σ:Env} {Z:Fix} {A A':Reg} {n:Nat}
def cH(B:Reg)(w:World)(L:List MD)(B':Reg)(w':World)(L':List MD)(q q':PV):Prop:=q'.isA=q.isA/\∀cs,Bj B w L q cs->Bj B' w' L' q' cs
inductive All2 {α β:Type} (f:α->β->Prop):List α->List β->Prop
 |nil:All2 f [] []
 |cons {a b l m}:f a b->All2 f l m->All2 f (a::l) (b::m)
theorem All2.split{α β:Type}{f:α->β->Prop}:∀{l1 l2:List α} {m:List β},All2 f (l1++l2) m->∃m1 m2,m=m1++m2/\All2 f l1 m1/\All2 f l2 m2
 |[],_,m,h=>⟨[],m,rfl, .nil,h⟩
 |a::l1,l2,_, .cons h1 h2=>let⟨m1,m2,e,h3,h4⟩:=All2.split h2;⟨_::m1,m2,by rw[e];rfl, .cons h1 h3,h4⟩
mutual
theorem mT:∀{sh:Sh} {p:PV} {ls ls' rest:List PV} {cs:List Value},Wq sh p=some ls->Bj B w L p cs->All2 (cH B w L B' w' L') ls ls'->∃p',Tf sh (ls'++rest)=some (p',rest)/\p'.isA=p.isA/\Bj B' w' L' p' cs
 | .lf e o,p,ls,ls',rest,cs,h,hp,ha=>by
  simp only[Wq,Aa6]at h;subst h;cases ha with
  |cons h1 h2=>
   cases h2;exact⟨_,rfl,h1.1,h1.2 _ hp⟩
 | .agg l,p,ls,ls',rest,cs,h,hp,ha=>by
  cases p<;>simp only[Wq,reduceCtorEq]at h;rename_i vs;obtain⟨us,h1,h2⟩:=uC (rest:=rest) h (show Bj.go B w L vs cs from hp) ha;exact⟨.agg us,by simp only[Tf,h1],rfl,h2⟩
theorem uC:∀{l:List Sh} {ps:List PV} {ls ls' rest:List PV} {cs:List Value},Wq.go l ps=some ls->Bj.go B w L ps cs->All2 (cH B w L B' w' L') ls ls'->∃ps',Tf.go l (ls'++rest)=some (ps',rest)/\Bj.go B' w' L' ps' cs
 |[],[],ls,ls',rest,cs,h,hp,ha=>by
  simp only[Wq.go,Aa6]at h;subst h;cases ha;exact⟨[],rfl,hp⟩
 |a::l,p::ps,ls,ls',rest,cs,h,⟨c1,c2,e,hp1,hp2⟩,ha=>by
  simp only[Wq.go]at h;split at h
  ·rename_i x y hx hy;cases h;obtain⟨m1,m2,rfl,h1,h2⟩:=ha.split;obtain⟨p',h3,_,h4⟩:=mT (rest:=m2++rest) hx hp1 h1;obtain⟨ps',h5,h6⟩:=uC (rest:=rest) hy hp2 h2;exact⟨p'::ps',by simp only[Tf.go,Ame,h3,h5],c1,c2,e,h4,h6⟩
  ·cases h
 |[],_::_,_,_,_,_,h,_,_=>by simp[Wq.go]at h
 |_::_,[],_,_,_,_,h,_,_=>by simp[Wq.go]at h
end
theorem kY:∀{l:List Sh} {ps:List PV} {ls ls' rest:List PV} {us:List Value},Wq.go l ps=some ls->Es B w L ps us->All2 (cH B w L B' w' L') ls ls'->∃ps',Tf.go l (ls'++rest)=some (ps',rest)/\Es B' w' L' ps' us
 |[],[],ls,ls',rest,us,h,hp,ha=>by
  simp only[Wq.go,Aa6]at h;subst h;cases ha;exact⟨[],rfl,hp⟩
 |a::l,p::ps,ls,ls',rest,us,h,⟨v,us',e,hp1,hp2⟩,ha=>by
  simp only[Wq.go]at h;split at h
  ·rename_i x y hx hy;cases h;obtain⟨m1,m2,rfl,h1,h2⟩:=ha.split;have key:∃p',Tf a (m1++(m2++rest))=some (p',m2++rest)/\asV p'.isA (Bj B' w' L' p') v:=by
    cases hA:p.isA with
    |true=>
     rw[hA]at hp1;obtain⟨cs,e1,hc⟩:=hp1;obtain⟨p',h3,h4,h5⟩:=mT (rest:=m2++rest) hx hc h1;exact⟨p',h3,by rw[h4,hA];exact⟨cs,e1,h5⟩⟩
    |false=>
     rw[hA]at hp1;obtain⟨p',h3,h4,h5⟩:=mT (rest:=m2++rest) hx hp1 h1;exact⟨p',h3,by rw[h4,hA];exact h5⟩
   obtain⟨p',h3,h4⟩:=key;obtain⟨ps',h5,h6⟩:=kY (rest:=rest) hy hp2 h2;exact⟨p'::ps',by simp only[Tf.go,Ame,h3,h5],v,us',e,h4,h6⟩
  ·cases h
 |[],_::_,_,_,_,_,h,_,_=>by simp[Wq.go]at h
 |_::_,[],_,_,_,_,h,_,_=>by simp[Wq.go]at h
theorem qT{l:List Sh}{ps ls ls':List PV}{us:List Value}(h:Afi l ps=some ls)(hp:Es B w L ps us)(ha:All2 (cH B w L B' w' L') ls ls'):∃ps',fC l ls'=some ps'/\Es B' w' L' ps' us:=by
 obtain⟨ps',h1,h2⟩:=kY (rest:=[]) h hp ha;rw[Ap8]at h1;exact⟨ps',by simp only[fC,h1],h2⟩
theorem lu{x:e.T}(h:iI s e q=some x):(∃e0,e= .list e0)\/ (∃e' x',q= .val e' x'/\YV e' e x'=some x):=by
 unfold iI at h;split at h
 ·exact .inl ⟨_,rfl⟩
 ·exact .inr ⟨_,_,rfl,h⟩
 ·cases h
theorem cast_eq{e':ET}{x:e.T}{y:e'.T}(h:YV e e' x=some y):PV.val e x=PV.val e' y:=by
 unfold YV at h;split at h
 ·rename_i he;subst he;cases h;rfl
 ·cases h
theorem Ahr{l:List e.T}(h:Y6 s e q=some l):elems s e q=some l/\q.isA=false/\q.size=1:=by
 unfold Y6 at h;refine⟨h,?_⟩;unfold elems at h;split at h
 ·split at h
  ·exact⟨rfl,rfl⟩
  ·cases h
 ·exact⟨rfl,rfl⟩
 ·exact⟨rfl,rfl⟩
 ·exact⟨rfl,rfl⟩
 ·exact⟨rfl,rfl⟩
 ·cases h
theorem yw(hr:Rel Z s σs A L σ w){x:e.T}(h:iI s e q=some x)(hb:∀b,A b/\Z.R b->B' b)(ho:∀i∈owns q,∀z E v c,L[i]? =some (.own z E v c)->Rd B' w z v c):cH (λb=>A b/\Z.R b) w L B' w L' q (.val e x):=by
 rcases lu h with⟨e0,rfl⟩|⟨e',x',rfl,hc⟩
 ·obtain⟨h1,hA,h2⟩:=Ahr (show Y6 s e0 q=some x from h);refine⟨by rw[hA];rfl,λcs hcs=>?_⟩;have hP:=hcs.sY;have hlen:=hcs.len;have:∃v,cs=[v]:=by
   rw[h2]at hlen
   match cs,hlen with
   |[v],_=>exact⟨v,rfl⟩
  obtain⟨v,rfl⟩:=this;have hv:Fs (λb=>A b/\Z.R b) w L q v:=(fK hP).2 (by unfold Ih;rw[hA];exact hcs);obtain⟨c0,h3,h4⟩:=fO hr.mem h1 hv;refine⟨v,c0,rfl,?_,h3.mono λx c h=>Az.step hb (λ_ _=>rfl) h⟩;rcases h4 with h4|⟨i,E,u,cs,hi,h4,hpart⟩
  ·exact h4.step hb (λ_ _=>rfl)
  ·exact hpart _ _ (ho i hi _ _ _ _ h4)
 ·have:=cast_eq hc;rw[this];exact⟨rfl,λcs h=>Az.step hb (λ_ _=>rfl) (show Az _ w e x cs from h)⟩
theorem Aev{x:e.T}{s0:S}:Fp e none x s0=(.val e x,s0):=by cases e<;>rfl
theorem yB(x:NZ [])(s0:S):Fw [] x s0=([],s0):=rfl
theorem ZJ(p:ET×Option TypeId)(x:NZ [p])(s0:S):Fw [p] x s0=([(Fp p.1 p.2 x s0).1],(Fp p.1 p.2 x s0).2):=rfl
theorem TJ(p q:ET×Option TypeId)(r:List (ET×Option TypeId))(x:p.1.T)(y:NZ (q::r))(s0:S):Fw (p::q::r) (x,y) s0=
  ((Fp p.1 p.2 x s0).1::(Fw (q::r) y (Fp p.1 p.2 x s0).2).1,(Fw (q::r) y (Fp p.1 p.2 x s0).2).2):=rfl
theorem pk0{p:ET×Option TypeId}:QX s [p] []=none:=rfl
theorem pk2{p:ET×Option TypeId}{r:PV}{qs:List PV}:QX s [p] (q::r::qs)=none:=rfl
theorem pk3{qs:List PV}:QX s [] (q::qs)=none:=rfl
theorem pk4{p q:ET×Option TypeId}{r:List (ET×Option TypeId)}:QX s (p::q::r) []=none:=rfl
theorem pk5{p q:ET×Option TypeId}{r:List (ET×Option TypeId)}{v:PV}{vs:List PV}:QX s (p::q::r) (v::vs)=(match iI s p.1 v,QX s (q::r) vs with|some x,some y=>some ((x,y):p.1.T×NZ (q::r))|_,_=>none):=rfl
theorem yc{qs:List PV}{x:NZ []}(h:QX s [] qs=some x):qs=[]:=by
 match qs,h with
 |[],_=>rfl
 |_::_,h=>rw[pk3]at h;cases h
theorem sj{p:ET×Option TypeId}{qs:List PV}{x:NZ [p]}(h:QX s [p] qs=some x):∃q,qs=[q]/\iI s p.1 q=some x:=by
 match qs,h with
 |[],h=>rw[pk0]at h;cases h
 |[q],h=>exact⟨q,rfl,h⟩
 |q::r::qs,h=>rw[pk2]at h;cases h
theorem Q3{p q:ET×Option TypeId}{r:List (ET×Option TypeId)}{qs:List PV}{z:NZ (p::q::r)}(h:QX s (p::q::r) qs=some z):
  ∃v vs,∃(x:p.1.T) (y:NZ (q::r)),qs=v::vs/\z=(x,y)/\iI s p.1 v=some x/\QX s (q::r) vs=some y:=by
 match qs,h with
 |[],h=>rw[pk4]at h;cases h
 |v::vs,h=>
  rw[pk5]at h;split at h
  ·rename_i x y hx hy;cases h;exact⟨v,vs,x,y,rfl,rfl,hx,hy⟩
  ·cases h
def Ni(L:List MD):List (ET×Option TypeId)->List PV->List MD
 |p::r,v::vs=>match p.2 with
  |none=>Ni L r vs
  |some E=>(match p.1,v with
   | .list _, .own i=>L.getD i .dead
   | .list a,_=> .own a.size E (.slice none 0 0) []
   |_,_=> .dead)::Ni L r vs
 |_,_=>[]
theorem rD:∀{ls:List (ET×Option TypeId)} {vs:List PV} {is:List Nat},N2 ls=true->consume s ls vs=some is->is=[]
 |[],[],is,_,h=>by simp[consume]at h;exact h
 |[],_::_,_,_,h=>by simp[consume]at h
 |_::_,[],_,_,h=>by simp[consume]at h
 |(e,none)::r,v::vs,is,hn,h=>rD (ls:=r) (vs:=vs) (by simpa [N2]using hn) (by simpa [consume]using h)
 |(e,some _)::r,v::vs,is,hn,h=>by simp[N2]at hn
theorem oE{N:Reg}:∀{ls:List (ET×Option TypeId)} {vs:List PV} {is:List Nat} {A:Reg},consume s ls vs=some is->Dp w A (is.map λi=>(L.getD i .dead).Jy)->Dp w A ((Ni L ls vs).map MD.Jy)
 |[],[],_,_,_,_=>trivial
 |[],_::_,_,_,h,_=>by simp[consume]at h
 |_::_,[],_,_,h,_=>by simp[consume]at h
 |(e,none)::r,v::vs,is,A,h,hm=>oE (N:=N) (ls:=r) (vs:=vs) (by simpa [consume]using h) hm
 |(e,some E)::r,v::vs,is,A,h,hm=>by
  simp only[consume]at h;split at h
  ·rename_i a;exact⟨none,⟨none,0,0,rfl,Axl,Apn _,λ_=>rfl,λ_=>rfl,λb h=>by cases h⟩,λb hb=>(by cases hb),(oE (N:=N) h hm).EL λb hb=>hb.elim id (λh=>by cases h)⟩
  ·rename_i a i;split at h
   ·rename_i E' a' l hi;obtain⟨_,h⟩:=Bb h;simp only[Awd]at h;obtain⟨is',h1,rfl⟩:=h;obtain⟨o,g1,g2,g3⟩:=hm;exact⟨o,g1,g2,oE (N:=N) h1 g3⟩
   ·cases h
  ·cases h
theorem R9{B1:Reg}(hr:Rel Z s σs A L σ w)(hb:∀b,A b/\Z.R b->B1 b):∀(ls:List (ET×Option TypeId)) (vs:List PV) (x:NZ ls) (is:List Nat) (s0:S) (Lx LF:List MD),
  QX s ls vs=some x->consume s ls vs=some is-> (∀i∈Uc ls vs,∀z E v c,L[i]? =some (.own z E v c)->Rd B1 w z v c)->Lx.length=s0.it.length->LF=Lx++Ni L ls vs->
  ∃its,(Fw ls x s0).2=⟨s0.sl,s0.it++its,s0.st⟩/\its.length=(Ni L ls vs).length/\All2 (cH (λb=>A b/\Z.R b) w L B1 w LF) vs (Fw ls x s0).1/\
   ∀(i:Nat) (a:Item) (m:MD),its[i]? =some a-> (Ni L ls vs)[i]? =some m->Zp B1 w LF a m
 |[],vs,x,is,s0,Lx,LF,hp,hc,_,_,_=>by
  rw[yc hp];refine⟨[],?_,rfl,All2.nil,λi a m h=>by simp at h⟩;rw[yB];simp
 |p::ls,vs,x,is,s0,Lx,LF,hp,hc,ho,hlen,hLF=>by
  have main:∀(v:PV) (vs':List PV) (x1:p.1.T) (rest:S->List PV×S),vs=v::vs'->iI s p.1 v=some x1->
    (Fw (p::ls) x s0=((Fp p.1 p.2 x1 s0).1::(rest (Fp p.1 p.2 x1 s0).2).1,(rest (Fp p.1 p.2 x1 s0).2).2))->
    (∀(is:List Nat) (s1:S) (Lx:List MD),consume s ls vs'=some is-> (∀i∈Uc ls vs',∀z E v c,L[i]? =some (.own z E v c)->Rd B1 w z v c)->Lx.length=s1.it.length->LF=Lx++Ni L ls vs'->
     ∃its,(rest s1).2=⟨s1.sl,s1.it++its,s1.st⟩/\its.length=(Ni L ls vs').length/\All2 (cH (λb=>A b/\Z.R b) w L B1 w LF) vs' (rest s1).1/\
      ∀(i:Nat) (a:Item) (m:MD),its[i]? =some a-> (Ni L ls vs')[i]? =some m->Zp B1 w LF a m)->
    ∃its,(Fw (p::ls) x s0).2=⟨s0.sl,s0.it++its,s0.st⟩/\its.length=(Ni L (p::ls) vs).length/\All2 (cH (λb=>A b/\Z.R b) w L B1 w LF) vs (Fw (p::ls) x s0).1/\
     ∀(i:Nat) (a:Item) (m:MD),its[i]? =some a-> (Ni L (p::ls) vs)[i]? =some m->Zp B1 w LF a m:=by
   intro v vs' x1 rest hvs hx hu hrest;subst hvs;rw[hu];obtain⟨e,o⟩:=p;cases o with
   |none=>
    have hc':consume s ls vs'=some is:=by simpa [consume]using hc
    have e1:Fp e none x1 s0=(.val e x1,s0):=Aev;simp only[e1];obtain⟨its,h1,h2,h3,h4⟩:=hrest is s0 Lx hc' (λi hi=>ho i (by simp[Uc,hi])) hlen hLF;refine⟨its,h1,h2, .cons (yw hr hx hb (λi hi z E v c hL=>ho i (by simp[Uc,hi]) z E v c hL)) h3,h4⟩
   |some E=>
    simp only[consume]at hc;split at hc
    ·rename_i a;have hx':x1=[]:=by
      have:elems s a .nils=some x1:=hx;simpa [elems]using this.symm
     subst hx';have e1:Fp (.list a) (some E) [] s0=(.own s0.new,s0.add (.arr E a [])):=rfl;simp only[e1];obtain⟨its,h1,h2,h3,h4⟩:=hrest is (s0.add (.arr E a [])) (Lx++[.own a.size E (.slice none 0 0) []]) hc (λi hi=>ho i (by simpa [Uc]using hi)) (by simp[S.add,hlen]) (by rw[hLF];simp[Ni]);refine⟨.arr E a []::its,by rw[h1];simp[S.add],by simp[Ni,h2], .cons ⟨rfl,λcs hcs=>?_⟩ h3,λi b m hi hm=>?_⟩
     ·refine⟨a.size,E, .slice none 0 0,[],?_,hcs⟩;rw[hLF,S.new,<-hlen];simp[Ni]
     ·cases i with
      |zero=>
       simp[Ni]at hi hm;subst hi hm;exact⟨rfl,rfl,rfl⟩
      |succ i=>exact h4 i b m (by simpa using hi) (by simpa [Ni]using hm)
    ·rename_i a i;split at hc
     ·rename_i E' a' l hi;obtain⟨hb1,hc1⟩:=Bb hc;clear hc;simp only[Aa5,Acr]at hb1;obtain⟨hE,rfl⟩:=hb1;have:=Da hE;subst this;simp only[Awd]at hc1;obtain⟨is',hc',rfl⟩:=hc1;obtain⟨u,cs0,g1,g2⟩:=hr.mem.arr hi;have hx':x1=l:=by
       have:elems s a' (.own i)=some x1:=hx;simp[elems,hi]at this;exact this.symm
      subst hx';have hg:L.getD i .dead= .own a'.size E' u cs0:=by simp[List.getD_eq_getElem?_getD,g1]
      have e1:Fp (.list a') (some E') x1 s0=(.own s0.new,s0.add (.arr E' a' x1)):=rfl;simp only[e1];obtain⟨its,h1,h2,h3,h4⟩:=hrest is' (s0.add (.arr E' a' x1)) (Lx++[.own a'.size E' u cs0]) hc' (λi hi=>ho i (by simpa [Uc]using hi)) (by simp[S.add,hlen]) (by rw[hLF];simp only[Ni,hg];simp);refine⟨.arr E' a' x1::its,by rw[h1];simp[S.add],by simp[Ni,h2], .cons ⟨rfl,λcs hcs=>?_⟩ h3,λq b m hq hm=>?_⟩
      ·obtain⟨z,E2,v2,c2,k1,k2⟩:=hcs;rw[g1]at k1;cases k1;refine⟨a'.size,E',u,cs0,?_,k2⟩;rw[hLF,S.new,<-hlen];simp only[Ni,hg];simp
      ·cases q with
       |zero=>
        simp only[Ni,hg]at hq hm;simp at hq hm;subst hq hm;exact⟨rfl,rfl,g2.mono λx c h=>Az.step hb (λ_ _=>rfl) h⟩
       |succ q=>exact h4 q b m (by simpa using hq) (by simpa [Ni]using hm)
     ·cases hc
    ·cases hc
  cases ls with
  |nil=>
   obtain⟨v,rfl,hx⟩:=sj hp;exact main v [] x (λs1=>([],s1)) rfl hx (ZJ p x s0) (λis s1 Lx _ _ hlen hLF=>⟨[],Axl,rfl,All2.nil,λi a m h=>by simp at h⟩)
  |cons q r=>
   obtain⟨v,vs',x1,y',rfl,rfl,hx,hy⟩:=Q3 hp;exact main v vs' x1 (λs1=>Fw (q::r) y' s1) rfl hx (TJ p q r x1 y' s0)
    (λis s1 Lx hc ho hlen hLF=>R9 hr hb (q::r) vs' y' is s1 Lx LF hy hc ho hlen hLF)
theorem ou:∀(a b:List PV),owns.go (a++b)=owns.go a++owns.go b
 |[],b=>rfl
 |x::a,b=>by simp[owns.go,ou a b]
mutual
theorem Ab4:∀{sh:Sh} {p:PV} {ls:List PV},Wq sh p=some ls->owns.go ls=owns p
 | .lf e o,p,ls,h=>by simp only[Wq,Aa6]at h;subst h;simp[owns.go]
 | .agg l,p,ls,h=>by cases p<;>simp only[Wq,reduceCtorEq]at h;exact mU h
theorem mU:∀{l:List Sh} {ps ls:List PV},Wq.go l ps=some ls->owns.go ls=owns.go ps
 |[],[],ls,h=>by simp only[Wq.go,Aa6]at h;subst h;rfl
 |a::l,p::ps,ls,h=>by
  simp only[Wq.go]at h;split at h
  ·rename_i x y hx hy;cases h;rw[ou,Ab4 hx,mU hy];rfl
  ·cases h
 |[],_::_,_,h=>by simp[Wq.go]at h
 |_::_,[],_,h=>by simp[Wq.go]at h
end
structure KeepN (N:Reg) (w w':World):Prop where
 same:∀b,b<w.heap.size->N b->w'.heap[b]? =w.heap[b]?
 gr:Gr w w'
def GlOk(gl:List (Nat×List Value))(N:Reg)(w:World):Prop:=∀p∈gl,p.1<w.heap.size/\N p.1/\∃T fr,w.heap[p.1]? =some (.cells p.2.toArray T fr)
def Apz(gl:List (Nat×List Value))(R N:Reg)(w w':World)(rs:List Sh)(y:NZ (Yr rs))(us:List Value):Prop:=
 KeepN N w w'/\∃(A1:Reg) (L1:List MD),(∀b,A1 b-> (¬N b\/w.heap.size<=b)/\b<w'.heap.size)/\Dp w' (λb=>A1 b\/ (b<w.heap.size/\N b)) (L1.map MD.Jy)/\
  ∀(s:S) (L:List MD) (B':Reg),L.length=s.it.length-> (∀b,A1 b->B' b)-> (Ao4 rs=true->∀b,(R b/\N b)\/ (∃p∈gl,p.1=b)->B' b)->
   ∃ps its,(Fw (Yr rs) y s).2=⟨s.sl,s.it++its,s.st⟩/\fC rs (Fw (Yr rs) y s).1=some ps/\Es B' w' (L++L1) ps us/\its.length=L1.length/\
   ∀(i:Nat) (a:Item) (m:MD),its[i]? =some a->L1[i]? =some m->Zp B' w' (L++L1) a m
structure ConOk (P:Program) (gl:List (Nat×List Value)) (f:Nat) (c:Con):Prop where
 ent:Ent P f
 ok:∀(R N:Reg) (w:World) (L0:List MD) (vs:List Value) (ps:List PV) (x:NZ (Yr c.ps)) (y:NZ (Yr c.rs)),args c.ps x=some ps-> (Aaz c.ps x).length=L0.length->
  (∀(i:Nat) (a:Item) (m:MD),(Aaz c.ps x)[i]? =some a->L0[i]? =some m->Zp (λb=>R b/\N b) w L0 a m)->Dp w N (L0.map MD.Jy)->Es (λb=>R b/\N b) w L0 ps vs->GlOk gl N w->c.fn x=some y->
  Calls P f vs.toArray w λe w'=>∃us,e= .returned (OT us)/\Apz gl R N w w' c.rs y us
end Go.Rx
namespace Go.Rx
open Go Go.Lv
variable{g:Operand}{G:Prop}
variable {P:Program} {B B':Reg} {w w':World} {L L':List MD} {s:S} {σs:List Env} {σ:Env} {Z:Fix} {A A':Reg} {n:Nat} {ops:Array Oper}
variable {R:Type} {k:S->Option R} {r:R} {d:Option Nat} {ty:TypeId} {pos:String} {after:Array Edge} {T:Tab} {inl:X8 R}
def WY(P:Program)(gl:List (Nat×List Value))(inl:X8 R):Prop:=∀(Z:Fix),Z.gl=gl->∀(f:Nat) (as:List PV) (s:S) (k:S->PV->Option R) (r:R) (σs:List Env) (A:Reg) (L:List MD) (σ:Env) (w:World) (vs:List Value),
 inl f as s k=some r->Rel Z s σs A L σ w->Es (λb=>A b/\Z.R b) w L as vs->Ent P f/\Calls P f vs.toArray w λe w'=>∃v p s' A' L',e= .returned v/\k s' p=some r/\Rel Z s' σs A' L' σ w'/\p.isV=true/\Fs (λb=>A' b/\Z.R b) w' L' p v
def bW(P:Program)(T:Tab):Prop:=∀f c,T.get f=some c->ConOk P T.gl f c
def jU(P:Program)(T:Tab)(Z:Fix):Prop:=bW P T/\Z.gl=T.gl
theorem Es.step{q:List PV}{vs:List Value}(hb:∀b,B b->B' b)(hs:Same B w w')(hl:dY L L')(h:Es B w L q vs):Es B' w' L' q vs:=Bj.vH hb hs hl h
theorem Es.append:∀{p q:List PV} {us vs:List Value},Es B w L p us->Es B w L q vs->Es B w L (p++q) (us++vs)
 |[],q,us,vs,h,h'=>by rw[show us=[]from h];exact h'
 |a::p,q,us,vs,⟨v,us',e,h1,h2⟩,h'=>⟨v,us'++vs,by rw[e];rfl,h1,Es.append h2 h'⟩
theorem zw{ps:List PV}{us:List Value}(h:Es B w L ps us):(ru ps).isV=true/\Fs B w L (ru ps) (OT us):=by
 match ps,us,h with
 |[],us,h=>rw[show us=[]from h];exact⟨rfl,[],rfl,rfl⟩
 |[p],us,⟨v,us',e,h1,h2⟩=>
  rw[show us'=[]from h2]at e;subst e;exact Lh h1
 |p::q::r,us,h=>
  obtain⟨v,us',e,h1,v2,us2,e2,h2,h3⟩:=h;subst e2 e;exact⟨rfl,v::v2::us2,rfl,v,_,rfl,h1,v2,us2,rfl,h2,h3⟩
theorem Rel.Ahs{w':World}{A1 BX:Reg}{L1:List MD}{its:List Item}(hr:Rel Z s σs A L σ w)(hBX:∀b,BX b-> ¬A b/\b<w.heap.size)(hY:Dp w (λb=>A b\/BX b) (L.map MD.Jy))
  (hk:KeepN (λb=>¬BX b) w w') (hA1:∀b,A1 b-> (¬ ¬BX b\/w.heap.size<=b)/\b<w'.heap.size)
  (hm:Dp w' (λb=>A1 b\/ (b<w.heap.size/\ ¬BX b)) (L1.map MD.Jy)) (hlen:its.length=L1.length)
  (hit:∀(i:Nat) (a:Item) (m:MD),its[i]? =some a->L1[i]? =some m->Zp (λb=>(A b\/A1 b)/\Z.R b) w' (L++L1) a m):
  Rel Z ⟨s.sl,s.it++its,s.st⟩ σs (λb=>A b\/A1 b) (L++L1) σ w':=by
 have hlt:=St.lt hr;have hsame:Same A w w':=λb hb=>hk.same b (hlt b hb) λh=>(hBX b h).1 hb;have hmem:MemR (λb=>A b/\Z.R b) w' L s σs σ:=Fact.step _ (hr.fact 0 (f:=oC Z.R L s σs σ) rfl) (λ_ h=>h) hsame hk.gr;have hold:(Fact.old Z.M Z.w0).holds A w':=Fact.step _ (hr.fact 1 (f:= .old Z.M Z.w0) rfl) (λ_ h=>h) hsame hk.gr;have hl:=dY.append L L1;have hst:St (λb=>A b\/A1 b) w' [.old Z.M Z.w0] (L1.map MD.Jy++L.map MD.Jy):=by
  refine⟨λb hb=>hb.elim (λh=>Apy (hlt b h) hk.gr.le) (λh=>(hA1 b h).2),λf hf=>?_,?_⟩
  ·cases hf with
   |head=>exact Fact.step _ hold (λ_ h=> .inl h) (λ_ _=>rfl) (.refl _)
   |tail _ h=>cases h
  ·refine Dp.append (λb=>b<w.heap.size/\ ¬BX b) (λb hb=>Apy hb.1 hk.gr.le) (hm.EL ?_) ?_
   ·rintro b ((h|h)|h)
    ·exact .inr ⟨hlt b h,λhx=>(hBX b hx).1 h⟩
    ·exact .inl h
    ·exact .inr h
   ·refine(hY.lt.step hk.gr.le λb hb hn=>hk.same b hb λh=>hn (.inl (.inr h))).EL ?_;rintro b ((h|h)|h)
    ·exact .inl (.inl h)
    ·rcases(hA1 b h).1 with h|h
     ·exact .inl (.inr (Classical.not_not.1 h))
     ·exact .inr h
    ·by_cases hx:BX b
     ·exact .inl (.inr hx)
     ·exact .inr (Nat.le_of_not_lt λhl=>h ⟨hl,hx⟩)
 have hb:∀b,A b/\Z.R b-> (A b\/A1 b)/\Z.R b:=λb h=>⟨.inl h.1,h.2⟩;refine Rel.as (Dp.jL hst List.perm_append_comm) (i:=0) rfl ⟨⟨?_,?_⟩,hmem.sl.step hb (λ_ _=>rfl) hl,hmem.stk.step hb (λ_ _=>rfl) hl⟩ (by rw[Aw9])
 ·simp[hmem.it.1,hlen]
 ·intro i a m g1 g2;simp only at g1;rcases Awv i s.it.length with hi|hi
  ·rw[List.getElem?_append_left hi]at g1;rw[List.getElem?_append_left (by rw[<-hmem.it.1];exact hi)]at g2;exact(hmem.it.2 i a m g1 g2).step hb (λ_ _=>rfl) hl
  ·rw[List.getElem?_append_right hi]at g1;rw[List.getElem?_append_right (by rw[<-hmem.it.1];exact hi)]at g2;rw[hmem.it.1]at g1;exact hit _ a m g1 g2
theorem Dp.split:∀{X Y:List Mob} {A:Reg},Dp w A (X++Y)->∃BX:Reg,(∀b,BX b-> ¬A b/\b<w.heap.size)/\Dp w (λb=>¬BX b) X/\Dp w (λb=>A b\/BX b) Y
 |[],Y,A,h=>⟨λ_=>False,λb hb=>hb.elim,trivial,h.EL λb hb=>hb.elim id λh=>h.elim⟩
 |m::X,Y,A,⟨o,h1,h2,h3⟩=>by
  obtain⟨BX,g1,g2,g3⟩:=Dp.split h3;refine⟨λb=>BX b\/o=some b,λb hb=>?_,⟨o,h1,λb hb=>⟨λh=>h (.inr hb),(h2 b hb).2⟩,g2.EL ?_⟩,g3.EL ?_⟩
  ·rcases hb with hb|hb
   ·exact⟨λh=>(g1 b hb).1 (.inl h),(g1 b hb).2⟩
   ·exact h2 b hb
  ·rintro b (hb|hb)
   ·exact λh=>hb (.inl h)
   ·exact λh=>(g1 b h).1 (.inr hb)
  ·rintro b (hb|hb|hb)
   ·exact .inl (.inl hb)
   ·exact .inr hb
   ·exact .inl (.inr hb)
theorem Dp.Ass:∀{Y:List Mob} {A:Reg} {i:Nat} {m:Mob},Dp w A Y->Y[i]? =some m->∃o,m.holds o w/\∀b,o=some b-> ¬A b
 |_::_,A,0,m,⟨o,h1,h2,_⟩,h=>⟨o,by simp at h;exact h▸h1,λb hb=>(h2 b hb).1⟩
 |_::Y,A,i+1,m,⟨o,_,_,h3⟩,h=>by
  obtain⟨q,g1,g2⟩:=Dp.Ass h3 (i:=i) (by simpa using h);exact⟨q,g1,λb hb hA=>g2 b hb (.inl hA)⟩
theorem Aam{w:World}:MD.dead.Jy.holds none w:=⟨none,0,0,rfl,Axl,Apn _,λ_=>rfl,λ_=>rfl,λb h=>by cases h⟩
theorem BZ{i:Nat}:∀{l:List Nat},Zn i l=true↔i∈l
 |[]=>by simp[Zn]
 |j::l=>by
  simp only[Zn,Ash,List.mem_cons,BZ (l:=l)];exact or_congr ⟨Da,λh=>by subst h;simp⟩ Iff.rfl
theorem sX{f:Item->Item}(hf:f .dead= .dead):∀{l:List Item} {i:Nat},Cx (l.map f) i=f (Cx l i)
 |[],_=>by simp[Cx,hf]
 |_::_,0=>rfl
 |_::r,i+1=>by simpa [Cx]using sX hf (l:=r) (i:=i)
theorem iH:∀{l:List Item} {i j:Nat},Cx l i= .dead->Cx (ES l j .dead) i= .dead
 |[],_,_,h=>by simpa [ES]using h
 |_::_,0,0,_=>rfl
 |_::_,0,j+1,h=>by simpa [ES,Cx]using h
 |_::_,i+1,0,h=>by simpa [ES,Cx]using h
 |_::r,i+1,j+1,h=>by simpa [ES,Cx]using iH (l:=r) (i:=i) (j:=j) (by simpa [Cx]using h)
theorem eT:∀{l:List Item} {i:Nat},Cx (ES l i .dead) i= .dead
 |[],_=>rfl
 |_::_,0=>rfl
 |_::r,i+1=>by simpa [ES,Cx]using eT (l:=r) (i:=i)
theorem D1{i:Nat}:∀{is:List Nat} {s s':S},Cx s.it i= .dead->s.vU is=some s'->Zn i is=false
 |[],_,_,_,_=>rfl
 |j::is,s,s',hd,h=>by
  simp only[S.vU]at h;split at h
  ·rename_i s1 h1;unfold S.kill at h1;split at h1
   ·rename_i E e l hj;cases h1;have hij:Nat.beq i j=false:=by
     cases hb:Nat.beq i j with
     |false=>rfl
     |true=>rw[Da hb]at hd;rw[hd]at hj;cases hj
    have:Cx ((s.Xy j .dead).sub j .any).it i= .dead:=by
     show Cx ((ES s.it j .dead).map _) i=_;rw[sX rfl,iH hd];rfl
    simp[Zn,hij,D1 this h]
   ·cases h1
  ·cases h
theorem zh:∀{is:List Nat} {s s':S} {L:List MD},MemR B w L s σs σ-> (∀(i z:Nat) (E:TypeId) (v:Value) (c:List Value),L[i]? =some (.own z E v c)->v.oneCell'=true)->s.vU is=some s'->
  ∃L',MemR B w L' s' σs σ/\ (is=[]->L'=L)/\ (∀j,Zn j is=false->L'[j]? =L[j]?)/\∀(A:Reg) (X:List Mob),Dp w A (X++L.map MD.Jy)->Dp w A (X++(is.map λi=>(L.getD i .dead).Jy)++L'.map MD.Jy)
 |[],s,s',L,hm,_,h=>by
  simp only[S.vU,Aa6]at h;subst h;exact⟨L,hm,λ_=>rfl,λ_ _=>rfl,λA X hX=>by simpa using hX⟩
 |i::is,s,s',L,hm,hone,h=>by
  simp only[S.vU]at h;split at h
  ·rename_i s1 h1;unfold S.kill at h1;split at h1
   ·rename_i E e l hi;cases h1;obtain⟨v,cs,hL,_⟩:=hm.arr hi;have hf:Frz B w L i .any:=⟨λz E' u c h=>⟨u,rfl,by rw[hL]at h;cases h;exact hone _ _ _ _ _ hL⟩,rfl,rfl⟩;have hm2:=hm.subst hf;have hlt:=(List.getElem?_eq_some_iff.1 hL).1;obtain⟨L',g1,g2,g3,g4⟩:=zh hm2 (λj z E v c hj=>by
     by_cases hji:j=i
     ·subst hji;rw[List.getElem?_set_self hlt]at hj;cases hj
     ·rw[List.getElem?_set_ne (Axe hji)]at hj;exact hone _ _ _ _ _ hj) h
    refine⟨L',g1,(λe=>by cases e),λj hj=>?_,λA X hX=>?_⟩
    ·simp only[Zn,Av8]at hj;rw[g3 j hj.2,List.getElem?_set_ne (λe=>by subst e;simp at hj)]
    ·have kL:(L.map MD.Jy)[i]? =some (L.getD i .dead).Jy:=by simp[hL,List.getD_eq_getElem?_getD]
     have hX1:Dp w A (MD.dead.Jy::(L.map MD.Jy).eraseIdx i++(X++[(L.getD i .dead).Jy])):=by
      have h1:Dp w A (MD.dead.Jy::(X++L.map MD.Jy)):=⟨none,Aam,λb hb=>(by cases hb),hX.EL λb hb=>hb.elim id λh=>by cases h⟩;refine h1.perm (.cons _ ?_);have hp:=(nB kL).symm;refine(List.Perm.append_left X hp).trans ?_;rw[show X++(L.getD i .dead).Jy::(L.map MD.Jy).eraseIdx i=(X++[(L.getD i .dead).Jy])++(L.map MD.Jy).eraseIdx i by simp];exact List.perm_append_comm
     have hX2:Dp w A ((X++[(L.getD i .dead).Jy])++(L.set i .dead).map MD.Jy):=by
      refine hX1.perm (List.perm_append_comm.trans (List.Perm.append_left _ ?_));rw[List.map_set];exact XV kL
     have:=g4 A _ hX2;have hni:Zn i is=false:=D1 (s:=(s.Xy i .dead).sub i .any) (by
      show Cx ((ES s.it i .dead).map _) i=_;rw[sX rfl,eT];rfl) h
     have he:(is.map λj=>((L.set i .dead).getD j .dead).Jy)=is.map λj=>(L.getD j .dead).Jy:=by
      refine Awy λj hj=>?_;have:j≠i:=λe=>by
       subst e;rw[BZ.2 hj]at hni;cases hni
      simp only[List.getD_eq_getElem?_getD,List.getElem?_set_ne (Axe this)]
     rw[he]at this;simpa using this
   ·cases h1
  ·cases h
theorem Az.noL:∀{e:ET} {x:e.T} {cs:List Value},e.H4=false->Az B w e x cs->Az B' w' e x cs
 | .int k,x,cs,_,h=>h
 | .bool,x,cs,_,h=>h
 | .str,x,cs,_,h=>h
 | .list e,l,cs,hL,h=>by cases hL
 | .vec m e,l,cs,hL,⟨h1,h2⟩=>⟨h1,h2.mono λx c h=>Az.noL (e:=e) hL h⟩
 | .cons a q,x,cs,hL,⟨c1,c2,e,h1,h2⟩=>by
  simp only[ET.H4,Av8]at hL;exact⟨c1,c2,e,Az.noL hL.1 h1,Az.noL hL.2 h2⟩
 | .nil,_,cs,_,h=>h
theorem zG:∀{ls:List (ET×Option TypeId)} {vs:List PV},owns.go vs=[]->Uc ls vs=[]
 |[],_,_=>by unfold Uc;rfl
 |_::_,[],_=>by unfold Uc;rfl
 |(e,o)::ls,v::vs,h=>by
  simp only[owns.go,List.append_eq_nil_iff]at h;cases o<;>simp[Uc,h.1,zG h.2]
theorem Rel.out(hr:Rel Z s σs A L σ w){b:Nat}(hb:¬A b):Z.R b:=by
 rcases Awv b Z.w0.heap.size with hlt|hge
 ·have hold:=(hr.fact 1 (f:= .old Z.M Z.w0) rfl).2 b hlt;exact Z.mod b (Classical.byContradiction λhM=>hb (hold hM).1)
 ·exact Z.new b hge
theorem Aj4{f:Nat}{fs:List PV}{as:Array Operand}{ts:Array TypeId}{dn:Nat}(hT:jU P T Z)(hI:WY P T.gl inl)(hr0:Rel Z s σs A L σ w)(hg:Ei s.sl g= .bfn f fs)
  (hd:Kn n ⟨some dn, .call ⟨.value g,as,ts⟩,ty,pos,after,none⟩=true) (hP:D8 (as.toList.map (Ei s.sl))=true) (h:inl f (fs++as.toList.map (Ei s.sl)) s (λs v=>k (s.Gt (some dn) v))=some r) (hG:¬G):
  AI P n ops ⟨some dn, .call ⟨.value g,as,ts⟩,ty,pos,after,none⟩ Z s σs k r G A L σ w:=by
 obtain⟨fvs,hgv,hfs⟩:∃vs:List Value,ev σ g= .func (.func f) vs.toArray #[]/\Es (λb=>A b/\Z.R b) w L fs vs:=by
  obtain⟨vs,h1,h2⟩:=Dh hr0.mem.sl hg rfl;exact⟨vs,by simpa using h1,h2⟩
 have hpv:=Es.append hfs (iY hr0.mem.sl _ hP);obtain⟨he,hcall⟩:=hI Z hT.2 f _ s _ r σs A L σ w _ h hr0 hpv;have hxe:XE P σ w (.call ⟨.value g,as,ts⟩) f (fvs++as.toList.map (ev σ)).toArray:=λ_ _ _ _ _=>by
  have h1:(callFunc f (fvs.toArray++as.map (ev σ))).run P w= .ok (.enter f (fvs.toArray++as.map (ev σ))) w:=he _ w;have h2:(fvs++as.toList.map (ev σ)).toArray=fvs.toArray++as.map (ev σ):=by apply Array.ext';simp
  rw[h2];simp[execOp,resolve,hgv,Deferred.ofValue,invoke,h1]
 refine WL.e (SQ hd) hxe hcall ?_;rintro e w' ⟨v,p,s',A',L',rfl,hk,hr',hv,hv'⟩;exact⟨_,rfl,WL.nil ⟨_,A',L',hk,hr'.Gt (d:=some dn) hv hv',λgg=>absurd gg hG⟩⟩
theorem Anq{f:Nat}{caps:List PV}{as:Array Operand}{ts:Array TypeId}{dn:Nat}(hT:jU P T Z)(hI:WY P T.gl inl)(hr0:Rel Z s σs A L σ w)(hg:Ei s.sl g= .fn f caps)
  (hd:Kn n ⟨some dn, .call ⟨.value g,as,ts⟩,ty,pos,after,none⟩=true) (h:Ac7 P T inl s (some dn) f caps as.toList k=some r)
  (hG:G->∃c,T.get f=some c/\N2 (Yr c.ps)=true/\ (zF c=false\/owns.go (as.toList.map (Ei s.sl))=[])):
  AI P n ops ⟨some dn, .call ⟨.value g,as,ts⟩,ty,pos,after,none⟩ Z s σs k r G A L σ w:=by
 obtain⟨cvs,hgv,Ap9⟩:=Amz (Dh hr0.mem.sl hg rfl);have has:as=as.toList.toArray:=by simp
 have hxe:Ent P f->XE P σ w (.call ⟨.value g,as,ts⟩) f (as.toList.map (ev σ)++cvs).toArray:=λhe=>by
  have:=X.Atf (P:=P) (σ:=σ) (w:=w) (args:=as.toList) (ts:=ts) he hgv rfl;rw[<-has]at this;exact this
 unfold Ac7 at h;split at h
 ·rename_i c hc;have hcon:=hT.1 f c hc;split at h
  ·have hc0:cvs=[]:=Ap9;subst hc0;split at h
   ·cases h
   ·rename_i ls0 Auf;split at h
    ·cases h
    ·rename_i s1 hs1;obtain⟨A1,L1,hr,hsame⟩:∃A1 L1,Rel Z s1 σs A1 L1 σ w/\ (G->s1=s/\A1=A/\L1=L):=by
      split at hs1
      ·rename_i hro;obtain⟨A1,L1,h1,h2⟩:=Rp hr0 hs1;refine⟨A1,L1,h1,λg=>h2 ?_⟩;obtain⟨c',hc',_,h3⟩:=hG g;rw[hc]at hc';cases hc';rcases h3 with h3|h3
       ·rw[hro]at h3;cases h3
       ·exact zG (by rw[mU Auf];exact h3)
      ·cases hs1;exact⟨A,L,hr0,λ_=>⟨rfl,rfl,rfl⟩⟩
     cases hP:D8 (as.toList.map (Ei s1.sl))with
     |false=>rw[hP]at h;cases h
     |true=>
     rw[hP]at h;simp only[Awo,Axh]at h;try dsimp only[Df]at h
     split at h
     ·cases h
     ·rename_i ls hls;cases Al5:(zF c&& !(Uc (Yr c.ps) ls).isEmpty)with
      |true=>rw[Al5]at h;cases h
      |false=>
      rw[Al5]at h;dsimp only[Df,cond]at h;split at h
      ·cases h
      ·rename_i x hx;split at h
       ·cases h
       ·rename_i is his;cases Ar9:(!((Uc (Yr c.ps) ls).all λi=>!Zn i is))with
        |true=>rw[Ar9]at h;cases h
        |false=>
        rw[Ar9]at h;dsimp only[Df,cond]at h;split at h
        ·cases h
        ·rename_i s2 hs2;obtain⟨y,hy,h⟩:=bind_some h;change (match fC c.rs (Fw (Yr c.rs) y s2).1 with|some vs=>k ((Fw (Yr c.rs) y s2).2.Gt (some dn) (ru vs))|none=>none)=some r at h;have hpv:=iY hr.mem.sl _ hP;have hone:∀(i z:Nat) (E:TypeId) (v:Value) (c:List Value),L1[i]? =some (.own z E v c)->v.oneCell'=true:=λi z E v c hi=>by
          obtain⟨p,len,cap,rfl,_⟩:=hr.Ua hi;rfl
         obtain⟨L2,hm2,hnil,hget,Aug⟩:=zh hr.mem hone hs2;obtain⟨BX,hBX,hX,hY⟩:=Dp.split (Aug A1 [] (by simpa using St.mobs hr));have hr2:Rel Z s2 σs A1 L2 σ w:=Rel.as (h:=(⟨St.lt hr,hr.facts,hY.EL λ_ h=> .inl h⟩:St A1 w _ (L2.map MD.Jy))) (i:=1) rfl hm2 rfl;have hL0:Dp w (λb=>¬BX b) ((Ni L1 (Yr c.ps) ls).map MD.Jy):=oE (N:=λ_=>True) his (by simpa using hX);have key:∀R0:Reg,(∀b,A1 b/\Z.R b->R0 b)-> (Uc (Yr c.ps) ls=[]\/∀b,R0 b)-> (zF c=true->∀b,R0 b->A1 b/\Z.R b)->
           AI P n ops ⟨some dn, .call ⟨.value g,as,ts⟩,ty,pos,after,none⟩ Z s σs k r G A L σ w:=by
          intro R0 h1 h2 h3;have hb1:∀b,A1 b/\Z.R b->R0 b/\ ¬BX b:=λb hb=>⟨h1 b hb,λhx=>(hBX b hx).1 hb.1⟩;obtain⟨Avq,e1,e2,e3,e4⟩:=R9 (B1:=λb=>R0 b/\ ¬BX b) hr hb1 (Yr c.ps) ls x is ⟨[],[],[]⟩ [] (Ni L1 (Yr c.ps) ls) hx his (λi hi z E v cc hLi=>by
           rcases h2 with h2|h2
           ·rw[h2]at hi;cases hi
           ·have hni:Zn i is=false:=by
             have:=Ar9;simp only[Bool.not_eq_false',List.all_eq_true,Ap1]at this;exact this i hi
            have Avr:=(hget i hni).trans hLi;obtain⟨o,g1,g2⟩:=Dp.Ass hY (hr2.Jy Avr);exact(Go.Lv.Ua g1).step (λb hb=>⟨h2 b,λhx=>g2 b hb (.inr hx)⟩) (λ_ _=>rfl)) rfl rfl
          obtain⟨ps,h5,h6⟩:=qT hls hpv e3;have Apg:Aaz c.ps x=Avq:=by unfold Aaz;rw[e1];rfl
          have hcall:=hcon.ok R0 (λb=>¬BX b) w _ _ ps x y h5 (by rw[Apg];exact e2) (by rw[Apg];exact e4) hL0 h6 (λp hp=>by
           obtain⟨hA,T1,fr,hh⟩:=hr.Ai0 (hT.2▸hp);exact⟨lt_of_heap hh,λhx=>(hBX _ hx).1 hA.1,T1,fr,hh⟩) hy
          have hxe':=hxe hcon.ent;rw[Ap8]at hxe';refine WL.e (SQ hd) hxe' hcall ?_;rintro e w' ⟨us,rfl,hk,A2,LL,hA2,hm3,hres⟩;refine⟨_,rfl,WL.nil ?_⟩;have hnew:∀b,A2 b->Z.R b:=λb hb=>by
           rcases(hA2 b hb).1 with h7|h7
           ·exact hr.out (hBX b (Classical.not_not.1 h7)).1
           ·refine Z.new b ?_;have h8:Z.w0.heap.size<=w.heap.size:=(hr.fact 1 (f:= .old Z.M Z.w0) rfl).1.le;omega
          obtain⟨ps',its,g1,g2,g3,g4,g5⟩:=hres s2 L2 (λb=>(A1 b\/A2 b)/\Z.R b) hr2.len.symm (λb hb=>⟨.inr hb,hnew b hb⟩) (λhro b hb=>by
           rcases hb with hb|⟨p,hp,rfl⟩
           ·exact⟨.inl (h3 hro b hb.1).1,(h3 hro b hb.1).2⟩
           ·exact⟨.inl (hr.Ai0 (hT.2▸hp)).1.1,(hr.Ai0 (hT.2▸hp)).1.2⟩)
          have hr':=Rel.Ahs hr2 hBX hY hk hA2 hm3 g4 g5;obtain⟨hv,hv'⟩:=zw g3;rw[g2]at h;refine⟨_,λb=>A1 b\/A2 b,L2++LL,h,?_,λgg=>?_⟩
          ·rw[g1];exact hr'.Gt (d:=some dn) hv hv'
          ·obtain⟨e1',e2',e3'⟩:=hsame gg;obtain⟨c',hc',hno,_⟩:=hG gg;rw[hc]at hc';cases hc';have Avt:=rD hno his;subst Avt;have Avu:s1=s2:=by simpa [S.vU]using hs2
           have Avv:=hnil rfl;subst Avu Avv e1' e2' e3';rw[g1];exact⟨λb hb=> .inl hb,λb hb=>hk.same b (St.lt hr b hb) λhx=>(hBX b hx).1 hb,⟨LL,rfl⟩,⟨its,rfl⟩⟩
         cases hro':zF c with
         |true=>
          refine key (λb=>A1 b/\Z.R b) (λ_ h=>h) (.inl ?_) (λ_ _ h=>h);rw[hro']at Al5;simp only[Avi,Bool.not_eq_false']at Al5;exact isEmpty_nil Al5
         |false=>exact key (λ_=>True) (λ_ _=>trivial) (.inr λ_=>trivial) (λh=>by rw[hro']at h;cases h)
  ·cases h
 ·rename_i hn;obtain⟨hP,h⟩:=Bb h;have hpv:=Es.append (iY hr0.mem.sl _ hP) Ap9;obtain⟨he,hcall⟩:=hI Z hT.2 f _ s _ r σs A L σ w _ h hr0 hpv;refine WL.e (SQ hd) (hxe he) hcall ?_;rintro e w' ⟨v,p,s',A',L',rfl,hk,hr',hv,hv'⟩;refine⟨_,rfl,WL.nil ⟨_,A',L',hk,hr'.Gt (d:=some dn) hv hv',λgg=>?_⟩⟩;obtain⟨c,hc,_⟩:=hG gg;rw[hn]at hc;cases hc
end Go.Rx
namespace Go.Rx
open Go Go.Lv
variable{o:BinOp}{e:ET}{x y:Operand}{v:PV}{G:Prop}{vy:Value}
variable {P:Program} {B B':Reg} {w w':World} {L L':List MD} {s:S} {σs:List Env} {σ:Env} {Z:Fix} {A A':Reg} {n:Nat} {ops:Array Oper}
variable {R:Type} {k:S->Option R} {r:R} {d:Option Nat} {ty:TypeId} {pos:String} {after:Array Edge} {T:Tab} {inl:X8 R}
theorem VG{l:List Oper}{K K':Env->World->Prop}(h:WL P n ops l K σ w)(hk:∀σ w,K σ w->K' σ w):WL P n ops l K' σ w:=by
 have:=WL.cut (rest:=[]) K l h (λσ w h=>WL.nil (hk σ w h));rwa [Ap8]at this
theorem look_ok{a:UInt8}{z:PV}{kk:PV->Option R}:∀{es:List MapEntry} {ks:List UInt8} {vs:List PV} {i:Nat},es.map (·.key)=ks.map (λk=>iv (T:=UInt8) (k:= .u8) k)->Es B w L vs (es.map (·.val))->lkC a kk z ks vs=some r->
  ∃res,Instr.findNow (.int .u8) (iv (T:=UInt8) (k:= .u8) a) es i=some res/\match res with
   |some (_,v)=>∃p:PV,asV p.isA (Bj B w L p) v/\kk (.tup [p, .b true])=some r
   |none=>kk (.tup [z, .b false])=some r
 |[],[],[],i,_,_,h=>⟨none,rfl,h⟩
 |[],[],_::_,i,_,⟨_,_,e,_⟩,h=>by cases e
 |[],_::_,_,i,h,_,_=>by cases h
 |_::_,[],_,i,h,_,_=>by cases h
 |e::es,q::ks,[],i,_,h,_=>by cases h
 |e::es,q::ks,p::vs,i,hk,⟨v,vs',hv,h1,h2⟩,h=>by
  simp only[Auo,Aw7]at hk hv;obtain⟨hk1,hk2⟩:=hk;obtain⟨rfl,rfl⟩:=hv;have hs:Instr.sameNow (.int .u8) (iv (T:=UInt8) (k:= .u8) a) e.key=some (geq a q):=by
   rw[hk1];rfl
  unfold lkC at h;cases hb:geq a q with
  |true=>
   rw[hb,Aa4 rfl]at h;exact⟨some (i,e.val),by simp only[Instr.findNow,hs,hb],p,h1,h⟩
  |false=>
   rw[hb,Aa2 Axl]at h;obtain⟨res,g1,g2⟩:=look_ok (i:=i+1) hk2 h2 h;exact⟨res,by simp only[Instr.findNow,hs,hb];exact g1,g2⟩
theorem Afu{t:TypeId}{ix:Operand}{dn:Nat}(hr:Rel Z s σs A L σ w)(hd:Kn n ⟨some dn, .lookup t x ix true,ty,pos,after,none⟩=true)(h:Acb P s dn t x ix k=some r):
  AI P n ops ⟨some dn, .lookup t x ix true,ty,pos,after,none⟩ Z s σs k r G A L σ w:=by
 have hm:=hr.mem;unfold Acb at h;split at h
 ·rename_i ks vs e a kt et hx hix ht;split at h
  ·rename_i a' hkt;split at h
   ·rename_i inf Tn;split at h
    ·rename_i hz;obtain⟨rr,es,c,h1,h2,h3,h4,h5⟩:=Dh hm.sl hx rfl;have hxv:ev σ x= .map (some rr):=by simpa using h1
     have hiv:ev σ ix=iv (T:=UInt8) (k:= .u8) a':=LW (Dh hm.sl hix rfl);obtain⟨res,g1,g2⟩:=look_ok (i:=0) h4 h5 h;have hzr:(zeroValue et).run P w= .ok .nilFunc w:=by simp[zeroValue,typeInfo,Tn,hz]
     have hck:(Instr.checkKey es.isEmpty 10000 kt (iv (T:=UInt8) (k:= .u8) a')).run P w= .ok () w:=MapKept.run_checkKey hkt (show MapKept.IsKey (.int .u8) (.int .u8 _)from rfl) _ 9999;have hfk:=MapKept.run_findKey (P:=P) (w:=w) hkt g1;have hgo:=MapKept.run_getObj_map (P:=P) h3;cases res with
     |none=>
      refine Ed (p:= .tup [.cst .nilFunc, .b false]) (val:= .tuple #[.nilFunc, .bool false]) (d:=some dn) hr hd (λ_ _ _ _ _=>?_) rfl ?_ g2
      ·simp[execOp,hxv,hiv,Instr.lookup,Ahy ht,hgo,hck,hfk,hzr,Result.andThen]
      ·exact⟨[.nilFunc, .bool false],rfl, .nilFunc,[.bool false],rfl,⟨rfl,rfl⟩,_,[],rfl,rfl,rfl⟩
     |some q=>
      obtain⟨j,v⟩:=q;obtain⟨p,k1,k2⟩:=g2;refine Ed (p:= .tup [p, .b true]) (val:= .tuple #[v, .bool true]) (d:=some dn) hr hd (λ_ _ _ _ _=>?_) rfl ?_ k2
      ·simp[execOp,hxv,hiv,Instr.lookup,Ahy ht,hgo,hck,hfk,Result.andThen]
      ·exact⟨[v, .bool true],rfl,v,[.bool true],rfl,k1,_,[],rfl,rfl,rfl⟩
    ·cases h
   ·cases h
  ·cases h
 ·cases h
theorem M4{cs:Array Value}(h:mL P ty (.agg cs)=some v)(hA:v.isA=true):v.isV=true/\Fs B w L v (.agg cs):=by
 have h1:=mD (B:=B) (w:=w) (L:=L) h;have h2:Ih B w L v (.agg cs):=by
  unfold Ih;rw[hA];exact⟨cs.toList,Axl,h1⟩
 exact Lh h2
theorem Z0{a:Option R}:∀{l:List (Option R)},both a l=some r->a=some r/\∀b∈l,b=some r
 |[],h=>⟨h,Axl⟩
 |b::l,h=>by
  unfold both at h;split at h
  ·rename_i hab;obtain⟨h1,h2⟩:=Z0 h;exact⟨h1,λc hc=>by
    rcases List.mem_cons.1 hc with rfl|hc
    ·exact hab▸h1
    ·exact h2 c hc⟩
  ·cases h
theorem An2{α:Type}{l:List α}{a b:Option R}(h:xJ l a b=some r):b=some r/\ (l=[]->a=some r):=by
 cases l with
 |nil=>
  obtain⟨h1,h2⟩:=Z0 h;exact⟨h2 _ (.head _),λ_=>h1⟩
 |cons x l=>exact⟨h,λe=>by cases e⟩
theorem sA{t e t':TypeId}{q:Bool}{p:Option Addr}{l c:Nat}(h:zK o=some q)(ht:P.underlying t=some (.slice e))(hx:ev σ x= .slice p l c)(hy:ev σ y= .slice none 0 0):
  XO P σ w (.binOp o t x y t') (.bool (p.isNone==q)):=by
 cases o<;>simp only[zK,Aa6,reduceCtorEq]at h<;>subst h
 ·have:=X.bin (w:=w) (t':=t') hx hy (Bin.Aoh ht p l c);simpa using this
 ·have:=X.bin (w:=w) (t':=t') hx hy (Bin.Amj ht p l c);cases p<;>simpa using this
theorem elem_nil{B:Reg}{l:List e.T}(hz:Nat.ble 1 e.size=true)(h:Ci (Az B w e) l []):l=[]:=by
 have h1:=Ci.len (λx c h=>Az.len h) h;have h2:1<=e.size:=by simpa using hz
 cases l with
 |nil=>rfl
 |cons a l=>
  simp only[Asj,List.length_nil]at h1;have:0<(l.length+1)*e.size:=Nat.mul_pos F0 F0;omega
theorem Akt{t t':TypeId}{a:PV}{dn:Nat}(hr:Rel Z s σs A L σ w)(hd:Kn n ⟨some dn, .binOp o t x y t',ty,pos,after,none⟩=true)(hx:Ei s.sl x=a)(hy:Ei s.sl y= .nils)
  (h:Ajr P s dn o t a k=some r):AI P n ops ⟨some dn, .binOp o t x y t',ty,pos,after,none⟩ Z s σs k r G A L σ w:=by
 have hm:=hr.mem;have hy':=IG (Dh hm.sl hy rfl);unfold Ajr at h;split at h
 ·rename_i q e hq ht;have main:∀{α:Type} {l:List α} {p:Option Addr} {len c:Nat},ev σ x= .slice p len c-> (p=none->l=[])->xJ l (k (s.set dn (.b q))) (k (s.set dn (.b (!q))))=some r->AI P n ops ⟨some dn, .binOp o t x y t',ty,pos,after,none⟩ Z s σs k r G A L σ w:=by
   intro α l p len c hv hp h;obtain⟨h1,h2⟩:=An2 h;cases hn:p.isNone with
   |true=>
    have hk:=h2 (hp (by simpa using hn));have hxo:=sA (w:=w) (t':=t') hq ht hv hy';rw[hn]at hxo;have hb:(true==q)=q:=by cases q<;>rfl
    rw[hb]at hxo;exact Ed (p:= .b q) hr hd hxo rfl rfl hk
   |false=>
    have hxo:=sA (w:=w) (t':=t') hq ht hv hy';rw[hn]at hxo;have hb:(false==q)=!q:=by cases q<;>rfl
    rw[hb]at hxo;exact Ed (p:= .b (!q)) hr hd hxo rfl rfl h1
  split at h
  ·have hv:=IG (Dh hm.sl hx rfl);have hxo:=sA (w:=w) (t':=t') hq ht hv hy';have hb:((none:Option Addr).isNone==q)=q:=by cases q<;>rfl
   rw[hb]at hxo;exact Ed (p:= .b q) hr hd hxo rfl rfl h
  ·split at h
   ·obtain⟨hz,h⟩:=Bb h;obtain⟨c0,h1,h2⟩:=BW (Dh hm.sl hx rfl);have h1':=h1;obtain⟨p,len,cap,hv,h3,h4,h5,h6⟩:=h1;refine main hv (λhp=>?_) h;subst hp;have:c0=[]:=Go.Lv.Rd.Aae (by rw[<-hv];exact h1');subst this;have:=h5 rfl;exact elem_nil hz h2
   ·cases h
  ·rename_i i;split at h
   ·rename_i E e' l hi;obtain⟨hz,h⟩:=Bb h;obtain⟨v,cs,h1,h2⟩:=hm.arr hi;obtain⟨z,E',c0,h3⟩:=LY (Dh hm.sl hx rfl);rw[h1]at h3;cases h3;have hrd:=hr.Ua h1;have h1':=hrd;obtain⟨p,len,cap,hv,h4,h5,h6,h7⟩:=hrd;refine main hv (λhp=>?_) h;subst hp;have:cs=[]:=Go.Lv.Rd.Aae (by rw[<-hv];exact h1');subst this;exact elem_nil hz h2
   ·cases h
  ·cases h
 ·cases h
theorem Aa8{i b off:Nat}{md:MD}{ns:List Value}{F:List Fact}(hr:St A w F (L.map MD.Jy))(h:L[i]? =some md)(hb:md.base=some b)(h1:ns.all (·.oneCell')=true)(hle:off+ns.length<=md.cells.length)(hz:0<ns.length):
  ∃w' md',(storeCells ⟨b,off,none⟩ ns).run P w= .ok () w'/\St A w' F ((L.map MD.Jy).set i md'.Jy)/\Zf off ns md md':=by
 cases md with
 |dead=>cases hb
 |box b' cells T=>
  cases hb;have hL:(L.map MD.Jy)[i]? =some (Mob.box b cells T):=Y2 h;have hr':=Ho (P:=P) b T (0,0) ns off 0 cells w (hr.box hL) (by simpa [MD.cells]using hle) (.inr (.inr (Apn _))) (λv hv=>by simpa using List.all_eq_true.1 h1 v hv);simp only[Awm]at hr';exact⟨_, .box b (Bl cells off ns) T,hr',hr.Aju hL,rfl⟩
 |own z' E u cs=>
  obtain⟨b',m,c,hu,hs'⟩:=St.Z6 hr (Y2 h) (by simp[MD.cells]at hle;omega);subst hu;cases hb;have hlen:i<(L.map MD.Jy).length:=by simpa using(List.getElem?_eq_some_iff.1 h).1
  have hL:((L.map MD.Jy).set i (.at_ b z' E m c cs))[i]? =some (.at_ b z' E m c cs):=by rw[List.getElem?_set_self hlen]
  have hle':off+ns.length<=cs.length:=hle;have hcore:∃w',(storeCells ⟨b,off,none⟩ ns).run P w= .ok () w'/\St A w' F (((L.map MD.Jy).set i (.at_ b z' E m c cs)).set i (.at_ b z' E m c (Bl cs off ns))):=by
   obtain⟨o,ho,_,_⟩:=(hs'.front hL).mobs;obtain⟨rfl,ho⟩:=ho;have ho':=ho;obtain⟨_,len,cap,e,h3,h4,h5,h5',h6⟩:=ho;cases e;obtain⟨arr,fr,e,hbb,hsz',hfz,hcells⟩:=h6 b rfl;have hcl:cs.length<=arr.size:=by rw[h3,hsz'];exact Adh _ h4
   have hr':=Ho (P:=P) b E fr ns off 0 arr.toList w (by simpa using hbb) F6 (by simp;rcases hfz with h|h;exact .inr (.inr (Nat.le_of_eq h.symm));exact .inr (.inl h)) (λv hv=>by simpa using List.all_eq_true.1 h1 v hv);simp only[Awm]at hr';have hbl:=lt_of_heap hbb;have hcs':(Bl cs off ns).length=cs.length:=Gh F0;have hget:∀i,i<m*z'-> (Bl arr.toList off ns)[i]? =(Bl cs off ns)[i]? :=λi hi=>by
    have Al2:min off arr.toList.length=off:=by simp;omega
    have Al3:min off cs.length=off:=F0
    simp only[Bl,List.getElem?_append,Ah0,Al2,Al3,List.getElem?_take,List.getElem?_drop];by_cases g1:i<off
    ·rw[Aa4 g1,Aa4 g1,Aa4 g1,Aa4 g1];simpa using hcells i hi
    ·rw[Aa2 g1,Aa2 g1];by_cases g2:i-off<ns.length
     ·rw[Aa4 g2,Aa4 g2]
     ·rw[Aa2 g2,Aa2 g2];have e1:off+ns.length+(i-off-ns.length)=i:=F0
      rw[e1];simpa using hcells i hi
   refine⟨_,hr',hs'.fI hL (b:=b) ⟨rfl,ho'⟩ ⟨rfl,_,m,c,rfl,by rw[hcs',h3],h4,h5,h5',λb' hb'=>?_⟩ ?_⟩
   ·cases hb';refine⟨(Bl arr.toList off ns).toArray,fr,rfl,by simp[Gk,hbl],?_,?_,λi hi=>?_⟩
    ·simp only[Aui];rw[Gh F6];simpa using hsz'
    ·simp only[Aui];rw[Gh F6];simpa using hfz
    ·simpa using hget i hi
   ·rintro⟨q,hq,q1,q2⟩;exact⟨q,hq,q1,q2,hq.1⟩
  obtain⟨w',g1,g2⟩:=hcore;have hs3:=g2.As5 (i:=i) (b:=b) (s:=z') (m:=m) (c:=c) (E:=E) (cs:=Bl cs off ns) (by rw[List.getElem?_set_self (by simpa using hlen)]);rw[List.set_set,List.set_set]at hs3;exact⟨w', .own z' E (.slice (some ⟨b,0,none⟩) m c) (Bl cs off ns),g1,hs3,rfl⟩
structure SrcW (P:Program) (w:World) (vy:Value) (z ly:Nat) (ys:List Value):Prop where
 len:(Builtin.lenOf vy).run P w= .ok ly w
 first:∀m,m<=ly-> (Builtin.firstCells z m vy).run P w= .ok (ys.take (m*z)).toArray w
theorem SrcW.rd{z ly:Nat}{ys:List Value}(h:Rd (λ_=>True) w z vy ys)(hl:ys.length=ly*z)(hz:0<z):SrcW P w vy z ly ys:=by
 obtain⟨p,len,cap,rfl,h2,h3,h4,h5⟩:=h;have he:len=ly:=Apd hz (h2.symm.trans hl);subst he;refine⟨rfl,λm hm=>?_⟩;cases p with
 |none=>
  have:m=0:=by have:=h4 rfl;omega
  subst this;simp[Builtin.firstCells]
 |some a=>
  have hlen:(ys.take (m*z)).length=m*z:=by
   rw[Ah0,h2];have:=Adh z hm;omega
  simp only[Builtin.firstCells];by_cases hc:0<cap
  ·obtain⟨b,off,arr,T,fr,e1,_,e2,_,e4⟩:=h5 hc;cases e1;have:=Mq (P:=P) (w:=w) (b:=b) (off:=off) (ys.take (m*z)) (λi hi=>by
    rw[hlen]at hi;have h6:i<len*z:=Apy hi (Adh z hm);rw[cell_of e2,e4 i h6,List.getElem?_take,Aa4 hi])
   rw[hlen]at this;exact this
  ·have:m=0:=F0
   subst this;simp[loadCells,loadCellsFrom]
theorem SrcW.str{l:List UInt8}:SrcW P w (sv l) 1 l.length (FW (k:= .u8) l):=by
 refine⟨by simp[Builtin.lenOf,ByteArray.size],λm hm=>?_⟩;simp only[Builtin.firstCells,mI,Ap5];congr 1;simp[FW,List.map_take];rfl
theorem T2{t2:TypeId}{m:List e.T}(hr:Rel Z s σs A L σ w)(hz:0<e.size)(h:Akk P s e t2 y=some m):∃ys,Ci (Az (λb=>A b/\Z.R b) w e) m ys/\SrcW P w (ev σ y) e.size m.length ys:=by
 have hm:=hr.mem;have plain:elems s e (Ei s.sl y)=some m->∃ys,Ci (Az (λb=>A b/\Z.R b) w e) m ys/\SrcW P w (ev σ y) e.size m.length ys:=by
  intro h;have hV:(Ei s.sl y).isV=true:=by
   cases hq:(Ei s.sl y).isV with
   |true=>rfl
   |false=>rcases Xh hq with h'|h'|⟨_,_,_,h'⟩<;>rw[h']at h<;>cases h
  obtain⟨c0,h1,h2⟩:=fO hm h (Rv hm.sl y hV);have hrd:Rd (λ_=>True) w e.size (ev σ y) c0:=by
   rcases h2 with h2|⟨j,E',u,cs',_,h2,hpart⟩
   ·exact h2.step (λ_ _=>trivial) (λ_ _=>rfl)
   ·exact hpart _ _ (hr.Ua h2)
  exact⟨c0,h1, .rd hrd (h1.len λx c h=>Az.len h) hz⟩
 unfold Akk at h;split at h
 ·split at h
  ·rename_i m0 hy;unfold YV at h;split at h
   ·rename_i he;cases he;cases h;rw[Sj hm.sl hy];exact⟨FW m0,V2.KE, .str⟩
   ·cases h
  ·cases h
 ·unfold Air at h;split at h
  ·rename_i i p e1 lo n' hy;split at h
   ·rename_i T v hi;split at h
    ·rename_i a x hg;split at h
     ·rename_i q a l;obtain⟨hb,h⟩:=Bb h;simp only[Aa5,Acr]at hb;obtain⟨⟨k1,k2,k3⟩,rfl⟩:=hb;split at h
      ·rename_i ha;subst ha;cases h;obtain⟨md,v1,h3,h4,g1,g2,⟨pt,cap,g3,g4,g5,g6⟩,_⟩:=Dh hm.sl hy rfl;have h6:ev σ y=v1:=by simpa using h4
       obtain⟨b,cells,h7,h8⟩:=hm.box hi;rw[h7]at h3;cases h3;obtain⟨c1,c2,c3,he,h9,h10,h11⟩:=bJ hg h8;have lY:=h11.len λx c h=>Az.len h;obtain⟨lo',rfl⟩:=Amd k1;obtain⟨n1,rfl⟩:=Amd k2;simp only[Amc]at g3 g4 g6;have hq:lo'+n1<=l.length:=by rw[h10];omega
       have hsub:(KY l lo' n1).length=n1:=by simp[KY];omega
       have e5:lo'*a.size+n1*a.size<=l.length*a.size:=by rw[<-Arr];exact Adh _ hq
       refine⟨(c2.drop (lo'*a.size)).take (n1*a.size),Ci.take (λx c h=>Az.len h) _ (Ci.drop (λx c h=>Az.len h) _ h11),?_,λm hm'=>?_⟩
       ·rw[h6,g3,hsub];rfl
       ·rw[hsub]at hm';rw[h6,g3];have hml:m*a.size<=n1*a.size:=Adh _ hm';cases pt with
        |none=>
         have:m=0:=by have:=g5 rfl;omega
         subst this;simp[Builtin.firstCells]
        |some ad=>
         simp only[Builtin.firstCells];by_cases hc:0<cap
         ·obtain⟨bb,e1,e2⟩:=g6 hc;cases e1;cases e2;have hlen3:(((c2.drop (lo'*a.size)).take (n1*a.size)).take (m*a.size)).length=m*a.size:=by
           simp only[Ah0,Ah1,lY];omega
          have:=Mq (P:=P) (w:=w) (b:=b) (off:=Ay p+lo'*a.size) (((c2.drop (lo'*a.size)).take (n1*a.size)).take (m*a.size)) (λi hi=>by
           rw[hlen3]at hi;have hcl:Ay p+lo'*a.size+i<(MD.box b cells T).cells.length:=by
            simp only[MD.cells,he,Aa7,h9,lY];omega
           rw[hr.cells h7 rfl _ hcl];simp only[MD.cells];rw[he,List.getElem?_append_right F0,h9,show Ay p+lo'*a.size+i-Ay p=lo'*a.size+i by omega,List.getElem?_append_left (by rw[lY];omega),
            List.getElem?_take,Aa4 hi,List.getElem?_take,Aa4 F0,List.getElem?_drop])
          rw[hlen3]at this;exact this
         ·have:m=0:=F0
          subst this;simp[loadCells,loadCellsFrom]
      ·cases h
     ·cases h
    ·cases h
   ·cases h
  ·exact plain h
 ·cases h
theorem uM(cs:List Value)(o:Nat):Bl cs o []=cs:=by simp[Bl]
theorem ug{t t2 E:TypeId}{vx:Value}{z ly nv L7 off i:Nat}{pt:Option Addr}{ys:List Value}{md:MD}{F:List Fact}(ht:P.underlying t=some (.slice E))(hsz:Jk P E z)(hsrc:SrcW P w vy z ly ys)(hys:ys.length=ly*z)(h1:ys.all (·.oneCell')=true)
  (hr:St A w F (L.map MD.Jy)) (h:L[i]? =some md) (hne:md≠ .dead) (hx:vx= .slice pt nv L7) (hcap:nv<=L7) (hpt:pt=none->L7=0) (hb:0<L7->∃b,md.base=some b/\pt=some ⟨b,off,none⟩) (hle:off+nv*z<=md.cells.length) (hz:0<z):
  ∃w' md',(Builtin.copy_ #[t,t2] ty #[vx,vy]).run P w= .ok (goInt (Nat.min ly nv)) w'/\St A w' F ((L.map MD.Jy).set i md'.Jy)/\Zf off (ys.take (nv*z)) md md':=by
 subst hx;have hmin:Nat.min ly nv<=ly:=Nat.min_le_left _ _;have jg:=hsrc.first _ hmin
 have htake:ys.take (Nat.min ly nv*z)=ys.take (nv*z):=by
  rcases Aw8 ly nv with h'|h'
  ·rw[show Nat.min ly nv=ly from As8 h',<-hys,Aw1,Aus (by rw[hys];exact Adh z h')]
  ·rw[show Nat.min ly nv=nv from Awb h']
 rw[htake]at jg;have hmul:Nat.min ly nv*z<=nv*z:=Adh z (Nat.min_le_right _ _);have hlen:(ys.take (nv*z)).length=Nat.min ly nv*z:=by
  rw[<-htake,Ah0,hys];have:=Adh z hmin;omega
 have hnone:(ys.take (nv*z))=[]->∃w' md',(Builtin.copy_ #[t,t2] ty #[.slice pt nv L7,vy]).run P w= .ok (goInt (Nat.min ly nv)) w'/\St A w' F ((L.map MD.Jy).set i md'.Jy)/\Zf off (ys.take (nv*z)) md md':=by
  intro he;refine⟨w,md,?_,?_,?_⟩
  ·rw[he]at jg;cases pt<;>simp[Builtin.copy_,Ahy ht,hsrc.len,Bz hsz,jg,storeCells]
  ·rw[List.getElem?_eq_some_iff]at h;obtain⟨hlt,h⟩:=h;have:(L.map MD.Jy).set i md.Jy=L.map MD.Jy:=by
    rw[<-List.map_set,<-h,List.set_getElem_self]
   rw[this];exact hr
  ·rw[he];cases md with
   |dead=>exact absurd rfl hne
   |box b c T=>simp only[Zf,uM]
   |own z' E' v c=>simp only[Zf,uM]
 by_cases he:(ys.take (nv*z))=[]
 ·exact hnone he
 ·have hpos:0<(ys.take (nv*z)).length:=List.length_pos_iff.2 he;have hm0:0<Nat.min ly nv:=by
   rcases Nat.eq_zero_or_pos (Nat.min ly nv)with h'|h'
   ·rw[hlen,h']at hpos;simp at hpos
   ·exact h'
  have hnv:0<nv:=Apy hm0 (Nat.min_le_right _ _);obtain⟨b,e1,e2⟩:=hb F0;subst e2;obtain⟨w',md',g1,g2,g3⟩:=Aa8 (P:=P) (off:=off) hr h e1 (ns:=ys.take (nv*z)) (List.all_eq_true.2 λv hv=>List.all_eq_true.1 h1 v (List.mem_of_mem_take hv)) (by rw[hlen];omega) hpos;refine⟨w',md',?_,g2,g3⟩;simp[Builtin.copy_,Ahy ht,hsrc.len,Bz hsz,jg,g1]
theorem yt(nv k:Nat):FG (nv:Int) k=((Nat.min k nv:Nat):Int):=by
 unfold FG;rcases Awv k nv with h|h
 ·rw[Aa4 F0,show Nat.min k nv=k from As8 F0]
 ·rw[Aa2 F0,show Nat.min k nv=nv from Awb h]
theorem xW{B:Reg}{l m:List e.T}{cs ys:List Value}{lo nv:Nat}(hl:Ci (Az B w e) l cs)(hm:Ci (Az B w e) m ys):Ci (Az B w e) (Qr l lo nv m) (Bl cs (lo*e.size) (ys.take (nv*e.size))):=by
 have h1:=Ci.take (λx c h=>Az.len h) nv hm;have h2:=h1.len λx c h=>Az.len h;have h3:=Ci.take (λx c h=>Az.len h) lo hl;have h4:=Ci.drop (λx c h=>Az.len h) (lo+(m.take nv).length) hl;unfold Qr Bl;simp only[Amc];refine Ci.append h3 (Ci.append h1 ?_);rw[h2,<-Arr];exact h4
theorem Ah8{α:Type}(l m:List α):hH l m=Qr l ((0:Nat):Int) ((l.length:Nat):Int) m:=by
 unfold hH Qr;simp only[Amc,Awr,Arh,Av9,Ah0];congr 1;rcases Aw8 m.length l.length with h|h
 ·rw[Awb h]
 ·rw[As8 h,Aw5 (Apn _),Aw5 h]
theorem lg{t t2 E E':TypeId}{l m:List e.T}{ys cs:List Value}{u:Value}{lo nv L7 i:Nat}{pt:Option Addr}{ow:Option Nat}(hr:Rel Z s σs A L σ w)(hd:Kn n ⟨ow, .call ⟨.builtin .copy, #[x,y], #[t,t2]⟩,ty,pos,after,none⟩=true)
  (ht:P.underlying t=some (.slice E)) (hsz:Jk P E e.size) (hz:0<e.size) (hit:Cx s.it i= .arr E' e l) (hL:L[i]? =some (.own e.size E' u cs)) (hl:Ci (Az (λb=>A b/\Z.R b) w e) l cs) (hm:Ci (Az (λb=>A b/\Z.R b) w e) m ys) (hsrc:SrcW P w (ev σ y) e.size m.length ys)
  (hx:ev σ x= .slice pt nv L7) (hcap:nv<=L7) (hpt:pt=none->L7=0) (hb:0<L7->∃b,(MD.own e.size E' u cs).base=some b/\pt=some ⟨b,lo*e.size,none⟩) (hle:lo+nv<=l.length)
  (hk:k ((s.Xy i (.arr E' e (Qr l lo nv m))).Gt ow (.i .i64 (FG (nv:Int) m.length)))=some r):AI P n ops ⟨ow, .call ⟨.builtin .copy, #[x,y], #[t,t2]⟩,ty,pos,after,none⟩ Z s σs k r False A L σ w:=by
 have hcl:=hl.len λx c h=>Az.len h;have hyl:=hm.len λx c h=>Az.len h;have hF:=St.pW (f:=yL Z.R L (.arr E' e (Qr l lo nv m)) (Bl cs (lo*e.size) (ys.take (nv*e.size)))) hr (xW hl hm);obtain⟨w',md',g1,g2,g3⟩:=ug (P:=P) (ty:=ty) (t2:=t2) (off:=lo*e.size) ht hsz hsrc hyl hm.Y8 hF hL (by intro h;cases h) rfl hcap hpt hb (by
  show lo*e.size+nv*e.size<=cs.length;rw[hcl,<-Arr];exact Adh _ hle) hz
 simp only[Zf]at g3;subst g3;have key:=dY.own (cs':=Bl cs (lo*e.size) (ys.take (nv*e.size))) hL;have hr2:=Rel.change (a:= .arr E' e (Qr l lo nv m)) g2.vC hL key ⟨rfl,rfl,g2.fact 0 rfl⟩;refine WL.Acl (v:=goInt (Nat.min m.length nv)) rfl hd ?_ (WL.nil ⟨_,A,_,hk,hr2.Gt rfl ?_,λh=>h.elim⟩)
 ·simp[execOp,resolve,invoke,builtin,hx,g1]
 ·rw[yt];rfl
theorem Aeu{t t2:TypeId}{ow:Option Nat}(hr:Rel Z s σs A L σ w)(hd:Kn n ⟨ow, .call ⟨.builtin .copy, #[x,y], #[t,t2]⟩,ty,pos,after,none⟩=true)
  (h:W5 P s ow x y t t2 k=some r):AI P n ops ⟨ow, .call ⟨.builtin .copy, #[x,y], #[t,t2]⟩,ty,pos,after,none⟩ Z s σs k r False A L σ w:=by
 have hmm:=hr.mem;unfold W5 at h;split at h
 ·cases h
 ·rename_i E hE;have ht:=XM hE;split at h
  ·cases h
  ·rename_i inf Tn;split at h
   ·rename_i i hx;split at h
    ·rename_i E' e l hit;obtain⟨hb,h⟩:=Bb h;simp only[Aa5]at hb;have hz:0<e.size:=by have:=Asg hb.2;omega
     split at h
     ·rename_i m hsrc;obtain⟨ys,h1,h2⟩:=T2 hr hz hsrc;obtain⟨u,cs,h3,h4⟩:=hmm.arr hit;obtain⟨z',E2,c',h5⟩:=LY (Dh hmm.sl hx rfl);rw[h3]at h5;cases h5;obtain⟨q,len,cap,g1,g2,g3,g4,g5⟩:=hr.Arc h3;have hl:len=l.length:=Apd hz (g2.symm.trans (h4.len λx c h=>Az.len h));rw[Ah8]at h;exact lg (lo:=0) (nv:=l.length) (ys:=ys) hr hd ht (Ft Tn hb.1) hz hit h3 h4 h1 h2 (by rw[g1,hl]) F0 g4 (λhc=>by obtain⟨b,e1,e2⟩:=g5 hc;exact⟨b,e2,by rw[e1];simp⟩) F0 h
     ·cases h
    ·cases h
   ·rename_i i p e1 lo n' hx;split at h
    ·rename_i E' e l hit;obtain⟨hb,h⟩:=Bb h;simp only[Aa5,Acr]at hb;obtain⟨⟨hb1,hb2⟩,rfl⟩:=hb;have hz:0<e1.size:=by have:=Asg hb2;omega
     split at h
     ·rename_i m hsrc;obtain⟨ys,h1,h2⟩:=T2 hr hz hsrc;obtain⟨u,cs,h3,h4⟩:=hmm.arr hit;obtain⟨md,v1,h5,h6,k1,k2,⟨pt,cap,k3,k4,k5,k6⟩,k7,_⟩:=Dh hmm.sl hx rfl;rw[h3]at h5;cases h5;have h7:ev σ x=v1:=by simpa using h6
      obtain⟨lo',rfl⟩:=Amd k1;obtain⟨n1,rfl⟩:=Amd k2;simp only[Amc]at k3 k4 k6 k7;obtain⟨s',E2,q,len,cap0,c0,e1',rfl,e3,_⟩:=k7 trivial;cases e1';obtain⟨q',len',cap',g1,g2,_⟩:=hr.Arc h3;cases g1;have hl:len=l.length:=Apd hz (g2.symm.trans (h4.len λx c h=>Az.len h));exact lg (lo:=lo') (nv:=n1) (ys:=ys) hr hd ht (Ft Tn hb1) hz hit h3 h4 h1 h2 (h7.trans k3) k4 k5 (λhc=>by obtain⟨b,e4,e5⟩:=k6 hc;exact⟨b,e4,by rw[e5];simp[Ay]⟩) F0 h
     ·cases h
    ·cases h
   ·rename_i i p e1 lo n' hx;split at h
    ·rename_i T v hit;split at h
     ·rename_i a0 x0 hg;split at h
      ·rename_i q e l;obtain⟨hb,h⟩:=Bb h;simp only[Aa5,Acr]at hb;obtain⟨⟨⟨hb1,hb2⟩,rfl⟩,k1,k2,k3⟩:=hb;have hz:0<e1.size:=by have:=Asg hb2;omega
       split at h
       ·rename_i m hsrc;obtain⟨ys,h1,h2⟩:=T2 hr hz hsrc;obtain⟨md,v1,h5,h6,_,_,⟨pt,cap,g3,g4,g5,g6⟩,_⟩:=Dh hmm.sl hx rfl;have h7:ev σ x=v1:=by simpa using h6
        obtain⟨b,cells,h8,h9⟩:=hmm.box hit;rw[h8]at h5;cases h5;obtain⟨c1,c2,c3,he,h10,h11,h12⟩:=bJ hg h9;have lY:=h12.len λx c h=>Az.len h;have hyl:=h1.len λx c h=>Az.len h;obtain⟨lo',rfl⟩:=Amd k1;obtain⟨n1,rfl⟩:=Amd k2;simp only[Amc]at g3 g4 g6;have hq:lo'+n1<=l.length:=by rw[h11];omega
        have e5:lo'*e1.size+n1*e1.size<=l.length*e1.size:=by rw[<-Arr];exact Adh _ hq
        have hk1:=Ci.take (λx c h=>Az.len h) n1 h1;have hk2:=hk1.len λx c h=>Az.len h;have hk3:(ys.take (n1*e1.size)).length<=n1*e1.size:=by rw[Ah0];omega
        have hcp:=xW (lo:=lo') (nv:=n1) h12 h1;have Auh:(Bl c2 (lo'*e1.size) (ys.take (n1*e1.size))).length=c2.length:=Gh (by rw[lY];omega);have Avw:Bj (λb=>A b/\Z.R b) w L (.val (.vec q e1) (Qr l lo' n1 m)) (Bl c2 (lo'*e1.size) (ys.take (n1*e1.size))):=by
         refine⟨?_,hcp⟩;have:=hcp.len λx c h=>Az.len h;rw[Auh,lY]at this;rw[<-h11];exact(Apd hz this).symm
        obtain⟨v',hk,_,hv'⟩:=oH Avw h h9;have hcells:Bl cells (Ay p) (Bl c2 (lo'*e1.size) (ys.take (n1*e1.size)))=Bl cells (Ay p+lo'*e1.size) (ys.take (n1*e1.size)):=by
         rw[he,WM h10 _ (by rw[lY];omega),<-h10,ZW Auh]
        rw[hcells]at hv';have hF:=St.pW (f:=yL Z.R L (.box T v') (Bl cells (Ay p+lo'*e1.size) (ys.take (n1*e1.size)))) hr hv';obtain⟨w',md',g1,g2,g3'⟩:=ug (P:=P) (ty:=ty) (t2:=t2) (off:=Ay p+lo'*e1.size) ht (Ft Tn hb1) h2 hyl h1.Y8 hF h8 (by intro h;cases h) rfl g4 g5 (λhc=>by obtain⟨b,e4,e5⟩:=g6 hc;exact⟨b,e4,e5⟩) (by
         show Ay p+lo'*e1.size+n1*e1.size<=cells.length;rw[he];simp only[Aa7,h10,lY];omega) hz
        simp only[Zf]at g3';subst g3';have key:=dY.box (cs':=Bl cells (Ay p+lo'*e1.size) (ys.take (n1*e1.size))) h8;have hr2:=Rel.change (a:= .box T v') g2.vC h8 key ⟨rfl,Bj.step (λ_ h=>h) (λ_ _=>rfl) key (g2.fact 0 rfl)⟩;refine WL.Acl (v:=goInt (Nat.min m.length n1)) rfl hd ?_ (WL.nil ⟨_,A,_,hk,hr2.Gt rfl ?_,λh=>h.elim⟩)
        ·rw[<-g3,<-h7]at g1;simp[execOp,resolve,invoke,builtin,g1]
        ·rw[yt];rfl
       ·cases h
      ·cases h
     ·cases h
    ·cases h
   ·cases h
theorem yA{g:Nat}{cs:List Value}:∀{l:List (Nat×List Value)},Amx l g=some cs-> (g,cs)∈l
 |[],h=>by cases h
 |(q,c)::r,h=>by
  simp only[Amx]at h;cases hb:Nat.beq q g with
  |true=>
   rw[hb]at h;have:=Da hb;subst this;cases h;exact .head _
  |false=>rw[hb]at h;exact .tail _ (yA h)
theorem Ab8{g:Nat}{t:TypeId}(hT:jU P T Z)(hr:Rel Z s σs A L σ w)(h:T.glv P g t=some v):∃cs T1 fr,w.heap[g]? =some (.cells cs.toArray T1 fr)/\ (A g/\Z.R g)/\Bj (λb=>A b/\Z.R b) w L v cs:=by
 unfold Tab.glv at h;split at h
 ·rename_i cs hg;split at h
  ·rename_i v' hp;cases h;obtain⟨h1,T1,fr,h2⟩:=hr.Ai0 (p:=(g,cs)) (by rw[hT.2];exact yA hg);obtain⟨c,e1,h3⟩:=XS (B:=λb=>A b/\Z.R b) (w:=w) (L:=L) Q hp;rw[Ap8]at e1;subst e1;exact⟨_,T1,fr,h2,h1,h3⟩
  ·cases h
 ·cases h
theorem Y9{o:Op}{g dn:Nat}(hT:jU P T Z)(hr:Rel Z s σs A L σ w)(hd:Kn n ⟨some dn,o,ty,pos,after,none⟩=true)
  (ho:(∃t,o= .load t (.global g))\/ (∃t ix,o= .indexAddr t (.global g) ix)\/ (∃t lo hi,o= .slice t (.global g) lo hi none)) (h:nH P T s dn g o k=some r):
  AI P n ops ⟨some dn,o,ty,pos,after,none⟩ Z s σs k r G A L σ w:=by
 have hm:=hr.mem;rcases ho with⟨t,rfl⟩|⟨t,ix,rfl⟩|⟨t,lo,hi,rfl⟩
 ·simp only[nH]at h;split at h
  ·rename_i v hv;obtain⟨hb,hk⟩:=Bb h;obtain⟨cs,T1,fr,h1,h2,h3⟩:=Ab8 hT hr hv;obtain⟨val,h7,h8⟩:=H9 (P:=P) (σ:=σ) (x:= .global g) (b:=g) (off:=0) (Rj hb) h3 (λj hj=>by rw[cell_of h1];simp) rfl;obtain⟨hv,hv'⟩:=Lh h7;exact Ed hr hd h8 hv hv' hk
  ·cases h
 ·simp only[nH]at h;split at h
  ·rename_i j m et e0 l0 hj ht hv;obtain⟨q,hix⟩:=JX hj (Rv hm.sl ix (TX hj));split at h
   ·rename_i inf m' e l Tn;obtain⟨hb,h⟩:=Bb h;simp only[Aa5]at hb;obtain⟨y,hy,hk⟩:=bind_some h;obtain⟨hj0,hj1,hj2⟩:=Kg hy;obtain⟨cs,T1,fr,h1,h2,h3,h4⟩:=Ab8 hT hr hv;obtain⟨c1,c2,c3,he,h8,h9,_⟩:=Ci.get (λx c h=>Az.len h) h4 hj2;have hmm:=Da hb.1.1;subst hmm;have h10:c2.length=e.size:=h9.len;have hp:T9 (λb=>A b/\Z.R b) w (.pointer (some ⟨g,0+j.toNat*e.size,none⟩)) c2:=by
     refine⟨g,0+j.toNat*e.size,_,T1,fr,rfl,h2,h1,λq hq=>?_⟩;rw[List.getElem?_toArray,he,Av9,List.getElem?_append_right F0,h8,show j.toNat*e.size+q-j.toNat*e.size=q by omega,List.getElem?_append_left hq]
    have hvr:Fs (λb=>A b/\Z.R b) w L (.rptr (e.pv y)) (.pointer (some ⟨g,0+j.toNat*e.size,none⟩)):=⟨_,c2,rfl,hp,WE.2 h9⟩;exact Ed hr hd (VX (x:= .global g) ht (Ft Tn hb.1.2) rfl hix F0 (by rw[<-show l.length=m' from h3];omega) w) rfl hvr hk
   ·cases h
  ·cases h
 ·simp only[nH]at h;split at h
  ·rename_i u m et hat;split at h
   ·rename_i e0 l0 hv;split at h
    ·rename_i inf m' e l Tn;obtain⟨hb,h⟩:=Bb h;simp only[Aa5]at hb;split at h
     ·rename_i a b ha hb';obtain⟨y,hy,hk⟩:=bind_some h;obtain⟨k1,k2,k3,k4,rfl⟩:=PU hy;obtain⟨cs,T1,fr,h1,h2,h3,h4⟩:=Ab8 hT hr hv;have hmm:=Da hb.1.1;subst hmm;have hlen:=h4.len λx c h=>Az.len h;have hz:0<e.size:=by have:=Asg hb.2;omega
      have hm3:l.length=m':=h3;have hxo:=X.R6 (P:=P) (σ:=σ) (w:=w) (x:= .global g) (lo:=lo) (hi:=hi) (a:=a.toNat) (b:=b.toNat) (ad:=⟨g,0,none⟩) hat (Ft Tn hb.1.2) k3 F0 rfl
       (by rcases Me hm.sl ha with h|⟨h,h'⟩;exact .inl (by rw[<-k1];exact h);exact .inr ⟨h,F0⟩) (by rcases Me hm.sl hb' with h|⟨h,h'⟩;exact .inl (by rw[<-k2];exact h);exact .inr ⟨h,F0⟩)
      have e5:a.toNat*e.size<=b.toNat*e.size:=Adh _ k3;have e6:b.toNat*e.size<=l.length*e.size:=Adh _ k4;have e7:(b.toNat-a.toNat)*e.size=b.toNat*e.size-a.toNat*e.size:=Aw6 _ _ _;refine Ed hr hd hxo rfl (jK ⟨_,_,_,rfl,?_,F0,(λh=>by cases h),λhc=>?_⟩ (Ci.drop (λx c h=>Az.len h) _ (Ci.take (λx c h=>Az.len h) _ h4))) hk
      ·rw[Ah1,Ah0,hlen,e7];omega
      ·rw[Aa2 F0,Lc];refine⟨g,0+a.toNat*e.size,_,T1,fr,rfl,h2,h1,?_,λi hi=>?_⟩
       ·simp only[Aui,hlen,hm3];have:(m'-a.toNat)*e.size=m'*e.size-a.toNat*e.size:=Aw6 _ _ _;have:a.toNat*e.size<=m'*e.size:=Adh _ F0;omega
       ·rw[List.getElem?_toArray,Av9,List.getElem?_drop,List.getElem?_take,Aa4 F0]
     ·cases h
    ·cases h
   ·cases h
  ·cases h
theorem Aq9{o:Op}{dn:Nat}(hT:jU P T Z)(hI:WY P T.gl inl)(hr:Rel Z s σs A L σ w)(hd:Kn n ⟨some dn,o,ty,pos,after,none⟩=true)(h:op2 P T inl s dn ty o k=some r):
  AI P n ops ⟨some dn,o,ty,pos,after,none⟩ Z s σs k r (K5 T s ⟨some dn,o,ty,pos,after,none⟩=true) A L σ w:=by
 have hm:=hr.mem;unfold op2 at h;split at h
 ·
  rename_i o t x y t';split at h
  ·rename_i a u b v hx hy;split at h
   ·rename_i c q hc hq;obtain⟨_,hok,h⟩:=bind_some h;have:=Xb hok;subst this;obtain⟨hv,val,hb,hvr⟩:=wV (P:=P) (w:=w) (L:=L) (B:=λb=>A b/\Z.R b) (t:=t) hq hc;exact Ed hr hd (X.bin (AD hm.sl hx) (AD hm.sl hy) hb) hv hvr h
   ·cases h
  ·rename_i u v hx hy;split at h
   ·obtain⟨q,hq,h⟩:=bind_some h;exact Ed (p:= .val .str q) hr hd (X.Aj9 (Sj hm.sl hx) (Sj hm.sl hy) hq) rfl rfl h
   ·cases h
  ·rename_i a h1 h2 hy;exact Akt hr hd rfl hy h
  ·cases h
 ·
  rename_i t x ix;split at h
  ·rename_i j e0 l0 hj hx;obtain⟨q,hix⟩:=JX hj (Rv hm.sl ix (TX hj));split at h
   ·rename_i l ht;obtain⟨y,hy,h⟩:=bind_some h;exact Ed (p:= .i .u8 y) hr hd (X.Aia ht (Sj hm.sl hx) hix hy) rfl rfl h
   ·rename_i m e l m' et ht;obtain⟨hb,h⟩:=Bb h;obtain⟨y,hy,h⟩:=bind_some h;obtain⟨hk,hkk⟩:=Bb h;have hok:=Rj hk;have hv:Ih (λb=>A b/\Z.R b) w L (.val (.vec m e) l) (ev σ x):=Dh hm.sl hx rfl;obtain⟨cs,h1,h2,h3⟩:=hv;have hsz:(e.pv y).size=e.size:=by
     obtain⟨_,_,h5⟩:=Kg hy;obtain⟨_,c2,_,_,_,h6,_⟩:=Ci.get (λx c h=>Az.len h) h3 h5;rw[<- (WE (L:=L).2 h6).len,h6.len]
    have hmm:=Da hb;subst hmm;obtain⟨d0,hd0,ha0⟩:=hok.agg;obtain⟨val,h4,h5⟩:=Amw (L:=L) ht (by rw[<-hsz];exact hok.size) ⟨d0,hd0,ha0⟩ (λhA=>by rw[<-hsz];exact hok.one hA) h2 h1 h3 hix hy;obtain⟨hv,hv'⟩:=Lh h5;exact Ed hr hd h4 hv hv' hkk
   ·cases h
  ·cases h
 ·split at h
  ·exact Y9 hT hr hd (.inr (.inr ⟨_,_,_,rfl⟩)) h
  ·exact Aiv hr hd h (λg=>g)
 ·split at h
  ·exact Y9 hT hr hd (.inr (.inl ⟨_,_,rfl⟩)) h
  ·exact Abe hr hd h
 ·split at h
  ·exact Y9 hT hr hd (.inl ⟨_,rfl⟩) h
  ·exact Aou hr hd h
 ·
  split at h
  ·rename_i v hz;exact Aii hr hd hz h
  ·cases h
 ·obtain⟨hb,h⟩:=Bb h;exact Aqb hr hd hb h
 ·split at h
  ·rename_i v hv;obtain⟨hA,h⟩:=Bb h;obtain⟨h1,h2⟩:=M4 (B:=λb=>A b/\Z.R b) (w:=w) (L:=L) hv hA;exact Ed hr hd (X.assign rfl) h1 h2 h
  ·cases h
 ·split at h
  ·rename_i v hv;obtain⟨hA,h⟩:=Bb h;obtain⟨h1,h2⟩:=M4 (B:=λb=>A b/\Z.R b) (w:=w) (L:=L) hv hA;exact Ed hr hd (X.move rfl) h1 h2 h
  ·cases h
 ·exact Ah5 hr hd h
 ·exact K1 hr hd h (λg=>g)
 ·exact An6 hr hd h
 ·
  split at h
  ·rename_i e ha ht;split at h
   ·rename_i l he hx;exact V2 hr hd ha ht he hx h
   ·cases h
  ·rename_i e ha ht;obtain⟨hb,h1⟩:=Bb h;clear h;have:=Da hb;subst this;split at h1
   ·rename_i i he hx;split at h1
    ·rename_i E e' l hi;split at h1
     ·rename_i y ys;exact Aml hr hd ht he hx hi h1
     ·cases h1
    ·cases h1
   ·cases h1
  ·cases h
 ·
  rename_i as ts;split at h
  ·rename_i x y t t2 has hts;have h1:=FQ has;have h2:=FQ hts;subst h1 h2;refine VG (Ahv hr hd h) ?_;rintro σ' w' ⟨s',A',L',g1,g2,g3⟩;exact⟨s',A',L',g1,g2,λg=>by simp[K5,brk]at g⟩
  ·cases h
 ·
  rename_i as ts;split at h
  ·rename_i x y t t2 has hts;have h1:=FQ has;have h2:=FQ hts;subst h1 h2;refine VG (Aeu hr hd h) ?_;rintro σ' w' ⟨s',A',L',g1,g2,g3⟩;exact⟨s',A',L',g1,g2,λg=>by simp[K5,brk]at g⟩
  ·cases h
 ·
  rename_i as ts;split at h
  ·rename_i x t has hts;have h1:=FQ has;have h2:=FQ hts;subst h1 h2;split at h
   ·rename_i e ht hx;refine Ed (p:= .i .i64 (0:Int)) hr hd (val:=iv (0:Int)) (λ_ _ _ _ _=>?_) rfl rfl h;have hv:=IG (Dh hm.sl hx rfl);simp[execOp,resolve,invoke,builtin,hv,Builtin.cap_,Ahy ht,goInt];rfl
   ·cases h
  ·cases h
 ·
  rename_i g as ts;split at h
  ·rename_i f caps hg;refine Anq hT hI hr hg hd h (λgg=>?_);unfold K5 at gg;split at gg
   ·rename_i heq;cases heq
   ·rename_i heq;cases heq
   ·rename_i f' as' ts' heq;cases heq;cases hg;split at gg
    ·rename_i c hc;simp only[Aa5,Ash,Ap1]at gg;exact⟨c,hc,gg.1,gg.2.imp id isEmpty_nil⟩
    ·cases gg
   ·rename_i h1 h2 h3;simp only[brk]at gg;split at gg<;>simp_all
  ·rename_i f fs hg;obtain⟨hb,h⟩:=Bb h;simp only[Aa5]at hb;refine Aj4 hT hI hr hg hd hb.2 h (λgg=>?_);unfold K5 at gg;split at gg
   ·rename_i heq;cases heq
   ·rename_i heq;cases heq
   ·rename_i f' as' ts' heq;cases heq;cases hg
   ·rename_i h1 h2 h3;simp only[brk]at gg;split at gg<;>simp_all
  ·cases h
 ·exact Ahg hr hd h (λg=>g)
 ·exact Afu hr hd h
 ·cases h
end Go.Rx
namespace Go.Rx
open Go Go.Lv
variable {P:Program} {w w':World} {L:List MD} {s:S} {σs:List Env} {σ:Env} {Z:Fix} {A:Reg}
theorem YP{α:Type 1}{c:Bool}{x:Option α}{y:α}(h:(Df (c) (x)<|none)=some y):c=true/\x=some y:=by cases c<;>simp_all
theorem Abj{o:Op}{b:BV}{x:b.X}(hr:Rel Z s σs A L σ w)(h:Ti P s o=some b)(hx:b.E=some x):(b.v x).isV=true/\∃val,(∀w',XO P σ w' o val)/\Fs (λb=>A b/\Z.R b) w L (b.v x) val:=by
 have hm:=hr.mem;unfold Ti at h;split at h
 ·
  rename_i o t x y t';split at h
  ·rename_i a u b v hx' hy;split at h
   ·rename_i c q hc hq;cases h;have:=Xb hx;subst this;obtain⟨hv,val,hb,hvr⟩:=wV (P:=P) (w:=w) (L:=L) (B:=λb=>A b/\Z.R b) (t:=t) hq hc;exact⟨hv,val,λw'=>X.bin (AD hm.sl hx') (AD hm.sl hy) hb,hvr⟩
   ·cases h
  ·rename_i u v hx' hy;split at h
   ·cases h;exact⟨rfl,_,λw'=>X.Aj9 (Sj hm.sl hx') (Sj hm.sl hy) hx,rfl⟩
   ·cases h
  ·cases h
 ·
  split at h
  ·rename_i j l hj hx' ht;cases h;obtain⟨q,hix⟩:=JX hj (Rv hm.sl _ (TX hj));exact⟨rfl,_,λw'=>X.Aia ht (Sj hm.sl hx') hix hx,rfl⟩
  ·cases h
 ·
  split at h
  ·rename_i ht;split at h
   ·rename_i l hx';split at h
    ·rename_i a b ha hb;cases h;exact⟨rfl,_,λw'=>X.As9 ht (Sj hm.sl hx') hx (Me hm.sl ha) (Me hm.sl hb),rfl⟩
    ·cases h
   ·cases h
  ·rename_i et ht;split at h
   ·rename_i e0 l0 hx';split at h
    ·rename_i e l;split at h
     ·rename_i inf Tn;obtain⟨hb,h⟩:=YP h;simp only[Aa5]at hb;split at h
      ·rename_i a b ha hb';cases h;obtain⟨h1,h2,h3,h4,h5'⟩:=PU hx;obtain⟨c0,h5,h6⟩:=BW (Dh hm.sl hx' rfl);have hlen:=h6.len λx c h=>Az.len h;obtain⟨p',l',c',h7,h8⟩:=X.ze (P:=P) (l:=a.toNat) (k:=b.toNat) (m:=l.length) ht (Ft Tn hb.1) (St.Aku hr h5) (j:=0) rfl hlen (iy hb.2) h3 h4;refine⟨rfl, .slice p' l' c',λw'=>h7 σ w' _ _ _ rfl (by rcases Me hm.sl ha with h|⟨h,h'⟩;exact .inl (by rw[<-h1];exact h);exact .inr ⟨h,F0⟩)
        (by rcases Me hm.sl hb' with h|⟨h,h'⟩;exact .inl (by rw[<-h2];exact h);exact .inr ⟨h,by rw[h'];simp[Ac]⟩),?_⟩
       rw[h5'];exact jK (h8.fact 0 rfl) (Ci.drop (λx c h=>Az.len h) _ (Ci.take (λx c h=>Az.len h) _ h6))
      ·cases h
     ·cases h
    ·cases h
   ·cases h
  ·cases h
 ·
  split at h
  ·cases h
  ·rename_i j hj;obtain⟨q,hix⟩:=JX hj (Rv hm.sl _ (TX hj));split at h
   ·rename_i et ht;split at h
    ·cases h
    ·rename_i inf Tn;split at h
     ·rename_i e0 l0 hx';split at h
      ·rename_i e l;obtain⟨hb,h⟩:=YP h;cases h;simp only[Aa5]at hb;obtain⟨hj0,hj1,hj2⟩:=Kg hx;obtain⟨c0,h1,h2⟩:=BW (Dh hm.sl hx' rfl);obtain⟨p,len,cap,h3,h4,h5,h6,h7⟩:=h1;have hlen:=h2.len λx c h=>Az.len h;have hz:0<e.size:=by have:=Asg hb.2;omega
       have hl:len=l.length:=Apd hz (h4.symm.trans hlen);subst hl;obtain⟨b,off,arr,T,fr,rfl,hB,hbl,hcap,hc⟩:=h7 F0;obtain⟨c1,c2,c3,he,h8,h9,_⟩:=Ci.get (λx c h=>Az.len h) h2 hj2;have h10:c2.length=e.size:=h9.len;have h11:(j.toNat+1)*e.size<=l.length*e.size:=Adh _ hj1;rw[Awa]at h11;have hp:T9 (λb=>A b/\Z.R b) w (.pointer (some ⟨b,off+j.toNat*e.size,none⟩)) c2:=by
        refine⟨b,off+j.toNat*e.size,arr,T,fr,rfl,hB,hbl,λq hq=>?_⟩;rw[Asn,hc _ F0,he,List.getElem?_append_right F0,h8,show j.toNat*e.size+q-j.toNat*e.size=q by omega,List.getElem?_append_left hq]
       have hvr:Fs (λb=>A b/\Z.R b) w L (.rptr (e.pv x)) (.pointer (some ⟨b,off+j.toNat*e.size,none⟩)):=⟨_,c2,rfl,hp,WE.2 h9⟩;exact⟨rfl,_,λw'=>Tq ht (Ft Tn hb.1) h3 hix F0 F0 w',hvr⟩
      ·cases h
     ·rename_i i hx';split at h
      ·rename_i E e l hi;obtain⟨hb,h⟩:=YP h;cases h;simp only[Aa5]at hb;obtain⟨hj0,hj1,hj2⟩:=Kg hx;obtain⟨v,cs,h1,h2⟩:=hm.arr hi;obtain⟨z',E',c',h3⟩:=LY (Dh hm.sl hx' rfl);rw[h1]at h3;cases h3;have hlen:=h2.len λx c h=>Az.len h;have hz:0<e.size:=by have:=Asg hb.2;omega
       have hpos:0<cs.length:=by rw[hlen];exact Nat.mul_pos F0 hz
       obtain⟨b,len,cap,h4,h5⟩:=hr.base h1 hpos;have hl:len=l.length:=Apd hz (h5.symm.trans hlen);subst hl;refine⟨rfl,_,λw'=>Tq ht (Ft Tn hb.1) h4 hix F0 F0 w',?_⟩;rw[show(0:Nat)+j.toNat*e.size=Ay [.idx j e.size] by simp[Ay,iR]];refine LD h1 ?_;rw[h4];rfl
      ·cases h
     ·rename_i o i p e lo n' hx';obtain⟨hb,h⟩:=YP h;cases h;simp only[Aa5]at hb;have hj':0<=j/\j<n':=Au6 (Xb hx);obtain⟨md,v1,h3,h4,k1,k2,⟨pt,cap,k3,k4,k5,k6⟩,_⟩:=Dh hm.sl hx' rfl;have h6:=List.cons.inj h4;obtain⟨b,e1,rfl⟩:=k6 F0;refine⟨rfl,_,λw'=>Tq ht (Ft Tn hb.1) (h6.1.trans k3) hix hj'.1 F0 w',?_⟩;rw[show Ay p+lo.toNat*e.size+j.toNat*e.size=Ay (p++[.idx (lo+j) e.size]) by
       rw[aX,Asn,<-Arr]
       show _=Ay p+(lo+j).toNat*e.size;rw[Int.toNat_add k1 hj'.1]]
      exact LD h3 e1
     ·cases h
   ·rename_i m et ht;split at h
    ·cases h
    ·rename_i inf Tn;split at h
     ·rename_i i p hx';split at h
      ·rename_i T v hi;split at h
       ·rename_i e0 l0 hg;split at h
        ·rename_i m' e l;obtain⟨hb,h⟩:=YP h;cases h;simp only[Aa5]at hb;obtain⟨hj0,hj1,hj2⟩:=Kg hx;obtain⟨md,b,h1,h2,h3⟩:=Zi (Dh hm.sl hx' rfl);obtain⟨b',cells,h4,h5⟩:=hm.box hi;rw[h4]at h1;cases h1;cases h2;obtain⟨c1,c2,c3,he,h6,h7,h8⟩:=bJ hg h5;have hmm:=Da hb.2;subst hmm;have hl:l.length=m':=h7;refine⟨rfl,_,λw'=>VX ht (Ft Tn hb.1.1) h3 hix F0 F0 w',?_⟩;rw[show Ay p+j.toNat*e.size=Ay (p++[.idx j e.size]) by simp[SC,Ay,iR]];exact LD h4 rfl
        ·cases h
       ·cases h
      ·cases h
     ·cases h
   ·cases h
 ·cases h
end Go.Rx
namespace Go.Rx
open Go Go.Lv
variable{want b:Bool}{v:PV}{G:Prop}
variable {P:Program} {B B':Reg} {w w':World} {L L':List MD} {s:S} {σs:List Env} {σ:Env} {Z:Fix} {A A':Reg} {n:Nat} {ops:Array Oper}
variable {R:Type} {k:S->Option R} {r:R} {d:Option Nat} {ty:TypeId} {pos:String} {after:Array Edge} {T:Tab} {inl:X8 R}
theorem Aiu{o:Oper}(hT:jU P T Z)(hI:WY P T.gl inl)(hr:Rel Z s σs A L σ w)(hd:Kn n o=true)(h:exU P T inl o s k=some r):
  AI P n ops {o with guard:=none} Z s σs k r (K5 T s o=true) A L σ w:=by
 obtain⟨d,op,ty,pos,after,g⟩:=o;have hd':Kn n ⟨d,op,ty,pos,after,none⟩=true:=hd;unfold exU at h;split at h
 ·rename_i v hv;obtain⟨h1,val,h2,h3⟩:=W7 (P:=P) (B:=λb=>A b/\Z.R b) (w:=w) (L:=L) (λ_=>True) hr.mem.sl hv;exact Ed hr hd' (h2 w trivial) h1 h3 h
 ·split at h
  ·rename_i v hv;obtain⟨h1,val,h2,h3⟩:=Aca (P:=P) hr hv;exact Ed hr hd' (h2 w (.refl hr)) h1 h3 h
  ·cases d with
   |some dn=>exact Aq9 hT hI hr hd' h
   |none=>
    simp only at h;split at h
    ·rename_i t a x;refine VG (Ako hr h) ?_;rintro σ' w' ⟨s',A',L',g1,g2,g3⟩;exact⟨s',A',L',g1,g2,λg=>by simp[K5,brk]at g⟩
    ·rename_i as ts;split at h
     ·rename_i x y t t2 has hts;have h1:=FQ has;have h2:=FQ hts;subst h1 h2;refine VG (Aeu hr hd' h) ?_;rintro σ' w' ⟨s',A',L',g1,g2,g3⟩;exact⟨s',A',L',g1,g2,λg=>by simp[K5,brk]at g⟩
     ·cases h
    ·cases h
theorem WL.Asx{rest:List Oper}{K:Env->World->Prop}{o:Oper}{j t:Nat}(hg:o.guard=some (j,want))(hj:(ops[j]?).bind (·.dst)=some t)(hb:σ t= .bool b)(hne:(b==want)=false)
  (hdn:Kn n o=true) (h:WL P n ops rest K (Agr σ o.dst Go.undef) w):WL P n ops (o::rest) K σ w:=by
 intro ds a ha;refine wpList_step λK' hK'=>?_;have hw:Region.wanted o (yielded ops a.tmps)=false:=by
  simp only[Region.wanted,hg,SP ha hj hb];cases b<;>cases want<;>simp_all
 rw[Aa2 (by rw[hw];simp)];refine hK' _ _ ?_;cases hd:o.dst with
 |none=>rw[hd]at h;exact h _ _ (ha.A8 _)
 |some d=>rw[hd]at h;unfold Kn at hdn;rw[hd]at hdn;exact h _ _ (ha.put hdn _)
theorem WL.Ata{rest:List Oper}{K:Env->World->Prop}{o:Oper}{j t:Nat}(hg:o.guard=some (j,want))(hj:(ops[j]?).bind (·.dst)=some t)(hb:σ t=Go.undef)
  (hdn:Kn n o=true) (h:WL P n ops rest K (Agr σ o.dst Go.undef) w):WL P n ops (o::rest) K σ w:=by
 intro ds a ha;refine wpList_step λK' hK'=>?_;have hy:yielded ops a.tmps j=none:=by
  unfold yielded;rw[hj];have h1:=ha.get t;rw[hb]at h1;cases h:a.tmps[t]? with
  |none=>simp[h]
  |some v=>
   rw[Array.getD_eq_getD_getElem?,h]at h1;simp at h1;subst h1;simp[h,undef]
 have hw:Region.wanted o (yielded ops a.tmps)=false:=by
  simp only[Region.wanted,hg,hy];cases want<;>rfl
 rw[Aa2 (by rw[hw];simp)];refine hK' _ _ ?_;cases hd:o.dst with
 |none=>rw[hd]at h;exact h _ _ (ha.A8 _)
 |some d=>rw[hd]at h;unfold Kn at hdn;rw[hd]at hdn;exact h _ _ (ha.put hdn _)
theorem qg{o:Oper}(hr:Rel Z s σs A L σ w)(h:k (s.Gt o.dst .off)=some r):WL P n ops [] (K4 Z σs k r G A L s.it w) (Agr σ o.dst Go.undef) w:=by
 refine WL.nil ⟨_,A,L,h,hr.Amk,λ_=>?_⟩;have:(s.Gt o.dst .off).it=s.it:=by cases o.dst<;>rfl
 rw[this];exact .refl
theorem aP{a:Bool}:lR a b=(b==a):=by cases a<;>cases b<;>rfl
theorem Abh{G':Prop}{σ':Env}{it:List Item}(hp:K4 Z σs k r G A L it w σ' w')(h:G'->G):K4 Z σs k r G' A L it w σ' w':=by
 obtain⟨s',A',L',h1,h2,h3⟩:=hp;exact⟨s',A',L',h1,h2,λg=>h3 (h g)⟩
theorem xG{t dn:Nat}{val:Value}(ht:σ t= .bool b)(hne:Nat.beq dn t=false)(h1:b=want->Fs B w L v val)(h2:b≠want->val=Go.undef):Kb B w L (Xy σ dn val) dn (.gd t want v):=by
 have htd:t≠dn:=by intro e;subst e;simp at hne
 exact⟨b,by rw[bG _ _ htd];exact ht,λe=>by rw[Zw];exact h1 e,λe=>by rw[Zw];exact h2 e⟩
theorem Ad4{o:Oper}{j t dn:Nat}(hr:Rel Z s σs A L σ w)(hg:o.guard=some (j,want))(hj:(ops[j]?).bind (·.dst)=some t)(ht:σ t= .bool b)(hdn:Kn n o=true)(hd:o.dst=some dn)
  (hne:Nat.beq dn t=false) (hv:b=want->v.isV=true/\∃val,XO P σ w o.op val/\Fs (λb=>A b/\Z.R b) w L v val) (hk:k (s.set dn (.gd t want v))=some r):AI P n ops o Z s σs k r G A L σ w:=by
 by_cases hbw:b=want
 ·obtain⟨h1,val,h2,h3⟩:=hv hbw;refine WL.on hg hj ht (by simpa using hbw) (WL.Acl rfl (by simpa [Kn]using hdn) (h2 _ _ _ _ _) (WL.nil ⟨_,A,L,hk,?_,λ_=> .refl⟩));simp only[hd];exact hr.set (xG ht hne (λ_=>h3) (λe=>absurd hbw e))
 ·refine WL.Asx hg hj ht (by simpa using hbw) hdn (WL.nil ⟨_,A,L,hk,?_,λ_=> .refl⟩);rw[hd];exact hr.set (xG ht hne (λe=>absurd e hbw) (λ_=>rfl))
theorem PW{t:Nat}(hm:Gy B w L σ s.sl)(h:CZ s.sl t= .val .bool b):σ t= .bool b:=by
 have h1:=Rm (t:=t) hm;rw[h]at h1;exact IZ h1
theorem pI{t:Nat}(hm:Gy B w L σ s.sl)(h:CZ s.sl t= .cst (.bool b)):σ t= .bool b:=by
 have h1:=Rm (t:=t) hm;rw[h]at h1;have: [σ t]=[Value.bool b]:=h1.1;simpa using this
theorem Aq1{o:Oper}{j t:Nat}(hT:jU P T Z)(hI:WY P T.gl inl)(hr:Rel Z s σs A L σ w)(hd:Kn n o=true)(hg:o.guard=some (j,want))(hj:(ops[j]?).bind (·.dst)=some t)
  (h:exG P T inl o t want s k=some r):AI P n ops o Z s σs k r (K5 T s o=true/\∃b,CZ s.sl t= .cst (.bool b)) A L σ w:=by
 have hm:=hr.mem;have lit:∀(G:Prop) (s1:S) (b:Bool),(G->K5 T s1 o=true)->Rel Z s1 σs A L σ w->s1.it=s.it->σ t= .bool b-> (Df (lR want b) (exU P T inl o s1 k)<|k (s1.Gt o.dst .off))=some r->AI P n ops o Z s σs k r G A L σ w:=by
  intro G s1 b hG hr1 hit ht h;cases hb:lR want b with
  |true=>
   rw[hb]at h;refine WL.on hg hj ht (by rw[<-aP];exact hb) (VG (Aiu hT hI hr1 hd h) λσ' w' hp=>?_);rw[<-hit];exact Abh hp hG
  |false=>
   rw[hb]at h;refine WL.Asx hg hj ht (by rw[<-aP];exact hb) hd ?_;rw[<-hit];exact qg hr1 h
 unfold exG at h;simp only at h;split at h
 ·rename_i b hb;exact lit _ s b (λg=>g.1) hr rfl (pI hm.sl hb) h
 ·rename_i hb;have h1:=Rm (t:=t) hm.sl;rw[hb]at h1;exact WL.Ata hg hj h1 hd (qg hr h)
 ·rename_i b hb;have ht:=PW hm.sl hb;have nog:∀{X:Prop},(∃b,CZ s.sl t= .cst (.bool b))->X:=λ⟨_,g⟩=>by rw[hb]at g;cases g
  split at h
  ·rename_i dn v hdn hv;cases hne:Nat.beq dn t with
   |true=>rw[hne]at h;cases h
   |false=>
    rw[hne]at h;refine Ad4 hr hg hj ht hd hdn hne (λhbw=>?_) h;subst hbw;obtain⟨h1,val,h2,h3⟩:=W7 (P:=P) (λ_=>True) (hr.res ht).mem.sl hv;exact⟨h1,val,h2 w trivial,h3⟩
  ·rename_i dn v hdn hv0 hv;cases hne:Nat.beq dn t with
   |true=>rw[hne]at h;cases h
   |false=>
    rw[hne]at h;refine Ad4 hr hg hj ht hd hdn hne (λhbw=>?_) h;subst hbw;obtain⟨h1,val,h2,h3⟩:=Aca (P:=P) (hr.res ht) hv;exact⟨h1,val,h2 w (.refl (hr.res ht)),h3⟩
  ·cases b with
   |true=>exact lit _ (s.res t true) true (λg=>nog g.2) (hr.res ht) rfl ht (by simpa using h)
   |false=>exact lit _ (s.res t false) false (λg=>nog g.2) (hr.res ht) rfl ht (by simpa using h)
 ·cases h
theorem Aes{o:Oper}(hT:jU P T Z)(hI:WY P T.gl inl)(hr:Rel Z s σs A L σ w)(h:mM P T inl n ops o s k=some r):AI P n ops o Z s σs k r (K5 T s o=true/\gOk ops s o=true) A L σ w:=by
 have hm:=hr.mem;unfold mM at h;cases hd:Kn n o with
 |false=>rw[hd]at h;cases h
 |true=>
  rw[hd]at h;simp only[Awo,Axh]at h;try dsimp only[Df]at h
  split at h
  ·rename_i hg;have:({o with guard:=none}:Oper)=o:=by cases o;simp only at hg;subst hg;rfl
   rw[<-this];refine VG (Aiu hT hI hr hd h) λσ' w' hp=>Abh hp ?_;rintro⟨g,_⟩;rw[this]at g;exact g
  ·rename_i j want hg;split at h
   ·cases h
   ·rename_i t hj;have fin:∀s1:S,(gOk ops s o=true->s1=s)->Rel Z s1 σs A L σ w->s1.it=s.it->exG P T inl o t want s1 k=some r->AI P n ops o Z s σs k r (K5 T s o=true/\gOk ops s o=true) A L σ w:=by
     intro s1 hs hr1 hit h;refine VG (Aq1 hT hI hr1 hd hg hj h) λσ' w' hp=>?_;rw[<-hit];refine Abh hp (λg=>?_);have:=hs g.2;subst this;refine⟨g.1,?_⟩;have h2:=g.2;unfold gOk at h2;simp only[hg,hj]at h2;split at h2
     ·exact⟨_,by assumption⟩
     ·cases h2
    split at h
    ·rename_i t2 w2 v hv;have nog:∀{X:Prop},gOk ops s o=true->X:=λg=>by
      unfold gOk at g;simp only[hg,hj,hv]at g;cases g
     split at h
     ·rename_i b hb;have ht:=PW hm.sl hb;cases b with
      |true=>exact fin _ nog (hr.res ht) rfl (by simpa using h)
      |false=>exact fin _ nog (hr.res ht) rfl (by simpa using h)
     ·cases h
    ·exact fin s (λ_=>rfl) hr rfl h
theorem Rel.At1{rr:Nat}(hr:Rel Z s σs A L σ w)(hl:rr<w.heap.size)(hm:Dp w (λb=>A b\/b=rr) (L.map MD.Jy)):Rel Z s σs (λb=>A b\/b=rr) L σ w:=
 ⟨λb hb=>hb.elim (hr.lt b) (λe=>e▸hl),λf hf=>f.step (hr.facts f hf) (λ_ h=> .inl h) (λ_ _=>rfl) (.refl _),hm⟩
theorem Rel.world{w':World}(hr:Rel Z s σs A L σ w)(hs:Same A w w')(hg:Gr w w')(hm:Dp w' A (L.map MD.Jy)):Rel Z s σs A L σ w':=
 ⟨λb hb=>Apy (hr.lt b hb) hg.le,λf hf=>f.step (hr.facts f hf) (λ_ h=>h) hs hg,hm⟩
def Aje(P:Program)(Z:Fix)(d t:Nat)(ks:List UInt8)(vs:List PV)(A:Reg)(L:List MD)(σ:Env)(w:World):Prop:=
 ∃rr es c kt et,P.underlying t=some (.map kt et)/\P.underlying kt=some (.int .u8)/\σ d= .map (some rr)/\w.heap[rr]? =some (.map es c)/\Z.w0.heap.size<=rr/\ ¬A rr/\Dp w (λb=>A b\/b=rr) (L.map MD.Jy)/\
  es.toList.map (·.key)=ks.map (λk=>iv (T:=UInt8) (k:= .u8) k)/\Es (λb=>A b/\Z.R b) w L vs (es.toList.map (·.val))
theorem Aje.close{d t:Nat}{ks:List UInt8}{vs:List PV}(hr:Rel Z s σs A L σ w)(h:Aje P Z d t ks vs A L σ w):∃A',Rel Z (s.set d (.mp ks vs)) σs A' L σ w:=by
 obtain⟨rr,es,c,kt,et,_,_,h3,h4,h5,h6,h7,h8,h9⟩:=h;have hr1:=hr.At1 (lt_of_heap h4) h7;have hσ:Xy σ d (.map (some rr))=σ:=by
  rw[<-h3];funext q;by_cases hq:q=d
  ·rw[hq,Zw]
  ·rw[bG _ _ hq]
 refine⟨λb=>A b\/b=rr,?_⟩;rw[<-hσ];refine hr1.set ?_;rw[hσ];have hv:Bj (λb=>(A b\/b=rr)/\Z.R b) w L (.mp ks vs) [.map (some rr)]:=⟨rr,es,c,rfl,⟨.inr rfl,Z.new _ h5⟩,h4,h8,Bj.vH (λb hb=>⟨.inl hb.1,hb.2⟩) (λ_ _=>rfl) (.refl L) h9⟩
 show Bj _ w L (.mp ks vs) [σ d];rw[h3];exact hv
theorem Adj{u:UInt8}:∀{es:List MapEntry} {ks:List UInt8} (i:Nat),es.map (·.key)=ks.map (λk=>iv (T:=UInt8) (k:= .u8) k)->Afa u ks=false->Instr.findNow (.int .u8) (iv (T:=UInt8) (k:= .u8) u) es i=some none
 |[],_,_,_,_=>rfl
 |e::es,[],_,h,_=>by cases h
 |e::es,q::ks,i,h,hu=>by
  simp only[Auo,Aw7]at h;simp only[Afa,Av8]at hu;have hs:Instr.sameNow (.int .u8) (iv (T:=UInt8) (k:= .u8) u) e.key=some (geq u q):=by rw[h.1];rfl
  simp only[Instr.findNow,hs,hu.1];exact Adj (i+1) h.2 hu.2
theorem Es.push{B:Reg}{p:PV}{v:Value}(h:asV p.isA (Bj B w L p) v):∀{vs:List PV} {us:List Value},Es B w L vs us->Es B w L (vs++[p]) (us++[v])
 |[],us,e=>by
  rw[show us=[]from e];exact⟨v,[],rfl,h,rfl⟩
 |a::vs,us,⟨x,us',e,h1,h2⟩=>⟨x,us'++[v],by rw[e];rfl,h1,Es.push h h2⟩
theorem Aij{d t:Nat}{o:Op}{u:UInt8}{x:Operand}(h:Ak3 d t o=some (u,x)):o= .insert t (.tmp d) (.const (iv (T:=UInt8) (k:= .u8) u)) x:=by
 unfold Ak3 at h;split at h
 ·rename_i t' q m x';obtain⟨hb,h⟩:=Bb h;simp only[Aa5]at hb;cases h;rw[Da hb.1.1,Da hb.1.2];have:=Au6 hb.2
  show Op.insert t (.tmp d) (.const (.int .u8 m)) x= .insert t (.tmp d) (.const (.int .u8 (((GI.ofZ m:UInt8).toNat:Nat):Int))) x;rw[this]
 ·cases h
theorem Aox{o:Oper}{d t:Nat}(h:Arp P n o=some (d,t)):o.op= .makeMap t none/\o.dst=some d/\o.guard=none/\Nat.blt d n=true/\∃kt et,P.underlying t=some (.map kt et)/\P.underlying kt=some (.int .u8):=by
 unfold Arp at h;split at h
 ·rename_i t' ho;split at h
  ·rename_i d' kt et hd hg ht;split at h
   ·rename_i hk;obtain⟨hb,h⟩:=Bb h;cases h;exact⟨ho,hd,hg,hb,kt,et,ht,hk⟩
   ·cases h
  ·cases h
 ·cases h
def Au8(P:Program)(Z:Fix)(σs:List Env)(m:Option (Nat×Nat×List UInt8×List PV))(A:Reg)(L:List MD)(σ:Env)(w:World):Prop:=match m with|none=>True|some (d,t,ks,vs)=>Aje P Z d t ks vs A L σ w
theorem ZB(hT:jU P T Z)(hI:WY P T.gl inl):∀{l:List Oper} {m:Option (Nat×Nat×List UInt8×List PV)} {s:S} {A:Reg} {L:List MD} {σ:Env} {w:World},Rel Z s σs A L σ w->Au8 P Z σs m A L σ w->MS P T inl n ops l m s k=some r->
  WL P n ops l (λσ' w'=>∃s' A' L',k s'=some r/\Rel Z s' σs A' L' σ' w') σ w
 |[],m,s,A,L,σ,w,hr,hm,h=>by
  unfold MS at h;cases m with
  |none=>exact WL.nil ⟨s,A,L,h,hr⟩
  |some q=>
   obtain⟨d,t,ks,vs⟩:=q;obtain⟨A',hr'⟩:=Aje.close hr hm;exact WL.nil ⟨_,A',L,h,hr'⟩
 |o::l,m,s,A,L,σ,w,hr,hm,h=>by
  have op:∀{s:S} {A:Reg},Rel Z s σs A L σ w-> (mM P T inl n ops o s λs'=>MS P T inl n ops l none s' k)=some r->WL P n ops (o::l) (λσ' w'=>∃s' A' L',k s'=some r/\Rel Z s' σs A' L' σ' w') σ w:=by
   intro s A hr h;have h1:=Aes (ops:=ops) hT hI hr h;refine WL.cut _ [o] h1 ?_;rintro σ' w' ⟨s',A',L',g1,g2,_⟩;exact ZB (m:=none) hT hI g2 trivial g1
  unfold MS at h;cases m with
  |none=>
   simp only at h;split at h
   ·exact op hr h
   ·rename_i d t hmk;obtain⟨h1,h2,h3,h4,kt,et,h5,h6⟩:=Aox hmk;have hsz:(w.alloc (.map #[] 0)).heap.size=w.heap.size+1:=fE w _;have hkeep:Keep w (w.alloc (.map #[] 0)):=uL w _;have hr1:Rel Z s σs A L σ (w.alloc (.map #[] 0)):=St.keep hr hkeep;have hr2:Rel Z (s.set d .undef) σs A L (Xy σ d (.map (some w.heap.size))) (w.alloc (.map #[] 0)):=hr1.set trivial;have kL:Dp (w.alloc (.map #[] 0)) (λb=>A b\/b=w.heap.size) (L.map MD.Jy):=
     (Dp.step (by rw[hsz];omega) (St.mobs hr).lt λb hb _=>hkeep.same b hb).EL λb hb=>hb.imp id λe=>Nat.le_of_eq e.symm
    have hx:(execOp (ev σ) o).run P w= .ok (.value (.map (some w.heap.size))) (w.alloc (.map #[] 0)):=by
     obtain⟨_,_,_,_,_,_⟩:=o;simp only at h1;subst h1;simp[execOp,Instr.makeMap,Result.andThen]
    refine WL.val h3 h2 h4 hx (ZB hT hI hr2 ?_ h);exact⟨w.heap.size, #[],0,kt,et,h5,h6,Zw _ _ _,Wn w _,(hr.fact 1 (f:= .old Z.M Z.w0) rfl).1.le,λhA=>absurd (hr.lt _ hA) F0,kL,rfl,rfl⟩
  |some q=>
   obtain⟨d,t,ks,vs⟩:=q;simp only at h;have cl:∀{s':S},s'=s.set d (.mp ks vs)-> (mM P T inl n ops o s' λs'=>MS P T inl n ops l none s' k)=some r->WL P n ops (o::l) (λσ' w'=>∃s' A' L',k s'=some r/\Rel Z s' σs A' L' σ' w') σ w:=by
    intro s' hs' h;subst hs';obtain⟨A',hr'⟩:=Aje.close hr hm;exact op hr' h
   split at h
   ·rename_i q hg hq;split at h
    ·rename_i v hv;obtain⟨hb,hv⟩:=Bb hv;simp only[Aa5,Ap1]at hb;obtain⟨h1,val,h2,h3⟩:=W7 (P:=P) (B:=λb=>A b/\Z.R b) (w:=w) (L:=L) (λ_=>True) hr.mem.sl hv;have hne:d≠q:=λe=>by rw[e]at hb;simp at hb
     have hx:(execOp (ev σ) o).run P w= .ok (.value val) w:=by
      obtain⟨d0,op0,ty0,Avx,af0,g0⟩:=o;exact h2 w trivial d0 ty0 Avx af0 g0
     refine WL.val hg hq hb.1 hx (ZB hT hI (hr.set (Kb.put h1 h3)) ?_ h);obtain⟨rr,es,c,kt,et,g1,g2,g3,g4⟩:=hm;exact⟨rr,es,c,kt,et,g1,g2,by rw[bG _ _ hne];exact g3,g4⟩
    ·exact cl rfl h
   ·rename_i hg hq;split at h
    ·rename_i u x hins;have ho:=Aij hins;obtain⟨hb,h⟩:=Bb h;simp only[Aa5,Ap1]at hb;obtain⟨rr,es,c,kt,et,g1,g2,g3,g4,g5,g6,g7,g8,g9⟩:=hm;have hxv:Ih (λb=>A b/\Z.R b) w L (Ei s.sl x) (ev σ x):=by
      refine QA hr.mem.sl ?_;cases hp:Ei s.sl x<;>rw[hp]at hb<;>first|rfl|exact absurd hb.1 (by simp[Ate])
     have hlt:=lt_of_heap g4
     let o':Obj:= .map (es.push {key:=iv (T:=UInt8) (k:= .u8) u,val:=ev σ x,born:=c}) (c+1)
     let w':World:={w with heap:=w.heap.setIfInBounds rr o'}
     have hheap:∀b,b≠rr->w'.heap[b]? =w.heap[b]? :=λb hb=>by simp[w',Array.getElem?_setIfInBounds_ne (Axe hb)]
     have hnew:w'.heap[rr]? =some o':=by simp[w',hlt]
     have hgr:Gr w w':=⟨by simp[w'],rfl,rfl,rfl⟩;have hsame:Same A w w':=λb hb=>hheap b λe=>g6 (e▸hb);have kL:Dp w' (λb=>A b\/b=rr) (L.map MD.Jy):=Dp.step hgr.le g7 λb _ hb=>hheap b λe=>hb (.inr e);have hck:(Instr.checkKey false 10000 kt (iv (T:=UInt8) (k:= .u8) u)).run P w= .ok () w:=MapKept.run_checkKey g2 (show MapKept.IsKey (.int .u8) (.int .u8 _)from rfl) _ 9999;have hfk:=MapKept.run_findKey (P:=P) (w:=w) g2 (Adj 0 g8 hb.2);have hx:(execOp (ev σ) o).run P w= .ok .skip w':=by
      obtain⟨_,_,_,_,_,_⟩:=o;simp only at ho;subst ho;have e1:ev σ (.tmp d)= .map (some rr):=g3;have e2:ev σ (.const (iv (T:=UInt8) (k:= .u8) u))=iv (T:=UInt8) (k:= .u8) u:=rfl;simp[execOp,e1,e2,Instr.mapUpdate,Ahy g1,MapKept.run_getObj_map g4,hck,hfk,MapKept.run_setObj_map _ g4,Result.andThen,w',o']
     refine WL.unit hg hq hx (ZB hT hI (hr.world hsame hgr (kL.EL λb hb=> .inl hb)) ?_ h);refine⟨rr,_,_,kt,et,g1,g2,g3,hnew,g5,g6,kL,?_,?_⟩
     ·simp only[Array.toList_push,Aw9,g8,Auo,List.map_nil]
     ·simp only[Array.toList_push,Aw9,Auo,List.map_nil];exact Bj.vH (λ_ h=>h) (λb hb=>hsame b hb.1) (.refl L) (Es.push hxv g9)
    ·exact cl rfl h
   ·cases h
theorem Aja(hT:jU P T Z)(hI:WY P T.gl inl){l:List Oper}{s:S}{A:Reg}{L:List MD}{σ:Env}{w:World}(hr:Rel Z s σs A L σ w)(h:om P T inl n ops l s k=some r):
  WL P n ops l (λσ' w'=>∃s' A' L',k s'=some r/\Rel Z s' σs A' L' σ' w') σ w:=ZB (m:=none) hT hI hr trivial h
end Go.Rx
namespace Go.Rx
open Go Go.Lv
variable{b:BV}{o:Op}{v:PV}
variable {P:Program} {B B':Reg} {w w':World} {L L':List MD} {s:S} {σs:List Env} {σ:Env} {Z:Fix} {A A':Reg} {n:Nat} {ops:Array Oper}
variable {R:Type} {k:S->Option R} {r:R} {d:Option Nat} {ty:TypeId} {pos:String} {after:Array Edge} {T:Tab} {inl:X8 R} {mem:Bool} {listed:Array Bool}
def sT(Z:Fix)(σs:List Env)(A:Reg)(L:List MD)(it:List Item)(w w':World):Prop:=∃s2 σ2 A' L',Rel Z s2 σs A' L' σ2 w'/\Grow A L it w A' L' s2.it w'
theorem sT.refl(hr:Rel Z s σs A L σ w):sT Z σs A L s.it w w:=⟨s,σ,A,L,hr, .refl⟩
theorem sT.ext(hr:Rel Z s σs A L σ w)(h:sT Z σs A L s.it w w'):Ext Z s σs A L σ w w':=by
 obtain⟨s2,σ2,A',L',h1,h2⟩:=h;exact h2.ext hr h1
theorem qV{z:Array Bool}:∀{is:List Nat} {i d:Nat} {v:PV},CJ P T n mem ops z listed s is=some (i,d,v)->∃o,ops[i]? =some o/\Yb ops (tw z) listed i=true/\Z7 P T n mem ops o s=some (d,v)
 |[],_,_,_,h=>by simp[CJ]at h
 |j::is,i,d,v,h=>by
  simp only[CJ]at h;split at h
  ·cases h
  ·rename_i o ho;split at h
   ·rename_i d' v' hp;cases h;cases ht:Yb ops (tw z) listed j with
    |true=>rw[ht]at hp;exact⟨o,ho,by first|exact ht|rfl,hp⟩
    |false=>rw[ht]at hp;cases hp
   ·exact qV h
def GS(Z:Fix)(σs:List Env)(w':World):Prop:=∃s2 σ2 A2 L2,Rel Z s2 σs A2 L2 σ2 w'
theorem Ext.gs(h:Ext Z s σs A L σ w w'):GS Z σs w':=by
 obtain⟨⟨A',L',it',_,hr⟩,_⟩:=h;exact⟨_,_,_,_,hr⟩
theorem Agl{g:Nat}{t:TypeId}(hT:jU P T Z)(h:T.glv P g t=some v):∃cs,(∀w',GS Z σs w'->∃T1 fr,w'.heap[g]? =some (.cells cs.toArray T1 fr))/\∀(B:Reg) (w:World) (L:List MD),Bj B w L v cs:=by
 unfold Tab.glv at h;split at h
 ·rename_i cs hg;split at h
  ·rename_i v' hp;cases h;refine⟨cs,λw' hw=>?_,λB w L=>?_⟩
   ·obtain⟨s2,σ2,A2,L2,hr⟩:=hw;obtain⟨_,T1,fr,h2⟩:=hr.Ai0 (p:=(g,cs)) (by rw[hT.2];exact yA hg);exact⟨T1,fr,h2⟩
   ·obtain⟨c,e1,h3⟩:=XS (B:=B) (w:=w) (L:=L) Q hp;rw[Ap8]at e1;subst e1;exact h3
  ·cases h
 ·cases h
theorem Am4(hT:jU P T Z)(h:Ar4 P T o=some v):v.isV=true/\∃val,(∀w',GS Z σs w'->XO P σ w' o val)/\Fs (λb=>A b/\Z.R b) w L v val:=by
 unfold Ar4 at h;split at h
 ·rename_i t g;split at h
  ·rename_i u hv;obtain⟨hb,hk⟩:=Bb h;cases hk;obtain⟨cs,h1,h3⟩:=Agl (σs:=σs) hT hv;obtain⟨val,h7,h8⟩:=eW (P:=P) (σ:=σ) (x:= .global g) (b:=g) (off:=0) (Rj hb) (h3 (λb=>A b/\Z.R b) w L) rfl;obtain⟨hv1,hv2⟩:=Lh h7;refine⟨hv1,val,λw' hw=>h8 w' λj hj=>?_,hv2⟩;obtain⟨T1,fr,h4⟩:=h1 w' hw;rw[cell_of h4];simp
  ·cases h
 ·cases h
theorem zD{S:World->Prop}(hT:jU P T Z)(hr:Rel Z s σs A L σ w)(h:uK P T mem s o=some v)(hS:mem=true->∀w',S w'->Ext Z s σs A L σ w w')(hG:∀w',S w'->GS Z σs w'):v.isV=true/\∃val,(∀w',S w'->XO P σ w' o val)/\Fs (λb=>A b/\Z.R b) w L v val:=by
 unfold uK at h;split at h
 ·rename_i u hu;cases h;exact W7 (P:=P) S hr.mem.sl hu
 ·split at h
  ·rename_i u hu;cases h;cases mem with
   |true=>
    obtain⟨h1,val,h2,h3⟩:=Aca (P:=P) hr hu;exact⟨h1,val,λw' hw=>h2 w' (hS rfl w' hw),h3⟩
   |false=>cases hu
  ·obtain⟨h1,val,h2,h3⟩:=Am4 (σs:=σs) (σ:=σ) (A:=A) (w:=w) (L:=L) hT h;exact⟨h1,val,λw' hw=>h2 w' (hG w' hw),h3⟩
theorem Aog{t:Nat}{b:Bool}{w':World}(h:Ext Z s σs A L σ w w')(ht:σ t= .bool b):Ext Z (s.res t b) σs A L σ w w':=by
 obtain⟨⟨A',L',it',h1,h2⟩,h3⟩:=h;exact⟨⟨A',L',it',h1,Rel.res (s:=⟨s.sl,s.it++it',s.st⟩) h2 ht⟩,h3⟩
theorem WD.gxU{op:Op}{d j t:Nat}{ty:TypeId}{pos:String}{after:Array Edge}{want:Bool}{S:World->Prop}{TT:Nat->Bool}{fuel:Nat}{K:Env->World->Prop}(i:Nat)(hi:ops[i]? =some ⟨some d,op,ty,pos,after,some (j,want)⟩)(hB:Yb ops TT listed i=true)(hdn:Nat.blt d n=true)
  (hj:(ops[j]?).bind (·.dst)=some t) (hb:σ t=Go.undef) (hS:S w)
  (h:WD P n ops S TT fuel (listed.setIfInBounds i true) K (Xy σ d Go.undef) w):WD P n ops S TT (fuel+1) listed K σ w:=by
 intro ds a ha;obtain⟨B,hblk,hcl⟩:=nD hi hB;simp only[Yb,Aa5]at hB;refine bF (v:=Go.undef) hi (Region.noSelect_spec hB.1) (λc a w h=>absurd h.1 Axl) fuel listed a w hblk (CQ hcl).1 (CQ hcl).2 (by simpa using hB.2.1) ?_ hS (h _ _ (ha.put hdn _));refine .inr ⟨?_,rfl⟩;have hy:yielded ops a.tmps j=none:=by
  unfold yielded;rw[hj];have h1:=ha.get t;rw[hb]at h1;cases h:a.tmps[t]? with
  |none=>simp[h]
  |some v=>
   rw[Array.getD_eq_getD_getElem?,h]at h1;simp at h1;subst h1;simp[h,Go.undef]
 simp only[Region.wanted,hy];cases want<;>rfl
theorem Aex{S:World->Prop}{z:Array Bool}{fuel i dn:Nat}{o:Oper}{K:Env->World->Prop}(hT:jU P T Z)(hr:Rel Z s σs A L σ w)(hi:ops[i]? =some o)(hB:Yb ops (tw z) listed i=true)(hp:Z7 P T n mem ops o s=some (dn,v))(hSw:S w)
  (hS:mem=true->∀w',S w'->Ext Z s σs A L σ w w') (hG:∀w',S w'->GS Z σs w') (h:∀σ',Rel Z (s.set dn v) σs A L σ' w->WD P n ops S (tw z) fuel (listed.setIfInBounds i true) K σ' w):WD P n ops S (tw z) (fuel+1) listed K σ w:=by
 obtain⟨d,op,ty,pos,after,g⟩:=o;have hm:=hr.mem;unfold Z7 at hp;simp only at hp;split at hp
 ·cases hp
 ·rename_i d';cases hn:Nat.blt d' n with
  |false=>rw[hn]at hp;cases hp
  |true=>
   rw[hn]at hp;simp only[Awo,Axh]at hp;try dsimp only[Df]at hp
   split at hp
   ·
    cases hv:uK P T mem s op with
    |none=>rw[hv]at hp;cases hp
    |some u=>
     rw[hv]at hp;cases hp;obtain⟨h1,val,h2,h3⟩:=zD hT hr hv hS hG;exact WD.x i hi hB hn hSw h2 (h _ (hr.set (.put h1 h3)))
   ·rename_i j want;split at hp
    ·cases hp
    ·rename_i t hj;split at hp
     ·rename_i b hb;have ht:=pI hm.sl hb;cases hw:lR want b with
      |true=>
       rw[hw]at hp;dsimp only[Df,cond]at hp;cases hv:uK P T mem s op with
       |none=>rw[hv]at hp;cases hp
       |some u=>
        rw[hv]at hp;cases hp;obtain⟨h1,val,h2,h3⟩:=zD hT hr hv hS hG;have hbw:(b==want)=true:=by rw[<-aP];exact hw
        refine WD.gx (v:=val) i hi hB hn hj ht hSw (λ_=>h2) (h _ ?_);rw[yQ hbw];exact hr.set (.put h1 h3)
      |false=>
       rw[hw]at hp;cases hp;have hbw:(b==want)=false:=by rw[<-aP];exact hw
       refine WD.gx (v:=Go.undef) i hi hB hn hj ht hSw (λhg=>by rw[hbw]at hg;cases hg) (h _ ?_);rw[Abr hbw];exact hr.set (show Xy σ dn Go.undef dn=Go.undef from Zw _ _ _)
     ·rename_i hb;cases hp;have h1:=Rm (t:=t) hm.sl;rw[hb]at h1;exact WD.gxU i hi hB hn hj h1 hSw (h _ (hr.set (show Xy σ dn Go.undef dn=Go.undef from Zw _ _ _)))
     ·rename_i b hb;have ht:=PW hm.sl hb;cases hne:Nat.beq d' t with
      |true=>rw[hne]at hp;cases hp
      |false=>
       rw[hne]at hp;dsimp only[Df,cond]at hp;cases hv:uK P T mem (s.res t want) op with
       |none=>rw[hv]at hp;cases hp
       |some u=>
        rw[hv]at hp;cases hp;by_cases hbw:b=want
        ·subst hbw;obtain⟨h1,val,h2,h3⟩:=zD hT (hr.res ht) hv (λhm w' hw=>Aog (hS hm w' hw) ht) hG;refine WD.gx (v:=val) i hi hB hn hj ht hSw (λ_=>h2) (h _ ?_);rw[yQ Axl];exact hr.set (xG ht hne (λ_=>h3) (λe=>absurd rfl e))
        ·refine WD.gx (v:=Go.undef) i hi hB hn hj ht hSw (λhg=>absurd (by simpa using hg) hbw) (h _ ?_);rw[Abr (by simpa using hbw)];exact hr.set (xG ht hne (λe=>absurd e hbw) (λ_=>rfl))
     ·cases hp
theorem eB{z:Array Bool}:∀{is:List Nat} {i d:Nat} {v:BG},KJ P n ops z listed s is=some (i,d,v)->∃o,ops[i]? =some o/\Yb ops (tw z) listed i=true/\O6 P n ops o s=some (d,v)
 |[],_,_,_,h=>by simp[KJ]at h
 |j::is,i,d,v,h=>by
  simp only[KJ]at h;split at h
  ·cases h
  ·rename_i o ho;split at h
   ·rename_i d' v' hp;cases h;cases ht:Yb ops (tw z) listed j with
    |true=>rw[ht]at hp;exact⟨o,ho,by first|exact ht|rfl,hp⟩
    |false=>rw[ht]at hp;cases hp
   ·exact eB h
theorem Aly{S:World->Prop}{z:Array Bool}{fuel i dn:Nat}{o:Oper}{x:b.X}{K:Env->World->Prop}(hr:Rel Z s σs A L σ w)(hi:ops[i]? =some o)(hB:Yb ops (tw z) listed i=true)(hp:O6 P n ops o s=some (dn, .on b))(hx:b.E=some x)(hSw:S w)
  (h:∀σ',Rel Z (s.set dn (b.v x)) σs A L σ' w->WD P n ops S (tw z) fuel (listed.setIfInBounds i true) K σ' w):WD P n ops S (tw z) (fuel+1) listed K σ w:=by
 obtain⟨d,op,ty,pos,after,g⟩:=o;have hm:=hr.mem;unfold O6 at hp;simp only at hp;split at hp
 ·cases hp
 ·rename_i d';cases hn:Nat.blt d' n with
  |false=>rw[hn]at hp;cases hp
  |true=>
   rw[hn]at hp;simp only[Awo,Axh]at hp;try dsimp only[Df]at hp
   split at hp
   ·cases hv:Ti P s op with
    |none=>rw[hv]at hp;cases hp
    |some u=>
     rw[hv]at hp;cases hp;obtain⟨h1,val,h2,h3⟩:=Abj hr hv hx;exact WD.x i hi hB hn hSw (λw' _=>h2 w') (h _ (hr.set (.put h1 h3)))
   ·rename_i j want;split at hp
    ·cases hp
    ·rename_i t hj;split at hp
     ·rename_i c hb;have ht:=pI hm.sl hb;cases hw:lR want c with
      |true=>
       rw[hw]at hp;dsimp only[Df,cond]at hp;cases hv:Ti P s op with
       |none=>rw[hv]at hp;cases hp
       |some u=>
        rw[hv]at hp;cases hp;obtain⟨h1,val,h2,h3⟩:=Abj hr hv hx;have hbw:(c==want)=true:=by rw[<-aP];exact hw
        refine WD.gx (v:=val) i hi hB hn hj ht hSw (λ_ w' _=>h2 w') (h _ ?_);rw[yQ hbw];exact hr.set (.put h1 h3)
      |false=>rw[hw]at hp;cases hp
     ·rename_i c hb;cases hne:Nat.beq d' t with
      |true=>rw[hne]at hp;cases hp
      |false=>
       rw[hne]at hp;dsimp only[Df,cond]at hp;cases hv:Ti P (s.res t want) op with
       |none=>rw[hv]at hp;cases hp
       |some u=>rw[hv]at hp;cases hp
     ·cases hp
theorem Ae3{S:World->Prop}{z:Array Bool}{fuel i dn t:Nat}{want bv:Bool}{o:Oper}{K:Env->World->Prop}{X:Go.Rx.S->Option R}(hr:Rel Z s σs A L σ w)(hi:ops[i]? =some o)(hB:Yb ops (tw z) listed i=true)(hp:O6 P n ops o s=some (dn, .ask t want bv b))(hSw:S w)
  (hx:(Df (lR want bv) (Option.bind b.E λx=>X ((s.res t bv).set dn (b.v x)))<|X ((s.res t bv).set dn .off))=some r)
  (h:∀s',s'.it=s.it->∀σ',Rel Z s' σs A L σ' w->X s'=some r->WD P n ops S (tw z) fuel (listed.setIfInBounds i true) K σ' w):WD P n ops S (tw z) (fuel+1) listed K σ w:=by
 obtain⟨d,op,ty,pos,after,g⟩:=o;have hm:=hr.mem;unfold O6 at hp;simp only at hp;split at hp
 ·cases hp
 ·rename_i d';cases hn:Nat.blt d' n with
  |false=>rw[hn]at hp;cases hp
  |true=>
   rw[hn]at hp;simp only[Awo,Axh]at hp;try dsimp only[Df]at hp
   split at hp
   ·cases hv:Ti P s op with
    |none=>rw[hv]at hp;cases hp
    |some u=>rw[hv]at hp;cases hp
   ·rename_i j want';split at hp
    ·cases hp
    ·rename_i t' hj;split at hp
     ·rename_i c hb;cases hw:lR want' c with
      |true=>
       rw[hw]at hp;dsimp only[Df,cond]at hp;cases hv:Ti P s op with
       |none=>rw[hv]at hp;cases hp
       |some u=>rw[hv]at hp;cases hp
      |false=>rw[hw]at hp;cases hp
     ·rename_i c hb;have ht:=PW hm.sl hb;cases hne:Nat.beq d' t' with
      |true=>rw[hne]at hp;cases hp
      |false=>
       rw[hne]at hp;dsimp only[Df,cond]at hp;cases hv:Ti P (s.res t' want') op with
       |none=>rw[hv]at hp;cases hp
       |some u=>
        rw[hv]at hp;cases hp;cases hw:lR want bv with
        |true=>
         rw[hw]at hx;dsimp only[Df,cond]at hx;obtain⟨x,hx,hk⟩:=bind_some hx;have hbw:bv=want:=by cases want<;>cases bv<;>simp_all [lR]
         subst hbw;obtain⟨h1,val,h2,h3⟩:=Abj (hr.res ht) hv hx;refine WD.gx (v:=val) i hi hB hn hj ht hSw (λ_ w' _=>h2 w') (h ((s.res t bv).set dn (b.v x)) rfl _ ?_ hk);rw[yQ Axl];exact(hr.res ht).set (.put h1 h3)
        |false=>
         rw[hw]at hx;dsimp only[Df,cond]at hx;have hbw:(bv==want)=false:=by rw[<-aP];exact hw
         refine WD.gx (v:=Go.undef) i hi hB hn hj ht hSw (λhg=>by rw[hbw]at hg;cases hg) (h ((s.res t bv).set dn .off) rfl _ ?_ hx);rw[Abr hbw];exact(hr.res ht).set (show Xy σ dn Go.undef dn=Go.undef from Zw _ _ _)
     ·cases hp
theorem yM{z:Array Bool}:∀{is:List Nat} {i:Nat} {v:Nat×TypeId×Nat×List Step},UB n ops z listed s is=some (i,v)->∃o,ops[i]? =some o/\Yb ops (tw z) listed i=true/\Aoz n ops o s=some v
 |[],_,_,h=>by simp[UB]at h
 |j::is,i,v,h=>by
  simp only[UB]at h;split at h
  ·cases h
  ·rename_i o ho;split at h
   ·rename_i v' hp;cases h;cases ht:Yb ops (tw z) listed j with
    |true=>rw[ht]at hp;exact⟨o,ho,by first|exact ht|rfl,hp⟩
    |false=>rw[ht]at hp;cases hp
   ·exact yM h
theorem Apk{d dn:Nat}{t:TypeId}{j:Nat}{p:List Step}{u:PV}{kk:PV->Option R}(hr:Rel Z s σs A L σ w)(hp:An0 s d o=some (dn,t,j,p))(h:getRoot (Cx s.it j) p kk=some r):
  d=dn/\∃u,kk u=some r/\ (Ok P t u=true->u.isV=true/\∃val,(∀w',Ext Z s σs A L σ w w'->XO P σ w' o val)/\Fs (λb=>A b/\Z.R b) w L u val):=by
 have hm:=hr.mem;unfold An0 at hp;split at hp
 ·rename_i t' x;split at hp
  ·rename_i i p' hx;split at hp
   ·cases hp
   ·rename_i hne;cases hp;obtain⟨md,b,h1,h2,h3⟩:=Zi (Dh hm.sl hx rfl);obtain⟨h4,_⟩:=hm.root h1 (λe=>hne e);obtain⟨u,c1,c2,c3,hk,he,h5,h6⟩:=H8 h h4;refine⟨rfl,u,hk,λhb=>?_⟩;obtain⟨val,h7,h8⟩:=eW (P:=P) (σ:=σ) (x:=x) (b:=b) (off:=Ay p) (Rj hb) h6 h3;obtain⟨hv,hv'⟩:=Lh h7;refine⟨hv,val,λw' hext=>h8 w' λq hq=>?_,hv'⟩;obtain⟨A',L',it',ha,hr'⟩:=hext.ex;have h10:(L++L')[j]? =some md:=by rw[List.getElem?_append_left (List.getElem?_eq_some_iff.1 h1).1];exact h1
    rw[hr'.cells h10 h2 _ (by rw[he];simp;omega),he,List.getElem?_append_right F0,h5,show Ay p+q-Ay p=q by omega,List.getElem?_append_left hq]
  ·cases hp
 ·cases hp
theorem At2{S:World->Prop}{z:Array Bool}{fuel i dn j:Nat}{t:TypeId}{p:List Step}{o:Oper}{kk:PV->Option R}{K:Env->World->Prop}(hr:Rel Z s σs A L σ w)(hi:ops[i]? =some o)(hB:Yb ops (tw z) listed i=true)(hp:Aoz n ops o s=some (dn,t,j,p))(hg:getRoot (Cx s.it j) p kk=some r)(hSw:S w)
  (hS:∀w',S w'->Ext Z s σs A L σ w w') (hkk:∀u,kk u=some r->Ok P t u=true)
  (h:∀u σ',kk u=some r->Rel Z (s.set dn u) σs A L σ' w->WD P n ops S (tw z) fuel (listed.setIfInBounds i true) K σ' w):WD P n ops S (tw z) (fuel+1) listed K σ w:=by
 obtain⟨d,op,ty,pos,after,g⟩:=o;have hm:=hr.mem;unfold Aoz at hp;simp only at hp;split at hp
 ·cases hp
 ·rename_i d';cases hn:Nat.blt d' n with
  |false=>rw[hn]at hp;cases hp
  |true=>
   rw[hn]at hp;simp only[Awo,Axh]at hp;try dsimp only[Df]at hp
   split at hp
   ·obtain⟨rfl,u,hk,hu⟩:=Apk (P:=P) (u:= .undef) hr hp hg;obtain⟨h1,val,h2,h3⟩:=hu (hkk u hk);exact WD.x i hi hB hn hSw (λw' hw=>h2 w' (hS w' hw)) (h u _ hk (hr.set (.put h1 h3)))
   ·rename_i q want;split at hp
    ·cases hp
    ·rename_i t' hj;split at hp
     ·rename_i c hb;have ht:=pI hm.sl hb;cases hw:lR want c with
      |true=>
       rw[hw]at hp;dsimp only[Df,cond]at hp;obtain⟨rfl,u,hk,hu⟩:=Apk (P:=P) (u:= .undef) hr hp hg;obtain⟨h1,val,h2,h3⟩:=hu (hkk u hk);have hbw:(c==want)=true:=by rw[<-aP];exact hw
       refine WD.gx (v:=val) i hi hB hn hj ht hSw (λ_ w' hw=>h2 w' (hS w' hw)) (h u _ hk ?_);rw[yQ hbw];exact hr.set (.put h1 h3)
      |false=>rw[hw]at hp;cases hp
     ·cases hp
theorem Agn{i t:Nat}{b:Bool}(hr:Rel Z s σs A L σ w)(h:Abl ops s i=some (t,b)):σ t= .bool b:=by
 unfold Abl at h;split at h
 ·cases h
 ·split at h
  ·cases h
  ·split at h
   ·cases h
   ·split at h
    ·rename_i hb;cases h;exact PW hr.mem.sl hb
    ·split at h
     ·rename_i hb;cases h;exact PW hr.mem.sl hb
     ·cases h
    ·cases h
theorem jE{fin:S->Option R}:∀{l:List Nat} {s:Go.Rx.S},Rel Z s σs A L σ w->ZZ ops l s fin=some r->∃s',Rel Z s' σs A L σ w/\s'.it=s.it/\fin s'=some r
 |[],s,hr,h=>⟨s,hr,rfl,h⟩
 |i::l,s,hr,h=>by
  rw[ZZ]at h;split at h
  ·rename_i t b hg;have ht:=Agn hr hg;cases b with
   |true=>
    obtain⟨s',h1,h2,h3⟩:=jE (l:=l) (hr.res ht) (by simpa using h);exact⟨s',h1,h2,h3⟩
   |false=>
    obtain⟨s',h1,h2,h3⟩:=jE (l:=l) (hr.res ht) (by simpa using h);exact⟨s',h1,h2,h3⟩
  ·exact jE (l:=l) hr h
theorem Aqp(hT:jU P T Z)(hI:WY P T.gl inl):∀{fuel:Nat} {z0:Array Bool} {listed:Array Bool} {s:S} {A:Reg} {L:List MD} {σ:Env} {w:World} {S:World->Prop},Rel Z s σs A L σ w->TP P T inl n mem ops fuel z0 listed s k=some r->
  (mem=true->RU (tw z0) listed=true\/∀w',sT Z σs A L s.it w w'->S w')-> (mem=false->∀w',GS Z σs w'->S w')->
  WD P n ops S (tw z0) fuel listed (λσ' w'=>∃s' A' L',k s'=some r/\Rel Z s' σs A' L' σ' w') σ w:=by
 intro fuel
 induction fuel with
 |zero=>
  intro z0 listed s A L σ w S hr h hI1 hI2;unfold TP at h;split at h
  ·rename_i hrd;exact WD.done hrd ⟨s,A,L,h,hr⟩
  ·cases h
 |succ fuel ih=>
  intro z0 listed s A L σ w S hr h hI1 hI2;unfold TP at h;split at h
  ·rename_i hrd;exact WD.done hrd ⟨s,A,L,h,hr⟩
  ·rename_i i is hrd;simp only at h;have rest:∀(z:Array Bool) (S:World->Prop) (s:Go.Rx.S),Rel Z s σs A L σ w-> (mem=true->∀w',sT Z σs A L s.it w w'->S w')-> (mem=false->∀w',GS Z σs w'->S w')->
     both (match ops[i]? with
        |some o=>Df (mem&& !((K5 T s o&&gOk ops s o)||(!tw z i&&RU (tw z) (listed.setIfInBounds i true)))) (none)<|
         mM P T inl n ops o s λs'=>TP P T inl n mem ops fuel z (listed.setIfInBounds i true) s' k
        |none=>none) (is.map λi=>match ops[i]? with
        |some o=>Df (mem&& !((K5 T s o&&gOk ops s o)||(!tw z i&&RU (tw z) (listed.setIfInBounds i true)))) (none)<|
         mM P T inl n ops o s λs'=>TP P T inl n mem ops fuel z (listed.setIfInBounds i true) s' k
        |none=>none)=some r->WD P n ops S (tw z) (fuel+1) listed (λσ' w'=>∃s' A' L',k s'=some r/\Rel Z s' σs A' L' σ' w') σ w:=by
    intro z S s hr hS1 hS2 h;obtain⟨h1,h2⟩:=Z0 h;refine WD.steps hrd rfl ?_;intro q hq;have hone:(match ops[q]? with
       |some o=>Df (mem&& !((K5 T s o&&gOk ops s o)||(!tw z q&&RU (tw z) (listed.setIfInBounds q true)))) (none)<|
        mM P T inl n ops o s λs'=>TP P T inl n mem ops fuel z (listed.setIfInBounds q true) s' k
       |none=>none)=some r:=by
     rcases List.mem_cons.1 hq with rfl|hq
     ·exact h1
     ·exact h2 _ (List.mem_map_of_mem hq)
    split at hone
    ·rename_i o ho;refine⟨o,ho,?_⟩;cases hc:(mem&& !((K5 T s o&&gOk ops s o)||(!tw z q&&RU (tw z) (listed.setIfInBounds q true))))with
     |true=>rw[hc]at hone;cases hone
     |false=>
      rw[hc]at hone;dsimp only[Df,cond]at hone;refine VG (Aes hT hI hr hone) ?_;rintro σ' w' ⟨s',A',L',g1,g2,g3⟩;cases hmem:mem with
      |true=>
       subst hmem;simp only[Avi,Bool.not_eq_false',Ash,Aa5,Ap1]at hc;rcases hc with hc|⟨hc1,hc2⟩
       ·have g4:=g3 hc;refine⟨λ_=>hS1 rfl _ ⟨s',σ',A',L',g2,g4⟩,ih g2 g1 (λ_=> .inr λw'' hw=>?_) (λe=>by cases e)⟩;obtain⟨s2,σ2,A2,L2,h5,h6⟩:=hw;exact hS1 rfl _ ⟨s2,σ2,A2,L2,h5,g4.trans h6⟩
       ·refine⟨λhlt=>?_,ih g2 g1 (λ_=> .inl hc2) (λe=>by cases e)⟩;rw[hlt]at hc1;cases hc1
      |false=>
       subst hmem;exact⟨λ_=>hS2 rfl _ ⟨_,_,_,_,g2⟩,ih g2 g1 (λe=>by cases e) hS2⟩
    ·cases hone
   have main:∀(z:Array Bool) (S:World->Prop) (s:Go.Rx.S) (F:Option R),Rel Z s σs A L σ w-> (mem=true->∀w',sT Z σs A L s.it w w'->S w')-> (mem=false->∀w',GS Z σs w'->S w')-> (F=some r->WD P n ops S (tw z) (fuel+1) listed (λσ' w'=>∃s' A' L',k s'=some r/\Rel Z s' σs A' L' σ' w') σ w)->
     (match CJ P T n mem ops z listed s (i::is)with
      |some (i,d,v)=>TP P T inl n mem ops fuel z (listed.setIfInBounds i true) (s.set d v) k
      |none=>match KJ P n ops z listed s (i::is)with
       |some (i,d, .on b)=>Option.bind b.E λx=>TP P T inl n mem ops fuel z (listed.setIfInBounds i true) (s.set d (b.v x)) k
       |some (i,d, .ask t want bv b)=>if bv=true then
         (Df (lR want true) (Option.bind b.E λx=>TP P T inl n mem ops fuel z (listed.setIfInBounds i true) ((s.res t true).set d (b.v x)) k)<|TP P T inl n mem ops fuel z (listed.setIfInBounds i true) ((s.res t true).set d .off) k)
         else(Df (lR want false) (Option.bind b.E λx=>TP P T inl n mem ops fuel z (listed.setIfInBounds i true) ((s.res t false).set d (b.v x)) k)<|TP P T inl n mem ops fuel z (listed.setIfInBounds i true) ((s.res t false).set d .off) k)
       |none=>match(Df (mem) (UB n ops z listed s (i::is))<|none)with
       |some (i,d,t,j,p)=>getRoot (Cx s.it j) p λu=>Df (Ok P t u) (TP P T inl n mem ops fuel z (listed.setIfInBounds i true) (s.set d u) k)<|none
       |none=>F)=some r->WD P n ops S (tw z) (fuel+1) listed (λσ' w'=>∃s' A' L',k s'=some r/\Rel Z s' σs A' L' σ' w') σ w:=by
    intro z S s F hr hS1 hS2 hfin h;split at h
    ·rename_i i' d v hp;obtain⟨o,ho,hB,hp⟩:=qV hp;cases hmem:mem with
     |true=>
      subst hmem;refine WD.A3 (S':=sT Z σs A L s.it w) (hS1 rfl) (Aex hT hr ho hB hp (.refl hr) (λ_ w' hw=>hw.ext hr) (λw' hw=>(hw.ext hr).gs) λσ' hr'=>?_);exact ih hr' h (λ_=> .inr λw' hw=>hw) (λe=>by cases e)
     |false=>
      subst hmem;refine WD.A3 (S':=GS Z σs) (hS2 rfl) (Aex hT hr ho hB hp ⟨_,_,_,_,hr⟩ (λe=>by cases e) (λw' hw=>hw) λσ' hr'=>?_);exact ih hr' h (λe=>by cases e) (λ_ w' hw=>hw)
    ·split at h
     ·rename_i i' d b hp;obtain⟨o,ho,hB,hp⟩:=eB hp;obtain⟨x,hx,h⟩:=bind_some h;cases hmem:mem with
      |true=>
       subst hmem;refine WD.A3 (S':=sT Z σs A L s.it w) (hS1 rfl) (Aly hr ho hB hp hx (.refl hr) λσ' hr'=>?_);exact ih hr' h (λ_=> .inr λw' hw=>hw) (λe=>by cases e)
      |false=>
       subst hmem;refine Aly hr ho hB hp hx (hS2 rfl _ ⟨_,_,_,_,hr⟩) λσ' hr'=>?_;exact ih hr' h (λe=>by cases e) hS2
     ·rename_i i' d t want bv b hp;obtain⟨o,ho,hB,hp⟩:=eB hp;have h:(Df (lR want bv) (Option.bind b.E λx=>TP P T inl n mem ops fuel z (listed.setIfInBounds i' true) ((s.res t bv).set d (b.v x)) k)<|TP P T inl n mem ops fuel z (listed.setIfInBounds i' true) ((s.res t bv).set d .off) k)=some r:=by
       cases bv with
       |true=>simpa using h
       |false=>simpa using h
      cases hmem:mem with
      |true=>
       subst hmem;refine WD.A3 (S':=sT Z σs A L s.it w) (hS1 rfl) (Ae3 (X:=λs'=>TP P T inl n true ops fuel z (listed.setIfInBounds i' true) s' k) hr ho hB hp (.refl hr) h λs' hs' σ' hr' h=>?_);exact ih hr' h (λ_=> .inr λw' hw=>hs'▸hw) (λe=>by cases e)
      |false=>
       subst hmem;refine Ae3 (X:=λs'=>TP P T inl n false ops fuel z (listed.setIfInBounds i' true) s' k) hr ho hB hp (hS2 rfl _ ⟨_,_,_,_,hr⟩) h λs' hs' σ' hr' h=>?_;exact ih hr' h (λe=>by cases e) hS2
     ·split at h
      ·rename_i i' d t j p hp;cases hmem:mem with
       |false=>rw[hmem]at hp;cases hp
       |true=>
        subst hmem;dsimp only[Df,cond]at hp;obtain⟨o,ho,hB,hp⟩:=yM hp;refine WD.A3 (S':=sT Z σs A L s.it w) (hS1 rfl) (At2 (P:=P) hr ho hB hp h (.refl hr) (λw' hw=>hw.ext hr) (λu hu=>(Bb hu).1) λu σ' hu hr'=>?_);exact ih hr' (Bb hu).2 (λ_=> .inr λw' hw=>hw) (λe=>by cases e)
      exact hfin h
   have all:∀(z:Array Bool) (S:World->Prop),(mem=true->∀w',sT Z σs A L s.it w w'->S w')-> (mem=false->∀w',GS Z σs w'->S w')->
     (match CJ P T n mem ops z listed s (i::is)with
      |some (i,d,v)=>TP P T inl n mem ops fuel z (listed.setIfInBounds i true) (s.set d v) k
      |none=>match KJ P n ops z listed s (i::is)with
       |some (i,d, .on b)=>Option.bind b.E λx=>TP P T inl n mem ops fuel z (listed.setIfInBounds i true) (s.set d (b.v x)) k
       |some (i,d, .ask t want bv b)=>if bv=true then
         (Df (lR want true) (Option.bind b.E λx=>TP P T inl n mem ops fuel z (listed.setIfInBounds i true) ((s.res t true).set d (b.v x)) k)<|TP P T inl n mem ops fuel z (listed.setIfInBounds i true) ((s.res t true).set d .off) k)
         else(Df (lR want false) (Option.bind b.E λx=>TP P T inl n mem ops fuel z (listed.setIfInBounds i true) ((s.res t false).set d (b.v x)) k)<|TP P T inl n mem ops fuel z (listed.setIfInBounds i true) ((s.res t false).set d .off) k)
       |none=>match(Df (mem) (UB n ops z listed s (i::is))<|none)with
       |some (i,d,t,j,p)=>getRoot (Cx s.it j) p λu=>Df (Ok P t u) (TP P T inl n mem ops fuel z (listed.setIfInBounds i true) (s.set d u) k)<|none
       |none=>(λs=>Df mem (ZZ ops ((i::is)++(i::is)) s λs=>(match CJ P T n mem ops z listed s (i::is)with
      |some (i,d,v)=>TP P T inl n mem ops fuel z (listed.setIfInBounds i true) (s.set d v) k
      |none=>match KJ P n ops z listed s (i::is)with
       |some (i,d, .on b)=>Option.bind b.E λx=>TP P T inl n mem ops fuel z (listed.setIfInBounds i true) (s.set d (b.v x)) k
       |some (i,d, .ask t want bv b)=>if bv=true then
         (Df (lR want true) (Option.bind b.E λx=>TP P T inl n mem ops fuel z (listed.setIfInBounds i true) ((s.res t true).set d (b.v x)) k)<|TP P T inl n mem ops fuel z (listed.setIfInBounds i true) ((s.res t true).set d .off) k)
         else(Df (lR want false) (Option.bind b.E λx=>TP P T inl n mem ops fuel z (listed.setIfInBounds i true) ((s.res t false).set d (b.v x)) k)<|TP P T inl n mem ops fuel z (listed.setIfInBounds i true) ((s.res t false).set d .off) k)
       |none=>match(Df (mem) (UB n ops z listed s (i::is))<|none)with
       |some (i,d,t,j,p)=>getRoot (Cx s.it j) p λu=>Df (Ok P t u) (TP P T inl n mem ops fuel z (listed.setIfInBounds i true) (s.set d u) k)<|none
       |none=>both (match ops[i]? with
        |some o=>Df (mem&& !((K5 T s o&&gOk ops s o)||(!tw z i&&RU (tw z) (listed.setIfInBounds i true)))) (none)<|
         mM P T inl n ops o s λs'=>TP P T inl n mem ops fuel z (listed.setIfInBounds i true) s' k
        |none=>none) (is.map λi=>match ops[i]? with
        |some o=>Df (mem&& !((K5 T s o&&gOk ops s o)||(!tw z i&&RU (tw z) (listed.setIfInBounds i true)))) (none)<|
         mM P T inl n ops o s λs'=>TP P T inl n mem ops fuel z (listed.setIfInBounds i true) s' k
        |none=>none)))<|both (match ops[i]? with
        |some o=>Df (mem&& !((K5 T s o&&gOk ops s o)||(!tw z i&&RU (tw z) (listed.setIfInBounds i true)))) (none)<|
         mM P T inl n ops o s λs'=>TP P T inl n mem ops fuel z (listed.setIfInBounds i true) s' k
        |none=>none) (is.map λi=>match ops[i]? with
        |some o=>Df (mem&& !((K5 T s o&&gOk ops s o)||(!tw z i&&RU (tw z) (listed.setIfInBounds i true)))) (none)<|
         mM P T inl n ops o s λs'=>TP P T inl n mem ops fuel z (listed.setIfInBounds i true) s' k
        |none=>none)) s)=some r->WD P n ops S (tw z) (fuel+1) listed (λσ' w'=>∃s' A' L',k s'=some r/\Rel Z s' σs A' L' σ' w') σ w:=by
    intro z S hS1 hS2 h;refine main z S s _ hr hS1 hS2 (λhF=>?_) h;clear h;cases hmem:mem with
    |false=>
     simp only[hmem,Df]at hF;subst hmem;exact rest z S s hr hS1 hS2 hF
    |true=>
     simp only[hmem,Df]at hF;subst hmem;obtain⟨s',hr',hit,h'⟩:=jE hr hF;refine main z S s' _ hr' (by rw[hit];exact hS1) hS2 (λhG=>?_) h';exact rest z S s' hr' (by rw[hit];exact hS1) hS2 hG
   cases hz:(mem&&RU (tw z0) listed)with
   |true=>
    rw[hz]at h;simp only[Aa5]at hz;obtain⟨hm,hov⟩:=hz;subst hm;exact WD.next (S':=sT Z σs A L s.it w) _ hov (all _ _ (λ_ w' hw=>hw) (λe=>by cases e) h)
   |false=>
    rw[hz]at h;refine all _ _ (λhm=>?_) hI2 h;subst hm;rcases hI1 rfl with h1|h1
    ·rw[h1]at hz;cases hz
    ·exact h1
end Go.Rx
namespace Go.Rx
open Go Go.Lv
variable{p:PV}
variable {P:Program} {B B':Reg} {w w':World} {L L':List MD} {s:S} {σs:List Env} {σ:Env} {Z:Fix} {A A':Reg} {n:Nat} {ops:Array Oper}
variable {R:Type} {k:S->Option R} {r:R}
def Apw(w:World)(A:Reg)(L:List Mob)(os:Nat->Option Nat):Prop:=
 (∀(i:Nat) (m:Mob),L[i]? =some m->m.holds (os i) w/\∀b,os i=some b-> ¬A b/\b<w.heap.size)/\∀i j b,i<L.length->j<L.length->i≠j->os i=some b->os j≠some b
theorem Dp.toI:∀{L:List Mob} {A:Reg},Dp w A L->∃os,Apw w A L os
 |[],A,_=>⟨λ_=>none,λi m h=>by simp at h,λi j b h=>by simp at h⟩
 |m::L,A,⟨o,h1,h2,h3⟩=>by
  obtain⟨os,g1,g2⟩:=Dp.toI h3;refine⟨λi=>match i with|0=>o|i+1=>os i,λi m' h=>?_,λi j b hi hj hij h=>?_⟩
  ·cases i with
   |zero=>simp at h;subst h;exact⟨h1,h2⟩
   |succ i=>
    obtain⟨g3,g4⟩:=g1 i m' (by simpa using h);exact⟨g3,λb hb=>⟨λhA=>(g4 b hb).1 (.inl hA),(g4 b hb).2⟩⟩
  ·have key:∀q,q<L.length->∀b,os q=some b->o≠some b:=λq hq b hb ho=>by
    exact((g1 q L[q] (by simp[hq])).2 b hb).1 (.inr ho)
   cases i with
   |zero=>
    cases j with
    |zero=>exact absurd rfl hij
    |succ j=>intro hb;exact key j (by simpa using hj) b hb h
   |succ i=>
    cases j with
    |zero=>exact key i (by simpa using hi) b h
    |succ j=>exact g2 i j b (by simpa using hi) (by simpa using hj) F0 h
theorem Dp.ofI:∀{L:List Mob} {A:Reg} {os:Nat->Option Nat},Apw w A L os->Dp w A L
 |[],_,_,_=>trivial
 |m::L,A,os,⟨g1,g2⟩=>by
  obtain⟨h1,h2⟩:=g1 0 m rfl;refine⟨os 0,h1,h2,Dp.ofI (os:=λi=>os (i+1)) ⟨λi m' h=>?_,λi j b hi hj hij h=>?_⟩⟩
  ·obtain⟨g3,g4⟩:=g1 (i+1) m' (by simpa using h);refine⟨g3,λb hb=>⟨λhA=>?_,(g4 b hb).2⟩⟩;rcases hA with hA|hA
   ·exact(g4 b hb).1 hA
   ·have hlt:i<L.length:=(List.getElem?_eq_some_iff.1 h).1;exact g2 0 (i+1) b Axl (by simpa using hlt) F0 hA hb
  ·exact g2 (i+1) (j+1) b (by simpa using hi) (by simpa using hj) F0 h
def distinct:List Nat->Bool|[]=>true|i::r=>!Zn i r&&distinct r
theorem pM:∀{l:List Nat} {i j q:Nat},distinct l=true->l[i]? =some q->l[j]? =some q->i=j
 |[],_,_,_,_,h,_=>by simp at h
 |a::l,i,j,q,hd,hi,hj=>by
  simp only[distinct,Aa5,Ap1]at hd;have hn:a∉l:=λh=>by have:=BZ.2 h;rw[hd.1]at this;cases this
  cases i with
  |zero=>
   cases j with
   |zero=>rfl
   |succ j=>simp at hi hj;subst hi;exact absurd (List.mem_of_getElem? hj) hn
  |succ i=>
   cases j with
   |zero=>simp at hi hj;subst hj;exact absurd (List.mem_of_getElem? hi) hn
   |succ j=>exact congrArg (· +1) (pM (q:=q) hd.2 (by simpa using hi) (by simpa using hj))
theorem zM{w:World}:MD.dead.Jy.holds none w:=⟨none,0,0,rfl,Axl,Apn _,λ_=>rfl,λ_=>rfl,λb h=>by cases h⟩
theorem getD_some{i:Nat}{md:MD}(h:L[i]? =some md):L.getD i .dead=md:=by simp[List.getD_eq_getElem?_getD,h]
theorem getD_none{i:Nat}(h:L[i]? =none):L.getD i .dead= .dead:=by simp[List.getD_eq_getElem?_getD,h]
def Aa1(o:List Nat)(L:List MD)(os:Nat->Option Nat)(j:Nat):Option Nat:=match o[j]? with|some i=>(match L[i]? with|some _=>os i|none=>none)|none=>none
theorem mC{o:List Nat}{os:Nat->Option Nat}{i j:Nat}{md:MD}(h:o[j]? =some i)(hL:L[i]? =some md):Aa1 o L os j=os i:=by unfold Aa1;rw[h];simp only[hL]
theorem nP{o:List Nat}{os:Nat->Option Nat}{i j:Nat}(h:o[j]? =some i)(hL:L[i]? =none):Aa1 o L os j=none:=by unfold Aa1;rw[h];simp only[hL]
theorem N0{o:List Nat}(h:Dp w A (L.map MD.Jy))(hd:distinct o=true):Dp w A ((o.map λi=>L.getD i .dead).map MD.Jy):=by
 obtain⟨os,g1,g2⟩:=Dp.toI h;refine Dp.ofI (os:=Aa1 o L os) ⟨λj m hm=>?_,λi j b hi hj hij hb=>?_⟩
 ·simp only[List.map_map,List.getElem?_map,Awd,Function.comp]at hm;obtain⟨i,hi,rfl⟩:=hm;cases hL:L[i]? with
  |none=>rw[getD_none hL,nP hi hL];exact⟨zM,λb hb=>by cases hb⟩
  |some md=>rw[getD_some hL,mC hi hL];exact g1 i md.Jy (by simp[hL])
 ·simp only[List.length_map]at hi hj;have e1:o[i]? =some o[i]:=by simp[hi]
  have e2:o[j]? =some o[j]:=by simp[hj]
  have hne:o[i]≠o[j]:=λe=>hij (pM hd e1 (by rw[e2,e]));cases hL1:L[o[i]]? with
  |none=>rw[nP e1 hL1]at hb;cases hb
  |some m1=>
   rw[mC e1 hL1]at hb;cases hL2:L[o[j]]? with
   |none=>rw[nP e2 hL2];simp
   |some m2=>
    rw[mC e2 hL2];exact g2 _ _ b (by simpa using(List.getElem?_eq_some_iff.1 hL1).1) (by simpa using(List.getElem?_eq_some_iff.1 hL2).1) hne hb
theorem Aax{i:Nat}:∀{o:List Nat} {m j:Nat},posOf i o m=some j->∃q,j=m+q/\o[q]? =some i
 |[],_,_,h=>by simp[posOf]at h
 |a::o,m,j,h=>by
  simp only[posOf]at h;cases hb:Nat.beq i a with
  |true=>rw[hb]at h;cases h;exact⟨0,rfl,by simp[Da hb]⟩
  |false=>
   rw[hb]at h;obtain⟨q,h1,h2⟩:=Aax (o:=o) h;exact⟨q+1,F0,by simpa using h2⟩
theorem tR{o:List Nat}{i j:Nat}{md:MD}(h:posOf i o 0=some j)(hL:L[i]? =some md):(o.map λi=>L.getD i .dead)[j]? =some md:=by
 obtain⟨q,h1,h2⟩:=Aax h;rw[Av9]at h1;subst h1;simp[h2,List.getD_eq_getElem?_getD,hL]
theorem Aeh{o:List Nat}:(J4 o p).isA=p.isA:=by
 cases p<;>try rfl
 ·simp only[J4];split<;>rfl
 ·simp only[J4];split<;>rfl
 ·simp only[J4];split<;>rfl
abbrev jZ(L:List MD):Prop:=L.all (λm=>match m with| .own _ _ v _=>v.oneCell'|_=>true)=true
mutual
theorem oU{o:List Nat}(h1:jZ L):∀{p:PV} {cs:List Value},Bj B w L p cs->Bj B w (o.map λi=>L.getD i .dead) (J4 o p) cs
 | .val _ x,cs,h=>h
 | .agg q,cs,h=>Aas h1 (show Bj.go B w L q cs from h)
 | .tup _,_,h=>h.elim
 | .nils,cs,h=>h
 | .own j,cs,⟨z,E,v,c,g1,g2⟩=>by
  simp only[J4];split
  ·rename_i j' hj;exact⟨z,E,v,c,tR hj g1,g2⟩
  ·exact⟨v,g2,List.all_eq_true.1 h1 _ (List.mem_of_getElem? g1)⟩
 | .ptr j q,cs,⟨md,b,g1,g2,g3⟩=>by
  simp only[J4];split
  ·rename_i j' hj;exact⟨md,b,tR hj g1,g2,g3⟩
  ·exact⟨_,g3,rfl⟩
 | .view u j p e lo n,cs,⟨md,v,g1,g2,g3⟩=>by
  simp only[J4];split
  ·rename_i j' hj;exact⟨md,v,tR hj g1,g2,g3⟩
  ·obtain⟨_,_,⟨pt,cap,e',_⟩,_⟩:=g3;exact⟨v,g2,by rw[e'];rfl⟩
 | .rptr v,cs,⟨pv,c0,g1,g2,g3⟩=>⟨pv,c0,g1,g2,oU h1 g3⟩
 | .fn f caps,cs,⟨vs,g1,g2⟩=>⟨vs,g1,eD h1 g2⟩
 | .cap _ _ _,cs,h=>h
 | .bfn f fs,cs,⟨vs,g1,g2⟩=>⟨vs,g1,eD h1 g2⟩
 | .mp ks l,cs,⟨r,es,n,g1,g2,g3,g4,g5⟩=>⟨r,es,n,g1,g2,g3,g4,eD h1 g5⟩
 | .cst v,cs,h=>h
 | .any,cs,h=>h
 | .gd _ _ _,_,h=>h.elim
 | .off,_,h=>h.elim
 | .undef,_,h=>h.elim
theorem Aas{o:List Nat}(h1:jZ L):∀{q:List PV} {cs:List Value},Bj.go B w L q cs->Bj.go B w (o.map λi=>L.getD i .dead) (J4.go o q) cs
 |[],cs,h=>h
 |a::q,cs,⟨c1,c2,e',g1,g2⟩=>⟨c1,c2,e',oU h1 g1,Aas h1 g2⟩
theorem eD{o:List Nat}(h1:jZ L):∀{q:List PV} {vs:List Value},Es B w L q vs->Es B w (o.map λi=>L.getD i .dead) (J4.go o q) vs
 |[],vs,h=>h
 |a::q,vs,⟨v,vs',e',g1,g2⟩=>⟨v,vs',e',by rw[Aeh];exact g1.mono λc h=>oU h1 h,eD h1 g2⟩
end
theorem Aag{o:List Nat}(h1:jZ L){v:Value}(h:Fs B w L p v):Fs B w (o.map λi=>L.getD i .dead) (J4 o p) v:=by
 cases hp:p.eu with
 |true=>
  have h2:Ih B w (o.map λi=>L.getD i .dead) (J4 o p) v:=by
   unfold Ih;rw[Aeh];exact asV.mono (λc h=>oU h1 h) ((fK hp).1 h)
  exact(Lh h2).2
 |false=>
  cases p
  case tup q=>obtain⟨vs,g1,g2⟩:=h;exact⟨vs,g1,eD h1 g2⟩
  case undef=>exact(show False from h).elim
  case off=>exact(show False from h).elim
  case gd=>exact(show False from h).elim
  all_goals cases hp
theorem Af9{o:List Nat}(h1:jZ L){t:Nat}(h:Kb B w L σ t p):Kb B w (o.map λi=>L.getD i .dead) σ t (J4 o p):=by
 cases hv:p.isV with
 |true=>
  have g1:=Aag (o:=o) h1 ((Kb.iff hv).1 h);have g2:(J4 o p).isV=true:=by
   cases p<;>first|rfl|cases hv|skip
   ·simp only[J4];split<;>rfl
   ·simp only[J4];split<;>rfl
   ·simp only[J4];split<;>rfl
  exact(Kb.iff g2).2 g1
 |false=>
  rcases Xh hv with rfl|rfl|⟨j,u,q,rfl⟩
  ·exact trivial
  ·exact h
  ·obtain⟨b,g1,g2,g3⟩:=h;exact⟨b,g1,λe=>Aag h1 (g2 e),g3⟩
theorem D7{o:List Nat}(h1:jZ L){sl:Slots}(h:Gy B w L σ sl):Gy B w (o.map λi=>L.getD i .dead) σ (Afh o sl):=by
 intro p hp;obtain⟨q,hq,rfl⟩:=List.mem_map.1 hp;exact Af9 h1 (h q hq)
theorem G0{o:List Nat}(h1:jZ L):∀{σs:List Env} {st:List Slots},ZL B w L σs st->ZL B w (o.map λi=>L.getD i .dead) σs (st.map (Afh o))
 |[],[],h=>h
 |_::_,_::_,⟨g1,g2⟩=>⟨D7 h1 g1,G0 h1 g2⟩
theorem R2{o:List Nat}(h1:jZ L){a:Item}{md:MD}(h:Zp B w L a md):Zp B w (o.map λi=>L.getD i .dead) (Api o a) md:=by
 cases a<;>cases md<;>first
  |exact h
  |exact⟨h.1,oU h1 h.2⟩
theorem YR{sl:Slots}(h:Gy B w L σ sl):∀(lv:List Nat),Gy B w L σ (lO sl lv)
 |[]=>λp hp=>by simp[lO]at hp
 |t::lv=>by
  intro p hp;simp only[lO]at hp;split at hp
  ·exact YR h lv p hp
  ·exact YR h lv p hp
  ·exact YR h lv p hp
  ·rcases List.mem_cons.1 hp with rfl|hp
   ·exact Rm (s:=⟨sl,[],[]⟩) (t:=t) h
   ·exact YR h lv p hp
theorem lH:∀{l:List Nat} {i:Nat},distinct l=true->Zn i l=false->distinct (l++[i])=true
 |[],_,_,_=>rfl
 |a::l,i,hd,hi=>by
  simp only[distinct,Aa5,Ap1]at hd;simp only[Zn,Av8]at hi;simp only[Awi,distinct,Aa5,Ap1];refine⟨?_,lH hd.2 hi.2⟩;cases hx:Zn a (l++[i])with
  |false=>rfl
  |true=>
   rcases List.mem_append.1 (BZ.1 hx)with h|h
   ·have:=BZ.2 h;rw[hd.1]at this;cases this
   ·simp at h;subst h;simp at hi
theorem QQ{it:List Item}:∀(q:Nat) (todo seen:List Nat),distinct seen=true->distinct (reach it q todo seen)=true
 |0,_,_,h=>h
 |_+1,[],_,h=>h
 |q+1,i::todo,seen,h=>by
  simp only[reach];cases he:Zn i seen with
  |true=>exact QQ q _ _ h
  |false=>exact QQ q _ _ (lH h he)
theorem Alg(hr:Rel Z s σs A L σ w)(lv:List Nat):∃L',Rel Z (s.canon lv) σs A L' σ w:=by
 have hm:=hr.mem;have h1:jZ L:=hr.jZ;unfold S.canon;simp only;generalize ho:reach s.it 200 (jc (lO s.sl lv)++(s.st.map jc).flatten) []=o;have hd:distinct o=true:=by rw[<-ho];exact QQ _ _ _ rfl
 refine⟨o.map λi=>L.getD i .dead,?_⟩;have hst:St A w [oC Z.R L s σs σ, .old Z.M Z.w0] ((o.map λi=>L.getD i .dead).map MD.Jy):=⟨St.lt hr,St.facts hr,N0 (St.mobs hr) hd⟩;refine Rel.as hst (i:=1) rfl ⟨⟨Axl,λj a m g1 g2=>?_⟩,D7 h1 (YR hm.sl lv),G0 h1 hm.stk⟩ rfl;simp only[List.getElem?_map,Awd]at g1 g2;obtain⟨i,g3,rfl⟩:=g1;obtain⟨i',g4,rfl⟩:=g2;rw[g3]at g4;cases g4;cases hi:Cx s.it i with
 |dead=>exact trivial
 |box T v=>
  obtain⟨md,g5,g6⟩:=hm.item hi (by intro e;cases e);rw[getD_some g5];exact R2 h1 g6
 |arr E e l=>
  obtain⟨md,g5,g6⟩:=hm.item hi (by intro e;cases e);rw[getD_some g5];exact R2 h1 g6
theorem yX:∀{p:List Nat} {v u:PV} {cs:List Value},atV v p=some u->Bj B w L v cs-> (∃c,Bj B w L u c)/\∀(B':Reg) (w':World) (L':List MD) (m v':PV),(∀q c,Bj B w L q c->Bj B' w' L' q c)-> (∀c,Bj B w L u c->Bj B' w' L' m c)->m.isA=u.isA->Aco m v p=some v'->Bj B' w' L' v' cs/\v'.isA=v.isA
 |[],v,u,cs,h,hv=>by
  simp only[atV,Aa6]at h;subst h;refine⟨⟨cs,hv⟩,λB' w' L' m v' _ hm hA hp=>?_⟩;simp only[Aco,Aa6]at hp;subst hp;exact⟨hm _ hv,hA⟩
 |i::p,v,u,cs,h,hv=>by
  cases v<;>simp only[atV,reduceCtorEq]at h;rename_i l;split at h
  ·rename_i f hf;obtain⟨c1,c2,c3,e,h1,h2,h3⟩:=Bj.field (show Bj.go B w L l cs from hv) hf;obtain⟨g1,g2⟩:=yX h h2;refine⟨g1,λB' w' L' m v' hq hm hA hp=>?_⟩;simp only[Aco,hf]at hp;split at hp
   ·rename_i f' hf';cases hp;obtain⟨g3,_⟩:=g2 B' w' L' m f' hq hm hA hf';refine⟨?_,rfl⟩;have hl:Bj.go B' w' L' l cs:=show Bj B' w' L' (.agg l) cs from hq _ _ hv;obtain⟨d1,d2,d3,e',k1,k2,k3⟩:=Bj.field hl hf;have:d2=c2:=by
     have l1:d1.length=c1.length:=k1.trans h1.symm;have l2:d2.length=c2.length:=k2.len.trans h2.len.symm;rw[e]at e';obtain⟨e1,e2⟩:=List.append_inj e' l1.symm;obtain⟨e3,_⟩:=List.append_inj e2 l2.symm;exact e3.symm
    rw[e'];exact k3 _ _ (by rw[this];exact g3)
   ·cases hp
  ·cases h
theorem kr(hr:Rel Z s σs A L σ w)(E:TypeId)(e:ET):Rel Z (s.add (.arr E e [])) σs A (L++[.own e.size E (.slice none 0 0) []]) σ w:=
 Rel.push (a:= .arr E e []) (md:= .own e.size E (.slice none 0 0) []) (St.X9 hr e.size E) ⟨rfl,rfl,rfl⟩
theorem C4{i b:Nat}{T:TypeId}{v':PV}{cells:List Value}(hr:Rel Z s σs A L σ w)(hL:L[i]? =some (.box b cells T))(hv:Bj (λb=>A b/\Z.R b) w L v' cells):Rel Z (s.Xy i (.box T v')) σs A L σ w:=by
 have hm:=hr.mem;refine Rel.as hr (i:=1) rfl ⟨⟨by simp[S.Xy,iU,hm.it.1],λj a m h1 h2=>?_⟩,hm.sl,hm.stk⟩ rfl;simp only[S.Xy]at h1;rcases iS h1 with⟨rfl,rfl⟩|⟨_,h4⟩
 ·rw[hL]at h2;cases h2;exact⟨rfl,hv⟩
 ·exact hm.it.2 j a m h4 h2
theorem qc{t:Nat}{m:PV}:∀{sl:Slots} {q:Nat} {v:PV},(q,v)∈Acs t m sl-> (q,v)∈sl\/ (q=t/\v=m)
 |[],_,_,h=>by simp[Acs]at h
 |(q',v')::r,q,v,h=>by
  simp only[Acs]at h;cases hb:Nat.beq q' t with
  |true=>
   rw[hb]at h;rcases List.mem_cons.1 h with h|h
   ·cases h;exact .inr ⟨Da hb,rfl⟩
   ·exact .inl (.tail _ h)
  |false=>
   rw[hb]at h;rcases List.mem_cons.1 h with h|h
   ·cases h;exact .inl (.head _)
   ·exact(qc h).imp (.tail _) id
theorem B6{t:Nat}{m:PV}(hr:Rel Z s σs A L σ w)(hm:Kb (λb=>A b/\Z.R b) w L σ t m):Rel Z ⟨Acs t m s.sl,s.it,s.st⟩ σs A L σ w:=by
 refine hr.Adw rfl rfl ?_;rintro⟨q,v⟩ hp;rcases qc hp with h|⟨rfl,rfl⟩
 ·exact hr.mem.sl _ h
 ·exact hm
theorem Aal{e:ET}{c:List Value}(h:Bj B w L .nils c):Bj B w L (.val (.list e) []) c:=⟨_,[],show c=_ from h,Rd.nil,rfl⟩
theorem Am6{a:At}{s':S}(hr:Rel Z s σs A L σ w)(h:Ar8 s a=some s'):∃A' L',Rel Z s' σs A' L' σ w:=by
 have hm:=hr.mem;unfold Ar8 at h;simp only at h;split at h
 ·
  rename_i i q hsl;split at h
  ·rename_i T v hi;split at h
   ·rename_i u hu;obtain⟨b,cells,hL,hv⟩:=hm.box hi;split at h
    ·rename_i E e _;split at h
     ·rename_i v' hv';cases h;obtain⟨_,g⟩:=yX hu hv;have hr2:=kr hr E e;have hL2:(L++[.own e.size E (.slice none 0 0) []])[i]? =some (.box b cells T):=by rw[List.getElem?_append_left (List.getElem?_eq_some_iff.1 hL).1];exact hL
      obtain⟨g1,_⟩:=g (λb=>A b/\Z.R b) w (L++[.own e.size E (.slice none 0 0) []]) (.own s.new) v' (λq c h=>Bj.step (λ_ h=>h) (λ_ _=>rfl) (dY.append _ _) h)
       (λc hc=>⟨e.size,E,_,[],by rw[S.new,hr.len];simp,hc⟩) rfl hv'
      exact⟨_,_,C4 hr2 hL2 g1⟩
     ·cases h
    ·cases h;exact⟨A,L,hr⟩
    ·rename_i e _;split at h
     ·rename_i v' hv';cases h;obtain⟨_,g⟩:=yX hu hv;obtain⟨g1,_⟩:=g (λb=>A b/\Z.R b) w L (.val (.list e) []) v' (λq c h=>h) (λc hc=>Aal hc) rfl hv';exact⟨_,_,C4 hr hL g1⟩
     ·cases h
    ·obtain⟨A',h1,_⟩:=mJ hr h;exact⟨A',_,h1⟩
    ·cases h;exact⟨A,L,hr⟩
    ·cases h
   ·cases h
  ·cases h
 split at h
 ·
  rename_i o i p e1 lo n hsl;split at h
  ·rename_i E e _ _;obtain⟨hb,h⟩:=Bb h;split at h
   ·rename_i s1 j h1;cases h;have hx:Ei s.sl (.tmp a.t)= .view o i p e1 lo n:=by simp only[Ei,hsl]
    obtain⟨L1,hr1,c0,hL⟩:=zq (x:= .tmp a.t) hr (by simpa [Nat.blt_eq]using hb) (by rw[hx];rfl) (by rw[hx];exact h1);exact⟨_,_,B6 hr1 ⟨_,_,_,_,hL,rfl⟩⟩
   ·cases h
  ·cases h
 ·
  split at h
  ·rename_i u hu;have hsl:=Rm (t:=a.t) hm.sl;have Aqa:∀(B':Reg) (L':List MD) (m v':PV),(∀q c,Bj (λb=>A b/\Z.R b) w L q c->Bj B' w L' q c)-> (∀c,Bj (λb=>A b/\Z.R b) w L u c->Bj B' w L' m c)->m.isA=u.isA->u= .nils->Aco m (CZ s.sl a.t) a.p=some v'->Kb B' w L' σ a.t v':=by
    intro B' L' m v' hq hmu hA hun hp;have hP:(CZ s.sl a.t).eu=true:=by
     revert hu
     generalize CZ s.sl a.t=x;generalize a.p=pp;intro hu;cases pp with
     |nil=>simp only[atV,Aa6]at hu;rw[hu,hun];rfl
     |cons _ _=>cases x<;>first|rfl|simp[atV]at hu
    have hE:Ih (λb=>A b/\Z.R b) w L (CZ s.sl a.t) (σ a.t):=(fK hP).1 ((Kb.iff (PV.P6 hP)).1 hsl);have key:Ih B' w L' v' (σ a.t):=by
     unfold Ih asV at hE;split at hE
     ·rename_i hA';obtain⟨cs,e1,hc⟩:=hE;obtain⟨_,g⟩:=yX hu hc;obtain⟨g1,g2⟩:=g B' w L' m v' hq hmu hA hp;unfold Ih;rw[g2,hA'];exact⟨cs,e1,g1⟩
     ·rename_i hA';obtain⟨_,g⟩:=yX hu hE;obtain⟨g1,g2⟩:=g B' w L' m v' hq hmu hA hp;unfold Ih;rw[g2,hA'];exact g1
    obtain⟨k1,k2⟩:=Lh key;exact(Kb.iff k1).2 k2
   split at h
   ·rename_i E e _;split at h
    ·rename_i v' hv';cases h;have hr2:=kr hr E e;exact⟨_,_,B6 (s:=s.add (.arr E e [])) hr2 (Aqa _ _ (.own s.new) v' (λq c h=>Bj.step (λ_ h=>h) (λ_ _=>rfl) (dY.append _ _) h) (λc hc=>⟨e.size,E,_,[],by rw[S.new,hr.len];simp,hc⟩) rfl rfl hv')⟩
    ·cases h
   ·cases h;exact⟨A,L,hr⟩
   ·rename_i e _;split at h
    ·rename_i v' hv';cases h;exact⟨_,_,B6 hr (Aqa _ _ (.val (.list e) []) v' (λq c h=>h) (λc hc=>Aal hc) rfl rfl hv')⟩
    ·cases h
   ·obtain⟨A',h1,_⟩:=mJ hr h;exact⟨A',_,h1⟩
   ·cases h;exact⟨A,L,hr⟩
   ·cases h
  ·cases h
theorem Aet:∀{l:List At} {s s':S} {A:Reg} {L:List MD},Rel Z s σs A L σ w->Aiq s l=some s'->∃A' L',Rel Z s' σs A' L' σ w
 |[],s,s',A,L,hr,h=>by simp only[Aiq,Aa6]at h;subst h;exact⟨A,L,hr⟩
 |a::l,s,s',A,L,hr,h=>by
  simp only[Aiq]at h;split at h
  ·rename_i s1 h1;obtain⟨A1,L1,hr1⟩:=Am6 hr h1;exact Aet hr1 h
  ·cases h
theorem Apj{lv:List Nat}{co:List At}{s':S}(hr:Rel Z s σs A L σ w)(h:s.cn lv co=some s'):∃A' L',Rel Z s' σs A' L' σ w:=by
 unfold S.cn at h;split at h
 ·rename_i s1 h1;cases h;obtain⟨A1,L1,hr1⟩:=Aet hr h1;obtain⟨L',hr2⟩:=Alg hr1 lv;exact⟨A1,L',hr2⟩
 ·cases h
end Go.Rx
namespace Go.Rx
open Go Go.Lv
variable {P:Program} {B B':Reg} {w w':World} {L L':List MD} {s:S} {σs:List Env} {σ:Env} {Z:Fix} {A A':Reg} {n:Nat} {ops:Array Oper}
variable {R:Type} {r:R} {T:Tab} {inl:X8 R}
def kof(k:K R):Exit->S->Option R
 | .normal=>k.n| .exit id=>k.x id| .ret=>k.r|_=>λ_=>none
def QK(Z:Fix)(σs:List Env)(k:K R)(r:R)(e:Exit)(σ':Env)(w':World):Prop:=∃s' A' L',kof k e s'=some r/\Rel Z s' σs A' L' σ' w'
theorem Aee(an:An){gl:List (Nat×List Value)}(hI:WY P gl inl):WY P gl (ig an inl):=by
 unfold ig;split
 ·intro Z hZ f as s k r σs A L σ w vs h hr ha;exact hI Z hZ f as _ k r σs A L σ w vs h (hr.Adw rfl rfl (YR hr.mem.sl _)) ha
 ·exact hI
theorem Apq(Adb:P.follows .mixedOrders=true)(hT:jU P T Z)(hI:WY P T.gl inl):∀(c:Code) {an:An} {k:K R} {s:S} {A:Reg} {L:List MD} {σ:Env} {w:World},ex P T inl n c an k s=some r->Rel Z s σs A L σ w->W P n c (QK Z σs k r) σ w:=by
 intro c
 induction c with
 |skip=>intro an k s A L σ w h hr;exact W.skip ⟨s,A,L,h,hr⟩
 |ret=>intro an k s A L σ w h hr;exact W.ret ⟨s,A,L,h,hr⟩
 |exit id=>intro an k s A L σ w h hr;exact W.exit ⟨s,A,L,h,hr⟩
 |seq a b iha ihb=>
  intro an k s A L σ w h hr;refine W.seq (W.mono (iha (an:=an.l) (k:={k with n:=Ak4 an λs'=>ex P T inl n b an.r k s'}) h hr) ?_);rintro e σ' w' ⟨s',A',L',h1,hr'⟩;cases e with
  |normal=>
   have h2:Ak4 an (λs'=>ex P T inl n b an.r k s') s'=some r:=h1;unfold Ak4 at h2;split at h2
   ·split at h2
    ·rename_i s2 hs2;obtain⟨A2,L2,hr2⟩:=Apj hr' hs2;exact ihb h2 hr2
    ·cases h2
   ·exact ihb h2 hr'
  |exit id=>exact⟨s',A',L',h1,hr'⟩
  |ret=>exact⟨s',A',L',h1,hr'⟩
  |goto l=>exact⟨s',A',L',h1,hr'⟩
  |panic c=>exact⟨s',A',L',h1,hr'⟩
  |outgrown=>exact⟨s',A',L',h1,hr'⟩
 |cond c a b iha ihb=>
  intro an k s A L σ w h hr;simp only[ex]at h;split at h
  ·rename_i t hc;refine W.cond (qC hr.mem.sl hc) (λht=>?_) (λht=>?_)
   ·subst ht;exact iha (by simpa using h) hr
   ·subst ht;exact ihb (by simpa using h) hr
  ·cases h
 |block id a iha=>
  intro an k s A L σ w h hr;refine W.block (W.mono (iha (an:=an.l) (k:={k with x:=λid' s'=>Df (Nat.beq id' id) (k.n s')<|k.x id' s'}) h hr) ?_);rintro e σ' w' ⟨s',A',L',h1,hr'⟩;cases e with
  |exit id'=>
   have h2:(Df (Nat.beq id' id) (k.n s')<|k.x id' s')=some r:=h1;simp only[W8];by_cases hid:id'=id
   ·rw[Aa4 hid];subst hid;simp at h2;exact⟨s',A',L',h2,hr'⟩
   ·rw[Aa2 hid];have hb:Nat.beq id' id=false:=by
     cases hb:Nat.beq id' id with
     |false=>rfl
     |true=>exact absurd (Da hb) hid
    rw[hb]at h2;exact⟨s',A',L',h2,hr'⟩
  |normal=>exact⟨s',A',L',h1,hr'⟩
  |ret=>exact⟨s',A',L',h1,hr'⟩
  |goto l=>exact⟨s',A',L',h1,hr'⟩
  |panic c=>exact⟨s',A',L',h1,hr'⟩
  |outgrown=>exact⟨s',A',L',h1,hr'⟩
 |loop a iha=>
  intro an k s A L σ w h hr;have head:∀(q:Nat) (s:S) (A:Reg) (L:List MD) (σ:Env) (w:World),P9 an (iter an (λkn s'=>ex P T inl n a an.l {k with n:=kn} s') q) s=some r->Rel Z s σs A L σ w->
    ∃s' A' L',iter an (λkn s'=>ex P T inl n a an.l {k with n:=kn} s') q s'=some r/\Rel Z s' σs A' L' σ w:=by
   intro q s A L σ w h hr;unfold P9 at h;split at h
   ·split at h
    ·rename_i s2 hs2;obtain⟨A2,L2,hr2⟩:=Apj hr hs2;exact⟨s2,A2,L2,h,hr2⟩
    ·cases h
   ·cases h
  refine W.loop (λq σ w=>∃s A L,iter an (λkn s'=>ex P T inl n a an.l {k with n:=kn} s') q s=some r/\Rel Z s σs A L σ w) Dg (head _ _ _ _ _ _ h hr) ?_;rintro q σ w ⟨s,A,L,h,hr⟩;cases q with
  |zero=>cases h
  |succ q=>
   refine W.mono (iha (k:={k with n:=P9 an (iter an (λkn s'=>ex P T inl n a an.l {k with n:=kn} s') q)}) h hr) ?_;rintro e σ' w' ⟨s',A',L',h1,hr'⟩;cases e with
   |normal=>exact⟨q,Nat.lt_succ_self _,head q s' A' L' σ' w' h1 hr'⟩
   |exit id=>exact⟨s',A',L',h1,hr'⟩
   |ret=>exact⟨s',A',L',h1,hr'⟩
   |goto l=>exact⟨s',A',L',h1,hr'⟩
   |panic c=>exact⟨s',A',L',h1,hr'⟩
   |outgrown=>exact⟨s',A',L',h1,hr'⟩
 |region id ops draw=>
  intro an k s A L σ w h hr;cases draw with
  |false=>
   obtain⟨hd,h⟩:=Bb (show(Df (qG ops.toList) (om P T (ig an inl) n ops ops.toList s k.n)<|none)=some r from h);have h1:=Aja (ops:=ops) hT (Aee an hI) hr (show om P T (ig an inl) n ops ops.toList s k.n=some r from h);have hops:ops=ops.toList.toArray:=by simp
   rw[hops];exact W.region hd (by rw[<-hops];exact h1)
  |true=>
   obtain⟨hd,h⟩:=Bb (show(Df (qG ops.toList) (TP P T (ig an inl) n (sJ an) ops ops.size (Df (sJ an) (#[])<|Array.replicate ops.size true) (Array.replicate ops.size false) s k.n)<|none)=some r from h);refine W.Aoa hd Adb (λ_=>True) (tw (Df (sJ an) (#[])<|Array.replicate ops.size true)) (λw' hw hg=>?_);have hr':Rel Z s σs A L σ w':=St.Aj3 hr hw hg;refine Aqp hT (Aee an hI) hr' h (λhm=> .inl ?_) (λ_ _ _=>trivial);rw[hm];simp[RU,tw]
 |rangeFunc=>intro an k s A L σ w h hr;cases h
 |scope=>intro an k s A L σ w h hr;cases h
 |label=>intro an k s A L σ w h hr;cases h
 |goto=>intro an k s A L σ w h hr;cases h
 |refuse=>intro an k s A L σ w h hr;cases h
theorem Agh(hr:Rel Z s σs A L σ w){v:ResultVar}{p:PV}(h:Acg P s v=some p):∃u,VI P σ w v u/\Ih (λb=>A b/\Z.R b) w L p u:=by
 have hm:=hr.mem;cases v with
 |tmp t=>
  obtain⟨hp,h⟩:=Bb h;cases h;exact⟨σ t,rfl,QA hm.sl hp⟩
 |cell a t=>
  simp only[Acg]at h;split at h
  ·rename_i i p' hsl;split at h
   ·rename_i T v0 hi;split at h
    ·rename_i u hu;obtain⟨hk,h⟩:=Bb h;cases h;have hs1:=Rm (t:=a) hm.sl;rw[hsl]at hs1;obtain⟨md,b,h1,h2,h3⟩:=Zi hs1;obtain⟨b',cells,h4,h5⟩:=hm.box hi;rw[h4]at h1;cases h1;cases h2;obtain⟨c1,c2,c3,e,h6,h7⟩:=bJ hu h5;have hok:=Rj hk;obtain⟨d,hd,ha⟩:=hok.agg;have hlen:=h7.len;cases hA:p.isA with
     |true=>
      refine⟨.agg c2.toArray,VI.cells hr (hr.Jy h4) ⟨d,hd,ha.trans hA⟩ hok.size h3 ?_ hlen,by unfold Ih;rw[hA];exact⟨c2,rfl,h7⟩⟩;rw[e,<-h6,<-hlen];exact Ae1 rfl
     |false=>
      rw[hok.one hA]at hlen
      match c2,hlen with
      |[u],_=>exact⟨u,VI.cell hr (hr.Jy h4) ⟨d,hd,ha.trans hA⟩ h3 (by rw[e,<-h6];simp),by unfold Ih;rw[hA];exact h7⟩
    ·cases h
   ·cases h
  ·cases h
theorem sF(hr:Rel Z s σs A L σ w):∀{vs:List ResultVar} {ps:List PV},tV P s vs=some ps->∃us,iK P σ w vs us/\Es (λb=>A b/\Z.R b) w L ps us
 |[],ps,h=>by simp only[tV,Aa6]at h;subst h;exact⟨[],trivial,rfl⟩
 |v::vs,ps,h=>by
  simp only[tV]at h;split at h
  ·rename_i p ps' hp hps;cases h;obtain⟨u,h1,h2⟩:=Agh hr hp;obtain⟨us,h3,h4⟩:=sF hr hps;exact⟨u::us,⟨h1,h3⟩,u,us,rfl,h2,h4⟩
  ·cases h
theorem eN:∀{as:List PV} {vs:List Value} {m:Nat} {f:Nat->Value},Es B w L as vs-> (∀i v,vs[i]? =some v->f (m+i)=v)->∀p∈DP m as,Kb B w L f p.1 p.2
 |[],vs,m,f,_,_,p,hp=>by simp[DP]at hp
 |a::as,vs,m,f,⟨v,vs',e,h1,h2⟩,hf,p,hp=>by
  subst e;simp only[DP]at hp;rcases List.mem_cons.1 hp with rfl|hp
  ·obtain⟨k1,k2⟩:=Lh (show Ih B w L a v from h1);refine(Kb.iff k1).2 ?_;have:=hf 0 v rfl;rw[Awm]at this;rw[this];exact k2
  ·exact eN h2 (λi v hi=>by have:=hf (i+1) v (by simpa using hi);rw[<-this];congr 1;omega) p hp
theorem P3{vs:List Value}{i:Nat}{v:Value}(h:vs[i]? =some v):xN vs i=v:=by simp[xN,List.getD_eq_getElem?_getD,h]
theorem Es.length:∀{as:List PV} {vs:List Value},Es B w L as vs->vs.length=as.length
 |[],vs,h=>by rw[show vs=[]from h];rfl
 |a::as,vs,⟨v,vs',e,h1,h2⟩=>by rw[e,Asj,Es.length h2];rfl
theorem S6{f:Nat}{an:An}:∀{ans:List (Nat×An)},XC.I8 ans f=some an->∃a,(f,a)∈ans
 |[],h=>by simp[XC.I8]at h
 |(g,a)::ans,h=>by
  simp only[XC.I8]at h;cases hb:Nat.beq g f with
  |true=>have:=Da hb;subst this;exact⟨a, .head _⟩
  |false=>rw[hb]at h;obtain⟨a',h1⟩:=S6 h;exact⟨a', .tail _ h1⟩
theorem Ad1(Adb:P.follows .mixedOrders=true)(hT:bW P T){ans:List (Nat×An)}(hA:∀p∈ans,Ent P p.1):∀(q:Nat),WY (R:=R) P T.gl (XC P T q ans)
 |0=>λZ hZ f as s k r σs A L σ w vs h hr ha=>by cases h
 |q+1=>λZ hZ f as s k r σs A L σ w vs h hr ha=>by
  have hI:=Ad1 Adb hT hA q;unfold XC at h;split at h
  ·rename_i an fn han hfn;obtain⟨a,hmem⟩:=S6 han;split at h
   ·cases h
   ·rename_i c hc;obtain⟨hle,h⟩:=Bb h;refine⟨hA _ hmem,?_⟩;have hr1:Rel Z ⟨DP 0 as,s.it,s.sl::s.st⟩ (σ::σs) A L (xN vs) w:=
     Rel.as hr (i:=1) rfl ⟨hr.mem.it,eN ha (λi v hi=>by rw[Av9];exact P3 hi),hr.mem.sl,hr.mem.stk⟩ rfl
    refine I6 (rs:=fn.results.toList) hfn hc rfl Axl (by rw[ha.length];exact hle) (W.mono (Apq Adb ⟨hT,hZ⟩ hI c h hr1) ?_);rintro e σ' w' ⟨s',A',L',h1,hr'⟩;have fin:XC.Ahz P fn.results.toList k s'=some r->∃us,iK P σ' w' fn.results.toList us/\∃v p s'' A'' L'',Ending.returned (OT us)= .returned v/\k s'' p=some r/\Rel Z s'' σs A'' L'' σ w'/\p.isV=true/\Fs (λb=>A'' b/\Z.R b) w' L'' p v:=by
     intro h1;unfold XC.Ahz at h1;split at h1
     ·rename_i ps sl st hps hst;obtain⟨us,h2,h3⟩:=sF hr' hps;obtain⟨h4,h5⟩:=zw h3;have Asa:=hr'.mem.stk;rw[hst]at Asa;exact⟨us,h2,_,_,_,A',L',rfl,h1,Rel.as hr' (i:=1) rfl ⟨hr'.mem.it,Asa.1,Asa.2⟩ rfl,h4,h5⟩
     ·cases h1
    cases e with
    |normal=>exact⟨.inr rfl,fin h1⟩
    |ret=>exact⟨.inl rfl,fin h1⟩
    |exit id=>cases h1
    |goto l=>cases h1
    |panic c=>cases h1
    |outgrown=>cases h1
  ·cases h
end Go.Rx
namespace Go.Rx
open Go Go.Lv
variable{e:ET}{fn:Func}{o:Option TypeId}
variable {P:Program} {B B':Reg} {w w':World} {L L':List MD} {s:S} {σs:List Env} {σ:Env} {Z:Fix} {A A':Reg} {n:Nat} {ops:Array Oper}
variable {R:Type} {r:R} {T:Tab} {inl:X8 R}
abbrev LS:=List (ET×Option TypeId)
def Ia:LS->List PV->Nat->List Nat
 |p::r,v::vs,c=>match p.2 with
  |none=>Ia r vs c
  |some _=>(match v with| .own i=>i|_=>c)::Ia r vs (c+1)
 |_,_,_=>[]
def WH:LS->List MD
 |p::r=>match p.2 with
  |none=>WH r
  |some E=>(match p.1 with| .list a=> .own a.size E (.slice none 0 0) []|_=> .dead)::WH r
 |[]=>[]
theorem Ajq(h:Dp w A (L.map MD.Jy)):∀(ls:LS),Dp w A ((L++WH ls).map MD.Jy):=by
 have one:∀(m:MD) (ms:List MD),m.Jy.holds none w->Dp w A ((L++ms).map MD.Jy)->Dp w A ((L++m::ms).map MD.Jy):=by
  intro m ms hm h;have:Dp w A (m.Jy::(L++ms).map MD.Jy):=⟨none,hm,λb hb=>(by cases hb),h.EL λb hb=>hb.elim id (λh=>by cases h)⟩;refine this.perm ?_;rw[Aw9,Aw9,Auo];exact(List.perm_middle).symm
 intro ls
 induction ls with
 |nil=>simpa [WH]using h
 |cons p ls ih=>
  obtain⟨e,o⟩:=p;cases o with
  |none=>exact ih
  |some E=>cases e<;>exact one _ _ (by first|exact zM|exact⟨none,0,0,rfl,Axl,Apn _,λ_=>rfl,λ_=>rfl,λb h=>by cases h⟩) ih
theorem jG:∀{ls:LS} {vs:List PV} {seen:List Nat} {c:Nat},XD s ls vs seen=true->s.it.length<=c->distinct (Ia ls vs c)=true/\∀i∈Ia ls vs c,(i<s.it.length/\i∉seen)\/c<=i
 |[],[],_,_,_,_=>⟨rfl,by simp[Ia]⟩
 |[],_::_,_,_,h,_=>by simp[XD]at h
 |_::_,[],_,_,h,_=>by simp[XD]at h
 |(e,none)::ls,v::vs,seen,c,h,hc=>by
  simp only[XD,Aa5]at h;exact jG (ls:=ls) (vs:=vs) (seen:=seen) (c:=c) h.2 hc
 |(e,some E)::ls,v::vs,seen,c,h,hc=>by
  simp only[XD]at h;split at h
  ·obtain⟨h1,h2⟩:=jG h (c:=c+1) F0;refine⟨?_,λi hi=>?_⟩
   ·simp only[Ia,distinct,Aa5,Ap1];refine⟨?_,h1⟩;cases hx:Zn c (Ia ls vs (c+1))with
    |false=>rfl
    |true=>rcases h2 c (BZ.1 hx)with⟨h3,_⟩|h3<;>omega
   ·simp only[Ia,List.mem_cons]at hi;rcases hi with rfl|hi
    ·exact .inr (Apn _)
    ·rcases h2 i hi with h3|h3
     ·exact .inl h3
     ·exact .inr F0
  ·rename_i a i;simp only[Aa5,Ap1]at h;obtain⟨⟨h0,hit⟩,h⟩:=h;have hlt:i<s.it.length:=by
    split at hit
    ·rename_i E' a' l hi;exact(List.getElem?_eq_some_iff.1 (nM hi (by intro e;cases e))).1
    ·cases hit
   obtain⟨h1,h2⟩:=jG h (c:=c+1) F0;refine⟨?_,λj hj=>?_⟩
   ·simp only[Ia,distinct,Aa5,Ap1];refine⟨?_,h1⟩;cases hx:Zn i (Ia ls vs (c+1))with
    |false=>rfl
    |true=>
     rcases h2 i (BZ.1 hx)with⟨_,h3⟩|h3
     ·exact absurd (Ave) h3
     ·omega
   ·simp only[Ia,List.mem_cons]at hj;rcases hj with rfl|hj
    ·exact .inl ⟨hlt,λhm=>by have:=BZ.2 hm;rw[h0]at this;cases this⟩
    ·rcases h2 j hj with⟨h3,h4⟩|h3
     ·exact .inl ⟨h3,λhm=>h4 (Asi _ hm)⟩
     ·exact .inr F0
  ·cases h
theorem Amr{q:PV}{x:e.T}(hr:Rel Z s σs A L σ w)(h:iI s e q=some x)(ho:owns q=[])(hb:e.H4=true->∀b,A b/\Z.R b->B' b){L':List MD}:cH (λb=>A b/\Z.R b) w L B' w L' q (.val e x):=by
 obtain⟨h1,h2⟩:=yw (L':=L') hr h (B':=λb=>A b/\Z.R b) (λ_ h=>h) (λi hi=>by rw[ho]at hi;cases hi);refine⟨h1,λcs hcs=>?_⟩;have h3:Az (λb=>A b/\Z.R b) w e x cs:=h2 cs hcs;cases hl:e.H4 with
 |true=>exact Az.step (hb hl) (λ_ _=>rfl) h3
 |false=>exact Az.noL hl h3
theorem Amy{l:List e.T}{cs:List Value}(hb:e.H4=true->∀b,B b->B' b)(h:Ci (Az B w e) l cs):Ci (Az B' w e) l cs:=by
 cases hl:e.H4 with
 |true=>exact h.mono λx c hx=>Az.step (hb hl) (λ_ _=>rfl) hx
 |false=>exact h.mono λx c hx=>Az.noL hl hx
theorem C3(hr:Rel Z s σs A L σ w){LP:List MD}(hP:∀(i:Nat) (m:MD),L[i]? =some m->LP[i]? =some m):∀(ls:LS) (vs:List PV) (y:NZ ls) (seen:List Nat) (c:Nat) (s0:S) (Lx LF:List MD),
  XD s ls vs seen=true->QX s ls vs=some y-> (∀p∈ls,Aj5 p=true->∀b,A b/\Z.R b->B' b)-> (∀i m,(WH ls)[i]? =some m->LP[c+i]? =some m)->Lx.length=s0.it.length->LF=Lx++(Ia ls vs c).map (λi=>LP.getD i .dead)->
  ∃its,(Fw ls y s0).2=⟨s0.sl,s0.it++its,s0.st⟩/\its.length=(Ia ls vs c).length/\All2 (cH (λb=>A b/\Z.R b) w L B' w LF) vs (Fw ls y s0).1/\
   ∀(i:Nat) (a:Item) (m:MD),its[i]? =some a-> ((Ia ls vs c).map (λi=>LP.getD i .dead))[i]? =some m->Zp B' w LF a m
 |[],vs,y,seen,c,s0,Lx,LF,ho,hp,_,_,_,_=>by
  rw[yc hp];refine⟨[],?_,rfl,All2.nil,λi a m h=>by simp at h⟩;rw[yB];simp
 |p::ls,vs,y,seen,c,s0,Lx,LF,ho,hp,hb,hn,hlen,hLF=>by
  have main:∀(v:PV) (vs':List PV) (x:p.1.T) (rest:S->List PV×S),vs=v::vs'->iI s p.1 v=some x->
    (Fw (p::ls) y s0=((Fp p.1 p.2 x s0).1::(rest (Fp p.1 p.2 x s0).2).1,(rest (Fp p.1 p.2 x s0).2).2))->
    (∀(seen:List Nat) (c:Nat) (s1:S) (Lx:List MD),XD s ls vs' seen=true-> (∀i m,(WH ls)[i]? =some m->LP[c+i]? =some m)->Lx.length=s1.it.length->LF=Lx++(Ia ls vs' c).map (λi=>LP.getD i .dead)->
     ∃its,(rest s1).2=⟨s1.sl,s1.it++its,s1.st⟩/\its.length=(Ia ls vs' c).length/\All2 (cH (λb=>A b/\Z.R b) w L B' w LF) vs' (rest s1).1/\
      ∀(i:Nat) (a:Item) (m:MD),its[i]? =some a-> ((Ia ls vs' c).map (λi=>LP.getD i .dead))[i]? =some m->Zp B' w LF a m)->
    ∃its,(Fw (p::ls) y s0).2=⟨s0.sl,s0.it++its,s0.st⟩/\its.length=(Ia (p::ls) vs c).length/\All2 (cH (λb=>A b/\Z.R b) w L B' w LF) vs (Fw (p::ls) y s0).1/\
     ∀(i:Nat) (a:Item) (m:MD),its[i]? =some a-> ((Ia (p::ls) vs c).map (λi=>LP.getD i .dead))[i]? =some m->Zp B' w LF a m:=by
   intro v vs' x rest hvs hx hu hrest;subst hvs;rw[hu];have hbp:=hb p (.head _);obtain⟨e,o⟩:=p;cases o with
   |none=>
    simp only[XD,Aa5]at ho;have e1:Fp e none x s0=(.val e x,s0):=Aev;simp only[e1];obtain⟨its,h1,h2,h3,h4⟩:=hrest seen c s0 Lx ho.2 hn hlen hLF;refine⟨its,h1,h2, .cons (Amr hr hx (isEmpty_nil ho.1) (λhl=>hbp ?_)) h3,h4⟩;cases e<;>first|exact hl|cases hl
   |some E=>
    simp only[XD]at ho;split at ho
    ·
     rename_i a;have hx':x=[]:=by
      have:elems s a .nils=some x:=hx;simpa [elems]using this.symm
     subst hx';have hc:LP[c]? =some (.own a.size E (.slice none 0 0) []):=hn 0 _ rfl;have e1:Fp (.list a) (some E) [] s0=(.own s0.new,s0.add (.arr E a [])):=rfl;simp only[e1];obtain⟨its,h1,h2,h3,h4⟩:=hrest seen (c+1) (s0.add (.arr E a [])) (Lx++[.own a.size E (.slice none 0 0) []]) ho (λi m hi=>by rw[Asn,Axc 1 i];exact hn (i+1) m (by simpa [WH]using hi))
      (by simp[S.add,hlen]) (by rw[hLF];simp[Ia,List.getD_eq_getElem?_getD,hc])
     refine⟨.arr E a []::its,by rw[h1];simp[S.add],by simp[Ia,h2], .cons ⟨rfl,λcs hcs=>?_⟩ h3,λi b m hi hm=>?_⟩
     ·refine⟨a.size,E, .slice none 0 0,[],?_,hcs⟩;rw[hLF,S.new,<-hlen];simp[Ia,List.getD_eq_getElem?_getD,hc]
     ·cases i with
      |zero=>
       simp[Ia,List.getD_eq_getElem?_getD,hc]at hi hm;subst hi hm;exact⟨rfl,rfl,rfl⟩
      |succ i=>exact h4 i b m (by simpa using hi) (by simpa [Ia]using hm)
    ·
     rename_i a i;simp only[Aa5,Ap1]at ho;obtain⟨⟨h0,hit⟩,ho⟩:=ho;split at hit
     ·rename_i E' a' l hi;simp only[Aa5,Acr]at hit;obtain⟨hE,rfl⟩:=hit;have:=Da hE;subst this;obtain⟨u,cs0,g1,g2⟩:=hr.mem.arr hi;have hx':x=l:=by
       have:elems s a' (.own i)=some x:=hx;simp[elems,hi]at this;exact this.symm
      subst hx';have hc:LP[i]? =some (.own a'.size E' u cs0):=hP i _ g1;have e1:Fp (.list a') (some E') x s0=(.own s0.new,s0.add (.arr E' a' x)):=rfl;simp only[e1];obtain⟨its,h1,h2,h3,h4⟩:=hrest (i::seen) (c+1) (s0.add (.arr E' a' x)) (Lx++[.own a'.size E' u cs0]) ho (λi m hi=>by rw[Asn,Axc 1 i];exact hn (i+1) m (by simpa [WH]using hi))
       (by simp[S.add,hlen]) (by rw[hLF];simp[Ia,List.getD_eq_getElem?_getD,hc])
      refine⟨.arr E' a' x::its,by rw[h1];simp[S.add],by simp[Ia,h2], .cons ⟨rfl,λcs hcs=>?_⟩ h3,λq b m hq hm=>?_⟩
      ·obtain⟨z,E2,v2,c2,k1,k2⟩:=hcs;rw[g1]at k1;cases k1;refine⟨a'.size,E',u,cs0,?_,k2⟩;rw[hLF,S.new,<-hlen];simp[Ia,List.getD_eq_getElem?_getD,hc]
      ·cases q with
       |zero=>
        simp[Ia,List.getD_eq_getElem?_getD,hc]at hq hm;subst hq hm;exact⟨rfl,rfl,Amy hbp g2⟩
       |succ q=>exact h4 q b m (by simpa using hq) (by simpa [Ia]using hm)
     ·cases hit
    ·cases ho
  cases ls with
  |nil=>
   obtain⟨v,rfl,hx⟩:=sj hp;exact main v [] y (λs1=>([],s1)) rfl hx (ZJ p y s0) (λseen c s1 Lx _ _ hlen hLF=>⟨[],Axl,rfl,All2.nil,λi a m h=>by simp at h⟩)
  |cons q r=>
   obtain⟨v,vs',x,y',rfl,rfl,hx,hy⟩:=Q3 hp;exact main v vs' x (λs1=>Fw (q::r) y' s1) rfl hx (TJ p q r x y' s0)
    (λseen c s1 Lx ho hn hlen hLF=>C3 hr hP (q::r) vs' y' seen c s1 Lx LF ho hy (λp hp=>hb p (.tail _ hp)) hn hlen hLF)
theorem AR{e:ET}{x:e.T}{cs:List Value}(h:Az B w e x cs):Az (λb=>b<w.heap.size/\B b) w e x cs:=
 match e,x,h with
 | .int _,_,h=>h
 | .bool,_,h=>h
 | .str,_,h=>h
 | .list _,_,⟨v,c0,h1,h2,h3⟩=>⟨v,c0,h1,h2.start,h3.mono λ_ _ h=>AR h⟩
 | .vec _ _,_,⟨h1,h2⟩=>⟨h1,h2.mono λ_ _ h=>AR h⟩
 | .cons _ _,_,⟨c1,c2,e,h1,h2⟩=>⟨c1,c2,e,AR h1,AR h2⟩
 | .nil,_,h=>h
def Cy:PV->Bool
 | .val _ _=>true
 | .own _=>true
 | .agg l=>go l
 |_=>false
where go:List PV->Bool
 |[]=>true
 |a::r=>Cy a&&go r
mutual
theorem O3:∀{p:PV} {cs:List Value},Cy p=true->Bj B w L p cs->Bj (λb=>b<w.heap.size/\B b) w L p cs
 | .val e x,cs,_,h=>AR (show Az B w e x cs from h)
 | .own i,cs,_,h=>h
 | .agg l,cs,hv,h=>E1 hv (show Bj.go B w L l cs from h)
 | .tup _,_,hv,_=>by cases hv
 | .nils,_,hv,_=>by cases hv
 | .ptr _ _,_,hv,_=>by cases hv
 | .view _ _ _ _ _ _,_,hv,_=>by cases hv
 | .rptr _,_,hv,_=>by cases hv
 | .fn _ _,_,hv,_=>by cases hv
 | .cap _ _ _,_,hv,_=>by cases hv
 | .mp _ _,_,hv,_=>by cases hv
 | .bfn _ _,_,hv,_=>by cases hv
 | .cst _,_,hv,_=>by cases hv
 | .any,_,hv,_=>by cases hv
 | .gd _ _ _,_,hv,_=>by cases hv
 | .off,_,hv,_=>by cases hv
 | .undef,_,hv,_=>by cases hv
theorem E1:∀{l:List PV} {cs:List Value},Cy.go l=true->Bj.go B w L l cs->Bj.go (λb=>b<w.heap.size/\B b) w L l cs
 |[],cs,_,h=>h
 |a::l,cs,hv,⟨c1,c2,e,h1,h2⟩=>by
  simp only[Cy.go,Aa5]at hv;exact⟨c1,c2,e,O3 hv.1 h1,E1 hv.2 h2⟩
end
theorem xP:∀{l:List PV} {vs:List Value},Cy.go l=true->Es B w L l vs->Es (λb=>b<w.heap.size/\B b) w L l vs
 |[],vs,_,h=>h
 |a::l,vs,hv,⟨v,vs',e,h1,h2⟩=>by
  simp only[Cy.go,Aa5]at hv;exact⟨v,vs',e,h1.mono λc h=>O3 hv.1 h,xP hv.2 h2⟩
theorem vX{x:e.T}{s0:S}:Cy (Fp e o x s0).1=true:=by
 unfold Fp;split<;>rfl
theorem uD{x:e.T}{s0:S}(h:∀a∈s0.it,∃E e' l,a= .arr E e' l):∀a∈(Fp e o x s0).2.it,∃E e' l,a= .arr E e' l:=by
 unfold Fp;split
 ·intro a ha;simp only[S.add,List.mem_append,List.mem_singleton]at ha;rcases ha with ha|ha
  ·exact h a ha
  ·exact⟨_,_,_,ha⟩
 ·exact h
theorem H5:∀(ls:LS) (x:NZ ls) (s0:S),Cy.go (Fw ls x s0).1=true
 |[],x,s0=>rfl
 |[p],x,s0=>by
  rw[ZJ];have h1:Cy (Fp p.1 p.2 x s0).1=true:=vX;simp only[Cy.go,h1];rfl
 |p::q::r,(x,y),s0=>by
  rw[TJ];have h1:Cy (Fp p.1 p.2 x s0).1=true:=vX;simp only[Cy.go,h1,H5 (q::r) y _];rfl
theorem I0:∀(ls:LS) (x:NZ ls) (s0:S),(∀a∈s0.it,∃E e' l,a= .arr E e' l)->∀a∈(Fw ls x s0).2.it,∃E e' l,a= .arr E e' l
 |[],x,s0,h=>h
 |[p],x,s0,h=>by rw[ZJ];exact uD h
 |p::q::r,(x,y),s0,h=>by rw[TJ];exact I0 (q::r) y _ (uD h)
mutual
theorem Agk:∀{sh:Sh} {vs r:List PV} {u:PV},Tf sh vs=some (u,r)->Cy.go vs=true->Cy u=true/\Cy.go r=true
 | .lf e o,v::vs,r,u,h,hv=>by
  simp only[Tf,Aa6,Aep]at h;obtain⟨rfl,rfl⟩:=h;simpa [Cy.go]using hv
 | .lf e o,[],r,u,h,hv=>by simp[Tf]at h
 | .agg l,vs,r,u,h,hv=>by
  simp only[Tf]at h;split at h
  ·rename_i us r' h1;cases h;exact nE h1 hv
  ·cases h
theorem nE:∀{l:List Sh} {vs r us:List PV},Tf.go l vs=some (us,r)->Cy.go vs=true->Cy.go us=true/\Cy.go r=true
 |[],vs,r,us,h,hv=>by
  simp only[Tf.go,Aa6,Aep]at h;obtain⟨rfl,rfl⟩:=h;exact⟨rfl,hv⟩
 |a::l,vs,r,us,h,hv=>by
  simp only[Tf.go]at h;split at h
  ·rename_i u vs' h1;split at h
   ·rename_i us' vs'' h2;cases h;obtain⟨g1,g2⟩:=Agk h1 hv;obtain⟨g3,g4⟩:=nE h2 g2;exact⟨by simp[Cy.go,g1,g3],g4⟩
   ·cases h
  ·cases h
end
theorem Alu{rs:List Sh}{p:ET×Option TypeId}(hp:p∈Yr rs)(h:Aj5 p=true):Ao4 rs=true:=by
 unfold Ao4;exact List.any_eq_true.2 ⟨p,hp,h⟩
theorem pQ{f:Nat}{ps rs:List Sh}{F:NZ (Yr ps)->Option (NZ (Yr rs))}{RUN:S->Option (NZ (Yr rs))}(hE:Ent P f)
  (hrun:∀x y pvs,args ps x=some pvs->F x=some y->RUN ⟨DP 0 pvs,Aaz ps x,[]⟩=some y)
  (Asb:∀(Z:Fix) (A:Reg) (L:List MD) (w:World) (s:S) (y:NZ (Yr rs)) (vs:List Value) (Q:Ending->World->Prop),Z.gl=T.gl->Rel Z s [] A L (xN vs) w->vs.length=ps.length->RUN s=some y->
   (∀s' A' L' σ' w',U5 P rs fn.results.toList s'=some y->Rel Z s' [] A' L' σ' w'->∃us,iK P σ' w' fn.results.toList us/\Q (.returned (OT us)) w')->Calls P f vs.toArray w Q):ConOk P T.gl f ⟨ps,rs,F⟩:=by
 refine⟨hE,λR N w L0 vs pvs x y hx Auj Apg Auk hvs hgl hy=>?_⟩;have hx':args ps x=some pvs:=hx;have hy':=hrun x y pvs hx' hy
 ·let Z:Fix:=⟨λb=>((R b/\N b)\/∃p∈T.gl,p.1=b)\/ ¬N b\/w.heap.size<=b,λb=>¬N b,w,λb hb=> .inr (.inr hb),λb hb=> .inr (.inl hb),T.gl,λp hp=>⟨.inl (.inr ⟨p,hp,rfl⟩),λh=>h (hgl p hp).2.1,(hgl p hp).1,(hgl p hp).2.2⟩⟩
  have hval:Cy.go pvs=true:=by
   unfold args fC at hx';split at hx'
   ·rename_i us hs;cases hx';exact(nE hs (H5 _ _ _)).1
   ·cases hx'
  have Avy:Es (λb=>(b<w.heap.size/\N b)/\Z.R b) w L0 pvs vs:=Es.step (λb hb=>⟨⟨hb.1,hb.2.2⟩, .inl (.inl hb.2)⟩) (λ_ _=>rfl) (.refl L0) (xP hval hvs);have hst:St (λb=>b<w.heap.size/\N b) w [.old Z.M Z.w0] (L0.map MD.Jy):=by
   refine⟨λb hb=>hb.1,λf hf=>?_,Auk.EL λb hb=>hb.2⟩;cases hf with
   |head=>exact⟨.refl _,λb hb hM=>⟨⟨hb,Classical.not_not.1 hM⟩,rfl⟩⟩
   |tail _ h=>cases h
  have hr:Rel Z ⟨DP 0 pvs,Aaz ps x,[]⟩ [] (λb=>b<w.heap.size/\N b) L0 (xN vs) w:=
   Rel.as (L:=L0) hst (i:=0) rfl ⟨⟨Auj,λi a m h1 h2=>by
    have h3:=Apg i a m h1 h2;obtain⟨E,e',l,rfl⟩:=I0 (Yr ps) x ⟨[],[],[]⟩ Axl a (List.mem_of_getElem? h1);cases m with
    |dead=>exact h3
    |box _ _ _=>exact h3
    |own z E2 v2 c2=>exact⟨h3.1,h3.2.1,h3.2.2.mono λx c h=>Az.step (λb hb=>⟨⟨hb.1,hb.2.2⟩, .inl (.inl hb.2)⟩) (λ_ _=>rfl) (AR h)⟩⟩,
    eN Avy (λi v hi=>by rw[Av9];exact P3 hi),trivial⟩ rfl
  have hlen:vs.length=pvs.length:=hvs.length;have hpl:pvs.length=ps.length:=by
   unfold args fC at hx';split at hx'
   ·rename_i us hs;cases hx';have key:∀(l:List Sh) (vs r us:List PV),Tf.go l vs=some (us,r)->us.length=l.length:=by
     intro l
     induction l with
     |nil=>intro vs r us h;simp only[Tf.go,Aa6,Aep]at h;obtain⟨rfl,_⟩:=h;rfl
     |cons a l ih=>
      intro vs r us h;simp only[Tf.go]at h;split at h
      ·split at h
       ·rename_i h2;cases h;simp[ih _ _ _ h2]
       ·cases h
      ·cases h
    exact key _ _ _ _ hs
   ·cases hx'
  refine Asb Z _ _ w _ y vs _ rfl hr (hlen.trans hpl) hy' ?_;intro s' A' L' σ' w' h1 hr';have fin:U5 P rs fn.results.toList s'=some y->∃us,iK P σ' w' fn.results.toList us/\∃us',Ending.returned (OT us)= .returned (OT us')/\Apz T.gl R N w w' rs y us':=by
   intro h1;unfold U5 at h1;split at h1
   ·cases h1
   ·rename_i ls0 Auf;split at h1
    ·cases h1
    ·rename_i s1 hs1;obtain⟨A1,L1,hr1,_⟩:=Rp hr' hs1;split at h1
     ·rename_i ls hls;obtain⟨ho,h1⟩:=Bb h1;unfold Aru at hls;split at hls
      ·rename_i vs1 Avz;obtain⟨us,hus,huv⟩:=sF hr1 Avz;refine⟨us,hus,us,rfl,?_⟩;have hold:=hr1.fact 1 (f:= .old Z.M Z.w0) rfl;have hA:∀b,b<w.heap.size->N b->A1 b:=λb hb hN=>(hold.2 b hb (λh=>h hN)).1;have hkeep:KeepN N w w':=⟨λb hb hN=>(hold.2 b hb (λh=>h hN)).2,hold.1⟩;have kL:=Ajq (St.mobs hr1) (Yr rs);obtain⟨hd,hidx⟩:=jG (s:=s1) (c:=L1.length) ho (by rw[hr1.len];exact Apn _);refine⟨hkeep,λb=>A1 b/\ (¬N b\/w.heap.size<=b),(Ia (Yr rs) ls L1.length).map (λi=>(L1++WH (Yr rs)).getD i .dead),λb hb=>⟨hb.2,St.lt hr1 b hb.1⟩,?_,?_⟩
       ·refine(N0 kL hd).EL ?_;rintro b (hb|hb)
        ·exact hb.1
        ·exact hA b hb.1 hb.2
       ·intro s0 L0 B' hL0 hB1 hB2;obtain⟨its,g1,g2,g3,g4⟩:=C3 hr1 (B':=B') (LP:=L1++WH (Yr rs)) (λi m hi=>by rw[List.getElem?_append_left (List.getElem?_eq_some_iff.1 hi).1];exact hi) (Yr rs) ls y [] L1.length s0 L0 _ ho h1
         (λp hp hl b hb=>by
          rcases hb.2 with hR|hN
          ·exact hB2 (Alu hp hl) b hR
          ·exact hB1 b ⟨hb.1,hN⟩)
         (λi m hi=>by rw[List.getElem?_append_right F0,Awz];exact hi) hL0 rfl
        obtain⟨ps',g5,g6⟩:=qT hls huv g3;exact⟨ps',its,g1,g5,g6,by rw[g2];simp,g4⟩
      ·cases hls
     ·cases h1
  obtain⟨us,k1,us',k2,k3⟩:=fin h1;exact⟨us,k1,us',k2,k3⟩
theorem Abf(Adb:P.follows .mixedOrders=true){f:Nat}{ans:List (Nat×An)}{an:An}{ps rs:List Sh}{F:NZ (Yr ps)->Option (NZ (Yr rs))}(hf:P.funcs[f]? =some fn)(hE:Ent P f)(hT:bW P T)(hA:∀p∈ans,Ent P p.1)
  (hle:Nat.ble ps.length fn.ntmps=true) (h:∀x,run P T ans fn an ps rs x=F x):ConOk P T.gl f ⟨ps,rs,F⟩:=by
 cases hc:fn.body with
 |none=>
  refine pQ (RUN:=λ_=>none) (fn:=fn) hE (λx y pvs hx hy=>?_) (λ_ _ _ _ _ _ _ _ _ _ _ h=>by cases h);rw[<-h x]at hy;unfold run at hy;rw[hc]at hy;exact hy
 |some c=>
  refine pQ (T:=T) (fn:=fn) (RUN:=ex P T (XC P T 8 ans) fn.ntmps c an {n:=U5 P rs fn.results.toList,x:=λ_ _=>none,r:=U5 P rs fn.results.toList}) hE (λx y pvs hx hy=>?_) ?_
  ·rw[<-h x]at hy;unfold run at hy;rw[hc,hx]at hy;exact hy
  ·intro Z A L w s y vs Q hZ hr hl hy fin;refine I6 (rs:=fn.results.toList) hf hc rfl Axl (by rw[hl];exact hle) (W.mono (Apq Adb ⟨hT,hZ⟩ (Ad1 Adb hT hA 8) c hy hr) ?_);rintro e σ' w' ⟨s',A',L',h1,hr'⟩;cases e with
   |normal=>exact⟨.inr rfl,fin s' A' L' σ' w' h1 hr'⟩
   |ret=>exact⟨.inl rfl,fin s' A' L' σ' w' h1 hr'⟩
   |exit id=>cases h1
   |goto l=>cases h1
   |panic c=>cases h1
   |outgrown=>cases h1
end Go.Rx
namespace Go.Rx
open Go Go.Lv
structure Pt (R:Type)where
 q:Nat
 n:Nat
 c:Code
 an:An
 k:K R
inductive PS (R:Type)|l|r|d|lp (kn:S->Option R)|call (i f:Nat)|dcall (i f fuel:Nat) (z listed:Array Bool)
def Abn(f:Func):Code:=match f.body with|some c=>c|none=> .skip
variable {R:Type}
noncomputable def Pt.e(P:Program)(T:Tab)(ans:List (Nat×An))(p:Pt R)(s:S):Option R:=match p.c with
 | .loop _=>ex P T (XC P T p.q ans) p.n p.c p.an p.k s
 |_=>hold (λs=>ex P T (XC P T p.q ans) p.n p.c p.an p.k s) s
noncomputable def Pt.it(P:Program)(T:Tab)(ans:List (Nat×An))(p:Pt R)(q:Nat)(s:S):Option R:=match p.c with
 | .loop a=>iter p.an (λkn s'=>ex P T (XC P T p.q ans) p.n a p.an.l {p.k with n:=kn} s') q s
 |_=>none
noncomputable def Pt.step(P:Program)(T:Tab)(ans:List (Nat×An))(p:Pt R):PS R->Pt R
 | .l=>match p.c with
  | .seq a b=>⟨p.q,p.n,a,p.an.l,{p.k with n:=Ak4 p.an λs'=>ex P T (XC P T p.q ans) p.n b p.an.r p.k s'}⟩
  | .cond _ a _=>⟨p.q,p.n,a,p.an.l,p.k⟩
  |_=>p
 | .r=>match p.c with
  | .seq _ b=>⟨p.q,p.n,b,p.an.r,p.k⟩
  | .cond _ _ b=>⟨p.q,p.n,b,p.an.r,p.k⟩
  |_=>p
 | .d=>match p.c with
  | .block id a=>⟨p.q,p.n,a,p.an.l,{p.k with x:=λid' s'=>Df (Nat.beq id' id) (p.k.n s')<|p.k.x id' s'}⟩
  |_=>p
 | .lp kn=>match p.c with
  | .loop a=>⟨p.q,p.n,a,p.an.l,{p.k with n:=P9 p.an kn}⟩
  |_=>p
 | .call i f=>match p.c,p.q,P.funcs[f]?,XC.I8 ans f with
  | .region _ ops false,q+1,some fn,some an=>
   let fin:=XC.Ahz P fn.results.toList λs v=>om P T (ig p.an (XC P T (q+1) ans)) p.n ops (ops.toList.drop (i+1)) (s.Gt ((ops[i]?).bind (·.dst)) v) p.k.n
   ⟨q,fn.ntmps,Abn fn,an,{n:=fin,x:=λ_ _=>none,r:=fin}⟩
  |_,_,_,_=>p
 | .dcall i f fuel z listed=>match p.c,p.q,P.funcs[f]?,XC.I8 ans f with
  | .region _ ops true,q+1,some fn,some an=>
   let fin:=XC.Ahz P fn.results.toList λs v=>TP P T (ig p.an (XC P T (q+1) ans)) p.n (sJ p.an) ops fuel z listed (s.Gt ((ops[i]?).bind (·.dst)) v) p.k.n
   ⟨q,fn.ntmps,Abn fn,an,{n:=fin,x:=λ_ _=>none,r:=fin}⟩
  |_,_,_,_=>p
noncomputable def Pt.at(P:Program)(T:Tab)(ans:List (Nat×An)):Pt R->List (PS R)->Pt R
 |p,[]=>p
 |p,x::l=>Pt.at P T ans (p.step P T ans x) l
noncomputable def Pt.root(P:Program)(fn:Func)(an:An)(rs:List Sh):Pt (NZ (Yr rs)):=
 ⟨8,fn.ntmps,Abn fn,an,{n:=U5 P rs fn.results.toList,x:=λ_ _=>none,r:=U5 P rs fn.results.toList}⟩
noncomputable def PE(P:Program)(T:Tab)(ans:List (Nat×An))(fn:Func)(an:An)(rs:List Sh)(l:List (PS (NZ (Yr rs))))(s:S):Option (NZ (Yr rs)):=(Pt.at P T ans (Pt.root P fn an rs) l).e P T ans s
noncomputable def PI(P:Program)(T:Tab)(ans:List (Nat×An))(fn:Func)(an:An)(rs:List Sh)(l:List (PS (NZ (Yr rs))))(q:Nat)(s:S):Option (NZ (Yr rs)):=(Pt.at P T ans (Pt.root P fn an rs) l).it P T ans q s
theorem H2(a:Option R):both a [a,a]=a:=by simp[both]
theorem zS(a:Option R):both a [a,a,a]=a:=by simp[both]
end Go.Rx
namespace Go.Rx
open Go Go.Lv
variable{vw cp:Bool}{g:Nat}{P:Program}
theorem ConOk.mono{P:Program}{gl gl':List (Nat×List Value)}{f:Nat}{c:Con}(h:ConOk P gl f c)(hs:gl.Sublist gl'):ConOk P gl' f c:=by
 refine⟨h.ent,λR N w L0 vs ps x y h1 h2 h3 h4 h5 h6 h7=>(h.ok R N w L0 vs ps x y h1 h2 h3 h4 h5 (λp hp=>h6 p (hs.subset hp)) h7).mono ?_⟩;rintro e w' ⟨us,he,hk,A1,L1,g1,g2,g3⟩;exact⟨us,he,hk,A1,L1,g1,g2,λs L B' k1 k2 k3=>g3 s L B' k1 k2 λhr b hb=>k3 hr b (hb.imp id λ⟨p,hp,he⟩=>⟨p,hs.subset hp,he⟩)⟩
theorem bW.nil{gl:List (Nat×List Value)}:bW P ⟨[],gl,vw,cp⟩:=λf c h=>by cases h
theorem bW.cons{c:Con}{r:List (Nat×Con)}{gl:List (Nat×List Value)}(h:ConOk P gl g c)(hr:bW P ⟨r,gl,vw,cp⟩):bW P ⟨(g,c)::r,gl,vw,cp⟩:=λf c' h'=>by
 simp only[Tab.get,Aql]at h';cases hb:Nat.beq g f with
 |true=>
  rw[hb]at h';have:=Da hb;subst this;cases h';exact h
 |false=>rw[hb]at h';exact hr f c' h'
theorem Aul.nil:∀p∈([]:List (Nat×An)),Ent P p.1:=by simp
theorem Aul.cons{a:An}{r:List (Nat×An)}(h:Ent P g)(hr:∀p∈r,Ent P p.1):∀p∈(g,a)::r,Ent P p.1:=by
 intro p hp;rcases List.mem_cons.1 hp with rfl|hp
 ·exact h
 ·exact hr p hp
end Go.Rx
namespace Go.Rx
variable {R α:Type}
theorem Il{a b c:Option R}(h:a=c)(h1:b=c):both a [b]=c:=by subst h;subst h1;exact rU _
theorem Ib{a b d c:Option R}(h:a=c)(h1:b=c)(h2:d=c):both a [b,d]=c:=by subst h;subst h1;subst h2;exact H2 _
theorem Io{a b d e c:Option R}(h:a=c)(h1:b=c)(h2:d=c)(h3:e=c):both a [b,d,e]=c:=by subst h;subst h1;subst h2;subst h3;exact zS _
theorem Ml{l:List α}{a b c:Option R}(h:l=[]->a=c)(h1:b=c):xJ l a b=c:=by subst h1;exact Apb h
theorem Mf{o:Option α}{f g:α->Option R}(h:∀x,f x=g x):Option.bind o f=Option.bind o g:=by rw[funext h]
theorem En{o:Option α}{f:α->Option R}{t:Option R}(h:o=none->none=t)(h1:∀x,o=some x->f x=t):Option.bind o f=t:=by
 cases o with
 |none=>exact h rfl
 |some x=>exact h1 x rfl
theorem Mj(f:α->Option R):Option.bind none f=none:=rfl
theorem Dn(x:α)(f:α->Option R):Option.bind (some x) f=f x:=rfl
theorem Dj(o:Option α):Option.bind o (λ_=>(none:Option R))=none:=by cases o<;>rfl
theorem Se{c:Prop} [Decidable c]{a b a' b':Option R}(h:c->a=a')(h1:¬c->b=b'):(if c then a else b)=if c then a' else b':=by
 by_cases hc:c
 ·rw[Aa4 hc,Aa4 hc];exact h hc
 ·rw[Aa2 hc,Aa2 hc];exact h1 hc
theorem Gm{c:Prop} [Decidable c]{a b t:Option R}(h:c->a=t)(h1:¬c->b=t):(if c then a else b)=t:=by
 by_cases hc:c
 ·rw[Aa4 hc];exact h hc
 ·rw[Aa2 hc];exact h1 hc
abbrev vi(x:Int):PV:= .val (.int .i64) x
abbrev vc(x:UInt8):PV:= .val (.int .u8) x
abbrev vu(x:UInt32):PV:= .val (.int .u32) x
abbrev vq(x:UInt64):PV:= .val (.int .u64) x
abbrev vx(x:Int32):PV:= .val (.int .i32) x
abbrev vt(x:Bool):PV:= .val .bool x
abbrev vs(x:List UInt8):PV:= .val .str x
abbrev vb(x:List UInt8):PV:= .val (.list (.int .u8)) x
abbrev vl(x:List Int):PV:= .val (.list (.int .i64)) x
abbrev vw(x:List Int32):PV:= .val (.list (.int .i32)) x
abbrev vv(x:List UInt32):PV:= .val (.list (.int .u32)) x
end Go.Rx
namespace Go.Rx
open Go Go.Lv
variable{f:Nat}{P:Program}
structure Hd where
 p:List Sh
 r:List Sh
 a:An
 T:Tab
 s:List (Nat×An)
 f:Func
noncomputable def Hd.e(P:Program)(H:Hd):List (PS (NZ (Yr H.r)))->S->Option (NZ (Yr H.r)):=PE P H.T H.s H.f H.a H.r
noncomputable def Hd.i(P:Program)(H:Hd):List (PS (NZ (Yr H.r)))->Nat->S->Option (NZ (Yr H.r)):=PI P H.T H.s H.f H.a H.r
noncomputable def Hd.u(P:Program)(H:Hd)(x:NZ (Yr H.p)):Option (NZ (Yr H.r)):=run P H.T H.s H.f H.a H.p H.r x
def okH(H:Hd):Bool:=(!(H.f.name== "runtime.NumGoroutine")&&H.f.body.isSome)&&Nat.ble H.p.length H.f.ntmps
theorem Hd.con(hM:P.follows .mixedOrders=true)(H:Hd){F:NZ (Yr H.p)->Option (NZ (Yr H.r))}(hf:P.funcs[f]? =some H.f)(hT:bW P H.T)(hA:∀p∈H.s,Ent P p.1)
  (hb:okH H=true) (h:∀x,H.u P x=F x):ConOk P H.T.gl f ⟨H.p,H.r,F⟩:=by
 simp only[okH,Aa5,Ap1]at hb;obtain⟨c,hc⟩:=Option.isSome_iff_exists.1 hb.1.2;exact Abf (T:=H.T) hM hf (Ent.mk hf hb.1.1 hc) hT hA hb.2 h
def Aqh(P:Program)(f:Nat):Bool:=match P.funcs[f]? with|some fn=>!(fn.name== "runtime.NumGoroutine")&&fn.body.isSome|none=>false
theorem Arl(h:Aqh P f=true):Ent P f:=by
 unfold Aqh at h;split at h
 ·rename_i fn hf;simp only[Aa5,Ap1]at h;obtain⟨c,hc⟩:=Option.isSome_iff_exists.1 h.2;exact Ent.mk hf h.1 hc
 ·cases h
def okA(P:Program)(H:Hd):Bool:=(H.s.all λp=>Aqh P p.1)&&okH H
theorem Hd.cn(hM:P.follows .mixedOrders=true)(H:Hd){F:NZ (Yr H.p)->Option (NZ (Yr H.r))}(hf:P.funcs[f]? =some H.f)(hT:bW P H.T)
  (hb:okA P H=true) (h:∀x,H.u P x=F x):ConOk P H.T.gl f ⟨H.p,H.r,F⟩:=by
 simp only[okA,Aa5,List.all_eq_true]at hb;exact Hd.con hM H hf hT (λp hp=>Arl (hb.1 p hp)) hb.2 h
abbrev Kc(P:Program)(gl:List (Nat×List Value)):={p:Nat×Con//ConOk P gl p.1 p.2}
def Ast{P:Program}{gl:List (Nat×List Value)}(l:List (Kc P gl))(v c:Bool):Tab:=⟨l.map (·.1),gl,v,c⟩
theorem Afd{P:Program}{gl:List (Nat×List Value)}:∀(l:List (Kc P gl)) (v c:Bool),bW P (Ast l v c)
 |[],_,_=> .nil
 |a::l,v,c=> .cons a.2 (Afd l v c)
theorem ind{p:Nat->Prop}(h:p 0)(hs:∀q,p q->p (q+1)):∀q,p q:=λq=>Nat.rec h hs q
variable {R α:Type}
noncomputable abbrev bo(a:Option R):Option R:=both a [a]
noncomputable abbrev bo2(a:Option R):Option R:=both a [a,a]
theorem MC(a:Option R):both a [a]=a:=rU a
theorem Vq(a:Option R):both a [a,a]=a:=H2 a
theorem Wr(a:Option R):both a [a,a,a]=a:=zS a
abbrev Si:Sh:= .lf (.int .i64) none
abbrev Sc:Sh:= .lf (.int .u8) none
abbrev Su:Sh:= .lf (.int .u32) none
abbrev Sq:Sh:= .lf (.int .u64) none
abbrev Sx:Sh:= .lf (.int .i32) none
abbrev Sz:Sh:= .lf .bool none
abbrev Ss:Sh:= .lf .str none
abbrev Sb:Sh:= .lf (.list (.int .u8)) none
abbrev Sl:Sh:= .lf (.list (.int .i64)) none
abbrev Sw:Sh:= .lf (.list (.int .i32)) none
abbrev Sv:Sh:= .lf (.list (.int .u32)) none
abbrev Ob(e:Nat):Sh:= .lf (.list (.int .u8)) (some e)
abbrev Ol(e:Nat):Sh:= .lf (.list (.int .i64)) (some e)
abbrev Ow(e:Nat):Sh:= .lf (.list (.int .i32)) (some e)
abbrev Ov(e:Nat):Sh:= .lf (.list (.int .u32)) (some e)
abbrev Ai(e:Nat)(l:List Int):Item:= .arr e (.int .i64) l
abbrev Ab(e:Nat)(l:List UInt8):Item:= .arr e (.int .u8) l
abbrev Aw(e:Nat)(l:List Int32):Item:= .arr e (.int .i32) l
abbrev Av(e:Nat)(l:List UInt32):Item:= .arr e (.int .u32) l
abbrev An.q(a:An):An:= .seq .d a
end Go.Rx
namespace Go.Rx
open Go Go.Lv Go.RowKit
variable{cs vs:List Value}{B:Reg}{v:Value}{w:World}
variable {P:Program}
theorem KE{B:Reg}{w:World}{k:Kd}:∀(l:List k.T),Ci (Az B w (.int k)) l (Go.Lv.FW (k:=k.k) l)
 |[]=>rfl
 |x::l=>⟨[iv (T:=k.T) (k:=k.k) x],Go.Lv.FW (k:=k.k) l,rfl,rfl,KE l⟩
theorem Rd.EL{A:Reg}{s:Nat}(h:Rd A w s v cs)(ha:∀b,A b->B b):Rd B w s v cs:=h.step ha λ_ _=>rfl
theorem enc_row{k:Kd}{l:List k.T}(h:Rd (λ_=>True) w 1 v (Go.Lv.FW (k:=k.k) l)):Ih (λ_=>True/\True) w [] (.val (.list (.int k)) l) v:=
 ⟨v,_,rfl,Rd.EL h λ_ _=>⟨trivial,trivial⟩,KE l⟩
theorem enc_str(s:List UInt8):Ih (λ_=>True/\True) w [] (.val .str s) (sv s):=rfl
theorem string_sv(a:ByteArray):∃l,(.string a:Value)=sv l:=⟨a.data.toList,by cases a;rfl⟩
theorem encs_nil:Es B w [] [] []:=rfl
theorem encs_cons{p:PV}{ps:List PV}(h:Ih B w [] p v)(hs:Es B w [] ps vs):Es B w [] (p::ps) (v::vs):=⟨v,vs,rfl,h,hs⟩
theorem row_true{gl:List (Nat×List Value)}{f:Nat}{ps:List Sh}{F:NZ (Yr ps)->Option Bool}(hC:ConOk P gl f ⟨ps,[.lf .bool none],F⟩){x:NZ (Yr ps)}{pvs:List PV}(ha:args ps x=some pvs)(hi:Aaz ps x=[])
  (hv:Es (λ_=>True/\True) w [] pvs vs) (hg:GlOk gl (λ_=>True) w) (hF:F x=some true):Calls P f vs.toArray w λe w'=>e= .returned (.bool true)/\Below w.heap.size w w':=by
 refine(hC.ok (λ_=>True) (λ_=>True) w [] vs pvs x true ha (by rw[hi];rfl) (λi a m h=>by rw[hi]at h;simp at h) trivial hv hg hF).mono ?_;rintro e w' ⟨us,rfl,hk,A1,L1,g1,g2,g3⟩;obtain⟨qs,its,k1,k2,k3,k4,k5⟩:=g3 ⟨[],[],[]⟩ [] (λ_=>True) rfl (λ_ _=>trivial) (λ_ _ _=>trivial);refine⟨?_,⟨hk.gr.os,hk.gr.tape,hk.gr.output,hk.gr.le,λb hb=>hk.same b hb trivial⟩⟩;obtain rfl:=Awu (show some [PV.val .bool true]=some qs from k2);obtain⟨_,_,rfl,e1,rfl⟩:=k3;cases(show [_]=[Value.bool true]from e1);rfl
theorem laid_ints{H:Type}{enc:TypeId×Value->H}{fuel:Nat}{t e n:Nat}{k:IntKind}{zs:List Int}{p:List MemPlace}(hu:P.underlying t=some (.array n e))(he:P.underlying e=some (.int k))(hc:P.cellsOf e=1)(ht:P.cellsOf t=n)
  (h:DataW.trod enc P w 0 (λ_=>true) false fuel t cs=some (.agg (zs.map λz=> .lit (.int k z)),p)):cs=zs.map λz=>Value.int k z:=by
 obtain⟨xs,m,rfl,hx,hlen,hn,hel⟩:=DataW.trod_array hu h;simp only[Aep,DataW.agg.injEq]at hx;rw[ht]at hlen;have hz:zs.length=n:=by
  have:=congrArg List.length hx.1;simpa [hn]using this
 apply List.ext_getElem?;intro i;by_cases hi:i<n
 ·have h0:=hel i hi;rw[hc,Nat.mul_one]at h0;have hxi:xs[i]? =some xs[i]:=List.getElem?_eq_getElem F0;rw[hxi]at h0;obtain⟨q,e1,e2,_⟩:=DataW.trod_int he h0;have e3:(cs.drop i).take 1=[cs[i]' F0]:=by
   rw[List.drop_eq_getElem_cons F0];rfl
  rw[e3]at e1;have e4:(xs.map (·.1))[i]? =(zs.map λz=>(DataW.lit (.int k z):DataW H))[i]? :=by rw[<-hx.1]
  rw[List.getElem?_map,List.getElem?_map,hxi,List.getElem?_eq_getElem F0,e2]at e4;simp only[Awt,Aa6,DataW.lit.injEq,Lit.int.injEq,true_and]at e4;rw[List.getElem?_map,List.getElem?_eq_getElem F0,List.getElem?_eq_getElem F0];simp only[Aw7,Axg]at e1;rw[e1,e4];rfl
 ·rw[List.getElem?_eq_none F0,List.getElem?_eq_none F6]
theorem glOk_cons{n:String}{g:Nat}{cs:Array Value}{l:List Value}{gl:List (Nat×List Value)}(hg:P.globalNamed n=some g)(hv:w.var? P n=some cs)(hl:cs.toList=l)(h:GlOk gl (λ_=>True) w):GlOk ((g,l)::gl) (λ_=>True) w:=by
 intro p hp;rcases List.mem_cons.1 hp with rfl|hp
 ·simp only[World.var?,hg,Option.bind_some]at hv;split at hv
  ·rename_i cs' T fr hh;cases hv;refine⟨(Array.getElem?_eq_some_iff.1 hh).1,trivial,T,fr,?_⟩;rw[hh,<-hl]
  ·cases hv
 ·exact h p hp
theorem glOk_nil{N:Reg}:GlOk [] N w:=λp hp=>by simp at hp
end Go.Rx
namespace Go.Rx
open Go Go.Lv Go.RowKit Go.ChangeShapes Go.WideShapes
variable{cs:List Value}{fuel:Nat}{H:Type}{t:TypeId}{w:World}
variable {P:Program}
theorem laid_bool_int{enc:TypeId×Value->H}{f0 f1:Field}{k:IntKind}{b:Bool}{z:Int}{p:List MemPlace}(hu:P.underlying t=some (.struct #[f0,f1]))
  (h0:P.underlying f0.type=some .bool) (h1:P.underlying f1.type=some (.int k)) (o0:f0.offset=0) (o1:f1.offset=1) (c0:P.cellsOf f0.type=1) (c1:P.cellsOf f1.type=1) (ct:P.cellsOf t=2)
  (h:DataW.trod enc P w 0 (λ_=>true) false fuel t cs=some (.agg [.lit (.bool b), .lit (.int k z)],p)):cs=[.bool b, .int k z]:=by
 obtain⟨xs,m,rfl,hx,hlen,hn,hel⟩:=DataW.trod_struct hu h;rw[ct]at hlen
 match cs,hlen with
 |[a,c],_=>
  match xs,hn with
  |[y0,y1],_=>
   simp only[Aep,DataW.agg.injEq,Auo,List.map_nil,Aw7,Axg]at hx;have e0:=hel 0 f0 rfl;have e1:=hel 1 f1 rfl;rw[o0,c0]at e0;rw[o1,c1]at e1;obtain⟨b',q0,r0⟩:=DataW.trod_bool h0 e0;obtain⟨z',q1,r1,_⟩:=DataW.trod_int h1 e1;simp at q0 q1;rw[r0,r1]at hx;simp at hx;rw[q0,q1,hx.1.1,hx.1.2]
theorem fld{enc:TypeId×Value->H}{base:Nat}{spare:Nat->Bool}{held:Bool}{fs:Array Field}{x:DataW H×List MemPlace}(ht:P.underlying t=some (.struct fs))(h:DataW.trod enc P w base spare held fuel t cs=some x)
  (i:Nat) {ft:TypeId} {off k:Nat} {part:List Value} (hf:(fs[i]?).map (λf=>(f.type,f.offset))=some (ft,off)) (hc:P.cellsOf ft=k) (hd:(cs.drop off).take k=part):∃n y,DataW.trod enc P w base spare held n ft part=some y:=by
 obtain⟨xs,n,_,_,_,hn,hel⟩:=DataW.trod_struct ht h;cases hi:fs[i]? with
 |none=>rw[hi]at hf;cases hf
 |some f=>
  rw[hi]at hf;cases hf;have g:=hel i f hi;rw[hc,hd,List.getElem?_eq_getElem (by rw[hn];exact(Array.getElem?_eq_some_iff.1 hi).1)]at g;exact⟨n,_,g⟩
end Go.Rx
namespace Go.Rx
open Go Go.Lv Go.RowKit Go.ChangeShapes Go.WideShapes
variable{held:Bool}{f0 f1:Field}{k0 k1:Kd}{fuel len cap:Nat}{a:Option Addr}{H:Type}{t te:TypeId}{w:World}
variable {P:Program}
theorem Aab(a:Addr)(i j:Nat):(a.add i).add j=a.add (i+j):=by
 obtain⟨b,off,spot⟩:=a;by_cases hi:i=0<;>by_cases hj:j=0<;>simp[Addr.add,hi,hj,Asn]
theorem Acw{enc:TypeId×Value->H}{E:ET}(ht:P.underlying t=some (.slice te))(hc:P.cellsOf te=E.size)(h0:0<E.size)
  (elem:∀(n:Nat) (cs:List Value) (x:DataW H×List MemPlace),DataW.trod enc P w 0 (λ_=>true) held n te cs=some x->∃y:E.T,Az (λ_=>True/\True) w E y cs)
  {cs:List Value} {x:DataW H×List MemPlace} (h:DataW.trod enc P w 0 (λ_=>true) held fuel t cs=some x):
  ∃(a:Option Addr) (len cap:Nat) (l:List E.T),cs=[.slice a len cap]/\Az (λ_=>True/\True) w (.list E) l [.slice a len cap]:=by
 rcases DataW.trod_slice ht h with⟨rfl,_⟩|⟨a,len,cap,elems,rest,n,_,rfl,_,_,hl,hm,hlen,hel,hsp,_⟩
 ·exact⟨none,0,0,[],rfl,_,[],rfl,Rd.nil,rfl⟩
 obtain⟨hrl,hr⟩:=hsp rfl;rw[hc]at hel hr;have each:∀i,i<cap->∃(c:List Value) (y:E.T),w.cells? 0 (a.add (i*E.size)) E.size=some c/\Az (λ_=>True/\True) w E y c:=by
  intro i hi;by_cases hlt:i<len
  ·have h1:=hel i hlt;rw[List.getElem?_eq_getElem F0,Option.bind_eq_some_iff]at h1;obtain⟨c,h2,h3⟩:=h1;obtain⟨y,h4⟩:=elem _ _ _ h3;exact⟨c,y,h2,h4⟩
  ·have h1:=hr (i-len) F0;rw[List.getElem?_eq_getElem F0,Option.bind_eq_some_iff,show len+(i-len)=i by omega]at h1;obtain⟨c,h2,h3⟩:=h1;obtain⟨y,h4⟩:=elem _ _ _ h3;exact⟨c,y,h2,h4⟩
 by_cases hcap:cap=0
 ·subst hcap;obtain rfl:len=0:=F0
  exact⟨some a,0,0,[],rfl,_,[],rfl,⟨some a,0,0,rfl,Axl,Apn _,(λh=>by cases h),λh=>absurd h F0⟩,rfl⟩
 have cellAt:∀i,i<cap->∀j,j<E.size->∃v,w.cell? (a.add (i*E.size+j))=some v:=by
  intro i hi j hj;obtain⟨c,y,h1,_⟩:=each i hi;obtain⟨_,h2,h3⟩:=World.cells?_some h1;have h4:=h3 j hj;rw[List.getElem?_eq_getElem F0]at h4;exact⟨_,by rw[<-Aab];exact h4⟩
 obtain⟨b,off,spot⟩:=a;obtain⟨v0,hv0⟩:=cellAt 0 F0 0 h0;have hspot:spot=none:=by simpa [Addr.add]using World.cell?_spot hv0
 subst hspot;have hb:∃arr T fr,w.heap[b]? =some (.cells arr T fr):=by
  rw[Nat.zero_mul,Lc]at hv0;unfold World.cell? at hv0;split at hv0
  ·rename_i arr T fr hh;exact⟨arr,T,fr,by simpa using hh⟩
  ·cases hv0
 obtain⟨arr,T,fr,hb⟩:=hb;have hcell:∀i,w.cell? ((⟨b,off,none⟩:Addr).add i)=arr[off+i]? :=λi=>by rw[Lc,cell_of hb]
 have hsize:off+cap*E.size<=arr.size:=by
  obtain⟨v,hv⟩:=cellAt (cap-1) F0 (E.size-1) F0;rw[hcell]at hv;have:=(Array.getElem?_eq_some_iff.1 hv).1;have e:(cap-1)*E.size+E.size=cap*E.size:=by rw[<-Awa];congr 1;omega
  omega
 have hle:len*E.size<=cap*E.size:=Adh _ hl
 let c0:=(arr.toList.drop off).take (len*E.size)
 have hc0:c0.length=len*E.size:=by simp only[c0,Ah0,Ah1,Aww];omega
 have hget:∀i,i<len*E.size->arr[off+i]? =c0[i]? :=λi hi=>by
  simp only[c0];rw[List.getElem?_take,Aa4 hi,List.getElem?_drop,Array.getElem?_toList]
 have key:∀j i,i+j=len->∃l:List E.T,Ci (Az (λ_=>True/\True) w E) l (c0.drop (i*E.size)):=by
  intro j
  induction j with
  |zero=>intro i hi;exact⟨[],by rw[show i=len by omega,<-hc0,Avo];rfl⟩
  |succ j ih=>
   intro i hi;obtain⟨l,hl'⟩:=ih (i+1) F0;obtain⟨c,y,h1,h2⟩:=each i F0;obtain⟨_,h3,h4⟩:=World.cells?_some h1;have hi1:(i+1)*E.size<=len*E.size:=Adh _ F0;rw[Awa]at hi1 hl';refine⟨y::l,c,c0.drop (i*E.size+E.size),?_,h2,hl'⟩;have e:c0.drop (i*E.size)=(c0.drop (i*E.size)).take E.size++c0.drop (i*E.size+E.size):=by rw[<-List.drop_drop];exact(Av3 _ _).symm
   rw[e];congr 1;apply List.ext_getElem?;intro q;by_cases hq:q<E.size
   ·rw[List.getElem?_take,Aa4 hq,List.getElem?_drop,<-hget _ F0,<-h4 q hq];rw[<-hcell,Aab]
   ·rw[List.getElem?_eq_none (by rw[Ah0];omega),List.getElem?_eq_none F0]
 obtain⟨l,hl'⟩:=key len 0 F0;rw[Nat.zero_mul,Aw4]at hl';exact⟨some ⟨b,off,none⟩,len,cap,l,rfl,_,c0,rfl,⟨_,len,cap,rfl,hc0,hl,(λh=>by cases h),λ_=>⟨b,off,arr,T,fr,rfl,⟨trivial,trivial⟩,hb,hsize,hget⟩⟩,hl'⟩
theorem Agw{enc:TypeId×Value->H}(he:P.underlying te=some (.struct #[f0,f1])) (ce:P.cellsOf te=2) (o0:f0.offset=0) (o1:f1.offset=1)
  (h0:P.underlying f0.type=some (.int k0.k)) (h1:P.underlying f1.type=some (.int k1.k)) (c0:P.cellsOf f0.type=1) (c1:P.cellsOf f1.type=1) (n:Nat) (cs:List Value) (x:DataW H×List MemPlace)
  (h:DataW.trod enc P w 0 (λ_=>true) held n te cs=some x):∃y:k0.T×k1.T×Unit,Az (λ_=>True/\True) w (.cons (.int k0) (.cons (.int k1) .nil)) y cs:=by
 obtain⟨y0,y1,m,_,hl,g0,g1⟩:=trod_struct2 he h;rw[ce]at hl
 match cs,hl with
 |[v0,v1],_=>
  rw[o0,c0]at g0;rw[o1,c1]at g1;obtain⟨z0,e0,_,w0⟩:=DataW.trod_int h0 g0;obtain⟨z1,e1,_,w1⟩:=DataW.trod_int h1 g1;cases e0;cases e1;refine⟨(GI.ofZ z0,GI.ofZ z1,()),[_],[_],rfl,?_,[_],[],rfl,?_,rfl⟩
  ·show [_]=[_];rw[Ach (T:=k0.T) w0]
  ·show [_]=[_];rw[Ach (T:=k1.T) w1]
def IsPairs(k0 k1:Kd)(w:World)(a:Option Addr)(len cap:Nat)(l:List (k0.T×k1.T×Unit)):Prop:=Az (λ_=>True/\True) w (.list (.cons (.int k0) (.cons (.int k1) .nil))) l [.slice a len cap]
theorem enc_pairs{l:List (k0.T×k1.T×Unit)}(h:IsPairs k0 k1 w a len cap l):Ih (λ_=>True/\True) w [] (.val (.list (.cons (.int k0) (.cons (.int k1) .nil))) l) (.slice a len cap):=h
theorem open_pairs{enc:TypeId×Value->H}{x:DataW H×List MemPlace}(ht:P.underlying t=some (.slice te))(he:P.underlying te=some (.struct #[f0,f1])) (ce:P.cellsOf te=2) (o0:f0.offset=0) (o1:f1.offset=1)
  (h0:P.underlying f0.type=some (.int k0.k)) (h1:P.underlying f1.type=some (.int k1.k)) (c0:P.cellsOf f0.type=1) (c1:P.cellsOf f1.type=1) (h:DataW.trod enc P w 0 (λ_=>true) held fuel t [.slice a len cap]=some x):∃l,IsPairs k0 k1 w a len cap l:=by
 obtain⟨a',len',cap',l,e,hl⟩:=Acw (E:= .cons (.int k0) (.cons (.int k1) .nil)) ht ce (show 0<1+(1+0) by decide) (Agw he ce o0 o1 h0 h1 c0 c1) h;cases e;exact⟨l,hl⟩
end Go.Rx
