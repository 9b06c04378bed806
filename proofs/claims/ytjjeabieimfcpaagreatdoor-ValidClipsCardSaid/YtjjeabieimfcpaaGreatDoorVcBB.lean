/- A part of a proof (see the text that ends in Proof). No conditions. -/
import Derived.Test.YtjjeabieimfcpaaGreatDoorVcBA
import Derived.ProofKit
import Derived.LaidMore
import Derived.DataReads
set_option linter.unusedVariables false
set_option linter.unusedSimpArgs false
namespace Go.Rx
open Go Go.Lv
variable {P:Program} {w w':World} {L L':List MD} {s:S} {σs:List Env} {σ:Env} {Z:Fix} {A A':Reg} {n:Nat} {ops:Array Oper} {rest:List Oper} {K:Env->World->Prop}
variable {R:Type} {k:S->Option R} {r:R} {d:Option Nat} {ty:TypeId} {pos:String} {after:Array Edge}
theorem WL.M4{o:Oper}{v:Value}{w':World}(hg:o.guard=none)(hdn:Jp n o=true)
  (hx:(execOp (ev σ) o).run P w= .ok (.value v) w') (h:WL P n ops rest K (jw σ o.dst v) w'):WL P n ops (o::rest) K σ w:=by
 intro ds a ha;refine wpList_plain hg λK' hK'=>?_;unfold Oper.wp;rw[ha.eval,hx];refine hK' _ _ ?_;cases hd:o.dst with
 |none=>rw[hd]at h;exact h _ _ (ha.oV v)
 |some d=>
  rw[hd]at h;unfold Jp at hdn;rw[hd]at hdn;exact h _ _ (ha.put hdn v)
def rM(Z:Fix)(σs:List Env)(k:S->Option R)(r:R)(G:Prop)(A:Reg)(L:List MD)(it:List Item)(w:World)(σ':Env)(w':World):Prop:=
 ∃s' A' L',k s'=some r/\Rel Z s' σs A' L' σ' w'/\ (G->Grow A L it w A' L' s'.it w')
abbrev CQ(P:Program)(n:Nat)(ops:Array Oper)(o:Oper)(Z:Fix)(s:S)(σs:List Env)(k:S->Option R)(r:R)(G:Prop)(A:Reg)(L:List MD)(σ:Env)(w:World):Prop:=
 WL P n ops [o] (rM Z σs k r G A L s.it w) σ w
theorem Dl{o:Op}{p:PV}{val:Value}{G:Prop}(hr:Rel Z s σs A L σ w)(hd:Jp n ⟨d,o,ty,pos,after,none⟩=true)(hx:XO P σ w o val)(hv:p.isV=true)(h:Ei (λb=>A b/\Z.R b) w L p val)
  (hk:k (s.Gj d p)=some r):CQ P n ops ⟨d,o,ty,pos,after,none⟩ Z s σs k r G A L σ w:=by
 refine WL.M4 rfl hd (hx _ _ _ _ _) (WL.nil ⟨_,A,L,hk,hr.Gj hv h,λ_=>?_⟩);have:(s.Gj d p).it=s.it:=by cases d<;>rfl
 rw[this];exact .refl
theorem IH{p:PV}{j:Int}{v:Value}{B:Reg}(h:WS p=some j)(hv:Ei B w L p v):∃q,v= .int q j:=by
 unfold WS at h;split at h
 ·rename_i e x;split at h
  ·cases h;exact⟨_,PG hv⟩
  ·cases h
 ·cases h
theorem QJ{p:PV}{j:Int}(h:WS p=some j):p.isV=true:=by unfold WS at h;split at h;rfl;cases h
theorem nD{p:PV}{j:Int}{v:Value}{B:Reg}(h:asInt p=some j)(hv:Ei B w L p v):v=iv j:=by
 unfold asInt at h;split at h
 ·rename_i e x;split at h
  ·rename_i q y;split at h
   ·cases h;exact PG hv
   ·cases h
  ·cases h
 ·cases h
theorem vV{p:PV}{j:Int}(h:asInt p=some j):p.isV=true:=by unfold asInt at h;split at h;rfl;cases h
theorem Kx{o:Option Operand}{dflt j:Int}{B:Reg}(hm:Fp B w L σ s.sl)(h:RB s.sl o dflt=some j):(∃q,o.map (ev σ)=some (.int q j))\/ (o=none/\j=dflt):=by
 unfold RB at h;split at h
 ·cases h;exact .inr ⟨rfl,rfl⟩
 ·rename_i x;obtain⟨q,hq⟩:=IH h (Uc hm x (QJ h));exact .inl ⟨q,by rw[Aod,hq]⟩
theorem X.wo{t:TypeId}{x ix:Operand}{l:List UInt8}{j:Int}{q:IntKind}{y:UInt8}(ht:P.underlying t=some .string)(hx:ev σ x=sv l)(hi:ev σ ix= .int q j)(hg:Aj l j=some y):
  XO P σ w (.index t x ix) (iv y):=λ_ _ _ _ _=>by
 obtain⟨h1,h2,h3⟩:=Iy hg;have h4:=run_index_string (P:=P) w t ⟨l.toArray⟩ q j ht;have h5:0<=j/\j<(⟨l.toArray⟩:ByteArray).size:=by simp[ByteArray.size];omega
 rw[dif_pos h5]at h4;have h6:(⟨l.toArray⟩:ByteArray)[j.toNat]'(by simp[ByteArray.size];omega)=y:=by
  have e1:l[j.toNat]=y:=by rw[List.getElem?_eq_getElem h2]at h3;simpa using h3
  rw[<-e1];rfl
 simp only[execOp,hx,hi,Ahe,h4,Adb,Ajl,R6];rw[h6]
theorem Adt{t et:TypeId}{m:Nat}{e:ET}{x ix:Operand}{l:List e.T}{j:Int}{q:IntKind}{y:e.T}{cs:List Value}{B:Reg}(ht:P.underlying t=some (.array m et))(hsz:Ik P et e.size)
  (hag:∃u,P.underlying et=some u/\ko u=(e.pv y).isA) (h1:(e.pv y).isA=false->e.size=1) (hlen:l.length=m)
  (hx:ev σ x= .agg cs.toArray) (hl:Bq (Aq B w e) l cs) (hi:ev σ ix= .int q j) (hg:Aj l j=some y):∃val,XO P σ w (.index t x ix) val/\Ij B w L (e.pv y) val:=by
 obtain⟨h3,h4,h5⟩:=Iy hg;obtain⟨c1,c2,c3,he,h6,h7,_⟩:=Bq.get (λx c h=>Aq.len h) hl h5;have h8:0<=j/\j<(m:Int):=by omega
 obtain⟨u,hu,ha⟩:=hag;have hc2:=h7.len;cases hA:(e.pv y).isA with
 |true=>
  refine⟨.agg c2.toArray,λ_ _ _ _ _=>?_,by unfold Ij;rw[hA];exact⟨c2,rfl,RY.2 h7⟩⟩;have e1:(cs.drop (j.toNat*e.size)).take e.size=c2:=by rw[he,<-h6,<-hc2];simp
  simp[execOp,hx,hi,Instr.index,asIntOf,Ago ht,h8,Bi hsz,asAgg,part,Eg hu (ha.trans hA),e1]
 |false=>
  rw[h1 hA]at hc2
  match c2,hc2 with
  |[v],_=>
   refine⟨v,λ_ _ _ _ _=>?_,by unfold Ij;rw[hA];exact RY.2 h7⟩;have e1:cs[j.toNat*e.size]? =some v:=by rw[he,<-h6];simp
   simp[execOp,hx,hi,Instr.index,asIntOf,Ago ht,h8,Bi hsz,asAgg,part,Eg hu (ha.trans hA),e1]
theorem Ty{t et:TypeId}{b o len cap z:Nat}{j:Int}{q:IntKind}{x ix:Operand}(ht:P.underlying t=some (.slice et))(hsz:Ik P et z)(hx:ev σ x= .slice (some ⟨b,o,none⟩) len cap)(hi:ev σ ix= .int q j)
  (h0:0<=j) (h1:j<len) (w:World):XO P σ w (.indexAddr t x ix) (.pointer (some ⟨b,o+j.toNat*z,none⟩)):=λ_ _ _ _ _=>by
 simp only[execOp,hx,hi,Instr.indexAt,Ahe,asIntOf,Ajl,Adb,Ago ht,h0,h1,and_self,Aou,Bi hsz,Mj]
theorem RR{t et:TypeId}{b o m z:Nat}{j:Int}{q:IntKind}{x ix:Operand}(ht:P.underlying t=some (.array m et))(hsz:Ik P et z)(hx:ev σ x= .pointer (some ⟨b,o,none⟩))(hi:ev σ ix= .int q j)
  (h0:0<=j) (h1:j<m) (w:World):XO P σ w (.indexAddr t x ix) (.pointer (some ⟨b,o+j.toNat*z,none⟩)):=λ_ _ _ _ _=>by
 simp only[execOp,hx,hi,Instr.indexAt,Instr.sureAddr,Ahe,asIntOf,Ajl,Adb,Ago ht,h0,h1,and_self,Aou,Bi hsz,Mj]
theorem Ep{t:TypeId}{i:TypeInfo}{z:Nat}(h:P.info? t=some i)(hz:Nat.beq i.size z=true):Ik P t z:=⟨i,h,Ck hz⟩
theorem Rel.base(hr:Rel Z s σs A L σ w){i z:Nat}{E:TypeId}{v:Value}{cs:List Value}(h:L[i]? =some (.own z E v cs))(hne:0<cs.length):∃b len cap,v= .slice (some ⟨b,0,none⟩) len cap/\cs.length=len*z:=by
 obtain⟨b,m,c,hv,_⟩:=St.wS hr (hr.Ji h) hne;obtain⟨p,len,cap,h1,h2,_⟩:=hr.Wp h;subst hv;cases h1;exact⟨b,m,c,rfl,h2⟩
theorem VT(st:Step):∀(p:List Step),Ay (p++[st])=Ay p+bF st
 |[]=>by simp[Ay]
 |a::p=>by simp[Ay,VT st p,Alo]
theorem H8{t:TypeId}{x ix:Operand}{G:Prop}(hr:Rel Z s σs A L σ w)(hd:Jp n ⟨d, .indexAddr t x ix,ty,pos,after,none⟩=true)(h:iQ P s d t x ix k=some r):
  CQ P n ops ⟨d, .indexAddr t x ix,ty,pos,after,none⟩ Z s σs k r G A L σ w:=by
 have hm:=hr.mem;unfold iQ at h;split at h
 ·cases h
 ·rename_i j hj;obtain⟨q,hix⟩:=IH hj (Uc hm.sl ix (QJ hj));split at h
  ·rename_i et ht;split at h
   ·cases h
   ·rename_i inf Vx;split at h
    ·rename_i e0 l0 hx;split at h
     ·rename_i e l;obtain⟨hb,h⟩:=Bb h;simp only[Ac9]at hb;obtain⟨y,hy,h⟩:=bind_some h;obtain⟨hj0,hj1,hj2⟩:=Iy hy;obtain⟨c0,h1,h2⟩:=BJ (Ct hm.sl hx rfl);obtain⟨p,len,cap,h3,h4,h5,h6,h7⟩:=h1;have hlen:=h2.len λx c h=>Aq.len h;have hz:0<e.size:=by have:=Aky hb.2;omega
      have hl:len=l.length:=Aji hz (h4.symm.trans hlen);subst hl;obtain⟨b,off,arr,T,fr,rfl,hB,hbl,hcap,hc⟩:=h7 (by omega);obtain⟨c1,c2,c3,he,h8,h9,_⟩:=Bq.get (λx c h=>Aq.len h) h2 hj2;have h10:c2.length=e.size:=h9.len;have h11:(j.toNat+1)*e.size<=l.length*e.size:=Aey _ hj1;rw[An9]at h11;have hp:uV (λb=>A b/\Z.R b) w (.pointer (some ⟨b,off+j.toNat*e.size,none⟩)) c2:=by
       refine⟨b,off+j.toNat*e.size,arr,T,fr,rfl,hB,hbl,λq hq=>?_⟩;rw[Alo,hc _ (by omega),he,List.getElem?_append_right (by omega),h8,show j.toNat*e.size+q-j.toNat*e.size=q by omega,List.getElem?_append_left hq]
      have hvr:Ei (λb=>A b/\Z.R b) w L (.rptr (e.pv y)) (.pointer (some ⟨b,off+j.toNat*e.size,none⟩)):=⟨_,c2,rfl,hp,RY.2 h9⟩;exact Dl hr hd (Ty ht (Ep Vx hb.1) h3 hix (by omega) (by omega) w) rfl hvr h
     ·cases h
    ·rename_i i hx;split at h
     ·rename_i E e l hi;obtain⟨hb,h⟩:=Bb h;simp only[Ac9]at hb;obtain⟨y,hy,h⟩:=bind_some h;obtain⟨hj0,hj1,hj2⟩:=Iy hy;obtain⟨v,cs,h1,h2⟩:=hm.arr hi;obtain⟨z',E',c',h3⟩:=JO (Ct hm.sl hx rfl);rw[h1]at h3;cases h3;have hlen:=h2.len λx c h=>Aq.len h;have hz:0<e.size:=by have:=Aky hb.2;omega
      have hpos:0<cs.length:=by rw[hlen];exact Nat.mul_pos (by omega) hz
      obtain⟨b,len,cap,h4,h5⟩:=hr.base h1 hpos;have hl:len=l.length:=Aji hz (h5.symm.trans hlen);subst hl;have:=Ty ht (Ep Vx hb.1) h4 hix (by omega) (by omega) w;refine Dl hr hd this rfl ?_ h;rw[show(0:Nat)+j.toNat*e.size=Ay [.idx j e.size] by simp[Ay,bF]];refine JI h1 ?_;rw[h4];rfl
     ·cases h
    ·rename_i o i p e lo n' hx;obtain⟨hb,h⟩:=Bb h;simp only[Ac9]at hb;obtain⟨_,hok,h⟩:=bind_some h;have hj':0<=j/\j<n':=Anw (Zy hok);obtain⟨md,v1,h3,h4,k1,k2,⟨pt,cap,k3,k4,k5,k6⟩,_⟩:=Ct hm.sl hx rfl;have h6:ev σ x=v1:=by simpa using h4
     obtain⟨b,e1,rfl⟩:=k6 (by omega);have:=Ty ht (Ep Vx hb.1) (h6.trans k3) hix hj'.1 (by omega) w;refine Dl hr hd this rfl ?_ h;rw[show Ay p+lo.toNat*e.size+j.toNat*e.size=Ay (p++[.idx (lo+j) e.size]) by
      rw[VT,Alo,<-Aki]
      show _=Ay p+(lo+j).toNat*e.size;rw[Int.toNat_add k1 hj'.1]]
     exact JI h3 e1
    ·cases h
  ·rename_i m et ht;split at h
   ·cases h
   ·rename_i inf Vx;split at h
    ·rename_i i p hx;split at h
     ·rename_i T v hi;split at h
      ·rename_i e0 l0 hg;split at h
       ·rename_i m' e l;obtain⟨hb,h⟩:=Bb h;simp only[Ac9]at hb;obtain⟨y,hy,h⟩:=bind_some h;obtain⟨hj0,hj1,hj2⟩:=Iy hy;obtain⟨b,cells,h1,h2⟩:=hm.box hi;obtain⟨c1,c2,c3,he,h3,h4⟩:=WN hg h2;obtain⟨md,b',h5,h6,h7⟩:=Zs (Ct hm.sl hx rfl);rw[h1]at h5;cases h5;cases h6;have hl:l.length=m:=(show l.length=m'/\ _ from h4).1.trans (Ck hb.2);have:=RR ht (Ep Vx hb.1.1) h7 hix (by omega) (by omega) w;refine Dl hr hd this rfl ?_ h;rw[show Ay p+j.toNat*e.size=Ay (p++[.idx j e.size]) by simp[PC,Ay,bF]];exact JI h1 rfl
       ·cases h
      ·cases h
     ·cases h
    ·cases h
  ·cases h
def MD.cells:MD->List Value| .box _ c _=>c| .own _ _ _ c=>c| .dead=>[]
theorem Rel.cells(hr:Rel Z s σs A L σ w){i b:Nat}{md:MD}(h:L[i]? =some md)(hb:md.base=some b):∀j,j<md.cells.length->w.cell? ⟨b,j,none⟩=md.cells[j]? :=by
 intro j hj;cases md with
 |dead=>cases hb
 |box b' cells T=>cases hb;rw[cell_of (St.box hr (hr.Ji h))];simp[MD.cells]
 |own z E v cells=>
  obtain⟨b',m,c,hv,hs'⟩:=St.wS hr (hr.Ji h) (by simp[MD.cells]at hj;omega);subst hv;cases hb;obtain⟨o,rfl,h2⟩:=Cv.mem (A:=A) hs'.mobs (i:=i) (m:= .at_ b z E m c cells) (by rw[List.getElem?_set_self (by simpa using(List.getElem?_eq_some_iff.1 h).1)]);obtain⟨_,len,cap,e,h3,_,_,_,h6⟩:=h2;obtain⟨arr,fr,_,hb,_,_,hc⟩:=h6 b rfl;rw[cell_of hb];exact hc j (by rw[<-h3];exact hj)
theorem YQ{t:TypeId}{u:PV}{x:Operand}{c2:List Value}{b off:Nat}{B:Reg}(h:OkLoad P t u)(hu:Bd B w L u c2)
  (hx:ev σ x= .pointer (some ⟨b,off,none⟩)):∃val,Ij B w L u val/\∀w':World,(∀j,j<c2.length->w'.cell? ⟨b,off+j,none⟩=c2[j]?)->XO P σ w' (.load t x) val:=by
 obtain⟨d,hd,ha⟩:=h.agg;have hlen:=hu.len;cases hA:u.isA with
 |true=>
  refine⟨.agg c2.toArray,by unfold Ij;rw[hA];exact⟨c2,rfl,hu⟩,λw' hc _ _ _ _ _=>?_⟩;have h1:=Lh (P:=P) (w:=w') (b:=b) (off:=off) c2 hc;rw[hlen]at h1;simp only[execOp,hx,Instr.loadAt,Instr.sureAddr,Ahe,Ajl,Adb,loadVar,Eg hd (ha.trans hA),Aou,Bi h.size,h1]
 |false=>
  have h1:=h.one hA;rw[h1]at hlen
  match c2,hlen with
  |[v],_=>
   refine⟨v,by unfold Ij;rw[hA];exact hu,λw' hc _ _ _ _ _=>?_⟩;have h2:w'.cell? ⟨b,off,none⟩=some v:=by simpa using hc 0 (by simp)
   simp only[execOp,hx,Instr.loadAt,Instr.sureAddr,Ahe,Ajl,Adb,loadVar,Eg hd (ha.trans hA),Ajm,Ann,HZ h2]
theorem qT{t:TypeId}{u:PV}{x:Operand}{c2:List Value}{b off:Nat}{B:Reg}(h:OkLoad P t u)(hu:Bd B w L u c2)(hc:∀j,j<c2.length->w.cell? ⟨b,off+j,none⟩=c2[j]?)
  (hx:ev σ x= .pointer (some ⟨b,off,none⟩)):∃val,Ij B w L u val/\XO P σ w (.load t x) val:=by
 obtain⟨val,h1,h2⟩:=YQ (P:=P) (σ:=σ) h hu hx;exact⟨val,h1,h2 w hc⟩
def Ain:Item->MD->Prop| .box T _,md=>∃b c,md= .box b c T| .arr E e _,md=>∃v c,md= .own e.size E v c| .dead,_=>False
def Zp(off:Nat)(ns:List Value):MD->MD->Prop
 | .box b c T,md'=>md'= .box b (Bc c off ns) T
 | .own z E v c,md'=>md'= .own z E v (Bc c off ns)
 | .dead,_=>False
theorem MemR.root{B:Reg}(hm:MemR B w L s σs σ){i:Nat}{md:MD}(h:L[i]? =some md)(hd:Ce s.it i≠ .dead):dD B w L (Ce s.it i) md.cells/\Ain (Ce s.it i) md:=by
 obtain⟨md',h1,h2⟩:=hm.item rfl hd;rw[h]at h1;cases h1
 revert h2 hd
 cases Ce s.it i with
 |dead=>intro hd _;exact absurd rfl hd
 |box T v=>
  intro _ h2;cases md with
  |box b c T'=>obtain⟨rfl,h3⟩:=h2;exact⟨h3,b,c,rfl⟩
  |_=>exact h2.elim
 |arr E e l=>
  intro _ h2;cases md with
  |own z E' v c=>obtain⟨rfl,rfl,h3⟩:=h2;exact⟨h3,v,c,rfl⟩
  |_=>exact h2.elim
theorem Afu{t:TypeId}{x:Operand}{G:Prop}(hr:Rel Z s σs A L σ w)(hd:Jp n ⟨d, .load t x,ty,pos,after,none⟩=true)(h:I9 P s d t x k=some r):
  CQ P n ops ⟨d, .load t x,ty,pos,after,none⟩ Z s σs k r G A L σ w:=by
 have hm:=hr.mem;unfold I9 at h;split at h
 ·rename_i i p hx;obtain⟨md,b,h1,h2,h3⟩:=Zs (Ct hm.sl hx rfl);have hne:Ce s.it i≠ .dead:=by intro e;rw[e]at h;simp[getRoot]at h
  obtain⟨h4,_⟩:=hm.root h1 hne;obtain⟨u,c1,c2,c3,hk,he,h5,h6⟩:=qS h h4;obtain⟨hb,hk⟩:=Bb hk;have hc:=hr.cells h1 h2;obtain⟨val,h7,h8⟩:=qT (P:=P) (σ:=σ) (x:=x) (b:=b) (off:=Ay p) (Rb hb) h6 (λj hj=>by
   rw[hc _ (by rw[he];simp;omega),he,List.getElem?_append_right (by omega),h5,show Ay p+j-Ay p=j by omega,List.getElem?_append_left hj]) h3
  obtain⟨hv,hv'⟩:=Ka h7;exact Dl hr hd h8 hv hv' hk
 ·cases h
mutual
theorem Bd.one{B:Reg}:∀{p:PV} {cs:List Value},Bd B w L p cs->L.all (λm=>match m with| .own _ _ v _=>v.oneCell'|_=>true)=true->∀v∈cs,v.oneCell'=true
 | .val e x,cs,h,_,v,hv=>Aq.one (show Aq B w e x cs from h) v hv
 | .agg l,cs,h,hL,v,hv=>Bd.cE (show Bd.go B w L l cs from h) hL v hv
 | .tup _,_,h,_,_,_=>h.elim
 | .nils,cs,h,_,v,hv=>by rw[show cs=_ from h]at hv;simp at hv;subst hv;rfl
 | .own i,cs,⟨z,E,u,c,h1,h2⟩,hL,v,hv=>by
  rw[h2]at hv;simp at hv;subst hv;exact List.all_eq_true.1 hL _ (List.mem_of_getElem? h1)
 | .ptr i p,cs,⟨_,_,_,_,h⟩,_,v,hv=>by rw[h]at hv;simp at hv;subst hv;rfl
 | .rptr q,cs,⟨pv,_,h,⟨_,_,_,_,_,e,_⟩,_⟩,_,v,hv=>by rw[h]at hv;simp at hv;subst hv;rw[e];rfl
 | .fn f caps,cs,⟨_,h,_⟩,_,v,hv=>by rw[h]at hv;simp at hv;subst hv;rfl
 | .cst u,cs,h,_,v,hv=>by rw[show cs=_ from h.1]at hv;simp at hv;subst hv;exact h.2
 | .any,cs,⟨u,h,h'⟩,_,v,hv=>by rw[h]at hv;simp at hv;subst hv;exact h'
 | .view _ _ _ _ _ _,cs,⟨_,u,_,h,_,_,⟨_,_,e,_⟩,_⟩,_,v,hv=>by rw[h]at hv;simp at hv;subst hv;rw[e];rfl
 | .gd _ _ _,_,h,_,_,_=>h.elim
 | .off,_,h,_,_,_=>h.elim
 | .undef,_,h,_,_,_=>h.elim
theorem Bd.cE{B:Reg}:∀{l:List PV} {cs:List Value},Bd.go B w L l cs->L.all (λm=>match m with| .own _ _ v _=>v.oneCell'|_=>true)=true->∀v∈cs,v.oneCell'=true
 |[],cs,h,_,v,hv=>by rw[show cs=[]from h]at hv;simp at hv
 |a::q,cs,⟨c1,c2,e,h1,h2⟩,hL,v,hv=>by
  subst e;rcases List.mem_append.1 hv with hv|hv
  ·exact Bd.one h1 hL v hv
  ·exact Bd.cE h2 hL v hv
end
theorem Rel.cE(hr:Rel Z s σs A L σ w):L.all (λm=>match m with| .own _ _ v _=>v.oneCell'|_=>true)=true:=by
 refine List.all_eq_true.2 λm hm=>?_;obtain⟨i,hi,he⟩:=List.getElem_of_mem hm;cases m with
 |own z E v c=>
  obtain⟨p,len,cap,rfl,_⟩:=hr.Wp (i:=i) (by rw[List.getElem?_eq_getElem hi,he]);rfl
 |_=>rfl
theorem NQ{p:PV}{v:Value}{B:Reg}(hr:Rel Z s σs A L σ w)(h:Ij B w L p v):∃cs:List Value,v.cells=cs.toArray/\Bd B w L p cs:=by
 unfold Ij uf at h;split at h
 ·obtain⟨cs,rfl,h⟩:=h;exact⟨cs,rfl,h⟩
 ·refine⟨[v],?_,h⟩;have:=h.one hr.cE v (.head _);cases v<;>first|rfl|cases this
theorem XS.own{i z:Nat}{E:TypeId}{v:Value}{cs cs':List Value}(h:L[i]? =some (.own z E v cs)):XS L (L.set i (.own z E v cs')):=
 XS.set h (λ_ _ _ _ e=>by cases e;exact⟨_,_,_,rfl⟩) (λb hb=>by
  unfold MD.base at hb⊢;split at hb
  ·rename_i e;cases e
  ·rename_i e;cases e;exact hb
  ·cases hb)
theorem XS.box{i b:Nat}{T:TypeId}{cs cs':List Value}(h:L[i]? =some (.box b cs T)):XS L (L.set i (.box b cs' T)):=
 XS.set h (λ_ _ _ _ e=>by cases e) (λb hb=>hb)
theorem wC{i:Nat}{md:MD}(h:L[i]? =some md):(L.map MD.Ji)[i]? =some md.Ji:=by simp[h]
theorem qc{t:TypeId}{a x:Operand}{i b off z:Nat}{md:MD}{v:Value}{ns:List Value}{K:Env->World->Prop}{F:List Fact}(hr:St A w F (L.map MD.Ji))(h:L[i]? =some md)(hb:md.base=some b)
  (hsz:Ik P t z) (ha:ev σ a= .pointer (some ⟨b,off,none⟩)) (hx:ev σ x=v) (hv:v.cells=ns.toArray) (hl:ns.length=z) (h1:ns.all (·.oneCell')=true) (hle:off+z<=md.cells.length) (hz:0<z)
  (hK:∀(w':World) (md':MD),St A w' F ((L.map MD.Ji).set i md'.Ji)->Zp off ns md md'->K σ w'):
  WL P n ops [⟨none, .store t a x,ty,pos,after,none⟩] K σ w:=by
 cases md with
 |dead=>cases hb
 |box b' cells T=>
  cases hb;exact WL.Z7 hr (wC h) hsz ha hx hv hl h1 (by simpa [Nat.ble_eq,MD.cells]using hle) rfl rfl (λw' hs'=>WL.nil (hK w' (.box b (Bc cells off ns) T) hs' rfl))
 |own z' E u cells=>
  obtain⟨b',m,c,hu,hs'⟩:=St.wS hr (wC h) (by simp[MD.cells]at hle;omega);subst hu;cases hb;have hlen:i<(L.map MD.Ji).length:=by simpa using(List.getElem?_eq_some_iff.1 h).1
  have hL1:((L.map MD.Ji).set i (.at_ b z' E m c cells))[i]? =some (.at_ b z' E m c cells):=by rw[List.getElem?_set_self hlen]
  refine WL.uj hs' hL1 hsz ha hx hv hl h1 hle rfl rfl (λw' hs2=>WL.nil ?_);have hs3:=hs2.Aj7 (i:=i) (b:=b) (s:=z') (m:=m) (c:=c) (E:=E) (cs:=Bc cells off ns) (by rw[List.getElem?_set_self (by simpa using hlen)]);rw[List.set_set,List.set_set]at hs3;exact hK w' (.own z' E (.slice (some ⟨b,0,none⟩) m c) (Bc cells off ns)) hs3 rfl
end Go.Rx
namespace Go.Rx
open Go Go.Lv
variable {P:Program} {B:Reg} {w w':World} {L L':List MD} {s:S} {σs:List Env} {σ:Env} {Z:Fix} {A A':Reg} {n:Nat} {ops:Array Oper} {rest:List Oper} {K:Env->World->Prop}
variable {R:Type} {k:S->Option R} {r:R} {d:Option Nat} {ty:TypeId} {pos:String} {after:Array Edge}
structure Frz (B:Reg) (w:World) (L:List MD) (i:Nat) (m:PV):Prop where
 enc:∀z E v c,L[i]? =some (.own z E v c)->Bd B w (L.set i .dead) m [v]
 isA:m.isA=false
 isV:m.isV=true
theorem sY{i:Nat}{m p:PV}(hm:m.isA=false):(subst i m p).isA=p.isA:=by
 cases p<;>try rfl
 ·rename_i j;simp only[subst];cases hb:Nat.beq i j with
  |true=>exact hm
  |false=>rfl
 ·rename_i j q;simp only[subst];cases hb:Nat.beq i j<;>rfl
 ·rename_i o j q e lo n;simp only[subst];cases hb:Nat.beq i j<;>rfl
theorem aG{i j:Nat}(h:Nat.beq i j=false):(L.set i .dead)[j]? =L[j]? :=by
 rw[List.getElem?_set_ne];intro e;subst e;simp at h
mutual
theorem SX{i:Nat}{m:PV}(hf:Frz B w L i m):∀{p:PV} {cs:List Value},Bd B w L p cs->Bd B w (L.set i .dead) (subst i m p) cs
 | .val _ x,cs,h=>h
 | .agg q,cs,h=>nM hf (show Bd.go B w L q cs from h)
 | .tup _,_,h=>h.elim
 | .nils,cs,h=>h
 | .own j,cs,⟨z,E,v,c,h1,h2⟩=>by
  simp only[subst];cases hb:Nat.beq i j with
  |true=>
   have:=Ck hb;subst this;rw[h2];exact hf.enc _ _ _ _ h1
  |false=>exact⟨z,E,v,c,by rw[aG hb];exact h1,h2⟩
 | .ptr j q,cs,⟨md,b,h1,h2,h3⟩=>by
  simp only[subst];cases hb:Nat.beq i j with
  |true=>exact⟨_,h3,rfl⟩
  |false=>exact⟨md,b,by rw[aG hb];exact h1,h2,h3⟩
 | .view o j q e lo n,cs,⟨md,v,h1,h2,h3⟩=>by
  simp only[subst];cases hb:Nat.beq i j with
  |true=>
   obtain⟨_,_,⟨pt,cap,e',_⟩,_⟩:=h3;exact⟨v,h2,by rw[e'];rfl⟩
  |false=>exact⟨md,v,by rw[aG hb];exact h1,h2,h3⟩
 | .rptr v,cs,⟨pv,c0,h1,h2,h3⟩=>by
  exact⟨pv,c0,h1,h2,SX hf h3⟩
 | .fn f caps,cs,⟨vs,h1,h2⟩=>⟨vs,h1,eK hf h2⟩
 | .cst v,cs,h=>h
 | .any,cs,h=>h
 | .gd _ _ _,_,h=>h.elim
 | .off,_,h=>h.elim
 | .undef,_,h=>h.elim
theorem nM{i:Nat}{m:PV}(hf:Frz B w L i m):∀{q:List PV} {cs:List Value},Bd.go B w L q cs->Bd.go B w (L.set i .dead) (subst.go i m q) cs
 |[],cs,h=>h
 |a::q,cs,⟨c1,c2,e',h1,h2⟩=>⟨c1,c2,e',SX hf h1,nM hf h2⟩
theorem eK{i:Nat}{m:PV}(hf:Frz B w L i m):∀{q:List PV} {vs:List Value},Gh B w L q vs->Gh B w (L.set i .dead) (subst.go i m q) vs
 |[],vs,h=>h
 |a::q,vs,⟨v,vs',e',h1,h2⟩=>⟨v,vs',e',by rw[sY hf.isA];exact h1.mono λc h=>SX hf h,eK hf h2⟩
end
theorem C7{i:Nat}{m:PV}(hf:Frz B w L i m){p:PV}{v:Value}(h:Ij B w L p v):Ij B w (L.set i .dead) (subst i m p) v:=by
 unfold Ij;rw[sY hf.isA];exact uf.mono (λc h=>SX hf h) h
theorem qW{i:Nat}{m:PV}(hf:Frz B w L i m){p:PV}{v:Value}(h:Ei B w L p v):Ei B w (L.set i .dead) (subst i m p) v:=by
 cases hp:p.wX with
 |true=>exact(Ka (C7 hf ((ZE hp).1 h))).2
 |false=>
  cases p
  case tup q=>obtain⟨vs,h1,h2⟩:=h;exact⟨vs,h1,eK hf h2⟩
  case undef=>exact(show False from h).elim
  case off=>exact(show False from h).elim
  case gd=>exact(show False from h).elim
  all_goals cases hp
theorem zT{i:Nat}{m:PV}(hf:Frz B w L i m){t:Nat}{p:PV}(h:Jg B w L σ t p):Jg B w (L.set i .dead) σ t (subst i m p):=by
 cases hv:p.isV with
 |true=>
  have h1:=qW hf ((Jg.iff hv).1 h);have h2:(subst i m p).isV=true:=by
   cases p<;>first|rfl|cases hv|skip
   ·rename_i j;simp only[subst];cases Nat.beq i j;rfl;exact hf.isV
   ·rename_i j q;simp only[subst];cases Nat.beq i j<;>rfl
   ·rename_i o j q e lo n;simp only[subst];cases Nat.beq i j<;>rfl
  exact(Jg.iff h2).2 h1
 |false=>
  rcases BP hv with rfl|rfl|⟨j,u,q,rfl⟩
  ·exact trivial
  ·exact h
  ·obtain⟨b,h1,h2,h3⟩:=h;exact⟨b,h1,λe=>qW hf (h2 e),h3⟩
theorem fV{i:Nat}{m:PV}(hf:Frz B w L i m){sl:Slots}(h:Fp B w L σ sl):Fp B w (L.set i .dead) σ (U9 i m sl):=by
 intro p hp;obtain⟨q,hq,rfl⟩:=List.mem_map.1 hp;exact zT hf (h q hq)
theorem gK{i:Nat}{m:PV}(hf:Frz B w L i m):∀{σs:List Env} {st:List Slots},UE B w L σs st->UE B w (L.set i .dead) σs (st.map (U9 i m))
 |[],[],h=>h
 |_::_,_::_,⟨h1,h2⟩=>⟨fV hf h1,gK hf h2⟩
theorem D5{i:Nat}{m:PV}(hf:Frz B w L i m){a:Item}{md:MD}(h:Zv B w L a md):Zv B w (L.set i .dead) (Q5 i m a) md:=by
 cases a<;>cases md<;>first
  |exact h
  |exact⟨h.1,SX hf h.2⟩
theorem MemR.subst(hm:MemR B w L s σs σ){i:Nat}{m:PV}(hf:Frz B w L i m):MemR B w (L.set i .dead) ((s.AE i .dead).sub i m) σs σ:=by
 refine⟨⟨?_,?_⟩,fV hf hm.sl,gK hf hm.stk⟩
 ·simp[S.sub,S.AE,bI,hm.it.1]
 ·intro j a md g1 g2;simp only[S.sub,S.AE,List.getElem?_map,Ant]at g1;obtain⟨a0,g3,rfl⟩:=g1;rcases bG g3 with⟨rfl,rfl⟩|⟨g4,g5⟩
  ·trivial
  ·rw[List.getElem?_set_ne (Aov g4)]at g2;exact D5 hf (hm.it.2 j a0 md g5 g2)
theorem dP(hr:Rel Z s σs A L σ w){i:Nat}{s':S}(h:s.freeze i=some s'):∃A',Rel Z s' σs A' (L.set i .dead) σ w/\∃E e l,Ce s.it i= .arr E e l/\s'=(s.AE i .dead).sub i (.val (.list e) l):=by
 unfold S.freeze at h;split at h
 ·rename_i E e l hi;cases h;have hm:=hr.mem;obtain⟨v,cs,h1,h2⟩:=hm.arr hi;have hR:∀b,¬A b->Z.R b:=λb hb=>by
   rcases Aof b Z.w0.heap.size with hlt|hge
   ·have hold:=(hr.fact 1 (f:= .old Z.M Z.w0) rfl).2 b hlt;exact Z.mod b (Classical.byContradiction λhM=>hb (hold hM).1)
   ·exact Z.new b hge
  obtain⟨A',hA,hs'⟩:=St.freeze hr (hr.Ji h1) rfl Z.R hR;have hs2:=Cv.cA (hs'.wA 1 0) (TH (m':=MD.dead.Ji) (hr.Ji h1));have hm2:MemR (λb=>A' b/\Z.R b) w L s σs σ:=hs2.fact 1 rfl;have hrd:Rd (λb=>A' b/\Z.R b) w e.size v cs:=hs2.fact 0 (f:= .rd Z.R e.size v cs) rfl;have hall:=h2.mono (g:=Aq (λb=>A' b/\Z.R b) w e) λx c h=>Aq.step (λb hb=>⟨hA b hb.1,hb.2⟩) (λ_ _=>rfl) h;have hf:Frz (λb=>A' b/\Z.R b) w L i (.val (.list e) l):=⟨λz E' v' c' h=>by rw[h1]at h;cases h;exact⟨v,cs,rfl,hrd,hall⟩,rfl,rfl⟩;exact⟨A',Rel.as hs2 (i:=2) rfl (hm2.subst hf) (by rw[List.map_set]),E,e,l,hi,rfl⟩
 ·cases h
theorem Rk:∀{is:List Nat} {s s':S} {A:Reg} {L:List MD},Rel Z s σs A L σ w->s.FC is=some s'->∃A' L',Rel Z s' σs A' L' σ w/\ (is=[]->s'=s/\A'=A/\L'=L)
 |[],s,s',A,L,hr,h=>by simp only[S.FC,Ag2]at h;subst h;exact⟨A,L,hr,λ_=>⟨rfl,rfl,rfl⟩⟩
 |i::is,s,s',A,L,hr,h=>by
  simp only[S.FC]at h;split at h
  ·obtain⟨A',L',h1,_⟩:=Rk hr h;exact⟨A',L',h1,λe=>by cases e⟩
  ·cases h
  ·split at h
   ·rename_i s1 h1;obtain⟨A1,h2,_⟩:=dP hr h1;obtain⟨A',L',h3,_⟩:=Rk h2 h;exact⟨A',L',h3,λe=>by cases e⟩
   ·cases h
theorem uI{p:PV}(h:mE p=true):p.wX=true:=by cases p<;>first|rfl|cases h
theorem SK{B:Reg}{x:Operand}(hm:Fp B w L σ s.sl)(h:(En s.sl x).wX=true):Ij B w L (En s.sl x) (ev σ x):=(ZE h).1 (Uc hm x (PV.tF h))
theorem C4{a x:Operand}{s':S}(hr:Rel Z s σs A L σ w)(h:qX s a x=some s'):∃A' L',Rel Z s' σs A' L' σ w:=by
 unfold qX at h;split at h
 ·split at h
  ·obtain⟨A',L',h1,_⟩:=Rk hr h;exact⟨A',L',h1⟩
  ·cases h;exact⟨A,L,hr⟩
 ·cases h
theorem dD.step{B B':Reg}{w w':World}(hb:∀b,B b->B' b)(hs:Same B w w')(hl:XS L L'){a:Item}{cs:List Value}(h:dD B w L a cs):dD B' w' L' a cs:=by
 cases a with
 |dead=>exact h
 |box T v=>exact Bd.step hb hs hl h
 |arr E e l=>exact Bq.mono (λx c h=>Aq.step hb hs h) h
def nJ(R:Reg)(L:List MD)(a:Item)(cs:List Value):Fact where
 holds A w:=dD (λb=>A b/\R b) w L a cs
 step h ha hs _:=h.step (λb ⟨h1,h2⟩=>⟨ha b h1,h2⟩) (λb ⟨h1,_⟩=>hs b h1) (.refl L)
theorem Abl{t:TypeId}{a x:Operand}(hr:Rel Z s σs A L σ w)(h:vP P s t a x k=some r):
  CQ P n ops ⟨none, .store t a x,ty,pos,after,none⟩ Z s σs k r False A L σ w:=by
 unfold vP at h;split at h
 ·cases h
 ·rename_i s1 hs1;obtain⟨A1,L1,hr1⟩:=C4 hr hs1;have hm:=hr1.mem;split at h
  ·rename_i i p ha;split at h
   ·rename_i inf Vx;obtain⟨hb,h⟩:=Bb h;simp only[Ac9]at hb;obtain⟨md,b,h1,h2,h3⟩:=Zs (Ct hm.sl ha rfl);obtain⟨ns,h4,h5⟩:=NQ hr1 (SK hm.sl (uI hb.1.1));have hne:Ce s1.it i≠ .dead:=by intro e;rw[e]at h;simp[lX]at h
    obtain⟨h6,h7⟩:=hm.root h1 hne;obtain⟨a',hk,h8,h9,h10⟩:=L7 h5 h h6;have hlen:=h5.len;have hz:=Ck hb.1.2;have hz0:0<inf.size:=by simpa [Nat.blt_eq]using hb.2
    have hrF:=St.gH (f:=nJ Z.R L1 a' (Bc md.cells (Ay p) ns)) hr1 h9;refine qc hrF h1 h2 ⟨inf,Vx,rfl⟩ h3 rfl h4 (hlen.trans hz.symm) (List.all_eq_true.2 (h5.one hr1.cE)) (by rw[hz,<-hlen];exact h8) hz0 (λw' md' hs' hmd=>?_);have h11:dD (λb=>A1 b/\Z.R b) w' L1 a' (Bc md.cells (Ay p) ns):=hs'.fact 0 rfl;have hs2:=hs'.kM
    revert h7 h10
    cases hi:Ce s1.it i with
    |dead=>exact absurd hi hne
    |box T v0=>
     rintro⟨b0,c0,rfl⟩ h10;simp only[Zp]at hmd;subst hmd;have key:=XS.box (cs':=Bc (MD.box b0 c0 T).cells (Ay p) ns) h1;refine⟨_,A1,_,hk,Rel.change hs2 h1 key ?_,λh=>h.elim⟩;cases a' with
     |box T' v'=>simp only[sameKind]at h10;subst h10;exact⟨rfl,Bd.step (λ_ h=>h) (λ_ _=>rfl) key h11⟩
     |dead=>exact h11.elim
     |arr _ _ _=>exact h10.elim
    |arr E e l=>
     rintro⟨v0,c0,rfl⟩ h10;simp only[Zp]at hmd;subst hmd;have key:=XS.own (cs':=Bc (MD.own e.size E v0 c0).cells (Ay p) ns) h1;refine⟨_,A1,_,hk,Rel.change hs2 h1 key ?_,λh=>h.elim⟩;cases a' with
     |arr E' e' l'=>obtain⟨rfl,rfl⟩:=h10;exact⟨rfl,rfl,h11⟩
     |dead=>exact h11.elim
     |box _ _=>exact h10.elim
   ·cases h
  ·cases h
end Go.Rx
namespace Go.Rx
open Go Go.Lv
variable {P:Program} {B:Reg} {w w':World} {L L':List MD} {s:S} {σs:List Env} {σ:Env} {Z:Fix} {A A':Reg} {n:Nat} {ops:Array Oper} {rest:List Oper} {K:Env->World->Prop}
variable {R:Type} {k:S->Option R} {r:R} {d:Option Nat} {ty:TypeId} {pos:String} {after:Array Edge}
theorem PJ{t:TypeId}{p:PV}(h:zeroOf P t=some p):∃z,(∃i,P.info? t=some i/\i.zero=some z)/\∀(B:Reg) (w:World) (L:List MD),Bd B w L p z.cells.toList:=by
 unfold zeroOf at h;split at h
 ·rename_i i hi;split at h
  ·rename_i z hz;exact⟨z,⟨i,hi,hz⟩,λB w L=>dK h⟩
  ·cases h
 ·cases h
theorem T0{md:MD}{b:Nat}(hb:md.base=some b){B:Reg}:Ei B w (L++[md]) (.ptr L.length []) (.pointer (some ⟨b,0,none⟩)):=⟨md,b,by simp,hb,rfl⟩
theorem lP{z:Nat}{E:TypeId}{v:Value}{c:List Value}{B:Reg}:Ei B w (L++[.own z E v c]) (.own L.length) v:=⟨z,E,v,c,by simp,rfl⟩
theorem Rel.len(hr:Rel Z s σs A L σ w):s.it.length=L.length:=hr.mem.it.1
theorem Rel.lt(hr:Rel Z s σs A L σ w):∀b,A b->b<w.heap.size:=St.lt hr
def Abu(A0:Reg)(w0:World):Fact where
 holds A w:=(∀b,A0 b->A b)/\Same A0 w0 w
 step h ha hs _:=⟨λb hb=>ha b (h.1 b hb),λb hb=>(hs b (h.1 b hb)).trans (h.2 b hb)⟩
theorem Rel.same(hr:Rel Z s σs A L σ w):St A w [Abu A w,dL Z.R L s σs σ, .old Z.M Z.w0] (L.map MD.Ji):=St.gH (f:=Abu A w) hr ⟨λ_ h=>h,λ_ _=>rfl⟩
theorem aM{w':World}{A':Reg}{a:Item}{md:MD}{p:PV}{v:Value}{dn:Nat}{G:Prop}(hr:Rel Z s σs A L σ w)(hs:St A' w' [Abu A w,dL Z.R L s σs σ, .old Z.M Z.w0] (md.Ji::L.map MD.Ji))
  (ha:Zv (λb=>A' b/\Z.R b) w' (L++[md]) a md) (hv:p.isV=true) (hp:∀B,Ei B w' (L++[md]) p v) (hk:k ((s.add a).Gj (some dn) p)=some r):
  rM Z σs k r G A L s.it w (AE σ dn v) w':=by
 obtain⟨h1,h2⟩:(∀b,A b->A' b)/\Same A w w':=hs.fact 0 rfl;have hr':=Rel.push hs.kM ha;exact⟨_,A',L++[md],hk,hr'.Gj (d:=some dn) hv (hp _),λ_=>⟨h1,h2,⟨[md],rfl⟩,⟨[a],rfl⟩⟩⟩
theorem WC{o:Op}{dn:Nat}(h:Jp n ⟨some dn,o,ty,pos,after,none⟩=true):Nat.blt dn n=true:=h
theorem yc{t:TypeId}{v:PV}{dn:Nat}{G:Prop}(hr:Rel Z s σs A L σ w)(hd:Jp n ⟨some dn, .alloc t,ty,pos,after,none⟩=true)(hz:zeroOf P t=some v)
  (hk:k ((s.add (.box t v)).Gj (some dn) (.ptr s.new []))=some r):CQ P n ops ⟨some dn, .alloc t,ty,pos,after,none⟩ Z s σs k r G A L σ w:=by
 obtain⟨z,h1,h2⟩:=PJ hz;refine WL.alloc (cells:=z.cells.toList) hr.same (WC hd) h1 (by simp) (λb w' hs'=>WL.nil ?_);refine aM (a:= .box t v) (md:= .box b z.cells.toList t) hr hs' ⟨rfl,h2 _ _ _⟩ rfl (λB=>?_) hk;rw[S.new,hr.len];exact T0 rfl
theorem Ahm{t:TypeId}{x:Operand}{dn:Nat}{G:Prop}(hr:Rel Z s σs A L σ w)(hd:Jp n ⟨some dn, .box t x,ty,pos,after,none⟩=true)(hx:mE (En s.sl x)=true)
  (hk:k ((s.add (.box t (En s.sl x))).Gj (some dn) (.ptr s.new []))=some r):CQ P n ops ⟨some dn, .box t x,ty,pos,after,none⟩ Z s σs k r G A L σ w:=by
 obtain⟨cs,h1,h2⟩:=NQ hr (SK hr.mem.sl (uI hx));have hF:=St.gH (f:=nJ Z.R L (.box t (En s.sl x)) cs) hr.same h2;refine WL.box hF (WC hd) rfl h1 (λb w' hs'=>WL.nil ?_);have h3:dD (λb=>A b/\Z.R b) w' L (.box t (En s.sl x)) cs:=hs'.fact 0 rfl;refine aM (a:= .box t (En s.sl x)) (md:= .box b cs t) hr hs'.kM ⟨rfl,Bd.step (λ_ h=>h) (λ_ _=>rfl) (XS.append _ _) h3⟩ rfl (λB=>?_) hk;rw[S.new,hr.len];exact T0 rfl
theorem J0{a t e:TypeId}{x:Operand}{l:List UInt8}{dn:Nat}{G:Prop}(hr:Rel Z s σs A L σ w)(hd:Jp n ⟨some dn, .convert a t x,ty,pos,after,none⟩=true)(ha:P.underlying a=some .string)(ht:P.underlying t=some (.slice e))
  (he:P.underlying e=some (.int .u8)) (hx:En s.sl x= .val .str l) (hk:k ((s.add (.arr e (.int .u8) l)).Gj (some dn) (.own s.new))=some r):CQ P n ops ⟨some dn, .convert a t x,ty,pos,after,none⟩ Z s σs k r G A L σ w:=by
 refine WL.s2b ha ht he hr.same (WC hd) (Vq hr.mem.sl hx) (λp m c w' hs'=>WL.nil ?_);refine aM (a:= .arr e (.int .u8) l) (md:= .own 1 e (.slice p m c) (FJ l)) hr hs' ⟨rfl,rfl,NO⟩ rfl (λB=>?_) hk;rw[S.new,hr.len];exact lP
where NO:∀{B:Reg} {w:World} {l:List UInt8},Bq (Aq B w (.int .u8)) l (FJ l)
 |_,_,[]=>rfl
 |_,_,x::l=>⟨[iv x],FJ l,rfl,rfl,NO⟩
theorem Adi{t e E:TypeId}{x:Operand}{i:Nat}{y:UInt8}{ys:List UInt8}{dn:Nat}{G:Prop}(hr:Rel Z s σs A L σ w)(hd:Jp n ⟨some dn, .convert t t x,ty,pos,after,none⟩=true)(ht:P.underlying t=some (.slice e))
  (he:P.underlying e=some (.int .u8)) (hx:En s.sl x= .own i) (hi:Ce s.it i= .arr E (.int .u8) (y::ys)) (hk:k (s.Gj (some dn) (.own i))=some r):CQ P n ops ⟨some dn, .convert t t x,ty,pos,after,none⟩ Z s σs k r G A L σ w:=by
 obtain⟨v,cs,h1,h2⟩:=hr.mem.arr hi;have hne:0<cs.length:=by
  obtain⟨c,c',e1,e2,_⟩:=h2;rw[e1,Agv];have:c.length=(ET.int .u8).size:=Aq.len e2;rw[this];have:(ET.int Kd.u8).size=1:=rfl;omega
 have hvr:Ei (λb=>A b/\Z.R b) w L (.own i) (ev σ x):=by
  have:=Ct hr.mem.sl hx rfl;exact this
 have hev:ev σ x=v:=by
  obtain⟨z,E',v',c,g1,g2⟩:=hvr;rw[h1]at g1;cases g1;simpa using g2
 have hL:(L.map MD.Ji)[i]? =some (.own 1 E v cs):=by rw[List.getElem?_map,h1];rfl
 refine WL.Akx ht he hr.same hL hne (WC hd) hev (λw' hs'=>WL.nil ?_);obtain⟨g1,g2⟩:(∀b,A b->A b)/\Same A w w':=hs'.fact 0 rfl;have hr':Rel Z s σs A L σ w':=hs'.kM;exact⟨_,A,L,hk,hr'.Gj (d:=some dn) (p:= .own i) rfl ⟨_,_,_,_,h1,rfl⟩,λ_=>⟨g1,g2,⟨[],by simp⟩,⟨[],by simp[S.Gj,S.set]⟩⟩⟩
theorem jD{t:TypeId}{e:ET}(h:pE P t e=true):ElemOk P t e.size:=by
 unfold pE at h;split at h
 ·rename_i i hi;simp only[Ac9]at h;obtain⟨⟨⟨h1,h2⟩,h3⟩,h4⟩:=h;split at h3
  ·rename_i z hz;exact⟨⟨i,z,hi,Ck h1,hz,Ck h3,Aky h2⟩,by have:=Aky h4;omega⟩
  ·cases h3
 ·cases h
theorem bJ{t E:TypeId}(h:jJ P t=some E):P.underlying t=some (.slice E):=by
 unfold jJ at h;split at h
 ·rename_i e he;cases h;exact he
 ·cases h
theorem vM{e:ET}{x:e.T}{c:List Value}(h:Aq B w e x c):∀m,Bq (Aq B w e) (List.replicate m x) (List.replicate m c).flatten
 |0=>rfl
 |m+1=>⟨c,(List.replicate m c).flatten,rfl,h,vM h m⟩
theorem Ae4{t:TypeId}{a b:Operand}{dn:Nat}{G:Prop}(hr:Rel Z s σs A L σ w)(hd:Jp n ⟨some dn, .makeSlice t a b,ty,pos,after,none⟩=true)(h:I3 P s (some dn) t a b k=some r):
  CQ P n ops ⟨some dn, .makeSlice t a b,ty,pos,after,none⟩ Z s σs k r G A L σ w:=by
 unfold I3 at h;split at h
 ·cases h
 ·rename_i E hE;split at h
  ·cases h
  ·rename_i e he;obtain⟨hb,h⟩:=Bb h;split at h
   ·rename_i m m' z hm hm' hz;split at h
    ·rename_i x hx;obtain⟨l,hl,h⟩:=bind_some h;obtain⟨_,hq,h⟩:=bind_some h;obtain⟨h1,h2,rfl⟩:=zF hl;have h3:m'=m:=by have:=Zy hq;simpa [geq,GI.toZ]using this
     subst h3;obtain⟨zv,hz1,hz2⟩:=PJ hz;have ea:=nD hm (Uc hr.mem.sl a (vV hm));have eb:=nD hm' (Uc hr.mem.sl b (vV hm'));refine WL.makeSlice (bJ hE) (jD hb) hz1 (zs:=zv.cells.toList) (by simp) hr.same (WC hd) (m:=m'.toNat) (by rw[<-h1];exact ea) (by rw[<-h1];exact eb) h2 (λp q c w' hs'=>WL.nil ?_);refine aM (a:= .arr E e (List.replicate m'.toNat x)) (md:= .own e.size E (.slice p q c) (List.replicate m'.toNat zv.cells.toList).flatten) hr hs' ⟨rfl,rfl,vM (PA hx (hz2 _ _ (L++[]))) _⟩ rfl (λB=>?_) h;rw[S.new,hr.len];exact lP
    ·cases h
   ·cases h
end Go.Rx
namespace Go.Rx
open Go Go.Lv
variable {P:Program} {B:Reg} {w w':World} {L L':List MD} {s:S} {σs:List Env} {σ:Env} {Z:Fix} {A A':Reg} {n:Nat} {ops:Array Oper} {rest:List Oper} {K:Env->World->Prop}
variable {R:Type} {k:S->Option R} {r:R} {d:Option Nat} {ty:TypeId} {pos:String} {after:Array Edge}
theorem rM.of{G:Prop}{s1:S}{A1:Reg}{L1:List MD}{σ':Env}(h:G->s1=s/\A1=A/\L1=L)(hp:rM Z σs k r G A1 L1 s1.it w σ' w'):rM Z σs k r G A L s.it w σ' w':=by
 obtain⟨s',A',L',h1,h2,h3⟩:=hp;refine⟨s',A',L',h1,h2,λg=>?_⟩;obtain⟨e1,e2,e3⟩:=h g;subst e1 e2 e3;exact h3 g
theorem isEmpty_nil{α:Type}{l:List α}(h:l.isEmpty=true):l=[]:=by cases l<;>simp_all
theorem xB{z:Nat}(h:Nat.ble 1 z=true):0<z:=by have:=Aky h;omega
theorem Rel.Aim(hr:Rel Z s σs A L σ w){i z:Nat}{E:TypeId}{v:Value}{cs:List Value}(h:L[i]? =some (.own z E v cs)):
  ∃q len cap,v= .slice q len cap/\cs.length=len*z/\len<=cap/\ (q=none->cap=0)/\ (0<cap->∃b,q=some ⟨b,0,none⟩/\ (MD.own z E v cs).base=some b):=by
 obtain⟨o,q,len,cap,h1,h2,h3,h4,h5,h6⟩:=Cv.mem (A:=A) (St.mobs hr) (hr.Ji h);refine⟨q,len,cap,h1,h2,h3,h4,λhc=>?_⟩;cases o with
 |none=>have:=h5 rfl;omega
 |some b=>
  obtain⟨arr,fr,e1,_⟩:=h6 b rfl;subst h1 e1;exact⟨b,rfl,rfl⟩
theorem X.iJ{t e:TypeId}{z len cap a b:Nat}{p:Option Addr}{x:Operand}{lo hi:Option Operand}(ht:P.underlying t=some (.slice e))(hsz:Ik P e z)(h1:a<=b)(h2:b<=len)(h3:len<=cap)(hx:ev σ x= .slice p len cap)
  (hlo:(∃q,lo.map (ev σ)=some (.int q (a:Int)))\/ (lo=none/\a=0)) (hhi:(∃q,hi.map (ev σ)=some (.int q (b:Int)))\/ (hi=none/\b=len)):
  XO P σ w (.slice t x lo hi none) (.slice (if cap=a then p else p.map (·.add (a*z))) (b-a) (cap-a)):=λ_ _ _ _ _=>by
 have hr:=tQ (P:=P) (w:=w) (p:=p) (tq:=lo.map (ev σ)) (vhi:=hi.map (ev σ)) ht hsz h1 h2 h3 (by rcases hlo with h|⟨h,h'⟩;exact .inl h;exact .inr ⟨by rw[h];rfl,h'⟩)
   (by rcases hhi with h|⟨h,h'⟩;exact .inl h;exact .inr ⟨by rw[h];rfl,h'⟩)
 simp only[execOp,hx,Instr.sliceAt,Ahe,Ago ht,Adb,Aoc,hr,Ajl]
theorem X.tZ{t u e:TypeId}{z m a b:Nat}{ad:Addr}{x:Operand}{lo hi:Option Operand}(ht:T8 P t=some (u,m,e))(hsz:Ik P e z)(h1:a<=b)(h2:b<=m)(hx:ev σ x= .pointer (some ad))
  (hlo:(∃q,lo.map (ev σ)=some (.int q (a:Int)))\/ (lo=none/\a=0)) (hhi:(∃q,hi.map (ev σ)=some (.int q (b:Int)))\/ (hi=none/\b=m)):
  XO P σ w (.slice t x lo hi none) (.slice (some (if m=a then ad else ad.add (a*z))) (b-a) (m-a)):=λ_ _ _ _ _=>by
 have hlo':(∃q,lo.map (ev σ)=some (.int q (a:Int)))\/ (lo.map (ev σ)=none/\a=0):=hlo.imp id λh=>⟨by rw[h.1];rfl,h.2⟩;have hhi':(∃q,hi.map (ev σ)=some (.int q (b:Int)))\/ (hi.map (ev σ)=none/\b=m):=hhi.imp id λh=>⟨by rw[h.1];rfl,h.2⟩;unfold T8 at ht;split at ht
 ·rename_i m' et hu;cases ht;simp only[execOp,hx,Instr.sliceAt,Ahe,Ago hu,Adb,Aoc];generalize lo.map (ev σ)=tq at hlo'⊢;generalize hi.map (ev σ)=vhi at hhi'⊢;clear hlo hhi;rcases hlo' with⟨q,rfl⟩|⟨rfl,rfl⟩<;>rcases hhi' with⟨q',rfl⟩|⟨rfl,rfl⟩<;>
   simp[Instr.sureAddr,Instr.sliceBounds,Instr.sliceBound,asIntOf,Bi hsz,h1,h2]
 ·rename_i u' hp;split at ht
  ·rename_i m' et hu;cases ht;simp only[execOp,hx,Instr.sliceAt,Ahe,Ago hp,Adb,Aoc];generalize lo.map (ev σ)=tq at hlo'⊢;generalize hi.map (ev σ)=vhi at hhi'⊢;clear hlo hhi;rcases hlo' with⟨q,rfl⟩|⟨rfl,rfl⟩<;>rcases hhi' with⟨q',rfl⟩|⟨rfl,rfl⟩<;>
    simp[Instr.slice,Ago hp,Ago hu,Instr.sliceBounds,Instr.sliceBound,asIntOf,Bi hsz,h1,h2,asAddr]
  ·cases ht
 ·cases ht
theorem Ae1{t et:TypeId}{x:Operand}{lo hi:Option Operand}{G:Prop}(hr:Rel Z s σs A L σ w)(hd:Jp n ⟨d, .slice t x lo hi none,ty,pos,after,none⟩=true)(ht:P.underlying t=some (.slice et))(h:N5 P s d et (En s.sl x) lo hi k=some r):
  CQ P n ops ⟨d, .slice t x lo hi none,ty,pos,after,none⟩ Z s σs k r G A L σ w:=by
 have hm:=hr.mem;unfold N5 at h;split at h
 ·cases h
 ·rename_i inf Vx;split at h
  ·rename_i i hx;split at h
   ·rename_i E e l hi';obtain⟨hb,h⟩:=Bb h;simp only[Ac9]at hb;split at h
    ·rename_i a b ha hb';obtain⟨_,hok,h⟩:=bind_some h;have hab:0<=a/\a<=b/\b<=Ac l:=Anw (Zy hok);obtain⟨u,cs,h1,h2⟩:=hm.arr hi';obtain⟨z',E',c',h3⟩:=JO (Ct hm.sl hx rfl);rw[h1]at h3;have h3':=h3;cases h3;obtain⟨q,len,cap,g1,g2,g3,g4,g5⟩:=hr.Aim h1;have hz:0<e.size:=by have:=Aky hb.2;omega
     have hl:len=l.length:=Aji hz (g2.symm.trans (h2.len λx c h=>Aq.len h));obtain⟨a1,ha1⟩:=Ai8 hab.1;obtain⟨b1,hb1⟩:=Ai8 (show 0<=b by omega);subst ha1 hb1;have hbl:b1<=len:=by rw[hl];have:=hab.2.2;unfold Ac at this;omega
     have hxo:=X.iJ (P:=P) (σ:=σ) (w:=w) (x:=x) (lo:=lo) (hi:=hi) (a:=a1) (b:=b1) ht (Ep Vx hb.1) (by omega) hbl g3 g1
      (by rcases Kx hm.sl ha with h|⟨h,h'⟩;exact .inl h;exact .inr ⟨h,by omega⟩) (by rcases Kx hm.sl hb' with h|⟨h,h'⟩;exact .inl h;exact .inr ⟨h,by unfold Ac at h';omega⟩)
     rw[g1]at h1;refine Dl (p:= .view true i [] e a1 (b1-a1)) hr hd hxo rfl ⟨_,_,h1,rfl,by omega,by omega,⟨_,_,by rw[show((b1:Int)-a1).toNat=b1-a1 by omega],by omega,λhn=>?_,λhc=>?_⟩,
      (λ_=>⟨_,_,q,len,cap,cs,rfl,rfl,by omega,λpt m c' hv=>?_,λh0=>?_⟩),(λh=>by cases h)⟩ h
     ·split at hn
      ·omega
      ·have:q=none:=by simpa using hn
       have:=g4 this;omega
     ·obtain⟨bb,e1,e2⟩:=g5 (by omega);rw[g1]at e2;refine⟨bb,e2,?_⟩;rw[Abe (by omega),e1];simp[Mj,Ay]
     ·cases hv;simp only[Ajf];omega
     ·have ha0:a1=0:=by omega
      subst ha0;rw[show((b1:Int)-(0:Nat)).toNat=b1 by omega];simp only[Nat.sub_zero];congr 1;split
      ·rfl
      ·by_cases hc:0<cap
       ·obtain⟨bb,e1,_⟩:=g5 hc;rw[e1];simp[Mj]
       ·omega
    ·cases h
   ·cases h
  ·rename_i o i p e l0 n' hx;obtain⟨hb,h⟩:=Bb h;simp only[Ac9]at hb;split at h
   ·rename_i a b ha hb';obtain⟨_,hok,hk⟩:=bind_some h;have hab:0<=a/\a<=b/\b<=n':=Anw (Zy hok);obtain⟨md,v1,h3,h4,k1,k2,⟨pt,cap,k3,k4,k5,k6⟩,k7,k8⟩:=Ct hm.sl hx rfl;have h6:ev σ x=v1:=by simpa using h4
    obtain⟨a1,ha1⟩:=Ai8 hab.1;obtain⟨b1,hb1⟩:=Ai8 (show 0<=b by omega);obtain⟨l1,hl1⟩:=Ai8 k1;obtain⟨n1,hn1⟩:=Ai8 k2;subst ha1 hb1 hl1 hn1;simp only[Ajf]at k3 k4 k6 k7;have hxo:=X.iJ (P:=P) (σ:=σ) (w:=w) (x:=x) (lo:=lo) (hi:=hi) (a:=a1) (b:=b1) ht (Ep Vx hb.1) (by omega) (by omega) k4 (h6.trans k3)
     (by rcases Kx hm.sl ha with h|⟨h,h'⟩;exact .inl h;exact .inr ⟨h,by omega⟩) (by rcases Kx hm.sl hb' with h|⟨h,h'⟩;exact .inl h;exact .inr ⟨h,by omega⟩)
    have e0:((l1:Int)+a1).toNat=l1+a1:=by omega
    refine Dl (p:= .view o i p e (l1+a1) (b1-a1)) hr hd hxo rfl ⟨md,_,h3,rfl,by omega,by omega,⟨_,_,by rw[show((b1:Int)-a1).toNat=b1-a1 by omega],by omega,λhn=>?_,λhc=>?_⟩,(λho=>?_),k8⟩ hk
    ·split at hn
     ·omega
     ·have:pt=none:=by simpa using hn
      have:=k5 this;omega
    ·obtain⟨bb,e1,e2⟩:=k6 (by omega);refine⟨bb,e1,?_⟩;rw[Abe (by omega),e2,e0];simp[Mj,Aki,Alo]
    ·obtain⟨s',E',q,len,cap0,c0,e1,e2,e3,e4,e5⟩:=k7 ho;have e6:=e4 _ _ _ k3;refine⟨s',E',q,len,cap0,c0,e1,e2,by omega,λpt' m c' hv=>?_,λh0=>?_⟩
     ·cases hv;omega
     ·have h00:l1=0/\a1=0:=by omega
      obtain⟨rfl,rfl⟩:=h00;have e7:=e5 rfl;rw[k3]at e7;cases e7;rw[show((b1:Int)-(0:Nat)).toNat=b1 by omega];simp only[Nat.sub_zero];congr 1;split
      ·rfl
      ·by_cases hc:0<cap
       ·obtain⟨bb,_,e8⟩:=k6 hc;rw[e8];simp[Mj]
       ·omega
   ·cases h
  ·cases h
theorem zk{t:TypeId}{x:Operand}{lo hi:Option Operand}{G:Prop}(hr0:Rel Z s σs A L σ w)(hd:Jp n ⟨d, .slice t x lo hi none,ty,pos,after,none⟩=true){vw:Bool}(h:vG vw s d t x lo hi k P=some r)(hG:G-> (owns (En s.sl x)).isEmpty=true):
  CQ P n ops ⟨d, .slice t x lo hi none,ty,pos,after,none⟩ Z s σs k r G A L σ w:=by
 unfold vG at h;split at h
 ·rename_i ht;split at h
  ·rename_i l hx;split at h
   ·rename_i a b ha hb;obtain⟨y,hy,h⟩:=bind_some h;exact Dl (p:= .val .str y) hr0 hd (X.Akb ht (Vq hr0.mem.sl hx) hy (Kx hr0.mem.sl ha) (Kx hr0.mem.sl hb)) rfl rfl h
   ·cases h
  ·cases h
 ·rename_i et ht;cases hvw:(vw&&zZ (En s.sl x))with
  |true=>
   rw[hvw]at h;exact Ae1 hr0 hd ht h
  |false=>
  rw[hvw]at h;dsimp only[Cl,cond]at h;split at h
  ·cases h
  ·rename_i s1 hs1;obtain⟨A1,L1,hr,hsame⟩:=Rk hr0 hs1;have hm:=hr.mem;split at h
   ·rename_i e0 l0 hx;split at h
    ·rename_i e l;split at h
     ·rename_i inf Vx;obtain⟨hb,h⟩:=Bb h;simp only[Ac9]at hb;split at h
      ·rename_i a b ha hb';obtain⟨y,hy,h⟩:=bind_some h;obtain⟨h1,h2,h3,h4,rfl⟩:=MQ hy;obtain⟨c0,h5,h6⟩:=BJ (Ct hm.sl hx rfl);have hlen:=h6.len λx c h=>Aq.len h;obtain⟨p',l',c',h7,h8⟩:=X.B5 (P:=P) (l:=a.toNat) (k:=b.toNat) (m:=l.length) ht (Ep Vx hb.1) (St.Abr hr h5) (j:=0) rfl hlen (xB hb.2) h3 h4;have hxo:=h7 σ w x lo hi rfl (by rcases Kx hm.sl ha with h|⟨h,h'⟩;exact .inl (by rw[<-h1];exact h);exact .inr ⟨h,by omega⟩)
        (by rcases Kx hm.sl hb' with h|⟨h,h'⟩;exact .inl (by rw[<-h2];exact h);exact .inr ⟨h,by rw[h'];simp[Ac]⟩)
       have hv:Ei (λb=>A1 b/\Z.R b) w L1 (.val (.list e) ((l.take b.toNat).drop a.toNat)) (.slice p' l' c'):=
        bZ (h8.fact 0 rfl) (Bq.drop (λx c h=>Aq.len h) _ (Bq.take (λx c h=>Aq.len h) _ h6))
       refine WL.M4 rfl hd (hxo _ _ _ _ _) (WL.nil ⟨_,A1,L1,h,hr.Gj rfl hv,λg=>?_⟩);obtain⟨e1,e2,e3⟩:=hsame (isEmpty_nil (hG g));subst e1 e2 e3;have:(s1.Gj d (.val (.list e) ((l.take b.toNat).drop a.toNat))).it=s1.it:=by cases d<;>rfl
       rw[this];exact .refl
      ·cases h
     ·cases h
    ·cases h
   ·rename_i hx;split at h
    ·rename_i inf a b Vx ha hb';obtain⟨_,hok,hk⟩:=bind_some h;have hab:0<=a/\a<=b/\b<=0:=Anw (Zy hok);have ha0:a=0:=by omega
     have hb0:b=0:=by omega
     subst ha0 hb0;have hv:=GW (Ct hm.sl hx rfl);have hxo:=X.iJ (P:=P) (σ:=σ) (w:=w) (x:=x) (lo:=lo) (hi:=hi) (a:=0) (b:=0) (z:=inf.size) ht ⟨inf,Vx,rfl⟩ (Ag9 _) (Ag9 _) (Ag9 _) hv
      (by rcases Kx hm.sl ha with h|⟨h,h'⟩;exact .inl h;exact .inr ⟨h,rfl⟩) (by rcases Kx hm.sl hb' with h|⟨h,h'⟩;exact .inl h;exact .inr ⟨h,rfl⟩)
     refine WL.M4 rfl hd (hxo _ _ _ _ _) (WL.nil ⟨_,A1,L1,hk,hr.Gj rfl rfl,λg=>?_⟩);obtain⟨e1,e2,e3⟩:=hsame (isEmpty_nil (hG g));subst e1 e2 e3;have:(s1.Gj d .nils).it=s1.it:=by cases d<;>rfl
     rw[this];exact .refl
    ·cases h
   ·cases h
 ·split at h
  ·rename_i u m et hat;split at h
   ·cases h
   ·rename_i inf Vx;split at h
    ·rename_i i p hx;split at h
     ·rename_i T v hit;split at h
      ·rename_i e0 l0 hg;split at h
       ·rename_i m' e l;obtain⟨hb,h⟩:=Bb h;simp only[Ac9]at hb;split at h
        ·rename_i a b ha hb';obtain⟨_,hok,hk⟩:=bind_some h;have hab:0<=a/\a<=b/\b<=m:=Anw (Zy hok);have hm:=hr0.mem;obtain⟨md,bb,h1,h2,h3⟩:=Zs (Ct hm.sl hx rfl);obtain⟨a1,ha1⟩:=Ai8 hab.1;obtain⟨b1,hb1⟩:=Ai8 (show 0<=b by omega);subst ha1 hb1;have hxo:=X.tZ (P:=P) (σ:=σ) (w:=w) (x:=x) (lo:=lo) (hi:=hi) (a:=a1) (b:=b1) hat (Ep Vx hb.1.2) (by omega) (by omega) h3
          (by rcases Kx hm.sl ha with h|⟨h,h'⟩;exact .inl h;exact .inr ⟨h,by omega⟩) (by rcases Kx hm.sl hb' with h|⟨h,h'⟩;exact .inl h;exact .inr ⟨h,by omega⟩)
         refine Dl (p:= .view false i p e a1 (b1-a1)) hr0 hd hxo rfl ⟨md,_,h1,rfl,by omega,by omega,⟨_,_,(by rw[show((b1:Int)-a1).toNat=b1-a1 by omega]),(by omega),(λh=>by cases h),λhc=>⟨bb,h2,?_⟩⟩,(λh=>by cases h),λ_=>⟨bb,h2⟩⟩ hk;rw[Abe (by omega),Mj];rfl
        ·cases h
       ·cases h
      ·cases h
     ·cases h
    ·cases h
  ·cases h
theorem oz{t:TypeId}{x hi mx:Operand}{lo:Option Operand}{G:Prop}(hr0:Rel Z s σs A L σ w)(hd:Jp n ⟨d, .slice t x lo (some hi) (some mx),ty,pos,after,none⟩=true)(h:oK s d t x lo hi mx k P=some r)(hG:G-> (owns (En s.sl x)).isEmpty=true):
  CQ P n ops ⟨d, .slice t x lo (some hi) (some mx),ty,pos,after,none⟩ Z s σs k r G A L σ w:=by
 unfold oK at h;split at h
 ·rename_i et ht;split at h
  ·cases h
  ·rename_i s1 hs1;obtain⟨A1,L1,hr,hsame⟩:=Rk hr0 hs1;have hm:=hr.mem;split at h
   ·rename_i e0 l0 hx;split at h
    ·rename_i e l;split at h
     ·rename_i inf Vx;obtain⟨hb,h⟩:=Bb h;simp only[Ac9]at hb;split at h
      ·rename_i a b c ha hb' hc';obtain⟨_,hok,h⟩:=bind_some h;have hbc:b<=c/\c<=Ac l:=Anw (Zy hok);obtain⟨y,hy,h⟩:=bind_some h;obtain⟨h1,h2,h3,h4,rfl⟩:=MQ hy;obtain⟨c0,h5,h6⟩:=BJ (Ct hm.sl hx rfl);have hlen:=h6.len λx c h=>Aq.len h;obtain⟨q1,hq1⟩:=IH hb' (Uc hm.sl hi (QJ hb'));obtain⟨q2,hq2⟩:=IH hc' (Uc hm.sl mx (QJ hc'));unfold Ac at hbc;obtain⟨p',l',c',h7,h8⟩:=X.Z8 (P:=P) (l:=a.toNat) (k:=b.toNat) (c:=c.toNat) (m:=l.length) ht (Ep Vx hb.1) (St.Abr hr h5) (j:=0) rfl hlen (xB hb.2) h3 (by omega) (by omega);have hxo:=h7 σ w x lo hi mx rfl (by rcases Kx hm.sl ha with h|⟨h,h'⟩;exact .inl (by rw[<-h1];exact h);exact .inr ⟨h,by omega⟩)
        ⟨q1,by rw[hq1,<-h2]⟩ ⟨q2,by rw[hq2,show((c.toNat:Nat):Int)=c by omega]⟩
       have hv:Ei (λb=>A1 b/\Z.R b) w L1 (.val (.list e) ((l.take b.toNat).drop a.toNat)) (.slice p' l' c'):=
        bZ (h8.fact 0 rfl) (Bq.drop (λx c h=>Aq.len h) _ (Bq.take (λx c h=>Aq.len h) _ h6))
       refine WL.M4 rfl hd (hxo _ _ _ _ _) (WL.nil ⟨_,A1,L1,h,hr.Gj rfl hv,λg=>?_⟩);obtain⟨e1,e2,e3⟩:=hsame (isEmpty_nil (hG g));subst e1 e2 e3;have:(s1.Gj d (.val (.list e) ((l.take b.toNat).drop a.toNat))).it=s1.it:=by cases d<;>rfl
       rw[this];exact .refl
      ·cases h
     ·cases h
    ·cases h
   ·cases h
 ·cases h
theorem Alc{e:ET}{p:PV}{x:e.T}(h:e.of p=some x):p.wX=true:=by
 unfold ET.of B6 at h;split at h
 ·rfl
 ·rfl
 ·rfl
 ·cases h
theorem tX{e:ET}(hr:Rel Z s σs A L σ w):∀{xs:List Operand} {l:List e.T},sD e (xs.map (En s.sl))=some l->
  Bq (Aq (λb=>A b/\Z.R b) w e) l ((xs.map (ev σ)).map λv:Value=>v.cells.toList).flatten/\l.length=xs.length/\∀v∈xs.map (ev σ),v.cells.size=e.size
 |[],l,h=>by simp only[List.map_nil,sD,Ag2]at h;subst h;exact⟨rfl,rfl,by simp⟩
 |x::xs,l,h=>by
  simp only[Ano,sD]at h;split at h
  ·rename_i y ys hy hys;cases h;obtain⟨h1,h2,h3⟩:=tX hr hys;obtain⟨cs,h4,h5⟩:=NQ hr (SK hr.mem.sl (x:=x) (Alc hy));have h6:=PA hy h5;refine⟨⟨cs,_,by simp[h4],h6,h1⟩,by simp[h2],λv hv=>?_⟩;simp only[Ano,List.mem_cons]at hv;rcases hv with rfl|hv
   ·rw[h4];simpa using h6.len
   ·exact h3 v hv
  ·cases h
theorem D1:∀{ps:List (Nat×Operand)} {m:Nat},S9 m ps=true-> (ps.map λp=>(p.1,ev σ p.2))=(((ps.map Prod.snd).map (ev σ)).zipIdx m).map λp=>(p.2,p.1)
 |[],_,_=>rfl
 |(i,x)::ps,m,h=>by
  simp only[S9,Ac9]at h;simp only[Ano,List.zipIdx_cons,D1 h.2,Ck h.1]
theorem rI{t:TypeId}{len:Nat}{ps:Array (Nat×Operand)}{dn:Nat}{G:Prop}(hr0:Rel Z s σs A L σ w)(hd:Jp n ⟨some dn, .buildSlice t len ps,ty,pos,after,none⟩=true)
  (h:VV P s (some dn) t len ps.toList k=some r) (hG:G-> (owns.go (ps.toList.map λp=>En s.sl p.2)).isEmpty=true):CQ P n ops ⟨some dn, .buildSlice t len ps,ty,pos,after,none⟩ Z s σs k r G A L σ w:=by
 unfold VV at h;split at h
 ·cases h
 ·rename_i E hE;split at h
  ·cases h
  ·rename_i e he;obtain⟨hb,h⟩:=Bb h;simp only[Ac9]at hb;obtain⟨⟨⟨hb1,hb2⟩,hb3⟩,hb4⟩:=hb;split at h
   ·cases h
   ·rename_i s1 hs1;obtain⟨A1,L1,hr,hsame⟩:=Rk hr0 hs1;split at h
    ·rename_i l hl;have hl':sD e ((ps.toList.map Prod.snd).map (En s1.sl))=some l:=by rw[List.map_map];exact hl
     obtain⟨h1,h2,h3⟩:=tX hr hl';have hps:ps=ps.toList.toArray:=by simp
     rw[show(⟨some dn, .buildSlice t len ps,ty,pos,after,none⟩:Oper)=⟨some dn, .buildSlice t len ps.toList.toArray,ty,pos,after,none⟩ by rw[<-hps]];have hlen:((ps.toList.map Prod.snd).map (ev σ)).length=len:=by simpa using Ck hb3
     have hF:=St.gH (f:=nJ Z.R L1 (.arr E e l) (((ps.toList.map Prod.snd).map (ev σ)).map λv:Value=>v.cells.toList).flatten) hr.same h1;refine WL.buildSlice (vs:=(ps.toList.map Prod.snd).map (ev σ)) (bJ hE) (jD hb1) hF (WC (o:= .buildSlice t len ps) hd) (D1 hb2) hlen hb4 h3 rfl (λp q c w' hs'=>WL.nil ?_);have h4:Bq (Aq (λb=>A1 b/\Z.R b) w' e) l (((ps.toList.map Prod.snd).map (ev σ)).map λv:Value=>v.cells.toList).flatten:=hs'.fact 0 rfl;refine rM.of (λg=>hsame (isEmpty_nil (hG g))) (aM (a:= .arr E e l) (md:= .own e.size E (.slice p q c) _) hr hs'.kM ⟨rfl,rfl,h4⟩ rfl (λB=>?_) h);rw[S.new,hr.len];exact lP
    ·cases h
theorem oq{E:TypeId}{e:ET}{i len cap m:Nat}{q:Option Addr}{cs:List Value}{l:List e.T}(hr:Rel Z s σs A L σ w)(hi:L[i]? =some (.own e.size E (.slice q len cap) cs))(hm:m<=len)(hl:Bq (Aq (λb=>A b/\Z.R b) w e) l (cs.take (m*e.size))):
  Rel Z (((s.AE i .dead).sub i .any).add (.arr E e l)) σs A (L.set i .dead++[.own e.size E (.slice q m cap) (cs.take (m*e.size))]) σ w:=by
 have hf:Frz (λb=>A b/\Z.R b) w L i .any:=⟨λz E' u c h=>⟨u,rfl,by rw[hi]at h;cases h;rfl⟩,rfl,rfl⟩;have hm2:=hr.mem.subst hf;have lM:(L.map MD.Ji)[i]? =some (Mob.own e.size E (.slice q len cap) cs):=hr.Ji hi;obtain⟨o,h1,h2,h3⟩:=(St.mobs hr).perm (eF lM).symm;have h4:(Mob.own e.size E (.slice q m cap) (cs.take (m*e.size))).holds o w:=by
  obtain⟨q',len',cap',g1,g2,g3,g4,g5,g6⟩:=h1;cases g1;have e5:m*e.size<=len*e.size:=Aey _ hm;refine⟨q,m,cap,rfl,by rw[Ahf];omega,by omega,g4,g5,λb hb=>?_⟩;obtain⟨arr,fr,k1,k2,k3,k4,k5⟩:=g6 b hb;exact⟨arr,fr,k1,k2,k3,k4,λj hj=>by rw[k5 j (by omega),List.getElem?_take,Acz hj]⟩
 have h5:Cv w A (Mob.own e.size E (.slice q m cap) (cs.take (m*e.size))::(L.map MD.Ji).eraseIdx i):=⟨o,h4,h2,h3⟩;have h6:Cv w A (MD.dead.Ji::Mob.own e.size E (.slice q m cap) (cs.take (m*e.size))::(L.map MD.Ji).eraseIdx i):=⟨none,⟨none,0,0,rfl,by simp,Ag9 _,λ_=>rfl,λ_=>rfl,λb h=>by cases h⟩,λb hb=>(by cases hb),h5.HA λb hb=>hb.elim id λh=>by cases h⟩;have h7:Cv w A ((MD.own e.size E (.slice q m cap) (cs.take (m*e.size))).Ji::(L.set i .dead).map MD.Ji):=by
  rw[List.map_set];exact h6.perm ((List.Perm.swap _ _ _).trans ((TH (m':=MD.dead.Ji) lM).cons _))
 have h8:St A w [dL Z.R (L.set i .dead) ((s.AE i .dead).sub i .any) σs σ, .old Z.M Z.w0] ((MD.own e.size E (.slice q m cap) (cs.take (m*e.size))).Ji::(L.set i .dead).map MD.Ji):=by
  refine⟨St.lt hr,λf hf=>?_,h7⟩;cases hf with
  |head=>exact hm2
  |tail _ hf=>exact hr.facts f (.tail _ hf)
 exact Rel.push (a:= .arr E e l) h8 ⟨rfl,rfl,hl⟩
theorem C3{E:TypeId}{e:ET}{x:Operand}{s1:S}{i:Nat}(hr:Rel Z s σs A L σ w)(hz:0<e.size)(hx:(En s.sl x).wX=true)(h:S1 s E e (En s.sl x)=some (s1,i)):
  ∃L1,Rel Z s1 σs A L1 σ w/\∃c0,L1[i]? =some (.own e.size E (ev σ x) c0):=by
 have hv:=Uc hr.mem.sl x (PV.tF hx);unfold S1 at h;split at h
 ·rename_i hp;cases h;rw[hp]at hv;have hev:=GW hv;have hr':=Rel.push (a:= .arr E e []) (md:= .own e.size E (.slice none 0 0) []) (St.wA hr e.size E) ⟨rfl,rfl,rfl⟩;refine⟨_,hr',[],?_⟩;rw[S.new,hr.len,hev];simp
 ·rename_i j hp;rw[hp]at hv;split at h
  ·rename_i E' e' l hj;obtain⟨hb,h⟩:=Bb h;split at h
   ·rename_i he;cases h;subst he;have:=Ck hb;subst this;obtain⟨v,cs,h1,h2⟩:=hr.mem.arr hj;obtain⟨z,E',c,h3⟩:=JO hv;rw[h1]at h3;cases h3;exact⟨L,hr,cs,h1⟩
   ·cases h
  ·cases h
 ·rename_i j p e1 lo n' hp;rw[hp]at hv;split at h
  ·rename_i E' e' l hj;obtain⟨hb,h⟩:=Bb h;simp only[Ac9,Ada]at hb;obtain⟨⟨hE,h0⟩,he1⟩:=hb;split at h
   ·rename_i he;cases h;subst he he1;have:=Ck hE;subst this;subst h0;obtain⟨u,cs,h1,h2⟩:=hr.mem.arr hj;obtain⟨md,v1,h3,h4,k1,k2,_,k7,_⟩:=hv;rw[h1]at h3;cases h3;have h6:ev σ x=v1:=by simpa using h4
    obtain⟨s',E2,q,len,cap,c0,e1,e2,e3,_,e5⟩:=k7 rfl;cases e1;have e7:=e5 rfl;have hl:Bq (Aq (λb=>A b/\Z.R b) w e1) (TE l 0 n') (cs.take (n'.toNat*e1.size)):=by
     have:=Bq.take (λx c h=>Aq.len h) n'.toNat h2;simpa [TE]using this
    have hr':=oq hr h1 (m:=n'.toNat) (by simpa using e3) hl;refine⟨_,hr',cs.take (n'.toNat*e1.size),?_⟩;rw[h6,e7,S.new,hr.len];have:L.length=(L.set j .dead).length:=by simp
    rw[this,List.getElem?_append_right (Ag9 _)];simp
   ·cases h
  ·cases h
 ·cases h
theorem Ad0{e:ET}{a:Item}{l:List e.T}(h:Aia e a=some l):∃E,a= .arr E e l:=by
 unfold Aia at h;split at h
 ·rename_i E e' l';split at h
  ·rename_i he;subst he;cases h;exact⟨E,rfl⟩
  ·cases h
 ·cases h
theorem D4{E:TypeId}{e:ET}{i dn:Nat}{l m:List e.T}{cs ys:List Value}{v v':Value}{w':World}{s0:S}{A0:Reg}{L0:List MD}{w0:World}(hr:Rel Z s σs A L σ w)(hi:L[i]? =some (.own e.size E v cs))(hl:Bq (Aq (λb=>A b/\Z.R b) w e) (l++m) (cs++ys))
  (hs:St A w' [nJ Z.R L (.arr E e (l++m)) (cs++ys),dL Z.R L s σs σ, .old Z.M Z.w0] ((L.map MD.Ji).set i (.own e.size E v' (cs++ys))))
  (hk:k ((((s.AE i .dead).sub i .any).add (.arr E e (l++m))).Gj (some dn) (.own s.new))=some r):rM Z σs k r False A0 L0 s0.it w0 (AE σ dn v') w':=by
 have h1:Bq (Aq (λb=>A b/\Z.R b) w' e) (l++m) (cs++ys):=hs.fact 0 rfl;have hone:v.oneCell'=true:=by obtain⟨p,len,cap,rfl,_⟩:=hr.Wp hi;rfl
 have hs1:=hs.kM;have hm:MemR (λb=>A b/\Z.R b) w' L s σs σ:=hs1.fact 0 rfl;have hf:Frz (λb=>A b/\Z.R b) w' L i .any:=⟨λz E' u c h=>⟨u,rfl,by rw[hi]at h;cases h;exact hone⟩,rfl,rfl⟩;have hm2:=hm.subst hf;have lM:(L.map MD.Ji)[i]? =some (Mob.own e.size E v cs):=hr.Ji hi;have hs2:=Cv.cA hs1 (TH (m':=Mob.own e.size E v' (cs++ys)) lM).symm;have hs3:=Cv.cA (hs2.wA 1 0) (List.Perm.swap _ _ _);have hs4:=Cv.cA hs3 ((TH (m':=MD.dead.Ji) lM).cons _);have hs5:St A w' [dL Z.R (L.set i .dead) ((s.AE i .dead).sub i .any) σs σ, .old Z.M Z.w0] ((MD.own e.size E v' (cs++ys)).Ji::(L.set i .dead).map MD.Ji):=by
  rw[List.map_set];exact(hs4.noF.gH (f:= .old Z.M Z.w0) (hs4.fact 1 rfl)).gH (f:=dL Z.R (L.set i .dead) ((s.AE i .dead).sub i .any) σs σ) hm2
 have hr2:=Rel.push (a:= .arr E e (l++m)) hs5 ⟨rfl,rfl,h1⟩;have hnew:s.new=(L.set i .dead).length:=by rw[Anj,<-hr.len];rfl
 refine⟨_,A,_,hk,hr2.Gj (d:=some dn) rfl ?_,λg=>g.elim⟩;rw[hnew];exact lP
theorem Abh(z:Array Value)(hz:0<z.size)(m:Nat):((List.replicate m z.toList).flatten).toArray=Builtin.zeroCells z m:=by
 apply Array.ext
 ·simp[Builtin.zeroCells]
 ·intro j h1 h2;simp only[Builtin.zeroCells,Array.getElem_map,Array.getElem_range];have h3:j<m*z.size:=by simpa [Builtin.zeroCells]using h2
  have h4:=oN z.toList z.size (by simp) hz m j h3;have h5:j %z.size<z.size:=Anm _ hz;simp only[List.getElem_toArray];rw[List.getElem?_eq_getElem (by simpa using h1)]at h4;simp[h5]at h4;simp[h4,h5]
theorem Aeg{E t t2:TypeId}{e:ET}{y:Operand}{kk:List e.T->Option R}(hr:Rel Z s σs A L σ w)(ht:P.underlying t=some (.slice E))(hel:ElemOk P E e.size)(h:Ah8 P s E e t2 y kk=some r):
  ∃m ys,kk m=some r/\Bq (Aq (λb=>A b/\Z.R b) w e) m ys/\∀(A1:Reg) (F:List Fact) (LL:List Mob) (i ll:Nat) (vx:Value) (cs:List Value),St A1 w F LL->LL[i]? =some (.own e.size E vx cs)->cs.length=ll*e.size->ll+m.length<=xN->
   ∃v' w',(Builtin.append_ #[t,t2] ty #[vx,ev σ y]).run P w= .ok v' w'/\St A1 w' F (LL.set i (.own e.size E v' (cs++ys))):=by
 unfold Ah8 at h;split at h
 ·rename_i ht2;split at h
  ·rename_i m0 hy;split at h
   ·rename_i m hm;unfold aT at hm;split at hm
    ·rename_i he;cases he;cases hm;refine⟨m0,FJ m0,h,J0.NO,λA1 F LL i ll vx cs hs hL hlen hlim=>?_⟩;rw[Vq hr.mem.sl hy];exact eE (x:=y) (y:=y) ht hel hs hL (Src.string ht2) (Aee m0) hlen (by simp[FJ,ET.size]) hlim
    ·cases hm
   ·cases h
  ·cases h
 ·rename_i et2 ht2;split at h
  ·rename_i m hm;have hV:(En s.sl y).isV=true:=by
    cases hq:(En s.sl y).isV with
    |true=>rfl
    |false=>rcases BP hq with h|h|⟨_,_,_,h⟩<;>rw[h]at hm<;>cases hm
   obtain⟨c0,h1,h2⟩:=fQ hr.mem hm (Uc hr.mem.sl y hV);have hrd:Rd (λ_=>True) w e.size (ev σ y) c0:=by
    rcases h2 with h2|⟨j,E',u,cs',_,h2,hpart⟩
    ·exact h2.step (λ_ _=>trivial) (λ_ _=>rfl)
    ·exact hpart _ _ (hr.Wp h2)
   have G3:=h1.len λx c h=>Aq.len h;exact⟨m,c0,h,h1,λA1 F LL i ll vx cs hs hL hlen hlim=>eE (x:=y) (y:=y) ht hel hs hL (Src.slice ⟨_,ht2⟩ hrd G3 hel.pos) h1.wH hlen G3 hlim⟩
  ·cases h
 ·rename_i kk2 ht2;split at h
  ·rename_i q z hq hz;split at h
   ·rename_i x0 hx0;obtain⟨m,hm,h⟩:=bind_some h;obtain⟨h1,h2,rfl⟩:=zF hm;obtain⟨zv,⟨i0,hi0,hz0⟩,hz2⟩:=PJ hz;have hx1:=PA hx0 (hz2 (λb=>A b/\Z.R b) w L);have hall:=vM hx1 q.toNat;refine⟨_,_,h,hall,λA1 F LL i ll vx cs hs hL hlen hlim=>?_⟩;rw[nD hq (Uc hr.mem.sl y (vV hq)),h1];have hzs:zv.cells.size=e.size:=by have:=hx1.len;simpa using this
    rw[List.length_replicate]at hlim;exact wZ (x:=y) (y:=y) (ly:=q.toNat) ht hel hs hL ⟨_,ht2⟩ (λi z' hi hz'=>by rw[hi0]at hi;cases hi;rw[hz0]at hz';cases hz';exact Abh zv.cells (by rw[hzs];exact hel.pos) _)
     hall.wH hlen ((hall.len λx c h=>Aq.len h).trans (by simp)) hlim
   ·cases h
  ·cases h
 ·cases h
theorem qz{t t2:TypeId}{x y:Operand}{dn:Nat}(hr0:Rel Z s σs A L σ w)(hd:Jp n ⟨some dn, .call ⟨.builtin .append, #[x,y], #[t,t2]⟩,ty,pos,after,none⟩=true)
  (h:nP P s (some dn) x y t t2 k=some r):CQ P n ops ⟨some dn, .call ⟨.builtin .append, #[x,y], #[t,t2]⟩,ty,pos,after,none⟩ Z s σs k r False A L σ w:=by
 unfold nP at h;split at h
 ·cases h
 ·rename_i E hE;split at h
  ·cases h
  ·rename_i e he;obtain⟨hb,h⟩:=Bb h;simp only[Ac9]at hb;have hel:=jD hb.1;split at h
   ·cases h
   ·rename_i s1 i hown;obtain⟨L1,hr,cs,hi⟩:=C3 hr0 hel.pos hb.2 hown;split at h
    ·cases h
    ·rename_i l hl;obtain⟨E',hit⟩:=Ad0 hl;obtain⟨v1,cs1,h1,h2⟩:=hr.mem.arr hit;rw[hi]at h1;cases h1;have hlen:=h2.len λx c h=>Aq.len h;obtain⟨m,ys,hk,hm,hrun⟩:=Aeg (ty:=ty) hr0 (bJ hE) hel h;obtain⟨r',ha,hk⟩:=bind_some hk;obtain⟨h3,rfl⟩:=sO ha;have hF:=St.gH (f:=nJ Z.R L1 (.arr E e (l++m)) (cs++ys)) hr (h2.append hm);obtain⟨v',w',h4,h5⟩:=hrun A _ _ i l.length (ev σ x) cs hF (hr.Ji hi) hlen h3;refine WL.val (v:=v') (w':=w') rfl rfl (WC hd) ?_ (WL.nil (D4 hr hi (h2.append hm) h5 hk));simp[execOp,resolve,invoke,builtin,h4]
end Go.Rx
namespace Go.Rx
open Go Go.Lv
variable {P:Program} {B:Reg} {w w':World} {L L':List MD} {s:S} {σs:List Env} {σ:Env} {Z:Fix} {A A':Reg} {n:Nat} {ops:Array Oper} {rest:List Oper} {K:Env->World->Prop}
variable {R:Type} {k:S->Option R} {r:R} {d:Option Nat} {ty:TypeId} {pos:String} {after:Array Edge}
theorem tU{place:Nat->Option (Nat×Nat)}{acc ns:List Value}{i off z:Nat}{v:Value}{rest:List (Nat×Value)}(hp:place i=some (off,z))(hv:v.cells=ns.toArray)(hz:ns.length=z)(hl:off+z<=acc.length):
  Instr.fill place acc.toArray ((i,v)::rest)=Instr.fill place (Bc acc off ns).toArray rest:=by
 have hf:=ZK off ns 0 acc (by omega);have Acw:v.cells.zipIdx.foldl (λcs (x:Value×Nat)=>cs.setIfInBounds (off+x.2) x.1) acc.toArray=(Bc acc off ns).toArray:=by
  rw[hv,<-Array.foldl_toList,Array.toList_zipIdx];simpa using hf
 simp only[Instr.fill,hp];have hc:(decide (v.cells.size≠z)||decide (off+v.cells.size>acc.toArray.size))=false:=by rw[hv];simp;omega
 rw[Abe (by rw[hc];simp)]
 show Instr.fill _ (v.cells.zipIdx.foldl (λcs (x:Value×Nat)=>cs.setIfInBounds (off+x.2) x.1) acc.toArray) _=_;rw[Acw]
def places:List PV->Nat->List (Nat×Nat)
 |[],_=>[]
 |v::vs,off=>(off,v.size)::places vs (off+v.size)
theorem nY:∀{l:List PV} {i off:Nat} {u:PV},l[i]? =some u-> (places l off)[i]? =some (off+nL l i,u.size)
 |[],_,_,_,h=>by simp at h
 |a::l,0,off,u,h=>by simp at h;subst h;rfl
 |a::l,i+1,off,u,h=>by
  have:=nY (l:=l) (i:=i) (off:=off+a.size) (by simpa using h);simpa [places,nL,Alo]using this
theorem nN:∀{l:List PV} {i off:Nat} {u v:PV},l[i]? =some u->u.size=v.size->places (l.set i v) off=places l off
 |[],_,_,_,_,h,_=>by simp at h
 |a::l,0,off,u,v,h,hs=>by simp at h;subst h;simp[places,hs]
 |a::l,i+1,off,u,v,h,hs=>by simp[places,nN (l:=l) (i:=i) (by simpa using h) hs]
theorem lG:∀{fs:List Field} {vs:List PV} {off:Nat},SO P fs vs off=true-> (fs.map λf=>(f.offset,(P.info? f.type).map (·.size)))=(places vs off).map λp=>(p.1,some p.2)
 |[],[],_,_=>rfl
 |[],_::_,_,h=>by simp[SO]at h
 |_::_,[],_,h=>by simp[SO]at h
 |f::fs,v::vs,off,h=>by
  simp only[SO,Ac9]at h;obtain⟨⟨h1,h2⟩,h3⟩:=h;split at h2
  ·rename_i i hi;simp[places,lG h3,hi,Ck h1,Ck h2]
  ·cases h2
theorem kU(hr:Rel Z s σs A L σ w){pl:List (Nat×Nat)}:∀{parts:List (Nat×Operand)} {zs l:List PV} {acc:List Value},aP (parts.map λp=>(p.1,En s.sl p.2)) zs=some l->
  places zs 0=pl->Bd.go (λb=>A b/\Z.R b) w L zs acc->∃cells,Instr.fill (pl[·]?) acc.toArray (parts.map λp=>(p.1,ev σ p.2))=some cells.toArray/\Bd.go (λb=>A b/\Z.R b) w L l cells
 |[],zs,l,acc,h,_,ha=>by simp only[List.map_nil,aP,Ag2]at h;subst h;exact⟨acc,rfl,ha⟩
 |(i,x)::ps,zs,l,acc,h,hpl,ha=>by
  subst hpl;simp only[Ano,aP]at h;split at h
  ·rename_i u hu;obtain⟨hb,h⟩:=Bb h;simp only[Ac9]at hb;have hsz:=Ck hb.1;obtain⟨ns,h1,h2⟩:=NQ hr (SK hr.mem.sl (x:=x) hb.2);obtain⟨c1,c2,c3,e,h3,h4,h5⟩:=Bd.field ha hu;have hlen:=h2.len;have dF:=h4.len;obtain⟨cells,h6,h7⟩:=kU hr (zs:=zs.set i (En s.sl x)) (acc:=c1++(ns++c3)) h (by rw[nN hu hsz]) (h5 _ _ h2);refine⟨cells,?_,h7⟩;rw[Ano,tU (off:=c1.length) (z:=u.size) (ns:=ns) (by rw[nY hu,Amp,h3]) h1 (by omega) (by rw[e];simp;omega),e,UK (by omega)];exact h6
  ·cases h
theorem yK(hr:Rel Z s σs A L σ w){e:ET}:∀{parts:List (Nat×Operand)} {l l':List e.T} {acc:List Value},oX e (parts.map λp=>(p.1,En s.sl p.2)) l=some l'->
  Bq (Aq (λb=>A b/\Z.R b) w e) l acc->∃cells,Instr.fill (λi=>some (i*e.size,e.size)) acc.toArray (parts.map λp=>(p.1,ev σ p.2))=some cells.toArray/\Bq (Aq (λb=>A b/\Z.R b) w e) l' cells/\l'.length=l.length
 |[],l,l',acc,h,ha=>by simp only[List.map_nil,oX,Ag2]at h;subst h;exact⟨acc,rfl,ha,rfl⟩
 |(i,x)::ps,l,l',acc,h,ha=>by
  simp only[Ano,oX]at h;split at h
  ·rename_i u y hu hy;obtain⟨ns,h1,h2⟩:=NQ hr (SK hr.mem.sl (x:=x) (Alc hy));have h3:=PA hy h2;obtain⟨c1,c2,c3,e',h4,h5,h6⟩:=Bq.get (λx c h=>Aq.len h) ha hu;have hlen:=h3.len;have dF:=h5.len;obtain⟨cells,h7,h8,h9⟩:=yK hr (l:=l.set i y) (acc:=c1++(ns++c3)) h (h6 _ _ h3);refine⟨cells,?_,h8,by rw[h9,Anj]⟩;rw[Ano,tU (off:=c1.length) (z:=e.size) (ns:=ns) (by rw[h4]) h1 hlen (by rw[e'];simp;omega),e',UK (by omega)];exact h7
  ·cases h
theorem ku{t et:TypeId}{m z:Nat}{parts:List (Nat×Operand)}{zv:Value}{cells:List Value}(ht:P.underlying t=some (.array m et))(hz:∃i,P.info? t=some i/\i.zero=some zv)(hsz:Ik P et z)
  (hf:Instr.fill (λi=>some (i*z,z)) zv.cells (parts.map λp=>(p.1,ev σ p.2))=some cells.toArray) (w:World):XO P σ w (.build t parts.toArray) (.agg cells.toArray):=λ_ _ _ _ _=>by
 obtain⟨i,hi,hz⟩:=hz;simp only[execOp,Instr.build,Ahe,zeroValue,typeInfo];simp[hi,hz,Ago ht,Bi hsz,hf]
theorem uq{t:TypeId}{ps:Array (Nat×Operand)}{G:Prop}(hr:Rel Z s σs A L σ w)(hd:Jp n ⟨d, .build t ps,ty,pos,after,none⟩=true)(h:uR P s d t ps.toList k=some r):
  CQ P n ops ⟨d, .build t ps,ty,pos,after,none⟩ Z s σs k r G A L σ w:=by
 have hps:ps=ps.toList.toArray:=by simp
 rw[show(⟨d, .build t ps,ty,pos,after,none⟩:Oper)=⟨d, .build t ps.toList.toArray,ty,pos,after,none⟩ by rw[<-hps]];unfold uR at h;split at h
 ·rename_i fs zs ht hz;obtain⟨hb,h⟩:=Bb h;obtain⟨z,⟨i,hi,hz0⟩,hz2⟩:=PJ hz;split at h
  ·rename_i l hl;obtain⟨cells,h1,h2⟩:=kU hr (pl:=places zs 0) hl rfl (show Bd.go _ w L zs _ from hz2 _ _ _);have hst:TN P t (places zs 0) z.cells.toList:=by
    unfold TN VY;rw[ht];simp only[lG hb,hi,hz0,Aod]
   exact Dl hr (d:=d) (o:= .build t ps.toList.toArray) (by simpa using hd) (X.build hst rfl (by simpa using h1)) rfl (show Ei _ w L (.agg l) _ from⟨cells,rfl,h2⟩) h
  ·cases h
 ·rename_i m et e0 l0 ht hz;split at h
  ·rename_i m' a l;split at h
   ·rename_i inf l' Vx hl;obtain⟨hb,h⟩:=Bb h;obtain⟨z,hz1,hz2⟩:=PJ hz;obtain⟨h0,h0'⟩:l.length=m'/\Bq (Aq (λb=>A b/\Z.R b) w a) l z.cells.toList:=hz2 _ _ L;obtain⟨cells,h1,h2,h3⟩:=yK hr hl h0';have:=ku (σ:=σ) (parts:=ps.toList) ht hz1 (Ep Vx hb) (by simpa using h1) w;exact Dl hr (d:=d) (o:= .build t ps.toList.toArray) (by simpa using hd) this rfl (show Ei _ w L (.val (.vec m' a) l') _ from⟨cells,rfl,h3.trans h0,h2⟩) h
   ·cases h
  ·cases h
 ·cases h
end Go.Rx
namespace Go.Rx
open Go Go.Lv
variable {P:Program} {B B':Reg} {w w':World} {L L':List MD} {s:S} {σs:List Env} {σ:Env} {Z:Fix} {A A':Reg} {n:Nat}
def WX(B:Reg)(w:World)(L:List MD)(B':Reg)(w':World)(L':List MD)(q q':PV):Prop:=q'.isA=q.isA/\∀cs,Bd B w L q cs->Bd B' w' L' q' cs
inductive All2 {α β:Type} (f:α->β->Prop):List α->List β->Prop
 |nil:All2 f [] []
 |cons {a b l m}:f a b->All2 f l m->All2 f (a::l) (b::m)
theorem All2.split{α β:Type}{f:α->β->Prop}:∀{l1 l2:List α} {m:List β},All2 f (l1++l2) m->∃m1 m2,m=m1++m2/\All2 f l1 m1/\All2 f l2 m2
 |[],_,m,h=>⟨[],m,rfl, .nil,h⟩
 |a::l1,l2,_, .cons h1 h2=>let⟨m1,m2,e,h3,h4⟩:=All2.split h2;⟨_::m1,m2,by rw[e];rfl, .cons h1 h3,h4⟩
mutual
theorem dW:∀{sh:Sh} {p:PV} {ls ls' rest:List PV} {cs:List Value},Xi sh p=some ls->Bd B w L p cs->All2 (WX B w L B' w' L') ls ls'->∃p',Tl sh (ls'++rest)=some (p',rest)/\p'.isA=p.isA/\Bd B' w' L' p' cs
 | .lf e o,p,ls,ls',rest,cs,h,hp,ha=>by
  simp only[Xi,Ag2]at h;subst h;cases ha with
  |cons h1 h2=>
   cases h2;exact⟨_,rfl,h1.1,h1.2 _ hp⟩
 | .agg l,p,ls,ls',rest,cs,h,hp,ha=>by
  cases p<;>simp only[Xi,reduceCtorEq]at h;rename_i vs;obtain⟨us,h1,h2⟩:=jU (rest:=rest) h (show Bd.go B w L vs cs from hp) ha;exact⟨.agg us,by simp only[Tl,h1],rfl,h2⟩
theorem jU:∀{l:List Sh} {ps:List PV} {ls ls' rest:List PV} {cs:List Value},Xi.go l ps=some ls->Bd.go B w L ps cs->All2 (WX B w L B' w' L') ls ls'->∃ps',Tl.go l (ls'++rest)=some (ps',rest)/\Bd.go B' w' L' ps' cs
 |[],[],ls,ls',rest,cs,h,hp,ha=>by
  simp only[Xi.go,Ag2]at h;subst h;cases ha;exact⟨[],rfl,hp⟩
 |a::l,p::ps,ls,ls',rest,cs,h,⟨c1,c2,e,hp1,hp2⟩,ha=>by
  simp only[Xi.go]at h;split at h
  ·rename_i x y hx hy;cases h;obtain⟨m1,m2,rfl,h1,h2⟩:=ha.split;obtain⟨p',h3,_,h4⟩:=dW (rest:=m2++rest) hx hp1 h1;obtain⟨ps',h5,h6⟩:=jU (rest:=rest) hy hp2 h2;exact⟨p'::ps',by simp only[Tl.go,Ais,h3,h5],c1,c2,e,h4,h6⟩
  ·cases h
 |[],_::_,_,_,_,_,h,_,_=>by simp[Xi.go]at h
 |_::_,[],_,_,_,_,h,_,_=>by simp[Xi.go]at h
end
theorem cP:∀{l:List Sh} {ps:List PV} {ls ls' rest:List PV} {us:List Value},Xi.go l ps=some ls->Gh B w L ps us->All2 (WX B w L B' w' L') ls ls'->∃ps',Tl.go l (ls'++rest)=some (ps',rest)/\Gh B' w' L' ps' us
 |[],[],ls,ls',rest,us,h,hp,ha=>by
  simp only[Xi.go,Ag2]at h;subst h;cases ha;exact⟨[],rfl,hp⟩
 |a::l,p::ps,ls,ls',rest,us,h,⟨v,us',e,hp1,hp2⟩,ha=>by
  simp only[Xi.go]at h;split at h
  ·rename_i x y hx hy;cases h;obtain⟨m1,m2,rfl,h1,h2⟩:=ha.split;have key:∃p',Tl a (m1++(m2++rest))=some (p',m2++rest)/\uf p'.isA (Bd B' w' L' p') v:=by
    cases hA:p.isA with
    |true=>
     rw[hA]at hp1;obtain⟨cs,e1,hc⟩:=hp1;obtain⟨p',h3,h4,h5⟩:=dW (rest:=m2++rest) hx hc h1;exact⟨p',h3,by rw[h4,hA];exact⟨cs,e1,h5⟩⟩
    |false=>
     rw[hA]at hp1;obtain⟨p',h3,h4,h5⟩:=dW (rest:=m2++rest) hx hp1 h1;exact⟨p',h3,by rw[h4,hA];exact h5⟩
   obtain⟨p',h3,h4⟩:=key;obtain⟨ps',h5,h6⟩:=cP (rest:=rest) hy hp2 h2;exact⟨p'::ps',by simp only[Tl.go,Ais,h3,h5],v,us',e,h4,h6⟩
  ·cases h
 |[],_::_,_,_,_,_,h,_,_=>by simp[Xi.go]at h
 |_::_,[],_,_,_,_,h,_,_=>by simp[Xi.go]at h
theorem gV{l:List Sh}{ps ls ls':List PV}{us:List Value}(h:X8 l ps=some ls)(hp:Gh B w L ps us)(ha:All2 (WX B w L B' w' L') ls ls'):∃ps',YR l ls'=some ps'/\Gh B' w' L' ps' us:=by
 obtain⟨ps',h1,h2⟩:=cP (rest:=[]) h hp ha;rw[Ajn]at h1;exact⟨ps',by simp only[YR,h1],h2⟩
theorem xY{e:ET}{q:PV}{x:e.T}(h:aY s e q=some x):(∃e0,e= .list e0)\/ (∃e' x',q= .val e' x'/\aT e' e x'=some x):=by
 unfold aY at h;split at h
 ·exact .inl ⟨_,rfl⟩
 ·exact .inr ⟨_,_,rfl,h⟩
 ·cases h
theorem cast_eq{e e':ET}{x:e.T}{y:e'.T}(h:aT e e' x=some y):PV.val e x=PV.val e' y:=by
 unfold aT at h;split at h
 ·rename_i he;subst he;cases h;rfl
 ·cases h
theorem qo{e:ET}{q:PV}{l:List e.T}(h:wF s e q=some l):elems s e q=some l/\q.isA=false/\q.size=1:=by
 unfold wF at h;split at h
 ·cases h
 ·refine⟨h,?_⟩;unfold elems at h;split at h
  ·split at h
   ·exact⟨rfl,rfl⟩
   ·cases h
  ·exact⟨rfl,rfl⟩
  ·exact⟨rfl,rfl⟩
  ·exact⟨rfl,rfl⟩
  ·cases h
theorem B2(hr:Rel Z s σs A L σ w){e:ET}{q:PV}{x:e.T}(h:aY s e q=some x)(hb:∀b,A b/\Z.R b->B' b)(ho:∀i∈owns q,∀z E v c,L[i]? =some (.own z E v c)->Rd B' w z v c):WX (λb=>A b/\Z.R b) w L B' w L' q (.val e x):=by
 rcases xY h with⟨e0,rfl⟩|⟨e',x',rfl,hc⟩
 ·obtain⟨h1,hA,h2⟩:=qo (show wF s e0 q=some x from h);refine⟨by rw[hA];rfl,λcs hcs=>?_⟩;have hP:=hcs.jC;have hlen:=hcs.len;have:∃v,cs=[v]:=by
   rw[h2]at hlen
   match cs,hlen with
   |[v],_=>exact⟨v,rfl⟩
  obtain⟨v,rfl⟩:=this;have hv:Ei (λb=>A b/\Z.R b) w L q v:=(ZE hP).2 (by unfold Ij;rw[hA];exact hcs);obtain⟨c0,h3,h4⟩:=fQ hr.mem h1 hv;refine⟨v,c0,rfl,?_,h3.mono λx c h=>Aq.step hb (λ_ _=>rfl) h⟩;rcases h4 with h4|⟨i,E,u,cs,hi,h4,hpart⟩
  ·exact h4.step hb (λ_ _=>rfl)
  ·exact hpart _ _ (ho i hi _ _ _ _ h4)
 ·have:=cast_eq hc;rw[this];exact⟨rfl,λcs h=>Aq.step hb (λ_ _=>rfl) (show Aq _ w e x cs from h)⟩
theorem U3{e:ET}{x:e.T}{s0:S}:Eh e none x s0=(.val e x,s0):=by cases e<;>rfl
theorem mZ(x:JY [])(s0:S):Es [] x s0=([],s0):=rfl
theorem UB(p:ET×Option TypeId)(x:JY [p])(s0:S):Es [p] x s0=([(Eh p.1 p.2 x s0).1],(Eh p.1 p.2 x s0).2):=rfl
theorem QC(p q:ET×Option TypeId)(r:List (ET×Option TypeId))(x:p.1.T)(y:JY (q::r))(s0:S):Es (p::q::r) (x,y) s0=
  ((Eh p.1 p.2 x s0).1::(Es (q::r) y (Eh p.1 p.2 x s0).2).1,(Es (q::r) y (Eh p.1 p.2 x s0).2).2):=rfl
theorem pk0{p:ET×Option TypeId}:NR s [p] []=none:=rfl
theorem pk2{p:ET×Option TypeId}{q r:PV}{qs:List PV}:NR s [p] (q::r::qs)=none:=rfl
theorem pk3{q:PV}{qs:List PV}:NR s [] (q::qs)=none:=rfl
theorem pk4{p q:ET×Option TypeId}{r:List (ET×Option TypeId)}:NR s (p::q::r) []=none:=rfl
theorem pk5{p q:ET×Option TypeId}{r:List (ET×Option TypeId)}{v:PV}{vs:List PV}:NR s (p::q::r) (v::vs)=(match aY s p.1 v,NR s (q::r) vs with|some x,some y=>some ((x,y):p.1.T×JY (q::r))|_,_=>none):=rfl
theorem A7{qs:List PV}{x:JY []}(h:NR s [] qs=some x):qs=[]:=by
 match qs,h with
 |[],_=>rfl
 |_::_,h=>rw[pk3]at h;cases h
theorem zB{p:ET×Option TypeId}{qs:List PV}{x:JY [p]}(h:NR s [p] qs=some x):∃q,qs=[q]/\aY s p.1 q=some x:=by
 match qs,h with
 |[],h=>rw[pk0]at h;cases h
 |[q],h=>exact⟨q,rfl,h⟩
 |q::r::qs,h=>rw[pk2]at h;cases h
theorem tN{p q:ET×Option TypeId}{r:List (ET×Option TypeId)}{qs:List PV}{z:JY (p::q::r)}(h:NR s (p::q::r) qs=some z):
  ∃v vs,∃(x:p.1.T) (y:JY (q::r)),qs=v::vs/\z=(x,y)/\aY s p.1 v=some x/\NR s (q::r) vs=some y:=by
 match qs,h with
 |[],h=>rw[pk4]at h;cases h
 |v::vs,h=>
  rw[pk5]at h;split at h
  ·rename_i x y hx hy;cases h;exact⟨v,vs,x,y,rfl,rfl,hx,hy⟩
  ·cases h
def Lw(L:List MD):List (ET×Option TypeId)->List PV->List MD
 |p::r,v::vs=>match p.2 with
  |none=>Lw L r vs
  |some E=>(match p.1,v with
   | .list _, .own i=>L.getD i .dead
   | .list a,_=> .own a.size E (.slice none 0 0) []
   |_,_=> .dead)::Lw L r vs
 |_,_=>[]
theorem hU:∀{ls:List (ET×Option TypeId)} {vs:List PV} {is:List Nat},sH ls=true->consume s ls vs=some is->is=[]
 |[],[],is,_,h=>by simp[consume]at h;exact h
 |[],_::_,_,_,h=>by simp[consume]at h
 |_::_,[],_,_,h=>by simp[consume]at h
 |(e,none)::r,v::vs,is,hn,h=>hU (ls:=r) (vs:=vs) (by simpa [sH]using hn) (by simpa [consume]using h)
 |(e,some _)::r,v::vs,is,hn,h=>by simp[sH]at hn
theorem fB{N:Reg}:∀{ls:List (ET×Option TypeId)} {vs:List PV} {is:List Nat} {A:Reg},consume s ls vs=some is->Cv w A (is.map λi=>(L.getD i .dead).Ji)->Cv w A ((Lw L ls vs).map MD.Ji)
 |[],[],_,_,_,_=>trivial
 |[],_::_,_,_,h,_=>by simp[consume]at h
 |_::_,[],_,_,h,_=>by simp[consume]at h
 |(e,none)::r,v::vs,is,A,h,hm=>fB (N:=N) (ls:=r) (vs:=vs) (by simpa [consume]using h) hm
 |(e,some E)::r,v::vs,is,A,h,hm=>by
  simp only[consume]at h;split at h
  ·rename_i a;exact⟨none,⟨none,0,0,rfl,by simp,Ag9 _,λ_=>rfl,λ_=>rfl,λb h=>by cases h⟩,λb hb=>(by cases hb),(fB (N:=N) h hm).HA λb hb=>hb.elim id (λh=>by cases h)⟩
  ·rename_i a i;split at h
   ·rename_i E' a' l hi;obtain⟨_,h⟩:=Bb h;simp only[Ant]at h;obtain⟨is',h1,rfl⟩:=h;obtain⟨o,g1,g2,g3⟩:=hm;exact⟨o,g1,g2,fB (N:=N) h1 g3⟩
   ·cases h
  ·cases h
theorem uC{B1:Reg}(hr:Rel Z s σs A L σ w)(hb:∀b,A b/\Z.R b->B1 b):∀(ls:List (ET×Option TypeId)) (vs:List PV) (x:JY ls) (is:List Nat) (s0:S) (Lx LF:List MD),
  NR s ls vs=some x->consume s ls vs=some is-> (∀i∈Uo ls vs,∀z E v c,L[i]? =some (.own z E v c)->Rd B1 w z v c)->Lx.length=s0.it.length->LF=Lx++Lw L ls vs->
  ∃its,(Es ls x s0).2=⟨s0.sl,s0.it++its,s0.st⟩/\its.length=(Lw L ls vs).length/\All2 (WX (λb=>A b/\Z.R b) w L B1 w LF) vs (Es ls x s0).1/\
   ∀(i:Nat) (a:Item) (m:MD),its[i]? =some a-> (Lw L ls vs)[i]? =some m->Zv B1 w LF a m
 |[],vs,x,is,s0,Lx,LF,hp,hc,_,_,_=>by
  rw[A7 hp];refine⟨[],?_,rfl,All2.nil,λi a m h=>by simp at h⟩;rw[mZ];simp
 |p::ls,vs,x,is,s0,Lx,LF,hp,hc,ho,hlen,G4=>by
  have main:∀(v:PV) (vs':List PV) (x1:p.1.T) (rest:S->List PV×S),vs=v::vs'->aY s p.1 v=some x1->
    (Es (p::ls) x s0=((Eh p.1 p.2 x1 s0).1::(rest (Eh p.1 p.2 x1 s0).2).1,(rest (Eh p.1 p.2 x1 s0).2).2))->
    (∀(is:List Nat) (s1:S) (Lx:List MD),consume s ls vs'=some is-> (∀i∈Uo ls vs',∀z E v c,L[i]? =some (.own z E v c)->Rd B1 w z v c)->Lx.length=s1.it.length->LF=Lx++Lw L ls vs'->
     ∃its,(rest s1).2=⟨s1.sl,s1.it++its,s1.st⟩/\its.length=(Lw L ls vs').length/\All2 (WX (λb=>A b/\Z.R b) w L B1 w LF) vs' (rest s1).1/\
      ∀(i:Nat) (a:Item) (m:MD),its[i]? =some a-> (Lw L ls vs')[i]? =some m->Zv B1 w LF a m)->
    ∃its,(Es (p::ls) x s0).2=⟨s0.sl,s0.it++its,s0.st⟩/\its.length=(Lw L (p::ls) vs).length/\All2 (WX (λb=>A b/\Z.R b) w L B1 w LF) vs (Es (p::ls) x s0).1/\
     ∀(i:Nat) (a:Item) (m:MD),its[i]? =some a-> (Lw L (p::ls) vs)[i]? =some m->Zv B1 w LF a m:=by
   intro v vs' x1 rest hvs hx hu hrest;subst hvs;rw[hu];obtain⟨e,o⟩:=p;cases o with
   |none=>
    have hc':consume s ls vs'=some is:=by simpa [consume]using hc
    have e1:Eh e none x1 s0=(.val e x1,s0):=U3;simp only[e1];obtain⟨its,h1,h2,h3,h4⟩:=hrest is s0 Lx hc' (λi hi=>ho i (by simp[Uo,hi])) hlen G4;refine⟨its,h1,h2, .cons (B2 hr hx hb (λi hi z E v c hL=>ho i (by simp[Uo,hi]) z E v c hL)) h3,h4⟩
   |some E=>
    simp only[consume]at hc;split at hc
    ·rename_i a;have hx':x1=[]:=by
      have:elems s a .nils=some x1:=hx;simpa [elems]using this.symm
     subst hx';have e1:Eh (.list a) (some E) [] s0=(.own s0.new,s0.add (.arr E a [])):=rfl;simp only[e1];obtain⟨its,h1,h2,h3,h4⟩:=hrest is (s0.add (.arr E a [])) (Lx++[.own a.size E (.slice none 0 0) []]) hc (λi hi=>ho i (by simpa [Uo]using hi)) (by simp[S.add,hlen]) (by rw[G4];simp[Lw]);refine⟨.arr E a []::its,by rw[h1];simp[S.add],by simp[Lw,h2], .cons ⟨rfl,λcs hcs=>?_⟩ h3,λi b m hi hm=>?_⟩
     ·refine⟨a.size,E, .slice none 0 0,[],?_,hcs⟩;rw[G4,S.new,<-hlen];simp[Lw]
     ·cases i with
      |zero=>
       simp[Lw]at hi hm;subst hi hm;exact⟨rfl,rfl,rfl⟩
      |succ i=>exact h4 i b m (by simpa using hi) (by simpa [Lw]using hm)
    ·rename_i a i;split at hc
     ·rename_i E' a' l hi;obtain⟨hb1,hc1⟩:=Bb hc;clear hc;simp only[Ac9,Ada]at hb1;obtain⟨hE,rfl⟩:=hb1;have:=Ck hE;subst this;simp only[Ant]at hc1;obtain⟨is',hc',rfl⟩:=hc1;obtain⟨u,cs0,g1,g2⟩:=hr.mem.arr hi;have hx':x1=l:=by
       have:elems s a' (.own i)=some x1:=hx;simp[elems,hi]at this;exact this.symm
      subst hx';have hg:L.getD i .dead= .own a'.size E' u cs0:=by simp[List.getD_eq_getElem?_getD,g1]
      have e1:Eh (.list a') (some E') x1 s0=(.own s0.new,s0.add (.arr E' a' x1)):=rfl;simp only[e1];obtain⟨its,h1,h2,h3,h4⟩:=hrest is' (s0.add (.arr E' a' x1)) (Lx++[.own a'.size E' u cs0]) hc' (λi hi=>ho i (by simpa [Uo]using hi)) (by simp[S.add,hlen]) (by rw[G4];simp only[Lw,hg];simp);refine⟨.arr E' a' x1::its,by rw[h1];simp[S.add],by simp[Lw,h2], .cons ⟨rfl,λcs hcs=>?_⟩ h3,λq b m hq hm=>?_⟩
      ·obtain⟨z,E2,v2,c2,k1,k2⟩:=hcs;rw[g1]at k1;cases k1;refine⟨a'.size,E',u,cs0,?_,k2⟩;rw[G4,S.new,<-hlen];simp only[Lw,hg];simp
      ·cases q with
       |zero=>
        simp only[Lw,hg]at hq hm;simp at hq hm;subst hq hm;exact⟨rfl,rfl,g2.mono λx c h=>Aq.step hb (λ_ _=>rfl) h⟩
       |succ q=>exact h4 q b m (by simpa using hq) (by simpa [Lw]using hm)
     ·cases hc
    ·cases hc
  cases ls with
  |nil=>
   obtain⟨v,rfl,hx⟩:=zB hp;exact main v [] x (λs1=>([],s1)) rfl hx (UB p x s0) (λis s1 Lx _ _ hlen G4=>⟨[],by simp,rfl,All2.nil,λi a m h=>by simp at h⟩)
  |cons q r=>
   obtain⟨v,vs',x1,y',rfl,rfl,hx,hy⟩:=tN hp;exact main v vs' x1 (λs1=>Es (q::r) y' s1) rfl hx (QC p q r x1 y' s0)
    (λis s1 Lx hc ho hlen G4=>uC hr hb (q::r) vs' y' is s1 Lx LF hy hc ho hlen G4)
theorem yJ:∀(a b:List PV),owns.go (a++b)=owns.go a++owns.go b
 |[],b=>rfl
 |x::a,b=>by simp[owns.go,yJ a b]
mutual
theorem K6:∀{sh:Sh} {p:PV} {ls:List PV},Xi sh p=some ls->owns.go ls=owns p
 | .lf e o,p,ls,h=>by simp only[Xi,Ag2]at h;subst h;simp[owns.go]
 | .agg l,p,ls,h=>by cases p<;>simp only[Xi,reduceCtorEq]at h;exact dY h
theorem dY:∀{l:List Sh} {ps ls:List PV},Xi.go l ps=some ls->owns.go ls=owns.go ps
 |[],[],ls,h=>by simp only[Xi.go,Ag2]at h;subst h;rfl
 |a::l,p::ps,ls,h=>by
  simp only[Xi.go]at h;split at h
  ·rename_i x y hx hy;cases h;rw[yJ,K6 hx,dY hy];rfl
  ·cases h
 |[],_::_,_,h=>by simp[Xi.go]at h
 |_::_,[],_,h=>by simp[Xi.go]at h
end
structure KeepN (N:Reg) (w w':World):Prop where
 same:∀b,b<w.heap.size->N b->w'.heap[b]? =w.heap[b]?
 gr:Gr w w'
def GlOk(gl:List (Nat×List Value))(N:Reg)(w:World):Prop:=∀p∈gl,p.1<w.heap.size/\N p.1/\∃T fr,w.heap[p.1]? =some (.cells p.2.toArray T fr)
def Ag6(gl:List (Nat×List Value))(R N:Reg)(w w':World)(rs:List Sh)(y:JY (Yj rs))(us:List Value):Prop:=
 KeepN N w w'/\∃(A1:Reg) (L1:List MD),(∀b,A1 b-> (¬N b\/w.heap.size<=b)/\b<w'.heap.size)/\Cv w' (λb=>A1 b\/ (b<w.heap.size/\N b)) (L1.map MD.Ji)/\
  ∀(s:S) (L:List MD) (B':Reg),L.length=s.it.length-> (∀b,A1 b->B' b)-> (Af3 rs=true->∀b,(R b/\N b)\/ (∃p∈gl,p.1=b)->B' b)->
   ∃ps its,(Es (Yj rs) y s).2=⟨s.sl,s.it++its,s.st⟩/\YR rs (Es (Yj rs) y s).1=some ps/\Gh B' w' (L++L1) ps us/\its.length=L1.length/\
   ∀(i:Nat) (a:Item) (m:MD),its[i]? =some a->L1[i]? =some m->Zv B' w' (L++L1) a m
structure ConOk (P:Program) (gl:List (Nat×List Value)) (f:Nat) (c:Con):Prop where
 ent:Ent P f
 ok:∀(R N:Reg) (w:World) (L0:List MD) (vs:List Value) (ps:List PV) (x:JY (Yj c.ps)) (y:JY (Yj c.rs)),args c.ps x=some ps-> (G0 c.ps x).length=L0.length->
  (∀(i:Nat) (a:Item) (m:MD),(G0 c.ps x)[i]? =some a->L0[i]? =some m->Zv (λb=>R b/\N b) w L0 a m)->Cv w N (L0.map MD.Ji)->Gh (λb=>R b/\N b) w L0 ps vs->GlOk gl N w->c.fn x=some y->
  Calls P f vs.toArray w λe w'=>∃us,e= .returned (LR us)/\Ag6 gl R N w w' c.rs y us
end Go.Rx
namespace Go.Rx
open Go Go.Lv
variable {P:Program} {B B':Reg} {w w':World} {L L':List MD} {s:S} {σs:List Env} {σ:Env} {Z:Fix} {A A':Reg} {n:Nat} {ops:Array Oper}
variable {R:Type} {k:S->Option R} {r:R} {d:Option Nat} {ty:TypeId} {pos:String} {after:Array Edge} {T:Tab} {inl:xK R}
def YJ(P:Program)(gl:List (Nat×List Value))(inl:xK R):Prop:=∀(Z:Fix),Z.gl=gl->∀(f:Nat) (as:List PV) (s:S) (k:S->PV->Option R) (r:R) (σs:List Env) (A:Reg) (L:List MD) (σ:Env) (w:World) (vs:List Value),
 inl f as s k=some r->Rel Z s σs A L σ w->Gh (λb=>A b/\Z.R b) w L as vs->Ent P f/\Calls P f vs.toArray w λe w'=>∃v p s' A' L',e= .returned v/\k s' p=some r/\Rel Z s' σs A' L' σ w'/\p.isV=true/\Ei (λb=>A' b/\Z.R b) w' L' p v
def WV(P:Program)(T:Tab):Prop:=∀f c,T.get f=some c->ConOk P T.gl f c
def fN(P:Program)(T:Tab)(Z:Fix):Prop:=WV P T/\Z.gl=T.gl
theorem Gh.step{q:List PV}{vs:List Value}(hb:∀b,B b->B' b)(hs:Same B w w')(hl:XS L L')(h:Gh B w L q vs):Gh B' w' L' q vs:=Bd.S6 hb hs hl h
theorem Gh.append:∀{p q:List PV} {us vs:List Value},Gh B w L p us->Gh B w L q vs->Gh B w L (p++q) (us++vs)
 |[],q,us,vs,h,h'=>by rw[show us=[]from h];exact h'
 |a::p,q,us,vs,⟨v,us',e,h1,h2⟩,h'=>⟨v,us'++vs,by rw[e];rfl,h1,Gh.append h2 h'⟩
theorem C6{ps:List PV}{us:List Value}(h:Gh B w L ps us):(yZ ps).isV=true/\Ei B w L (yZ ps) (LR us):=by
 match ps,us,h with
 |[],us,h=>rw[show us=[]from h];exact⟨rfl,[],rfl,rfl⟩
 |[p],us,⟨v,us',e,h1,h2⟩=>
  rw[show us'=[]from h2]at e;subst e;exact Ka h1
 |p::q::r,us,h=>
  obtain⟨v,us',e,h1,v2,us2,e2,h2,h3⟩:=h;subst e2 e;exact⟨rfl,v::v2::us2,rfl,v,_,rfl,h1,v2,us2,rfl,h2,h3⟩
theorem Rel.qp{w':World}{A1 BX:Reg}{L1:List MD}{its:List Item}(hr:Rel Z s σs A L σ w)(hBX:∀b,BX b-> ¬A b/\b<w.heap.size)(hY:Cv w (λb=>A b\/BX b) (L.map MD.Ji))
  (hk:KeepN (λb=>¬BX b) w w') (hA1:∀b,A1 b-> (¬ ¬BX b\/w.heap.size<=b)/\b<w'.heap.size)
  (hm:Cv w' (λb=>A1 b\/ (b<w.heap.size/\ ¬BX b)) (L1.map MD.Ji)) (hlen:its.length=L1.length)
  (hit:∀(i:Nat) (a:Item) (m:MD),its[i]? =some a->L1[i]? =some m->Zv (λb=>(A b\/A1 b)/\Z.R b) w' (L++L1) a m):
  Rel Z ⟨s.sl,s.it++its,s.st⟩ σs (λb=>A b\/A1 b) (L++L1) σ w':=by
 have hlt:=St.lt hr;have hsame:Same A w w':=λb hb=>hk.same b (hlt b hb) λh=>(hBX b h).1 hb;have hmem:MemR (λb=>A b/\Z.R b) w' L s σs σ:=Fact.step _ (hr.fact 0 (f:=dL Z.R L s σs σ) rfl) (λ_ h=>h) hsame hk.gr;have hold:(Fact.old Z.M Z.w0).holds A w':=Fact.step _ (hr.fact 1 (f:= .old Z.M Z.w0) rfl) (λ_ h=>h) hsame hk.gr;have hl:=XS.append L L1;have hst:St (λb=>A b\/A1 b) w' [.old Z.M Z.w0] (L1.map MD.Ji++L.map MD.Ji):=by
  refine⟨λb hb=>hb.elim (λh=>Ajk (hlt b h) hk.gr.le) (λh=>(hA1 b h).2),λf hf=>?_,?_⟩
  ·cases hf with
   |head=>exact Fact.step _ hold (λ_ h=> .inl h) (λ_ _=>rfl) (.refl _)
   |tail _ h=>cases h
  ·refine Cv.append (λb=>b<w.heap.size/\ ¬BX b) (λb hb=>Ajk hb.1 hk.gr.le) (hm.HA ?_) ?_
   ·rintro b ((h|h)|h)
    ·exact .inr ⟨hlt b h,λhx=>(hBX b hx).1 h⟩
    ·exact .inl h
    ·exact .inr h
   ·refine(hY.lt.step hk.gr.le λb hb hn=>hk.same b hb λh=>hn (.inl (.inr h))).HA ?_;rintro b ((h|h)|h)
    ·exact .inl (.inl h)
    ·rcases(hA1 b h).1 with h|h
     ·exact .inl (.inr (Classical.not_not.1 h))
     ·exact .inr h
    ·by_cases hx:BX b
     ·exact .inl (.inr hx)
     ·exact .inr (Nat.le_of_not_lt λhl=>h ⟨hl,hx⟩)
 have hb:∀b,A b/\Z.R b-> (A b\/A1 b)/\Z.R b:=λb h=>⟨.inl h.1,h.2⟩;refine Rel.as (Cv.cA hst List.perm_append_comm) (i:=0) rfl ⟨⟨?_,?_⟩,hmem.sl.step hb (λ_ _=>rfl) hl,hmem.stk.step hb (λ_ _=>rfl) hl⟩ (by rw[List.map_append])
 ·simp[hmem.it.1,hlen]
 ·intro i a m g1 g2;simp only at g1;rcases Aof i s.it.length with hi|hi
  ·rw[List.getElem?_append_left hi]at g1;rw[List.getElem?_append_left (by rw[<-hmem.it.1];exact hi)]at g2;exact(hmem.it.2 i a m g1 g2).step hb (λ_ _=>rfl) hl
  ·rw[List.getElem?_append_right hi]at g1;rw[List.getElem?_append_right (by rw[<-hmem.it.1];exact hi)]at g2;rw[hmem.it.1]at g1;exact hit _ a m g1 g2
theorem Cv.split:∀{X Y:List Mob} {A:Reg},Cv w A (X++Y)->∃BX:Reg,(∀b,BX b-> ¬A b/\b<w.heap.size)/\Cv w (λb=>¬BX b) X/\Cv w (λb=>A b\/BX b) Y
 |[],Y,A,h=>⟨λ_=>False,λb hb=>hb.elim,trivial,h.HA λb hb=>hb.elim id λh=>h.elim⟩
 |m::X,Y,A,⟨o,h1,h2,h3⟩=>by
  obtain⟨BX,g1,g2,g3⟩:=Cv.split h3;refine⟨λb=>BX b\/o=some b,λb hb=>?_,⟨o,h1,λb hb=>⟨λh=>h (.inr hb),(h2 b hb).2⟩,g2.HA ?_⟩,g3.HA ?_⟩
  ·rcases hb with hb|hb
   ·exact⟨λh=>(g1 b hb).1 (.inl h),(g1 b hb).2⟩
   ·exact h2 b hb
  ·rintro b (hb|hb)
   ·exact λh=>hb (.inl h)
   ·exact λh=>(g1 b h).1 (.inr hb)
  ·rintro b (hb|hb|hb)
   ·exact .inl (.inl hb)
   ·exact .inr hb
   ·exact .inl (.inr hb)
theorem Cv.Aju:∀{Y:List Mob} {A:Reg} {i:Nat} {m:Mob},Cv w A Y->Y[i]? =some m->∃o,m.holds o w/\∀b,o=some b-> ¬A b
 |_::_,A,0,m,⟨o,h1,h2,_⟩,h=>⟨o,by simp at h;exact h▸h1,λb hb=>(h2 b hb).1⟩
 |_::Y,A,i+1,m,⟨o,_,_,h3⟩,h=>by
  obtain⟨q,g1,g2⟩:=Cv.Aju h3 (i:=i) (by simpa using h);exact⟨q,g1,λb hb hA=>g2 b hb (.inl hA)⟩
theorem D9{w:World}:MD.dead.Ji.holds none w:=⟨none,0,0,rfl,by simp,Ag9 _,λ_=>rfl,λ_=>rfl,λb h=>by cases h⟩
theorem BK{i:Nat}:∀{l:List Nat},Zu i l=true↔i∈l
 |[]=>by simp[Zu]
 |j::l=>by
  simp only[Zu,Ani,List.mem_cons,BK (l:=l)];exact or_congr ⟨Ck,λh=>by subst h;simp⟩ Iff.rfl
theorem jA{f:Item->Item}(hf:f .dead= .dead):∀{l:List Item} {i:Nat},Ce (l.map f) i=f (Ce l i)
 |[],_=>by simp[Ce,hf]
 |_::_,0=>rfl
 |_::r,i+1=>by simpa [Ce]using jA hf (l:=r) (i:=i)
theorem aW:∀{l:List Item} {i j:Nat},Ce l i= .dead->Ce (EE l j .dead) i= .dead
 |[],_,_,h=>by simpa [EE]using h
 |_::_,0,0,_=>rfl
 |_::_,0,j+1,h=>by simpa [EE,Ce]using h
 |_::_,i+1,0,h=>by simpa [EE,Ce]using h
 |_::r,i+1,j+1,h=>by simpa [EE,Ce]using aW (l:=r) (i:=i) (j:=j) (by simpa [Ce]using h)
theorem YK:∀{l:List Item} {i:Nat},Ce (EE l i .dead) i= .dead
 |[],_=>rfl
 |_::_,0=>rfl
 |_::r,i+1=>by simpa [EE,Ce]using YK (l:=r) (i:=i)
theorem pL{i:Nat}:∀{is:List Nat} {s s':S},Ce s.it i= .dead->s.lC is=some s'->Zu i is=false
 |[],_,_,_,_=>rfl
 |j::is,s,s',hd,h=>by
  simp only[S.lC]at h;split at h
  ·rename_i s1 h1;unfold S.kill at h1;split at h1
   ·rename_i E e l hj;cases h1;have hij:Nat.beq i j=false:=by
     cases hb:Nat.beq i j with
     |false=>rfl
     |true=>rw[Ck hb]at hd;rw[hd]at hj;cases hj
    have:Ce ((s.AE j .dead).sub j .any).it i= .dead:=by
     show Ce ((EE s.it j .dead).map _) i=_;rw[jA rfl,aW hd];rfl
    simp[Zu,hij,pL this h]
   ·cases h1
  ·cases h
theorem B7:∀{is:List Nat} {s s':S} {L:List MD},MemR B w L s σs σ-> (∀(i z:Nat) (E:TypeId) (v:Value) (c:List Value),L[i]? =some (.own z E v c)->v.oneCell'=true)->s.lC is=some s'->
  ∃L',MemR B w L' s' σs σ/\ (is=[]->L'=L)/\ (∀j,Zu j is=false->L'[j]? =L[j]?)/\∀(A:Reg) (X:List Mob),Cv w A (X++L.map MD.Ji)->Cv w A (X++(is.map λi=>(L.getD i .dead).Ji)++L'.map MD.Ji)
 |[],s,s',L,hm,_,h=>by
  simp only[S.lC,Ag2]at h;subst h;exact⟨L,hm,λ_=>rfl,λ_ _=>rfl,λA X hX=>by simpa using hX⟩
 |i::is,s,s',L,hm,hone,h=>by
  simp only[S.lC]at h;split at h
  ·rename_i s1 h1;unfold S.kill at h1;split at h1
   ·rename_i E e l hi;cases h1;obtain⟨v,cs,hL,_⟩:=hm.arr hi;have hf:Frz B w L i .any:=⟨λz E' u c h=>⟨u,rfl,by rw[hL]at h;cases h;exact hone _ _ _ _ _ hL⟩,rfl,rfl⟩;have hm2:=hm.subst hf;have hlt:=(List.getElem?_eq_some_iff.1 hL).1;obtain⟨L',g1,g2,g3,g4⟩:=B7 hm2 (λj z E v c hj=>by
     by_cases hji:j=i
     ·subst hji;rw[List.getElem?_set_self hlt]at hj;cases hj
     ·rw[List.getElem?_set_ne (Aov hji)]at hj;exact hone _ _ _ _ _ hj) h
    refine⟨L',g1,(λe=>by cases e),λj hj=>?_,λA X hX=>?_⟩
    ·simp only[Zu,Bool.or_eq_false_iff]at hj;rw[g3 j hj.2,List.getElem?_set_ne (λe=>by subst e;simp at hj)]
    ·have lM:(L.map MD.Ji)[i]? =some (L.getD i .dead).Ji:=by simp[hL,List.getD_eq_getElem?_getD]
     have hX1:Cv w A (MD.dead.Ji::(L.map MD.Ji).eraseIdx i++(X++[(L.getD i .dead).Ji])):=by
      have h1:Cv w A (MD.dead.Ji::(X++L.map MD.Ji)):=⟨none,D9,λb hb=>(by cases hb),hX.HA λb hb=>hb.elim id λh=>by cases h⟩;refine h1.perm (.cons _ ?_);have hp:=(eF lM).symm;refine(List.Perm.append_left X hp).trans ?_;rw[show X++(L.getD i .dead).Ji::(L.map MD.Ji).eraseIdx i=(X++[(L.getD i .dead).Ji])++(L.map MD.Ji).eraseIdx i by simp];exact List.perm_append_comm
     have hX2:Cv w A ((X++[(L.getD i .dead).Ji])++(L.set i .dead).map MD.Ji):=by
      refine hX1.perm (List.perm_append_comm.trans (List.Perm.append_left _ ?_));rw[List.map_set];exact TH lM
     have:=g4 A _ hX2;have hni:Zu i is=false:=pL (s:=(s.AE i .dead).sub i .any) (by
      show Ce ((EE s.it i .dead).map _) i=_;rw[jA rfl,YK];rfl) h
     have he:(is.map λj=>((L.set i .dead).getD j .dead).Ji)=is.map λj=>(L.getD j .dead).Ji:=by
      refine List.map_congr_left λj hj=>?_;have:j≠i:=λe=>by
       subst e;rw[BK.2 hj]at hni;cases hni
      simp only[List.getD_eq_getElem?_getD,List.getElem?_set_ne (Aov this)]
     rw[he]at this;simpa using this
   ·cases h1
  ·cases h
theorem Aq.noL:∀{e:ET} {x:e.T} {cs:List Value},e.qN=false->Aq B w e x cs->Aq B' w' e x cs
 | .int k,x,cs,_,h=>h
 | .bool,x,cs,_,h=>h
 | .str,x,cs,_,h=>h
 | .list e,l,cs,hL,h=>by cases hL
 | .vec m e,l,cs,hL,⟨h1,h2⟩=>⟨h1,h2.mono λx c h=>Aq.noL (e:=e) hL h⟩
 | .cons a q,x,cs,hL,⟨c1,c2,e,h1,h2⟩=>by
  simp only[ET.qN,Bool.or_eq_false_iff]at hL;exact⟨c1,c2,e,Aq.noL hL.1 h1,Aq.noL hL.2 h2⟩
 | .nil,_,cs,_,h=>h
theorem oD:∀{ls:List (ET×Option TypeId)} {vs:List PV},owns.go vs=[]->Uo ls vs=[]
 |[],_,_=>by unfold Uo;rfl
 |_::_,[],_=>by unfold Uo;rfl
 |(e,o)::ls,v::vs,h=>by
  simp only[owns.go,List.append_eq_nil_iff]at h;cases o<;>simp[Uo,h.1,oD h.2]
theorem Rel.out(hr:Rel Z s σs A L σ w){b:Nat}(hb:¬A b):Z.R b:=by
 rcases Aof b Z.w0.heap.size with hlt|hge
 ·have hold:=(hr.fact 1 (f:= .old Z.M Z.w0) rfl).2 b hlt;exact Z.mod b (Classical.byContradiction λhM=>hb (hold hM).1)
 ·exact Z.new b hge
theorem Aeo{f:Nat}{caps:List PV}{as:Array Operand}{g:Operand}{ts:Array TypeId}{dn:Nat}{G:Prop}(hT:fN P T Z)(hI:YJ P T.gl inl)(hr0:Rel Z s σs A L σ w)(hg:En s.sl g= .fn f caps)
  (hd:Jp n ⟨some dn, .call ⟨.value g,as,ts⟩,ty,pos,after,none⟩=true) (h:O7 P T inl s (some dn) f caps as.toList k=some r)
  (hG:G->∃c,T.get f=some c/\sH (Yj c.ps)=true/\ (oC c=false\/owns.go (as.toList.map (En s.sl))=[])):
  CQ P n ops ⟨some dn, .call ⟨.value g,as,ts⟩,ty,pos,after,none⟩ Z s σs k r G A L σ w:=by
 obtain⟨cvs,hgv,Ahi⟩:=Adz (Ct hr0.mem.sl hg rfl);have has:as=as.toList.toArray:=by simp
 have hxe:Ent P f->XE P σ w (.call ⟨.value g,as,ts⟩) f (as.toList.map (ev σ)++cvs).toArray:=λhe=>by
  have:=X.Akj (P:=P) (σ:=σ) (w:=w) (args:=as.toList) (ts:=ts) he hgv rfl;rw[<-has]at this;exact this
 unfold O7 at h;split at h
 ·rename_i c hc;have hcon:=hT.1 f c hc;split at h
  ·have hc0:cvs=[]:=Ahi;subst hc0;split at h
   ·cases h
   ·rename_i ls0 Ali;split at h
    ·cases h
    ·rename_i s1 hs1;obtain⟨A1,L1,hr,hsame⟩:∃A1 L1,Rel Z s1 σs A1 L1 σ w/\ (G->s1=s/\A1=A/\L1=L):=by
      split at hs1
      ·rename_i hro;obtain⟨A1,L1,h1,h2⟩:=Rk hr0 hs1;refine⟨A1,L1,h1,λg=>h2 ?_⟩;obtain⟨c',hc',_,h3⟩:=hG g;rw[hc]at hc';cases hc';rcases h3 with h3|h3
       ·rw[hro]at h3;cases h3
       ·exact oD (by rw[dY Ali];exact h3)
      ·cases hs1;exact⟨A,L,hr0,λ_=>⟨rfl,rfl,rfl⟩⟩
     cases hP:A4 (as.toList.map (En s1.sl))with
     |false=>rw[hP]at h;cases h
     |true=>
     rw[hP]at h;simp only[Aob,Aow]at h;try dsimp only[Cl]at h
     split at h
     ·cases h
     ·rename_i ls hls;cases Ac0:(oC c&& !(Uo (Yj c.ps) ls).isEmpty)with
      |true=>rw[Ac0]at h;cases h
      |false=>
      rw[Ac0]at h;dsimp only[Cl,cond]at h;split at h
      ·cases h
      ·rename_i x hx;split at h
       ·cases h
       ·rename_i is his;cases Ajb:(!((Uo (Yj c.ps) ls).all λi=>!Zu i is))with
        |true=>rw[Ajb]at h;cases h
        |false=>
        rw[Ajb]at h;dsimp only[Cl,cond]at h;split at h
        ·cases h
        ·rename_i s2 hs2;obtain⟨y,hy,h⟩:=bind_some h;change (match YR c.rs (Es (Yj c.rs) y s2).1 with|some vs=>k ((Es (Yj c.rs) y s2).2.Gj (some dn) (yZ vs))|none=>none)=some r at h;have hpv:=lY hr.mem.sl _ hP;have hone:∀(i z:Nat) (E:TypeId) (v:Value) (c:List Value),L1[i]? =some (.own z E v c)->v.oneCell'=true:=λi z E v c hi=>by
          obtain⟨p,len,cap,rfl,_⟩:=hr.Wp hi;rfl
         obtain⟨L2,hm2,hnil,hget,Alj⟩:=B7 hr.mem hone hs2;obtain⟨BX,hBX,hX,hY⟩:=Cv.split (Alj A1 [] (by simpa using St.mobs hr));have hr2:Rel Z s2 σs A1 L2 σ w:=Rel.as (h:=(⟨St.lt hr,hr.facts,hY.HA λ_ h=> .inl h⟩:St A1 w _ (L2.map MD.Ji))) (i:=1) rfl hm2 rfl;have hL0:Cv w (λb=>¬BX b) ((Lw L1 (Yj c.ps) ls).map MD.Ji):=fB (N:=λ_=>True) his (by simpa using hX);have key:∀R0:Reg,(∀b,A1 b/\Z.R b->R0 b)-> (Uo (Yj c.ps) ls=[]\/∀b,R0 b)-> (oC c=true->∀b,R0 b->A1 b/\Z.R b)->
           CQ P n ops ⟨some dn, .call ⟨.value g,as,ts⟩,ty,pos,after,none⟩ Z s σs k r G A L σ w:=by
          intro R0 h1 h2 h3;have hb1:∀b,A1 b/\Z.R b->R0 b/\ ¬BX b:=λb hb=>⟨h1 b hb,λhx=>(hBX b hx).1 hb.1⟩;obtain⟨Ams,e1,e2,e3,e4⟩:=uC (B1:=λb=>R0 b/\ ¬BX b) hr hb1 (Yj c.ps) ls x is ⟨[],[],[]⟩ [] (Lw L1 (Yj c.ps) ls) hx his (λi hi z E v cc hLi=>by
           rcases h2 with h2|h2
           ·rw[h2]at hi;cases hi
           ·have hni:Zu i is=false:=by
             have:=Ajb;simp only[Bool.not_eq_false',List.all_eq_true,Akv]at this;exact this i hi
            have Amt:=(hget i hni).trans hLi;obtain⟨o,g1,g2⟩:=Cv.Aju hY (hr2.Ji Amt);exact(Go.Lv.Wp g1).step (λb hb=>⟨h2 b,λhx=>g2 b hb (.inr hx)⟩) (λ_ _=>rfl)) rfl rfl
          obtain⟨ps,h5,h6⟩:=gV hls hpv e3;have Agi:G0 c.ps x=Ams:=by unfold G0;rw[e1];rfl
          have hcall:=hcon.ok R0 (λb=>¬BX b) w _ _ ps x y h5 (by rw[Agi];exact e2) (by rw[Agi];exact e4) hL0 h6 (λp hp=>by
           obtain⟨hA,T1,fr,hh⟩:=hr.zo (hT.2▸hp);exact⟨lt_of_heap hh,λhx=>(hBX _ hx).1 hA.1,T1,fr,hh⟩) hy
          have hxe':=hxe hcon.ent;rw[Ajn]at hxe';refine WL.e (WC hd) hxe' hcall ?_;rintro e w' ⟨us,rfl,hk,A2,LL,hA2,hm3,hres⟩;refine⟨_,rfl,WL.nil ?_⟩;have hnew:∀b,A2 b->Z.R b:=λb hb=>by
           rcases(hA2 b hb).1 with h7|h7
           ·exact hr.out (hBX b (Classical.not_not.1 h7)).1
           ·refine Z.new b ?_;have h8:Z.w0.heap.size<=w.heap.size:=(hr.fact 1 (f:= .old Z.M Z.w0) rfl).1.le;omega
          obtain⟨ps',its,g1,g2,g3,g4,g5⟩:=hres s2 L2 (λb=>(A1 b\/A2 b)/\Z.R b) hr2.len.symm (λb hb=>⟨.inr hb,hnew b hb⟩) (λhro b hb=>by
           rcases hb with hb|⟨p,hp,rfl⟩
           ·exact⟨.inl (h3 hro b hb.1).1,(h3 hro b hb.1).2⟩
           ·exact⟨.inl (hr.zo (hT.2▸hp)).1.1,(hr.zo (hT.2▸hp)).1.2⟩)
          have hr':=Rel.qp hr2 hBX hY hk hA2 hm3 g4 g5;obtain⟨hv,hv'⟩:=C6 g3;rw[g2]at h;refine⟨_,λb=>A1 b\/A2 b,L2++LL,h,?_,λgg=>?_⟩
          ·rw[g1];exact hr'.Gj (d:=some dn) hv hv'
          ·obtain⟨e1',e2',e3'⟩:=hsame gg;obtain⟨c',hc',hno,_⟩:=hG gg;rw[hc]at hc';cases hc';have Amv:=hU hno his;subst Amv;have Amw:s1=s2:=by simpa [S.lC]using hs2
           have Amx:=hnil rfl;subst Amw Amx e1' e2' e3';rw[g1];exact⟨λb hb=> .inl hb,λb hb=>hk.same b (St.lt hr b hb) λhx=>(hBX b hx).1 hb,⟨LL,rfl⟩,⟨its,rfl⟩⟩
         cases hro':oC c with
         |true=>
          refine key (λb=>A1 b/\Z.R b) (λ_ h=>h) (.inl ?_) (λ_ _ h=>h);rw[hro']at Ac0;simp only[Aoa,Bool.not_eq_false']at Ac0;exact isEmpty_nil Ac0
         |false=>exact key (λ_=>True) (λ_ _=>trivial) (.inr λ_=>trivial) (λh=>by rw[hro']at h;cases h)
  ·cases h
 ·rename_i hn;obtain⟨hP,h⟩:=Bb h;have hpv:=Gh.append (lY hr0.mem.sl _ hP) Ahi;obtain⟨he,hcall⟩:=hI Z hT.2 f _ s _ r σs A L σ w _ h hr0 hpv;refine WL.e (WC hd) (hxe he) hcall ?_;rintro e w' ⟨v,p,s',A',L',rfl,hk,hr',hv,hv'⟩;refine⟨_,rfl,WL.nil ⟨_,A',L',hk,hr'.Gj (d:=some dn) hv hv',λgg=>?_⟩⟩;obtain⟨c,hc,_⟩:=hG gg;rw[hn]at hc;cases hc
end Go.Rx
namespace Go.Rx
open Go Go.Lv
variable {P:Program} {B B':Reg} {w w':World} {L L':List MD} {s:S} {σs:List Env} {σ:Env} {Z:Fix} {A A':Reg} {n:Nat} {ops:Array Oper}
variable {R:Type} {k:S->Option R} {r:R} {d:Option Nat} {ty:TypeId} {pos:String} {after:Array Edge} {T:Tab} {inl:xK R}
theorem QV{l:List Oper}{K K':Env->World->Prop}(h:WL P n ops l K σ w)(hk:∀σ w,K σ w->K' σ w):WL P n ops l K' σ w:=by
 have:=WL.cut (rest:=[]) K l h (λσ w h=>WL.nil (hk σ w h));rwa [Ajn]at this
theorem rX{cs:Array Value}{v:PV}(h:dS P ty (.agg cs)=some v)(hA:v.isA=true):v.isV=true/\Ei B w L v (.agg cs):=by
 have h1:=dK (B:=B) (w:=w) (L:=L) h;have h2:Ij B w L v (.agg cs):=by
  unfold Ij;rw[hA];exact⟨cs.toList,by simp,h1⟩
 exact Ka h2
theorem wJ{a:Option R}:∀{l:List (Option R)},both a l=some r->a=some r/\∀b∈l,b=some r
 |[],h=>⟨h,by simp⟩
 |b::l,h=>by
  unfold both at h;split at h
  ·rename_i hab;obtain⟨h1,h2⟩:=wJ h;exact⟨h1,λc hc=>by
    rcases List.mem_cons.1 hc with rfl|hc
    ·exact hab▸h1
    ·exact h2 c hc⟩
  ·cases h
theorem Aez{α:Type}{l:List α}{a b:Option R}(h:uQ l a b=some r):b=some r/\ (l=[]->a=some r):=by
 cases l with
 |nil=>
  obtain⟨h1,h2⟩:=wJ h;exact⟨h2 _ (.head _),λ_=>h1⟩
 |cons x l=>exact⟨h,λe=>by cases e⟩
theorem iP{o:BinOp}{t e t':TypeId}{x y:Operand}{q:Bool}{p:Option Addr}{l c:Nat}(h:oG o=some q)(ht:P.underlying t=some (.slice e))(hx:ev σ x= .slice p l c)(hy:ev σ y= .slice none 0 0):
  XO P σ w (.binOp o t x y t') (.bool (p.isNone==q)):=by
 cases o<;>simp only[oG,Ag2,reduceCtorEq]at h<;>subst h
 ·have:=X.bin (w:=w) (t':=t') hx hy (Bin.Afi ht p l c);simpa using this
 ·have:=X.bin (w:=w) (t':=t') hx hy (Bin.Adg ht p l c);cases p<;>simpa using this
theorem elem_nil{B:Reg}{e:ET}{l:List e.T}(hz:Nat.ble 1 e.size=true)(h:Bq (Aq B w e) l []):l=[]:=by
 have h1:=Bq.len (λx c h=>Aq.len h) h;have h2:1<=e.size:=by simpa using hz
 cases l with
 |nil=>rfl
 |cons a l=>
  simp only[Alh,List.length_nil]at h1;have:0<(l.length+1)*e.size:=Nat.mul_pos (by omega) (by omega);omega
theorem Abq{o:BinOp}{t t':TypeId}{x y:Operand}{a:PV}{dn:Nat}{G:Prop}(hr:Rel Z s σs A L σ w)(hd:Jp n ⟨some dn, .binOp o t x y t',ty,pos,after,none⟩=true)(hx:En s.sl x=a)(hy:En s.sl y= .nils)
  (h:Aat P s dn o t a k=some r):CQ P n ops ⟨some dn, .binOp o t x y t',ty,pos,after,none⟩ Z s σs k r G A L σ w:=by
 have hm:=hr.mem;have hy':=GW (Ct hm.sl hy rfl);unfold Aat at h;split at h
 ·rename_i q e hq ht;have main:∀{α:Type} {l:List α} {p:Option Addr} {len c:Nat},ev σ x= .slice p len c-> (p=none->l=[])->uQ l (k (s.set dn (.b q))) (k (s.set dn (.b (!q))))=some r->CQ P n ops ⟨some dn, .binOp o t x y t',ty,pos,after,none⟩ Z s σs k r G A L σ w:=by
   intro α l p len c hv hp h;obtain⟨h1,h2⟩:=Aez h;cases hn:p.isNone with
   |true=>
    have hk:=h2 (hp (by simpa using hn));have hxo:=iP (w:=w) (t':=t') hq ht hv hy';rw[hn]at hxo;have hb:(true==q)=q:=by cases q<;>rfl
    rw[hb]at hxo;exact Dl (p:= .b q) hr hd hxo rfl rfl hk
   |false=>
    have hxo:=iP (w:=w) (t':=t') hq ht hv hy';rw[hn]at hxo;have hb:(false==q)=!q:=by cases q<;>rfl
    rw[hb]at hxo;exact Dl (p:= .b (!q)) hr hd hxo rfl rfl h1
  split at h
  ·have hv:=GW (Ct hm.sl hx rfl);have hxo:=iP (w:=w) (t':=t') hq ht hv hy';have hb:((none:Option Addr).isNone==q)=q:=by cases q<;>rfl
   rw[hb]at hxo;exact Dl (p:= .b q) hr hd hxo rfl rfl h
  ·split at h
   ·obtain⟨hz,h⟩:=Bb h;obtain⟨c0,h1,h2⟩:=BJ (Ct hm.sl hx rfl);have h1':=h1;obtain⟨p,len,cap,hv,h3,h4,h5,h6⟩:=h1;refine main hv (λhp=>?_) h;subst hp;have:c0=[]:=Go.Lv.Rd.D2 (by rw[<-hv];exact h1');subst this;have:=h5 rfl;exact elem_nil hz h2
   ·cases h
  ·rename_i i;split at h
   ·rename_i E e' l hi;obtain⟨hz,h⟩:=Bb h;obtain⟨v,cs,h1,h2⟩:=hm.arr hi;obtain⟨z,E',c0,h3⟩:=JO (Ct hm.sl hx rfl);rw[h1]at h3;cases h3;have hrd:=hr.Wp h1;have h1':=hrd;obtain⟨p,len,cap,hv,h4,h5,h6,h7⟩:=hrd;refine main hv (λhp=>?_) h;subst hp;have:cs=[]:=Go.Lv.Rd.D2 (by rw[<-hv];exact h1');subst this;exact elem_nil hz h2
   ·cases h
  ·cases h
 ·cases h
theorem H2{i b off:Nat}{md:MD}{ns:List Value}{F:List Fact}(hr:St A w F (L.map MD.Ji))(h:L[i]? =some md)(hb:md.base=some b)(h1:ns.all (·.oneCell')=true)(hle:off+ns.length<=md.cells.length)(hz:0<ns.length):
  ∃w' md',(storeCells ⟨b,off,none⟩ ns).run P w= .ok () w'/\St A w' F ((L.map MD.Ji).set i md'.Ji)/\Zp off ns md md':=by
 cases md with
 |dead=>cases hb
 |box b' cells T=>
  cases hb;have hL:(L.map MD.Ji)[i]? =some (Mob.box b cells T):=wC h;have hr':=Gs (P:=P) b T (0,0) ns off 0 cells w (hr.box hL) (by simpa [MD.cells]using hle) (.inr (.inr (Ag9 _))) (λv hv=>by simpa using List.all_eq_true.1 h1 v hv);simp only[Anq]at hr';exact⟨_, .box b (Bc cells off ns) T,hr',hr.Aav hL,rfl⟩
 |own z' E u cs=>
  obtain⟨b',m,c,hu,hs'⟩:=St.wS hr (wC h) (by simp[MD.cells]at hle;omega);subst hu;cases hb;have hlen:i<(L.map MD.Ji).length:=by simpa using(List.getElem?_eq_some_iff.1 h).1
  have hL:((L.map MD.Ji).set i (.at_ b z' E m c cs))[i]? =some (.at_ b z' E m c cs):=by rw[List.getElem?_set_self hlen]
  have hle':off+ns.length<=cs.length:=hle;have hcore:∃w',(storeCells ⟨b,off,none⟩ ns).run P w= .ok () w'/\St A w' F (((L.map MD.Ji).set i (.at_ b z' E m c cs)).set i (.at_ b z' E m c (Bc cs off ns))):=by
   obtain⟨o,ho,_,_⟩:=(hs'.front hL).mobs;obtain⟨rfl,ho⟩:=ho;have ho':=ho;obtain⟨_,len,cap,e,h3,h4,h5,h5',h6⟩:=ho;cases e;obtain⟨arr,fr,e,hbb,hsz',hfz,hcells⟩:=h6 b rfl;have hcl:cs.length<=arr.size:=by rw[h3,hsz'];exact Aey _ h4
   have hr':=Gs (P:=P) b E fr ns off 0 arr.toList w (by simpa using hbb) (by simp;omega) (by simp;rcases hfz with h|h;exact .inr (.inr (Nat.le_of_eq h.symm));exact .inr (.inl h)) (λv hv=>by simpa using List.all_eq_true.1 h1 v hv);simp only[Anq]at hr';have hbl:=lt_of_heap hbb;have hcs':(Bc cs off ns).length=cs.length:=Ez (by omega);have hget:∀i,i<m*z'-> (Bc arr.toList off ns)[i]? =(Bc cs off ns)[i]? :=λi hi=>by
    have Acx:min off arr.toList.length=off:=by simp;omega
    have Acy:min off cs.length=off:=by omega
    simp only[Bc,List.getElem?_append,Ahf,Acx,Acy,List.getElem?_take,List.getElem?_drop];by_cases g1:i<off
    ·rw[Acz g1,Acz g1,Acz g1,Acz g1];simpa using hcells i hi
    ·rw[Abe g1,Abe g1];by_cases g2:i-off<ns.length
     ·rw[Acz g2,Acz g2]
     ·rw[Abe g2,Abe g2];have e1:off+ns.length+(i-off-ns.length)=i:=by omega
      rw[e1];simpa using hcells i hi
   refine⟨_,hr',hs'.YZ hL (b:=b) ⟨rfl,ho'⟩ ⟨rfl,_,m,c,rfl,by rw[hcs',h3],h4,h5,h5',λb' hb'=>?_⟩ ?_⟩
   ·cases hb';refine⟨(Bc arr.toList off ns).toArray,fr,rfl,by simp[Fc,hbl],?_,?_,λi hi=>?_⟩
    ·simp only[Al7];rw[Ez (by simp;omega)];simpa using hsz'
    ·simp only[Al7];rw[Ez (by simp;omega)];simpa using hfz
    ·simpa using hget i hi
   ·rintro⟨q,hq,q1,q2⟩;exact⟨q,hq,q1,q2,hq.1⟩
  obtain⟨w',g1,g2⟩:=hcore;have hs3:=g2.Aj7 (i:=i) (b:=b) (s:=z') (m:=m) (c:=c) (E:=E) (cs:=Bc cs off ns) (by rw[List.getElem?_set_self (by simpa using hlen)]);rw[List.set_set,List.set_set]at hs3;exact⟨w', .own z' E (.slice (some ⟨b,0,none⟩) m c) (Bc cs off ns),g1,hs3,rfl⟩
structure SrcW (P:Program) (w:World) (vy:Value) (z ly:Nat) (ys:List Value):Prop where
 len:(Builtin.lenOf vy).run P w= .ok ly w
 first:∀m,m<=ly-> (Builtin.firstCells z m vy).run P w= .ok (ys.take (m*z)).toArray w
theorem SrcW.rd{vy:Value}{z ly:Nat}{ys:List Value}(h:Rd (λ_=>True) w z vy ys)(hl:ys.length=ly*z)(hz:0<z):SrcW P w vy z ly ys:=by
 obtain⟨p,len,cap,rfl,h2,h3,h4,h5⟩:=h;have he:len=ly:=Aji hz (h2.symm.trans hl);subst he;refine⟨rfl,λm hm=>?_⟩;cases p with
 |none=>
  have:m=0:=by have:=h4 rfl;omega
  subst this;simp[Builtin.firstCells]
 |some a=>
  have hlen:(ys.take (m*z)).length=m*z:=by
   rw[Ahf,h2];have:=Aey z hm;omega
  simp only[Builtin.firstCells];by_cases hc:0<cap
  ·obtain⟨b,off,arr,T,fr,e1,_,e2,_,e4⟩:=h5 hc;cases e1;have:=Lh (P:=P) (w:=w) (b:=b) (off:=off) (ys.take (m*z)) (λi hi=>by
    rw[hlen]at hi;have h6:i<len*z:=Ajk hi (Aey z hm);rw[cell_of e2,e4 i h6,List.getElem?_take,Acz hi])
   rw[hlen]at this;exact this
  ·have:m=0:=by omega
   subst this;simp[loadCells,loadCellsFrom]
theorem SrcW.str{l:List UInt8}:SrcW P w (sv l) 1 l.length (FJ (k:= .u8) l):=by
 refine⟨by simp[Builtin.lenOf,ByteArray.size],λm hm=>?_⟩;simp only[Builtin.firstCells,dO,Ajl];congr 1;simp[FJ,List.map_take];rfl
theorem uO{e:ET}{t2:TypeId}{y:Operand}{m:List e.T}(hr:Rel Z s σs A L σ w)(hz:0<e.size)(h:Abj P s e t2 y=some m):∃ys,Bq (Aq (λb=>A b/\Z.R b) w e) m ys/\SrcW P w (ev σ y) e.size m.length ys:=by
 have hm:=hr.mem;have plain:elems s e (En s.sl y)=some m->∃ys,Bq (Aq (λb=>A b/\Z.R b) w e) m ys/\SrcW P w (ev σ y) e.size m.length ys:=by
  intro h;have hV:(En s.sl y).isV=true:=by
   cases hq:(En s.sl y).isV with
   |true=>rfl
   |false=>rcases BP hq with h'|h'|⟨_,_,_,h'⟩<;>rw[h']at h<;>cases h
  obtain⟨c0,h1,h2⟩:=fQ hm h (Uc hm.sl y hV);have hrd:Rd (λ_=>True) w e.size (ev σ y) c0:=by
   rcases h2 with h2|⟨j,E',u,cs',_,h2,hpart⟩
   ·exact h2.step (λ_ _=>trivial) (λ_ _=>rfl)
   ·exact hpart _ _ (hr.Wp h2)
  exact⟨c0,h1, .rd hrd (h1.len λx c h=>Aq.len h) hz⟩
 unfold Abj at h;split at h
 ·split at h
  ·rename_i m0 hy;unfold aT at h;split at h
   ·rename_i he;cases he;cases h;rw[Vq hm.sl hy];exact⟨FJ m0,J0.NO, .str⟩
   ·cases h
  ·cases h
 ·unfold ze at h;split at h
  ·rename_i i p e1 lo n' hy;split at h
   ·rename_i T v hi;split at h
    ·rename_i a x hg;split at h
     ·rename_i q a l;obtain⟨hb,h⟩:=Bb h;simp only[Ac9,Ada]at hb;obtain⟨⟨k1,k2,k3⟩,rfl⟩:=hb;split at h
      ·rename_i ha;subst ha;cases h;obtain⟨md,v1,h3,h4,g1,g2,⟨pt,cap,g3,g4,g5,g6⟩,_⟩:=Ct hm.sl hy rfl;have h6:ev σ y=v1:=by simpa using h4
       obtain⟨b,cells,h7,h8⟩:=hm.box hi;rw[h7]at h3;cases h3;obtain⟨c1,c2,c3,he,h9,h10,h11⟩:=WN hg h8;have dF:=h11.len λx c h=>Aq.len h;obtain⟨lo',rfl⟩:=Ai8 k1;obtain⟨n1,rfl⟩:=Ai8 k2;simp only[Ajf]at g3 g4 g6;have hq:lo'+n1<=l.length:=by rw[h10];omega
       have hsub:(TE l lo' n1).length=n1:=by simp[TE];omega
       have e5:lo'*a.size+n1*a.size<=l.length*a.size:=by rw[<-Aki];exact Aey _ hq
       refine⟨(c2.drop (lo'*a.size)).take (n1*a.size),Bq.take (λx c h=>Aq.len h) _ (Bq.drop (λx c h=>Aq.len h) _ h11),?_,λm hm'=>?_⟩
       ·rw[h6,g3,hsub];rfl
       ·rw[hsub]at hm';rw[h6,g3];have hml:m*a.size<=n1*a.size:=Aey _ hm';cases pt with
        |none=>
         have:m=0:=by have:=g5 rfl;omega
         subst this;simp[Builtin.firstCells]
        |some ad=>
         simp only[Builtin.firstCells];by_cases hc:0<cap
         ·obtain⟨bb,e1,e2⟩:=g6 hc;cases e1;cases e2;have hlen3:(((c2.drop (lo'*a.size)).take (n1*a.size)).take (m*a.size)).length=m*a.size:=by
           simp only[Ahf,Ak8,dF];omega
          have:=Lh (P:=P) (w:=w) (b:=b) (off:=Ay p+lo'*a.size) (((c2.drop (lo'*a.size)).take (n1*a.size)).take (m*a.size)) (λi hi=>by
           rw[hlen3]at hi;have hcl:Ay p+lo'*a.size+i<(MD.box b cells T).cells.length:=by
            simp only[MD.cells,he,Agv,h9,dF];omega
           rw[hr.cells h7 rfl _ hcl];simp only[MD.cells];rw[he,List.getElem?_append_right (by omega),h9,show Ay p+lo'*a.size+i-Ay p=lo'*a.size+i by omega,List.getElem?_append_left (by rw[dF];omega),
            List.getElem?_take,Acz hi,List.getElem?_take,Acz (by omega),List.getElem?_drop])
          rw[hlen3]at this;exact this
         ·have:m=0:=by omega
          subst this;simp[loadCells,loadCellsFrom]
      ·cases h
     ·cases h
    ·cases h
   ·cases h
  ·exact plain h
 ·cases h
theorem jZ(cs:List Value)(o:Nat):Bc cs o []=cs:=by simp[Bc]
theorem zH{t t2 E:TypeId}{vx vy:Value}{z ly nv rP off i:Nat}{pt:Option Addr}{ys:List Value}{md:MD}{F:List Fact}(ht:P.underlying t=some (.slice E))(hsz:Ik P E z)(hsrc:SrcW P w vy z ly ys)(hys:ys.length=ly*z)(h1:ys.all (·.oneCell')=true)
  (hr:St A w F (L.map MD.Ji)) (h:L[i]? =some md) (hne:md≠ .dead) (hx:vx= .slice pt nv rP) (hcap:nv<=rP) (hpt:pt=none->rP=0) (hb:0<rP->∃b,md.base=some b/\pt=some ⟨b,off,none⟩) (hle:off+nv*z<=md.cells.length) (hz:0<z):
  ∃w' md',(Builtin.copy_ #[t,t2] ty #[vx,vy]).run P w= .ok (goInt (Nat.min ly nv)) w'/\St A w' F ((L.map MD.Ji).set i md'.Ji)/\Zp off (ys.take (nv*z)) md md':=by
 subst hx;have hmin:Nat.min ly nv<=ly:=Nat.min_le_left _ _;have xG:=hsrc.first _ hmin
 have htake:ys.take (Nat.min ly nv*z)=ys.take (nv*z):=by
  rcases Aon ly nv with h'|h'
  ·rw[show Nat.min ly nv=ly from Amf h',<-hys,Ank,Amr (by rw[hys];exact Aey z h')]
  ·rw[show Nat.min ly nv=nv from Anr h']
 rw[htake]at xG;have hmul:Nat.min ly nv*z<=nv*z:=Aey z (Nat.min_le_right _ _);have hlen:(ys.take (nv*z)).length=Nat.min ly nv*z:=by
  rw[<-htake,Ahf,hys];have:=Aey z hmin;omega
 have hnone:(ys.take (nv*z))=[]->∃w' md',(Builtin.copy_ #[t,t2] ty #[.slice pt nv rP,vy]).run P w= .ok (goInt (Nat.min ly nv)) w'/\St A w' F ((L.map MD.Ji).set i md'.Ji)/\Zp off (ys.take (nv*z)) md md':=by
  intro he;refine⟨w,md,?_,?_,?_⟩
  ·rw[he]at xG;cases pt<;>simp[Builtin.copy_,Ago ht,hsrc.len,Bi hsz,xG,storeCells]
  ·rw[List.getElem?_eq_some_iff]at h;obtain⟨hlt,h⟩:=h;have:(L.map MD.Ji).set i md.Ji=L.map MD.Ji:=by
    rw[<-List.map_set,<-h,List.set_getElem_self]
   rw[this];exact hr
  ·rw[he];cases md with
   |dead=>exact absurd rfl hne
   |box b c T=>simp only[Zp,jZ]
   |own z' E' v c=>simp only[Zp,jZ]
 by_cases he:(ys.take (nv*z))=[]
 ·exact hnone he
 ·have hpos:0<(ys.take (nv*z)).length:=List.length_pos_iff.2 he;have hm0:0<Nat.min ly nv:=by
   rcases Nat.eq_zero_or_pos (Nat.min ly nv)with h'|h'
   ·rw[hlen,h']at hpos;simp at hpos
   ·exact h'
  have hnv:0<nv:=Ajk hm0 (Nat.min_le_right _ _);obtain⟨b,e1,e2⟩:=hb (by omega);subst e2;obtain⟨w',md',g1,g2,g3⟩:=H2 (P:=P) (off:=off) hr h e1 (ns:=ys.take (nv*z)) (List.all_eq_true.2 λv hv=>List.all_eq_true.1 h1 v (List.mem_of_mem_take hv)) (by rw[hlen];omega) hpos;refine⟨w',md',?_,g2,g3⟩;simp[Builtin.copy_,Ago ht,hsrc.len,Bi hsz,xG,g1]
theorem B0(nv k:Nat):OU (nv:Int) k=((Nat.min k nv:Nat):Int):=by
 unfold OU;rcases Aof k nv with h|h
 ·rw[Acz (by omega),show Nat.min k nv=k from Amf (by omega)]
 ·rw[Abe (by omega),show Nat.min k nv=nv from Anr h]
theorem mT{B:Reg}{e:ET}{l m:List e.T}{cs ys:List Value}{lo nv:Nat}(hl:Bq (Aq B w e) l cs)(hm:Bq (Aq B w e) m ys):Bq (Aq B w e) (Ud l lo nv m) (Bc cs (lo*e.size) (ys.take (nv*e.size))):=by
 have h1:=Bq.take (λx c h=>Aq.len h) nv hm;have h2:=h1.len λx c h=>Aq.len h;have h3:=Bq.take (λx c h=>Aq.len h) lo hl;have h4:=Bq.drop (λx c h=>Aq.len h) (lo+(m.take nv).length) hl;unfold Ud Bc;simp only[Ajf];refine Bq.append h3 (Bq.append h1 ?_);rw[h2,<-Aki];exact h4
theorem vk{α:Type}(l m:List α):qO l m=Ud l ((0:Nat):Int) ((l.length:Nat):Int) m:=by
 unfold qO Ud;simp only[Ajf,Anx,All,Amp,Ahf];congr 1;rcases Aon m.length l.length with h|h
 ·rw[Anr h]
 ·rw[Amf h,Aom (Ag9 _),Aom h]
theorem xW{t t2 E E':TypeId}{x y:Operand}{e:ET}{l m:List e.T}{ys cs:List Value}{u:Value}{lo nv rP i:Nat}{pt:Option Addr}{ow:Option Nat}(hr:Rel Z s σs A L σ w)(hd:Jp n ⟨ow, .call ⟨.builtin .copy, #[x,y], #[t,t2]⟩,ty,pos,after,none⟩=true)
  (ht:P.underlying t=some (.slice E)) (hsz:Ik P E e.size) (hz:0<e.size) (hit:Ce s.it i= .arr E' e l) (hL:L[i]? =some (.own e.size E' u cs)) (hl:Bq (Aq (λb=>A b/\Z.R b) w e) l cs) (hm:Bq (Aq (λb=>A b/\Z.R b) w e) m ys) (hsrc:SrcW P w (ev σ y) e.size m.length ys)
  (hx:ev σ x= .slice pt nv rP) (hcap:nv<=rP) (hpt:pt=none->rP=0) (hb:0<rP->∃b,(MD.own e.size E' u cs).base=some b/\pt=some ⟨b,lo*e.size,none⟩) (hle:lo+nv<=l.length)
  (hk:k ((s.AE i (.arr E' e (Ud l lo nv m))).Gj ow (.i .i64 (OU (nv:Int) m.length)))=some r):CQ P n ops ⟨ow, .call ⟨.builtin .copy, #[x,y], #[t,t2]⟩,ty,pos,after,none⟩ Z s σs k r False A L σ w:=by
 have hcl:=hl.len λx c h=>Aq.len h;have hyl:=hm.len λx c h=>Aq.len h;have hF:=St.gH (f:=nJ Z.R L (.arr E' e (Ud l lo nv m)) (Bc cs (lo*e.size) (ys.take (nv*e.size)))) hr (mT hl hm);obtain⟨w',md',g1,g2,g3⟩:=zH (P:=P) (ty:=ty) (t2:=t2) (off:=lo*e.size) ht hsz hsrc hyl hm.wH hF hL (by intro h;cases h) rfl hcap hpt hb (by
  show lo*e.size+nv*e.size<=cs.length;rw[hcl,<-Aki];exact Aey _ hle) hz
 simp only[Zp]at g3;subst g3;have key:=XS.own (cs':=Bc cs (lo*e.size) (ys.take (nv*e.size))) hL;have hr2:=Rel.change (a:= .arr E' e (Ud l lo nv m)) g2.kM hL key ⟨rfl,rfl,g2.fact 0 rfl⟩;refine WL.M4 (v:=goInt (Nat.min m.length nv)) rfl hd ?_ (WL.nil ⟨_,A,_,hk,hr2.Gj rfl ?_,λh=>h.elim⟩)
 ·simp[execOp,resolve,invoke,builtin,hx,g1]
 ·rw[B0];rfl
theorem U1{t t2:TypeId}{x y:Operand}{ow:Option Nat}(hr:Rel Z s σs A L σ w)(hd:Jp n ⟨ow, .call ⟨.builtin .copy, #[x,y], #[t,t2]⟩,ty,pos,after,none⟩=true)
  (h:vO P s ow x y t t2 k=some r):CQ P n ops ⟨ow, .call ⟨.builtin .copy, #[x,y], #[t,t2]⟩,ty,pos,after,none⟩ Z s σs k r False A L σ w:=by
 have hmm:=hr.mem;unfold vO at h;split at h
 ·cases h
 ·rename_i E hE;have ht:=bJ hE;split at h
  ·cases h
  ·rename_i inf Vx;split at h
   ·rename_i i hx;split at h
    ·rename_i E' e l hit;obtain⟨hb,h⟩:=Bb h;simp only[Ac9]at hb;have hz:0<e.size:=by have:=Aky hb.2;omega
     split at h
     ·rename_i m hsrc;obtain⟨ys,h1,h2⟩:=uO hr hz hsrc;obtain⟨u,cs,h3,h4⟩:=hmm.arr hit;obtain⟨z',E2,c',h5⟩:=JO (Ct hmm.sl hx rfl);rw[h3]at h5;cases h5;obtain⟨q,len,cap,g1,g2,g3,g4,g5⟩:=hr.Aim h3;have hl:len=l.length:=Aji hz (g2.symm.trans (h4.len λx c h=>Aq.len h));rw[vk]at h;exact xW (lo:=0) (nv:=l.length) (ys:=ys) hr hd ht (Ep Vx hb.1) hz hit h3 h4 h1 h2 (by rw[g1,hl]) (by omega) g4 (λhc=>by obtain⟨b,e1,e2⟩:=g5 hc;exact⟨b,e2,by rw[e1];simp⟩) (by omega) h
     ·cases h
    ·cases h
   ·rename_i i p e1 lo n' hx;split at h
    ·rename_i E' e l hit;obtain⟨hb,h⟩:=Bb h;simp only[Ac9,Ada]at hb;obtain⟨⟨hb1,hb2⟩,rfl⟩:=hb;have hz:0<e1.size:=by have:=Aky hb2;omega
     split at h
     ·rename_i m hsrc;obtain⟨ys,h1,h2⟩:=uO hr hz hsrc;obtain⟨u,cs,h3,h4⟩:=hmm.arr hit;obtain⟨md,v1,h5,h6,k1,k2,⟨pt,cap,k3,k4,k5,k6⟩,k7,_⟩:=Ct hmm.sl hx rfl;rw[h3]at h5;cases h5;have h7:ev σ x=v1:=by simpa using h6
      obtain⟨lo',rfl⟩:=Ai8 k1;obtain⟨n1,rfl⟩:=Ai8 k2;simp only[Ajf]at k3 k4 k6 k7;obtain⟨s',E2,q,len,cap0,c0,e1',rfl,e3,_⟩:=k7 trivial;cases e1';obtain⟨q',len',cap',g1,g2,_⟩:=hr.Aim h3;cases g1;have hl:len=l.length:=Aji hz (g2.symm.trans (h4.len λx c h=>Aq.len h));exact xW (lo:=lo') (nv:=n1) (ys:=ys) hr hd ht (Ep Vx hb1) hz hit h3 h4 h1 h2 (h7.trans k3) k4 k5 (λhc=>by obtain⟨b,e4,e5⟩:=k6 hc;exact⟨b,e4,by rw[e5];simp[Ay]⟩) (by omega) h
     ·cases h
    ·cases h
   ·rename_i i p e1 lo n' hx;split at h
    ·rename_i T v hit;split at h
     ·rename_i a0 x0 hg;split at h
      ·rename_i q e l;obtain⟨hb,h⟩:=Bb h;simp only[Ac9,Ada]at hb;obtain⟨⟨⟨hb1,hb2⟩,rfl⟩,k1,k2,k3⟩:=hb;have hz:0<e1.size:=by have:=Aky hb2;omega
       split at h
       ·rename_i m hsrc;obtain⟨ys,h1,h2⟩:=uO hr hz hsrc;obtain⟨md,v1,h5,h6,_,_,⟨pt,cap,g3,g4,g5,g6⟩,_⟩:=Ct hmm.sl hx rfl;have h7:ev σ x=v1:=by simpa using h6
        obtain⟨b,cells,h8,h9⟩:=hmm.box hit;rw[h8]at h5;cases h5;obtain⟨c1,c2,c3,he,h10,h11,h12⟩:=WN hg h9;have dF:=h12.len λx c h=>Aq.len h;have hyl:=h1.len λx c h=>Aq.len h;obtain⟨lo',rfl⟩:=Ai8 k1;obtain⟨n1,rfl⟩:=Ai8 k2;simp only[Ajf]at g3 g4 g6;have hq:lo'+n1<=l.length:=by rw[h11];omega
        have e5:lo'*e1.size+n1*e1.size<=l.length*e1.size:=by rw[<-Aki];exact Aey _ hq
        have hk1:=Bq.take (λx c h=>Aq.len h) n1 h1;have hk2:=hk1.len λx c h=>Aq.len h;have hk3:(ys.take (n1*e1.size)).length<=n1*e1.size:=by rw[Ahf];omega
        have hcp:=mT (lo:=lo') (nv:=n1) h12 h1;have Alk:(Bc c2 (lo'*e1.size) (ys.take (n1*e1.size))).length=c2.length:=Ez (by rw[dF];omega);have Amy:Bd (λb=>A b/\Z.R b) w L (.val (.vec q e1) (Ud l lo' n1 m)) (Bc c2 (lo'*e1.size) (ys.take (n1*e1.size))):=by
         refine⟨?_,hcp⟩;have:=hcp.len λx c h=>Aq.len h;rw[Alk,dF]at this;rw[<-h11];exact(Aji hz this).symm
        obtain⟨v',hk,_,hv'⟩:=fF Amy h h9;have hcells:Bc cells (Ay p) (Bc c2 (lo'*e1.size) (ys.take (n1*e1.size)))=Bc cells (Ay p+lo'*e1.size) (ys.take (n1*e1.size)):=by
         rw[he,SG h10 _ (by rw[dF];omega),<-h10,UK Alk]
        rw[hcells]at hv';have hF:=St.gH (f:=nJ Z.R L (.box T v') (Bc cells (Ay p+lo'*e1.size) (ys.take (n1*e1.size)))) hr hv';obtain⟨w',md',g1,g2,g3'⟩:=zH (P:=P) (ty:=ty) (t2:=t2) (off:=Ay p+lo'*e1.size) ht (Ep Vx hb1) h2 hyl h1.wH hF h8 (by intro h;cases h) rfl g4 g5 (λhc=>by obtain⟨b,e4,e5⟩:=g6 hc;exact⟨b,e4,e5⟩) (by
         show Ay p+lo'*e1.size+n1*e1.size<=cells.length;rw[he];simp only[Agv,h10,dF];omega) hz
        simp only[Zp]at g3';subst g3';have key:=XS.box (cs':=Bc cells (Ay p+lo'*e1.size) (ys.take (n1*e1.size))) h8;have hr2:=Rel.change (a:= .box T v') g2.kM h8 key ⟨rfl,Bd.step (λ_ h=>h) (λ_ _=>rfl) key (g2.fact 0 rfl)⟩;refine WL.M4 (v:=goInt (Nat.min m.length n1)) rfl hd ?_ (WL.nil ⟨_,A,_,hk,hr2.Gj rfl ?_,λh=>h.elim⟩)
        ·rw[<-g3,<-h7]at g1;simp[execOp,resolve,invoke,builtin,g1]
        ·rw[B0];rfl
       ·cases h
      ·cases h
     ·cases h
    ·cases h
   ·cases h
theorem mY{g:Nat}{cs:List Value}:∀{l:List (Nat×List Value)},Adu l g=some cs-> (g,cs)∈l
 |[],h=>by cases h
 |(q,c)::r,h=>by
  simp only[Adu]at h;cases hb:Nat.beq q g with
  |true=>
   rw[hb]at h;have:=Ck hb;subst this;cases h;exact .head _
  |false=>rw[hb]at h;exact .tail _ (mY h)
theorem L3{g:Nat}{t:TypeId}{v:PV}(hT:fN P T Z)(hr:Rel Z s σs A L σ w)(h:T.glv P g t=some v):∃cs T1 fr,w.heap[g]? =some (.cells cs.toArray T1 fr)/\ (A g/\Z.R g)/\Bd (λb=>A b/\Z.R b) w L v cs:=by
 unfold Tab.glv at h;split at h
 ·rename_i cs hg;split at h
  ·rename_i v' hp;cases h;obtain⟨h1,T1,fr,h2⟩:=hr.zo (p:=(g,cs)) (by rw[hT.2];exact mY hg);obtain⟨c,e1,h3⟩:=TD (B:=λb=>A b/\Z.R b) (w:=w) (L:=L) Q hp;rw[Ajn]at e1;subst e1;exact⟨_,T1,fr,h2,h1,h3⟩
  ·cases h
 ·cases h
theorem wI{o:Op}{g dn:Nat}{G:Prop}(hT:fN P T Z)(hr:Rel Z s σs A L σ w)(hd:Jp n ⟨some dn,o,ty,pos,after,none⟩=true)
  (ho:(∃t,o= .load t (.global g))\/ (∃t ix,o= .indexAddr t (.global g) ix)\/ (∃t lo hi,o= .slice t (.global g) lo hi none)) (h:eN P T s dn g o k=some r):
  CQ P n ops ⟨some dn,o,ty,pos,after,none⟩ Z s σs k r G A L σ w:=by
 have hm:=hr.mem;rcases ho with⟨t,rfl⟩|⟨t,ix,rfl⟩|⟨t,lo,hi,rfl⟩
 ·simp only[eN]at h;split at h
  ·rename_i v hv;obtain⟨hb,hk⟩:=Bb h;obtain⟨cs,T1,fr,h1,h2,h3⟩:=L3 hT hr hv;obtain⟨val,h7,h8⟩:=qT (P:=P) (σ:=σ) (x:= .global g) (b:=g) (off:=0) (Rb hb) h3 (λj hj=>by rw[cell_of h1];simp) rfl;obtain⟨hv,hv'⟩:=Ka h7;exact Dl hr hd h8 hv hv' hk
  ·cases h
 ·simp only[eN]at h;split at h
  ·rename_i j m et e0 l0 hj ht hv;obtain⟨q,hix⟩:=IH hj (Uc hm.sl ix (QJ hj));split at h
   ·rename_i inf m' e l Vx;obtain⟨hb,h⟩:=Bb h;simp only[Ac9]at hb;obtain⟨y,hy,hk⟩:=bind_some h;obtain⟨hj0,hj1,hj2⟩:=Iy hy;obtain⟨cs,T1,fr,h1,h2,h3,h4⟩:=L3 hT hr hv;obtain⟨c1,c2,c3,he,h8,h9,_⟩:=Bq.get (λx c h=>Aq.len h) h4 hj2;have hmm:=Ck hb.1.1;subst hmm;have h10:c2.length=e.size:=h9.len;have hp:uV (λb=>A b/\Z.R b) w (.pointer (some ⟨g,0+j.toNat*e.size,none⟩)) c2:=by
     refine⟨g,0+j.toNat*e.size,_,T1,fr,rfl,h2,h1,λq hq=>?_⟩;rw[List.getElem?_toArray,he,Amp,List.getElem?_append_right (by omega),h8,show j.toNat*e.size+q-j.toNat*e.size=q by omega,List.getElem?_append_left hq]
    have hvr:Ei (λb=>A b/\Z.R b) w L (.rptr (e.pv y)) (.pointer (some ⟨g,0+j.toNat*e.size,none⟩)):=⟨_,c2,rfl,hp,RY.2 h9⟩;exact Dl hr hd (RR (x:= .global g) ht (Ep Vx hb.1.2) rfl hix (by omega) (by rw[<-show l.length=m' from h3];omega) w) rfl hvr hk
   ·cases h
  ·cases h
 ·simp only[eN]at h;split at h
  ·rename_i u m et hat;split at h
   ·rename_i e0 l0 hv;split at h
    ·rename_i inf m' e l Vx;obtain⟨hb,h⟩:=Bb h;simp only[Ac9]at hb;split at h
     ·rename_i a b ha hb';obtain⟨y,hy,hk⟩:=bind_some h;obtain⟨k1,k2,k3,k4,rfl⟩:=MQ hy;obtain⟨cs,T1,fr,h1,h2,h3,h4⟩:=L3 hT hr hv;have hmm:=Ck hb.1.1;subst hmm;have hlen:=h4.len λx c h=>Aq.len h;have hz:0<e.size:=by have:=Aky hb.2;omega
      have hm3:l.length=m':=h3;have hxo:=X.tZ (P:=P) (σ:=σ) (w:=w) (x:= .global g) (lo:=lo) (hi:=hi) (a:=a.toNat) (b:=b.toNat) (ad:=⟨g,0,none⟩) hat (Ep Vx hb.1.2) k3 (by omega) rfl
       (by rcases Kx hm.sl ha with h|⟨h,h'⟩;exact .inl (by rw[<-k1];exact h);exact .inr ⟨h,by omega⟩) (by rcases Kx hm.sl hb' with h|⟨h,h'⟩;exact .inl (by rw[<-k2];exact h);exact .inr ⟨h,by omega⟩)
      have e5:a.toNat*e.size<=b.toNat*e.size:=Aey _ k3;have e6:b.toNat*e.size<=l.length*e.size:=Aey _ k4;have e7:(b.toNat-a.toNat)*e.size=b.toNat*e.size-a.toNat*e.size:=Aoq _ _ _;refine Dl hr hd hxo rfl (bZ ⟨_,_,_,rfl,?_,by omega,(λh=>by cases h),λhc=>?_⟩ (Bq.drop (λx c h=>Aq.len h) _ (Bq.take (λx c h=>Aq.len h) _ h4))) hk
      ·rw[Ak8,Ahf,hlen,e7];omega
      ·rw[Abe (by omega),Mj];refine⟨g,0+a.toNat*e.size,_,T1,fr,rfl,h2,h1,?_,λi hi=>?_⟩
       ·simp only[Al7,hlen,hm3];have:(m'-a.toNat)*e.size=m'*e.size-a.toNat*e.size:=Aoq _ _ _;have:a.toNat*e.size<=m'*e.size:=Aey _ (by omega);omega
       ·rw[List.getElem?_toArray,Amp,List.getElem?_drop,List.getElem?_take,Acz (by omega)]
     ·cases h
    ·cases h
   ·cases h
  ·cases h
theorem Aik{o:Op}{dn:Nat}(hT:fN P T Z)(hI:YJ P T.gl inl)(hr:Rel Z s σs A L σ w)(hd:Jp n ⟨some dn,o,ty,pos,after,none⟩=true)(h:op2 P T inl s dn ty o k=some r):
  CQ P n ops ⟨some dn,o,ty,pos,after,none⟩ Z s σs k r (tD T s ⟨some dn,o,ty,pos,after,none⟩=true) A L σ w:=by
 have hm:=hr.mem;unfold op2 at h;split at h
 ·
  rename_i o t x y t';split at h
  ·rename_i a u b v hx hy;split at h
   ·rename_i c q hc hq;obtain⟨_,hok,h⟩:=bind_some h;have:=Zy hok;subst this;obtain⟨hv,val,hb,hvr⟩:=lS (P:=P) (w:=w) (L:=L) (B:=λb=>A b/\Z.R b) (t:=t) hq hc;exact Dl hr hd (X.bin (AF hm.sl hx) (AF hm.sl hy) hb) hv hvr h
   ·cases h
  ·rename_i u v hx hy;split at h
   ·obtain⟨q,hq,h⟩:=bind_some h;exact Dl (p:= .val .str q) hr hd (X.Aba (Vq hm.sl hx) (Vq hm.sl hy) hq) rfl rfl h
   ·cases h
  ·rename_i a h1 h2 hy;exact Abq hr hd rfl hy h
  ·cases h
 ·
  rename_i t x ix;split at h
  ·rename_i j e0 l0 hj hx;obtain⟨q,hix⟩:=IH hj (Uc hm.sl ix (QJ hj));split at h
   ·rename_i l ht;obtain⟨y,hy,h⟩:=bind_some h;exact Dl (p:= .i .u8 y) hr hd (X.wo ht (Vq hm.sl hx) hix hy) rfl rfl h
   ·rename_i m e l m' et ht;obtain⟨hb,h⟩:=Bb h;obtain⟨y,hy,h⟩:=bind_some h;obtain⟨hk,hkk⟩:=Bb h;have hok:=Rb hk;have hv:Ij (λb=>A b/\Z.R b) w L (.val (.vec m e) l) (ev σ x):=Ct hm.sl hx rfl;obtain⟨cs,h1,h2,h3⟩:=hv;have hsz:(e.pv y).size=e.size:=by
     obtain⟨_,_,h5⟩:=Iy hy;obtain⟨_,c2,_,_,_,h6,_⟩:=Bq.get (λx c h=>Aq.len h) h3 h5;rw[<- (RY (L:=L).2 h6).len,h6.len]
    have hmm:=Ck hb;subst hmm;obtain⟨d0,hd0,ha0⟩:=hok.agg;obtain⟨val,h4,h5⟩:=Adt (L:=L) ht (by rw[<-hsz];exact hok.size) ⟨d0,hd0,ha0⟩ (λhA=>by rw[<-hsz];exact hok.one hA) h2 h1 h3 hix hy;obtain⟨hv,hv'⟩:=Ka h5;exact Dl hr hd h4 hv hv' hkk
   ·cases h
  ·cases h
 ·split at h
  ·exact wI hT hr hd (.inr (.inr ⟨_,_,_,rfl⟩)) h
  ·exact zk hr hd h (λg=>g)
 ·split at h
  ·exact wI hT hr hd (.inr (.inl ⟨_,_,rfl⟩)) h
  ·exact H8 hr hd h
 ·split at h
  ·exact wI hT hr hd (.inl ⟨_,rfl⟩) h
  ·exact Afu hr hd h
 ·
  split at h
  ·rename_i v hz;exact yc hr hd hz h
  ·cases h
 ·obtain⟨hb,h⟩:=Bb h;exact Ahm hr hd hb h
 ·split at h
  ·rename_i v hv;obtain⟨hA,h⟩:=Bb h;obtain⟨h1,h2⟩:=rX (B:=λb=>A b/\Z.R b) (w:=w) (L:=L) hv hA;exact Dl hr hd (X.assign rfl) h1 h2 h
  ·cases h
 ·split at h
  ·rename_i v hv;obtain⟨hA,h⟩:=Bb h;obtain⟨h1,h2⟩:=rX (B:=λb=>A b/\Z.R b) (w:=w) (L:=L) hv hA;exact Dl hr hd (X.move rfl) h1 h2 h
  ·cases h
 ·exact uq hr hd h
 ·exact rI hr hd h (λg=>g)
 ·exact Ae4 hr hd h
 ·
  split at h
  ·rename_i e ha ht;split at h
   ·rename_i l he hx;exact J0 hr hd ha ht he hx h
   ·cases h
  ·rename_i e ha ht;obtain⟨hb,h1⟩:=Bb h;clear h;have:=Ck hb;subst this;split at h1
   ·rename_i i he hx;split at h1
    ·rename_i E e' l hi;split at h1
     ·rename_i y ys;exact Adi hr hd ht he hx hi h1
     ·cases h1
    ·cases h1
   ·cases h1
  ·cases h
 ·
  rename_i as ts;split at h
  ·rename_i x y t t2 has hts;have h1:=HH has;have h2:=HH hts;subst h1 h2;refine QV (qz hr hd h) ?_;rintro σ' w' ⟨s',A',L',g1,g2,g3⟩;exact⟨s',A',L',g1,g2,λg=>by simp[tD,brk]at g⟩
  ·cases h
 ·
  rename_i as ts;split at h
  ·rename_i x y t t2 has hts;have h1:=HH has;have h2:=HH hts;subst h1 h2;refine QV (U1 hr hd h) ?_;rintro σ' w' ⟨s',A',L',g1,g2,g3⟩;exact⟨s',A',L',g1,g2,λg=>by simp[tD,brk]at g⟩
  ·cases h
 ·
  rename_i as ts;split at h
  ·rename_i x t has hts;have h1:=HH has;have h2:=HH hts;subst h1 h2;split at h
   ·rename_i e ht hx;refine Dl (p:= .i .i64 (0:Int)) hr hd (val:=iv (0:Int)) (λ_ _ _ _ _=>?_) rfl rfl h;have hv:=GW (Ct hm.sl hx rfl);simp[execOp,resolve,invoke,builtin,hv,Builtin.cap_,Ago ht,goInt];rfl
   ·cases h
  ·cases h
 ·
  rename_i g as ts;split at h
  ·rename_i f caps hg;refine Aeo hT hI hr hg hd h (λgg=>?_);unfold tD at gg;split at gg
   ·rename_i heq;cases heq
   ·rename_i heq;cases heq
   ·rename_i f' as' ts' heq;cases heq;cases hg;split at gg
    ·rename_i c hc;simp only[Ac9,Ani,Akv]at gg;exact⟨c,hc,gg.1,gg.2.imp id isEmpty_nil⟩
    ·cases gg
   ·rename_i h1 h2 h3;simp only[brk]at gg;split at gg<;>simp_all
  ·cases h
 ·exact oz hr hd h (λg=>g)
 ·cases h
end Go.Rx
namespace Go.Rx
open Go Go.Lv
variable {P:Program} {w w':World} {L:List MD} {s:S} {σs:List Env} {σ:Env} {Z:Fix} {A:Reg}
theorem TO{α:Type 1}{c:Bool}{x:Option α}{y:α}(h:(Cl (c) (x)<|none)=some y):c=true/\x=some y:=by cases c<;>simp_all
theorem I4{o:Op}{b:BV}{x:b.X}(hr:Rel Z s σs A L σ w)(h:ug P s o=some b)(hx:b.E=some x):(b.v x).isV=true/\∃val,(∀w',XO P σ w' o val)/\Ei (λb=>A b/\Z.R b) w L (b.v x) val:=by
 have hm:=hr.mem;unfold ug at h;split at h
 ·
  rename_i o t x y t';split at h
  ·rename_i a u b v hx' hy;split at h
   ·rename_i c q hc hq;cases h;have:=Zy hx;subst this;obtain⟨hv,val,hb,hvr⟩:=lS (P:=P) (w:=w) (L:=L) (B:=λb=>A b/\Z.R b) (t:=t) hq hc;exact⟨hv,val,λw'=>X.bin (AF hm.sl hx') (AF hm.sl hy) hb,hvr⟩
   ·cases h
  ·rename_i u v hx' hy;split at h
   ·cases h;exact⟨rfl,_,λw'=>X.Aba (Vq hm.sl hx') (Vq hm.sl hy) hx,rfl⟩
   ·cases h
  ·cases h
 ·
  split at h
  ·rename_i j l hj hx' ht;cases h;obtain⟨q,hix⟩:=IH hj (Uc hm.sl _ (QJ hj));exact⟨rfl,_,λw'=>X.wo ht (Vq hm.sl hx') hix hx,rfl⟩
  ·cases h
 ·
  split at h
  ·rename_i ht;split at h
   ·rename_i l hx';split at h
    ·rename_i a b ha hb;cases h;exact⟨rfl,_,λw'=>X.Akb ht (Vq hm.sl hx') hx (Kx hm.sl ha) (Kx hm.sl hb),rfl⟩
    ·cases h
   ·cases h
  ·rename_i et ht;split at h
   ·rename_i e0 l0 hx';split at h
    ·rename_i e l;split at h
     ·rename_i inf Vx;obtain⟨hb,h⟩:=TO h;simp only[Ac9]at hb;split at h
      ·rename_i a b ha hb';cases h;obtain⟨h1,h2,h3,h4,h5'⟩:=MQ hx;obtain⟨c0,h5,h6⟩:=BJ (Ct hm.sl hx' rfl);have hlen:=h6.len λx c h=>Aq.len h;obtain⟨p',l',c',h7,h8⟩:=X.B5 (P:=P) (l:=a.toNat) (k:=b.toNat) (m:=l.length) ht (Ep Vx hb.1) (St.Abr hr h5) (j:=0) rfl hlen (xB hb.2) h3 h4;refine⟨rfl, .slice p' l' c',λw'=>h7 σ w' _ _ _ rfl (by rcases Kx hm.sl ha with h|⟨h,h'⟩;exact .inl (by rw[<-h1];exact h);exact .inr ⟨h,by omega⟩)
        (by rcases Kx hm.sl hb' with h|⟨h,h'⟩;exact .inl (by rw[<-h2];exact h);exact .inr ⟨h,by rw[h'];simp[Ac]⟩),?_⟩
       rw[h5'];exact bZ (h8.fact 0 rfl) (Bq.drop (λx c h=>Aq.len h) _ (Bq.take (λx c h=>Aq.len h) _ h6))
      ·cases h
     ·cases h
    ·cases h
   ·cases h
  ·cases h
 ·
  split at h
  ·cases h
  ·rename_i j hj;obtain⟨q,hix⟩:=IH hj (Uc hm.sl _ (QJ hj));split at h
   ·rename_i et ht;split at h
    ·cases h
    ·rename_i inf Vx;split at h
     ·rename_i e0 l0 hx';split at h
      ·rename_i e l;obtain⟨hb,h⟩:=TO h;cases h;simp only[Ac9]at hb;obtain⟨hj0,hj1,hj2⟩:=Iy hx;obtain⟨c0,h1,h2⟩:=BJ (Ct hm.sl hx' rfl);obtain⟨p,len,cap,h3,h4,h5,h6,h7⟩:=h1;have hlen:=h2.len λx c h=>Aq.len h;have hz:0<e.size:=by have:=Aky hb.2;omega
       have hl:len=l.length:=Aji hz (h4.symm.trans hlen);subst hl;obtain⟨b,off,arr,T,fr,rfl,hB,hbl,hcap,hc⟩:=h7 (by omega);obtain⟨c1,c2,c3,he,h8,h9,_⟩:=Bq.get (λx c h=>Aq.len h) h2 hj2;have h10:c2.length=e.size:=h9.len;have h11:(j.toNat+1)*e.size<=l.length*e.size:=Aey _ hj1;rw[An9]at h11;have hp:uV (λb=>A b/\Z.R b) w (.pointer (some ⟨b,off+j.toNat*e.size,none⟩)) c2:=by
        refine⟨b,off+j.toNat*e.size,arr,T,fr,rfl,hB,hbl,λq hq=>?_⟩;rw[Alo,hc _ (by omega),he,List.getElem?_append_right (by omega),h8,show j.toNat*e.size+q-j.toNat*e.size=q by omega,List.getElem?_append_left hq]
       have hvr:Ei (λb=>A b/\Z.R b) w L (.rptr (e.pv x)) (.pointer (some ⟨b,off+j.toNat*e.size,none⟩)):=⟨_,c2,rfl,hp,RY.2 h9⟩;exact⟨rfl,_,λw'=>Ty ht (Ep Vx hb.1) h3 hix (by omega) (by omega) w',hvr⟩
      ·cases h
     ·rename_i i hx';split at h
      ·rename_i E e l hi;obtain⟨hb,h⟩:=TO h;cases h;simp only[Ac9]at hb;obtain⟨hj0,hj1,hj2⟩:=Iy hx;obtain⟨v,cs,h1,h2⟩:=hm.arr hi;obtain⟨z',E',c',h3⟩:=JO (Ct hm.sl hx' rfl);rw[h1]at h3;cases h3;have hlen:=h2.len λx c h=>Aq.len h;have hz:0<e.size:=by have:=Aky hb.2;omega
       have hpos:0<cs.length:=by rw[hlen];exact Nat.mul_pos (by omega) hz
       obtain⟨b,len,cap,h4,h5⟩:=hr.base h1 hpos;have hl:len=l.length:=Aji hz (h5.symm.trans hlen);subst hl;refine⟨rfl,_,λw'=>Ty ht (Ep Vx hb.1) h4 hix (by omega) (by omega) w',?_⟩;rw[show(0:Nat)+j.toNat*e.size=Ay [.idx j e.size] by simp[Ay,bF]];refine JI h1 ?_;rw[h4];rfl
      ·cases h
     ·rename_i o i p e lo n' hx';obtain⟨hb,h⟩:=TO h;cases h;simp only[Ac9]at hb;have hj':0<=j/\j<n':=Anw (Zy hx);obtain⟨md,v1,h3,h4,k1,k2,⟨pt,cap,k3,k4,k5,k6⟩,_⟩:=Ct hm.sl hx' rfl;have h6:=List.cons.inj h4;obtain⟨b,e1,rfl⟩:=k6 (by omega);refine⟨rfl,_,λw'=>Ty ht (Ep Vx hb.1) (h6.1.trans k3) hix hj'.1 (by omega) w',?_⟩;rw[show Ay p+lo.toNat*e.size+j.toNat*e.size=Ay (p++[.idx (lo+j) e.size]) by
       rw[VT,Alo,<-Aki]
       show _=Ay p+(lo+j).toNat*e.size;rw[Int.toNat_add k1 hj'.1]]
      exact JI h3 e1
     ·cases h
   ·rename_i m et ht;split at h
    ·cases h
    ·rename_i inf Vx;split at h
     ·rename_i i p hx';split at h
      ·rename_i T v hi;split at h
       ·rename_i e0 l0 hg;split at h
        ·rename_i m' e l;obtain⟨hb,h⟩:=TO h;cases h;simp only[Ac9]at hb;obtain⟨hj0,hj1,hj2⟩:=Iy hx;obtain⟨md,b,h1,h2,h3⟩:=Zs (Ct hm.sl hx' rfl);obtain⟨b',cells,h4,h5⟩:=hm.box hi;rw[h4]at h1;cases h1;cases h2;obtain⟨c1,c2,c3,he,h6,h7,h8⟩:=WN hg h5;have hmm:=Ck hb.2;subst hmm;have hl:l.length=m':=h7;refine⟨rfl,_,λw'=>RR ht (Ep Vx hb.1.1) h3 hix (by omega) (by omega) w',?_⟩;rw[show Ay p+j.toNat*e.size=Ay (p++[.idx j e.size]) by simp[PC,Ay,bF]];exact JI h4 rfl
        ·cases h
       ·cases h
      ·cases h
     ·cases h
   ·cases h
 ·cases h
end Go.Rx
namespace Go.Rx
open Go Go.Lv
variable {P:Program} {B B':Reg} {w w':World} {L L':List MD} {s:S} {σs:List Env} {σ:Env} {Z:Fix} {A A':Reg} {n:Nat} {ops:Array Oper}
variable {R:Type} {k:S->Option R} {r:R} {d:Option Nat} {ty:TypeId} {pos:String} {after:Array Edge} {T:Tab} {inl:xK R}
theorem zi{o:Oper}(hT:fN P T Z)(hI:YJ P T.gl inl)(hr:Rel Z s σs A L σ w)(hd:Jp n o=true)(h:exU P T inl o s k=some r):
  CQ P n ops {o with guard:=none} Z s σs k r (tD T s o=true) A L σ w:=by
 obtain⟨d,op,ty,pos,after,g⟩:=o;have hd':Jp n ⟨d,op,ty,pos,after,none⟩=true:=hd;unfold exU at h;split at h
 ·rename_i v hv;obtain⟨h1,val,h2,h3⟩:=K4 (P:=P) (B:=λb=>A b/\Z.R b) (w:=w) (L:=L) (λ_=>True) hr.mem.sl hv;exact Dl hr hd' (h2 w trivial) h1 h3 h
 ·split at h
  ·rename_i v hv;obtain⟨h1,val,h2,h3⟩:=L6 (P:=P) hr hv;exact Dl hr hd' (h2 w (.refl hr)) h1 h3 h
  ·cases d with
   |some dn=>exact Aik hT hI hr hd' h
   |none=>
    simp only at h;split at h
    ·rename_i t a x;refine QV (Abl hr h) ?_;rintro σ' w' ⟨s',A',L',g1,g2,g3⟩;exact⟨s',A',L',g1,g2,λg=>by simp[tD,brk]at g⟩
    ·rename_i as ts;split at h
     ·rename_i x y t t2 has hts;have h1:=HH has;have h2:=HH hts;subst h1 h2;refine QV (U1 hr hd' h) ?_;rintro σ' w' ⟨s',A',L',g1,g2,g3⟩;exact⟨s',A',L',g1,g2,λg=>by simp[tD,brk]at g⟩
     ·cases h
    ·cases h
theorem WL.Ajz{rest:List Oper}{K:Env->World->Prop}{o:Oper}{j t:Nat}{want b:Bool}(hg:o.guard=some (j,want))(hj:(ops[j]?).bind (·.dst)=some t)(hb:σ t= .bool b)(hne:(b==want)=false)
  (hdn:Jp n o=true) (h:WL P n ops rest K (jw σ o.dst Go.undef) w):WL P n ops (o::rest) K σ w:=by
 intro ds a ha;refine wpList_step λK' hK'=>?_;have hw:Region.wanted o (yielded ops a.tmps)=false:=by
  simp only[Region.wanted,hg,PR ha hj hb];cases b<;>cases want<;>simp_all
 rw[Abe (by rw[hw];simp)];refine hK' _ _ ?_;cases hd:o.dst with
 |none=>rw[hd]at h;exact h _ _ (ha.oV _)
 |some d=>rw[hd]at h;unfold Jp at hdn;rw[hd]at hdn;exact h _ _ (ha.put hdn _)
theorem WL.Akc{rest:List Oper}{K:Env->World->Prop}{o:Oper}{j t:Nat}{want:Bool}(hg:o.guard=some (j,want))(hj:(ops[j]?).bind (·.dst)=some t)(hb:σ t=Go.undef)
  (hdn:Jp n o=true) (h:WL P n ops rest K (jw σ o.dst Go.undef) w):WL P n ops (o::rest) K σ w:=by
 intro ds a ha;refine wpList_step λK' hK'=>?_;have hy:yielded ops a.tmps j=none:=by
  unfold yielded;rw[hj];have h1:=ha.get t;rw[hb]at h1;cases h:a.tmps[t]? with
  |none=>simp[h]
  |some v=>
   rw[Array.getD_eq_getD_getElem?,h]at h1;simp at h1;subst h1;simp[h,undef]
 have hw:Region.wanted o (yielded ops a.tmps)=false:=by
  simp only[Region.wanted,hg,hy];cases want<;>rfl
 rw[Abe (by rw[hw];simp)];refine hK' _ _ ?_;cases hd:o.dst with
 |none=>rw[hd]at h;exact h _ _ (ha.oV _)
 |some d=>rw[hd]at h;unfold Jp at hdn;rw[hd]at hdn;exact h _ _ (ha.put hdn _)
theorem yO{o:Oper}{G:Prop}(hr:Rel Z s σs A L σ w)(h:k (s.Gj o.dst .off)=some r):WL P n ops [] (rM Z σs k r G A L s.it w) (jw σ o.dst Go.undef) w:=by
 refine WL.nil ⟨_,A,L,h,hr.Adh,λ_=>?_⟩;have:(s.Gj o.dst .off).it=s.it:=by cases o.dst<;>rfl
 rw[this];exact .refl
theorem VK{a b:Bool}:dC a b=(b==a):=by cases a<;>cases b<;>rfl
theorem I2{G G':Prop}{σ':Env}{it:List Item}(hp:rM Z σs k r G A L it w σ' w')(h:G'->G):rM Z σs k r G' A L it w σ' w':=by
 obtain⟨s',A',L',h1,h2,h3⟩:=hp;exact⟨s',A',L',h1,h2,λg=>h3 (h g)⟩
theorem mD{t dn:Nat}{want b:Bool}{v:PV}{val:Value}(ht:σ t= .bool b)(hne:Nat.beq dn t=false)(h1:b=want->Ei B w L v val)(h2:b≠want->val=Go.undef):Jg B w L (AE σ dn val) dn (.gd t want v):=by
 have htd:t≠dn:=by intro e;subst e;simp at hne
 exact⟨b,by rw[eT _ _ htd];exact ht,λe=>by rw[PU];exact h1 e,λe=>by rw[PU];exact h2 e⟩
theorem R5{o:Oper}{j t dn:Nat}{want b:Bool}{v:PV}{G:Prop}(hr:Rel Z s σs A L σ w)(hg:o.guard=some (j,want))(hj:(ops[j]?).bind (·.dst)=some t)(ht:σ t= .bool b)(hdn:Jp n o=true)(hd:o.dst=some dn)
  (hne:Nat.beq dn t=false) (hv:b=want->v.isV=true/\∃val,XO P σ w o.op val/\Ei (λb=>A b/\Z.R b) w L v val) (hk:k (s.set dn (.gd t want v))=some r):CQ P n ops o Z s σs k r G A L σ w:=by
 by_cases hbw:b=want
 ·obtain⟨h1,val,h2,h3⟩:=hv hbw;refine WL.on hg hj ht (by simpa using hbw) (WL.M4 rfl (by simpa [Jp]using hdn) (h2 _ _ _ _ _) (WL.nil ⟨_,A,L,hk,?_,λ_=> .refl⟩));simp only[hd];exact hr.set (mD ht hne (λ_=>h3) (λe=>absurd hbw e))
 ·refine WL.Ajz hg hj ht (by simpa using hbw) hdn (WL.nil ⟨_,A,L,hk,?_,λ_=> .refl⟩);rw[hd];exact hr.set (mD ht hne (λe=>absurd e hbw) (λ_=>rfl))
theorem MR{t:Nat}{b:Bool}(hm:Fp B w L σ s.sl)(h:CO s.sl t= .val .bool b):σ t= .bool b:=by
 have h1:=Ub (t:=t) hm;rw[h]at h1;exact HG h1
theorem fT{t:Nat}{b:Bool}(hm:Fp B w L σ s.sl)(h:CO s.sl t= .cst (.bool b)):σ t= .bool b:=by
 have h1:=Ub (t:=t) hm;rw[h]at h1;have: [σ t]=[Value.bool b]:=h1.1;simpa using this
theorem Aib{o:Oper}{j t:Nat}{want:Bool}(hT:fN P T Z)(hI:YJ P T.gl inl)(hr:Rel Z s σs A L σ w)(hd:Jp n o=true)(hg:o.guard=some (j,want))(hj:(ops[j]?).bind (·.dst)=some t)
  (h:exG P T inl o t want s k=some r):CQ P n ops o Z s σs k r (tD T s o=true/\∃b,CO s.sl t= .cst (.bool b)) A L σ w:=by
 have hm:=hr.mem;have lit:∀(G:Prop) (s1:S) (b:Bool),(G->tD T s1 o=true)->Rel Z s1 σs A L σ w->s1.it=s.it->σ t= .bool b-> (Cl (dC want b) (exU P T inl o s1 k)<|k (s1.Gj o.dst .off))=some r->CQ P n ops o Z s σs k r G A L σ w:=by
  intro G s1 b hG hr1 hit ht h;cases hb:dC want b with
  |true=>
   rw[hb]at h;refine WL.on hg hj ht (by rw[<-VK];exact hb) (QV (zi hT hI hr1 hd h) λσ' w' hp=>?_);rw[<-hit];exact I2 hp hG
  |false=>
   rw[hb]at h;refine WL.Ajz hg hj ht (by rw[<-VK];exact hb) hd ?_;rw[<-hit];exact yO hr1 h
 unfold exG at h;simp only at h;split at h
 ·rename_i b hb;exact lit _ s b (λg=>g.1) hr rfl (fT hm.sl hb) h
 ·rename_i hb;have h1:=Ub (t:=t) hm.sl;rw[hb]at h1;exact WL.Akc hg hj h1 hd (yO hr h)
 ·rename_i b hb;have ht:=MR hm.sl hb;have nog:∀{X:Prop},(∃b,CO s.sl t= .cst (.bool b))->X:=λ⟨_,g⟩=>by rw[hb]at g;cases g
  split at h
  ·rename_i dn v hdn hv;cases hne:Nat.beq dn t with
   |true=>rw[hne]at h;cases h
   |false=>
    rw[hne]at h;refine R5 hr hg hj ht hd hdn hne (λhbw=>?_) h;subst hbw;obtain⟨h1,val,h2,h3⟩:=K4 (P:=P) (λ_=>True) (hr.res ht).mem.sl hv;exact⟨h1,val,h2 w trivial,h3⟩
  ·rename_i dn v hdn hv0 hv;cases hne:Nat.beq dn t with
   |true=>rw[hne]at h;cases h
   |false=>
    rw[hne]at h;refine R5 hr hg hj ht hd hdn hne (λhbw=>?_) h;subst hbw;obtain⟨h1,val,h2,h3⟩:=L6 (P:=P) (hr.res ht) hv;exact⟨h1,val,h2 w (.refl (hr.res ht)),h3⟩
  ·cases b with
   |true=>exact lit _ (s.res t true) true (λg=>nog g.2) (hr.res ht) rfl ht (by simpa using h)
   |false=>exact lit _ (s.res t false) false (λg=>nog g.2) (hr.res ht) rfl ht (by simpa using h)
 ·cases h
theorem T9{o:Oper}(hT:fN P T Z)(hI:YJ P T.gl inl)(hr:Rel Z s σs A L σ w)(h:nW P T inl n ops o s k=some r):CQ P n ops o Z s σs k r (tD T s o=true/\M5 ops s o=true) A L σ w:=by
 have hm:=hr.mem;unfold nW at h;cases hd:Jp n o with
 |false=>rw[hd]at h;cases h
 |true=>
  rw[hd]at h;simp only[Aob,Aow]at h;try dsimp only[Cl]at h
  split at h
  ·rename_i hg;have:({o with guard:=none}:Oper)=o:=by cases o;simp only at hg;subst hg;rfl
   rw[<-this];refine QV (zi hT hI hr hd h) λσ' w' hp=>I2 hp ?_;rintro⟨g,_⟩;rw[this]at g;exact g
  ·rename_i j want hg;split at h
   ·cases h
   ·rename_i t hj;have fin:∀s1:S,(M5 ops s o=true->s1=s)->Rel Z s1 σs A L σ w->s1.it=s.it->exG P T inl o t want s1 k=some r->CQ P n ops o Z s σs k r (tD T s o=true/\M5 ops s o=true) A L σ w:=by
     intro s1 hs hr1 hit h;refine QV (Aib hT hI hr1 hd hg hj h) λσ' w' hp=>?_;rw[<-hit];refine I2 hp (λg=>?_);have:=hs g.2;subst this;refine⟨g.1,?_⟩;have h2:=g.2;unfold M5 at h2;simp only[hg,hj]at h2;split at h2
     ·exact⟨_,by assumption⟩
     ·cases h2
    split at h
    ·rename_i t2 w2 v hv;have nog:∀{X:Prop},M5 ops s o=true->X:=λg=>by
      unfold M5 at g;simp only[hg,hj,hv]at g;cases g
     split at h
     ·rename_i b hb;have ht:=MR hm.sl hb;cases b with
      |true=>exact fin _ nog (hr.res ht) rfl (by simpa using h)
      |false=>exact fin _ nog (hr.res ht) rfl (by simpa using h)
     ·cases h
    ·exact fin s (λ_=>rfl) hr rfl h
theorem yP(hT:fN P T Z)(hI:YJ P T.gl inl):∀{l:List Oper} {s:S} {A:Reg} {L:List MD} {σ:Env} {w:World},Rel Z s σs A L σ w->sK P T inl n ops l s k=some r->
  WL P n ops l (λσ' w'=>∃s' A' L',k s'=some r/\Rel Z s' σs A' L' σ' w') σ w
 |[],s,A,L,σ,w,hr,h=>WL.nil ⟨s,A,L,h,hr⟩
 |o::l,s,A,L,σ,w,hr,h=>by
  have h1:=T9 (ops:=ops) hT hI hr h;refine WL.cut _ [o] h1 ?_;rintro σ' w' ⟨s',A',L',g1,g2,_⟩;exact yP hT hI g2 g1
end Go.Rx
namespace Go.Rx
open Go Go.Lv
variable {P:Program} {B B':Reg} {w w':World} {L L':List MD} {s:S} {σs:List Env} {σ:Env} {Z:Fix} {A A':Reg} {n:Nat} {ops:Array Oper}
variable {R:Type} {k:S->Option R} {r:R} {d:Option Nat} {ty:TypeId} {pos:String} {after:Array Edge} {T:Tab} {inl:xK R} {mem:Bool} {listed:Array Bool}
def iZ(Z:Fix)(σs:List Env)(A:Reg)(L:List MD)(it:List Item)(w w':World):Prop:=∃s2 σ2 A' L',Rel Z s2 σs A' L' σ2 w'/\Grow A L it w A' L' s2.it w'
theorem iZ.refl(hr:Rel Z s σs A L σ w):iZ Z σs A L s.it w w:=⟨s,σ,A,L,hr, .refl⟩
theorem iZ.ext(hr:Rel Z s σs A L σ w)(h:iZ Z σs A L s.it w w'):Ext Z s σs A L σ w w':=by
 obtain⟨s2,σ2,A',L',h1,h2⟩:=h;exact h2.ext hr h1
theorem gW{z:Array Bool}:∀{is:List Nat} {i d:Nat} {v:PV},BU P T n mem ops z listed s is=some (i,d,v)->∃o,ops[i]? =some o/\CA ops (tw z) listed i=true/\wT P T n mem ops o s=some (d,v)
 |[],_,_,_,h=>by simp[BU]at h
 |j::is,i,d,v,h=>by
  simp only[BU]at h;split at h
  ·cases h
  ·rename_i o ho;split at h
   ·rename_i d' v' hp;cases h;cases ht:CA ops (tw z) listed j with
    |true=>rw[ht]at hp;exact⟨o,ho,by first|exact ht|rfl,hp⟩
    |false=>rw[ht]at hp;cases hp
   ·exact gW h
def GS(Z:Fix)(σs:List Env)(w':World):Prop:=∃s2 σ2 A2 L2,Rel Z s2 σs A2 L2 σ2 w'
theorem Ext.gs(h:Ext Z s σs A L σ w w'):GS Z σs w':=by
 obtain⟨⟨A',L',it',_,hr⟩,_⟩:=h;exact⟨_,_,_,_,hr⟩
theorem jm{g:Nat}{t:TypeId}{v:PV}(hT:fN P T Z)(h:T.glv P g t=some v):∃cs,(∀w',GS Z σs w'->∃T1 fr,w'.heap[g]? =some (.cells cs.toArray T1 fr))/\∀(B:Reg) (w:World) (L:List MD),Bd B w L v cs:=by
 unfold Tab.glv at h;split at h
 ·rename_i cs hg;split at h
  ·rename_i v' hp;cases h;refine⟨cs,λw' hw=>?_,λB w L=>?_⟩
   ·obtain⟨s2,σ2,A2,L2,hr⟩:=hw;obtain⟨_,T1,fr,h2⟩:=hr.zo (p:=(g,cs)) (by rw[hT.2];exact mY hg);exact⟨T1,fr,h2⟩
   ·obtain⟨c,e1,h3⟩:=TD (B:=B) (w:=w) (L:=L) Q hp;rw[Ajn]at e1;subst e1;exact h3
  ·cases h
 ·cases h
theorem Ad4{o:Op}{v:PV}(hT:fN P T Z)(h:Ai7 P T o=some v):v.isV=true/\∃val,(∀w',GS Z σs w'->XO P σ w' o val)/\Ei (λb=>A b/\Z.R b) w L v val:=by
 unfold Ai7 at h;split at h
 ·rename_i t g;split at h
  ·rename_i u hv;obtain⟨hb,hk⟩:=Bb h;cases hk;obtain⟨cs,h1,h3⟩:=jm (σs:=σs) hT hv;obtain⟨val,h7,h8⟩:=YQ (P:=P) (σ:=σ) (x:= .global g) (b:=g) (off:=0) (Rb hb) (h3 (λb=>A b/\Z.R b) w L) rfl;obtain⟨hv1,hv2⟩:=Ka h7;refine⟨hv1,val,λw' hw=>h8 w' λj hj=>?_,hv2⟩;obtain⟨T1,fr,h4⟩:=h1 w' hw;rw[cell_of h4];simp
  ·cases h
 ·cases h
theorem oA{o:Op}{v:PV}{S:World->Prop}(hT:fN P T Z)(hr:Rel Z s σs A L σ w)(h:jY P T mem s o=some v)(hS:mem=true->∀w',S w'->Ext Z s σs A L σ w w')(hG:∀w',S w'->GS Z σs w'):v.isV=true/\∃val,(∀w',S w'->XO P σ w' o val)/\Ei (λb=>A b/\Z.R b) w L v val:=by
 unfold jY at h;split at h
 ·rename_i u hu;cases h;exact K4 (P:=P) S hr.mem.sl hu
 ·split at h
  ·rename_i u hu;cases h;cases mem with
   |true=>
    obtain⟨h1,val,h2,h3⟩:=L6 (P:=P) hr hu;exact⟨h1,val,λw' hw=>h2 w' (hS rfl w' hw),h3⟩
   |false=>cases hu
  ·obtain⟨h1,val,h2,h3⟩:=Ad4 (σs:=σs) (σ:=σ) (A:=A) (w:=w) (L:=L) hT h;exact⟨h1,val,λw' hw=>h2 w' (hG w' hw),h3⟩
theorem Afg{t:Nat}{b:Bool}{w':World}(h:Ext Z s σs A L σ w w')(ht:σ t= .bool b):Ext Z (s.res t b) σs A L σ w w':=by
 obtain⟨⟨A',L',it',h1,h2⟩,h3⟩:=h;exact⟨⟨A',L',it',h1,Rel.res (s:=⟨s.sl,s.it++it',s.st⟩) h2 ht⟩,h3⟩
theorem U5{S:World->Prop}{z:Array Bool}{fuel i dn:Nat}{o:Oper}{v:PV}{K:Env->World->Prop}(hT:fN P T Z)(hr:Rel Z s σs A L σ w)(hi:ops[i]? =some o)(hB:CA ops (tw z) listed i=true)(hp:wT P T n mem ops o s=some (dn,v))(hSw:S w)
  (hS:mem=true->∀w',S w'->Ext Z s σs A L σ w w') (hG:∀w',S w'->GS Z σs w') (h:∀σ',Rel Z (s.set dn v) σs A L σ' w->WD P n ops S (tw z) fuel (listed.setIfInBounds i true) K σ' w):WD P n ops S (tw z) (fuel+1) listed K σ w:=by
 obtain⟨d,op,ty,pos,after,g⟩:=o;have hm:=hr.mem;unfold wT at hp;simp only at hp;split at hp
 ·cases hp
 ·rename_i d';cases hn:Nat.blt d' n with
  |false=>rw[hn]at hp;cases hp
  |true=>
   rw[hn]at hp;simp only[Aob,Aow]at hp;try dsimp only[Cl]at hp
   split at hp
   ·
    cases hv:jY P T mem s op with
    |none=>rw[hv]at hp;cases hp
    |some u=>
     rw[hv]at hp;cases hp;obtain⟨h1,val,h2,h3⟩:=oA hT hr hv hS hG;exact WD.x i hi hB hn hSw h2 (h _ (hr.set (.put h1 h3)))
   ·rename_i j want;split at hp
    ·cases hp
    ·rename_i t hj;split at hp
     ·rename_i b hb;have ht:=fT hm.sl hb;cases hw:dC want b with
      |true=>
       rw[hw]at hp;dsimp only[Cl,cond]at hp;cases hv:jY P T mem s op with
       |none=>rw[hv]at hp;cases hp
       |some u=>
        rw[hv]at hp;cases hp;obtain⟨h1,val,h2,h3⟩:=oA hT hr hv hS hG;have hbw:(b==want)=true:=by rw[<-VK];exact hw
        refine WD.gx (v:=val) i hi hB hn hj ht hSw (λ_=>h2) (h _ ?_);rw[nO hbw];exact hr.set (.put h1 h3)
      |false=>
       rw[hw]at hp;cases hp;have hbw:(b==want)=false:=by rw[<-VK];exact hw
       refine WD.gx (v:=Go.undef) i hi hB hn hj ht hSw (λhg=>by rw[hbw]at hg;cases hg) (h _ ?_);rw[J2 hbw];exact hr.set (show AE σ dn Go.undef dn=Go.undef from PU _ _ _)
     ·rename_i b hb;have ht:=MR hm.sl hb;cases hne:Nat.beq d' t with
      |true=>rw[hne]at hp;cases hp
      |false=>
       rw[hne]at hp;dsimp only[Cl,cond]at hp;cases hv:jY P T mem (s.res t want) op with
       |none=>rw[hv]at hp;cases hp
       |some u=>
        rw[hv]at hp;cases hp;by_cases hbw:b=want
        ·subst hbw;obtain⟨h1,val,h2,h3⟩:=oA hT (hr.res ht) hv (λhm w' hw=>Afg (hS hm w' hw) ht) hG;refine WD.gx (v:=val) i hi hB hn hj ht hSw (λ_=>h2) (h _ ?_);rw[nO (by simp)];exact hr.set (mD ht hne (λ_=>h3) (λe=>absurd rfl e))
        ·refine WD.gx (v:=Go.undef) i hi hB hn hj ht hSw (λhg=>absurd (by simpa using hg) hbw) (h _ ?_);rw[J2 (by simpa using hbw)];exact hr.set (mD ht hne (λe=>absurd e hbw) (λ_=>rfl))
     ·cases hp
theorem XW{z:Array Bool}:∀{is:List Nat} {i d:Nat} {v:BG},IU P n ops z listed s is=some (i,d,v)->∃o,ops[i]? =some o/\CA ops (tw z) listed i=true/\sT P n ops o s=some (d,v)
 |[],_,_,_,h=>by simp[IU]at h
 |j::is,i,d,v,h=>by
  simp only[IU]at h;split at h
  ·cases h
  ·rename_i o ho;split at h
   ·rename_i d' v' hp;cases h;cases ht:CA ops (tw z) listed j with
    |true=>rw[ht]at hp;exact⟨o,ho,by first|exact ht|rfl,hp⟩
    |false=>rw[ht]at hp;cases hp
   ·exact XW h
theorem Acs{S:World->Prop}{z:Array Bool}{fuel i dn:Nat}{o:Oper}{b:BV}{x:b.X}{K:Env->World->Prop}(hr:Rel Z s σs A L σ w)(hi:ops[i]? =some o)(hB:CA ops (tw z) listed i=true)(hp:sT P n ops o s=some (dn, .on b))(hx:b.E=some x)(hSw:S w)
  (h:∀σ',Rel Z (s.set dn (b.v x)) σs A L σ' w->WD P n ops S (tw z) fuel (listed.setIfInBounds i true) K σ' w):WD P n ops S (tw z) (fuel+1) listed K σ w:=by
 obtain⟨d,op,ty,pos,after,g⟩:=o;have hm:=hr.mem;unfold sT at hp;simp only at hp;split at hp
 ·cases hp
 ·rename_i d';cases hn:Nat.blt d' n with
  |false=>rw[hn]at hp;cases hp
  |true=>
   rw[hn]at hp;simp only[Aob,Aow]at hp;try dsimp only[Cl]at hp
   split at hp
   ·cases hv:ug P s op with
    |none=>rw[hv]at hp;cases hp
    |some u=>
     rw[hv]at hp;cases hp;obtain⟨h1,val,h2,h3⟩:=I4 hr hv hx;exact WD.x i hi hB hn hSw (λw' _=>h2 w') (h _ (hr.set (.put h1 h3)))
   ·rename_i j want;split at hp
    ·cases hp
    ·rename_i t hj;split at hp
     ·rename_i c hb;have ht:=fT hm.sl hb;cases hw:dC want c with
      |true=>
       rw[hw]at hp;dsimp only[Cl,cond]at hp;cases hv:ug P s op with
       |none=>rw[hv]at hp;cases hp
       |some u=>
        rw[hv]at hp;cases hp;obtain⟨h1,val,h2,h3⟩:=I4 hr hv hx;have hbw:(c==want)=true:=by rw[<-VK];exact hw
        refine WD.gx (v:=val) i hi hB hn hj ht hSw (λ_ w' _=>h2 w') (h _ ?_);rw[nO hbw];exact hr.set (.put h1 h3)
      |false=>rw[hw]at hp;cases hp
     ·rename_i c hb;cases hne:Nat.beq d' t with
      |true=>rw[hne]at hp;cases hp
      |false=>
       rw[hne]at hp;dsimp only[Cl,cond]at hp;cases hv:ug P (s.res t want) op with
       |none=>rw[hv]at hp;cases hp
       |some u=>rw[hv]at hp;cases hp
     ·cases hp
theorem V1{S:World->Prop}{z:Array Bool}{fuel i dn t:Nat}{want bv:Bool}{o:Oper}{b:BV}{K:Env->World->Prop}{X:Go.Rx.S->Option R}(hr:Rel Z s σs A L σ w)(hi:ops[i]? =some o)(hB:CA ops (tw z) listed i=true)(hp:sT P n ops o s=some (dn, .ask t want bv b))(hSw:S w)
  (hx:(Cl (dC want bv) (Option.bind b.E λx=>X ((s.res t bv).set dn (b.v x)))<|X ((s.res t bv).set dn .off))=some r)
  (h:∀s',s'.it=s.it->∀σ',Rel Z s' σs A L σ' w->X s'=some r->WD P n ops S (tw z) fuel (listed.setIfInBounds i true) K σ' w):WD P n ops S (tw z) (fuel+1) listed K σ w:=by
 obtain⟨d,op,ty,pos,after,g⟩:=o;have hm:=hr.mem;unfold sT at hp;simp only at hp;split at hp
 ·cases hp
 ·rename_i d';cases hn:Nat.blt d' n with
  |false=>rw[hn]at hp;cases hp
  |true=>
   rw[hn]at hp;simp only[Aob,Aow]at hp;try dsimp only[Cl]at hp
   split at hp
   ·cases hv:ug P s op with
    |none=>rw[hv]at hp;cases hp
    |some u=>rw[hv]at hp;cases hp
   ·rename_i j want';split at hp
    ·cases hp
    ·rename_i t' hj;split at hp
     ·rename_i c hb;cases hw:dC want' c with
      |true=>
       rw[hw]at hp;dsimp only[Cl,cond]at hp;cases hv:ug P s op with
       |none=>rw[hv]at hp;cases hp
       |some u=>rw[hv]at hp;cases hp
      |false=>rw[hw]at hp;cases hp
     ·rename_i c hb;have ht:=MR hm.sl hb;cases hne:Nat.beq d' t' with
      |true=>rw[hne]at hp;cases hp
      |false=>
       rw[hne]at hp;dsimp only[Cl,cond]at hp;cases hv:ug P (s.res t' want') op with
       |none=>rw[hv]at hp;cases hp
       |some u=>
        rw[hv]at hp;cases hp;cases hw:dC want bv with
        |true=>
         rw[hw]at hx;dsimp only[Cl,cond]at hx;obtain⟨x,hx,hk⟩:=bind_some hx;have hbw:bv=want:=by cases want<;>cases bv<;>simp_all [dC]
         subst hbw;obtain⟨h1,val,h2,h3⟩:=I4 (hr.res ht) hv hx;refine WD.gx (v:=val) i hi hB hn hj ht hSw (λ_ w' _=>h2 w') (h ((s.res t bv).set dn (b.v x)) rfl _ ?_ hk);rw[nO (by simp)];exact(hr.res ht).set (.put h1 h3)
        |false=>
         rw[hw]at hx;dsimp only[Cl,cond]at hx;have hbw:(bv==want)=false:=by rw[<-VK];exact hw
         refine WD.gx (v:=Go.undef) i hi hB hn hj ht hSw (λhg=>by rw[hbw]at hg;cases hg) (h ((s.res t bv).set dn .off) rfl _ ?_ hx);rw[J2 hbw];exact(hr.res ht).set (show AE σ dn Go.undef dn=Go.undef from PU _ _ _)
     ·cases hp
theorem nK{z:Array Bool}:∀{is:List Nat} {i:Nat} {v:Nat×TypeId×Nat×List Step},QN n ops z listed s is=some (i,v)->∃o,ops[i]? =some o/\CA ops (tw z) listed i=true/\Afx n ops o s=some v
 |[],_,_,h=>by simp[QN]at h
 |j::is,i,v,h=>by
  simp only[QN]at h;split at h
  ·cases h
  ·rename_i o ho;split at h
   ·rename_i v' hp;cases h;cases ht:CA ops (tw z) listed j with
    |true=>rw[ht]at hp;exact⟨o,ho,by first|exact ht|rfl,hp⟩
    |false=>rw[ht]at hp;cases hp
   ·exact nK h
theorem Ags{d dn:Nat}{o:Op}{t:TypeId}{j:Nat}{p:List Step}{u:PV}{kk:PV->Option R}(hr:Rel Z s σs A L σ w)(hp:Aex s d o=some (dn,t,j,p))(h:getRoot (Ce s.it j) p kk=some r):
  d=dn/\∃u,kk u=some r/\ (Mx P t u=true->u.isV=true/\∃val,(∀w',Ext Z s σs A L σ w w'->XO P σ w' o val)/\Ei (λb=>A b/\Z.R b) w L u val):=by
 have hm:=hr.mem;unfold Aex at hp;split at hp
 ·rename_i t' x;split at hp
  ·rename_i i p' hx;split at hp
   ·cases hp
   ·rename_i hne;cases hp;obtain⟨md,b,h1,h2,h3⟩:=Zs (Ct hm.sl hx rfl);obtain⟨h4,_⟩:=hm.root h1 (λe=>hne e);obtain⟨u,c1,c2,c3,hk,he,h5,h6⟩:=qS h h4;refine⟨rfl,u,hk,λhb=>?_⟩;obtain⟨val,h7,h8⟩:=YQ (P:=P) (σ:=σ) (x:=x) (b:=b) (off:=Ay p) (Rb hb) h6 h3;obtain⟨hv,hv'⟩:=Ka h7;refine⟨hv,val,λw' hext=>h8 w' λq hq=>?_,hv'⟩;obtain⟨A',L',it',ha,hr'⟩:=hext.ex;have h10:(L++L')[j]? =some md:=by rw[List.getElem?_append_left (List.getElem?_eq_some_iff.1 h1).1];exact h1
    rw[hr'.cells h10 h2 _ (by rw[he];simp;omega),he,List.getElem?_append_right (by omega),h5,show Ay p+q-Ay p=q by omega,List.getElem?_append_left hq]
  ·cases hp
 ·cases hp
theorem Ak4{S:World->Prop}{z:Array Bool}{fuel i dn j:Nat}{t:TypeId}{p:List Step}{o:Oper}{kk:PV->Option R}{K:Env->World->Prop}(hr:Rel Z s σs A L σ w)(hi:ops[i]? =some o)(hB:CA ops (tw z) listed i=true)(hp:Afx n ops o s=some (dn,t,j,p))(hg:getRoot (Ce s.it j) p kk=some r)(hSw:S w)
  (hS:∀w',S w'->Ext Z s σs A L σ w w') (hkk:∀u,kk u=some r->Mx P t u=true)
  (h:∀u σ',kk u=some r->Rel Z (s.set dn u) σs A L σ' w->WD P n ops S (tw z) fuel (listed.setIfInBounds i true) K σ' w):WD P n ops S (tw z) (fuel+1) listed K σ w:=by
 obtain⟨d,op,ty,pos,after,g⟩:=o;have hm:=hr.mem;unfold Afx at hp;simp only at hp;split at hp
 ·cases hp
 ·rename_i d';cases hn:Nat.blt d' n with
  |false=>rw[hn]at hp;cases hp
  |true=>
   rw[hn]at hp;simp only[Aob,Aow]at hp;try dsimp only[Cl]at hp
   split at hp
   ·obtain⟨rfl,u,hk,hu⟩:=Ags (P:=P) (u:= .undef) hr hp hg;obtain⟨h1,val,h2,h3⟩:=hu (hkk u hk);exact WD.x i hi hB hn hSw (λw' hw=>h2 w' (hS w' hw)) (h u _ hk (hr.set (.put h1 h3)))
   ·rename_i q want;split at hp
    ·cases hp
    ·rename_i t' hj;split at hp
     ·rename_i c hb;have ht:=fT hm.sl hb;cases hw:dC want c with
      |true=>
       rw[hw]at hp;dsimp only[Cl,cond]at hp;obtain⟨rfl,u,hk,hu⟩:=Ags (P:=P) (u:= .undef) hr hp hg;obtain⟨h1,val,h2,h3⟩:=hu (hkk u hk);have hbw:(c==want)=true:=by rw[<-VK];exact hw
       refine WD.gx (v:=val) i hi hB hn hj ht hSw (λ_ w' hw=>h2 w' (hS w' hw)) (h u _ hk ?_);rw[nO hbw];exact hr.set (.put h1 h3)
      |false=>rw[hw]at hp;cases hp
     ·cases hp
theorem jq{i t:Nat}{b:Bool}(hr:Rel Z s σs A L σ w)(h:I6 ops s i=some (t,b)):σ t= .bool b:=by
 unfold I6 at h;split at h
 ·cases h
 ·split at h
  ·cases h
  ·split at h
   ·cases h
   ·split at h
    ·rename_i hb;cases h;exact MR hr.mem.sl hb
    ·split at h
     ·rename_i hb;cases h;exact MR hr.mem.sl hb
     ·cases h
    ·cases h
theorem bS{fin:S->Option R}:∀{l:List Nat} {s:Go.Rx.S},Rel Z s σs A L σ w->UP ops l s fin=some r->∃s',Rel Z s' σs A L σ w/\s'.it=s.it/\fin s'=some r
 |[],s,hr,h=>⟨s,hr,rfl,h⟩
 |i::l,s,hr,h=>by
  rw[UP]at h;split at h
  ·rename_i t b hg;have ht:=jq hr hg;cases b with
   |true=>
    obtain⟨s',h1,h2,h3⟩:=bS (l:=l) (hr.res ht) (by simpa using h);exact⟨s',h1,h2,h3⟩
   |false=>
    obtain⟨s',h1,h2,h3⟩:=bS (l:=l) (hr.res ht) (by simpa using h);exact⟨s',h1,h2,h3⟩
  ·exact bS (l:=l) hr h
theorem Ahz(hT:fN P T Z)(hI:YJ P T.gl inl):∀{fuel:Nat} {z0:Array Bool} {listed:Array Bool} {s:S} {A:Reg} {L:List MD} {σ:Env} {w:World} {S:World->Prop},Rel Z s σs A L σ w->QG P T inl n mem ops fuel z0 listed s k=some r->
  (mem=true->OS (tw z0) listed=true\/∀w',iZ Z σs A L s.it w w'->S w')-> (mem=false->∀w',GS Z σs w'->S w')->
  WD P n ops S (tw z0) fuel listed (λσ' w'=>∃s' A' L',k s'=some r/\Rel Z s' σs A' L' σ' w') σ w:=by
 intro fuel
 induction fuel with
 |zero=>
  intro z0 listed s A L σ w S hr h hI1 hI2;unfold QG at h;split at h
  ·rename_i hrd;exact WD.done hrd ⟨s,A,L,h,hr⟩
  ·cases h
 |succ fuel ih=>
  intro z0 listed s A L σ w S hr h hI1 hI2;unfold QG at h;split at h
  ·rename_i hrd;exact WD.done hrd ⟨s,A,L,h,hr⟩
  ·rename_i i is hrd;simp only at h;have rest:∀(z:Array Bool) (S:World->Prop) (s:Go.Rx.S),Rel Z s σs A L σ w-> (mem=true->∀w',iZ Z σs A L s.it w w'->S w')-> (mem=false->∀w',GS Z σs w'->S w')->
     both (match ops[i]? with
        |some o=>Cl (mem&& !((tD T s o&&M5 ops s o)||(!tw z i&&OS (tw z) (listed.setIfInBounds i true)))) (none)<|
         nW P T inl n ops o s λs'=>QG P T inl n mem ops fuel z (listed.setIfInBounds i true) s' k
        |none=>none) (is.map λi=>match ops[i]? with
        |some o=>Cl (mem&& !((tD T s o&&M5 ops s o)||(!tw z i&&OS (tw z) (listed.setIfInBounds i true)))) (none)<|
         nW P T inl n ops o s λs'=>QG P T inl n mem ops fuel z (listed.setIfInBounds i true) s' k
        |none=>none)=some r->WD P n ops S (tw z) (fuel+1) listed (λσ' w'=>∃s' A' L',k s'=some r/\Rel Z s' σs A' L' σ' w') σ w:=by
    intro z S s hr hS1 hS2 h;obtain⟨h1,h2⟩:=wJ h;refine WD.steps hrd rfl ?_;intro q hq;have hone:(match ops[q]? with
       |some o=>Cl (mem&& !((tD T s o&&M5 ops s o)||(!tw z q&&OS (tw z) (listed.setIfInBounds q true)))) (none)<|
        nW P T inl n ops o s λs'=>QG P T inl n mem ops fuel z (listed.setIfInBounds q true) s' k
       |none=>none)=some r:=by
     rcases List.mem_cons.1 hq with rfl|hq
     ·exact h1
     ·exact h2 _ (List.mem_map_of_mem hq)
    split at hone
    ·rename_i o ho;refine⟨o,ho,?_⟩;cases hc:(mem&& !((tD T s o&&M5 ops s o)||(!tw z q&&OS (tw z) (listed.setIfInBounds q true))))with
     |true=>rw[hc]at hone;cases hone
     |false=>
      rw[hc]at hone;dsimp only[Cl,cond]at hone;refine QV (T9 hT hI hr hone) ?_;rintro σ' w' ⟨s',A',L',g1,g2,g3⟩;cases hmem:mem with
      |true=>
       subst hmem;simp only[Aoa,Bool.not_eq_false',Ani,Ac9,Akv]at hc;rcases hc with hc|⟨hc1,hc2⟩
       ·have g4:=g3 hc;refine⟨λ_=>hS1 rfl _ ⟨s',σ',A',L',g2,g4⟩,ih g2 g1 (λ_=> .inr λw'' hw=>?_) (λe=>by cases e)⟩;obtain⟨s2,σ2,A2,L2,h5,h6⟩:=hw;exact hS1 rfl _ ⟨s2,σ2,A2,L2,h5,g4.trans h6⟩
       ·refine⟨λhlt=>?_,ih g2 g1 (λ_=> .inl hc2) (λe=>by cases e)⟩;rw[hlt]at hc1;cases hc1
      |false=>
       subst hmem;exact⟨λ_=>hS2 rfl _ ⟨_,_,_,_,g2⟩,ih g2 g1 (λe=>by cases e) hS2⟩
    ·cases hone
   have main:∀(z:Array Bool) (S:World->Prop) (s:Go.Rx.S) (F:Option R),Rel Z s σs A L σ w-> (mem=true->∀w',iZ Z σs A L s.it w w'->S w')-> (mem=false->∀w',GS Z σs w'->S w')-> (F=some r->WD P n ops S (tw z) (fuel+1) listed (λσ' w'=>∃s' A' L',k s'=some r/\Rel Z s' σs A' L' σ' w') σ w)->
     (match BU P T n mem ops z listed s (i::is)with
      |some (i,d,v)=>QG P T inl n mem ops fuel z (listed.setIfInBounds i true) (s.set d v) k
      |none=>match IU P n ops z listed s (i::is)with
       |some (i,d, .on b)=>Option.bind b.E λx=>QG P T inl n mem ops fuel z (listed.setIfInBounds i true) (s.set d (b.v x)) k
       |some (i,d, .ask t want bv b)=>if bv=true then
         (Cl (dC want true) (Option.bind b.E λx=>QG P T inl n mem ops fuel z (listed.setIfInBounds i true) ((s.res t true).set d (b.v x)) k)<|QG P T inl n mem ops fuel z (listed.setIfInBounds i true) ((s.res t true).set d .off) k)
         else(Cl (dC want false) (Option.bind b.E λx=>QG P T inl n mem ops fuel z (listed.setIfInBounds i true) ((s.res t false).set d (b.v x)) k)<|QG P T inl n mem ops fuel z (listed.setIfInBounds i true) ((s.res t false).set d .off) k)
       |none=>match(Cl (mem) (QN n ops z listed s (i::is))<|none)with
       |some (i,d,t,j,p)=>getRoot (Ce s.it j) p λu=>Cl (Mx P t u) (QG P T inl n mem ops fuel z (listed.setIfInBounds i true) (s.set d u) k)<|none
       |none=>F)=some r->WD P n ops S (tw z) (fuel+1) listed (λσ' w'=>∃s' A' L',k s'=some r/\Rel Z s' σs A' L' σ' w') σ w:=by
    intro z S s F hr hS1 hS2 hfin h;split at h
    ·rename_i i' d v hp;obtain⟨o,ho,hB,hp⟩:=gW hp;cases hmem:mem with
     |true=>
      subst hmem;refine WD.oS (S':=iZ Z σs A L s.it w) (hS1 rfl) (U5 hT hr ho hB hp (.refl hr) (λ_ w' hw=>hw.ext hr) (λw' hw=>(hw.ext hr).gs) λσ' hr'=>?_);exact ih hr' h (λ_=> .inr λw' hw=>hw) (λe=>by cases e)
     |false=>
      subst hmem;refine WD.oS (S':=GS Z σs) (hS2 rfl) (U5 hT hr ho hB hp ⟨_,_,_,_,hr⟩ (λe=>by cases e) (λw' hw=>hw) λσ' hr'=>?_);exact ih hr' h (λe=>by cases e) (λ_ w' hw=>hw)
    ·split at h
     ·rename_i i' d b hp;obtain⟨o,ho,hB,hp⟩:=XW hp;obtain⟨x,hx,h⟩:=bind_some h;cases hmem:mem with
      |true=>
       subst hmem;refine WD.oS (S':=iZ Z σs A L s.it w) (hS1 rfl) (Acs hr ho hB hp hx (.refl hr) λσ' hr'=>?_);exact ih hr' h (λ_=> .inr λw' hw=>hw) (λe=>by cases e)
      |false=>
       subst hmem;refine Acs hr ho hB hp hx (hS2 rfl _ ⟨_,_,_,_,hr⟩) λσ' hr'=>?_;exact ih hr' h (λe=>by cases e) hS2
     ·rename_i i' d t want bv b hp;obtain⟨o,ho,hB,hp⟩:=XW hp;have h:(Cl (dC want bv) (Option.bind b.E λx=>QG P T inl n mem ops fuel z (listed.setIfInBounds i' true) ((s.res t bv).set d (b.v x)) k)<|QG P T inl n mem ops fuel z (listed.setIfInBounds i' true) ((s.res t bv).set d .off) k)=some r:=by
       cases bv with
       |true=>simpa using h
       |false=>simpa using h
      cases hmem:mem with
      |true=>
       subst hmem;refine WD.oS (S':=iZ Z σs A L s.it w) (hS1 rfl) (V1 (X:=λs'=>QG P T inl n true ops fuel z (listed.setIfInBounds i' true) s' k) hr ho hB hp (.refl hr) h λs' hs' σ' hr' h=>?_);exact ih hr' h (λ_=> .inr λw' hw=>hs'▸hw) (λe=>by cases e)
      |false=>
       subst hmem;refine V1 (X:=λs'=>QG P T inl n false ops fuel z (listed.setIfInBounds i' true) s' k) hr ho hB hp (hS2 rfl _ ⟨_,_,_,_,hr⟩) h λs' hs' σ' hr' h=>?_;exact ih hr' h (λe=>by cases e) hS2
     ·split at h
      ·rename_i i' d t j p hp;cases hmem:mem with
       |false=>rw[hmem]at hp;cases hp
       |true=>
        subst hmem;dsimp only[Cl,cond]at hp;obtain⟨o,ho,hB,hp⟩:=nK hp;refine WD.oS (S':=iZ Z σs A L s.it w) (hS1 rfl) (Ak4 (P:=P) hr ho hB hp h (.refl hr) (λw' hw=>hw.ext hr) (λu hu=>(Bb hu).1) λu σ' hu hr'=>?_);exact ih hr' (Bb hu).2 (λ_=> .inr λw' hw=>hw) (λe=>by cases e)
      exact hfin h
   have all:∀(z:Array Bool) (S:World->Prop),(mem=true->∀w',iZ Z σs A L s.it w w'->S w')-> (mem=false->∀w',GS Z σs w'->S w')->
     (match BU P T n mem ops z listed s (i::is)with
      |some (i,d,v)=>QG P T inl n mem ops fuel z (listed.setIfInBounds i true) (s.set d v) k
      |none=>match IU P n ops z listed s (i::is)with
       |some (i,d, .on b)=>Option.bind b.E λx=>QG P T inl n mem ops fuel z (listed.setIfInBounds i true) (s.set d (b.v x)) k
       |some (i,d, .ask t want bv b)=>if bv=true then
         (Cl (dC want true) (Option.bind b.E λx=>QG P T inl n mem ops fuel z (listed.setIfInBounds i true) ((s.res t true).set d (b.v x)) k)<|QG P T inl n mem ops fuel z (listed.setIfInBounds i true) ((s.res t true).set d .off) k)
         else(Cl (dC want false) (Option.bind b.E λx=>QG P T inl n mem ops fuel z (listed.setIfInBounds i true) ((s.res t false).set d (b.v x)) k)<|QG P T inl n mem ops fuel z (listed.setIfInBounds i true) ((s.res t false).set d .off) k)
       |none=>match(Cl (mem) (QN n ops z listed s (i::is))<|none)with
       |some (i,d,t,j,p)=>getRoot (Ce s.it j) p λu=>Cl (Mx P t u) (QG P T inl n mem ops fuel z (listed.setIfInBounds i true) (s.set d u) k)<|none
       |none=>(λs=>Cl mem (UP ops ((i::is)++(i::is)) s λs=>(match BU P T n mem ops z listed s (i::is)with
      |some (i,d,v)=>QG P T inl n mem ops fuel z (listed.setIfInBounds i true) (s.set d v) k
      |none=>match IU P n ops z listed s (i::is)with
       |some (i,d, .on b)=>Option.bind b.E λx=>QG P T inl n mem ops fuel z (listed.setIfInBounds i true) (s.set d (b.v x)) k
       |some (i,d, .ask t want bv b)=>if bv=true then
         (Cl (dC want true) (Option.bind b.E λx=>QG P T inl n mem ops fuel z (listed.setIfInBounds i true) ((s.res t true).set d (b.v x)) k)<|QG P T inl n mem ops fuel z (listed.setIfInBounds i true) ((s.res t true).set d .off) k)
         else(Cl (dC want false) (Option.bind b.E λx=>QG P T inl n mem ops fuel z (listed.setIfInBounds i true) ((s.res t false).set d (b.v x)) k)<|QG P T inl n mem ops fuel z (listed.setIfInBounds i true) ((s.res t false).set d .off) k)
       |none=>match(Cl (mem) (QN n ops z listed s (i::is))<|none)with
       |some (i,d,t,j,p)=>getRoot (Ce s.it j) p λu=>Cl (Mx P t u) (QG P T inl n mem ops fuel z (listed.setIfInBounds i true) (s.set d u) k)<|none
       |none=>both (match ops[i]? with
        |some o=>Cl (mem&& !((tD T s o&&M5 ops s o)||(!tw z i&&OS (tw z) (listed.setIfInBounds i true)))) (none)<|
         nW P T inl n ops o s λs'=>QG P T inl n mem ops fuel z (listed.setIfInBounds i true) s' k
        |none=>none) (is.map λi=>match ops[i]? with
        |some o=>Cl (mem&& !((tD T s o&&M5 ops s o)||(!tw z i&&OS (tw z) (listed.setIfInBounds i true)))) (none)<|
         nW P T inl n ops o s λs'=>QG P T inl n mem ops fuel z (listed.setIfInBounds i true) s' k
        |none=>none)))<|both (match ops[i]? with
        |some o=>Cl (mem&& !((tD T s o&&M5 ops s o)||(!tw z i&&OS (tw z) (listed.setIfInBounds i true)))) (none)<|
         nW P T inl n ops o s λs'=>QG P T inl n mem ops fuel z (listed.setIfInBounds i true) s' k
        |none=>none) (is.map λi=>match ops[i]? with
        |some o=>Cl (mem&& !((tD T s o&&M5 ops s o)||(!tw z i&&OS (tw z) (listed.setIfInBounds i true)))) (none)<|
         nW P T inl n ops o s λs'=>QG P T inl n mem ops fuel z (listed.setIfInBounds i true) s' k
        |none=>none)) s)=some r->WD P n ops S (tw z) (fuel+1) listed (λσ' w'=>∃s' A' L',k s'=some r/\Rel Z s' σs A' L' σ' w') σ w:=by
    intro z S hS1 hS2 h;refine main z S s _ hr hS1 hS2 (λhF=>?_) h;clear h;cases hmem:mem with
    |false=>
     simp only[hmem,Cl]at hF;subst hmem;exact rest z S s hr hS1 hS2 hF
    |true=>
     simp only[hmem,Cl]at hF;subst hmem;obtain⟨s',hr',hit,h'⟩:=bS hr hF;refine main z S s' _ hr' (by rw[hit];exact hS1) hS2 (λhG=>?_) h';exact rest z S s' hr' (by rw[hit];exact hS1) hS2 hG
   cases hz:(mem&&OS (tw z0) listed)with
   |true=>
    rw[hz]at h;simp only[Ac9]at hz;obtain⟨hm,hov⟩:=hz;subst hm;exact WD.next (S':=iZ Z σs A L s.it w) _ hov (all _ _ (λ_ w' hw=>hw) (λe=>by cases e) h)
   |false=>
    rw[hz]at h;refine all _ _ (λhm=>?_) hI2 h;subst hm;rcases hI1 rfl with h1|h1
    ·rw[h1]at hz;cases hz
    ·exact h1
end Go.Rx
namespace Go.Rx
open Go Go.Lv
variable {P:Program} {B B':Reg} {w w':World} {L L':List MD} {s:S} {σs:List Env} {σ:Env} {Z:Fix} {A A':Reg} {n:Nat} {ops:Array Oper}
variable {R:Type} {k:S->Option R} {r:R}
def Ag4(w:World)(A:Reg)(L:List Mob)(os:Nat->Option Nat):Prop:=
 (∀(i:Nat) (m:Mob),L[i]? =some m->m.holds (os i) w/\∀b,os i=some b-> ¬A b/\b<w.heap.size)/\∀i j b,i<L.length->j<L.length->i≠j->os i=some b->os j≠some b
theorem Cv.toI:∀{L:List Mob} {A:Reg},Cv w A L->∃os,Ag4 w A L os
 |[],A,_=>⟨λ_=>none,λi m h=>by simp at h,λi j b h=>by simp at h⟩
 |m::L,A,⟨o,h1,h2,h3⟩=>by
  obtain⟨os,g1,g2⟩:=Cv.toI h3;refine⟨λi=>match i with|0=>o|i+1=>os i,λi m' h=>?_,λi j b hi hj hij h=>?_⟩
  ·cases i with
   |zero=>simp at h;subst h;exact⟨h1,h2⟩
   |succ i=>
    obtain⟨g3,g4⟩:=g1 i m' (by simpa using h);exact⟨g3,λb hb=>⟨λhA=>(g4 b hb).1 (.inl hA),(g4 b hb).2⟩⟩
  ·have key:∀q,q<L.length->∀b,os q=some b->o≠some b:=λq hq b hb ho=>by
    exact((g1 q L[q] (by simp[hq])).2 b hb).1 (.inr ho)
   cases i with
   |zero=>
    cases j with
    |zero=>exact absurd rfl hij
    |succ j=>intro hb;exact key j (by simpa using hj) b hb h
   |succ i=>
    cases j with
    |zero=>exact key i (by simpa using hi) b h
    |succ j=>exact g2 i j b (by simpa using hi) (by simpa using hj) (by omega) h
theorem Cv.ofI:∀{L:List Mob} {A:Reg} {os:Nat->Option Nat},Ag4 w A L os->Cv w A L
 |[],_,_,_=>trivial
 |m::L,A,os,⟨g1,g2⟩=>by
  obtain⟨h1,h2⟩:=g1 0 m rfl;refine⟨os 0,h1,h2,Cv.ofI (os:=λi=>os (i+1)) ⟨λi m' h=>?_,λi j b hi hj hij h=>?_⟩⟩
  ·obtain⟨g3,g4⟩:=g1 (i+1) m' (by simpa using h);refine⟨g3,λb hb=>⟨λhA=>?_,(g4 b hb).2⟩⟩;rcases hA with hA|hA
   ·exact(g4 b hb).1 hA
   ·have hlt:i<L.length:=(List.getElem?_eq_some_iff.1 h).1;exact g2 0 (i+1) b (by simp) (by simpa using hlt) (by omega) hA hb
  ·exact g2 (i+1) (j+1) b (by simpa using hi) (by simpa using hj) (by omega) h
def distinct:List Nat->Bool|[]=>true|i::r=>!Zu i r&&distinct r
theorem fY:∀{l:List Nat} {i j q:Nat},distinct l=true->l[i]? =some q->l[j]? =some q->i=j
 |[],_,_,_,_,h,_=>by simp at h
 |a::l,i,j,q,hd,hi,hj=>by
  simp only[distinct,Ac9,Akv]at hd;have hn:a∉l:=λh=>by have:=BK.2 h;rw[hd.1]at this;cases this
  cases i with
  |zero=>
   cases j with
   |zero=>rfl
   |succ j=>simp at hi hj;subst hi;exact absurd (List.mem_of_getElem? hj) hn
  |succ i=>
   cases j with
   |zero=>simp at hi hj;subst hj;exact absurd (List.mem_of_getElem? hi) hn
   |succ j=>exact congrArg (· +1) (fY (q:=q) hd.2 (by simpa using hi) (by simpa using hj))
theorem oI{w:World}:MD.dead.Ji.holds none w:=⟨none,0,0,rfl,by simp,Ag9 _,λ_=>rfl,λ_=>rfl,λb h=>by cases h⟩
theorem getD_some{i:Nat}{md:MD}(h:L[i]? =some md):L.getD i .dead=md:=by simp[List.getD_eq_getElem?_getD,h]
theorem getD_none{i:Nat}(h:L[i]? =none):L.getD i .dead= .dead:=by simp[List.getD_eq_getElem?_getD,h]
def G2(o:List Nat)(L:List MD)(os:Nat->Option Nat)(j:Nat):Option Nat:=match o[j]? with|some i=>(match L[i]? with|some _=>os i|none=>none)|none=>none
theorem dJ{o:List Nat}{os:Nat->Option Nat}{i j:Nat}{md:MD}(h:o[j]? =some i)(hL:L[i]? =some md):G2 o L os j=os i:=by unfold G2;rw[h];simp only[hL]
theorem eU{o:List Nat}{os:Nat->Option Nat}{i j:Nat}(h:o[j]? =some i)(hL:L[i]? =none):G2 o L os j=none:=by unfold G2;rw[h];simp only[hL]
theorem sG{o:List Nat}(h:Cv w A (L.map MD.Ji))(hd:distinct o=true):Cv w A ((o.map λi=>L.getD i .dead).map MD.Ji):=by
 obtain⟨os,g1,g2⟩:=Cv.toI h;refine Cv.ofI (os:=G2 o L os) ⟨λj m hm=>?_,λi j b hi hj hij hb=>?_⟩
 ·simp only[List.map_map,List.getElem?_map,Ant,Function.comp]at hm;obtain⟨i,hi,rfl⟩:=hm;cases hL:L[i]? with
  |none=>rw[getD_none hL,eU hi hL];exact⟨oI,λb hb=>by cases hb⟩
  |some md=>rw[getD_some hL,dJ hi hL];exact g1 i md.Ji (by simp[hL])
 ·simp only[List.length_map]at hi hj;have e1:o[i]? =some o[i]:=by simp[hi]
  have e2:o[j]? =some o[j]:=by simp[hj]
  have hne:o[i]≠o[j]:=λe=>hij (fY hd e1 (by rw[e2,e]));cases hL1:L[o[i]]? with
  |none=>rw[eU e1 hL1]at hb;cases hb
  |some m1=>
   rw[dJ e1 hL1]at hb;cases hL2:L[o[j]]? with
   |none=>rw[eU e2 hL2];simp
   |some m2=>
    rw[dJ e2 hL2];exact g2 _ _ b (by simpa using(List.getElem?_eq_some_iff.1 hL1).1) (by simpa using(List.getElem?_eq_some_iff.1 hL2).1) hne hb
theorem E8{i:Nat}:∀{o:List Nat} {m j:Nat},posOf i o m=some j->∃q,j=m+q/\o[q]? =some i
 |[],_,_,h=>by simp[posOf]at h
 |a::o,m,j,h=>by
  simp only[posOf]at h;cases hb:Nat.beq i a with
  |true=>rw[hb]at h;cases h;exact⟨0,rfl,by simp[Ck hb]⟩
  |false=>
   rw[hb]at h;obtain⟨q,h1,h2⟩:=E8 (o:=o) h;exact⟨q+1,by omega,by simpa using h2⟩
theorem jM{o:List Nat}{i j:Nat}{md:MD}(h:posOf i o 0=some j)(hL:L[i]? =some md):(o.map λi=>L.getD i .dead)[j]? =some md:=by
 obtain⟨q,h1,h2⟩:=E8 h;rw[Amp]at h1;subst h1;simp[h2,List.getD_eq_getElem?_getD,hL]
theorem S8{o:List Nat}{p:PV}:(rE o p).isA=p.isA:=by
 cases p<;>try rfl
 ·simp only[rE];split<;>rfl
 ·simp only[rE];split<;>rfl
 ·simp only[rE];split<;>rfl
abbrev cE(L:List MD):Prop:=L.all (λm=>match m with| .own _ _ v _=>v.oneCell'|_=>true)=true
mutual
theorem fK{o:List Nat}(h1:cE L):∀{p:PV} {cs:List Value},Bd B w L p cs->Bd B w (o.map λi=>L.getD i .dead) (rE o p) cs
 | .val _ x,cs,h=>h
 | .agg q,cs,h=>E6 h1 (show Bd.go B w L q cs from h)
 | .tup _,_,h=>h.elim
 | .nils,cs,h=>h
 | .own j,cs,⟨z,E,v,c,g1,g2⟩=>by
  simp only[rE];split
  ·rename_i j' hj;exact⟨z,E,v,c,jM hj g1,g2⟩
  ·exact⟨v,g2,List.all_eq_true.1 h1 _ (List.mem_of_getElem? g1)⟩
 | .ptr j q,cs,⟨md,b,g1,g2,g3⟩=>by
  simp only[rE];split
  ·rename_i j' hj;exact⟨md,b,jM hj g1,g2,g3⟩
  ·exact⟨_,g3,rfl⟩
 | .view u j p e lo n,cs,⟨md,v,g1,g2,g3⟩=>by
  simp only[rE];split
  ·rename_i j' hj;exact⟨md,v,jM hj g1,g2,g3⟩
  ·obtain⟨_,_,⟨pt,cap,e',_⟩,_⟩:=g3;exact⟨v,g2,by rw[e'];rfl⟩
 | .rptr v,cs,⟨pv,c0,g1,g2,g3⟩=>⟨pv,c0,g1,g2,fK h1 g3⟩
 | .fn f caps,cs,⟨vs,g1,g2⟩=>⟨vs,g1,mQ h1 g2⟩
 | .cst v,cs,h=>h
 | .any,cs,h=>h
 | .gd _ _ _,_,h=>h.elim
 | .off,_,h=>h.elim
 | .undef,_,h=>h.elim
theorem E6{o:List Nat}(h1:cE L):∀{q:List PV} {cs:List Value},Bd.go B w L q cs->Bd.go B w (o.map λi=>L.getD i .dead) (rE.go o q) cs
 |[],cs,h=>h
 |a::q,cs,⟨c1,c2,e',g1,g2⟩=>⟨c1,c2,e',fK h1 g1,E6 h1 g2⟩
theorem mQ{o:List Nat}(h1:cE L):∀{q:List PV} {vs:List Value},Gh B w L q vs->Gh B w (o.map λi=>L.getD i .dead) (rE.go o q) vs
 |[],vs,h=>h
 |a::q,vs,⟨v,vs',e',g1,g2⟩=>⟨v,vs',e',by rw[S8];exact g1.mono λc h=>fK h1 h,mQ h1 g2⟩
end
theorem D3{o:List Nat}(h1:cE L){p:PV}{v:Value}(h:Ei B w L p v):Ei B w (o.map λi=>L.getD i .dead) (rE o p) v:=by
 cases hp:p.wX with
 |true=>
  have h2:Ij B w (o.map λi=>L.getD i .dead) (rE o p) v:=by
   unfold Ij;rw[S8];exact uf.mono (λc h=>fK h1 h) ((ZE hp).1 h)
  exact(Ka h2).2
 |false=>
  cases p
  case tup q=>obtain⟨vs,g1,g2⟩:=h;exact⟨vs,g1,mQ h1 g2⟩
  case undef=>exact(show False from h).elim
  case off=>exact(show False from h).elim
  case gd=>exact(show False from h).elim
  all_goals cases hp
theorem gy{o:List Nat}(h1:cE L){t:Nat}{p:PV}(h:Jg B w L σ t p):Jg B w (o.map λi=>L.getD i .dead) σ t (rE o p):=by
 cases hv:p.isV with
 |true=>
  have g1:=D3 (o:=o) h1 ((Jg.iff hv).1 h);have g2:(rE o p).isV=true:=by
   cases p<;>first|rfl|cases hv|skip
   ·simp only[rE];split<;>rfl
   ·simp only[rE];split<;>rfl
   ·simp only[rE];split<;>rfl
  exact(Jg.iff g2).2 g1
 |false=>
  rcases BP hv with rfl|rfl|⟨j,u,q,rfl⟩
  ·exact trivial
  ·exact h
  ·obtain⟨b,g1,g2,g3⟩:=h;exact⟨b,g1,λe=>D3 h1 (g2 e),g3⟩
theorem pS{o:List Nat}(h1:cE L){sl:Slots}(h:Fp B w L σ sl):Fp B w (o.map λi=>L.getD i .dead) σ (X7 o sl):=by
 intro p hp;obtain⟨q,hq,rfl⟩:=List.mem_map.1 hp;exact gy h1 (h q hq)
theorem qC{o:List Nat}(h1:cE L):∀{σs:List Env} {st:List Slots},UE B w L σs st->UE B w (o.map λi=>L.getD i .dead) σs (st.map (X7 o))
 |[],[],h=>h
 |_::_,_::_,⟨g1,g2⟩=>⟨pS h1 g1,qC h1 g2⟩
theorem tW{o:List Nat}(h1:cE L){a:Item}{md:MD}(h:Zv B w L a md):Zv B w (o.map λi=>L.getD i .dead) (Agq o a) md:=by
 cases a<;>cases md<;>first
  |exact h
  |exact⟨h.1,fK h1 h.2⟩
theorem TP{sl:Slots}(h:Fp B w L σ sl):∀(lv:List Nat),Fp B w L σ (cY sl lv)
 |[]=>λp hp=>by simp[cY]at hp
 |t::lv=>by
  intro p hp;simp only[cY]at hp;split at hp
  ·exact TP h lv p hp
  ·exact TP h lv p hp
  ·exact TP h lv p hp
  ·rcases List.mem_cons.1 hp with rfl|hp
   ·exact Ub (s:=⟨sl,[],[]⟩) (t:=t) h
   ·exact TP h lv p hp
theorem cV:∀{l:List Nat} {i:Nat},distinct l=true->Zu i l=false->distinct (l++[i])=true
 |[],_,_,_=>rfl
 |a::l,i,hd,hi=>by
  simp only[distinct,Ac9,Akv]at hd;simp only[Zu,Bool.or_eq_false_iff]at hi;simp only[An3,distinct,Ac9,Akv];refine⟨?_,cV hd.2 hi.2⟩;cases hx:Zu a (l++[i])with
  |false=>rfl
  |true=>
   rcases List.mem_append.1 (BK.1 hx)with h|h
   ·have:=BK.2 h;rw[hd.1]at this;cases this
   ·simp at h;subst h;simp at hi
theorem NJ{it:List Item}:∀(q:Nat) (todo seen:List Nat),distinct seen=true->distinct (reach it q todo seen)=true
 |0,_,_,h=>h
 |_+1,[],_,h=>h
 |q+1,i::todo,seen,h=>by
  simp only[reach];cases he:Zu i seen with
  |true=>exact NJ q _ _ h
  |false=>exact NJ q _ _ (cV h he)
theorem Ab8(hr:Rel Z s σs A L σ w)(lv:List Nat):∃L',Rel Z (s.canon lv) σs A L' σ w:=by
 have hm:=hr.mem;have h1:cE L:=hr.cE;unfold S.canon;simp only;generalize ho:reach s.it 200 (xC (cY s.sl lv)++(s.st.map xC).flatten) []=o;have hd:distinct o=true:=by rw[<-ho];exact NJ _ _ _ rfl
 refine⟨o.map λi=>L.getD i .dead,?_⟩;have hst:St A w [dL Z.R L s σs σ, .old Z.M Z.w0] ((o.map λi=>L.getD i .dead).map MD.Ji):=⟨St.lt hr,St.facts hr,sG (St.mobs hr) hd⟩;refine Rel.as hst (i:=1) rfl ⟨⟨by simp,λj a m g1 g2=>?_⟩,pS h1 (TP hm.sl lv),qC h1 hm.stk⟩ rfl;simp only[List.getElem?_map,Ant]at g1 g2;obtain⟨i,g3,rfl⟩:=g1;obtain⟨i',g4,rfl⟩:=g2;rw[g3]at g4;cases g4;cases hi:Ce s.it i with
 |dead=>exact trivial
 |box T v=>
  obtain⟨md,g5,g6⟩:=hm.item hi (by intro e;cases e);rw[getD_some g5];exact tW h1 g6
 |arr E e l=>
  obtain⟨md,g5,g6⟩:=hm.item hi (by intro e;cases e);rw[getD_some g5];exact tW h1 g6
theorem nU:∀{p:List Nat} {v u:PV} {cs:List Value},atV v p=some u->Bd B w L v cs-> (∃c,Bd B w L u c)/\∀(B':Reg) (w':World) (L':List MD) (m v':PV),(∀q c,Bd B w L q c->Bd B' w' L' q c)-> (∀c,Bd B w L u c->Bd B' w' L' m c)->m.isA=u.isA->M7 m v p=some v'->Bd B' w' L' v' cs/\v'.isA=v.isA
 |[],v,u,cs,h,hv=>by
  simp only[atV,Ag2]at h;subst h;refine⟨⟨cs,hv⟩,λB' w' L' m v' _ hm hA hp=>?_⟩;simp only[M7,Ag2]at hp;subst hp;exact⟨hm _ hv,hA⟩
 |i::p,v,u,cs,h,hv=>by
  cases v<;>simp only[atV,reduceCtorEq]at h;rename_i l;split at h
  ·rename_i f hf;obtain⟨c1,c2,c3,e,h1,h2,h3⟩:=Bd.field (show Bd.go B w L l cs from hv) hf;obtain⟨g1,g2⟩:=nU h h2;refine⟨g1,λB' w' L' m v' hq hm hA hp=>?_⟩;simp only[M7,hf]at hp;split at hp
   ·rename_i f' hf';cases hp;obtain⟨g3,_⟩:=g2 B' w' L' m f' hq hm hA hf';refine⟨?_,rfl⟩;have hl:Bd.go B' w' L' l cs:=show Bd B' w' L' (.agg l) cs from hq _ _ hv;obtain⟨d1,d2,d3,e',k1,k2,k3⟩:=Bd.field hl hf;have:d2=c2:=by
     have l1:d1.length=c1.length:=k1.trans h1.symm;have l2:d2.length=c2.length:=k2.len.trans h2.len.symm;rw[e]at e';obtain⟨e1,e2⟩:=List.append_inj e' l1.symm;obtain⟨e3,_⟩:=List.append_inj e2 l2.symm;exact e3.symm
    rw[e'];exact k3 _ _ (by rw[this];exact g3)
   ·cases hp
  ·cases h
theorem xU(hr:Rel Z s σs A L σ w)(E:TypeId)(e:ET):Rel Z (s.add (.arr E e [])) σs A (L++[.own e.size E (.slice none 0 0) []]) σ w:=
 Rel.push (a:= .arr E e []) (md:= .own e.size E (.slice none 0 0) []) (St.wA hr e.size E) ⟨rfl,rfl,rfl⟩
theorem pH{i b:Nat}{T:TypeId}{v':PV}{cells:List Value}(hr:Rel Z s σs A L σ w)(hL:L[i]? =some (.box b cells T))(hv:Bd (λb=>A b/\Z.R b) w L v' cells):Rel Z (s.AE i (.box T v')) σs A L σ w:=by
 have hm:=hr.mem;refine Rel.as hr (i:=1) rfl ⟨⟨by simp[S.AE,bI,hm.it.1],λj a m h1 h2=>?_⟩,hm.sl,hm.stk⟩ rfl;simp only[S.AE]at h1;rcases bG h1 with⟨rfl,rfl⟩|⟨_,h4⟩
 ·rw[hL]at h2;cases h2;exact⟨rfl,hv⟩
 ·exact hm.it.2 j a m h4 h2
theorem yN{t:Nat}{m:PV}:∀{sl:Slots} {q:Nat} {v:PV},(q,v)∈N1 t m sl-> (q,v)∈sl\/ (q=t/\v=m)
 |[],_,_,h=>by simp[N1]at h
 |(q',v')::r,q,v,h=>by
  simp only[N1]at h;cases hb:Nat.beq q' t with
  |true=>
   rw[hb]at h;rcases List.mem_cons.1 h with h|h
   ·cases h;exact .inr ⟨Ck hb,rfl⟩
   ·exact .inl (.tail _ h)
  |false=>
   rw[hb]at h;rcases List.mem_cons.1 h with h|h
   ·cases h;exact .inl (.head _)
   ·exact(yN h).imp (.tail _) id
theorem pB{t:Nat}{m:PV}(hr:Rel Z s σs A L σ w)(hm:Jg (λb=>A b/\Z.R b) w L σ t m):Rel Z ⟨N1 t m s.sl,s.it,s.st⟩ σs A L σ w:=by
 refine hr.Q7 rfl rfl ?_;rintro⟨q,v⟩ hp;rcases yN hp with h|⟨rfl,rfl⟩
 ·exact hr.mem.sl _ h
 ·exact hm
theorem D8{e:ET}{c:List Value}(h:Bd B w L .nils c):Bd B w L (.val (.list e) []) c:=⟨_,[],show c=_ from h,Rd.nil,rfl⟩
theorem Ad6{a:At}{s':S}(hr:Rel Z s σs A L σ w)(h:Aja s a=some s'):∃A' L',Rel Z s' σs A' L' σ w:=by
 have hm:=hr.mem;unfold Aja at h;simp only at h;split at h
 ·
  rename_i i q hsl;split at h
  ·rename_i T v hi;split at h
   ·rename_i u hu;obtain⟨b,cells,hL,hv⟩:=hm.box hi;split at h
    ·rename_i E e _;split at h
     ·rename_i v' hv';cases h;obtain⟨_,g⟩:=nU hu hv;have hr2:=xU hr E e;have hL2:(L++[.own e.size E (.slice none 0 0) []])[i]? =some (.box b cells T):=by rw[List.getElem?_append_left (List.getElem?_eq_some_iff.1 hL).1];exact hL
      obtain⟨g1,_⟩:=g (λb=>A b/\Z.R b) w (L++[.own e.size E (.slice none 0 0) []]) (.own s.new) v' (λq c h=>Bd.step (λ_ h=>h) (λ_ _=>rfl) (XS.append _ _) h)
       (λc hc=>⟨e.size,E,_,[],by rw[S.new,hr.len];simp,hc⟩) rfl hv'
      exact⟨_,_,pH hr2 hL2 g1⟩
     ·cases h
    ·cases h;exact⟨A,L,hr⟩
    ·rename_i e _;split at h
     ·rename_i v' hv';cases h;obtain⟨_,g⟩:=nU hu hv;obtain⟨g1,_⟩:=g (λb=>A b/\Z.R b) w L (.val (.list e) []) v' (λq c h=>h) (λc hc=>D8 hc) rfl hv';exact⟨_,_,pH hr hL g1⟩
     ·cases h
    ·obtain⟨A',h1,_⟩:=dP hr h;exact⟨A',_,h1⟩
    ·cases h;exact⟨A,L,hr⟩
    ·cases h
   ·cases h
  ·cases h
 split at h
 ·
  rename_i o i p e1 lo n hsl;split at h
  ·rename_i E e _ _;obtain⟨hb,h⟩:=Bb h;split at h
   ·rename_i s1 j h1;cases h;have hx:En s.sl (.tmp a.t)= .view o i p e1 lo n:=by simp only[En,hsl]
    obtain⟨L1,hr1,c0,hL⟩:=C3 (x:= .tmp a.t) hr (by simpa [Nat.blt_eq]using hb) (by rw[hx];rfl) (by rw[hx];exact h1);exact⟨_,_,pB hr1 ⟨_,_,_,_,hL,rfl⟩⟩
   ·cases h
  ·cases h
 ·
  split at h
  ·rename_i u hu;have hsl:=Ub (t:=a.t) hm.sl;have Ahj:∀(B':Reg) (L':List MD) (m v':PV),(∀q c,Bd (λb=>A b/\Z.R b) w L q c->Bd B' w L' q c)-> (∀c,Bd (λb=>A b/\Z.R b) w L u c->Bd B' w L' m c)->m.isA=u.isA->u= .nils->M7 m (CO s.sl a.t) a.p=some v'->Jg B' w L' σ a.t v':=by
    intro B' L' m v' hq hmu hA hun hp;have hP:(CO s.sl a.t).wX=true:=by
     revert hu
     generalize CO s.sl a.t=x;generalize a.p=pp;intro hu;cases pp with
     |nil=>simp only[atV,Ag2]at hu;rw[hu,hun];rfl
     |cons _ _=>cases x<;>first|rfl|simp[atV]at hu
    have hE:Ij (λb=>A b/\Z.R b) w L (CO s.sl a.t) (σ a.t):=(ZE hP).1 ((Jg.iff (PV.tF hP)).1 hsl);have key:Ij B' w L' v' (σ a.t):=by
     unfold Ij uf at hE;split at hE
     ·rename_i hA';obtain⟨cs,e1,hc⟩:=hE;obtain⟨_,g⟩:=nU hu hc;obtain⟨g1,g2⟩:=g B' w L' m v' hq hmu hA hp;unfold Ij;rw[g2,hA'];exact⟨cs,e1,g1⟩
     ·rename_i hA';obtain⟨_,g⟩:=nU hu hE;obtain⟨g1,g2⟩:=g B' w L' m v' hq hmu hA hp;unfold Ij;rw[g2,hA'];exact g1
    obtain⟨k1,k2⟩:=Ka key;exact(Jg.iff k1).2 k2
   split at h
   ·rename_i E e _;split at h
    ·rename_i v' hv';cases h;have hr2:=xU hr E e;exact⟨_,_,pB (s:=s.add (.arr E e [])) hr2 (Ahj _ _ (.own s.new) v' (λq c h=>Bd.step (λ_ h=>h) (λ_ _=>rfl) (XS.append _ _) h) (λc hc=>⟨e.size,E,_,[],by rw[S.new,hr.len];simp,hc⟩) rfl rfl hv')⟩
    ·cases h
   ·cases h;exact⟨A,L,hr⟩
   ·rename_i e _;split at h
    ·rename_i v' hv';cases h;exact⟨_,_,pB hr (Ahj _ _ (.val (.list e) []) v' (λq c h=>h) (λc hc=>D8 hc) rfl rfl hv')⟩
    ·cases h
   ·obtain⟨A',h1,_⟩:=dP hr h;exact⟨A',_,h1⟩
   ·cases h;exact⟨A,L,hr⟩
   ·cases h
  ·cases h
theorem U0:∀{l:List At} {s s':S} {A:Reg} {L:List MD},Rel Z s σs A L σ w->za s l=some s'->∃A' L',Rel Z s' σs A' L' σ w
 |[],s,s',A,L,hr,h=>by simp only[za,Ag2]at h;subst h;exact⟨A,L,hr⟩
 |a::l,s,s',A,L,hr,h=>by
  simp only[za]at h;split at h
  ·rename_i s1 h1;obtain⟨A1,L1,hr1⟩:=Ad6 hr h1;exact U0 hr1 h
  ·cases h
theorem Agr{lv:List Nat}{co:List At}{s':S}(hr:Rel Z s σs A L σ w)(h:s.cn lv co=some s'):∃A' L',Rel Z s' σs A' L' σ w:=by
 unfold S.cn at h;split at h
 ·rename_i s1 h1;cases h;obtain⟨A1,L1,hr1⟩:=U0 hr h1;obtain⟨L',hr2⟩:=Ab8 hr1 lv;exact⟨A1,L',hr2⟩
 ·cases h
end Go.Rx
namespace Go.Rx
open Go Go.Lv
variable {P:Program} {B B':Reg} {w w':World} {L L':List MD} {s:S} {σs:List Env} {σ:Env} {Z:Fix} {A A':Reg} {n:Nat} {ops:Array Oper}
variable {R:Type} {r:R} {T:Tab} {inl:xK R}
def kof(k:K R):Exit->S->Option R
 | .normal=>k.n| .exit id=>k.x id| .ret=>k.r|_=>λ_=>none
def QK(Z:Fix)(σs:List Env)(k:K R)(r:R)(e:Exit)(σ':Env)(w':World):Prop:=∃s' A' L',kof k e s'=some r/\Rel Z s' σs A' L' σ' w'
theorem S4(an:An){gl:List (Nat×List Value)}(hI:YJ P gl inl):YJ P gl (wY an inl):=by
 unfold wY;split
 ·intro Z hZ f as s k r σs A L σ w vs h hr ha;exact hI Z hZ f as _ k r σs A L σ w vs h (hr.Q7 rfl rfl (TP hr.mem.sl _)) ha
 ·exact hI
theorem Agy(O9:P.follows .mixedOrders=true)(hT:fN P T Z)(hI:YJ P T.gl inl):∀(c:Code) {an:An} {k:K R} {s:S} {A:Reg} {L:List MD} {σ:Env} {w:World},ex P T inl n c an k s=some r->Rel Z s σs A L σ w->W P n c (QK Z σs k r) σ w:=by
 intro c
 induction c with
 |skip=>intro an k s A L σ w h hr;exact W.skip ⟨s,A,L,h,hr⟩
 |ret=>intro an k s A L σ w h hr;exact W.ret ⟨s,A,L,h,hr⟩
 |exit id=>intro an k s A L σ w h hr;exact W.exit ⟨s,A,L,h,hr⟩
 |seq a b iha ihb=>
  intro an k s A L σ w h hr;refine W.seq (W.mono (iha (an:=an.l) (k:={k with n:=Aby an λs'=>ex P T inl n b an.r k s'}) h hr) ?_);rintro e σ' w' ⟨s',A',L',h1,hr'⟩;cases e with
  |normal=>
   have h2:Aby an (λs'=>ex P T inl n b an.r k s') s'=some r:=h1;unfold Aby at h2;split at h2
   ·split at h2
    ·rename_i s2 hs2;obtain⟨A2,L2,hr2⟩:=Agr hr' hs2;exact ihb h2 hr2
    ·cases h2
   ·exact ihb h2 hr'
  |exit id=>exact⟨s',A',L',h1,hr'⟩
  |ret=>exact⟨s',A',L',h1,hr'⟩
  |goto l=>exact⟨s',A',L',h1,hr'⟩
  |panic c=>exact⟨s',A',L',h1,hr'⟩
  |outgrown=>exact⟨s',A',L',h1,hr'⟩
 |cond c a b iha ihb=>
  intro an k s A L σ w h hr;simp only[ex]at h;split at h
  ·rename_i t hc;refine W.cond (gL hr.mem.sl hc) (λht=>?_) (λht=>?_)
   ·subst ht;exact iha (by simpa using h) hr
   ·subst ht;exact ihb (by simpa using h) hr
  ·cases h
 |block id a iha=>
  intro an k s A L σ w h hr;refine W.block (W.mono (iha (an:=an.l) (k:={k with x:=λid' s'=>Cl (Nat.beq id' id) (k.n s')<|k.x id' s'}) h hr) ?_);rintro e σ' w' ⟨s',A',L',h1,hr'⟩;cases e with
  |exit id'=>
   have h2:(Cl (Nat.beq id' id) (k.n s')<|k.x id' s')=some r:=h1;simp only[vR];by_cases hid:id'=id
   ·rw[Acz hid];subst hid;simp at h2;exact⟨s',A',L',h2,hr'⟩
   ·rw[Abe hid];have hb:Nat.beq id' id=false:=by
     cases hb:Nat.beq id' id with
     |false=>rfl
     |true=>exact absurd (Ck hb) hid
    rw[hb]at h2;exact⟨s',A',L',h2,hr'⟩
  |normal=>exact⟨s',A',L',h1,hr'⟩
  |ret=>exact⟨s',A',L',h1,hr'⟩
  |goto l=>exact⟨s',A',L',h1,hr'⟩
  |panic c=>exact⟨s',A',L',h1,hr'⟩
  |outgrown=>exact⟨s',A',L',h1,hr'⟩
 |loop a iha=>
  intro an k s A L σ w h hr;have head:∀(q:Nat) (s:S) (A:Reg) (L:List MD) (σ:Env) (w:World),tI an (iter an (λkn s'=>ex P T inl n a an.l {k with n:=kn} s') q) s=some r->Rel Z s σs A L σ w->
    ∃s' A' L',iter an (λkn s'=>ex P T inl n a an.l {k with n:=kn} s') q s'=some r/\Rel Z s' σs A' L' σ w:=by
   intro q s A L σ w h hr;unfold tI at h;split at h
   ·split at h
    ·rename_i s2 hs2;obtain⟨A2,L2,hr2⟩:=Agr hr hs2;exact⟨s2,A2,L2,h,hr2⟩
    ·cases h
   ·cases h
  refine W.loop (λq σ w=>∃s A L,iter an (λkn s'=>ex P T inl n a an.l {k with n:=kn} s') q s=some r/\Rel Z s σs A L σ w) Bt (head _ _ _ _ _ _ h hr) ?_;rintro q σ w ⟨s,A,L,h,hr⟩;cases q with
  |zero=>cases h
  |succ q=>
   refine W.mono (iha (k:={k with n:=tI an (iter an (λkn s'=>ex P T inl n a an.l {k with n:=kn} s') q)}) h hr) ?_;rintro e σ' w' ⟨s',A',L',h1,hr'⟩;cases e with
   |normal=>exact⟨q,Nat.lt_succ_self _,head q s' A' L' σ' w' h1 hr'⟩
   |exit id=>exact⟨s',A',L',h1,hr'⟩
   |ret=>exact⟨s',A',L',h1,hr'⟩
   |goto l=>exact⟨s',A',L',h1,hr'⟩
   |panic c=>exact⟨s',A',L',h1,hr'⟩
   |outgrown=>exact⟨s',A',L',h1,hr'⟩
 |region id ops draw=>
  intro an k s A L σ w h hr;cases draw with
  |false=>
   obtain⟨hd,h⟩:=Bb (show(Cl (gN ops.toList) (sK P T (wY an inl) n ops ops.toList s k.n)<|none)=some r from h);have h1:=yP (ops:=ops) hT (S4 an hI) hr (show sK P T (wY an inl) n ops ops.toList s k.n=some r from h);have hops:ops=ops.toList.toArray:=by simp
   rw[hops];exact W.region hd (by rw[<-hops];exact h1)
  |true=>
   obtain⟨hd,h⟩:=Bb (show(Cl (gN ops.toList) (QG P T (wY an inl) n (iT an) ops ops.size (Cl (iT an) (#[])<|Array.replicate ops.size true) (Array.replicate ops.size false) s k.n)<|none)=some r from h);refine W.Ae9 hd O9 (λ_=>True) (tw (Cl (iT an) (#[])<|Array.replicate ops.size true)) (λw' hw hg=>?_);have hr':Rel Z s σs A L σ w':=St.Aa5 hr hw hg;refine Ahz hT (S4 an hI) hr' h (λhm=> .inl ?_) (λ_ _ _=>trivial);rw[hm];simp[OS,tw]
 |rangeFunc=>intro an k s A L σ w h hr;cases h
 |scope=>intro an k s A L σ w h hr;cases h
 |label=>intro an k s A L σ w h hr;cases h
 |goto=>intro an k s A L σ w h hr;cases h
 |refuse=>intro an k s A L σ w h hr;cases h
theorem jf(hr:Rel Z s σs A L σ w){v:ResultVar}{p:PV}(h:M2 P s v=some p):∃u,QX P σ w v u/\Ij (λb=>A b/\Z.R b) w L p u:=by
 have hm:=hr.mem;cases v with
 |tmp t=>
  obtain⟨hp,h⟩:=Bb h;cases h;exact⟨σ t,rfl,SK hm.sl hp⟩
 |cell a t=>
  simp only[M2]at h;split at h
  ·rename_i i p' hsl;split at h
   ·rename_i T v0 hi;split at h
    ·rename_i u hu;obtain⟨hk,h⟩:=Bb h;cases h;have hs1:=Ub (t:=a) hm.sl;rw[hsl]at hs1;obtain⟨md,b,h1,h2,h3⟩:=Zs hs1;obtain⟨b',cells,h4,h5⟩:=hm.box hi;rw[h4]at h1;cases h1;cases h2;obtain⟨c1,c2,c3,e,h6,h7⟩:=WN hu h5;have hok:=Rb hk;obtain⟨d,hd,ha⟩:=hok.agg;have hlen:=h7.len;cases hA:p.isA with
     |true=>
      refine⟨.agg c2.toArray,QX.cells hr (hr.Ji h4) ⟨d,hd,ha.trans hA⟩ hok.size h3 ?_ hlen,by unfold Ij;rw[hA];exact⟨c2,rfl,h7⟩⟩;rw[e,<-h6,<-hlen];exact V0 rfl
     |false=>
      rw[hok.one hA]at hlen
      match c2,hlen with
      |[u],_=>exact⟨u,QX.cell hr (hr.Ji h4) ⟨d,hd,ha.trans hA⟩ h3 (by rw[e,<-h6];simp),by unfold Ij;rw[hA];exact h7⟩
    ·cases h
   ·cases h
  ·cases h
theorem iR(hr:Rel Z s σs A L σ w):∀{vs:List ResultVar} {ps:List PV},jP P s vs=some ps->∃us,bA P σ w vs us/\Gh (λb=>A b/\Z.R b) w L ps us
 |[],ps,h=>by simp only[jP,Ag2]at h;subst h;exact⟨[],trivial,rfl⟩
 |v::vs,ps,h=>by
  simp only[jP]at h;split at h
  ·rename_i p ps' hp hps;cases h;obtain⟨u,h1,h2⟩:=jf hr hp;obtain⟨us,h3,h4⟩:=iR hr hps;exact⟨u::us,⟨h1,h3⟩,u,us,rfl,h2,h4⟩
  ·cases h
theorem YG:∀{as:List PV} {vs:List Value} {m:Nat} {f:Nat->Value},Gh B w L as vs-> (∀i v,vs[i]? =some v->f (m+i)=v)->∀p∈DB m as,Jg B w L f p.1 p.2
 |[],vs,m,f,_,_,p,hp=>by simp[DB]at hp
 |a::as,vs,m,f,⟨v,vs',e,h1,h2⟩,hf,p,hp=>by
  subst e;simp only[DB]at hp;rcases List.mem_cons.1 hp with rfl|hp
  ·obtain⟨k1,k2⟩:=Ka (show Ij B w L a v from h1);refine(Jg.iff k1).2 ?_;have:=hf 0 v rfl;rw[Anq]at this;rw[this];exact k2
  ·exact YG h2 (λi v hi=>by have:=hf (i+1) v (by simpa using hi);rw[<-this];congr 1;omega) p hp
theorem tB{vs:List Value}{i:Nat}{v:Value}(h:vs[i]? =some v):mK vs i=v:=by simp[mK,List.getD_eq_getElem?_getD,h]
theorem Gh.length:∀{as:List PV} {vs:List Value},Gh B w L as vs->vs.length=as.length
 |[],vs,h=>by rw[show vs=[]from h];rfl
 |a::as,vs,⟨v,vs',e,h1,h2⟩=>by rw[e,Alh,Gh.length h2];rfl
theorem uH{f:Nat}{an:An}:∀{ans:List (Nat×An)},SQ.rB ans f=some an->∃a,(f,a)∈ans
 |[],h=>by simp[SQ.rB]at h
 |(g,a)::ans,h=>by
  simp only[SQ.rB]at h;cases hb:Nat.beq g f with
  |true=>have:=Ck hb;subst this;exact⟨a, .head _⟩
  |false=>rw[hb]at h;obtain⟨a',h1⟩:=uH h;exact⟨a', .tail _ h1⟩
theorem R3(O9:P.follows .mixedOrders=true)(hT:WV P T){ans:List (Nat×An)}(hA:∀p∈ans,Ent P p.1):∀(q:Nat),YJ (R:=R) P T.gl (SQ P T q ans)
 |0=>λZ hZ f as s k r σs A L σ w vs h hr ha=>by cases h
 |q+1=>λZ hZ f as s k r σs A L σ w vs h hr ha=>by
  have hI:=R3 O9 hT hA q;unfold SQ at h;split at h
  ·rename_i an fn han hfn;obtain⟨a,hmem⟩:=uH han;split at h
   ·cases h
   ·rename_i c hc;obtain⟨hle,h⟩:=Bb h;refine⟨hA _ hmem,?_⟩;have hr1:Rel Z ⟨DB 0 as,s.it,s.sl::s.st⟩ (σ::σs) A L (mK vs) w:=
     Rel.as hr (i:=1) rfl ⟨hr.mem.it,YG ha (λi v hi=>by rw[Amp];exact tB hi),hr.mem.sl,hr.mem.stk⟩ rfl
    refine qY (rs:=fn.results.toList) hfn hc rfl (by simp) (by rw[ha.length];exact hle) (W.mono (Agy O9 ⟨hT,hZ⟩ hI c h hr1) ?_);rintro e σ' w' ⟨s',A',L',h1,hr'⟩;have fin:SQ.tu P fn.results.toList k s'=some r->∃us,bA P σ' w' fn.results.toList us/\∃v p s'' A'' L'',Ending.returned (LR us)= .returned v/\k s'' p=some r/\Rel Z s'' σs A'' L'' σ w'/\p.isV=true/\Ei (λb=>A'' b/\Z.R b) w' L'' p v:=by
     intro h1;unfold SQ.tu at h1;split at h1
     ·rename_i ps sl st hps hst;obtain⟨us,h2,h3⟩:=iR hr' hps;obtain⟨h4,h5⟩:=C6 h3;have Ajc:=hr'.mem.stk;rw[hst]at Ajc;exact⟨us,h2,_,_,_,A',L',rfl,h1,Rel.as hr' (i:=1) rfl ⟨hr'.mem.it,Ajc.1,Ajc.2⟩ rfl,h4,h5⟩
     ·cases h1
    cases e with
    |normal=>exact⟨.inr rfl,fin h1⟩
    |ret=>exact⟨.inl rfl,fin h1⟩
    |exit id=>cases h1
    |goto l=>cases h1
    |panic c=>cases h1
    |outgrown=>cases h1
  ·cases h
end Go.Rx
namespace Go.Rx
open Go Go.Lv
variable {P:Program} {B B':Reg} {w w':World} {L L':List MD} {s:S} {σs:List Env} {σ:Env} {Z:Fix} {A A':Reg} {n:Nat} {ops:Array Oper}
variable {R:Type} {r:R} {T:Tab} {inl:xK R}
abbrev LS:=List (ET×Option TypeId)
def Hj:LS->List PV->Nat->List Nat
 |p::r,v::vs,c=>match p.2 with
  |none=>Hj r vs c
  |some _=>(match v with| .own i=>i|_=>c)::Hj r vs (c+1)
 |_,_,_=>[]
def SB:LS->List MD
 |p::r=>match p.2 with
  |none=>SB r
  |some E=>(match p.1 with| .list a=> .own a.size E (.slice none 0 0) []|_=> .dead)::SB r
 |[]=>[]
theorem Aas(h:Cv w A (L.map MD.Ji)):∀(ls:LS),Cv w A ((L++SB ls).map MD.Ji):=by
 have one:∀(m:MD) (ms:List MD),m.Ji.holds none w->Cv w A ((L++ms).map MD.Ji)->Cv w A ((L++m::ms).map MD.Ji):=by
  intro m ms hm h;have:Cv w A (m.Ji::(L++ms).map MD.Ji):=⟨none,hm,λb hb=>(by cases hb),h.HA λb hb=>hb.elim id (λh=>by cases h)⟩;refine this.perm ?_;rw[List.map_append,List.map_append,Ano];exact(List.perm_middle).symm
 intro ls
 induction ls with
 |nil=>simpa [SB]using h
 |cons p ls ih=>
  obtain⟨e,o⟩:=p;cases o with
  |none=>exact ih
  |some E=>cases e<;>exact one _ _ (by first|exact oI|exact⟨none,0,0,rfl,by simp,Ag9 _,λ_=>rfl,λ_=>rfl,λb h=>by cases h⟩) ih
theorem bV:∀{ls:LS} {vs:List PV} {seen:List Nat} {c:Nat},SR s ls vs seen=true->s.it.length<=c->distinct (Hj ls vs c)=true/\∀i∈Hj ls vs c,(i<s.it.length/\i∉seen)\/c<=i
 |[],[],_,_,_,_=>⟨rfl,by simp[Hj]⟩
 |[],_::_,_,_,h,_=>by simp[SR]at h
 |_::_,[],_,_,h,_=>by simp[SR]at h
 |(e,none)::ls,v::vs,seen,c,h,hc=>by
  simp only[SR,Ac9]at h;exact bV (ls:=ls) (vs:=vs) (seen:=seen) (c:=c) h.2 hc
 |(e,some E)::ls,v::vs,seen,c,h,hc=>by
  simp only[SR]at h;split at h
  ·obtain⟨h1,h2⟩:=bV h (c:=c+1) (by omega);refine⟨?_,λi hi=>?_⟩
   ·simp only[Hj,distinct,Ac9,Akv];refine⟨?_,h1⟩;cases hx:Zu c (Hj ls vs (c+1))with
    |false=>rfl
    |true=>rcases h2 c (BK.1 hx)with⟨h3,_⟩|h3<;>omega
   ·simp only[Hj,List.mem_cons]at hi;rcases hi with rfl|hi
    ·exact .inr (Ag9 _)
    ·rcases h2 i hi with h3|h3
     ·exact .inl h3
     ·exact .inr (by omega)
  ·rename_i a i;simp only[Ac9,Akv]at h;obtain⟨⟨h0,hit⟩,h⟩:=h;have hlt:i<s.it.length:=by
    split at hit
    ·rename_i E' a' l hi;exact(List.getElem?_eq_some_iff.1 (eP hi (by intro e;cases e))).1
    ·cases hit
   obtain⟨h1,h2⟩:=bV h (c:=c+1) (by omega);refine⟨?_,λj hj=>?_⟩
   ·simp only[Hj,distinct,Ac9,Akv];refine⟨?_,h1⟩;cases hx:Zu i (Hj ls vs (c+1))with
    |false=>rfl
    |true=>
     rcases h2 i (BK.1 hx)with⟨_,h3⟩|h3
     ·exact absurd (Alq) h3
     ·omega
   ·simp only[Hj,List.mem_cons]at hj;rcases hj with rfl|hj
    ·exact .inl ⟨hlt,λhm=>by have:=BK.2 hm;rw[h0]at this;cases this⟩
    ·rcases h2 j hj with⟨h3,h4⟩|h3
     ·exact .inl ⟨h3,λhm=>h4 (Ajo _ hm)⟩
     ·exact .inr (by omega)
  ·cases h
theorem Adn{e:ET}{q:PV}{x:e.T}(hr:Rel Z s σs A L σ w)(h:aY s e q=some x)(ho:owns q=[])(hb:e.qN=true->∀b,A b/\Z.R b->B' b){L':List MD}:WX (λb=>A b/\Z.R b) w L B' w L' q (.val e x):=by
 obtain⟨h1,h2⟩:=B2 (L':=L') hr h (B':=λb=>A b/\Z.R b) (λ_ h=>h) (λi hi=>by rw[ho]at hi;cases hi);refine⟨h1,λcs hcs=>?_⟩;have h3:Aq (λb=>A b/\Z.R b) w e x cs:=h2 cs hcs;cases hl:e.qN with
 |true=>exact Aq.step (hb hl) (λ_ _=>rfl) h3
 |false=>exact Aq.noL hl h3
theorem Adx{e:ET}{l:List e.T}{cs:List Value}(hb:e.qN=true->∀b,B b->B' b)(h:Bq (Aq B w e) l cs):Bq (Aq B' w e) l cs:=by
 cases hl:e.qN with
 |true=>exact h.mono λx c hx=>Aq.step (hb hl) (λ_ _=>rfl) hx
 |false=>exact h.mono λx c hx=>Aq.noL hl hx
theorem pG(hr:Rel Z s σs A L σ w){LP:List MD}(hP:∀(i:Nat) (m:MD),L[i]? =some m->LP[i]? =some m):∀(ls:LS) (vs:List PV) (y:JY ls) (seen:List Nat) (c:Nat) (s0:S) (Lx LF:List MD),
  SR s ls vs seen=true->NR s ls vs=some y-> (∀p∈ls,Aa6 p=true->∀b,A b/\Z.R b->B' b)-> (∀i m,(SB ls)[i]? =some m->LP[c+i]? =some m)->Lx.length=s0.it.length->LF=Lx++(Hj ls vs c).map (λi=>LP.getD i .dead)->
  ∃its,(Es ls y s0).2=⟨s0.sl,s0.it++its,s0.st⟩/\its.length=(Hj ls vs c).length/\All2 (WX (λb=>A b/\Z.R b) w L B' w LF) vs (Es ls y s0).1/\
   ∀(i:Nat) (a:Item) (m:MD),its[i]? =some a-> ((Hj ls vs c).map (λi=>LP.getD i .dead))[i]? =some m->Zv B' w LF a m
 |[],vs,y,seen,c,s0,Lx,LF,ho,hp,_,_,_,_=>by
  rw[A7 hp];refine⟨[],?_,rfl,All2.nil,λi a m h=>by simp at h⟩;rw[mZ];simp
 |p::ls,vs,y,seen,c,s0,Lx,LF,ho,hp,hb,hn,hlen,G4=>by
  have main:∀(v:PV) (vs':List PV) (x:p.1.T) (rest:S->List PV×S),vs=v::vs'->aY s p.1 v=some x->
    (Es (p::ls) y s0=((Eh p.1 p.2 x s0).1::(rest (Eh p.1 p.2 x s0).2).1,(rest (Eh p.1 p.2 x s0).2).2))->
    (∀(seen:List Nat) (c:Nat) (s1:S) (Lx:List MD),SR s ls vs' seen=true-> (∀i m,(SB ls)[i]? =some m->LP[c+i]? =some m)->Lx.length=s1.it.length->LF=Lx++(Hj ls vs' c).map (λi=>LP.getD i .dead)->
     ∃its,(rest s1).2=⟨s1.sl,s1.it++its,s1.st⟩/\its.length=(Hj ls vs' c).length/\All2 (WX (λb=>A b/\Z.R b) w L B' w LF) vs' (rest s1).1/\
      ∀(i:Nat) (a:Item) (m:MD),its[i]? =some a-> ((Hj ls vs' c).map (λi=>LP.getD i .dead))[i]? =some m->Zv B' w LF a m)->
    ∃its,(Es (p::ls) y s0).2=⟨s0.sl,s0.it++its,s0.st⟩/\its.length=(Hj (p::ls) vs c).length/\All2 (WX (λb=>A b/\Z.R b) w L B' w LF) vs (Es (p::ls) y s0).1/\
     ∀(i:Nat) (a:Item) (m:MD),its[i]? =some a-> ((Hj (p::ls) vs c).map (λi=>LP.getD i .dead))[i]? =some m->Zv B' w LF a m:=by
   intro v vs' x rest hvs hx hu hrest;subst hvs;rw[hu];have hbp:=hb p (.head _);obtain⟨e,o⟩:=p;cases o with
   |none=>
    simp only[SR,Ac9]at ho;have e1:Eh e none x s0=(.val e x,s0):=U3;simp only[e1];obtain⟨its,h1,h2,h3,h4⟩:=hrest seen c s0 Lx ho.2 hn hlen G4;refine⟨its,h1,h2, .cons (Adn hr hx (isEmpty_nil ho.1) (λhl=>hbp ?_)) h3,h4⟩;cases e<;>first|exact hl|cases hl
   |some E=>
    simp only[SR]at ho;split at ho
    ·
     rename_i a;have hx':x=[]:=by
      have:elems s a .nils=some x:=hx;simpa [elems]using this.symm
     subst hx';have hc:LP[c]? =some (.own a.size E (.slice none 0 0) []):=hn 0 _ rfl;have e1:Eh (.list a) (some E) [] s0=(.own s0.new,s0.add (.arr E a [])):=rfl;simp only[e1];obtain⟨its,h1,h2,h3,h4⟩:=hrest seen (c+1) (s0.add (.arr E a [])) (Lx++[.own a.size E (.slice none 0 0) []]) ho (λi m hi=>by rw[Alo,Aor 1 i];exact hn (i+1) m (by simpa [SB]using hi))
      (by simp[S.add,hlen]) (by rw[G4];simp[Hj,List.getD_eq_getElem?_getD,hc])
     refine⟨.arr E a []::its,by rw[h1];simp[S.add],by simp[Hj,h2], .cons ⟨rfl,λcs hcs=>?_⟩ h3,λi b m hi hm=>?_⟩
     ·refine⟨a.size,E, .slice none 0 0,[],?_,hcs⟩;rw[G4,S.new,<-hlen];simp[Hj,List.getD_eq_getElem?_getD,hc]
     ·cases i with
      |zero=>
       simp[Hj,List.getD_eq_getElem?_getD,hc]at hi hm;subst hi hm;exact⟨rfl,rfl,rfl⟩
      |succ i=>exact h4 i b m (by simpa using hi) (by simpa [Hj]using hm)
    ·
     rename_i a i;simp only[Ac9,Akv]at ho;obtain⟨⟨h0,hit⟩,ho⟩:=ho;split at hit
     ·rename_i E' a' l hi;simp only[Ac9,Ada]at hit;obtain⟨hE,rfl⟩:=hit;have:=Ck hE;subst this;obtain⟨u,cs0,g1,g2⟩:=hr.mem.arr hi;have hx':x=l:=by
       have:elems s a' (.own i)=some x:=hx;simp[elems,hi]at this;exact this.symm
      subst hx';have hc:LP[i]? =some (.own a'.size E' u cs0):=hP i _ g1;have e1:Eh (.list a') (some E') x s0=(.own s0.new,s0.add (.arr E' a' x)):=rfl;simp only[e1];obtain⟨its,h1,h2,h3,h4⟩:=hrest (i::seen) (c+1) (s0.add (.arr E' a' x)) (Lx++[.own a'.size E' u cs0]) ho (λi m hi=>by rw[Alo,Aor 1 i];exact hn (i+1) m (by simpa [SB]using hi))
       (by simp[S.add,hlen]) (by rw[G4];simp[Hj,List.getD_eq_getElem?_getD,hc])
      refine⟨.arr E' a' x::its,by rw[h1];simp[S.add],by simp[Hj,h2], .cons ⟨rfl,λcs hcs=>?_⟩ h3,λq b m hq hm=>?_⟩
      ·obtain⟨z,E2,v2,c2,k1,k2⟩:=hcs;rw[g1]at k1;cases k1;refine⟨a'.size,E',u,cs0,?_,k2⟩;rw[G4,S.new,<-hlen];simp[Hj,List.getD_eq_getElem?_getD,hc]
      ·cases q with
       |zero=>
        simp[Hj,List.getD_eq_getElem?_getD,hc]at hq hm;subst hq hm;exact⟨rfl,rfl,Adx hbp g2⟩
       |succ q=>exact h4 q b m (by simpa using hq) (by simpa [Hj]using hm)
     ·cases hit
    ·cases ho
  cases ls with
  |nil=>
   obtain⟨v,rfl,hx⟩:=zB hp;exact main v [] y (λs1=>([],s1)) rfl hx (UB p y s0) (λseen c s1 Lx _ _ hlen G4=>⟨[],by simp,rfl,All2.nil,λi a m h=>by simp at h⟩)
  |cons q r=>
   obtain⟨v,vs',x,y',rfl,rfl,hx,hy⟩:=tN hp;exact main v vs' x (λs1=>Es (q::r) y' s1) rfl hx (QC p q r x y' s0)
    (λseen c s1 Lx ho hn hlen G4=>pG hr hP (q::r) vs' y' seen c s1 Lx LF ho hy (λp hp=>hb p (.tail _ hp)) hn hlen G4)
theorem Xa{e:ET}{x:e.T}{cs:List Value}(h:Aq B w e x cs):Aq (λb=>b<w.heap.size/\B b) w e x cs:=
 match e,x,h with
 | .int _,_,h=>h
 | .bool,_,h=>h
 | .str,_,h=>h
 | .list _,_,⟨v,c0,h1,h2,h3⟩=>⟨v,c0,h1,h2.start,h3.mono λ_ _ h=>Xa h⟩
 | .vec _ _,_,⟨h1,h2⟩=>⟨h1,h2.mono λ_ _ h=>Xa h⟩
 | .cons _ _,_,⟨c1,c2,e,h1,h2⟩=>⟨c1,c2,e,Xa h1,Xa h2⟩
 | .nil,_,h=>h
def Cf:PV->Bool
 | .val _ _=>true
 | .own _=>true
 | .agg l=>go l
 |_=>false
where go:List PV->Bool
 |[]=>true
 |a::r=>Cf a&&go r
mutual
theorem sS:∀{p:PV} {cs:List Value},Cf p=true->Bd B w L p cs->Bd (λb=>b<w.heap.size/\B b) w L p cs
 | .val e x,cs,_,h=>Xa (show Aq B w e x cs from h)
 | .own i,cs,_,h=>h
 | .agg l,cs,hv,h=>pU hv (show Bd.go B w L l cs from h)
 | .tup _,_,hv,_=>by cases hv
 | .nils,_,hv,_=>by cases hv
 | .ptr _ _,_,hv,_=>by cases hv
 | .view _ _ _ _ _ _,_,hv,_=>by cases hv
 | .rptr _,_,hv,_=>by cases hv
 | .fn _ _,_,hv,_=>by cases hv
 | .cst _,_,hv,_=>by cases hv
 | .any,_,hv,_=>by cases hv
 | .gd _ _ _,_,hv,_=>by cases hv
 | .off,_,hv,_=>by cases hv
 | .undef,_,hv,_=>by cases hv
theorem pU:∀{l:List PV} {cs:List Value},Cf.go l=true->Bd.go B w L l cs->Bd.go (λb=>b<w.heap.size/\B b) w L l cs
 |[],cs,_,h=>h
 |a::l,cs,hv,⟨c1,c2,e,h1,h2⟩=>by
  simp only[Cf.go,Ac9]at hv;exact⟨c1,c2,e,sS hv.1 h1,pU hv.2 h2⟩
end
theorem mM:∀{l:List PV} {vs:List Value},Cf.go l=true->Gh B w L l vs->Gh (λb=>b<w.heap.size/\B b) w L l vs
 |[],vs,_,h=>h
 |a::l,vs,hv,⟨v,vs',e,h1,h2⟩=>by
  simp only[Cf.go,Ac9]at hv;exact⟨v,vs',e,h1.mono λc h=>sS hv.1 h,mM hv.2 h2⟩
theorem lF{e:ET}{o:Option TypeId}{x:e.T}{s0:S}:Cf (Eh e o x s0).1=true:=by
 unfold Eh;split<;>rfl
theorem jV{e:ET}{o:Option TypeId}{x:e.T}{s0:S}(h:∀a∈s0.it,∃E e' l,a= .arr E e' l):∀a∈(Eh e o x s0).2.it,∃E e' l,a= .arr E e' l:=by
 unfold Eh;split
 ·intro a ha;simp only[S.add,List.mem_append,List.mem_singleton]at ha;rcases ha with ha|ha
  ·exact h a ha
  ·exact⟨_,_,_,ha⟩
 ·exact h
theorem qQ:∀(ls:LS) (x:JY ls) (s0:S),Cf.go (Es ls x s0).1=true
 |[],x,s0=>rfl
 |[p],x,s0=>by
  rw[UB];have h1:Cf (Eh p.1 p.2 x s0).1=true:=lF;simp only[Cf.go,h1];rfl
 |p::q::r,(x,y),s0=>by
  rw[QC];have h1:Cf (Eh p.1 p.2 x s0).1=true:=lF;simp only[Cf.go,h1,qQ (q::r) y _];rfl
theorem qU:∀(ls:LS) (x:JY ls) (s0:S),(∀a∈s0.it,∃E e' l,a= .arr E e' l)->∀a∈(Es ls x s0).2.it,∃E e' l,a= .arr E e' l
 |[],x,s0,h=>h
 |[p],x,s0,h=>by rw[UB];exact jV h
 |p::q::r,(x,y),s0,h=>by rw[QC];exact qU (q::r) y _ (jV h)
mutual
theorem jl:∀{sh:Sh} {vs r:List PV} {u:PV},Tl sh vs=some (u,r)->Cf.go vs=true->Cf u=true/\Cf.go r=true
 | .lf e o,v::vs,r,u,h,hv=>by
  simp only[Tl,Ag2,Aly]at h;obtain⟨rfl,rfl⟩:=h;simpa [Cf.go]using hv
 | .lf e o,[],r,u,h,hv=>by simp[Tl]at h
 | .agg l,vs,r,u,h,hv=>by
  simp only[Tl]at h;split at h
  ·rename_i us r' h1;cases h;exact eJ h1 hv
  ·cases h
theorem eJ:∀{l:List Sh} {vs r us:List PV},Tl.go l vs=some (us,r)->Cf.go vs=true->Cf.go us=true/\Cf.go r=true
 |[],vs,r,us,h,hv=>by
  simp only[Tl.go,Ag2,Aly]at h;obtain⟨rfl,rfl⟩:=h;exact⟨rfl,hv⟩
 |a::l,vs,r,us,h,hv=>by
  simp only[Tl.go]at h;split at h
  ·rename_i u vs' h1;split at h
   ·rename_i us' vs'' h2;cases h;obtain⟨g1,g2⟩:=jl h1 hv;obtain⟨g3,g4⟩:=eJ h2 g2;exact⟨by simp[Cf.go,g1,g3],g4⟩
   ·cases h
  ·cases h
end
theorem Acm{rs:List Sh}{p:ET×Option TypeId}(hp:p∈Yj rs)(h:Aa6 p=true):Af3 rs=true:=by
 unfold Af3;exact List.any_eq_true.2 ⟨p,hp,h⟩
theorem gB{f:Nat}{fn:Func}{ps rs:List Sh}{F:JY (Yj ps)->Option (JY (Yj rs))}{RUN:S->Option (JY (Yj rs))}(hE:Ent P f)
  (hrun:∀x y pvs,args ps x=some pvs->F x=some y->RUN ⟨DB 0 pvs,G0 ps x,[]⟩=some y)
  (Ajd:∀(Z:Fix) (A:Reg) (L:List MD) (w:World) (s:S) (y:JY (Yj rs)) (vs:List Value) (Q:Ending->World->Prop),Z.gl=T.gl->Rel Z s [] A L (mK vs) w->vs.length=ps.length->RUN s=some y->
   (∀s' A' L' σ' w',uY P rs fn.results.toList s'=some y->Rel Z s' [] A' L' σ' w'->∃us,bA P σ' w' fn.results.toList us/\Q (.returned (LR us)) w')->Calls P f vs.toArray w Q):ConOk P T.gl f ⟨ps,rs,F⟩:=by
 refine⟨hE,λR N w L0 vs pvs x y hx Alm Agi Aln hvs hgl hy=>?_⟩;have hx':args ps x=some pvs:=hx;have hy':=hrun x y pvs hx' hy
 ·let Z:Fix:=⟨λb=>((R b/\N b)\/∃p∈T.gl,p.1=b)\/ ¬N b\/w.heap.size<=b,λb=>¬N b,w,λb hb=> .inr (.inr hb),λb hb=> .inr (.inl hb),T.gl,λp hp=>⟨.inl (.inr ⟨p,hp,rfl⟩),λh=>h (hgl p hp).2.1,(hgl p hp).1,(hgl p hp).2.2⟩⟩
  have hval:Cf.go pvs=true:=by
   unfold args YR at hx';split at hx'
   ·rename_i us hs;cases hx';exact(eJ hs (qQ _ _ _)).1
   ·cases hx'
  have Amz:Gh (λb=>(b<w.heap.size/\N b)/\Z.R b) w L0 pvs vs:=Gh.step (λb hb=>⟨⟨hb.1,hb.2.2⟩, .inl (.inl hb.2)⟩) (λ_ _=>rfl) (.refl L0) (mM hval hvs);have hst:St (λb=>b<w.heap.size/\N b) w [.old Z.M Z.w0] (L0.map MD.Ji):=by
   refine⟨λb hb=>hb.1,λf hf=>?_,Aln.HA λb hb=>hb.2⟩;cases hf with
   |head=>exact⟨.refl _,λb hb hM=>⟨⟨hb,Classical.not_not.1 hM⟩,rfl⟩⟩
   |tail _ h=>cases h
  have hr:Rel Z ⟨DB 0 pvs,G0 ps x,[]⟩ [] (λb=>b<w.heap.size/\N b) L0 (mK vs) w:=
   Rel.as (L:=L0) hst (i:=0) rfl ⟨⟨Alm,λi a m h1 h2=>by
    have h3:=Agi i a m h1 h2;obtain⟨E,e',l,rfl⟩:=qU (Yj ps) x ⟨[],[],[]⟩ (by simp) a (List.mem_of_getElem? h1);cases m with
    |dead=>exact h3
    |box _ _ _=>exact h3
    |own z E2 v2 c2=>exact⟨h3.1,h3.2.1,h3.2.2.mono λx c h=>Aq.step (λb hb=>⟨⟨hb.1,hb.2.2⟩, .inl (.inl hb.2)⟩) (λ_ _=>rfl) (Xa h)⟩⟩,
    YG Amz (λi v hi=>by rw[Amp];exact tB hi),trivial⟩ rfl
  have hlen:vs.length=pvs.length:=hvs.length;have hpl:pvs.length=ps.length:=by
   unfold args YR at hx';split at hx'
   ·rename_i us hs;cases hx';have key:∀(l:List Sh) (vs r us:List PV),Tl.go l vs=some (us,r)->us.length=l.length:=by
     intro l
     induction l with
     |nil=>intro vs r us h;simp only[Tl.go,Ag2,Aly]at h;obtain⟨rfl,_⟩:=h;rfl
     |cons a l ih=>
      intro vs r us h;simp only[Tl.go]at h;split at h
      ·split at h
       ·rename_i h2;cases h;simp[ih _ _ _ h2]
       ·cases h
      ·cases h
    exact key _ _ _ _ hs
   ·cases hx'
  refine Ajd Z _ _ w _ y vs _ rfl hr (hlen.trans hpl) hy' ?_;intro s' A' L' σ' w' h1 hr';have fin:uY P rs fn.results.toList s'=some y->∃us,bA P σ' w' fn.results.toList us/\∃us',Ending.returned (LR us)= .returned (LR us')/\Ag6 T.gl R N w w' rs y us':=by
   intro h1;unfold uY at h1;split at h1
   ·cases h1
   ·rename_i ls0 Ali;split at h1
    ·cases h1
    ·rename_i s1 hs1;obtain⟨A1,L1,hr1,_⟩:=Rk hr' hs1;split at h1
     ·rename_i ls hls;obtain⟨ho,h1⟩:=Bb h1;unfold Ai1 at hls;split at hls
      ·rename_i vs1 Am0;obtain⟨us,hus,huv⟩:=iR hr1 Am0;refine⟨us,hus,us,rfl,?_⟩;have hold:=hr1.fact 1 (f:= .old Z.M Z.w0) rfl;have hA:∀b,b<w.heap.size->N b->A1 b:=λb hb hN=>(hold.2 b hb (λh=>h hN)).1;have hkeep:KeepN N w w':=⟨λb hb hN=>(hold.2 b hb (λh=>h hN)).2,hold.1⟩;have lM:=Aas (St.mobs hr1) (Yj rs);obtain⟨hd,hidx⟩:=bV (s:=s1) (c:=L1.length) ho (by rw[hr1.len];exact Ag9 _);refine⟨hkeep,λb=>A1 b/\ (¬N b\/w.heap.size<=b),(Hj (Yj rs) ls L1.length).map (λi=>(L1++SB (Yj rs)).getD i .dead),λb hb=>⟨hb.2,St.lt hr1 b hb.1⟩,?_,?_⟩
       ·refine(sG lM hd).HA ?_;rintro b (hb|hb)
        ·exact hb.1
        ·exact hA b hb.1 hb.2
       ·intro s0 L0 B' hL0 hB1 hB2;obtain⟨its,g1,g2,g3,g4⟩:=pG hr1 (B':=B') (LP:=L1++SB (Yj rs)) (λi m hi=>by rw[List.getElem?_append_left (List.getElem?_eq_some_iff.1 hi).1];exact hi) (Yj rs) ls y [] L1.length s0 L0 _ ho h1
         (λp hp hl b hb=>by
          rcases hb.2 with hR|hN
          ·exact hB2 (Acm hp hl) b hR
          ·exact hB1 b ⟨hb.1,hN⟩)
         (λi m hi=>by rw[List.getElem?_append_right (by omega),An7];exact hi) hL0 rfl
        obtain⟨ps',g5,g6⟩:=gV hls huv g3;exact⟨ps',its,g1,g5,g6,by rw[g2];simp,g4⟩
      ·cases hls
     ·cases h1
  obtain⟨us,k1,us',k2,k3⟩:=fin h1;exact⟨us,k1,us',k2,k3⟩
theorem I0(O9:P.follows .mixedOrders=true){f:Nat}{fn:Func}{ans:List (Nat×An)}{an:An}{ps rs:List Sh}{F:JY (Yj ps)->Option (JY (Yj rs))}(hf:P.funcs[f]? =some fn)(hE:Ent P f)(hT:WV P T)(hA:∀p∈ans,Ent P p.1)
  (hle:Nat.ble ps.length fn.ntmps=true) (h:∀x,run P T ans fn an ps rs x=F x):ConOk P T.gl f ⟨ps,rs,F⟩:=by
 cases hc:fn.body with
 |none=>
  refine gB (RUN:=λ_=>none) (fn:=fn) hE (λx y pvs hx hy=>?_) (λ_ _ _ _ _ _ _ _ _ _ _ h=>by cases h);rw[<-h x]at hy;unfold run at hy;rw[hc]at hy;exact hy
 |some c=>
  refine gB (T:=T) (fn:=fn) (RUN:=ex P T (SQ P T 8 ans) fn.ntmps c an {n:=uY P rs fn.results.toList,x:=λ_ _=>none,r:=uY P rs fn.results.toList}) hE (λx y pvs hx hy=>?_) ?_
  ·rw[<-h x]at hy;unfold run at hy;rw[hc,hx]at hy;exact hy
  ·intro Z A L w s y vs Q hZ hr hl hy fin;refine qY (rs:=fn.results.toList) hf hc rfl (by simp) (by rw[hl];exact hle) (W.mono (Agy O9 ⟨hT,hZ⟩ (R3 O9 hT hA 8) c hy hr) ?_);rintro e σ' w' ⟨s',A',L',h1,hr'⟩;cases e with
   |normal=>exact⟨.inr rfl,fin s' A' L' σ' w' h1 hr'⟩
   |ret=>exact⟨.inl rfl,fin s' A' L' σ' w' h1 hr'⟩
   |exit id=>cases h1
   |goto l=>cases h1
   |panic c=>cases h1
   |outgrown=>cases h1
end Go.Rx
namespace Go.Rx
open Go Go.Lv
structure Pt (R:Type)where
 q:Nat
 n:Nat
 c:Code
 an:An
 k:K R
inductive PS (R:Type)|l|r|d|lp (kn:S->Option R)|call (i f:Nat)|dcall (i f fuel:Nat) (z listed:Array Bool)
def I8(f:Func):Code:=match f.body with|some c=>c|none=> .skip
variable {R:Type}
noncomputable def Pt.e(P:Program)(T:Tab)(ans:List (Nat×An))(p:Pt R)(s:S):Option R:=match p.c with
 | .loop _=>ex P T (SQ P T p.q ans) p.n p.c p.an p.k s
 |_=>hold (λs=>ex P T (SQ P T p.q ans) p.n p.c p.an p.k s) s
noncomputable def Pt.it(P:Program)(T:Tab)(ans:List (Nat×An))(p:Pt R)(q:Nat)(s:S):Option R:=match p.c with
 | .loop a=>iter p.an (λkn s'=>ex P T (SQ P T p.q ans) p.n a p.an.l {p.k with n:=kn} s') q s
 |_=>none
noncomputable def Pt.step(P:Program)(T:Tab)(ans:List (Nat×An))(p:Pt R):PS R->Pt R
 | .l=>match p.c with
  | .seq a b=>⟨p.q,p.n,a,p.an.l,{p.k with n:=Aby p.an λs'=>ex P T (SQ P T p.q ans) p.n b p.an.r p.k s'}⟩
  | .cond _ a _=>⟨p.q,p.n,a,p.an.l,p.k⟩
  |_=>p
 | .r=>match p.c with
  | .seq _ b=>⟨p.q,p.n,b,p.an.r,p.k⟩
  | .cond _ _ b=>⟨p.q,p.n,b,p.an.r,p.k⟩
  |_=>p
 | .d=>match p.c with
  | .block id a=>⟨p.q,p.n,a,p.an.l,{p.k with x:=λid' s'=>Cl (Nat.beq id' id) (p.k.n s')<|p.k.x id' s'}⟩
  |_=>p
 | .lp kn=>match p.c with
  | .loop a=>⟨p.q,p.n,a,p.an.l,{p.k with n:=tI p.an kn}⟩
  |_=>p
 | .call i f=>match p.c,p.q,P.funcs[f]?,SQ.rB ans f with
  | .region _ ops false,q+1,some fn,some an=>
   let fin:=SQ.tu P fn.results.toList λs v=>sK P T (wY p.an (SQ P T (q+1) ans)) p.n ops (ops.toList.drop (i+1)) (s.Gj ((ops[i]?).bind (·.dst)) v) p.k.n
   ⟨q,fn.ntmps,I8 fn,an,{n:=fin,x:=λ_ _=>none,r:=fin}⟩
  |_,_,_,_=>p
 | .dcall i f fuel z listed=>match p.c,p.q,P.funcs[f]?,SQ.rB ans f with
  | .region _ ops true,q+1,some fn,some an=>
   let fin:=SQ.tu P fn.results.toList λs v=>QG P T (wY p.an (SQ P T (q+1) ans)) p.n (iT p.an) ops fuel z listed (s.Gj ((ops[i]?).bind (·.dst)) v) p.k.n
   ⟨q,fn.ntmps,I8 fn,an,{n:=fin,x:=λ_ _=>none,r:=fin}⟩
  |_,_,_,_=>p
noncomputable def Pt.at(P:Program)(T:Tab)(ans:List (Nat×An)):Pt R->List (PS R)->Pt R
 |p,[]=>p
 |p,x::l=>Pt.at P T ans (p.step P T ans x) l
noncomputable def Pt.root(P:Program)(fn:Func)(an:An)(rs:List Sh):Pt (JY (Yj rs)):=
 ⟨8,fn.ntmps,I8 fn,an,{n:=uY P rs fn.results.toList,x:=λ_ _=>none,r:=uY P rs fn.results.toList}⟩
noncomputable def PE(P:Program)(T:Tab)(ans:List (Nat×An))(fn:Func)(an:An)(rs:List Sh)(l:List (PS (JY (Yj rs))))(s:S):Option (JY (Yj rs)):=(Pt.at P T ans (Pt.root P fn an rs) l).e P T ans s
noncomputable def PI(P:Program)(T:Tab)(ans:List (Nat×An))(fn:Func)(an:An)(rs:List Sh)(l:List (PS (JY (Yj rs))))(q:Nat)(s:S):Option (JY (Yj rs)):=(Pt.at P T ans (Pt.root P fn an rs) l).it P T ans q s
theorem qM(a:Option R):both a [a,a]=a:=by simp[both]
theorem oM(a:Option R):both a [a,a,a]=a:=by simp[both]
end Go.Rx
namespace Go.Rx
open Go Go.Lv
theorem ConOk.mono{P:Program}{gl gl':List (Nat×List Value)}{f:Nat}{c:Con}(h:ConOk P gl f c)(hs:gl.Sublist gl'):ConOk P gl' f c:=by
 refine⟨h.ent,λR N w L0 vs ps x y h1 h2 h3 h4 h5 h6 h7=>(h.ok R N w L0 vs ps x y h1 h2 h3 h4 h5 (λp hp=>h6 p (hs.subset hp)) h7).mono ?_⟩;rintro e w' ⟨us,he,hk,A1,L1,g1,g2,g3⟩;exact⟨us,he,hk,A1,L1,g1,g2,λs L B' k1 k2 k3=>g3 s L B' k1 k2 λhr b hb=>k3 hr b (hb.imp id λ⟨p,hp,he⟩=>⟨p,hs.subset hp,he⟩)⟩
theorem WV.nil{P:Program}{gl:List (Nat×List Value)}{vw:Bool}:WV P ⟨[],gl,vw⟩:=λf c h=>by cases h
theorem WV.cons{P:Program}{g:Nat}{c:Con}{r:List (Nat×Con)}{gl:List (Nat×List Value)}{vw:Bool}(h:ConOk P gl g c)(hr:WV P ⟨r,gl,vw⟩):WV P ⟨(g,c)::r,gl,vw⟩:=λf c' h'=>by
 simp only[Tab.get,Ahu]at h';cases hb:Nat.beq g f with
 |true=>
  rw[hb]at h';have:=Ck hb;subst this;cases h';exact h
 |false=>rw[hb]at h';exact hr f c' h'
theorem Ri.nil{P:Program}:∀p∈([]:List (Nat×An)),Ent P p.1:=by simp
theorem Ri.cons{P:Program}{g:Nat}{a:An}{r:List (Nat×An)}(h:Ent P g)(hr:∀p∈r,Ent P p.1):∀p∈(g,a)::r,Ent P p.1:=by
 intro p hp;rcases List.mem_cons.1 hp with rfl|hp
 ·exact h
 ·exact hr p hp
end Go.Rx
namespace Go.Rx
variable {R α:Type}
theorem Ma{a b c:Option R}(h:a=c)(h1:b=c):both a [b]=c:=by subst h;subst h1;exact iK _
theorem Lo{a b d c:Option R}(h:a=c)(h1:b=c)(h2:d=c):both a [b,d]=c:=by subst h;subst h1;subst h2;exact qM _
theorem Mc{a b d e c:Option R}(h:a=c)(h1:b=c)(h2:d=c)(h3:e=c):both a [b,d,e]=c:=by subst h;subst h1;subst h2;subst h3;exact oM _
theorem Tg{l:List α}{a b c:Option R}(h:l=[]->a=c)(h1:b=c):uQ l a b=c:=by subst h1;exact Af9 h
theorem Rr{o:Option α}{f g:α->Option R}(h:∀x,f x=g x):Option.bind o f=Option.bind o g:=by rw[funext h]
theorem Gl{o:Option α}{f:α->Option R}{t:Option R}(h:o=none->none=t)(h1:∀x,o=some x->f x=t):Option.bind o f=t:=by
 cases o with
 |none=>exact h rfl
 |some x=>exact h1 x rfl
theorem So(f:α->Option R):Option.bind none f=none:=rfl
theorem Du(x:α)(f:α->Option R):Option.bind (some x) f=f x:=rfl
theorem Dq(o:Option α):Option.bind o (λ_=>(none:Option R))=none:=by cases o<;>rfl
theorem AN{c:Prop} [Decidable c]{a b a' b':Option R}(h:c->a=a')(h1:¬c->b=b'):(if c then a else b)=if c then a' else b':=by
 by_cases hc:c
 ·rw[Acz hc,Acz hc];exact h hc
 ·rw[Abe hc,Abe hc];exact h1 hc
theorem Jb{c:Prop} [Decidable c]{a b t:Option R}(h:c->a=t)(h1:¬c->b=t):(if c then a else b)=t:=by
 by_cases hc:c
 ·rw[Acz hc];exact h hc
 ·rw[Abe hc];exact h1 hc
abbrev vi(x:Int):PV:= .val (.int .i64) x
abbrev vc(x:UInt8):PV:= .val (.int .u8) x
abbrev vu(x:UInt32):PV:= .val (.int .u32) x
abbrev vq(x:UInt64):PV:= .val (.int .u64) x
abbrev vx(x:Int32):PV:= .val (.int .i32) x
abbrev vt(x:Bool):PV:= .val .bool x
abbrev vs(x:List UInt8):PV:= .val .str x
abbrev vb(x:List UInt8):PV:= .val (.list (.int .u8)) x
abbrev vl(x:List Int):PV:= .val (.list (.int .i64)) x
abbrev vw(x:List Int32):PV:= .val (.list (.int .i32)) x
abbrev vv(x:List UInt32):PV:= .val (.list (.int .u32)) x
end Go.Rx
namespace Go.Rx
open Go Go.Lv
structure Hd where
 p:List Sh
 r:List Sh
 a:An
 T:Tab
 s:List (Nat×An)
 f:Func
noncomputable def Hd.e(P:Program)(H:Hd):List (PS (JY (Yj H.r)))->S->Option (JY (Yj H.r)):=PE P H.T H.s H.f H.a H.r
noncomputable def Hd.i(P:Program)(H:Hd):List (PS (JY (Yj H.r)))->Nat->S->Option (JY (Yj H.r)):=PI P H.T H.s H.f H.a H.r
noncomputable def Hd.u(P:Program)(H:Hd)(x:JY (Yj H.p)):Option (JY (Yj H.r)):=run P H.T H.s H.f H.a H.p H.r x
def okH(H:Hd):Bool:=(!(H.f.name== "runtime.NumGoroutine")&&H.f.body.isSome)&&Nat.ble H.p.length H.f.ntmps
theorem Hd.con{P:Program}(hM:P.follows .mixedOrders=true)(H:Hd){f:Nat}{F:JY (Yj H.p)->Option (JY (Yj H.r))}(hf:P.funcs[f]? =some H.f)(hT:WV P H.T)(hA:∀p∈H.s,Ent P p.1)
  (hb:okH H=true) (h:∀x,H.u P x=F x):ConOk P H.T.gl f ⟨H.p,H.r,F⟩:=by
 simp only[okH,Ac9,Akv]at hb;obtain⟨c,hc⟩:=Option.isSome_iff_exists.1 hb.1.2;exact I0 (T:=H.T) hM hf (Ent.mk hf hb.1.1 hc) hT hA hb.2 h
theorem Hd.Al9{P:Program}(hM:P.follows .mixedOrders=true)(H:Hd){f:Nat}{F:JY (Yj H.p)->Option (JY (Yj H.r))}(hf:P.funcs[f]? =some H.f)(hT:WV P H.T)
  (hb:(H.s.isEmpty&&okH H)=true) (h:∀x,H.u P x=F x):ConOk P H.T.gl f ⟨H.p,H.r,F⟩:=by
 rw[Ac9,List.isEmpty_iff]at hb;exact Hd.con hM H hf hT (λp hp=>by rw[hb.1]at hp;cases hp) hb.2 h
theorem ind{p:Nat->Prop}(h:p 0)(hs:∀q,p q->p (q+1)):∀q,p q:=λq=>Nat.rec h hs q
variable {R α:Type}
noncomputable abbrev bo(a:Option R):Option R:=both a [a]
noncomputable abbrev bo2(a:Option R):Option R:=both a [a,a]
theorem aR(a:Option R):both a [a]=a:=iK a
theorem MS(a:Option R):both a [a,a]=a:=qM a
theorem OY(a:Option R):both a [a,a,a]=a:=oM a
abbrev Si:Sh:= .lf (.int .i64) none
abbrev Sc:Sh:= .lf (.int .u8) none
abbrev Su:Sh:= .lf (.int .u32) none
abbrev Sq:Sh:= .lf (.int .u64) none
abbrev Sx:Sh:= .lf (.int .i32) none
abbrev Sz:Sh:= .lf .bool none
abbrev Ss:Sh:= .lf .str none
abbrev Sb:Sh:= .lf (.list (.int .u8)) none
abbrev Sl:Sh:= .lf (.list (.int .i64)) none
abbrev Sw:Sh:= .lf (.list (.int .i32)) none
abbrev Sv:Sh:= .lf (.list (.int .u32)) none
abbrev Ob(e:Nat):Sh:= .lf (.list (.int .u8)) (some e)
abbrev Ol(e:Nat):Sh:= .lf (.list (.int .i64)) (some e)
abbrev Ow(e:Nat):Sh:= .lf (.list (.int .i32)) (some e)
abbrev Ov(e:Nat):Sh:= .lf (.list (.int .u32)) (some e)
abbrev Ai(e:Nat)(l:List Int):Item:= .arr e (.int .i64) l
abbrev Ab(e:Nat)(l:List UInt8):Item:= .arr e (.int .u8) l
abbrev Aw(e:Nat)(l:List Int32):Item:= .arr e (.int .i32) l
abbrev Av(e:Nat)(l:List UInt32):Item:= .arr e (.int .u32) l
abbrev An.q(a:An):An:= .seq .d a
end Go.Rx
namespace Go.Rx
open Go Go.Lv Go.RowKit
variable {P:Program}
theorem NO{B:Reg}{w:World}{k:Kd}:∀(l:List k.T),Bq (Aq B w (.int k)) l (Go.Lv.FJ (k:=k.k) l)
 |[]=>rfl
 |x::l=>⟨[iv (T:=k.T) (k:=k.k) x],Go.Lv.FJ (k:=k.k) l,rfl,rfl,NO l⟩
theorem Rd.HA{A B:Reg}{w:World}{s:Nat}{v:Value}{cs:List Value}(h:Rd A w s v cs)(ha:∀b,A b->B b):Rd B w s v cs:=h.step ha λ_ _=>rfl
theorem enc_row{w:World}{k:Kd}{v:Value}{l:List k.T}(h:Rd (λ_=>True) w 1 v (Go.Lv.FJ (k:=k.k) l)):Ij (λ_=>True/\True) w [] (.val (.list (.int k)) l) v:=
 ⟨v,_,rfl,Rd.HA h λ_ _=>⟨trivial,trivial⟩,NO l⟩
theorem enc_str{w:World}(s:List UInt8):Ij (λ_=>True/\True) w [] (.val .str s) (sv s):=rfl
theorem string_sv(a:ByteArray):∃l,(.string a:Value)=sv l:=⟨a.data.toList,by cases a;rfl⟩
theorem encs_nil{B:Reg}{w:World}:Gh B w [] [] []:=rfl
theorem encs_cons{B:Reg}{w:World}{p:PV}{ps:List PV}{v:Value}{vs:List Value}(h:Ij B w [] p v)(hs:Gh B w [] ps vs):Gh B w [] (p::ps) (v::vs):=⟨v,vs,rfl,h,hs⟩
theorem row_true{gl:List (Nat×List Value)}{f:Nat}{ps:List Sh}{F:JY (Yj ps)->Option Bool}(hC:ConOk P gl f ⟨ps,[.lf .bool none],F⟩){x:JY (Yj ps)}{pvs:List PV}{vs:List Value}(ha:args ps x=some pvs)(hi:G0 ps x=[]){w:World}
  (hv:Gh (λ_=>True/\True) w [] pvs vs) (hg:GlOk gl (λ_=>True) w) (hF:F x=some true):Calls P f vs.toArray w λe w'=>e= .returned (.bool true)/\Below w.heap.size w w':=by
 refine(hC.ok (λ_=>True) (λ_=>True) w [] vs pvs x true ha (by rw[hi];rfl) (λi a m h=>by rw[hi]at h;simp at h) trivial hv hg hF).mono ?_;rintro e w' ⟨us,rfl,hk,A1,L1,g1,g2,g3⟩;obtain⟨qs,its,k1,k2,k3,k4,k5⟩:=g3 ⟨[],[],[]⟩ [] (λ_=>True) rfl (λ_ _=>trivial) (λ_ _ _=>trivial);refine⟨?_,⟨hk.gr.os,hk.gr.tape,hk.gr.output,hk.gr.le,λb hb=>hk.same b hb trivial⟩⟩;obtain rfl:=Alu (show some [PV.val .bool true]=some qs from k2);obtain⟨_,_,rfl,e1,rfl⟩:=k3;cases(show [_]=[Value.bool true]from e1);rfl
theorem laid_ints{H:Type}{enc:TypeId×Value->H}{w:World}{fuel:Nat}{t e n:Nat}{k:IntKind}{cs:List Value}{zs:List Int}{p:List MemPlace}(hu:P.underlying t=some (.array n e))(he:P.underlying e=some (.int k))(hc:P.cellsOf e=1)(ht:P.cellsOf t=n)
  (h:DataW.trod enc P w 0 (λ_=>true) false fuel t cs=some (.agg (zs.map λz=> .lit (.int k z)),p)):cs=zs.map λz=>Value.int k z:=by
 obtain⟨xs,m,rfl,hx,hlen,hn,hel⟩:=DataW.trod_array hu h;simp only[Aly,DataW.agg.injEq]at hx;rw[ht]at hlen;have hz:zs.length=n:=by
  have:=congrArg List.length hx.1;simpa [hn]using this
 apply List.ext_getElem?;intro i;by_cases hi:i<n
 ·have h0:=hel i hi;rw[hc,Nat.mul_one]at h0;have hxi:xs[i]? =some xs[i]:=List.getElem?_eq_getElem (by omega);rw[hxi]at h0;obtain⟨q,e1,e2,_⟩:=DataW.trod_int he h0;have e3:(cs.drop i).take 1=[cs[i]'(by omega)]:=by
   rw[List.drop_eq_getElem_cons (by omega)];rfl
  rw[e3]at e1;have e4:(xs.map (·.1))[i]? =(zs.map λz=>(DataW.lit (.int k z):DataW H))[i]? :=by rw[<-hx.1]
  rw[List.getElem?_map,List.getElem?_map,hxi,List.getElem?_eq_getElem (by omega),e2]at e4;simp only[Aod,Ag2,DataW.lit.injEq,Lit.int.injEq,true_and]at e4;rw[List.getElem?_map,List.getElem?_eq_getElem (by omega),List.getElem?_eq_getElem (by omega)];simp only[List.cons.injEq,and_true]at e1;rw[e1,e4];rfl
 ·rw[List.getElem?_eq_none (by omega),List.getElem?_eq_none (by simp;omega)]
theorem glOk_cons{n:String}{g:Nat}{cs:Array Value}{l:List Value}{gl:List (Nat×List Value)}{w:World}(hg:P.globalNamed n=some g)(hv:w.var? P n=some cs)(hl:cs.toList=l)(h:GlOk gl (λ_=>True) w):GlOk ((g,l)::gl) (λ_=>True) w:=by
 intro p hp;rcases List.mem_cons.1 hp with rfl|hp
 ·simp only[World.var?,hg,Option.bind_some]at hv;split at hv
  ·rename_i cs' T fr hh;cases hv;refine⟨(Array.getElem?_eq_some_iff.1 hh).1,trivial,T,fr,?_⟩;rw[hh,<-hl]
  ·cases hv
 ·exact h p hp
theorem glOk_nil{w:World}{N:Reg}:GlOk [] N w:=λp hp=>by simp at hp
end Go.Rx
namespace Go.Rx
open Go Go.Lv Go.RowKit Go.ChangeShapes Go.WideShapes
variable {P:Program}
theorem fld{H:Type}{enc:TypeId×Value->H}{w:World}{base:Nat}{spare:Nat->Bool}{held:Bool}{fuel:Nat}{t:TypeId}{fs:Array Field}{cs:List Value}{x:DataW H×List MemPlace}(ht:P.underlying t=some (.struct fs))(h:DataW.trod enc P w base spare held fuel t cs=some x)
  (i:Nat) {ft:TypeId} {off k:Nat} {part:List Value} (hf:(fs[i]?).map (λf=>(f.type,f.offset))=some (ft,off)) (hc:P.cellsOf ft=k) (hd:(cs.drop off).take k=part):∃n y,DataW.trod enc P w base spare held n ft part=some y:=by
 obtain⟨xs,n,_,_,_,hn,hel⟩:=DataW.trod_struct ht h;cases hi:fs[i]? with
 |none=>rw[hi]at hf;cases hf
 |some f=>
  rw[hi]at hf;cases hf;have g:=hel i f hi;rw[hc,hd,List.getElem?_eq_getElem (by rw[hn];exact(Array.getElem?_eq_some_iff.1 hi).1)]at g;exact⟨n,_,g⟩
end Go.Rx
namespace Go.Rx
open Go Go.Lv Go.RowKit Go.ChangeShapes Go.WideShapes
variable {P:Program}
end Go.Rx
