/- A part of a proof (see the text that ends in Proof). No conditions. -/
import Derived.Test.YtniihmolajmfcaaGreatDoorCnBA
import Derived.MapKept
import Derived.ProofKit
import Derived.LaidMore
import Derived.DataReads
import Derived.ChangeSame
set_option linter.unusedVariables false
set_option linter.unusedSimpArgs false
namespace Go.Rx
open Go Go.Lv
variable{j:Int}{q:IntKind}{x ix:Operand}{p u:PV}{v:Value}
variable {P:Program} {w w':World} {L L':List MD} {s:S} {σs:List Env} {σ:Env} {Z:Fix} {A A':Reg} {n:Nat} {ops:Array Oper} {rest:List Oper} {K:Env->World->Prop}
variable {R:Type} {k:S->Option R} {r:R} {d:Option Nat} {ty:TypeId} {pos:String} {after:Array Edge}
theorem WL.U0{o:Oper}{w':World}(hg:o.guard=none)(hdn:Fa n o=true)
  (hx:(execOp (ev σ) o).run P w= .ok (.value v) w') (h:WL P n ops rest K (vo σ o.dst v) w'):WL P n ops (o::rest) K σ w:=by
 intro ds a ha;refine mY hg λK' hK'=>?_;unfold Oper.wp;rw[ha.eval,hx];refine hK' _ _ ?_;cases hd:o.dst with
 |none=>rw[hd]at h;exact h _ _ (ha.sK v)
 |some d=>
  rw[hd]at h;unfold Fa at hdn;rw[hd]at hdn;exact h _ _ (ha.put hdn v)
def wA(Z:Fix)(σs:List Env)(k:S->Option R)(r:R)(G:Prop)(A:Reg)(L:List MD)(it:List Item)(w:World)(σ':Env)(w':World):Prop:=
 ∃s' A' L',k s'=some r/\Rel Z s' σs A' L' σ' w'/\ (G->Grow A L it w A' L' s'.it w')
abbrev Mi(P:Program)(n:Nat)(ops:Array Oper)(o:Oper)(Z:Fix)(s:S)(σs:List Env)(k:S->Option R)(r:R)(G:Prop)(A:Reg)(L:List MD)(σ:Env)(w:World):Prop:=
 WL P n ops [o] (wA Z σs k r G A L s.it w) σ w
theorem Cj{o:Op}{val:Value}{G:Prop}(hr:Rel Z s σs A L σ w)(hd:Fa n ⟨d,o,ty,pos,after,none⟩=true)(hx:XO P σ w o val)(hv:p.isV=true)(h:Cl (λb=>A b/\Z.R b) w L p val)
  (hk:k (s.Dk d p)=some r):Mi P n ops ⟨d,o,ty,pos,after,none⟩ Z s σs k r G A L σ w:=by
 refine WL.U0 rfl hd (hx _ _ _ _ _) (WL.nil ⟨_,A,L,hk,hr.Dk hv h,λ_=>?_⟩);have:(s.Dk d p).it=s.it:=by cases d<;>rfl
 rw[this];exact .refl
theorem Ui{B:Reg}(h:MF p=some j)(hv:Cl B w L p v):∃q,v= .int q j:=by
 unfold MF at h;split at h
 ·rename_i e x;split at h
  ·cases h;exact⟨_,Uo hv⟩
  ·cases h
 ·cases h
theorem BF(h:MF p=some j):p.isV=true:=by unfold MF at h;split at h;rfl;cases h
theorem oY{B:Reg}(h:asInt p=some j)(hv:Cl B w L p v):v=iv j:=by
 unfold asInt at h;split at h
 ·rename_i e x;split at h
  ·rename_i q y;split at h
   ·cases h;exact Uo hv
   ·cases h
  ·cases h
 ·cases h
theorem zO(h:asInt p=some j):p.isV=true:=by unfold asInt at h;split at h;rfl;cases h
theorem Gd{o:Option Operand}{dflt:Int}{B:Reg}(hm:Dh B w L σ s.sl)(h:CQ s.sl o dflt=some j):(∃q,o.map (ev σ)=some (.int q j))\/ (o=none/\j=dflt):=by
 unfold CQ at h;split at h
 ·cases h;exact .inr ⟨rfl,rfl⟩
 ·rename_i x;obtain⟨q,hq⟩:=Ui h (Ie hm x (BF h));exact .inl ⟨q,by rw[iU,hq]⟩
theorem X.Y'{t:TypeId}{l:List UInt8}{y:UInt8}(ht:P.underlying t=some .string)(hx:ev σ x=sv l)(hi:ev σ ix= .int q j)(hg:Ae l j=some y):
  XO P σ w (.index t x ix) (iv y):=λ_ _ _ _ _=>by
 obtain⟨h1,h2,h3⟩:=Eu hg;have h4:=run_index_string (P:=P) w t ⟨l.toArray⟩ q j ht;have h5:0<=j/\j<(⟨l.toArray⟩:ByteArray).size:=by simp[ByteArray.size];omega
 rw[dif_pos h5]at h4;have h6:(⟨l.toArray⟩:ByteArray)[j.toNat]'(by simp[ByteArray.size];omega)=y:=by
  have e1:l[j.toNat]=y:=by rw[gH h2]at h3;simpa using h3
  rw[<-e1];rfl
 simp only[execOp,hx,hi,fP,h4,fO,fW,Z4];rw[h6]
theorem O? {t et:TypeId}{m:Nat}{e:ET}{l:List e.T}{y:e.T}{cs:List Value}{B:Reg}(ht:P.underlying t=some (.array m et))(hsz:Es P et e.size)
  (hag:∃u,P.underlying et=some u/\wm u=(e.pv y).isA) (h1:(e.pv y).isA=false->e.size=1) (hlen:l.length=m)
  (hx:ev σ x= .agg cs.toArray) (hl:Bi (Al B w e) l cs) (hi:ev σ ix= .int q j) (hg:Ae l j=some y):∃val,XO P σ w (.index t x ix) val/\Ea B w L (e.pv y) val:=by
 obtain⟨h3,h4,h5⟩:=Eu hg;obtain⟨c1,c2,c3,he,h6,h7,_⟩:=Bi.get (λx c h=>Al.len h) hl h5;have h8:0<=j/\j<(m:Int):=F4
 obtain⟨u,hu,ha⟩:=hag;have hc2:=h7.len;cases hA:(e.pv y).isA with
 |true=>
  refine⟨.agg c2.toArray,λ_ _ _ _ _=>?_,by unfold Ea;rw[hA];exact⟨c2,rfl,DM.2 h7⟩⟩;have e1:(cs.drop (j.toNat*e.size)).take e.size=c2:=by rw[he,<-h6,<-hc2];simp
  simp[execOp,hx,hi,Instr.index,asIntOf,fJ ht,h8,Bg hsz,asAgg,part,Dc hu (ha.trans hA),e1]
 |false=>
  rw[h1 hA]at hc2
  match c2,hc2 with
  |[v],_=>
   refine⟨v,λ_ _ _ _ _=>?_,by unfold Ea;rw[hA];exact DM.2 h7⟩;have e1:cs[j.toNat*e.size]? =some v:=by rw[he,<-h6];simp
   simp[execOp,hx,hi,Instr.index,asIntOf,fJ ht,h8,Bg hsz,asAgg,part,Dc hu (ha.trans hA),e1]
theorem Kg{t et:TypeId}{b o len cap z:Nat}(ht:P.underlying t=some (.slice et))(hsz:Es P et z)(hx:ev σ x= .slice (some ⟨b,o,none⟩) len cap)(hi:ev σ ix= .int q j)
  (h0:0<=j) (h1:j<len) (w:World):XO P σ w (.indexAddr t x ix) (.pointer (some ⟨b,o+j.toNat*z,none⟩)):=λ_ _ _ _ _=>by
 simp only[execOp,hx,hi,Instr.indexAt,fP,asIntOf,fW,fO,fJ ht,h0,h1,and_self,iQ,Bg hsz,Hh]
theorem DD{t et:TypeId}{b o m z:Nat}(ht:P.underlying t=some (.array m et))(hsz:Es P et z)(hx:ev σ x= .pointer (some ⟨b,o,none⟩))(hi:ev σ ix= .int q j)
  (h0:0<=j) (h1:j<m) (w:World):XO P σ w (.indexAddr t x ix) (.pointer (some ⟨b,o+j.toNat*z,none⟩)):=λ_ _ _ _ _=>by
 simp only[execOp,hx,hi,Instr.indexAt,Instr.sureAddr,fP,asIntOf,fW,fO,fJ ht,h0,h1,and_self,iQ,Bg hsz,Hh]
theorem De{t:TypeId}{i:TypeInfo}{z:Nat}(h:P.info? t=some i)(hz:Nat.beq i.size z=true):Es P t z:=⟨i,h,Bb hz⟩
theorem Rel.base(hr:Rel Z s σs A L σ w){i z:Nat}{E:TypeId}{cs:List Value}(h:L[i]? =some (.own z E v cs))(hne:0<cs.length):∃b len cap,v= .slice (some ⟨b,0,none⟩) len cap/\cs.length=len*z:=by
 obtain⟨b,m,c,hv,_⟩:=St.C3 hr (hr.Cy h) hne;obtain⟨p,len,cap,h1,h2,_⟩:=hr.Ik h;subst hv;cases h1;exact⟨b,m,c,rfl,h2⟩
theorem KO(st:Step):∀(p:List Step),Ap (p++[st])=Ap p+UZ st
 |[]=>by simp[Ap]
 |a::p=>by simp[Ap,KO st p,gN]
theorem P5{t:TypeId}{G:Prop}(hr:Rel Z s σs A L σ w)(hd:Fa n ⟨d, .indexAddr t x ix,ty,pos,after,none⟩=true)(h:fV P s d t x ix k=some r):
  Mi P n ops ⟨d, .indexAddr t x ix,ty,pos,after,none⟩ Z s σs k r G A L σ w:=by
 have hm:=hr.mem;unfold fV at h;split at h
 ·cases h
 ·rename_i j hj;obtain⟨q,hix⟩:=Ui hj (Ie hm.sl ix (BF hj));split at h
  ·rename_i et ht;split at h
   ·cases h
   ·rename_i inf Jv;split at h
    ·rename_i e0 l0 hx;split at h
     ·rename_i e l;obtain⟨hb,h⟩:=Ak h;simp only[fI]at hb;obtain⟨y,hy,h⟩:=bind_some h;obtain⟨hj0,hj1,hj2⟩:=Eu hy;obtain⟨c0,h1,h2⟩:=On (Bw hm.sl hx rfl);obtain⟨p,len,cap,h3,h4,h5,h6,h7⟩:=h1;have hlen:=h2.len λx c h=>Al.len h;have hz:0<e.size:=by have:=iG hb.2;omega
      have hl:len=l.length:=gW hz (h4.symm.trans hlen);subst hl;obtain⟨b,off,arr,T,fr,rfl,hB,hbl,hcap,hc⟩:=h7 F4;obtain⟨c1,c2,c3,he,h8,h9,_⟩:=Bi.get (λx c h=>Al.len h) h2 hj2;have h10:c2.length=e.size:=h9.len;have h11:(j.toNat+1)*e.size<=l.length*e.size:=fY _ hj1;rw[jC]at h11;have hp:yP (λb=>A b/\Z.R b) w (.pointer (some ⟨b,off+j.toNat*e.size,none⟩)) c2:=by
       refine⟨b,off+j.toNat*e.size,arr,T,fr,rfl,hB,hbl,λq hq=>?_⟩;rw[gN,hc _ F4,he,iB F4,h8,show j.toNat*e.size+q-j.toNat*e.size=q by omega,gA hq]
      have o!:Cl (λb=>A b/\Z.R b) w L (.rptr (e.pv y)) (.pointer (some ⟨b,off+j.toNat*e.size,none⟩)):=⟨_,c2,rfl,hp,DM.2 h9⟩;exact Cj hr hd (Kg ht (De Jv hb.1) h3 hix F4 F4 w) rfl o! h
     ·cases h
    ·rename_i i hx;split at h
     ·rename_i E e l hi;obtain⟨hb,h⟩:=Ak h;simp only[fI]at hb;obtain⟨y,hy,h⟩:=bind_some h;obtain⟨hj0,hj1,hj2⟩:=Eu hy;obtain⟨v,cs,h1,h2⟩:=hm.arr hi;obtain⟨z',E',c',h3⟩:=Up (Bw hm.sl hx rfl);rw[h1]at h3;cases h3;have hlen:=h2.len λx c h=>Al.len h;have hz:0<e.size:=by have:=iG hb.2;omega
      have hpos:0<cs.length:=by rw[hlen];exact Nat.mul_pos F4 hz
      obtain⟨b,len,cap,h4,h5⟩:=hr.base h1 hpos;have hl:len=l.length:=gW hz (h5.symm.trans hlen);subst hl;have:=Kg ht (De Jv hb.1) h4 hix F4 F4 w;refine Cj hr hd this rfl ?_ h;rw[show(0:Nat)+j.toNat*e.size=Ap [.idx j e.size] by simp[Ap,UZ]];refine Un h1 ?_;rw[h4];rfl
     ·cases h
    ·rename_i o i p e lo n' hx;obtain⟨hb,h⟩:=Ak h;simp only[fI]at hb;obtain⟨_,hok,h⟩:=bind_some h;have hj':0<=j/\j<n':=iM (Li hok);obtain⟨md,v1,h3,h4,k1,k2,⟨pt,cap,k3,k4,k5,k6⟩,_⟩:=Bw hm.sl hx rfl;have h6:ev σ x=v1:=by simpa using h4
     obtain⟨b,e1,rfl⟩:=k6 F4;have:=Kg ht (De Jv hb.1) (h6.trans k3) hix hj'.1 F4 w;refine Cj hr hd this rfl ?_ h;rw[show Ap p+lo.toNat*e.size+j.toNat*e.size=Ap (p++[.idx (lo+j) e.size]) by
      rw[KO,gN,<-g!]
      show _=Ap p+(lo+j).toNat*e.size;rw[Int.toNat_add k1 hj'.1]]
     exact Un h3 e1
    ·cases h
  ·rename_i m et ht;split at h
   ·cases h
   ·rename_i inf Jv;split at h
    ·rename_i i p hx;split at h
     ·rename_i T v hi;split at h
      ·rename_i e0 l0 hg;split at h
       ·rename_i m' e l;obtain⟨hb,h⟩:=Ak h;simp only[fI]at hb;obtain⟨y,hy,h⟩:=bind_some h;obtain⟨hj0,hj1,hj2⟩:=Eu hy;obtain⟨b,cells,h1,h2⟩:=hm.box hi;obtain⟨c1,c2,c3,he,h3,h4⟩:=LD hg h2;obtain⟨md,b',h5,h6,h7⟩:=Mn (Bw hm.sl hx rfl);rw[h1]at h5;cases h5;cases h6;have hl:l.length=m:=(show l.length=m'/\ _ from h4).1.trans (Bb hb.2);have:=DD ht (De Jv hb.1.1) h7 hix F4 F4 w;refine Cj hr hd this rfl ?_ h;rw[show Ap p+j.toNat*e.size=Ap (p++[.idx j e.size]) by simp[Zg,Ap,UZ]];exact Un h1 rfl
       ·cases h
      ·cases h
     ·cases h
    ·cases h
  ·cases h
def MD.cells:MD->List Value| .box _ c _=>c| .own _ _ _ c=>c| .dead=>[]
theorem Rel.cells(hr:Rel Z s σs A L σ w){i b:Nat}{md:MD}(h:L[i]? =some md)(hb:md.base=some b):∀j,j<md.cells.length->w.cell? ⟨b,j,none⟩=md.cells[j]? :=by
 intro j hj;cases md with
 |dead=>cases hb
 |box b' cells T=>cases hb;rw[cell_of (St.box hr (hr.Cy h))];simp[MD.cells]
 |own z E v cells=>
  obtain⟨b',m,c,hv,hs'⟩:=St.C3 hr (hr.Cy h) (by simp[MD.cells]at hj;omega);subst hv;cases hb;obtain⟨o,rfl,h2⟩:=Bs.mem (A:=A) hs'.mobs (i:=i) (m:= .at_ b z E m c cells) (by rw[iI (by simpa using(List.getElem?_eq_some_iff.1 h).1)]);obtain⟨_,len,cap,e,h3,_,_,_,h6⟩:=h2;obtain⟨arr,fr,_,hb,_,_,hc⟩:=h6 b rfl;rw[cell_of hb];exact hc j (by rw[<-h3];exact hj)
theorem QA{t:TypeId}{c2:List Value}{b off:Nat}{B:Reg}(h:OkLoad P t u)(hu:As B w L u c2)
  (hx:ev σ x= .pointer (some ⟨b,off,none⟩)):∃val,Ea B w L u val/\∀w':World,(∀j,j<c2.length->w'.cell? ⟨b,off+j,none⟩=c2[j]?)->XO P σ w' (.load t x) val:=by
 obtain⟨d,hd,ha⟩:=h.agg;have hlen:=hu.len;cases hA:u.isA with
 |true=>
  refine⟨.agg c2.toArray,by unfold Ea;rw[hA];exact⟨c2,rfl,hu⟩,λw' hc _ _ _ _ _=>?_⟩;have h1:=Gn (P:=P) (w:=w') (b:=b) (off:=off) c2 hc;rw[hlen]at h1;simp only[execOp,hx,Instr.loadAt,Instr.sureAddr,fP,fW,fO,loadVar,Dc hd (ha.trans hA),iQ,Bg h.size,h1]
 |false=>
  have h1:=h.one hA;rw[h1]at hlen
  match c2,hlen with
  |[v],_=>
   refine⟨v,by unfold Ea;rw[hA];exact hu,λw' hc _ _ _ _ _=>?_⟩;have h2:w'.cell? ⟨b,off,none⟩=some v:=by simpa using hc 0 F5
   simp only[execOp,hx,Instr.loadAt,Instr.sureAddr,fP,fW,fO,loadVar,Dc hd (ha.trans hA),iE,h_,Uf h2]
theorem uX{t:TypeId}{c2:List Value}{b off:Nat}{B:Reg}(h:OkLoad P t u)(hu:As B w L u c2)(hc:∀j,j<c2.length->w.cell? ⟨b,off+j,none⟩=c2[j]?)
  (hx:ev σ x= .pointer (some ⟨b,off,none⟩)):∃val,Ea B w L u val/\XO P σ w (.load t x) val:=by
 obtain⟨val,h1,h2⟩:=QA (P:=P) (σ:=σ) h hu hx;exact⟨val,h1,h2 w hc⟩
def vW:Item->MD->Prop| .box T _,md=>∃b c,md= .box b c T| .arr E e _,md=>∃v c,md= .own e.size E v c| .dead,_=>False
def Mj(off:Nat)(ns:List Value):MD->MD->Prop
 | .box b c T,md'=>md'= .box b (Ba c off ns) T
 | .own z E v c,md'=>md'= .own z E v (Ba c off ns)
 | .dead,_=>False
theorem MemR.root{B:Reg}(hm:MemR B w L s σs σ){i:Nat}{md:MD}(h:L[i]? =some md)(hd:Bp s.it i≠ .dead):XZ B w L (Bp s.it i) md.cells/\vW (Bp s.it i) md:=by
 obtain⟨md',h1,h2⟩:=hm.item rfl hd;rw[h]at h1;cases h1
 revert h2 hd
 cases Bp s.it i with
 |dead=>intro hd _;exact absurd rfl hd
 |box T v=>
  intro _ h2;cases md with
  |box b c T'=>obtain⟨rfl,h3⟩:=h2;exact⟨h3,b,c,rfl⟩
  |_=>exact h2.elim
 |arr E e l=>
  intro _ h2;cases md with
  |own z E' v c=>obtain⟨rfl,rfl,h3⟩:=h2;exact⟨h3,v,c,rfl⟩
  |_=>exact h2.elim
theorem sC{t:TypeId}{G:Prop}(hr:Rel Z s σs A L σ w)(hd:Fa n ⟨d, .load t x,ty,pos,after,none⟩=true)(h:Q5 P s d t x k=some r):
  Mi P n ops ⟨d, .load t x,ty,pos,after,none⟩ Z s σs k r G A L σ w:=by
 have hm:=hr.mem;unfold Q5 at h;split at h
 ·rename_i i p hx;obtain⟨md,b,h1,h2,h3⟩:=Mn (Bw hm.sl hx rfl);have hne:Bp s.it i≠ .dead:=by intro e;rw[e]at h;simp[getRoot]at h
  obtain⟨h4,_⟩:=hm.root h1 hne;obtain⟨u,c1,c2,c3,hk,he,h5,h6⟩:=uV h h4;obtain⟨hb,hk⟩:=Ak hk;have hc:=hr.cells h1 h2;obtain⟨val,h7,h8⟩:=uX (P:=P) (σ:=σ) (x:=x) (b:=b) (off:=Ap p) (Ir hb) h6 (λj hj=>by
   rw[hc _ (by rw[he];simp;omega),he,iB F4,h5,show Ap p+j-Ap p=j by omega,gA hj]) h3
  obtain⟨hv,hv'⟩:=Ex h7;exact Cj hr hd h8 hv hv' hk
 ·cases h
mutual
theorem As.one{B:Reg}:∀{p:PV} {cs:List Value},As B w L p cs->L.all (λm=>match m with| .own _ _ v _=>v.oneCell'|_=>true)=true->∀v∈cs,v.oneCell'=true
 | .val e x,cs,h,_,v,hv=>Al.one (show Al B w e x cs from h) v hv
 | .agg l,cs,h,hL,v,hv=>As.WA (show As.go B w L l cs from h) hL v hv
 | .tup _,_,h,_,_,_=>h.elim
 | .nils,cs,h,_,v,hv=>by rw[show cs=_ from h]at hv;simp at hv;subst hv;rfl
 | .own i,cs,⟨z,E,u,c,h1,h2⟩,hL,v,hv=>by
  rw[h2]at hv;simp at hv;subst hv;exact List.all_eq_true.1 hL _ (iK h1)
 | .ptr i p,cs,⟨_,_,_,_,h⟩,_,v,hv=>by rw[h]at hv;simp at hv;subst hv;rfl
 | .rptr q,cs,⟨pv,_,h,⟨_,_,_,_,_,e,_⟩,_⟩,_,v,hv=>by rw[h]at hv;simp at hv;subst hv;rw[e];rfl
 | .wp _,cs,h,_,v,hv=>by rcases h with h|⟨_,_,_,_,h⟩<;>(rw[h]at hv;simp at hv;subst hv;rfl)
 | .fn f caps,cs,⟨_,h,_⟩,_,v,hv=>by rw[h]at hv;simp at hv;subst hv;rfl
 | .cap _ _ _,cs,⟨_,_,h,_,_,_,_,_,e⟩,_,v,hv=>by rw[h]at hv;simp at hv;subst hv;rw[e];rfl
 | .bfn _ _,cs,⟨_,h,_⟩,_,v,hv=>by rw[h]at hv;simp at hv;subst hv;rfl
 | .mp _ _ _,cs,⟨_,_,_,h,_⟩,_,v,hv=>by rw[h]at hv;simp at hv;subst hv;rfl
 | .cst u,cs,h,_,v,hv=>by rw[show cs=_ from h.1]at hv;simp at hv;subst hv;exact h.2
 | .any,cs,⟨u,h,h'⟩,_,v,hv=>by rw[h]at hv;simp at hv;subst hv;exact h'
 | .view _ _ _ _ _ _,cs,⟨_,u,_,h,_,_,⟨_,_,e,_⟩,_⟩,_,v,hv=>by rw[h]at hv;simp at hv;subst hv;rw[e];rfl
 | .gd _ _ _,_,h,_,_,_=>h.elim
 | .off,_,h,_,_,_=>h.elim
 | .undef,_,h,_,_,_=>h.elim
theorem As.WA{B:Reg}:∀{l:List PV} {cs:List Value},As.go B w L l cs->L.all (λm=>match m with| .own _ _ v _=>v.oneCell'|_=>true)=true->∀v∈cs,v.oneCell'=true
 |[],cs,h,_,v,hv=>by rw[show cs=[]from h]at hv;simp at hv
 |a::q,cs,⟨c1,c2,e,h1,h2⟩,hL,v,hv=>by
  subst e;rcases List.mem_append.1 hv with hv|hv
  ·exact As.one h1 hL v hv
  ·exact As.WA h2 hL v hv
end
theorem Rel.WA(hr:Rel Z s σs A L σ w):L.all (λm=>match m with| .own _ _ v _=>v.oneCell'|_=>true)=true:=by
 refine List.all_eq_true.2 λm hm=>?_;obtain⟨i,hi,he⟩:=List.getElem_of_mem hm;cases m with
 |own z E v c=>
  obtain⟨p,len,cap,rfl,_⟩:=hr.Ik (i:=i) (by rw[gH hi,he]);rfl
 |_=>rfl
theorem Yh{B:Reg}(hr:Rel Z s σs A L σ w)(h:Ea B w L p v):∃cs:List Value,v.cells=cs.toArray/\As B w L p cs:=by
 unfold Ea P0 at h;split at h
 ·obtain⟨cs,rfl,h⟩:=h;exact⟨cs,rfl,h⟩
 ·refine⟨[v],?_,h⟩;have:=h.one hr.WA v (.head _);cases v<;>first|rfl|cases this
theorem AW.own{i z:Nat}{E:TypeId}{cs cs':List Value}(h:L[i]? =some (.own z E v cs)):AW L (L.set i (.own z E v cs')):=
 AW.set h (λ_ _ _ _ e=>by cases e;exact⟨_,_,_,rfl⟩) (λb hb=>by
  unfold MD.base at hb⊢;split at hb
  ·rename_i e;cases e
  ·rename_i e;cases e;exact hb
  ·cases hb)
theorem AW.box{i b:Nat}{T:TypeId}{cs cs':List Value}(h:L[i]? =some (.box b cs T)):AW L (L.set i (.box b cs' T)):=
 AW.set h (λ_ _ _ _ e=>by cases e) (λb hb=>hb)
theorem A8{i:Nat}{md:MD}(h:L[i]? =some md):(L.map MD.Cy)[i]? =some md.Cy:=by simp[h]
theorem Ajf{t:TypeId}{a:Operand}{i b off z:Nat}{md:MD}{ns:List Value}{K:Env->World->Prop}{F:List Fact}(hr:St A w F (L.map MD.Cy))(h:L[i]? =some md)(hb:md.base=some b)
  (hsz:Es P t z) (ha:ev σ a= .pointer (some ⟨b,off,none⟩)) (hx:ev σ x=v) (hv:v.cells=ns.toArray) (hl:ns.length=z) (h1:ns.all (·.oneCell')=true) (hle:off+z<=md.cells.length) (hz:0<z)
  (hK:∀(w':World) (md':MD),St A w' F ((L.map MD.Cy).set i md'.Cy)->Mj off ns md md'->K σ w'):
  WL P n ops [⟨none, .store t a x,ty,pos,after,none⟩] K σ w:=by
 cases md with
 |dead=>cases hb
 |box b' cells T=>
  cases hb;exact WL.Afd hr (A8 h) hsz ha hx hv hl h1 (by simpa [Nat.ble_eq,MD.cells]using hle) rfl rfl (λw' hs'=>WL.nil (hK w' (.box b (Ba cells off ns) T) hs' rfl))
 |own z' E u cells=>
  obtain⟨b',m,c,hu,hs'⟩:=St.C3 hr (A8 h) (by simp[MD.cells]at hle;omega);subst hu;cases hb;have hlen:i<(L.map MD.Cy).length:=by simpa using(List.getElem?_eq_some_iff.1 h).1
  have hL1:((L.map MD.Cy).set i (.at_ b z' E m c cells))[i]? =some (.at_ b z' E m c cells):=by rw[iI hlen]
  refine WL.Ajz hs' hL1 hsz ha hx hv hl h1 hle rfl rfl (λw' hs2=>WL.nil ?_);have hs3:=hs2.qg (i:=i) (b:=b) (s:=z') (m:=m) (c:=c) (E:=E) (cs:=Ba cells off ns) (by rw[iI (by simpa using hlen)]);rw[mZ,mZ]at hs3;exact hK w' (.own z' E (.slice (some ⟨b,0,none⟩) m c) (Ba cells off ns)) hs3 rfl
end Go.Rx
namespace Go.Rx
open Go Go.Lv
variable{a x:Operand}{m p:PV}{v:Value}
variable {P:Program} {B:Reg} {w w':World} {L L':List MD} {s:S} {σs:List Env} {σ:Env} {Z:Fix} {A A':Reg} {n:Nat} {ops:Array Oper} {rest:List Oper} {K:Env->World->Prop}
variable {R:Type} {k:S->Option R} {r:R} {d:Option Nat} {ty:TypeId} {pos:String} {after:Array Edge}
structure Frz (B:Reg) (w:World) (L:List MD) (i:Nat) (m:PV):Prop where
 enc:∀z E v c,L[i]? =some (.own z E v c)->As B w (L.set i .dead) m [v]
 isA:m.isA=false
 isV:m.isV=true
theorem xD{i:Nat}(hm:m.isA=false):(subst i m p).isA=p.isA:=by
 cases p<;>try rfl
 ·rename_i j;simp only[subst];cases hb:Nat.beq i j with
  |true=>exact hm
  |false=>rfl
 ·rename_i j q;simp only[subst];cases hb:Nat.beq i j<;>rfl
 ·rename_i o j q e lo n;simp only[subst];cases hb:Nat.beq i j<;>rfl
 ·rename_i j;simp only[subst];cases hb:Nat.beq i j<;>rfl
theorem BT{i j:Nat}(h:Nat.beq i j=false):(L.set i .dead)[j]? =L[j]? :=by
 rw[gX];intro e;subst e;simp at h
mutual
theorem FX{i:Nat}{m:PV}(hf:Frz B w L i m):∀{p:PV} {cs:List Value},As B w L p cs->As B w (L.set i .dead) (subst i m p) cs
 | .val _ x,cs,h=>h
 | .agg q,cs,h=>pF hf (show As.go B w L q cs from h)
 | .tup _,_,h=>h.elim
 | .nils,cs,h=>h
 | .own j,cs,⟨z,E,v,c,h1,h2⟩=>by
  simp only[subst];cases hb:Nat.beq i j with
  |true=>
   have:=Bb hb;subst this;rw[h2];exact hf.enc _ _ _ _ h1
  |false=>exact⟨z,E,v,c,by rw[BT hb];exact h1,h2⟩
 | .ptr j q,cs,⟨md,b,h1,h2,h3⟩=>by
  simp only[subst];cases hb:Nat.beq i j with
  |true=>exact⟨_,h3,rfl⟩
  |false=>exact⟨md,b,by rw[BT hb];exact h1,h2,h3⟩
 | .view o j q e lo n,cs,⟨md,v,h1,h2,h3⟩=>by
  simp only[subst];cases hb:Nat.beq i j with
  |true=>
   obtain⟨_,_,⟨pt,cap,e',_⟩,_⟩:=h3;exact⟨v,h2,by rw[e'];rfl⟩
  |false=>exact⟨md,v,by rw[BT hb];exact h1,h2,h3⟩
 | .wp j,cs,h=>by
  simp only[subst];cases hb:Nat.beq i j with
  |true=>
   rcases h with h|⟨md,b,h1,h2,h3⟩
   ·exact⟨_,h,rfl⟩
   ·exact⟨_,h3,rfl⟩
  |false=>
   rcases h with h|⟨md,b,h1,h2,h3⟩
   ·exact .inl h
   ·exact .inr ⟨md,b,by rw[BT hb];exact h1,h2,h3⟩
 | .rptr v,cs,⟨pv,c0,h1,h2,h3⟩=>by
  exact⟨pv,c0,h1,h2,FX hf h3⟩
 | .fn f caps,cs,⟨vs,h1,h2⟩=>⟨vs,h1,Zh hf h2⟩
 | .cap _ _ _,cs,h=>h
 | .bfn f fs,cs,⟨vs,h1,h2⟩=>⟨vs,h1,Zh hf h2⟩
 | .mp st ks l,cs,⟨r,es,n,h1,h2,h3,h4,h5⟩=>⟨r,es,n,h1,h2,h3,h4,Zh hf h5⟩
 | .cst v,cs,h=>h
 | .any,cs,h=>h
 | .gd _ _ _,_,h=>h.elim
 | .off,_,h=>h.elim
 | .undef,_,h=>h.elim
theorem pF{i:Nat}{m:PV}(hf:Frz B w L i m):∀{q:List PV} {cs:List Value},As.go B w L q cs->As.go B w (L.set i .dead) (subst.go i m q) cs
 |[],cs,h=>h
 |a::q,cs,⟨c1,c2,e',h1,h2⟩=>⟨c1,c2,e',FX hf h1,pF hf h2⟩
theorem Zh{i:Nat}{m:PV}(hf:Frz B w L i m):∀{q:List PV} {vs:List Value},Cr B w L q vs->Cr B w (L.set i .dead) (subst.go i m q) vs
 |[],vs,h=>h
 |a::q,vs,⟨v,vs',e',h1,h2⟩=>⟨v,vs',e',by rw[xD hf.isA];exact h1.mono λc h=>FX hf h,Zh hf h2⟩
end
theorem N2{i:Nat}(hf:Frz B w L i m)(h:Ea B w L p v):Ea B w (L.set i .dead) (subst i m p) v:=by
 unfold Ea;rw[xD hf.isA];exact P0.mono (λc h=>FX hf h) h
theorem vA{i:Nat}(hf:Frz B w L i m)(h:Cl B w L p v):Cl B w (L.set i .dead) (subst i m p) v:=by
 cases hp:p.D2 with
 |true=>exact(Ex (N2 hf ((CW hp).1 h))).2
 |false=>
  cases p
  case tup q=>obtain⟨vs,h1,h2⟩:=h;exact⟨vs,h1,Zh hf h2⟩
  case undef=>exact(show False from h).elim
  case off=>exact(show False from h).elim
  case gd=>exact(show False from h).elim
  all_goals cases hp
theorem K0{i:Nat}(hf:Frz B w L i m){t:Nat}(h:Du B w L σ t p):Du B w (L.set i .dead) σ t (subst i m p):=by
 cases hv:p.isV with
 |true=>
  have h1:=vA hf ((Du.iff hv).1 h);have h2:(subst i m p).isV=true:=by
   cases p<;>first|rfl|cases hv|skip
   ·rename_i j;simp only[subst];cases Nat.beq i j;rfl;exact hf.isV
   ·rename_i j q;simp only[subst];cases Nat.beq i j<;>rfl
   ·rename_i o j q e lo n;simp only[subst];cases Nat.beq i j<;>rfl
   ·rename_i j;simp only[subst];cases Nat.beq i j<;>rfl
  exact(Du.iff h2).2 h1
 |false=>
  rcases Lk hv with rfl|rfl|⟨j,u,q,rfl⟩
  ·exact trivial
  ·exact h
  ·obtain⟨b,h1,h2,h3⟩:=h;exact⟨b,h1,λe=>vA hf (h2 e),h3⟩
theorem cS{i:Nat}(hf:Frz B w L i m){sl:Slots}(h:Dh B w L σ sl):Dh B w (L.set i .dead) σ (jo i m sl):=by
 intro p hp;obtain⟨q,hq,rfl⟩:=List.mem_map.1 hp;exact K0 hf (h q hq)
theorem dL{i:Nat}{m:PV}(hf:Frz B w L i m):∀{σs:List Env} {st:List Slots},JJ B w L σs st->JJ B w (L.set i .dead) σs (st.map (jo i m))
 |[],[],h=>h
 |_::_,_::_,⟨h1,h2⟩=>⟨cS hf h1,dL hf h2⟩
theorem N7{i:Nat}(hf:Frz B w L i m){a:Item}{md:MD}(h:Mx B w L a md):Mx B w (L.set i .dead) (Y6 i m a) md:=by
 cases a<;>cases md<;>first
  |exact h
  |exact⟨h.1,FX hf h.2⟩
theorem MemR.subst(hm:MemR B w L s σs σ){i:Nat}(hf:Frz B w L i m):MemR B w (L.set i .dead) ((s.Hc i .dead).sub i m) σs σ:=by
 refine⟨⟨?_,?_⟩,cS hf hm.sl,dL hf hm.stk⟩
 ·simp[S.sub,S.Hc,Wv,hm.it.1]
 ·intro j a md g1 g2;simp only[S.sub,S.Hc,iS,lG]at g1;obtain⟨a0,g3,rfl⟩:=g1;rcases Wu g3 with⟨rfl,rfl⟩|⟨g4,g5⟩
  ·trivial
  ·rw[gX (gO g4)]at g2;exact N7 hf (hm.it.2 j a0 md g5 g2)
theorem YP(hr:Rel Z s σs A L σ w){i:Nat}{s':S}(h:s.freeze i=some s'):∃A',Rel Z s' σs A' (L.set i .dead) σ w/\∃E e l,Bp s.it i= .arr E e l/\s'=(s.Hc i .dead).sub i (.val (.list e) l):=by
 unfold S.freeze at h;split at h
 ·rename_i E e l hi;cases h;have hm:=hr.mem;obtain⟨v,cs,h1,h2⟩:=hm.arr hi;have hR:∀b,¬A b->Z.R b:=λb hb=>by
   rcases iW b Z.w0.heap.size with hlt|hge
   ·have hold:=(hr.fact 1 (f:= .old Z.M Z.w0) rfl).2 b hlt;exact Z.mod b (iR λhM=>hb (hold hM).1)
   ·exact Z.new b hge
  obtain⟨A',hA,hs'⟩:=St.freeze hr (hr.Cy h1) rfl Z.R hR;have hs2:=Bs.VQ (hs'.zW 1 0) (Mt (m':=MD.dead.Cy) (hr.Cy h1));have hm2:MemR (λb=>A' b/\Z.R b) w L s σs σ:=hs2.fact 1 rfl;have hrd:Rd (λb=>A' b/\Z.R b) w e.size v cs:=hs2.fact 0 (f:= .rd Z.R e.size v cs) rfl;have hall:=h2.mono (g:=Al (λb=>A' b/\Z.R b) w e) λx c h=>Al.step (λb hb=>⟨hA b hb.1,hb.2⟩) (λ_ _=>rfl) h;have hf:Frz (λb=>A' b/\Z.R b) w L i (.val (.list e) l):=⟨λz E' v' c' h=>by rw[h1]at h;cases h;exact⟨v,cs,rfl,hrd,hall⟩,rfl,rfl⟩;exact⟨A',Rel.as hs2 (i:=2) rfl (hm2.subst hf) (by rw[iX]),E,e,l,hi,rfl⟩
 ·cases h
theorem Jd:∀{is:List Nat} {s s':S} {A:Reg} {L:List MD},Rel Z s σs A L σ w->s.Rr is=some s'->∃A' L',Rel Z s' σs A' L' σ w/\ (is=[]->s'=s/\A'=A/\L'=L)
 |[],s,s',A,L,hr,h=>by simp only[S.Rr,fR]at h;subst h;exact⟨A,L,hr,λ_=>⟨rfl,rfl,rfl⟩⟩
 |i::is,s,s',A,L,hr,h=>by
  simp only[S.Rr]at h;split at h
  ·obtain⟨A',L',h1,_⟩:=Jd hr h;exact⟨A',L',h1,λe=>by cases e⟩
  ·cases h
  ·split at h
   ·rename_i s1 h1;obtain⟨A1,h2,_⟩:=YP hr h1;obtain⟨A',L',h3,_⟩:=Jd h2 h;exact⟨A',L',h3,λe=>by cases e⟩
   ·cases h
theorem yE(h:oD p=true):p.D2=true:=by cases p<;>first|rfl|cases h
theorem Xd{B:Reg}(hm:Dh B w L σ s.sl)(h:(Cm s.sl x).D2=true):Ea B w L (Cm s.sl x) (ev σ x):=(CW h).1 (Ie hm x (PV.xJ h))
theorem M9{s':S}(hr:Rel Z s σs A L σ w)(h:vB s a x=some s'):∃A' L',Rel Z s' σs A' L' σ w:=by
 unfold vB at h;split at h
 ·split at h
  ·obtain⟨A',L',h1,_⟩:=Jd hr h;exact⟨A',L',h1⟩
  ·cases h;exact⟨A,L,hr⟩
 ·cases h
theorem XZ.step{B B':Reg}{w w':World}(hb:∀b,B b->B' b)(hs:Same B w w')(hl:AW L L'){a:Item}{cs:List Value}(h:XZ B w L a cs):XZ B' w' L' a cs:=by
 cases a with
 |dead=>exact h
 |box T v=>exact As.step hb hs hl h
 |arr E e l=>exact Bi.mono (λx c h=>Al.step hb hs h) h
def pC(R:Reg)(L:List MD)(a:Item)(cs:List Value):Fact where
 holds A w:=XZ (λb=>A b/\R b) w L a cs
 step h ha hs _:=h.step (λb ⟨h1,h2⟩=>⟨ha b h1,h2⟩) (λb ⟨h1,_⟩=>hs b h1) (.refl L)
theorem J!{t:TypeId}(hr:Rel Z s σs A L σ w)(h:zG P s t a x k=some r):
  Mi P n ops ⟨none, .store t a x,ty,pos,after,none⟩ Z s σs k r False A L σ w:=by
 unfold zG at h;split at h
 ·cases h
 ·rename_i s1 hs1;obtain⟨A1,L1,hr1⟩:=M9 hr hs1;have hm:=hr1.mem;split at h
  ·rename_i i p ha;split at h
   ·rename_i inf Jv;obtain⟨hb,h⟩:=Ak h;simp only[fI]at hb;obtain⟨md,b,h1,h2,h3⟩:=Mn (Bw hm.sl ha rfl);obtain⟨ns,h4,h5⟩:=Yh hr1 (Xd hm.sl (yE hb.1.1));have hne:Bp s1.it i≠ .dead:=by intro e;rw[e]at h;simp[oA]at h
    obtain⟨h6,h7⟩:=hm.root h1 hne;obtain⟨a',hk,h8,h9,h10⟩:=T4 h5 h h6;have hlen:=h5.len;have hz:=Bb hb.1.2;have hz0:0<inf.size:=by simpa [Nat.blt_eq]using hb.2
    have hrF:=St.dF (f:=pC Z.R L1 a' (Ba md.cells (Ap p) ns)) hr1 h9;refine Ajf hrF h1 h2 ⟨inf,Jv,rfl⟩ h3 rfl h4 (hlen.trans hz.symm) (List.all_eq_true.2 (h5.one hr1.WA)) (by rw[hz,<-hlen];exact h8) hz0 (λw' md' hs' hmd=>?_);have h11:XZ (λb=>A1 b/\Z.R b) w' L1 a' (Ba md.cells (Ap p) ns):=hs'.fact 0 rfl;have hs2:=hs'.kJ
    revert h7 h10
    cases hi:Bp s1.it i with
    |dead=>exact absurd hi hne
    |box T v0=>
     rintro⟨b0,c0,rfl⟩ h10;simp only[Mj]at hmd;subst hmd;have key:=AW.box (cs':=Ba (MD.box b0 c0 T).cells (Ap p) ns) h1;refine⟨_,A1,_,hk,Rel.change hs2 h1 key ?_,λh=>h.elim⟩;cases a' with
     |box T' v'=>simp only[sameKind]at h10;subst h10;exact⟨rfl,As.step (λ_ h=>h) (λ_ _=>rfl) key h11⟩
     |dead=>exact h11.elim
     |arr _ _ _=>exact h10.elim
    |arr E e l=>
     rintro⟨v0,c0,rfl⟩ h10;simp only[Mj]at hmd;subst hmd;have key:=AW.own (cs':=Ba (MD.own e.size E v0 c0).cells (Ap p) ns) h1;refine⟨_,A1,_,hk,Rel.change hs2 h1 key ?_,λh=>h.elim⟩;cases a' with
     |arr E' e' l'=>obtain⟨rfl,rfl⟩:=h10;exact⟨rfl,rfl,h11⟩
     |dead=>exact h11.elim
     |box _ _=>exact h10.elim
   ·cases h
  ·cases h
end Go.Rx
namespace Go.Rx
open Go Go.Lv
variable{x:Operand}{p:PV}{v:Value}
variable {P:Program} {B:Reg} {w w':World} {L L':List MD} {s:S} {σs:List Env} {σ:Env} {Z:Fix} {A A':Reg} {n:Nat} {ops:Array Oper} {rest:List Oper} {K:Env->World->Prop}
variable {R:Type} {k:S->Option R} {r:R} {d:Option Nat} {ty:TypeId} {pos:String} {after:Array Edge}
theorem Tp{t:TypeId}(h:zeroOf P t=some p):∃z,(∃i,P.info? t=some i/\i.zero=some z)/\∀(B:Reg) (w:World) (L:List MD),As B w L p z.cells.toList:=by
 unfold zeroOf at h;split at h
 ·rename_i i hi;split at h
  ·rename_i z hz;exact⟨z,⟨i,hi,hz⟩,λB w L=>JA h⟩
  ·cases h
 ·cases h
theorem eu{md:MD}{b:Nat}(hb:md.base=some b){B:Reg}:Cl B w (L++[md]) (.ptr L.length []) (.pointer (some ⟨b,0,none⟩)):=⟨md,b,F5,hb,rfl⟩
theorem bB{z:Nat}{E:TypeId}{c:List Value}{B:Reg}:Cl B w (L++[.own z E v c]) (.own L.length) v:=⟨z,E,v,c,F5,rfl⟩
theorem Rel.len(hr:Rel Z s σs A L σ w):s.it.length=L.length:=hr.mem.it.1
theorem Rel.lt(hr:Rel Z s σs A L σ w):∀b,A b->b<w.heap.size:=St.lt hr
def Q!(A0:Reg)(w0:World):Fact where
 holds A w:=(∀b,A0 b->A b)/\Same A0 w0 w
 step h ha hs _:=⟨λb hb=>ha b (h.1 b hb),λb hb=>(hs b (h.1 b hb)).trans (h.2 b hb)⟩
theorem Rel.same(hr:Rel Z s σs A L σ w):St A w [Q! A w,fD Z.R L s σs σ, .old Z.M Z.w0] (L.map MD.Cy):=St.dF (f:=Q! A w) hr ⟨λ_ h=>h,λ_ _=>rfl⟩
theorem HV{w':World}{A':Reg}{a:Item}{md:MD}{dn:Nat}{G:Prop}(hr:Rel Z s σs A L σ w)(hs:St A' w' [Q! A w,fD Z.R L s σs σ, .old Z.M Z.w0] (md.Cy::L.map MD.Cy))
  (ha:Mx (λb=>A' b/\Z.R b) w' (L++[md]) a md) (hv:p.isV=true) (hp:∀B,Cl B w' (L++[md]) p v) (hk:k ((s.add a).Dk (some dn) p)=some r):
  wA Z σs k r G A L s.it w (Hc σ dn v) w':=by
 obtain⟨h1,h2⟩:(∀b,A b->A' b)/\Same A w w':=hs.fact 0 rfl;have hr':=Rel.push hs.kJ ha;exact⟨_,A',L++[md],hk,hr'.Dk (d:=some dn) hv (hp _),λ_=>⟨h1,h2,⟨[md],rfl⟩,⟨[a],rfl⟩⟩⟩
theorem Zv{o:Op}{dn:Nat}(h:Fa n ⟨some dn,o,ty,pos,after,none⟩=true):Nat.blt dn n=true:=h
theorem D_{t:TypeId}{v:PV}{dn:Nat}{G:Prop}(hr:Rel Z s σs A L σ w)(hd:Fa n ⟨some dn, .alloc t,ty,pos,after,none⟩=true)(hz:zeroOf P t=some v)
  (hk:k ((s.add (.box t v)).Dk (some dn) (.ptr s.new []))=some r):Mi P n ops ⟨some dn, .alloc t,ty,pos,after,none⟩ Z s σs k r G A L σ w:=by
 obtain⟨z,h1,h2⟩:=Tp hz;refine WL.alloc (cells:=z.cells.toList) hr.same (Zv hd) h1 F5 (λb w' hs'=>WL.nil ?_);refine HV (a:= .box t v) (md:= .box b z.cells.toList t) hr hs' ⟨rfl,h2 _ _ _⟩ rfl (λB=>?_) hk;rw[S.new,hr.len];exact eu rfl
theorem vF{t:TypeId}{dn:Nat}{G:Prop}(hr:Rel Z s σs A L σ w)(hd:Fa n ⟨some dn, .box t x,ty,pos,after,none⟩=true)(hx:oD (Cm s.sl x)=true)
  (hk:k ((s.add (.box t (Cm s.sl x))).Dk (some dn) (.ptr s.new []))=some r):Mi P n ops ⟨some dn, .box t x,ty,pos,after,none⟩ Z s σs k r G A L σ w:=by
 obtain⟨cs,h1,h2⟩:=Yh hr (Xd hr.mem.sl (yE hx));have hF:=St.dF (f:=pC Z.R L (.box t (Cm s.sl x)) cs) hr.same h2;refine WL.box hF (Zv hd) rfl h1 (λb w' hs'=>WL.nil ?_);have h3:XZ (λb=>A b/\Z.R b) w' L (.box t (Cm s.sl x)) cs:=hs'.fact 0 rfl;refine HV (a:= .box t (Cm s.sl x)) (md:= .box b cs t) hr hs'.kJ ⟨rfl,As.step (λ_ h=>h) (λ_ _=>rfl) (AW.append _ _) h3⟩ rfl (λB=>?_) hk;rw[S.new,hr.len];exact eu rfl
theorem yW{a t e:TypeId}{l:List UInt8}{dn:Nat}{G:Prop}(hr:Rel Z s σs A L σ w)(hd:Fa n ⟨some dn, .convert a t x,ty,pos,after,none⟩=true)(ha:P.underlying a=some .string)(ht:P.underlying t=some (.slice e))
  (he:P.underlying e=some (.int .u8)) (hx:Cm s.sl x= .val .str l) (hk:k ((s.add (.arr e (.int .u8) l)).Dk (some dn) (.own s.new))=some r):Mi P n ops ⟨some dn, .convert a t x,ty,pos,after,none⟩ Z s σs k r G A L σ w:=by
 refine WL.s2b ha ht he hr.same (Zv hd) (Jm hr.mem.sl hx) (λp m c w' hs'=>WL.nil ?_);refine HV (a:= .arr e (.int .u8) l) (md:= .own 1 e (.slice p m c) (Rk l)) hr hs' ⟨rfl,rfl,Yc⟩ rfl (λB=>?_) hk;rw[S.new,hr.len];exact bB
where Yc:∀{B:Reg} {w:World} {l:List UInt8},Bi (Al B w (.int .u8)) l (Rk l)
 |_,_,[]=>rfl
 |_,_,x::l=>⟨[iv x],Rk l,rfl,rfl,Yc⟩
theorem C? {t e E:TypeId}{i:Nat}{y:UInt8}{ys:List UInt8}{dn:Nat}{G:Prop}(hr:Rel Z s σs A L σ w)(hd:Fa n ⟨some dn, .convert t t x,ty,pos,after,none⟩=true)(ht:P.underlying t=some (.slice e))
  (he:P.underlying e=some (.int .u8)) (hx:Cm s.sl x= .own i) (hi:Bp s.it i= .arr E (.int .u8) (y::ys)) (hk:k (s.Dk (some dn) (.own i))=some r):Mi P n ops ⟨some dn, .convert t t x,ty,pos,after,none⟩ Z s σs k r G A L σ w:=by
 obtain⟨v,cs,h1,h2⟩:=hr.mem.arr hi;have hne:0<cs.length:=by
  obtain⟨c,c',e1,e2,_⟩:=h2;rw[e1,gF];have:c.length=(ET.int .u8).size:=Al.len e2;rw[this];have:(ET.int Kd.u8).size=1:=rfl;omega
 have o!:Cl (λb=>A b/\Z.R b) w L (.own i) (ev σ x):=by
  have:=Bw hr.mem.sl hx rfl;exact this
 have hev:ev σ x=v:=by
  obtain⟨z,E',v',c,g1,g2⟩:=o!;rw[h1]at g1;cases g1;simpa using g2
 have hL:(L.map MD.Cy)[i]? =some (.own 1 E v cs):=by rw[iS,h1];rfl
 refine WL.x! ht he hr.same hL hne (Zv hd) hev (λw' hs'=>WL.nil ?_);obtain⟨g1,g2⟩:(∀b,A b->A b)/\Same A w w':=hs'.fact 0 rfl;have hr':Rel Z s σs A L σ w':=hs'.kJ;exact⟨_,A,L,hk,hr'.Dk (d:=some dn) (p:= .own i) rfl ⟨_,_,_,_,h1,rfl⟩,λ_=>⟨g1,g2,⟨[],F5⟩,⟨[],by simp[S.Dk,S.set]⟩⟩⟩
theorem gU{t:TypeId}{e:ET}(h:sV P t e=true):ElemOk P t e.size:=by
 unfold sV at h;split at h
 ·rename_i i hi;simp only[fI]at h;obtain⟨⟨⟨h1,h2⟩,h3⟩,h4⟩:=h;split at h3
  ·rename_i z hz;exact⟨⟨i,z,hi,Bb h1,hz,Bb h3,iG h2⟩,by have:=iG h4;omega⟩
  ·cases h3
 ·cases h
theorem GH{t E:TypeId}(h:iA P t=some E):P.underlying t=some (.slice E):=by
 unfold iA at h;split at h
 ·rename_i e he;cases h;exact he
 ·cases h
theorem zC{e:ET}{x:e.T}{c:List Value}(h:Al B w e x c):∀m,Bi (Al B w e) (List.replicate m x) (List.replicate m c).flatten
 |0=>rfl
 |m+1=>⟨c,(List.replicate m c).flatten,rfl,h,zC h m⟩
theorem s_{t:TypeId}{a b:Operand}{dn:Nat}{G:Prop}(hr:Rel Z s σs A L σ w)(hd:Fa n ⟨some dn, .makeSlice t a b,ty,pos,after,none⟩=true)(h:P9 P s (some dn) t a b k=some r):
  Mi P n ops ⟨some dn, .makeSlice t a b,ty,pos,after,none⟩ Z s σs k r G A L σ w:=by
 unfold P9 at h;split at h
 ·cases h
 ·rename_i E hE;split at h
  ·cases h
  ·rename_i e he;obtain⟨hb,h⟩:=Ak h;split at h
   ·rename_i m m' z hm hm' hz;split at h
    ·rename_i x hx;obtain⟨l,hl,h⟩:=bind_some h;obtain⟨_,hq,h⟩:=bind_some h;obtain⟨h1,h2,rfl⟩:=I9 hl;have h3:m'=m:=by have:=Li hq;simpa [geq,GI.toZ]using this
     subst h3;obtain⟨zv,hz1,hz2⟩:=Tp hz;have ea:=oY hm (Ie hr.mem.sl a (zO hm));have eb:=oY hm' (Ie hr.mem.sl b (zO hm'));refine WL.makeSlice (GH hE) (gU hb) hz1 (zs:=zv.cells.toList) F5 hr.same (Zv hd) (m:=m'.toNat) (by rw[<-h1];exact ea) (by rw[<-h1];exact eb) h2 (λp q c w' hs'=>WL.nil ?_);refine HV (a:= .arr E e (List.replicate m'.toNat x)) (md:= .own e.size E (.slice p q c) (List.replicate m'.toNat zv.cells.toList).flatten) hr hs' ⟨rfl,rfl,zC (Zd hx (hz2 _ _ (L++[]))) _⟩ rfl (λB=>?_) h;rw[S.new,hr.len];exact bB
    ·cases h
   ·cases h
end Go.Rx
namespace Go.Rx
open Go Go.Lv
variable{vw:Bool}{e:ET}{x y:Operand}{p:PV}{v:Value}
variable {P:Program} {B:Reg} {w w':World} {L L':List MD} {s:S} {σs:List Env} {σ:Env} {Z:Fix} {A A':Reg} {n:Nat} {ops:Array Oper} {rest:List Oper} {K:Env->World->Prop}
variable {R:Type} {k:S->Option R} {r:R} {d:Option Nat} {ty:TypeId} {pos:String} {after:Array Edge}
theorem wA.of{G:Prop}{s1:S}{A1:Reg}{L1:List MD}{σ':Env}(h:G->s1=s/\A1=A/\L1=L)(hp:wA Z σs k r G A1 L1 s1.it w σ' w'):wA Z σs k r G A L s.it w σ' w':=by
 obtain⟨s',A',L',h1,h2,h3⟩:=hp;refine⟨s',A',L',h1,h2,λg=>?_⟩;obtain⟨e1,e2,e3⟩:=h g;subst e1 e2 e3;exact h3 g
theorem isEmpty_nil{α:Type}{l:List α}(h:l.isEmpty=true):l=[]:=by cases l<;>simp_all
theorem D7{z:Nat}(h:Nat.ble 1 z=true):0<z:=by have:=iG h;omega
theorem Rel.nN(hr:Rel Z s σs A L σ w){i z:Nat}{E:TypeId}{cs:List Value}(h:L[i]? =some (.own z E v cs)):
  ∃q len cap,v= .slice q len cap/\cs.length=len*z/\len<=cap/\ (q=none->cap=0)/\ (0<cap->∃b,q=some ⟨b,0,none⟩/\ (MD.own z E v cs).base=some b):=by
 obtain⟨o,q,len,cap,h1,h2,h3,h4,h5,h6⟩:=Bs.mem (A:=A) (St.mobs hr) (hr.Cy h);refine⟨q,len,cap,h1,h2,h3,h4,λhc=>?_⟩;cases o with
 |none=>have:=h4 (h5 rfl);omega
 |some b=>
  obtain⟨arr,fr,e1,_⟩:=h6 b rfl;subst h1 e1;exact⟨b,rfl,rfl⟩
theorem X.fL{t e:TypeId}{z len cap a b:Nat}{p:Option Addr}{lo hi:Option Operand}(ht:P.underlying t=some (.slice e))(hsz:Es P e z)(h1:a<=b)(h2:b<=len)(h3:len<=cap)(hx:ev σ x= .slice p len cap)
  (hlo:(∃q,lo.map (ev σ)=some (.int q (a:Int)))\/ (lo=none/\a=0)) (hhi:(∃q,hi.map (ev σ)=some (.int q (b:Int)))\/ (hi=none/\b=len)):
  XO P σ w (.slice t x lo hi none) (.slice (if cap=a then p else p.map (·.add (a*z))) (b-a) (cap-a)):=λ_ _ _ _ _=>by
 have hr:=xN (P:=P) (w:=w) (p:=p) (zo:=lo.map (ev σ)) (vhi:=hi.map (ev σ)) ht hsz h1 h2 h3 (by rcases hlo with h|⟨h,h'⟩;exact .inl h;exact .inr ⟨by rw[h];rfl,h'⟩)
   (by rcases hhi with h|⟨h,h'⟩;exact .inl h;exact .inr ⟨by rw[h];rfl,h'⟩)
 simp only[execOp,hx,Instr.sliceAt,fP,fJ ht,fO,k?,hr,fW]
theorem X.xX{t u e:TypeId}{z m a b:Nat}{ad:Addr}{lo hi:Option Operand}(ht:iy P t=some (u,m,e))(hsz:Es P e z)(h1:a<=b)(h2:b<=m)(hx:ev σ x= .pointer (some ad))
  (hlo:(∃q,lo.map (ev σ)=some (.int q (a:Int)))\/ (lo=none/\a=0)) (hhi:(∃q,hi.map (ev σ)=some (.int q (b:Int)))\/ (hi=none/\b=m)):
  XO P σ w (.slice t x lo hi none) (.slice (some (if m=a then ad else ad.add (a*z))) (b-a) (m-a)):=λ_ _ _ _ _=>by
 have hlo':(∃q,lo.map (ev σ)=some (.int q (a:Int)))\/ (lo.map (ev σ)=none/\a=0):=hlo.imp id λh=>⟨by rw[h.1];rfl,h.2⟩;have hhi':(∃q,hi.map (ev σ)=some (.int q (b:Int)))\/ (hi.map (ev σ)=none/\b=m):=hhi.imp id λh=>⟨by rw[h.1];rfl,h.2⟩;unfold iy at ht;split at ht
 ·rename_i m' et hu;cases ht;simp only[execOp,hx,Instr.sliceAt,fP,fJ hu,fO,k?];generalize lo.map (ev σ)=zo at hlo'⊢;generalize hi.map (ev σ)=vhi at hhi'⊢;clear hlo hhi;rcases hlo' with⟨q,rfl⟩|⟨rfl,rfl⟩<;>rcases hhi' with⟨q',rfl⟩|⟨rfl,rfl⟩<;>
   simp[Instr.sureAddr,Instr.sliceBounds,Instr.sliceBound,asIntOf,Bg hsz,h1,h2]
 ·rename_i u' hp;split at ht
  ·rename_i m' et hu;cases ht;simp only[execOp,hx,Instr.sliceAt,fP,fJ hp,fO,k?];generalize lo.map (ev σ)=zo at hlo'⊢;generalize hi.map (ev σ)=vhi at hhi'⊢;clear hlo hhi;rcases hlo' with⟨q,rfl⟩|⟨rfl,rfl⟩<;>rcases hhi' with⟨q',rfl⟩|⟨rfl,rfl⟩<;>
    simp[Instr.slice,fJ hp,fJ hu,Instr.sliceBounds,Instr.sliceBound,asIntOf,Bg hsz,h1,h2,asAddr]
  ·cases ht
 ·cases ht
theorem sT{t et:TypeId}{lo hi:Option Operand}{G:Prop}(hr:Rel Z s σs A L σ w)(hd:Fa n ⟨d, .slice t x lo hi none,ty,pos,after,none⟩=true)(ht:P.underlying t=some (.slice et))(h:U9 P s d et (Cm s.sl x) lo hi k=some r):
  Mi P n ops ⟨d, .slice t x lo hi none,ty,pos,after,none⟩ Z s σs k r G A L σ w:=by
 have hm:=hr.mem;unfold U9 at h;split at h
 ·cases h
 ·rename_i inf Jv;split at h
  ·rename_i i hx;split at h
   ·rename_i E e l hi';obtain⟨hb,h⟩:=Ak h;simp only[fI]at hb;split at h
    ·rename_i a b ha hb';obtain⟨_,hok,h⟩:=bind_some h;have hab:0<=a/\a<=b/\b<=Ac l:=iM (Li hok);obtain⟨u,cs,h1,h2⟩:=hm.arr hi';obtain⟨z',E',c',h3⟩:=Up (Bw hm.sl hx rfl);rw[h1]at h3;have h3':=h3;cases h3;obtain⟨q,len,cap,g1,g2,g3,g4,g5⟩:=hr.nN h1;have hz:0<e.size:=by have:=iG hb.2;omega
     have hl:len=l.length:=gW hz (g2.symm.trans (h2.len λx c h=>Al.len h));obtain⟨a1,ha1⟩:=iD hab.1;obtain⟨b1,hb1⟩:=iD (show 0<=b by omega);subst ha1 hb1;have hbl:b1<=len:=by rw[hl];have:=hab.2.2;unfold Ac at this;omega
     have hxo:=X.fL (P:=P) (σ:=σ) (w:=w) (x:=x) (lo:=lo) (hi:=hi) (a:=a1) (b:=b1) ht (De Jv hb.1) F4 hbl g3 g1
      (by rcases Gd hm.sl ha with h|⟨h,h'⟩;exact .inl h;exact .inr ⟨h,F4⟩) (by rcases Gd hm.sl hb' with h|⟨h,h'⟩;exact .inl h;exact .inr ⟨h,by unfold Ac at h';omega⟩)
     rw[g1]at h1;refine Cj (p:= .view true i [] e a1 (b1-a1)) hr hd hxo rfl ⟨_,_,h1,rfl,F4,F4,⟨_,_,by rw[show((b1:Int)-a1).toNat=b1-a1 by omega],F4,λhn=>?_,λhc=>?_⟩,
      (λ_=>⟨_,_,q,len,cap,cs,rfl,rfl,F4,λpt m c' hv=>?_,λh0=>?_⟩),(λh=>by cases h)⟩ h
     ·split at hn
      ·omega
      ·have:q=none:=by simpa using hn
       have:=g4 this;omega
     ·obtain⟨bb,e1,e2⟩:=g5 F4;rw[g1]at e2;refine⟨bb,e2,?_⟩;rw[fK F4,e1];simp[Hh,Ap]
     ·cases hv;simp only[jE];omega
     ·have ha0:a1=0:=F4
      subst ha0;rw[show((b1:Int)-(0:Nat)).toNat=b1 by omega];simp only[Nat.sub_zero];congr 1;split
      ·rfl
      ·by_cases hc:0<cap
       ·obtain⟨bb,e1,_⟩:=g5 hc;rw[e1];simp[Hh]
       ·omega
    ·cases h
   ·cases h
  ·rename_i o i p e l0 n' hx;obtain⟨hb,h⟩:=Ak h;simp only[fI]at hb;split at h
   ·rename_i a b ha hb';obtain⟨_,hok,hk⟩:=bind_some h;have hab:0<=a/\a<=b/\b<=n':=iM (Li hok);obtain⟨md,v1,h3,h4,k1,k2,⟨pt,cap,k3,k4,k5,k6⟩,k7,k8⟩:=Bw hm.sl hx rfl;have h6:ev σ x=v1:=by simpa using h4
    obtain⟨a1,ha1⟩:=iD hab.1;obtain⟨b1,hb1⟩:=iD (show 0<=b by omega);obtain⟨l1,hl1⟩:=iD k1;obtain⟨n1,hn1⟩:=iD k2;subst ha1 hb1 hl1 hn1;simp only[jE]at k3 k4 k6 k7;have hxo:=X.fL (P:=P) (σ:=σ) (w:=w) (x:=x) (lo:=lo) (hi:=hi) (a:=a1) (b:=b1) ht (De Jv hb.1) F4 F4 k4 (h6.trans k3)
     (by rcases Gd hm.sl ha with h|⟨h,h'⟩;exact .inl h;exact .inr ⟨h,F4⟩) (by rcases Gd hm.sl hb' with h|⟨h,h'⟩;exact .inl h;exact .inr ⟨h,F4⟩)
    have e0:((l1:Int)+a1).toNat=l1+a1:=F4
    refine Cj (p:= .view o i p e (l1+a1) (b1-a1)) hr hd hxo rfl ⟨md,_,h3,rfl,F4,F4,⟨_,_,by rw[show((b1:Int)-a1).toNat=b1-a1 by omega],F4,λhn=>?_,λhc=>?_⟩,(λho=>?_),k8⟩ hk
    ·split at hn
     ·omega
     ·have:pt=none:=by simpa using hn
      have:=k5 this;omega
    ·obtain⟨bb,e1,e2⟩:=k6 F4;refine⟨bb,e1,?_⟩;rw[fK F4,e2,e0];simp[Hh,g!,gN]
    ·obtain⟨s',E',q,len,cap0,c0,e1,e2,e3,e4,e5⟩:=k7 ho;have e6:=e4 _ _ _ k3;refine⟨s',E',q,len,cap0,c0,e1,e2,F4,λpt' m c' hv=>?_,λh0=>?_⟩
     ·cases hv;omega
     ·have h00:l1=0/\a1=0:=F4
      obtain⟨rfl,rfl⟩:=h00;have e7:=e5 rfl;rw[k3]at e7;cases e7;rw[show((b1:Int)-(0:Nat)).toNat=b1 by omega];simp only[Nat.sub_zero];congr 1;split
      ·rfl
      ·by_cases hc:0<cap
       ·obtain⟨bb,_,e8⟩:=k6 hc;rw[e8];simp[Hh]
       ·omega
   ·cases h
  ·cases h
theorem S_{t:TypeId}{lo hi:Option Operand}{G:Prop}(hr0:Rel Z s σs A L σ w)(hd:Fa n ⟨d, .slice t x lo hi none,ty,pos,after,none⟩=true)(h:yZ vw s d t x lo hi k P=some r)(hG:G-> (owns (Cm s.sl x)).isEmpty=true):
  Mi P n ops ⟨d, .slice t x lo hi none,ty,pos,after,none⟩ Z s σs k r G A L σ w:=by
 unfold yZ at h;split at h
 ·rename_i ht;split at h
  ·rename_i l hx;split at h
   ·rename_i a b ha hb;obtain⟨y,hy,h⟩:=bind_some h;exact Cj (p:= .val .str y) hr0 hd (X.qj ht (Jm hr0.mem.sl hx) hy (Gd hr0.mem.sl ha) (Gd hr0.mem.sl hb)) rfl rfl h
   ·cases h
  ·cases h
 ·rename_i et ht;cases hvw:(vw&&K7 (Cm s.sl x))with
  |true=>
   rw[hvw]at h;exact sT hr0 hd ht h
  |false=>
  rw[hvw]at h;dsimp only[Bo,cond]at h;split at h
  ·cases h
  ·rename_i s1 hs1;obtain⟨A1,L1,hr,hsame⟩:=Jd hr0 hs1;have hm:=hr.mem;split at h
   ·rename_i e0 l0 hx;split at h
    ·rename_i e l;split at h
     ·rename_i inf Jv;obtain⟨hb,h⟩:=Ak h;simp only[fI]at hb;split at h
      ·rename_i a b ha hb';obtain⟨y,hy,h⟩:=bind_some h;obtain⟨h1,h2,h3,h4,rfl⟩:=Ww hy;obtain⟨c0,h5,h6⟩:=On (Bw hm.sl hx rfl);have hlen:=h6.len λx c h=>Al.len h;obtain⟨p',l',c',h7,h8⟩:=X.M4 (P:=P) (l:=a.toNat) (k:=b.toNat) (m:=l.length) ht (De Jv hb.1) (St.N! hr h5) (j:=0) rfl hlen (D7 hb.2) h3 h4;have hxo:=h7 σ w x lo hi rfl (by rcases Gd hm.sl ha with h|⟨h,h'⟩;exact .inl (by rw[<-h1];exact h);exact .inr ⟨h,F4⟩)
        (by rcases Gd hm.sl hb' with h|⟨h,h'⟩;exact .inl (by rw[<-h2];exact h);exact .inr ⟨h,by rw[h'];simp[Ac]⟩)
       have hv:Cl (λb=>A1 b/\Z.R b) w L1 (.val (.list e) ((l.take b.toNat).drop a.toNat)) (.slice p' l' c'):=
        VO (h8.fact 0 rfl) (Bi.drop (λx c h=>Al.len h) _ (Bi.take (λx c h=>Al.len h) _ h6))
       refine WL.U0 rfl hd (hxo _ _ _ _ _) (WL.nil ⟨_,A1,L1,h,hr.Dk rfl hv,λg=>?_⟩);obtain⟨e1,e2,e3⟩:=hsame (isEmpty_nil (hG g));subst e1 e2 e3;have:(s1.Dk d (.val (.list e) ((l.take b.toNat).drop a.toNat))).it=s1.it:=by cases d<;>rfl
       rw[this];exact .refl
      ·cases h
     ·cases h
    ·cases h
   ·rename_i hx;split at h
    ·rename_i inf a b Jv ha hb';obtain⟨_,hok,hk⟩:=bind_some h;have hab:0<=a/\a<=b/\b<=0:=iM (Li hok);have ha0:a=0:=F4
     have hb0:b=0:=F4
     subst ha0 hb0;have hv:=Ta (Bw hm.sl hx rfl);have hxo:=X.fL (P:=P) (σ:=σ) (w:=w) (x:=x) (lo:=lo) (hi:=hi) (a:=0) (b:=0) (z:=inf.size) ht ⟨inf,Jv,rfl⟩ (fQ _) (fQ _) (fQ _) hv
      (by rcases Gd hm.sl ha with h|⟨h,h'⟩;exact .inl h;exact .inr ⟨h,rfl⟩) (by rcases Gd hm.sl hb' with h|⟨h,h'⟩;exact .inl h;exact .inr ⟨h,rfl⟩)
     refine WL.U0 rfl hd (hxo _ _ _ _ _) (WL.nil ⟨_,A1,L1,hk,hr.Dk rfl rfl,λg=>?_⟩);obtain⟨e1,e2,e3⟩:=hsame (isEmpty_nil (hG g));subst e1 e2 e3;have:(s1.Dk d .nils).it=s1.it:=by cases d<;>rfl
     rw[this];exact .refl
    ·cases h
   ·cases h
 ·split at h
  ·rename_i u m et hat;split at h
   ·cases h
   ·rename_i inf Jv;split at h
    ·rename_i i p hx;split at h
     ·rename_i T v hit;split at h
      ·rename_i e0 l0 hg;split at h
       ·rename_i m' e l;obtain⟨hb,h⟩:=Ak h;simp only[fI]at hb;split at h
        ·rename_i a b ha hb';obtain⟨_,hok,hk⟩:=bind_some h;have hab:0<=a/\a<=b/\b<=m:=iM (Li hok);have hm:=hr0.mem;obtain⟨md,bb,h1,h2,h3⟩:=Mn (Bw hm.sl hx rfl);obtain⟨a1,ha1⟩:=iD hab.1;obtain⟨b1,hb1⟩:=iD (show 0<=b by omega);subst ha1 hb1;have hxo:=X.xX (P:=P) (σ:=σ) (w:=w) (x:=x) (lo:=lo) (hi:=hi) (a:=a1) (b:=b1) hat (De Jv hb.1.2) F4 F4 h3
          (by rcases Gd hm.sl ha with h|⟨h,h'⟩;exact .inl h;exact .inr ⟨h,F4⟩) (by rcases Gd hm.sl hb' with h|⟨h,h'⟩;exact .inl h;exact .inr ⟨h,F4⟩)
         refine Cj (p:= .view false i p e a1 (b1-a1)) hr0 hd hxo rfl ⟨md,_,h1,rfl,F4,F4,⟨_,_,(by rw[show((b1:Int)-a1).toNat=b1-a1 by omega]),F4,(λh=>by cases h),λhc=>⟨bb,h2,?_⟩⟩,(λh=>by cases h),λ_=>⟨bb,h2⟩⟩ hk;rw[fK F4,Hh];rfl
        ·cases h
       ·cases h
      ·cases h
     ·cases h
    ·cases h
  ·cases h
theorem Ajc{t:TypeId}{hi mx:Operand}{lo:Option Operand}{G:Prop}(hr0:Rel Z s σs A L σ w)(hd:Fa n ⟨d, .slice t x lo (some hi) (some mx),ty,pos,after,none⟩=true)(h:rE vw s d t x lo hi mx k P=some r)(hG:G-> (owns (Cm s.sl x)).isEmpty=true):
  Mi P n ops ⟨d, .slice t x lo (some hi) (some mx),ty,pos,after,none⟩ Z s σs k r G A L σ w:=by
 unfold rE at h;split at h
 ·rename_i et ht;split at h
  ·cases h
  ·rename_i s1 hs1;obtain⟨A1,L1,hr,hsame⟩:=Jd hr0 hs1;have hm:=hr.mem;split at h
   ·rename_i e0 l0 hx;split at h
    ·rename_i e l;split at h
     ·rename_i inf Jv;obtain⟨hb,h⟩:=Ak h;simp only[fI]at hb;split at h
      ·rename_i a b c ha hb' hc';obtain⟨_,hok,h⟩:=bind_some h;have hbc:b<=c/\c<=Ac l:=iM (Li hok);obtain⟨y,hy,h⟩:=bind_some h;obtain⟨h1,h2,h3,h4,rfl⟩:=Ww hy;obtain⟨c0,h5,h6⟩:=On (Bw hm.sl hx rfl);have hlen:=h6.len λx c h=>Al.len h;obtain⟨q1,hq1⟩:=Ui hb' (Ie hm.sl hi (BF hb'));obtain⟨q2,hq2⟩:=Ui hc' (Ie hm.sl mx (BF hc'));unfold Ac at hbc;obtain⟨p',l',c',h7,h8,hc9⟩:=X.Afe (P:=P) (l:=a.toNat) (k:=b.toNat) (c:=c.toNat) (m:=l.length) ht (De Jv hb.1) (St.N! hr h5) (j:=0) rfl hlen (D7 hb.2) h3 F4 F4;have hxo:=h7 σ w x lo hi mx rfl (by rcases Gd hm.sl ha with h|⟨h,h'⟩;exact .inl (by rw[<-h1];exact h);exact .inr ⟨h,F4⟩)
        ⟨q1,by rw[hq1,<-h2]⟩ ⟨q2,by rw[hq2,show((c.toNat:Nat):Int)=c by omega]⟩
       have hall:Bi (Al (λb=>A1 b/\Z.R b) w e) ((l.take b.toNat).drop a.toNat) ((c0.take (b.toNat*e.size)).drop (a.toNat*e.size)):=Bi.drop (λx c h=>Al.len h) _ (Bi.take (λx c h=>Al.len h) _ h6);have hv:Cl (λb=>A1 b/\Z.R b) w L1 (Bo vw (.cap e ((l.take b.toNat).drop a.toNat) (c-a))<| .val (.list e) ((l.take b.toNat).drop a.toNat)) (.slice p' l' c'):=by
        cases vw with
        |true=>exact⟨_,_,rfl,h8.fact 0 rfl,hall,F4,p',l',by rw[hc9];congr 1;omega⟩
        |false=>exact VO (h8.fact 0 rfl) hall
       have hV:(Bo vw (PV.cap e ((l.take b.toNat).drop a.toNat) (c-a))<| .val (.list e) ((l.take b.toNat).drop a.toNat)).isV=true:=by cases vw<;>rfl
       refine WL.U0 rfl hd (hxo _ _ _ _ _) (WL.nil ⟨_,A1,L1,h,hr.Dk hV hv,λg=>?_⟩);obtain⟨e1,e2,e3⟩:=hsame (isEmpty_nil (hG g));subst e1 e2 e3;have:∀q,(s1.Dk d q).it=s1.it:=λq=>by cases d<;>rfl
       rw[this];exact .refl
      ·cases h
     ·cases h
    ·cases h
   ·cases h
 ·cases h
theorem qz{x:e.T}(h:e.of p=some x):p.D2=true:=by
 unfold ET.of M5 at h;split at h
 ·rfl
 ·rfl
 ·rfl
 ·cases h
theorem xV{e:ET}(hr:Rel Z s σs A L σ w):∀{xs:List Operand} {l:List e.T},wU e (xs.map (Cm s.sl))=some l->
  Bi (Al (λb=>A b/\Z.R b) w e) l ((xs.map (ev σ)).map λv:Value=>v.cells.toList).flatten/\l.length=xs.length/\∀v∈xs.map (ev σ),v.cells.size=e.size
 |[],l,h=>by simp only[lM,wU,fR]at h;subst h;exact⟨rfl,rfl,F5⟩
 |x::xs,l,h=>by
  simp only[gT,wU]at h;split at h
  ·rename_i y ys hy hys;cases h;obtain⟨h1,h2,h3⟩:=xV hr hys;obtain⟨cs,h4,h5⟩:=Yh hr (Xd hr.mem.sl (x:=x) (qz hy));have h6:=Zd hy h5;refine⟨⟨cs,_,by simp[h4],h6,h1⟩,by simp[h2],λv hv=>?_⟩;simp only[gT,lR]at hv;rcases hv with rfl|hv
   ·rw[h4];simpa using h6.len
   ·exact h3 v hv
  ·cases h
theorem N3:∀{ps:List (Nat×Operand)} {m:Nat},cu m ps=true-> (ps.map λp=>(p.1,ev σ p.2))=(((ps.map Prod.snd).map (ev σ)).zipIdx m).map λp=>(p.2,p.1)
 |[],_,_=>rfl
 |(i,x)::ps,m,h=>by
  simp only[cu,fI]at h;simp only[gT,oq,N3 h.2,Bb h.1]
theorem Aho{t:TypeId}{len:Nat}{ps:Array (Nat×Operand)}{dn:Nat}{G:Prop}(hr0:Rel Z s σs A L σ w)(hd:Fa n ⟨some dn, .buildSlice t len ps,ty,pos,after,none⟩=true)
  (h:KP P s (some dn) t len ps.toList k=some r) (hG:G-> (owns.go (ps.toList.map λp=>Cm s.sl p.2)).isEmpty=true):Mi P n ops ⟨some dn, .buildSlice t len ps,ty,pos,after,none⟩ Z s σs k r G A L σ w:=by
 unfold KP at h;split at h
 ·cases h
 ·rename_i E hE;split at h
  ·cases h
  ·rename_i e he;obtain⟨hb,h⟩:=Ak h;simp only[fI]at hb;obtain⟨⟨⟨hb1,hb2⟩,hb3⟩,hb4⟩:=hb;split at h
   ·cases h
   ·rename_i s1 hs1;obtain⟨A1,L1,hr,hsame⟩:=Jd hr0 hs1;split at h
    ·rename_i l hl;have hl':wU e ((ps.toList.map Prod.snd).map (Cm s1.sl))=some l:=by rw[List.map_map];exact hl
     obtain⟨h1,h2,h3⟩:=xV hr hl';have hps:ps=ps.toList.toArray:=by simp
     rw[show(⟨some dn, .buildSlice t len ps,ty,pos,after,none⟩:Oper)=⟨some dn, .buildSlice t len ps.toList.toArray,ty,pos,after,none⟩ by rw[<-hps]];have hlen:((ps.toList.map Prod.snd).map (ev σ)).length=len:=by simpa using Bb hb3
     have hF:=St.dF (f:=pC Z.R L1 (.arr E e l) (((ps.toList.map Prod.snd).map (ev σ)).map λv:Value=>v.cells.toList).flatten) hr.same h1;refine WL.buildSlice (vs:=(ps.toList.map Prod.snd).map (ev σ)) (GH hE) (gU hb1) hF (Zv (o:= .buildSlice t len ps) hd) (N3 hb2) hlen hb4 h3 rfl (λp q c w' hs'=>WL.nil ?_);have h4:Bi (Al (λb=>A1 b/\Z.R b) w' e) l (((ps.toList.map Prod.snd).map (ev σ)).map λv:Value=>v.cells.toList).flatten:=hs'.fact 0 rfl;refine wA.of (λg=>hsame (isEmpty_nil (hG g))) (HV (a:= .arr E e l) (md:= .own e.size E (.slice p q c) _) hr hs'.kJ ⟨rfl,rfl,h4⟩ rfl (λB=>?_) h);rw[S.new,hr.len];exact bB
    ·cases h
theorem Ajb{E:TypeId}{i len cap m:Nat}{q:Option Addr}{cs:List Value}{l:List e.T}(hr:Rel Z s σs A L σ w)(hi:L[i]? =some (.own e.size E (.slice q len cap) cs))(hm:m<=len)(hl:Bi (Al (λb=>A b/\Z.R b) w e) l (cs.take (m*e.size))):
  Rel Z (((s.Hc i .dead).sub i .any).add (.arr E e l)) σs A (L.set i .dead++[.own e.size E (.slice q m cap) (cs.take (m*e.size))]) σ w:=by
 have hf:Frz (λb=>A b/\Z.R b) w L i .any:=⟨λz E' u c h=>⟨u,rfl,by rw[hi]at h;cases h;rfl⟩,rfl,rfl⟩;have hm2:=hr.mem.subst hf;have Py:(L.map MD.Cy)[i]? =some (Mob.own e.size E (.slice q len cap) cs):=hr.Cy hi;obtain⟨o,h1,h2,h3⟩:=(St.mobs hr).perm (KM Py).symm;have h4:(Mob.own e.size E (.slice q m cap) (cs.take (m*e.size))).holds o w:=by
  obtain⟨q',len',cap',g1,g2,g3,g4,g5,g6⟩:=h1;cases g1;have e5:m*e.size<=len*e.size:=fY _ hm;refine⟨q,m,cap,rfl,by rw[hH];omega,F4,g4,g5,λb hb=>?_⟩;obtain⟨arr,fr,k1,k2,k3,k4,k5⟩:=g6 b hb;exact⟨arr,fr,k1,k2,k3,k4,λj hj=>by rw[k5 j F4,gY,fN hj]⟩
 have h5:Bs w A (Mob.own e.size E (.slice q m cap) (cs.take (m*e.size))::(L.map MD.Cy).eraseIdx i):=⟨o,h4,h2,h3⟩;have h6:Bs w A (MD.dead.Cy::Mob.own e.size E (.slice q m cap) (cs.take (m*e.size))::(L.map MD.Cy).eraseIdx i):=⟨none,⟨none,0,0,rfl,F5,fQ _,λ_=>rfl,λ_=>rfl,λb h=>by cases h⟩,λb hb=>(by cases hb),h5.Eo λb hb=>hb.elim id λh=>by cases h⟩;have h7:Bs w A ((MD.own e.size E (.slice q m cap) (cs.take (m*e.size))).Cy::(L.set i .dead).map MD.Cy):=by
  rw[iX];exact h6.perm ((List.Perm.swap _ _ _).trans ((Mt (m':=MD.dead.Cy) Py).cons _))
 have h8:St A w [fD Z.R (L.set i .dead) ((s.Hc i .dead).sub i .any) σs σ, .old Z.M Z.w0] ((MD.own e.size E (.slice q m cap) (cs.take (m*e.size))).Cy::(L.set i .dead).map MD.Cy):=by
  refine⟨St.lt hr,λf hf=>?_,h7⟩;cases hf with
  |head=>exact hm2
  |tail _ hf=>exact hr.facts f (.tail _ hf)
 exact Rel.push (a:= .arr E e l) h8 ⟨rfl,rfl,hl⟩
theorem M7{E:TypeId}{s1:S}{i:Nat}(hr:Rel Z s σs A L σ w)(hz:0<e.size)(hx:(Cm s.sl x).D2=true)(h:Z6 s E e (Cm s.sl x)=some (s1,i)):
  ∃L1,Rel Z s1 σs A L1 σ w/\∃c0,L1[i]? =some (.own e.size E (ev σ x) c0):=by
 have hv:=Ie hr.mem.sl x (PV.xJ hx);unfold Z6 at h;split at h
 ·rename_i hp;cases h;rw[hp]at hv;have hev:=Ta hv;have hr':=Rel.push (a:= .arr E e []) (md:= .own e.size E (.slice none 0 0) []) (St.zW hr e.size E) ⟨rfl,rfl,rfl⟩;refine⟨_,hr',[],?_⟩;rw[S.new,hr.len,hev];simp
 ·rename_i j hp;rw[hp]at hv;split at h
  ·rename_i E' e' l hj;obtain⟨hb,h⟩:=Ak h;split at h
   ·rename_i he;cases h;subst he;have:=Bb hb;subst this;obtain⟨v,cs,h1,h2⟩:=hr.mem.arr hj;obtain⟨z,E',c,h3⟩:=Up hv;rw[h1]at h3;cases h3;exact⟨L,hr,cs,h1⟩
   ·cases h
  ·cases h
 ·rename_i j p e1 lo n' hp;rw[hp]at hv;split at h
  ·rename_i E' e' l hj;obtain⟨hb,h⟩:=Ak h;simp only[fI,lC]at hb;obtain⟨⟨hE,h0⟩,he1⟩:=hb;split at h
   ·rename_i he;cases h;subst he he1;have:=Bb hE;subst this;subst h0;obtain⟨u,cs,h1,h2⟩:=hr.mem.arr hj;obtain⟨md,v1,h3,h4,k1,k2,_,k7,_⟩:=hv;rw[h1]at h3;cases h3;have h6:ev σ x=v1:=by simpa using h4
    obtain⟨s',E2,q,len,cap,c0,e1,e2,e3,_,e5⟩:=k7 rfl;cases e1;have e7:=e5 rfl;have hl:Bi (Al (λb=>A b/\Z.R b) w e1) (SG l 0 n') (cs.take (n'.toNat*e1.size)):=by
     have:=Bi.take (λx c h=>Al.len h) n'.toNat h2;simpa [SG]using this
    have hr':=Ajb hr h1 (m:=n'.toNat) (by simpa using e3) hl;refine⟨_,hr',cs.take (n'.toNat*e1.size),?_⟩;rw[h6,e7,S.new,hr.len];have:L.length=(L.set j .dead).length:=by simp
    rw[this,iB (fQ _)];simp
   ·cases h
  ·cases h
 ·cases h
theorem V? {a:Item}{l:List e.T}(h:nC e a=some l):∃E,a= .arr E e l:=by
 unfold nC at h;split at h
 ·rename_i E e' l';split at h
  ·rename_i he;subst he;cases h;exact⟨E,rfl⟩
  ·cases h
 ·cases h
theorem N6{E:TypeId}{i dn:Nat}{l m:List e.T}{cs ys:List Value}{v':Value}{w':World}{s0:S}{A0:Reg}{L0:List MD}{w0:World}(hr:Rel Z s σs A L σ w)(hi:L[i]? =some (.own e.size E v cs))(hl:Bi (Al (λb=>A b/\Z.R b) w e) (l++m) (cs++ys))
  (hs:St A w' [pC Z.R L (.arr E e (l++m)) (cs++ys),fD Z.R L s σs σ, .old Z.M Z.w0] ((L.map MD.Cy).set i (.own e.size E v' (cs++ys))))
  (hk:k ((((s.Hc i .dead).sub i .any).add (.arr E e (l++m))).Dk (some dn) (.own s.new))=some r):wA Z σs k r False A0 L0 s0.it w0 (Hc σ dn v') w':=by
 have h1:Bi (Al (λb=>A b/\Z.R b) w' e) (l++m) (cs++ys):=hs.fact 0 rfl;have hone:v.oneCell'=true:=by obtain⟨p,len,cap,rfl,_⟩:=hr.Ik hi;rfl
 have hs1:=hs.kJ;have hm:MemR (λb=>A b/\Z.R b) w' L s σs σ:=hs1.fact 0 rfl;have hf:Frz (λb=>A b/\Z.R b) w' L i .any:=⟨λz E' u c h=>⟨u,rfl,by rw[hi]at h;cases h;exact hone⟩,rfl,rfl⟩;have hm2:=hm.subst hf;have Py:(L.map MD.Cy)[i]? =some (Mob.own e.size E v cs):=hr.Cy hi;have hs2:=Bs.VQ hs1 (Mt (m':=Mob.own e.size E v' (cs++ys)) Py).symm;have hs3:=Bs.VQ (hs2.zW 1 0) (List.Perm.swap _ _ _);have hs4:=Bs.VQ hs3 ((Mt (m':=MD.dead.Cy) Py).cons _);have hs5:St A w' [fD Z.R (L.set i .dead) ((s.Hc i .dead).sub i .any) σs σ, .old Z.M Z.w0] ((MD.own e.size E v' (cs++ys)).Cy::(L.set i .dead).map MD.Cy):=by
  rw[iX];exact(hs4.noF.dF (f:= .old Z.M Z.w0) (hs4.fact 1 rfl)).dF (f:=fD Z.R (L.set i .dead) ((s.Hc i .dead).sub i .any) σs σ) hm2
 have hr2:=Rel.push (a:= .arr E e (l++m)) hs5 ⟨rfl,rfl,h1⟩;have hnew:s.new=(L.set i .dead).length:=by rw[mM,<-hr.len];rfl
 refine⟨_,A,_,hk,hr2.Dk (d:=some dn) rfl ?_,λg=>g.elim⟩;rw[hnew];exact bB
theorem E!(z:Array Value)(hz:0<z.size)(m:Nat):((List.replicate m z.toList).flatten).toArray=Builtin.zeroCells z m:=by
 apply Array.ext
 ·simp[Builtin.zeroCells]
 ·intro j h1 h2;simp only[Builtin.zeroCells,Array.getElem_map,Array.getElem_range];have h3:j<m*z.size:=by simpa [Builtin.zeroCells]using h2
  have h4:=rU z.toList z.size F5 hz m j h3;have h5:j %z.size<z.size:=Nat.mod_lt _ hz;simp only[List.getElem_toArray];rw[gH (by simpa using h1)]at h4;simp[h5]at h4;simp[h4,h5]
theorem Adv {E t t2:TypeId}{kk:List e.T->Option R}(hr:Rel Z s σs A L σ w)(ht:P.underlying t=some (.slice E))(hel:ElemOk P E e.size)(h:nB P s E e t2 y kk=some r):
  ∃m ys,kk m=some r/\Bi (Al (λb=>A b/\Z.R b) w e) m ys/\∀(A1:Reg) (F:List Fact) (LL:List Mob) (i ll:Nat) (vx:Value) (cs:List Value),St A1 w F LL->LL[i]? =some (.own e.size E vx cs)->cs.length=ll*e.size->ll+m.length<=E6->
   ∃v' w',(Builtin.append_ #[t,t2] ty #[vx,ev σ y]).run P w= .ok v' w'/\St A1 w' F (LL.set i (.own e.size E v' (cs++ys))):=by
 unfold nB at h;split at h
 ·rename_i ht2;split at h
  ·rename_i m0 hy;split at h
   ·rename_i m hm;unfold II at hm;split at hm
    ·rename_i he;cases he;cases hm;refine⟨m0,Rk m0,h,yW.Yc,λA1 F LL i ll vx cs hs hL hlen hlim=>?_⟩;rw[Jm hr.mem.sl hy];exact ZL (x:=y) (y:=y) ht hel hs hL (Src.string ht2) (Aci m0) hlen (by simp[Rk,ET.size]) hlim
    ·cases hm
   ·cases h
  ·cases h
 ·rename_i et2 ht2;split at h
  ·rename_i m hm;have hV:(Cm s.sl y).isV=true:=by
    cases hq:(Cm s.sl y).isV with
    |true=>rfl
    |false=>rcases Lk hq with h|h|⟨_,_,_,h⟩<;>rw[h]at hm<;>cases hm
   obtain⟨c0,h1,h2⟩:=FP hr.mem hm (Ie hr.mem.sl y hV);have hrd:Rd (λ_=>True) w e.size (ev σ y) c0:=by
    rcases h2 with h2|⟨j,E',u,cs',_,h2,hpart⟩
    ·exact h2.step (λ_ _=>trivial) (λ_ _=>rfl)
    ·exact hpart _ _ (hr.Ik h2)
   have wR:=h1.len λx c h=>Al.len h;exact⟨m,c0,h,h1,λA1 F LL i ll vx cs hs hL hlen hlim=>ZL (x:=y) (y:=y) ht hel hs hL (Src.slice ⟨_,ht2⟩ hrd wR hel.pos) h1.B4 hlen wR hlim⟩
  ·cases h
 ·rename_i kk2 ht2;split at h
  ·rename_i q z hq hz;split at h
   ·rename_i x0 hx0;obtain⟨m,hm,h⟩:=bind_some h;obtain⟨h1,h2,rfl⟩:=I9 hm;obtain⟨zv,⟨i0,hi0,hz0⟩,hz2⟩:=Tp hz;have hx1:=Zd hx0 (hz2 (λb=>A b/\Z.R b) w L);have hall:=zC hx1 q.toNat;refine⟨_,_,h,hall,λA1 F LL i ll vx cs hs hL hlen hlim=>?_⟩;rw[oY hq (Ie hr.mem.sl y (zO hq)),h1];have hzs:zv.cells.size=e.size:=by have:=hx1.len;simpa using this
    rw[List.length_replicate]at hlim;exact D4 (x:=y) (y:=y) (ly:=q.toNat) ht hel hs hL ⟨_,ht2⟩ (λi z' hi hz'=>by rw[hi0]at hi;cases hi;rw[hz0]at hz';cases hz';exact E! zv.cells (by rw[hzs];exact hel.pos) _)
     hall.B4 hlen ((hall.len λx c h=>Al.len h).trans F5) hlim
   ·cases h
  ·cases h
 ·cases h
theorem Abr {t2:TypeId}{m:List e.T}(hr:Rel Z s σs A L σ w)(hz:0<e.size)(h:nT P s e t2 y=some m):∃ys,Bi (Al (λb=>A b/\Z.R b) w e) m ys/\Src P w t2 (ev σ y) e.size m.length ys:=by
 unfold nT at h;split at h
 ·rename_i ht2;split at h
  ·rename_i m0 hy;unfold II at h;split at h
   ·rename_i he;cases he;cases h;refine⟨Rk m0,yW.Yc,?_⟩;rw[Jm hr.mem.sl hy];exact Src.string ht2
   ·cases h
  ·cases h
 ·rename_i et2 ht2;have hV:(Cm s.sl y).isV=true:=by
   cases hq:(Cm s.sl y).isV with
   |true=>rfl
   |false=>rcases Lk hq with h'|h'|⟨_,_,_,h'⟩<;>rw[h']at h<;>cases h
  obtain⟨c0,h1,h2⟩:=FP hr.mem h (Ie hr.mem.sl y hV);have hrd:Rd (λ_=>True) w e.size (ev σ y) c0:=by
   rcases h2 with h2|⟨j,E',u,cs',_,h2,hpart⟩
   ·exact h2.step (λ_ _=>trivial) (λ_ _=>rfl)
   ·exact hpart _ _ (hr.Ik h2)
  exact⟨c0,h1,Src.slice ⟨_,ht2⟩ hrd (h1.len λx c h=>Al.len h) hz⟩
 ·cases h
theorem rS{l:List e.T}{c:Int}(h:nP e p=some (l,c)):p= .cap e l c:=by
 unfold nP at h;split at h
 ·split at h
  ·rename_i he;subst he;cases h;rfl
  ·cases h
 ·cases h
theorem Ajw{t t2:TypeId}{dn:Nat}(hr0:Rel Z s σs A L σ w)(hd:Fa n ⟨some dn, .call ⟨.builtin .append, #[x,y], #[t,t2]⟩,ty,pos,after,none⟩=true)
  (h:pL P s (some dn) x y t t2 k=some r):Mi P n ops ⟨some dn, .call ⟨.builtin .append, #[x,y], #[t,t2]⟩,ty,pos,after,none⟩ Z s σs k r False A L σ w:=by
 unfold pL at h;split at h
 ·cases h
 ·rename_i E hE;split at h
  ·cases h
  ·rename_i e he;obtain⟨hb,h⟩:=Ak h;simp only[fI]at hb;have hel:=gU hb.1;split at h
   ·rename_i l c hcap;split at h
    ·rename_i m hm;obtain⟨r',ha,hk⟩:=bind_some h;obtain⟨h3,rfl⟩:=fZ ha;obtain⟨_,hok,hk⟩:=bind_some hk;have hlt:c<Ac (l++m):=iM (Li hok);obtain⟨ys,hy1,hy2⟩:=Abr hr0 hel.pos hm;obtain⟨v0,c0,g1,g2,g3,g4,p,len,g5⟩:=Bw hr0.mem.sl (rS hcap) rfl;cases g1;have hlen:=g3.len λx c h=>Al.len h;have wR:=hy1.len λx c h=>Al.len h;unfold Ac at hlt;rw[gF]at hlt;obtain⟨v',w',h4,h5⟩:=J3 (ty:=ty) (GH hE) hel hr0.same (g2.step (A':=λ_=>True) (λ_ _=>trivial) (λ_ _=>rfl)) g5 F4 hy2 hlen wR h3;refine WL.val (v:=v') (w':=w') rfl rfl (Zv hd) ?_ (WL.nil (HV (a:= .arr E e (l++m)) (md:= .own e.size E v' (c0++ys)) hr0 h5 ⟨rfl,rfl,?_⟩ rfl (λB=>?_) hk))
     ·simp[execOp,resolve,invoke,builtin,h4]
     ·obtain⟨k1,k2⟩:(∀b,A b->A b)/\Same A w w':=h5.fact 0 rfl;exact(g3.append hy1).mono λx c h=>Al.step (λ_ h=>h) (λb hb=>k2 b hb.1) h
     ·rw[S.new,hr0.len];exact bB
    ·cases h
   split at h
   ·cases h
   ·rename_i s1 i hown;obtain⟨L1,hr,cs,hi⟩:=M7 hr0 hel.pos hb.2 hown;split at h
    ·cases h
    ·rename_i l hl;obtain⟨E',hit⟩:=V? hl;obtain⟨v1,cs1,h1,h2⟩:=hr.mem.arr hit;rw[hi]at h1;cases h1;have hlen:=h2.len λx c h=>Al.len h;obtain⟨m,ys,hk,hm,hrun⟩:=Adv (ty:=ty) hr0 (GH hE) hel h;obtain⟨r',ha,hk⟩:=bind_some hk;obtain⟨h3,rfl⟩:=fZ ha;have hF:=St.dF (f:=pC Z.R L1 (.arr E e (l++m)) (cs++ys)) hr (h2.append hm);obtain⟨v',w',h4,h5⟩:=hrun A _ _ i l.length (ev σ x) cs hF (hr.Cy hi) hlen h3;refine WL.val (v:=v') (w':=w') rfl rfl (Zv hd) ?_ (WL.nil (N6 hr hi (h2.append hm) h5 hk));simp[execOp,resolve,invoke,builtin,h4]
end Go.Rx
namespace Go.Rx
open Go Go.Lv
variable {P:Program} {B:Reg} {w w':World} {L L':List MD} {s:S} {σs:List Env} {σ:Env} {Z:Fix} {A A':Reg} {n:Nat} {ops:Array Oper} {rest:List Oper} {K:Env->World->Prop}
variable {R:Type} {k:S->Option R} {r:R} {d:Option Nat} {ty:TypeId} {pos:String} {after:Array Edge}
theorem xR{place:Nat->Option (Nat×Nat)}{acc ns:List Value}{i off z:Nat}{v:Value}{rest:List (Nat×Value)}(hp:place i=some (off,z))(hv:v.cells=ns.toArray)(hz:ns.length=z)(hl:off+z<=acc.length):
  Instr.fill place acc.toArray ((i,v)::rest)=Instr.fill place (Ba acc off ns).toArray rest:=by
 have hf:=QY off ns 0 acc F4;have k!:v.cells.zipIdx.foldl (λcs (x:Value×Nat)=>cs.setIfInBounds (off+x.2) x.1) acc.toArray=(Ba acc off ns).toArray:=by
  rw[hv,<-Array.foldl_toList,Array.toList_zipIdx];simpa using hf
 simp only[Instr.fill,hp];have hc:(decide (v.cells.size≠z)||decide (off+v.cells.size>acc.toArray.size))=false:=by rw[hv];simp;omega
 rw[fK (by rw[hc];simp)]
 show Instr.fill _ (v.cells.zipIdx.foldl (λcs (x:Value×Nat)=>cs.setIfInBounds (off+x.2) x.1) acc.toArray) _=_;rw[k!]
def places:List PV->Nat->List (Nat×Nat)
 |[],_=>[]
 |v::vs,off=>(off,v.size)::places vs (off+v.size)
theorem qD:∀{l:List PV} {i off:Nat} {u:PV},l[i]? =some u-> (places l off)[i]? =some (off+pE l i,u.size)
 |[],_,_,_,h=>by simp at h
 |a::l,0,off,u,h=>by simp at h;subst h;rfl
 |a::l,i+1,off,u,h=>by
  have:=qD (l:=l) (i:=i) (off:=off+a.size) (by simpa using h);simpa [places,pE,gN]using this
theorem pI:∀{l:List PV} {i off:Nat} {u v:PV},l[i]? =some u->u.size=v.size->places (l.set i v) off=places l off
 |[],_,_,_,_,h,_=>by simp at h
 |a::l,0,off,u,v,h,hs=>by simp at h;subst h;simp[places,hs]
 |a::l,i+1,off,u,v,h,hs=>by simp[places,pI (l:=l) (i:=i) (by simpa using h) hs]
theorem UR:∀{fs:List Field} {vs:List PV} {off:Nat},Xy P fs vs off=true-> (fs.map λf=>(f.offset,(P.info? f.type).map (·.size)))=(places vs off).map λp=>(p.1,some p.2)
 |[],[],_,_=>rfl
 |[],_::_,_,h=>by simp[Xy]at h
 |_::_,[],_,h=>by simp[Xy]at h
 |f::fs,v::vs,off,h=>by
  simp only[Xy,fI]at h;obtain⟨⟨h1,h2⟩,h3⟩:=h;split at h2
  ·rename_i i hi;simp[places,UR h3,hi,Bb h1,Bb h2]
  ·cases h2
theorem RS(hr:Rel Z s σs A L σ w){pl:List (Nat×Nat)}:∀{parts:List (Nat×Operand)} {zs l:List PV} {acc:List Value},IG (parts.map λp=>(p.1,Cm s.sl p.2)) zs=some l->
  places zs 0=pl->As.go (λb=>A b/\Z.R b) w L zs acc->∃cells,Instr.fill (pl[·]?) acc.toArray (parts.map λp=>(p.1,ev σ p.2))=some cells.toArray/\As.go (λb=>A b/\Z.R b) w L l cells
 |[],zs,l,acc,h,_,ha=>by simp only[lM,IG,fR]at h;subst h;exact⟨acc,rfl,ha⟩
 |(i,x)::ps,zs,l,acc,h,hpl,ha=>by
  subst hpl;simp only[gT,IG]at h;split at h
  ·rename_i u hu;obtain⟨hb,h⟩:=Ak h;simp only[fI]at hb;have hsz:=Bb hb.1;obtain⟨ns,h1,h2⟩:=Yh hr (Xd hr.mem.sl (x:=x) hb.2);obtain⟨c1,c2,c3,e,h3,h4,h5⟩:=As.field ha hu;have hlen:=h2.len;have YF:=h4.len;obtain⟨cells,h6,h7⟩:=RS hr (zs:=zs.set i (Cm s.sl x)) (acc:=c1++(ns++c3)) h (by rw[pI hu hsz]) (h5 _ _ h2);refine⟨cells,?_,h7⟩;rw[gT,xR (off:=c1.length) (z:=u.size) (ns:=ns) (by rw[qD hu,gV,h3]) h1 F4 (by rw[e];simp;omega),e,JU F4];exact h6
  ·cases h
theorem H4(hr:Rel Z s σs A L σ w){e:ET}:∀{parts:List (Nat×Operand)} {l l':List e.T} {acc:List Value},sN e (parts.map λp=>(p.1,Cm s.sl p.2)) l=some l'->
  Bi (Al (λb=>A b/\Z.R b) w e) l acc->∃cells,Instr.fill (λi=>some (i*e.size,e.size)) acc.toArray (parts.map λp=>(p.1,ev σ p.2))=some cells.toArray/\Bi (Al (λb=>A b/\Z.R b) w e) l' cells/\l'.length=l.length
 |[],l,l',acc,h,ha=>by simp only[lM,sN,fR]at h;subst h;exact⟨acc,rfl,ha,rfl⟩
 |(i,x)::ps,l,l',acc,h,ha=>by
  simp only[gT,sN]at h;split at h
  ·rename_i u y hu hy;obtain⟨ns,h1,h2⟩:=Yh hr (Xd hr.mem.sl (x:=x) (qz hy));have h3:=Zd hy h2;obtain⟨c1,c2,c3,e',h4,h5,h6⟩:=Bi.get (λx c h=>Al.len h) ha hu;have hlen:=h3.len;have YF:=h5.len;obtain⟨cells,h7,h8,h9⟩:=H4 hr (l:=l.set i y) (acc:=c1++(ns++c3)) h (h6 _ _ h3);refine⟨cells,?_,h8,by rw[h9,mM]⟩;rw[gT,xR (off:=c1.length) (z:=e.size) (ns:=ns) (by rw[h4]) h1 hlen (by rw[e'];simp;omega),e',JU F4];exact h7
  ·cases h
theorem Aik{t et:TypeId}{m z:Nat}{parts:List (Nat×Operand)}{zv:Value}{cells:List Value}(ht:P.underlying t=some (.array m et))(hz:∃i,P.info? t=some i/\i.zero=some zv)(hsz:Es P et z)
  (hf:Instr.fill (λi=>some (i*z,z)) zv.cells (parts.map λp=>(p.1,ev σ p.2))=some cells.toArray) (w:World):XO P σ w (.build t parts.toArray) (.agg cells.toArray):=λ_ _ _ _ _=>by
 obtain⟨i,hi,hz⟩:=hz;simp only[execOp,Instr.build,fP,zeroValue,typeInfo];simp[hi,hz,fJ ht,Bg hsz,hf]
theorem H'{t:TypeId}{ps:Array (Nat×Operand)}{G:Prop}(hr:Rel Z s σs A L σ w)(hd:Fa n ⟨d, .build t ps,ty,pos,after,none⟩=true)(h:yM P s d t ps.toList k=some r):
  Mi P n ops ⟨d, .build t ps,ty,pos,after,none⟩ Z s σs k r G A L σ w:=by
 have hps:ps=ps.toList.toArray:=by simp
 rw[show(⟨d, .build t ps,ty,pos,after,none⟩:Oper)=⟨d, .build t ps.toList.toArray,ty,pos,after,none⟩ by rw[<-hps]];unfold yM at h;split at h
 ·rename_i fs zs ht hz;obtain⟨hb,h⟩:=Ak h;obtain⟨z,⟨i,hi,hz0⟩,hz2⟩:=Tp hz;split at h
  ·rename_i l hl;obtain⟨cells,h1,h2⟩:=RS hr (pl:=places zs 0) hl rfl (show As.go _ w L zs _ from hz2 _ _ _);have hst:Uq P t (places zs 0) z.cells.toList:=by
    unfold Uq Zj;rw[ht];simp only[UR hb,hi,hz0,iU]
   exact Cj hr (d:=d) (o:= .build t ps.toList.toArray) (by simpa using hd) (X.build hst rfl (by simpa using h1)) rfl (show Cl _ w L (.agg l) _ from⟨cells,rfl,h2⟩) h
  ·cases h
 ·rename_i m et e0 l0 ht hz;split at h
  ·rename_i m' a l;split at h
   ·rename_i inf l' Jv hl;obtain⟨hb,h⟩:=Ak h;obtain⟨z,hz1,hz2⟩:=Tp hz;obtain⟨h0,h0'⟩:l.length=m'/\Bi (Al (λb=>A b/\Z.R b) w a) l z.cells.toList:=hz2 _ _ L;obtain⟨cells,h1,h2,h3⟩:=H4 hr hl h0';have:=Aik (σ:=σ) (parts:=ps.toList) ht hz1 (De Jv hb) (by simpa using h1) w;exact Cj hr (d:=d) (o:= .build t ps.toList.toArray) (by simpa using hd) this rfl (show Cl _ w L (.val (.vec m' a) l') _ from⟨cells,rfl,h3.trans h0,h2⟩) h
   ·cases h
  ·cases h
 ·cases h
end Go.Rx
namespace Go.Rx
open Go Go.Lv
variable{e:ET}{q:PV}
variable {P:Program} {B B':Reg} {w w':World} {L L':List MD} {s:S} {σs:List Env} {σ:Env} {Z:Fix} {A A':Reg} {n:Nat}
def NB(B:Reg)(w:World)(L:List MD)(B':Reg)(w':World)(L':List MD)(q q':PV):Prop:=q'.isA=q.isA/\∀cs,As B w L q cs->As B' w' L' q' cs
inductive All2 {α β:Type} (f:α->β->Prop):List α->List β->Prop
 |nil:All2 f [] []
 |cons {a b l m}:f a b->All2 f l m->All2 f (a::l) (b::m)
theorem All2.split{α β:Type}{f:α->β->Prop}:∀{l1 l2:List α} {m:List β},All2 f (l1++l2) m->∃m1 m2,m=m1++m2/\All2 f l1 m1/\All2 f l2 m2
 |[],_,m,h=>⟨[],m,rfl, .nil,h⟩
 |a::l1,l2,_, .cons h1 h2=>let⟨m1,m2,e,h3,h4⟩:=All2.split h2;⟨_::m1,m2,by rw[e];rfl, .cons h1 h3,h4⟩
mutual
theorem ZA:∀{sh:Sh} {p:PV} {ls ls' rest:List PV} {cs:List Value},Lg sh p=some ls->As B w L p cs->All2 (NB B w L B' w' L') ls ls'->∃p',Ju sh (ls'++rest)=some (p',rest)/\p'.isA=p.isA/\As B' w' L' p' cs
 | .lf e o,p,ls,ls',rest,cs,h,hp,ha=>by
  simp only[Lg,fR]at h;subst h;cases ha with
  |cons h1 h2=>
   cases h2;exact⟨_,rfl,h1.1,h1.2 _ hp⟩
 | .agg l,p,ls,ls',rest,cs,h,hp,ha=>by
  cases p<;>simp only[Lg,reduceCtorEq]at h;rename_i vs;obtain⟨us,h1,h2⟩:=jM (rest:=rest) h (show As.go B w L vs cs from hp) ha;exact⟨.agg us,by simp only[Ju,h1],rfl,h2⟩
theorem jM:∀{l:List Sh} {ps:List PV} {ls ls' rest:List PV} {cs:List Value},Lg.go l ps=some ls->As.go B w L ps cs->All2 (NB B w L B' w' L') ls ls'->∃ps',Ju.go l (ls'++rest)=some (ps',rest)/\As.go B' w' L' ps' cs
 |[],[],ls,ls',rest,cs,h,hp,ha=>by
  simp only[Lg.go,fR]at h;subst h;cases ha;exact⟨[],rfl,hp⟩
 |a::l,p::ps,ls,ls',rest,cs,h,⟨c1,c2,e,hp1,hp2⟩,ha=>by
  simp only[Lg.go]at h;split at h
  ·rename_i x y hx hy;cases h;obtain⟨m1,m2,rfl,h1,h2⟩:=ha.split;obtain⟨p',h3,_,h4⟩:=ZA (rest:=m2++rest) hx hp1 h1;obtain⟨ps',h5,h6⟩:=jM (rest:=rest) hy hp2 h2;exact⟨p'::ps',by simp only[Ju.go,iL,h3,h5],c1,c2,e,h4,h6⟩
  ·cases h
 |[],_::_,_,_,_,_,h,_,_=>by simp[Lg.go]at h
 |_::_,[],_,_,_,_,h,_,_=>by simp[Lg.go]at h
end
theorem XH:∀{l:List Sh} {ps:List PV} {ls ls' rest:List PV} {us:List Value},Lg.go l ps=some ls->Cr B w L ps us->All2 (NB B w L B' w' L') ls ls'->∃ps',Ju.go l (ls'++rest)=some (ps',rest)/\Cr B' w' L' ps' us
 |[],[],ls,ls',rest,us,h,hp,ha=>by
  simp only[Lg.go,fR]at h;subst h;cases ha;exact⟨[],rfl,hp⟩
 |a::l,p::ps,ls,ls',rest,us,h,⟨v,us',e,hp1,hp2⟩,ha=>by
  simp only[Lg.go]at h;split at h
  ·rename_i x y hx hy;cases h;obtain⟨m1,m2,rfl,h1,h2⟩:=ha.split;have key:∃p',Ju a (m1++(m2++rest))=some (p',m2++rest)/\P0 p'.isA (As B' w' L' p') v:=by
    cases hA:p.isA with
    |true=>
     rw[hA]at hp1;obtain⟨cs,e1,hc⟩:=hp1;obtain⟨p',h3,h4,h5⟩:=ZA (rest:=m2++rest) hx hc h1;exact⟨p',h3,by rw[h4,hA];exact⟨cs,e1,h5⟩⟩
    |false=>
     rw[hA]at hp1;obtain⟨p',h3,h4,h5⟩:=ZA (rest:=m2++rest) hx hp1 h1;exact⟨p',h3,by rw[h4,hA];exact h5⟩
   obtain⟨p',h3,h4⟩:=key;obtain⟨ps',h5,h6⟩:=XH (rest:=rest) hy hp2 h2;exact⟨p'::ps',by simp only[Ju.go,iL,h3,h5],v,us',e,h4,h6⟩
  ·cases h
 |[],_::_,_,_,_,_,h,_,_=>by simp[Lg.go]at h
 |_::_,[],_,_,_,_,h,_,_=>by simp[Lg.go]at h
theorem eC{l:List Sh}{ps ls ls':List PV}{us:List Value}(h:og l ps=some ls)(hp:Cr B w L ps us)(ha:All2 (NB B w L B' w' L') ls ls'):∃ps',QI l ls'=some ps'/\Cr B' w' L' ps' us:=by
 obtain⟨ps',h1,h2⟩:=XH (rest:=[]) h hp ha;rw[gP]at h1;exact⟨ps',by simp only[QI,h1],h2⟩
theorem G4{x:e.T}(h:UO s e q=some x):(∃e0,e= .list e0)\/ (∃e' x',q= .val e' x'/\II e' e x'=some x):=by
 unfold UO at h;split at h
 ·exact .inl ⟨_,rfl⟩
 ·exact .inr ⟨_,_,rfl,h⟩
 ·cases h
theorem cast_eq{e':ET}{x:e.T}{y:e'.T}(h:II e e' x=some y):PV.val e x=PV.val e' y:=by
 unfold II at h;split at h
 ·rename_i he;subst he;cases h;rfl
 ·cases h
theorem yC{l:List e.T}(h:tR s e q=some l):elems s e q=some l/\q.isA=false/\q.size=1:=by
 unfold tR at h;refine⟨h,?_⟩;unfold elems at h;split at h
 ·split at h
  ·exact⟨rfl,rfl⟩
  ·cases h
 ·exact⟨rfl,rfl⟩
 ·exact⟨rfl,rfl⟩
 ·exact⟨rfl,rfl⟩
 ·exact⟨rfl,rfl⟩
 ·cases h
theorem M2(hr:Rel Z s σs A L σ w){x:e.T}(h:UO s e q=some x)(hb:∀b,A b/\Z.R b->B' b)(ho:∀i∈owns q,∀z E v c,L[i]? =some (.own z E v c)->Rd B' w z v c):NB (λb=>A b/\Z.R b) w L B' w L' q (.val e x):=by
 rcases G4 h with⟨e0,rfl⟩|⟨e',x',rfl,hc⟩
 ·obtain⟨h1,hA,h2⟩:=yC (show tR s e0 q=some x from h);refine⟨by rw[hA];rfl,λcs hcs=>?_⟩;have hP:=hcs.VE;have hlen:=hcs.len;have:∃v,cs=[v]:=by
   rw[h2]at hlen
   match cs,hlen with
   |[v],_=>exact⟨v,rfl⟩
  obtain⟨v,rfl⟩:=this;have hv:Cl (λb=>A b/\Z.R b) w L q v:=(CW hP).2 (by unfold Ea;rw[hA];exact hcs);obtain⟨c0,h3,h4⟩:=FP hr.mem h1 hv;refine⟨v,c0,rfl,?_,h3.mono λx c h=>Al.step hb (λ_ _=>rfl) h⟩;rcases h4 with h4|⟨i,E,u,cs,hi,h4,hpart⟩
  ·exact h4.step hb (λ_ _=>rfl)
  ·exact hpart _ _ (ho i hi _ _ _ _ h4)
 ·have:=cast_eq hc;rw[this];exact⟨rfl,λcs h=>Al.step hb (λ_ _=>rfl) (show Al _ w e x cs from h)⟩
theorem ji{x:e.T}{s0:S}:Dd e none x s0=(.val e x,s0):=by cases e<;>rfl
theorem oV(x:Mp [])(s0:S):Cu [] x s0=([],s0):=rfl
theorem JH(p:ET×Option TypeId)(x:Mp [p])(s0:S):Cu [p] x s0=([(Dd p.1 p.2 x s0).1],(Dd p.1 p.2 x s0).2):=rfl
theorem AV(p q:ET×Option TypeId)(r:List (ET×Option TypeId))(x:p.1.T)(y:Mp (q::r))(s0:S):Cu (p::q::r) (x,y) s0=
  ((Dd p.1 p.2 x s0).1::(Cu (q::r) y (Dd p.1 p.2 x s0).2).1,(Cu (q::r) y (Dd p.1 p.2 x s0).2).2):=rfl
theorem pk0{p:ET×Option TypeId}:Yi s [p] []=none:=rfl
theorem pk2{p:ET×Option TypeId}{r:PV}{qs:List PV}:Yi s [p] (q::r::qs)=none:=rfl
theorem pk3{qs:List PV}:Yi s [] (q::qs)=none:=rfl
theorem pk4{p q:ET×Option TypeId}{r:List (ET×Option TypeId)}:Yi s (p::q::r) []=none:=rfl
theorem pk5{p q:ET×Option TypeId}{r:List (ET×Option TypeId)}{v:PV}{vs:List PV}:Yi s (p::q::r) (v::vs)=(match UO s p.1 v,Yi s (q::r) vs with|some x,some y=>some ((x,y):p.1.T×Mp (q::r))|_,_=>none):=rfl
theorem K8{qs:List PV}{x:Mp []}(h:Yi s [] qs=some x):qs=[]:=by
 match qs,h with
 |[],_=>rfl
 |_::_,h=>rw[pk3]at h;cases h
theorem I4{p:ET×Option TypeId}{qs:List PV}{x:Mp [p]}(h:Yi s [p] qs=some x):∃q,qs=[q]/\UO s p.1 q=some x:=by
 match qs,h with
 |[],h=>rw[pk0]at h;cases h
 |[q],h=>exact⟨q,rfl,h⟩
 |q::r::qs,h=>rw[pk2]at h;cases h
theorem xM{p q:ET×Option TypeId}{r:List (ET×Option TypeId)}{qs:List PV}{z:Mp (p::q::r)}(h:Yi s (p::q::r) qs=some z):
  ∃v vs,∃(x:p.1.T) (y:Mp (q::r)),qs=v::vs/\z=(x,y)/\UO s p.1 v=some x/\Yi s (q::r) vs=some y:=by
 match qs,h with
 |[],h=>rw[pk4]at h;cases h
 |v::vs,h=>
  rw[pk5]at h;split at h
  ·rename_i x y hx hy;cases h;exact⟨v,vs,x,y,rfl,rfl,hx,hy⟩
  ·cases h
theorem Acx(e:ET)(x:Mp [(e,none)])(s0:S):Cu [(e,none)] x s0=([.val e x],s0):=by cases e<;>rfl
def Gt(L:List MD):List (ET×Option TypeId)->List PV->List MD
 |p::r,v::vs=>match p.2 with
  |none=>Gt L r vs
  |some E=>(match p.1,v with
   | .list _, .own i=>L.getD i .dead
   | .list a,_=> .own a.size E (.slice none 0 0) []
   |_,_=> .dead)::Gt L r vs
 |_,_=>[]
theorem eN:∀{ls:List (ET×Option TypeId)} {vs:List PV} {is:List Nat},wX ls=true->consume s ls vs=some is->is=[]
 |[],[],is,_,h=>by simp[consume]at h;exact h
 |[],_::_,_,_,h=>by simp[consume]at h
 |_::_,[],_,_,h=>by simp[consume]at h
 |(e,none)::r,v::vs,is,hn,h=>eN (ls:=r) (vs:=vs) (by simpa [wX]using hn) (by simpa [consume]using h)
 |(e,some _)::r,v::vs,is,hn,h=>by simp[wX]at hn
theorem bD{N:Reg}:∀{ls:List (ET×Option TypeId)} {vs:List PV} {is:List Nat} {A:Reg},consume s ls vs=some is->Bs w A (is.map λi=>(L.getD i .dead).Cy)->Bs w A ((Gt L ls vs).map MD.Cy)
 |[],[],_,_,_,_=>trivial
 |[],_::_,_,_,h,_=>by simp[consume]at h
 |_::_,[],_,_,h,_=>by simp[consume]at h
 |(e,none)::r,v::vs,is,A,h,hm=>bD (N:=N) (ls:=r) (vs:=vs) (by simpa [consume]using h) hm
 |(e,some E)::r,v::vs,is,A,h,hm=>by
  simp only[consume]at h;split at h
  ·rename_i a;exact⟨none,⟨none,0,0,rfl,F5,fQ _,λ_=>rfl,λ_=>rfl,λb h=>by cases h⟩,λb hb=>(by cases hb),(bD (N:=N) h hm).Eo λb hb=>hb.elim id (λh=>by cases h)⟩
  ·rename_i a i;split at h
   ·rename_i E' a' l hi;obtain⟨_,h⟩:=Ak h;simp only[lG]at h;obtain⟨is',h1,rfl⟩:=h;obtain⟨o,g1,g2,g3⟩:=hm;exact⟨o,g1,g2,bD (N:=N) h1 g3⟩
   ·cases h
  ·cases h
theorem xY{B1:Reg}(hr:Rel Z s σs A L σ w)(hb:∀b,A b/\Z.R b->B1 b):∀(ls:List (ET×Option TypeId)) (vs:List PV) (x:Mp ls) (is:List Nat) (s0:S) (Lx LF:List MD),
  Yi s ls vs=some x->consume s ls vs=some is-> (∀i∈Km ls vs,∀z E v c,L[i]? =some (.own z E v c)->Rd B1 w z v c)->Lx.length=s0.it.length->LF=Lx++Gt L ls vs->
  ∃its,(Cu ls x s0).2=⟨s0.sl,s0.it++its,s0.st⟩/\its.length=(Gt L ls vs).length/\All2 (NB (λb=>A b/\Z.R b) w L B1 w LF) vs (Cu ls x s0).1/\
   ∀(i:Nat) (a:Item) (m:MD),its[i]? =some a-> (Gt L ls vs)[i]? =some m->Mx B1 w LF a m
 |[],vs,x,is,s0,Lx,LF,hp,hc,_,_,_=>by
  rw[K8 hp];refine⟨[],?_,rfl,All2.nil,λi a m h=>by simp at h⟩;rw[oV];simp
 |p::ls,vs,x,is,s0,Lx,LF,hp,hc,ho,hlen,O8=>by
  have main:∀(v:PV) (vs':List PV) (x1:p.1.T) (rest:S->List PV×S),vs=v::vs'->UO s p.1 v=some x1->
    (Cu (p::ls) x s0=((Dd p.1 p.2 x1 s0).1::(rest (Dd p.1 p.2 x1 s0).2).1,(rest (Dd p.1 p.2 x1 s0).2).2))->
    (∀(is:List Nat) (s1:S) (Lx:List MD),consume s ls vs'=some is-> (∀i∈Km ls vs',∀z E v c,L[i]? =some (.own z E v c)->Rd B1 w z v c)->Lx.length=s1.it.length->LF=Lx++Gt L ls vs'->
     ∃its,(rest s1).2=⟨s1.sl,s1.it++its,s1.st⟩/\its.length=(Gt L ls vs').length/\All2 (NB (λb=>A b/\Z.R b) w L B1 w LF) vs' (rest s1).1/\
      ∀(i:Nat) (a:Item) (m:MD),its[i]? =some a-> (Gt L ls vs')[i]? =some m->Mx B1 w LF a m)->
    ∃its,(Cu (p::ls) x s0).2=⟨s0.sl,s0.it++its,s0.st⟩/\its.length=(Gt L (p::ls) vs).length/\All2 (NB (λb=>A b/\Z.R b) w L B1 w LF) vs (Cu (p::ls) x s0).1/\
     ∀(i:Nat) (a:Item) (m:MD),its[i]? =some a-> (Gt L (p::ls) vs)[i]? =some m->Mx B1 w LF a m:=by
   intro v vs' x1 rest hvs hx hu hrest;subst hvs;rw[hu];obtain⟨e,o⟩:=p;cases o with
   |none=>
    have hc':consume s ls vs'=some is:=by simpa [consume]using hc
    have e1:Dd e none x1 s0=(.val e x1,s0):=ji;simp only[e1];obtain⟨its,h1,h2,h3,h4⟩:=hrest is s0 Lx hc' (λi hi=>ho i (by simp[Km,hi])) hlen O8;refine⟨its,h1,h2, .cons (M2 hr hx hb (λi hi z E v c hL=>ho i (by simp[Km,hi]) z E v c hL)) h3,h4⟩
   |some E=>
    simp only[consume]at hc;split at hc
    ·rename_i a;have hx':x1=[]:=by
      have:elems s a .nils=some x1:=hx;simpa [elems]using this.symm
     subst hx';have e1:Dd (.list a) (some E) [] s0=(.own s0.new,s0.add (.arr E a [])):=rfl;simp only[e1];obtain⟨its,h1,h2,h3,h4⟩:=hrest is (s0.add (.arr E a [])) (Lx++[.own a.size E (.slice none 0 0) []]) hc (λi hi=>ho i (by simpa [Km]using hi)) (by simp[S.add,hlen]) (by rw[O8];simp[Gt]);refine⟨.arr E a []::its,by rw[h1];simp[S.add],by simp[Gt,h2], .cons ⟨rfl,λcs hcs=>?_⟩ h3,λi b m hi hm=>?_⟩
     ·refine⟨a.size,E, .slice none 0 0,[],?_,hcs⟩;rw[O8,S.new,<-hlen];simp[Gt]
     ·cases i with
      |zero=>
       simp[Gt]at hi hm;subst hi hm;exact⟨rfl,rfl,rfl⟩
      |succ i=>exact h4 i b m (by simpa using hi) (by simpa [Gt]using hm)
    ·rename_i a i;split at hc
     ·rename_i E' a' l hi;obtain⟨hb1,hc1⟩:=Ak hc;clear hc;simp only[fI,lC]at hb1;obtain⟨hE,rfl⟩:=hb1;have:=Bb hE;subst this;simp only[lG]at hc1;obtain⟨is',hc',rfl⟩:=hc1;obtain⟨u,cs0,g1,g2⟩:=hr.mem.arr hi;have hx':x1=l:=by
       have:elems s a' (.own i)=some x1:=hx;simp[elems,hi]at this;exact this.symm
      subst hx';have hg:L.getD i .dead= .own a'.size E' u cs0:=by simp[gS,g1]
      have e1:Dd (.list a') (some E') x1 s0=(.own s0.new,s0.add (.arr E' a' x1)):=rfl;simp only[e1];obtain⟨its,h1,h2,h3,h4⟩:=hrest is' (s0.add (.arr E' a' x1)) (Lx++[.own a'.size E' u cs0]) hc' (λi hi=>ho i (by simpa [Km]using hi)) (by simp[S.add,hlen]) (by rw[O8];simp only[Gt,hg];simp);refine⟨.arr E' a' x1::its,by rw[h1];simp[S.add],by simp[Gt,h2], .cons ⟨rfl,λcs hcs=>?_⟩ h3,λq b m hq hm=>?_⟩
      ·obtain⟨z,E2,v2,c2,k1,k2⟩:=hcs;rw[g1]at k1;cases k1;refine⟨a'.size,E',u,cs0,?_,k2⟩;rw[O8,S.new,<-hlen];simp only[Gt,hg];simp
      ·cases q with
       |zero=>
        simp only[Gt,hg]at hq hm;simp at hq hm;subst hq hm;exact⟨rfl,rfl,g2.mono λx c h=>Al.step hb (λ_ _=>rfl) h⟩
       |succ q=>exact h4 q b m (by simpa using hq) (by simpa [Gt]using hm)
     ·cases hc
    ·cases hc
  cases ls with
  |nil=>
   obtain⟨v,rfl,hx⟩:=I4 hp;exact main v [] x (λs1=>([],s1)) rfl hx (JH p x s0) (λis s1 Lx _ _ hlen O8=>⟨[],F5,rfl,All2.nil,λi a m h=>by simp at h⟩)
  |cons q r=>
   obtain⟨v,vs',x1,y',rfl,rfl,hx,hy⟩:=xM hp;exact main v vs' x1 (λs1=>Cu (q::r) y' s1) rfl hx (AV p q r x1 y' s0)
    (λis s1 Lx hc ho hlen O8=>xY hr hb (q::r) vs' y' is s1 Lx LF hy hc ho hlen O8)
theorem H3:∀(a b:List PV),owns.go (a++b)=owns.go a++owns.go b
 |[],b=>rfl
 |x::a,b=>by simp[owns.go,H3 a b]
mutual
theorem S1:∀{sh:Sh} {p:PV} {ls:List PV},Lg sh p=some ls->owns.go ls=owns p
 | .lf e o,p,ls,h=>by simp only[Lg,fR]at h;subst h;simp[owns.go]
 | .agg l,p,ls,h=>by cases p<;>simp only[Lg,reduceCtorEq]at h;exact ZC h
theorem ZC:∀{l:List Sh} {ps ls:List PV},Lg.go l ps=some ls->owns.go ls=owns.go ps
 |[],[],ls,h=>by simp only[Lg.go,fR]at h;subst h;rfl
 |a::l,p::ps,ls,h=>by
  simp only[Lg.go]at h;split at h
  ·rename_i x y hx hy;cases h;rw[H3,S1 hx,ZC hy];rfl
  ·cases h
 |[],_::_,_,h=>by simp[Lg.go]at h
 |_::_,[],_,h=>by simp[Lg.go]at h
end
structure KeepN (N:Reg) (w w':World):Prop where
 same:∀b,b<w.heap.size->N b->w'.heap[b]? =w.heap[b]?
 gr:Gr w w'
def GlOk(gl:List (Nat×List Value))(N:Reg)(w:World):Prop:=∀p∈gl,p.1<w.heap.size/\N p.1/\∃T fr,w.heap[p.1]? =some (.cells p.2.toArray T fr)
def S!(gl:List (Nat×List Value))(R N:Reg)(w w':World)(rs:List Sh)(y:Mp (Jc rs))(us:List Value):Prop:=
 KeepN N w w'/\∃(A1:Reg) (L1:List MD),(∀b,A1 b-> (¬N b\/w.heap.size<=b)/\b<w'.heap.size)/\Bs w' (λb=>A1 b\/ (b<w.heap.size/\N b)) (L1.map MD.Cy)/\
  ∀(s:S) (L:List MD) (B':Reg),L.length=s.it.length-> (∀b,A1 b->B' b)-> (mF rs=true->∀b,(R b/\N b)\/ (∃p∈gl,p.1=b)->B' b)->
   ∃ps its,(Cu (Jc rs) y s).2=⟨s.sl,s.it++its,s.st⟩/\QI rs (Cu (Jc rs) y s).1=some ps/\Cr B' w' (L++L1) ps us/\its.length=L1.length/\
   ∀(i:Nat) (a:Item) (m:MD),its[i]? =some a->L1[i]? =some m->Mx B' w' (L++L1) a m
structure ConOk (P:Program) (gl:List (Nat×List Value)) (f:Nat) (c:Con):Prop where
 ent:Ent P f
 ok:∀(R N:Reg) (w:World) (L0:List MD) (vs:List Value) (ps:List PV) (x:Mp (Jc c.ps)) (y:Mp (Jc c.rs)),args c.ps x=some ps-> (E1 c.ps x).length=L0.length->
  (∀(i:Nat) (a:Item) (m:MD),(E1 c.ps x)[i]? =some a->L0[i]? =some m->Mx (λb=>R b/\N b) w L0 a m)->Bs w N (L0.map MD.Cy)->Cr (λb=>R b/\N b) w L0 ps vs->GlOk gl N w->c.fn x=some y->
  Calls P f vs.toArray w λe w'=>∃us,e= .returned (Ty us)/\S! gl R N w w' c.rs y us
end Go.Rx
namespace Go.Rx
open Go Go.Lv
variable{g:Operand}{G:Prop}
variable {P:Program} {B B':Reg} {w w':World} {L L':List MD} {s:S} {σs:List Env} {σ:Env} {Z:Fix} {A A':Reg} {n:Nat} {ops:Array Oper}
variable {R:Type} {k:S->Option R} {r:R} {d:Option Nat} {ty:TypeId} {pos:String} {after:Array Edge} {T:Tab} {inl:KI R}
def Gz(P:Program)(gl:List (Nat×List Value))(inl:KI R):Prop:=∀(Z:Fix),Z.gl=gl->∀(f:Nat) (as:List PV) (s:S) (k:S->PV->Option R) (r:R) (σs:List Env) (A:Reg) (L:List MD) (σ:Env) (w:World) (vs:List Value),
 inl f as s k=some r->Rel Z s σs A L σ w->Cr (λb=>A b/\Z.R b) w L as vs->Ent P f/\Calls P f vs.toArray w λe w'=>∃v p s' A' L',e= .returned v/\k s' p=some r/\Rel Z s' σs A' L' σ w'/\p.isV=true/\Cl (λb=>A' b/\Z.R b) w' L' p v
def Hy(P:Program)(T:Tab):Prop:=∀f c,T.get f=some c->ConOk P T.gl f c
def ON(P:Program)(T:Tab)(Z:Fix):Prop:=Hy P T/\Z.gl=T.gl
theorem Cr.step{q:List PV}{vs:List Value}(hb:∀b,B b->B' b)(hs:Same B w w')(hl:AW L L')(h:Cr B w L q vs):Cr B' w' L' q vs:=As.kN hb hs hl h
theorem Cr.append:∀{p q:List PV} {us vs:List Value},Cr B w L p us->Cr B w L q vs->Cr B w L (p++q) (us++vs)
 |[],q,us,vs,h,h'=>by rw[show us=[]from h];exact h'
 |a::p,q,us,vs,⟨v,us',e,h1,h2⟩,h'=>⟨v,us'++vs,by rw[e];rfl,h1,Cr.append h2 h'⟩
theorem N0{ps:List PV}{us:List Value}(h:Cr B w L ps us):(I1 ps).isV=true/\Cl B w L (I1 ps) (Ty us):=by
 match ps,us,h with
 |[],us,h=>rw[show us=[]from h];exact⟨rfl,[],rfl,rfl⟩
 |[p],us,⟨v,us',e,h1,h2⟩=>
  rw[show us'=[]from h2]at e;subst e;exact Ex h1
 |p::q::r,us,h=>
  obtain⟨v,us',e,h1,v2,us2,e2,h2,h3⟩:=h;subst e2 e;exact⟨rfl,v::v2::us2,rfl,v,_,rfl,h1,v2,us2,rfl,h2,h3⟩
theorem Rel.Aju{w':World}{A1 BX:Reg}{L1:List MD}{its:List Item}(hr:Rel Z s σs A L σ w)(hBX:∀b,BX b-> ¬A b/\b<w.heap.size)(hY:Bs w (λb=>A b\/BX b) (L.map MD.Cy))
  (hk:KeepN (λb=>¬BX b) w w') (hA1:∀b,A1 b-> (¬ ¬BX b\/w.heap.size<=b)/\b<w'.heap.size)
  (hm:Bs w' (λb=>A1 b\/ (b<w.heap.size/\ ¬BX b)) (L1.map MD.Cy)) (hlen:its.length=L1.length)
  (hit:∀(i:Nat) (a:Item) (m:MD),its[i]? =some a->L1[i]? =some m->Mx (λb=>(A b\/A1 b)/\Z.R b) w' (L++L1) a m):
  Rel Z ⟨s.sl,s.it++its,s.st⟩ σs (λb=>A b\/A1 b) (L++L1) σ w':=by
 have hlt:=St.lt hr;have hsame:Same A w w':=λb hb=>hk.same b (hlt b hb) λh=>(hBX b h).1 hb;have hmem:MemR (λb=>A b/\Z.R b) w' L s σs σ:=Fact.step _ (hr.fact 0 (f:=fD Z.R L s σs σ) rfl) (λ_ h=>h) hsame hk.gr;have hold:(Fact.old Z.M Z.w0).holds A w':=Fact.step _ (hr.fact 1 (f:= .old Z.M Z.w0) rfl) (λ_ h=>h) hsame hk.gr;have hl:=AW.append L L1;have hst:St (λb=>A b\/A1 b) w' [.old Z.M Z.w0] (L1.map MD.Cy++L.map MD.Cy):=by
  refine⟨λb hb=>hb.elim (λh=>gE (hlt b h) hk.gr.le) (λh=>(hA1 b h).2),λf hf=>?_,?_⟩
  ·cases hf with
   |head=>exact Fact.step _ hold (λ_ h=> .inl h) (λ_ _=>rfl) (.refl _)
   |tail _ h=>cases h
  ·refine Bs.append (λb=>b<w.heap.size/\ ¬BX b) (λb hb=>gE hb.1 hk.gr.le) (hm.Eo ?_) ?_
   ·rintro b ((h|h)|h)
    ·exact .inr ⟨hlt b h,λhx=>(hBX b hx).1 h⟩
    ·exact .inl h
    ·exact .inr h
   ·refine(hY.lt.step hk.gr.le λb hb hn=>hk.same b hb λh=>hn (.inl (.inr h))).Eo ?_;rintro b ((h|h)|h)
    ·exact .inl (.inl h)
    ·rcases(hA1 b h).1 with h|h
     ·exact .inl (.inr (Classical.not_not.1 h))
     ·exact .inr h
    ·by_cases hx:BX b
     ·exact .inl (.inr hx)
     ·exact .inr (Nat.le_of_not_lt λhl=>h ⟨hl,hx⟩)
 have hb:∀b,A b/\Z.R b-> (A b\/A1 b)/\Z.R b:=λb h=>⟨.inl h.1,h.2⟩;refine Rel.as (Bs.VQ hst mQ) (i:=0) rfl ⟨⟨?_,?_⟩,hmem.sl.step hb (λ_ _=>rfl) hl,hmem.stk.step hb (λ_ _=>rfl) hl⟩ (by rw[l?])
 ·simp[hmem.it.1,hlen]
 ·intro i a m g1 g2;simp only at g1;rcases iW i s.it.length with hi|hi
  ·rw[gA hi]at g1;rw[gA (by rw[<-hmem.it.1];exact hi)]at g2;exact(hmem.it.2 i a m g1 g2).step hb (λ_ _=>rfl) hl
  ·rw[iB hi]at g1;rw[iB (by rw[<-hmem.it.1];exact hi)]at g2;rw[hmem.it.1]at g1;exact hit _ a m g1 g2
theorem Bs.split:∀{X Y:List Mob} {A:Reg},Bs w A (X++Y)->∃BX:Reg,(∀b,BX b-> ¬A b/\b<w.heap.size)/\Bs w (λb=>¬BX b) X/\Bs w (λb=>A b\/BX b) Y
 |[],Y,A,h=>⟨λ_=>False,λb hb=>hb.elim,trivial,h.Eo λb hb=>hb.elim id λh=>h.elim⟩
 |m::X,Y,A,⟨o,h1,h2,h3⟩=>by
  obtain⟨BX,g1,g2,g3⟩:=Bs.split h3;refine⟨λb=>BX b\/o=some b,λb hb=>?_,⟨o,h1,λb hb=>⟨λh=>h (.inr hb),(h2 b hb).2⟩,g2.Eo ?_⟩,g3.Eo ?_⟩
  ·rcases hb with hb|hb
   ·exact⟨λh=>(g1 b hb).1 (.inl h),(g1 b hb).2⟩
   ·exact h2 b hb
  ·rintro b (hb|hb)
   ·exact λh=>hb (.inl h)
   ·exact λh=>(g1 b h).1 (.inr hb)
  ·rintro b (hb|hb|hb)
   ·exact .inl (.inl hb)
   ·exact .inr hb
   ·exact .inl (.inr hb)
theorem Bs.qd:∀{Y:List Mob} {A:Reg} {i:Nat} {m:Mob},Bs w A Y->Y[i]? =some m->∃o,m.holds o w/\∀b,o=some b-> ¬A b
 |_::_,A,0,m,⟨o,h1,h2,_⟩,h=>⟨o,by simp at h;exact h▸h1,λb hb=>(h2 b hb).1⟩
 |_::Y,A,i+1,m,⟨o,_,_,h3⟩,h=>by
  obtain⟨q,g1,g2⟩:=Bs.qd h3 (i:=i) (by simpa using h);exact⟨q,g1,λb hb hA=>g2 b hb (.inl hA)⟩
theorem kX{w:World}:MD.dead.Cy.holds none w:=⟨none,0,0,rfl,F5,fQ _,λ_=>rfl,λ_=>rfl,λb h=>by cases h⟩
theorem Oq{i:Nat}:∀{l:List Nat},Ms i l=true↔i∈l
 |[]=>by simp[Ms]
 |j::l=>by
  simp only[Ms,iJ,lR,Oq (l:=l)];exact or_congr ⟨Bb,λh=>by subst h;simp⟩ lF
theorem gR{f:Item->Item}(hf:f .dead= .dead):∀{l:List Item} {i:Nat},Bp (l.map f) i=f (Bp l i)
 |[],_=>by simp[Bp,hf]
 |_::_,0=>rfl
 |_::r,i+1=>by simpa [Bp]using gR hf (l:=r) (i:=i)
theorem UL:∀{l:List Item} {i j:Nat},Bp l i= .dead->Bp (Qu l j .dead) i= .dead
 |[],_,_,h=>by simpa [Qu]using h
 |_::_,0,0,_=>rfl
 |_::_,0,j+1,h=>by simpa [Qu,Bp]using h
 |_::_,i+1,0,h=>by simpa [Qu,Bp]using h
 |_::r,i+1,j+1,h=>by simpa [Qu,Bp]using UL (l:=r) (i:=i) (j:=j) (by simpa [Bp]using h)
theorem PR:∀{l:List Item} {i:Nat},Bp (Qu l i .dead) i= .dead
 |[],_=>rfl
 |_::_,0=>rfl
 |_::r,i+1=>by simpa [Qu,Bp]using PR (l:=r) (i:=i)
theorem tB{i:Nat}:∀{is:List Nat} {s s':S},Bp s.it i= .dead->s.kV is=some s'->Ms i is=false
 |[],_,_,_,_=>rfl
 |j::is,s,s',hd,h=>by
  simp only[S.kV]at h;split at h
  ·rename_i s1 h1;unfold S.kill at h1;split at h1
   ·rename_i E e l hj;cases h1;have hij:Nat.beq i j=false:=by
     cases hb:Nat.beq i j with
     |false=>rfl
     |true=>rw[Bb hb]at hd;rw[hd]at hj;cases hj
    have:Bp ((s.Hc j .dead).sub j .any).it i= .dead:=by
     show Bp ((Qu s.it j .dead).map _) i=_;rw[gR rfl,UL hd];rfl
    simp[Ms,hij,tB this h]
   ·cases h1
  ·cases h
theorem M6:∀{is:List Nat} {s s':S} {L:List MD},MemR B w L s σs σ-> (∀(i z:Nat) (E:TypeId) (v:Value) (c:List Value),L[i]? =some (.own z E v c)->v.oneCell'=true)->s.kV is=some s'->
  ∃L',MemR B w L' s' σs σ/\ (is=[]->L'=L)/\ (∀j,Ms j is=false->L'[j]? =L[j]?)/\∀(A:Reg) (X:List Mob),Bs w A (X++L.map MD.Cy)->Bs w A (X++(is.map λi=>(L.getD i .dead).Cy)++L'.map MD.Cy)
 |[],s,s',L,hm,_,h=>by
  simp only[S.kV,fR]at h;subst h;exact⟨L,hm,λ_=>rfl,λ_ _=>rfl,λA X hX=>by simpa using hX⟩
 |i::is,s,s',L,hm,hone,h=>by
  simp only[S.kV]at h;split at h
  ·rename_i s1 h1;unfold S.kill at h1;split at h1
   ·rename_i E e l hi;cases h1;obtain⟨v,cs,hL,_⟩:=hm.arr hi;have hf:Frz B w L i .any:=⟨λz E' u c h=>⟨u,rfl,by rw[hL]at h;cases h;exact hone _ _ _ _ _ hL⟩,rfl,rfl⟩;have hm2:=hm.subst hf;have hlt:=(List.getElem?_eq_some_iff.1 hL).1;obtain⟨L',g1,g2,g3,g4⟩:=M6 hm2 (λj z E v c hj=>by
     by_cases hji:j=i
     ·subst hji;rw[iI hlt]at hj;cases hj
     ·rw[gX (gO hji)]at hj;exact hone _ _ _ _ _ hj) h
    refine⟨L',g1,(λe=>by cases e),λj hj=>?_,λA X hX=>?_⟩
    ·simp only[Ms,lJ]at hj;rw[g3 j hj.2,gX (λe=>by subst e;simp at hj)]
    ·have Py:(L.map MD.Cy)[i]? =some (L.getD i .dead).Cy:=by simp[hL,gS]
     have hX1:Bs w A (MD.dead.Cy::(L.map MD.Cy).eraseIdx i++(X++[(L.getD i .dead).Cy])):=by
      have h1:Bs w A (MD.dead.Cy::(X++L.map MD.Cy)):=⟨none,kX,λb hb=>(by cases hb),hX.Eo λb hb=>hb.elim id λh=>by cases h⟩;refine h1.perm (.cons _ ?_);have hp:=(KM Py).symm;refine(List.Perm.append_left X hp).trans ?_;rw[show X++(L.getD i .dead).Cy::(L.map MD.Cy).eraseIdx i=(X++[(L.getD i .dead).Cy])++(L.map MD.Cy).eraseIdx i by simp];exact mQ
     have hX2:Bs w A ((X++[(L.getD i .dead).Cy])++(L.set i .dead).map MD.Cy):=by
      refine hX1.perm (List.perm_append_comm.trans (List.Perm.append_left _ ?_));rw[iX];exact Mt Py
     have:=g4 A _ hX2;have hni:Ms i is=false:=tB (s:=(s.Hc i .dead).sub i .any) (by
      show Bp ((Qu s.it i .dead).map _) i=_;rw[gR rfl,PR];rfl) h
     have he:(is.map λj=>((L.set i .dead).getD j .dead).Cy)=is.map λj=>(L.getD j .dead).Cy:=by
      refine List.map_congr_left λj hj=>?_;have:j≠i:=λe=>by
       subst e;rw[Oq.2 hj]at hni;cases hni
      simp only[gS,gX (gO this)]
     rw[he]at this;simpa using this
   ·cases h1
  ·cases h
theorem Al.noL:∀{e:ET} {x:e.T} {cs:List Value},e.uL=false->Al B w e x cs->Al B' w' e x cs
 | .int k,x,cs,_,h=>h
 | .bool,x,cs,_,h=>h
 | .str,x,cs,_,h=>h
 | .list e,l,cs,hL,h=>by cases hL
 | .vec m e,l,cs,hL,⟨h1,h2⟩=>⟨h1,h2.mono λx c h=>Al.noL (e:=e) hL h⟩
 | .cons a q,x,cs,hL,⟨c1,c2,e,h1,h2⟩=>by
  simp only[ET.uL,lJ]at hL;exact⟨c1,c2,e,Al.noL hL.1 h1,Al.noL hL.2 h2⟩
 | .nil,_,cs,_,h=>h
theorem qP:∀{ls:List (ET×Option TypeId)} {vs:List PV},owns.go vs=[]->Km ls vs=[]
 |[],_,_=>by unfold Km;rfl
 |_::_,[],_=>by unfold Km;rfl
 |(e,o)::ls,v::vs,h=>by
  simp only[owns.go,List.append_eq_nil_iff]at h;cases o<;>simp[Km,h.1,qP h.2]
theorem Rel.out(hr:Rel Z s σs A L σ w){b:Nat}(hb:¬A b):Z.R b:=by
 rcases iW b Z.w0.heap.size with hlt|hge
 ·have hold:=(hr.fact 1 (f:= .old Z.M Z.w0) rfl).2 b hlt;exact Z.mod b (iR λhM=>hb (hold hM).1)
 ·exact Z.new b hge
theorem Ahu{f:Nat}{fs:List PV}{as:Array Operand}{ts:Array TypeId}{dn:Nat}(hT:ON P T Z)(hI:Gz P T.gl inl)(hr0:Rel Z s σs A L σ w)(hg:Cm s.sl g= .bfn f fs)
  (hd:Fa n ⟨some dn, .call ⟨.value g,as,ts⟩,ty,pos,after,none⟩=true) (hP:tM (as.toList.map (Cm s.sl))=true) (h:inl f (fs++as.toList.map (Cm s.sl)) s (λs v=>k (s.Dk (some dn) v))=some r) (hG:¬G):
  Mi P n ops ⟨some dn, .call ⟨.value g,as,ts⟩,ty,pos,after,none⟩ Z s σs k r G A L σ w:=by
 obtain⟨fvs,hgv,hfs⟩:∃vs:List Value,ev σ g= .func (.func f) vs.toArray #[]/\Cr (λb=>A b/\Z.R b) w L fs vs:=by
  obtain⟨vs,h1,h2⟩:=Bw hr0.mem.sl hg rfl;exact⟨vs,by simpa using h1,h2⟩
 have hpv:=Cr.append hfs (VF hr0.mem.sl _ hP);obtain⟨he,hcall⟩:=hI Z hT.2 f _ s _ r σs A L σ w _ h hr0 hpv;have hxe:XE P σ w (.call ⟨.value g,as,ts⟩) f (fvs++as.toList.map (ev σ)).toArray:=λ_ _ _ _ _=>by
  have h1:(callFunc f (fvs.toArray++as.map (ev σ))).run P w= .ok (.enter f (fvs.toArray++as.map (ev σ))) w:=he _ w;have h2:(fvs++as.toList.map (ev σ)).toArray=fvs.toArray++as.map (ev σ):=by apply lN;simp
  rw[h2];simp[execOp,resolve,hgv,Deferred.ofValue,invoke,h1]
 refine WL.e (Zv hd) hxe hcall ?_;rintro e w' ⟨v,p,s',A',L',rfl,hk,hr',hv,hv'⟩;exact⟨_,rfl,WL.nil ⟨_,A',L',hk,hr'.Dk (d:=some dn) hv hv',λgg=>absurd gg hG⟩⟩
theorem Agr {f:Nat}{caps:List PV}{as:Array Operand}{ts:Array TypeId}{dn:Nat}(hT:ON P T Z)(hI:Gz P T.gl inl)(hr0:Rel Z s σs A L σ w)(hg:Cm s.sl g= .fn f caps)
  (hd:Fa n ⟨some dn, .call ⟨.value g,as,ts⟩,ty,pos,after,none⟩=true) (h:X3 P T inl s (some dn) f caps as.toList k=some r)
  (hG:G->∃c,T.get f=some c/\wX (Jc c.ps)=true/\ (qM c=false\/owns.go (as.toList.map (Cm s.sl))=[])):
  Mi P n ops ⟨some dn, .call ⟨.value g,as,ts⟩,ty,pos,after,none⟩ Z s σs k r G A L σ w:=by
 obtain⟨cvs,hgv,qN⟩:=Y5 (Bw hr0.mem.sl hg rfl);have has:as=as.toList.toArray:=by simp
 have hxe:Ent P f->XE P σ w (.call ⟨.value g,as,ts⟩) f (as.toList.map (ev σ)++cvs).toArray:=λhe=>by
  have:=X.wE (P:=P) (σ:=σ) (w:=w) (args:=as.toList) (ts:=ts) he hgv rfl;rw[<-has]at this;exact this
 unfold X3 at h;split at h
 ·rename_i c hc;have hcon:=hT.1 f c hc;split at h
  ·have hc0:cvs=[]:=qN;subst hc0;split at h
   ·cases h
   ·rename_i ls0 rD;split at h
    ·cases h
    ·rename_i s1 hs1;obtain⟨A1,L1,hr,hsame⟩:∃A1 L1,Rel Z s1 σs A1 L1 σ w/\ (G->s1=s/\A1=A/\L1=L):=by
      split at hs1
      ·rename_i hro;obtain⟨A1,L1,h1,h2⟩:=Jd hr0 hs1;refine⟨A1,L1,h1,λg=>h2 ?_⟩;obtain⟨c',hc',_,h3⟩:=hG g;rw[hc]at hc';cases hc';rcases h3 with h3|h3
       ·rw[hro]at h3;cases h3
       ·exact qP (by rw[ZC rD];exact h3)
      ·cases hs1;exact⟨A,L,hr0,λ_=>⟨rfl,rfl,rfl⟩⟩
     cases hP:tM (as.toList.map (Cm s1.sl))with
     |false=>rw[hP]at h;cases h
     |true=>
     rw[hP]at h;simp only[lE,jK]at h;try dsimp only[Bo]at h
     split at h
     ·cases h
     ·rename_i ls hls;cases p!:(qM c&& !(Km (Jc c.ps) ls).isEmpty)with
      |true=>rw[p!]at h;cases h
      |false=>
      rw[p!]at h;dsimp only[Bo,cond]at h;split at h
      ·cases h
      ·rename_i x hx;split at h
       ·cases h
       ·rename_i is his;cases nL:(!((Km (Jc c.ps) ls).all λi=>!Ms i is))with
        |true=>rw[nL]at h;cases h
        |false=>
        rw[nL]at h;dsimp only[Bo,cond]at h;split at h
        ·cases h
        ·rename_i s2 hs2;obtain⟨y,hy,h⟩:=bind_some h;change (match QI c.rs (Cu (Jc c.rs) y s2).1 with|some vs=>k ((Cu (Jc c.rs) y s2).2.Dk (some dn) (I1 vs))|none=>none)=some r at h;have hpv:=VF hr.mem.sl _ hP;have hone:∀(i z:Nat) (E:TypeId) (v:Value) (c:List Value),L1[i]? =some (.own z E v c)->v.oneCell'=true:=λi z E v c hi=>by
          obtain⟨p,len,cap,rfl,_⟩:=hr.Ik hi;rfl
         obtain⟨L2,hm2,hnil,hget,yH⟩:=M6 hr.mem hone hs2;obtain⟨BX,hBX,hX,hY⟩:=Bs.split (yH A1 [] (by simpa using St.mobs hr));have hr2:Rel Z s2 σs A1 L2 σ w:=Rel.as (h:=(⟨St.lt hr,hr.facts,hY.Eo λ_ h=> .inl h⟩:St A1 w _ (L2.map MD.Cy))) (i:=1) rfl hm2 rfl;have hL0:Bs w (λb=>¬BX b) ((Gt L1 (Jc c.ps) ls).map MD.Cy):=bD (N:=λ_=>True) his (by simpa using hX);have key:∀R0:Reg,(∀b,A1 b/\Z.R b->R0 b)-> (Km (Jc c.ps) ls=[]\/∀b,R0 b)-> (qM c=true->∀b,R0 b->A1 b/\Z.R b)->
           Mi P n ops ⟨some dn, .call ⟨.value g,as,ts⟩,ty,pos,after,none⟩ Z s σs k r G A L σ w:=by
          intro R0 h1 h2 h3;have hb1:∀b,A1 b/\Z.R b->R0 b/\ ¬BX b:=λb hb=>⟨h1 b hb,λhx=>(hBX b hx).1 hb.1⟩;obtain⟨zA,e1,e2,e3,e4⟩:=xY (B1:=λb=>R0 b/\ ¬BX b) hr hb1 (Jc c.ps) ls x is ⟨[],[],[]⟩ [] (Gt L1 (Jc c.ps) ls) hx his (λi hi z E v cc hLi=>by
           rcases h2 with h2|h2
           ·rw[h2]at hi;cases hi
           ·have hni:Ms i is=false:=by
             have:=nL;simp only[mU,lD,gQ]at this;exact this i hi
            have zB:=(hget i hni).trans hLi;obtain⟨o,g1,g2⟩:=Bs.qd hY (hr2.Cy zB);exact(Go.Lv.Ik g1).step (λb hb=>⟨h2 b,λhx=>g2 b hb (.inr hx)⟩) (λ_ _=>rfl)) rfl rfl
          obtain⟨ps,h5,h6⟩:=eC hls hpv e3;have mG:E1 c.ps x=zA:=by unfold E1;rw[e1];rfl
          have hcall:=hcon.ok R0 (λb=>¬BX b) w _ _ ps x y h5 (by rw[mG];exact e2) (by rw[mG];exact e4) hL0 h6 (λp hp=>by
           obtain⟨hA,T1,fr,hh⟩:=hr.H2 (hT.2▸hp);exact⟨lt_of_heap hh,λhx=>(hBX _ hx).1 hA.1,T1,fr,hh⟩) hy
          have hxe':=hxe hcon.ent;rw[gP]at hxe';refine WL.e (Zv hd) hxe' hcall ?_;rintro e w' ⟨us,rfl,hk,A2,LL,hA2,hm3,hres⟩;refine⟨_,rfl,WL.nil ?_⟩;have hnew:∀b,A2 b->Z.R b:=λb hb=>by
           rcases(hA2 b hb).1 with h7|h7
           ·exact hr.out (hBX b (Classical.not_not.1 h7)).1
           ·refine Z.new b ?_;have h8:Z.w0.heap.size<=w.heap.size:=(hr.fact 1 (f:= .old Z.M Z.w0) rfl).1.le;omega
          obtain⟨ps',its,g1,g2,g3,g4,g5⟩:=hres s2 L2 (λb=>(A1 b\/A2 b)/\Z.R b) hr2.len.symm (λb hb=>⟨.inr hb,hnew b hb⟩) (λhro b hb=>by
           rcases hb with hb|⟨p,hp,rfl⟩
           ·exact⟨.inl (h3 hro b hb.1).1,(h3 hro b hb.1).2⟩
           ·exact⟨.inl (hr.H2 (hT.2▸hp)).1.1,(hr.H2 (hT.2▸hp)).1.2⟩)
          have hr':=Rel.Aju hr2 hBX hY hk hA2 hm3 g4 g5;obtain⟨hv,hv'⟩:=N0 g3;rw[g2]at h;refine⟨_,λb=>A1 b\/A2 b,L2++LL,h,?_,λgg=>?_⟩
          ·rw[g1];exact hr'.Dk (d:=some dn) hv hv'
          ·obtain⟨e1',e2',e3'⟩:=hsame gg;obtain⟨c',hc',hno,_⟩:=hG gg;rw[hc]at hc';cases hc';have zE:=eN hno his;subst zE;have zF:s1=s2:=by simpa [S.kV]using hs2
           have yL:=hnil rfl;subst zF yL e1' e2' e3';rw[g1];exact⟨λb hb=> .inl hb,λb hb=>hk.same b (St.lt hr b hb) λhx=>(hBX b hx).1 hb,⟨LL,rfl⟩,⟨its,rfl⟩⟩
         cases hro':qM c with
         |true=>
          refine key (λb=>A1 b/\Z.R b) (λ_ h=>h) (.inl ?_) (λ_ _ h=>h);rw[hro']at p!;simp only[iP,mU]at p!;exact isEmpty_nil p!
         |false=>exact key (λ_=>True) (λ_ _=>trivial) (.inr λ_=>trivial) (λh=>by rw[hro']at h;cases h)
  ·cases h
 ·rename_i hn;obtain⟨hP,h⟩:=Ak h;have hpv:=Cr.append (VF hr0.mem.sl _ hP) qN;obtain⟨he,hcall⟩:=hI Z hT.2 f _ s _ r σs A L σ w _ h hr0 hpv;refine WL.e (Zv hd) (hxe he) hcall ?_;rintro e w' ⟨v,p,s',A',L',rfl,hk,hr',hv,hv'⟩;refine⟨_,rfl,WL.nil ⟨_,A',L',hk,hr'.Dk (d:=some dn) hv hv',λgg=>?_⟩⟩;obtain⟨c,hc,_⟩:=hG gg;rw[hn]at hc;cases hc
end Go.Rx
namespace Go.Rx
open Go Go.Lv
variable{o:BinOp}{st:Bool}{e:ET}{x y:Operand}{v:PV}{G:Prop}{vy:Value}
variable {P:Program} {B B':Reg} {w w':World} {L L':List MD} {s:S} {σs:List Env} {σ:Env} {Z:Fix} {A A':Reg} {n:Nat} {ops:Array Oper}
variable {R:Type} {k:S->Option R} {r:R} {d:Option Nat} {ty:TypeId} {pos:String} {after:Array Edge} {T:Tab} {inl:KI R}
theorem Uh{l:List Oper}{K K':Env->World->Prop}(h:WL P n ops l K σ w)(hk:∀σ w,K σ w->K' σ w):WL P n ops l K' σ w:=by
 have:=WL.cut (rest:=[]) K l h (λσ w h=>WL.nil (hk σ w h));rwa [gP]at this
def tyK:Bool->TypeDesc|true=> .string|false=> .int .u8
theorem J_{d:Option TypeDesc}(h:tyB d=some st):d=some (tyK st):=by
 unfold tyB at h;split at h<;>cases h<;>rfl
theorem B3:∀(st:Bool) (k:List UInt8),MapKept.IsKey (tyK st) (JF st k)
 |true,_=>trivial
 |false,_=>rfl
theorem wu{a b:List UInt8}(h:sv a=sv b):a=b:=by
 have:(⟨a.toArray⟩:ByteArray)=⟨b.toArray⟩:=by simpa [sv]using h
 have:=congrArg (·.data.toList) this;simpa using this
theorem xO(st:Bool)(a q:List UInt8):Instr.sameNow (tyK st) (JF st a) (JF st q)=some (zn st a q):=by
 cases st with
 |false=>rfl
 |true=>
  obtain⟨r,h1,h2⟩:=MapKept.sameNow_of_keys (B3 true a) (B3 true q);rw[h1];congr 1;rw[pD,h2]
  show sv a=sv q↔(a==q)=true;rw[beq_iff_eq];exact⟨wu,λh=>by rw[h]⟩
theorem V_{a:e.T}{k:List UInt8}{v:Value}(h:keyOf e a=some (st,k))(hv:Cl B w L (.val e a) v):v=JF st k:=by
 unfold keyOf at h;split at h
 ·cases h;exact Uo hv
 ·cases h;exact bZ hv
 ·cases h
theorem look_ok{st:Bool}{a:List UInt8}{z:PV}{kk:PV->Option R}:∀{es:List MapEntry} {ks:List (List UInt8)} {vs:List PV} {i:Nat},es.map (·.key)=ks.map (JF st)->Cr B w L vs (es.map (·.val))->lkC st a kk z ks vs=some r->
  ∃res,Instr.findNow (tyK st) (JF st a) es i=some res/\match res with
   |some (_,v)=>∃p:PV,P0 p.isA (As B w L p) v/\kk (.tup [p, .b true])=some r
   |none=>kk (.tup [z, .b false])=some r
 |[],[],[],i,_,_,h=>⟨none,rfl,h⟩
 |[],[],_::_,i,_,⟨_,_,e,_⟩,h=>by cases e
 |[],_::_,_,i,h,_,_=>by cases h
 |_::_,[],_,i,h,_,_=>by cases h
 |e::es,q::ks,[],i,_,h,_=>by cases h
 |e::es,q::ks,p::vs,i,hk,⟨v,vs',hv,h1,h2⟩,h=>by
  simp only[gT,jJ]at hk hv;obtain⟨hk1,hk2⟩:=hk;obtain⟨rfl,rfl⟩:=hv;have hs:Instr.sameNow (tyK st) (JF st a) e.key=some (zn st a q):=by
   rw[hk1];exact xO st a q
  unfold lkC at h;cases hb:zn st a q with
  |true=>
   rw[hb,fN rfl]at h;exact⟨some (i,e.val),by simp only[Instr.findNow,hs,hb],p,h1,h⟩
  |false=>
   rw[hb,fK F5]at h;obtain⟨res,g1,g2⟩:=look_ok (i:=i+1) hk2 h2 h;exact⟨res,by simp only[Instr.findNow,hs,hb];exact g1,g2⟩
theorem Afa{t:TypeId}{ix:Operand}{dn:Nat}(hr:Rel Z s σs A L σ w)(hd:Fa n ⟨some dn, .lookup t x ix true,ty,pos,after,none⟩=true)(h:S9 P s dn t x ix k=some r):
  Mi P n ops ⟨some dn, .lookup t x ix true,ty,pos,after,none⟩ Z s σs k r G A L σ w:=by
 have hm:=hr.mem;unfold S9 at h;split at h
 ·rename_i st ks vs e a kt et hx hix ht;split at h
  ·rename_i sa a' sb hko hkt;obtain⟨hsb,h⟩:=Ak h;simp only[fI]at hsb;obtain rfl:sa=st:=C9 hsb.1;obtain rfl:sb=sa:=C9 hsb.2;have hkt:=J_ hkt;obtain⟨rr,es,c,h1,h2,h3,h4,h5⟩:=Bw hm.sl hx rfl;have hxv:ev σ x= .map (some rr):=by simpa using h1
   have hiv:ev σ ix=JF sb a':=V_ hko (Bw hm.sl hix rfl);have hck:(Instr.checkKey es.isEmpty 10000 kt (JF sb a')).run P w= .ok () w:=MapKept.run_checkKey hkt (B3 sb a') _ 9999;have hgo:=MapKept.run_getObj_map (P:=P) h3;have fin:∀{z:PV} {zv:Value},(zeroValue et).run P w= .ok zv w->Ea (λb=>A b/\Z.R b) w L z zv->lkC sb a' (λv=>k (s.set dn v)) z ks vs=some r->Mi P n ops ⟨some dn, .lookup t x ix true,ty,pos,after,none⟩ Z s σs k r G A L σ w:=by
    intro z zv hzr hzv h;obtain⟨res,g1,g2⟩:=look_ok (i:=0) h4 h5 h;have hfk:=MapKept.run_findKey (P:=P) (w:=w) hkt g1;cases res with
    |none=>
     refine Cj (p:= .tup [z, .b false]) (val:= .tuple #[zv, .bool false]) (d:=some dn) hr hd (λ_ _ _ _ _=>?_) rfl ?_ g2
     ·simp[execOp,hxv,hiv,Instr.lookup,fJ ht,hgo,hck,hfk,hzr,Result.andThen]
     ·exact⟨[zv, .bool false],rfl,zv,[.bool false],rfl,hzv,_,[],rfl,rfl,rfl⟩
    |some q=>
     obtain⟨j,v⟩:=q;obtain⟨p,k1,k2⟩:=g2;refine Cj (p:= .tup [p, .b true]) (val:= .tuple #[v, .bool true]) (d:=some dn) hr hd (λ_ _ _ _ _=>?_) rfl ?_ k2
     ·simp[execOp,hxv,hiv,Instr.lookup,fJ ht,hgo,hck,hfk,Result.andThen]
     ·exact⟨[v, .bool true],rfl,v,[.bool true],rfl,k1,_,[],rfl,rfl,rfl⟩
   split at h
   ·rename_i inf Jv;split at h
    ·rename_i hz;exact fin (z:= .cst .nilFunc) (zv:= .nilFunc) (by simp[zeroValue,typeInfo,Jv,hz]) ⟨rfl,rfl⟩ h
    ·rename_i cs hz;split at h
     ·rename_i z hpz;obtain⟨hA,h⟩:=Ak h;have h1:=JA (B:=λb=>A b/\Z.R b) (w:=w) (L:=L) hpz;refine fin (z:=z) (zv:= .agg cs) (by simp[zeroValue,typeInfo,Jv,hz]) ?_ h
      show P0 z.isA _ _;rw[hA];exact⟨cs.toList,F5,h1⟩
     ·cases h
    ·cases h
   ·cases h
  ·cases h
 ·cases h
theorem wT{cs:Array Value}(h:QL P ty (.agg cs)=some v)(hA:v.isA=true):v.isV=true/\Cl B w L v (.agg cs):=by
 have h1:=JA (B:=B) (w:=w) (L:=L) h;have h2:Ea B w L v (.agg cs):=by
  unfold Ea;rw[hA];exact⟨cs.toList,F5,h1⟩
 exact Ex h2
theorem B6{a:Option R}:∀{l:List (Option R)},both a l=some r->a=some r/\∀b∈l,b=some r
 |[],h=>⟨h,F5⟩
 |b::l,h=>by
  unfold both at h;split at h
  ·rename_i hab;obtain⟨h1,h2⟩:=B6 h;exact⟨h1,λc hc=>by
    rcases List.mem_cons.1 hc with rfl|hc
    ·exact hab▸h1
    ·exact h2 c hc⟩
  ·cases h
theorem sQ{α:Type}{l:List α}{a b:Option R}(h:oH l a b=some r):b=some r/\ (l=[]->a=some r):=by
 cases l with
 |nil=>
  obtain⟨h1,h2⟩:=B6 h;exact⟨h2 _ (.head _),λ_=>h1⟩
 |cons x l=>exact⟨h,λe=>by cases e⟩
theorem fU{t e t':TypeId}{q:Bool}{p:Option Addr}{l c:Nat}(h:qU o=some q)(ht:P.underlying t=some (.slice e))(hx:ev σ x= .slice p l c)(hy:ev σ y= .slice none 0 0):
  XO P σ w (.binOp o t x y t') (.bool (p.isNone==q)):=by
 cases o<;>simp only[qU,fR,reduceCtorEq]at h<;>subst h
 ·have:=X.bin (w:=w) (t':=t') hx hy (Bin.tK ht p l c);simpa using this
 ·have:=X.bin (w:=w) (t':=t') hx hy (Bin.A? ht p l c);cases p<;>simpa using this
theorem elem_nil{B:Reg}{l:List e.T}(hz:Nat.ble 1 e.size=true)(h:Bi (Al B w e) l []):l=[]:=by
 have h1:=Bi.len (λx c h=>Al.len h) h;have h2:1<=e.size:=by simpa using hz
 cases l with
 |nil=>rfl
 |cons a l=>
  simp only[iT,mL]at h1;have:0<(l.length+1)*e.size:=Nat.mul_pos F4 F4;omega
theorem M!{t t':TypeId}{a:PV}{dn:Nat}(hr:Rel Z s σs A L σ w)(hd:Fa n ⟨some dn, .binOp o t x y t',ty,pos,after,none⟩=true)(hx:Cm s.sl x=a)(hy:Cm s.sl y= .nils)
  (h:n_ P s dn o t a k=some r):Mi P n ops ⟨some dn, .binOp o t x y t',ty,pos,after,none⟩ Z s σs k r G A L σ w:=by
 have hm:=hr.mem;have hy':=Ta (Bw hm.sl hy rfl);unfold n_ at h;split at h
 ·rename_i q e hq ht;have main:∀{α:Type} {l:List α} {p:Option Addr} {len c:Nat},ev σ x= .slice p len c-> (p=none->l=[])->oH l (k (s.set dn (.b q))) (k (s.set dn (.b (!q))))=some r->Mi P n ops ⟨some dn, .binOp o t x y t',ty,pos,after,none⟩ Z s σs k r G A L σ w:=by
   intro α l p len c hv hp h;obtain⟨h1,h2⟩:=sQ h;cases hn:p.isNone with
   |true=>
    have hk:=h2 (hp (by simpa using hn));have hxo:=fU (w:=w) (t':=t') hq ht hv hy';rw[hn]at hxo;have hb:(true==q)=q:=by cases q<;>rfl
    rw[hb]at hxo;exact Cj (p:= .b q) hr hd hxo rfl rfl hk
   |false=>
    have hxo:=fU (w:=w) (t':=t') hq ht hv hy';rw[hn]at hxo;have hb:(false==q)=!q:=by cases q<;>rfl
    rw[hb]at hxo;exact Cj (p:= .b (!q)) hr hd hxo rfl rfl h1
  split at h
  ·have hv:=Ta (Bw hm.sl hx rfl);have hxo:=fU (w:=w) (t':=t') hq ht hv hy';have hb:((none:Option Addr).isNone==q)=q:=by cases q<;>rfl
   rw[hb]at hxo;exact Cj (p:= .b q) hr hd hxo rfl rfl h
  ·split at h
   ·obtain⟨hz,h⟩:=Ak h;obtain⟨c0,h1,h2⟩:=On (Bw hm.sl hx rfl);have h1':=h1;obtain⟨p,len,cap,hv,h3,h4,h5,h6⟩:=h1;refine main hv (λhp=>?_) h;subst hp;have:c0=[]:=Go.Lv.Rd.N4 (by rw[<-hv];exact h1');subst this;have:=h5 rfl;exact elem_nil hz h2
   ·cases h
  ·rename_i i;split at h
   ·rename_i E e' l hi;obtain⟨hz,h⟩:=Ak h;obtain⟨v,cs,h1,h2⟩:=hm.arr hi;obtain⟨z,E',c0,h3⟩:=Up (Bw hm.sl hx rfl);rw[h1]at h3;cases h3;have hrd:=hr.Ik h1;have h1':=hrd;obtain⟨p,len,cap,hv,h4,h5,h6,h7⟩:=hrd;refine main hv (λhp=>?_) h;subst hp;have:cs=[]:=Go.Lv.Rd.N4 (by rw[<-hv];exact h1');subst this;exact elem_nil hz h2
   ·cases h
  ·cases h
 ·cases h
theorem P2{i b off:Nat}{md:MD}{ns:List Value}{F:List Fact}(hr:St A w F (L.map MD.Cy))(h:L[i]? =some md)(hb:md.base=some b)(h1:ns.all (·.oneCell')=true)(hle:off+ns.length<=md.cells.length)(hz:0<ns.length):
  ∃w' md',(storeCells ⟨b,off,none⟩ ns).run P w= .ok () w'/\St A w' F ((L.map MD.Cy).set i md'.Cy)/\Mj off ns md md':=by
 cases md with
 |dead=>cases hb
 |box b' cells T=>
  cases hb;have hL:(L.map MD.Cy)[i]? =some (Mob.box b cells T):=A8 h;have hr':=Eb (P:=P) b T (0,0) ns off 0 cells w (hr.box hL) (by simpa [MD.cells]using hle) (.inr (.inr (fQ _))) (λv hv=>by simpa using List.all_eq_true.1 h1 v hv);simp only[lZ]at hr';exact⟨_, .box b (Ba cells off ns) T,hr',hr.R7 hL,rfl⟩
 |own z' E u cs=>
  obtain⟨b',m,c,hu,hs'⟩:=St.C3 hr (A8 h) (by simp[MD.cells]at hle;omega);subst hu;cases hb;have hlen:i<(L.map MD.Cy).length:=by simpa using(List.getElem?_eq_some_iff.1 h).1
  have hL:((L.map MD.Cy).set i (.at_ b z' E m c cs))[i]? =some (.at_ b z' E m c cs):=by rw[iI hlen]
  have hle':off+ns.length<=cs.length:=hle;have hcore:∃w',(storeCells ⟨b,off,none⟩ ns).run P w= .ok () w'/\St A w' F (((L.map MD.Cy).set i (.at_ b z' E m c cs)).set i (.at_ b z' E m c (Ba cs off ns))):=by
   obtain⟨o,ho,_,_⟩:=(hs'.front hL).mobs;obtain⟨rfl,ho⟩:=ho;have ho':=ho;obtain⟨_,len,cap,e,h3,h4,h5,h5',h6⟩:=ho;cases e;obtain⟨arr,fr,e,hbb,hsz',hfz,hcells⟩:=h6 b rfl;have hcl:cs.length<=arr.size:=by rw[h3,hsz'];exact fY _ h4
   have hr':=Eb (P:=P) b E fr ns off 0 arr.toList w (by simpa using hbb) F6 (by simp;rcases hfz with h|h;exact .inr (.inr (m? h.symm));exact .inr (.inl h)) (λv hv=>by simpa using List.all_eq_true.1 h1 v hv);simp only[lZ]at hr';have hbl:=lt_of_heap hbb;have hcs':(Ba cs off ns).length=cs.length:=Di F4;have hget:∀i,i<m*z'-> (Ba arr.toList off ns)[i]? =(Ba cs off ns)[i]? :=λi hi=>by
    have l!:min off arr.toList.length=off:=by simp;omega
    have n!:min off cs.length=off:=F4
    simp only[Ba,lP,hH,l!,n!,gY,jB];by_cases g1:i<off
    ·rw[fN g1,fN g1,fN g1,fN g1];simpa using hcells i hi
    ·rw[fK g1,fK g1];by_cases g2:i-off<ns.length
     ·rw[fN g2,fN g2]
     ·rw[fK g2,fK g2];have e1:off+ns.length+(i-off-ns.length)=i:=F4
      rw[e1];simpa using hcells i hi
   refine⟨_,hr',hs'.QQ hL (b:=b) ⟨rfl,ho'⟩ ⟨rfl,_,m,c,rfl,by rw[hcs',h3],h4,h5,h5',λb' hb'=>?_⟩ ?_⟩
   ·cases hb';refine⟨(Ba arr.toList off ns).toArray,fr,rfl,by simp[Ck,hbl],?_,?_,λi hi=>?_⟩
    ·simp only[iF];rw[Di F6];simpa using hsz'
    ·simp only[iF];rw[Di F6];simpa using hfz
    ·simpa using hget i hi
   ·rintro⟨q,hq,q1,q2⟩;exact⟨q,hq,q1,q2,hq.1⟩
  obtain⟨w',g1,g2⟩:=hcore;have hs3:=g2.qg (i:=i) (b:=b) (s:=z') (m:=m) (c:=c) (E:=E) (cs:=Ba cs off ns) (by rw[iI (by simpa using hlen)]);rw[mZ,mZ]at hs3;exact⟨w', .own z' E (.slice (some ⟨b,0,none⟩) m c) (Ba cs off ns),g1,hs3,rfl⟩
structure SrcW (P:Program) (w:World) (vy:Value) (z ly:Nat) (ys:List Value):Prop where
 len:(Builtin.lenOf vy).run P w= .ok ly w
 first:∀m,m<=ly-> (Builtin.firstCells z m vy).run P w= .ok (ys.take (m*z)).toArray w
theorem SrcW.rd{z ly:Nat}{ys:List Value}(h:Rd (λ_=>True) w z vy ys)(hl:ys.length=ly*z)(hz:0<z):SrcW P w vy z ly ys:=by
 obtain⟨p,len,cap,rfl,h2,h3,h4,h5⟩:=h;have he:len=ly:=gW hz (h2.symm.trans hl);subst he;refine⟨rfl,λm hm=>?_⟩;cases p with
 |none=>
  have:m=0:=by have:=h4 rfl;omega
  subst this;simp[Builtin.firstCells]
 |some a=>
  have hlen:(ys.take (m*z)).length=m*z:=by
   rw[hH,h2];have:=fY z hm;omega
  simp only[Builtin.firstCells];by_cases hc:0<cap
  ·obtain⟨b,off,arr,T,fr,e1,_,e2,_,e4⟩:=h5 hc;cases e1;have:=Gn (P:=P) (w:=w) (b:=b) (off:=off) (ys.take (m*z)) (λi hi=>by
    rw[hlen]at hi;have h6:i<len*z:=gE hi (fY z hm);rw[cell_of e2,e4 i h6,gY,fN hi])
   rw[hlen]at this;exact this
  ·have:m=0:=F4
   subst this;simp[loadCells,loadCellsFrom]
theorem SrcW.str{l:List UInt8}:SrcW P w (sv l) 1 l.length (Rk (k:= .u8) l):=by
 refine⟨by simp[Builtin.lenOf,ByteArray.size],λm hm=>?_⟩;simp only[Builtin.firstCells,YO,fW];congr 1;simp[Rk,List.map_take];rfl
theorem yI{t2:TypeId}{m:List e.T}(hr:Rel Z s σs A L σ w)(hz:0<e.size)(h:I! P s e t2 y=some m):∃ys,Bi (Al (λb=>A b/\Z.R b) w e) m ys/\SrcW P w (ev σ y) e.size m.length ys:=by
 have hm:=hr.mem;have plain:elems s e (Cm s.sl y)=some m->∃ys,Bi (Al (λb=>A b/\Z.R b) w e) m ys/\SrcW P w (ev σ y) e.size m.length ys:=by
  intro h;have hV:(Cm s.sl y).isV=true:=by
   cases hq:(Cm s.sl y).isV with
   |true=>rfl
   |false=>rcases Lk hq with h'|h'|⟨_,_,_,h'⟩<;>rw[h']at h<;>cases h
  obtain⟨c0,h1,h2⟩:=FP hm h (Ie hm.sl y hV);have hrd:Rd (λ_=>True) w e.size (ev σ y) c0:=by
   rcases h2 with h2|⟨j,E',u,cs',_,h2,hpart⟩
   ·exact h2.step (λ_ _=>trivial) (λ_ _=>rfl)
   ·exact hpart _ _ (hr.Ik h2)
  exact⟨c0,h1, .rd hrd (h1.len λx c h=>Al.len h) hz⟩
 unfold I! at h;split at h
 ·split at h
  ·rename_i m0 hy;unfold II at h;split at h
   ·rename_i he;cases he;cases h;rw[Jm hm.sl hy];exact⟨Rk m0,yW.Yc, .str⟩
   ·cases h
  ·cases h
 ·unfold M_ at h;split at h
  ·rename_i i p e1 lo n' hy;split at h
   ·rename_i T v hi;split at h
    ·rename_i a x hg;split at h
     ·rename_i q a l;obtain⟨hb,h⟩:=Ak h;simp only[fI,lC]at hb;obtain⟨⟨k1,k2,k3⟩,rfl⟩:=hb;split at h
      ·rename_i ha;subst ha;cases h;obtain⟨md,v1,h3,h4,g1,g2,⟨pt,cap,g3,g4,g5,g6⟩,_⟩:=Bw hm.sl hy rfl;have h6:ev σ y=v1:=by simpa using h4
       obtain⟨b,cells,h7,h8⟩:=hm.box hi;rw[h7]at h3;cases h3;obtain⟨c1,c2,c3,he,h9,h10,h11⟩:=LD hg h8;have YF:=h11.len λx c h=>Al.len h;obtain⟨lo',rfl⟩:=iD k1;obtain⟨n1,rfl⟩:=iD k2;simp only[jE]at g3 g4 g6;have hq:lo'+n1<=l.length:=by rw[h10];omega
       have hsub:(SG l lo' n1).length=n1:=by simp[SG];omega
       have e5:lo'*a.size+n1*a.size<=l.length*a.size:=by rw[<-g!];exact fY _ hq
       refine⟨(c2.drop (lo'*a.size)).take (n1*a.size),Bi.take (λx c h=>Al.len h) _ (Bi.drop (λx c h=>Al.len h) _ h11),?_,λm hm'=>?_⟩
       ·rw[h6,g3,hsub];rfl
       ·rw[hsub]at hm';rw[h6,g3];have hml:m*a.size<=n1*a.size:=fY _ hm';cases pt with
        |none=>
         have:m=0:=by have:=g5 rfl;omega
         subst this;simp[Builtin.firstCells]
        |some ad=>
         simp only[Builtin.firstCells];by_cases hc:0<cap
         ·obtain⟨bb,e1,e2⟩:=g6 hc;cases e1;cases e2;have hlen3:(((c2.drop (lo'*a.size)).take (n1*a.size)).take (m*a.size)).length=m*a.size:=by
           simp only[hH,lU,YF];omega
          have:=Gn (P:=P) (w:=w) (b:=b) (off:=Ap p+lo'*a.size) (((c2.drop (lo'*a.size)).take (n1*a.size)).take (m*a.size)) (λi hi=>by
           rw[hlen3]at hi;have hcl:Ap p+lo'*a.size+i<(MD.box b cells T).cells.length:=by
            simp only[MD.cells,he,gF,h9,YF];omega
           rw[hr.cells h7 rfl _ hcl];simp only[MD.cells];rw[he,iB F4,h9,show Ap p+lo'*a.size+i-Ap p=lo'*a.size+i by omega,gA (by rw[YF];omega),
            gY,fN hi,gY,fN F4,jB])
          rw[hlen3]at this;exact this
         ·have:m=0:=F4
          subst this;simp[loadCells,loadCellsFrom]
      ·cases h
     ·cases h
    ·cases h
   ·cases h
  ·exact plain h
 ·cases h
theorem jX(cs:List Value)(o:Nat):Ba cs o []=cs:=by simp[Ba]
theorem J0{t t2 E:TypeId}{vx:Value}{z ly nv wS off i:Nat}{pt:Option Addr}{ys:List Value}{md:MD}{F:List Fact}(ht:P.underlying t=some (.slice E))(hsz:Es P E z)(hsrc:SrcW P w vy z ly ys)(hys:ys.length=ly*z)(h1:ys.all (·.oneCell')=true)
  (hr:St A w F (L.map MD.Cy)) (h:L[i]? =some md) (hne:md≠ .dead) (hx:vx= .slice pt nv wS) (hcap:nv<=wS) (hpt:pt=none->wS=0) (hb:0<wS->∃b,md.base=some b/\pt=some ⟨b,off,none⟩) (hle:off+nv*z<=md.cells.length) (hz:0<z):
  ∃w' md',(Builtin.copy_ #[t,t2] ty #[vx,vy]).run P w= .ok (goInt (Nat.min ly nv)) w'/\St A w' F ((L.map MD.Cy).set i md'.Cy)/\Mj off (ys.take (nv*z)) md md':=by
 subst hx;have hmin:Nat.min ly nv<=ly:=Nat.min_le_left _ _;have E5:=hsrc.first _ hmin
 have htake:ys.take (Nat.min ly nv*z)=ys.take (nv*z):=by
  rcases Nat.le_total ly nv with h'|h'
  ·rw[show Nat.min ly nv=ly from mN h',<-hys,List.take_length,oT (by rw[hys];exact fY z h')]
  ·rw[show Nat.min ly nv=nv from p? h']
 rw[htake]at E5;have hmul:Nat.min ly nv*z<=nv*z:=fY z (Nat.min_le_right _ _);have hlen:(ys.take (nv*z)).length=Nat.min ly nv*z:=by
  rw[<-htake,hH,hys];have:=fY z hmin;omega
 have hnone:(ys.take (nv*z))=[]->∃w' md',(Builtin.copy_ #[t,t2] ty #[.slice pt nv wS,vy]).run P w= .ok (goInt (Nat.min ly nv)) w'/\St A w' F ((L.map MD.Cy).set i md'.Cy)/\Mj off (ys.take (nv*z)) md md':=by
  intro he;refine⟨w,md,?_,?_,?_⟩
  ·rw[he]at E5;cases pt<;>simp[Builtin.copy_,fJ ht,hsrc.len,Bg hsz,E5,storeCells]
  ·rw[List.getElem?_eq_some_iff]at h;obtain⟨hlt,h⟩:=h;have:(L.map MD.Cy).set i md.Cy=L.map MD.Cy:=by
    rw[<-iX,<-h,List.set_getElem_self]
   rw[this];exact hr
  ·rw[he];cases md with
   |dead=>exact absurd rfl hne
   |box b c T=>simp only[Mj,jX]
   |own z' E' v c=>simp only[Mj,jX]
 by_cases he:(ys.take (nv*z))=[]
 ·exact hnone he
 ·have hpos:0<(ys.take (nv*z)).length:=List.length_pos_iff.2 he;have hm0:0<Nat.min ly nv:=by
   rcases mT (Nat.min ly nv)with h'|h'
   ·rw[hlen,h']at hpos;simp at hpos
   ·exact h'
  have hnv:0<nv:=gE hm0 (Nat.min_le_right _ _);obtain⟨b,e1,e2⟩:=hb F4;subst e2;obtain⟨w',md',g1,g2,g3⟩:=P2 (P:=P) (off:=off) hr h e1 (ns:=ys.take (nv*z)) (List.all_eq_true.2 λv hv=>List.all_eq_true.1 h1 v (List.mem_of_mem_take hv)) (by rw[hlen];omega) hpos;refine⟨w',md',?_,g2,g3⟩;simp[Builtin.copy_,fJ ht,hsrc.len,Bg hsz,E5,g1]
theorem L8(nv k:Nat):XS (nv:Int) k=((Nat.min k nv:Nat):Int):=by
 unfold XS;rcases iW k nv with h|h
 ·rw[fN F4,show Nat.min k nv=k from mN F4]
 ·rw[fK F4,show Nat.min k nv=nv from p? h]
theorem oQ{B:Reg}{l m:List e.T}{cs ys:List Value}{lo nv:Nat}(hl:Bi (Al B w e) l cs)(hm:Bi (Al B w e) m ys):Bi (Al B w e) (Nr l lo nv m) (Ba cs (lo*e.size) (ys.take (nv*e.size))):=by
 have h1:=Bi.take (λx c h=>Al.len h) nv hm;have h2:=h1.len λx c h=>Al.len h;have h3:=Bi.take (λx c h=>Al.len h) lo hl;have h4:=Bi.drop (λx c h=>Al.len h) (lo+(m.take nv).length) hl;unfold Nr Ba;simp only[jE];refine Bi.append h3 (Bi.append h1 ?_);rw[h2,<-g!];exact h4
theorem R'{α:Type}(l m:List α):uN l m=Nr l ((0:Nat):Int) ((l.length:Nat):Int) m:=by
 unfold uN Nr;simp only[jE,lW,j_,gV,hH];congr 1;rcases Nat.le_total m.length l.length with h|h
 ·rw[p? h]
 ·rw[mN h,mO (fQ _),mO h]
theorem G2{t t2 E E':TypeId}{l m:List e.T}{ys cs:List Value}{u:Value}{lo nv wS i:Nat}{pt:Option Addr}{ow:Option Nat}(hr:Rel Z s σs A L σ w)(hd:Fa n ⟨ow, .call ⟨.builtin .copy, #[x,y], #[t,t2]⟩,ty,pos,after,none⟩=true)
  (ht:P.underlying t=some (.slice E)) (hsz:Es P E e.size) (hz:0<e.size) (hit:Bp s.it i= .arr E' e l) (hL:L[i]? =some (.own e.size E' u cs)) (hl:Bi (Al (λb=>A b/\Z.R b) w e) l cs) (hm:Bi (Al (λb=>A b/\Z.R b) w e) m ys) (hsrc:SrcW P w (ev σ y) e.size m.length ys)
  (hx:ev σ x= .slice pt nv wS) (hcap:nv<=wS) (hpt:pt=none->wS=0) (hb:0<wS->∃b,(MD.own e.size E' u cs).base=some b/\pt=some ⟨b,lo*e.size,none⟩) (hle:lo+nv<=l.length)
  (hk:k ((s.Hc i (.arr E' e (Nr l lo nv m))).Dk ow (.i .i64 (XS (nv:Int) m.length)))=some r):Mi P n ops ⟨ow, .call ⟨.builtin .copy, #[x,y], #[t,t2]⟩,ty,pos,after,none⟩ Z s σs k r False A L σ w:=by
 have hcl:=hl.len λx c h=>Al.len h;have hyl:=hm.len λx c h=>Al.len h;have hF:=St.dF (f:=pC Z.R L (.arr E' e (Nr l lo nv m)) (Ba cs (lo*e.size) (ys.take (nv*e.size)))) hr (oQ hl hm);obtain⟨w',md',g1,g2,g3⟩:=J0 (P:=P) (ty:=ty) (t2:=t2) (off:=lo*e.size) ht hsz hsrc hyl hm.B4 hF hL (by intro h;cases h) rfl hcap hpt hb (by
  show lo*e.size+nv*e.size<=cs.length;rw[hcl,<-g!];exact fY _ hle) hz
 simp only[Mj]at g3;subst g3;have key:=AW.own (cs':=Ba cs (lo*e.size) (ys.take (nv*e.size))) hL;have hr2:=Rel.change (a:= .arr E' e (Nr l lo nv m)) g2.kJ hL key ⟨rfl,rfl,g2.fact 0 rfl⟩;refine WL.U0 (v:=goInt (Nat.min m.length nv)) rfl hd ?_ (WL.nil ⟨_,A,_,hk,hr2.Dk rfl ?_,λh=>h.elim⟩)
 ·simp[execOp,resolve,invoke,builtin,hx,g1]
 ·rw[L8];rfl
theorem jh{t t2:TypeId}{ow:Option Nat}(hr:Rel Z s σs A L σ w)(hd:Fa n ⟨ow, .call ⟨.builtin .copy, #[x,y], #[t,t2]⟩,ty,pos,after,none⟩=true)
  (h:zD P s ow x y t t2 k=some r):Mi P n ops ⟨ow, .call ⟨.builtin .copy, #[x,y], #[t,t2]⟩,ty,pos,after,none⟩ Z s σs k r False A L σ w:=by
 have hmm:=hr.mem;unfold zD at h;split at h
 ·cases h
 ·rename_i E hE;have ht:=GH hE;split at h
  ·cases h
  ·rename_i inf Jv;split at h
   ·rename_i i hx;split at h
    ·rename_i E' e l hit;obtain⟨hb,h⟩:=Ak h;simp only[fI]at hb;have hz:0<e.size:=by have:=iG hb.2;omega
     split at h
     ·rename_i m hsrc;obtain⟨ys,h1,h2⟩:=yI hr hz hsrc;obtain⟨u,cs,h3,h4⟩:=hmm.arr hit;obtain⟨z',E2,c',h5⟩:=Up (Bw hmm.sl hx rfl);rw[h3]at h5;cases h5;obtain⟨q,len,cap,g1,g2,g3,g4,g5⟩:=hr.nN h3;have hl:len=l.length:=gW hz (g2.symm.trans (h4.len λx c h=>Al.len h));rw[R']at h;exact G2 (lo:=0) (nv:=l.length) (ys:=ys) hr hd ht (De Jv hb.1) hz hit h3 h4 h1 h2 (by rw[g1,hl]) F4 g4 (λhc=>by obtain⟨b,e1,e2⟩:=g5 hc;exact⟨b,e2,by rw[e1];simp⟩) F4 h
     ·cases h
    ·cases h
   ·rename_i i p e1 lo n' hx;split at h
    ·rename_i E' e l hit;obtain⟨hb,h⟩:=Ak h;simp only[fI,lC]at hb;obtain⟨⟨hb1,hb2⟩,rfl⟩:=hb;have hz:0<e1.size:=by have:=iG hb2;omega
     split at h
     ·rename_i m hsrc;obtain⟨ys,h1,h2⟩:=yI hr hz hsrc;obtain⟨u,cs,h3,h4⟩:=hmm.arr hit;obtain⟨md,v1,h5,h6,k1,k2,⟨pt,cap,k3,k4,k5,k6⟩,k7,_⟩:=Bw hmm.sl hx rfl;rw[h3]at h5;cases h5;have h7:ev σ x=v1:=by simpa using h6
      obtain⟨lo',rfl⟩:=iD k1;obtain⟨n1,rfl⟩:=iD k2;simp only[jE]at k3 k4 k6 k7;obtain⟨s',E2,q,len,cap0,c0,e1',rfl,e3,_⟩:=k7 trivial;cases e1';obtain⟨q',len',cap',g1,g2,_⟩:=hr.nN h3;cases g1;have hl:len=l.length:=gW hz (g2.symm.trans (h4.len λx c h=>Al.len h));exact G2 (lo:=lo') (nv:=n1) (ys:=ys) hr hd ht (De Jv hb1) hz hit h3 h4 h1 h2 (h7.trans k3) k4 k5 (λhc=>by obtain⟨b,e4,e5⟩:=k6 hc;exact⟨b,e4,by rw[e5];simp[Ap]⟩) F4 h
     ·cases h
    ·cases h
   ·rename_i i p e1 lo n' hx;split at h
    ·rename_i T v hit;split at h
     ·rename_i a0 x0 hg;split at h
      ·rename_i q e l;obtain⟨hb,h⟩:=Ak h;simp only[fI,lC]at hb;obtain⟨⟨⟨hb1,hb2⟩,rfl⟩,k1,k2,k3⟩:=hb;have hz:0<e1.size:=by have:=iG hb2;omega
       split at h
       ·rename_i m hsrc;obtain⟨ys,h1,h2⟩:=yI hr hz hsrc;obtain⟨md,v1,h5,h6,_,_,⟨pt,cap,g3,g4,g5,g6⟩,_⟩:=Bw hmm.sl hx rfl;have h7:ev σ x=v1:=by simpa using h6
        obtain⟨b,cells,h8,h9⟩:=hmm.box hit;rw[h8]at h5;cases h5;obtain⟨c1,c2,c3,he,h10,h11,h12⟩:=LD hg h9;have YF:=h12.len λx c h=>Al.len h;have hyl:=h1.len λx c h=>Al.len h;obtain⟨lo',rfl⟩:=iD k1;obtain⟨n1,rfl⟩:=iD k2;simp only[jE]at g3 g4 g6;have hq:lo'+n1<=l.length:=by rw[h11];omega
        have e5:lo'*e1.size+n1*e1.size<=l.length*e1.size:=by rw[<-g!];exact fY _ hq
        have hk1:=Bi.take (λx c h=>Al.len h) n1 h1;have hk2:=hk1.len λx c h=>Al.len h;have hk3:(ys.take (n1*e1.size)).length<=n1*e1.size:=by rw[hH];omega
        have hcp:=oQ (lo:=lo') (nv:=n1) h12 h1;have rF:(Ba c2 (lo'*e1.size) (ys.take (n1*e1.size))).length=c2.length:=Di (by rw[YF];omega);have yS:As (λb=>A b/\Z.R b) w L (.val (.vec q e1) (Nr l lo' n1 m)) (Ba c2 (lo'*e1.size) (ys.take (n1*e1.size))):=by
         refine⟨?_,hcp⟩;have:=hcp.len λx c h=>Al.len h;rw[rF,YF]at this;rw[<-h11];exact(gW hz this).symm
        obtain⟨v',hk,_,hv'⟩:=bH yS h h9;have hcells:Ba cells (Ap p) (Ba c2 (lo'*e1.size) (ys.take (n1*e1.size)))=Ba cells (Ap p+lo'*e1.size) (ys.take (n1*e1.size)):=by
         rw[he,DX h10 _ (by rw[YF];omega),<-h10,JU rF]
        rw[hcells]at hv';have hF:=St.dF (f:=pC Z.R L (.box T v') (Ba cells (Ap p+lo'*e1.size) (ys.take (n1*e1.size)))) hr hv';obtain⟨w',md',g1,g2,g3'⟩:=J0 (P:=P) (ty:=ty) (t2:=t2) (off:=Ap p+lo'*e1.size) ht (De Jv hb1) h2 hyl h1.B4 hF h8 (by intro h;cases h) rfl g4 g5 (λhc=>by obtain⟨b,e4,e5⟩:=g6 hc;exact⟨b,e4,e5⟩) (by
         show Ap p+lo'*e1.size+n1*e1.size<=cells.length;rw[he];simp only[gF,h10,YF];omega) hz
        simp only[Mj]at g3';subst g3';have key:=AW.box (cs':=Ba cells (Ap p+lo'*e1.size) (ys.take (n1*e1.size))) h8;have hr2:=Rel.change (a:= .box T v') g2.kJ h8 key ⟨rfl,As.step (λ_ h=>h) (λ_ _=>rfl) key (g2.fact 0 rfl)⟩;refine WL.U0 (v:=goInt (Nat.min m.length n1)) rfl hd ?_ (WL.nil ⟨_,A,_,hk,hr2.Dk rfl ?_,λh=>h.elim⟩)
        ·rw[<-g3,<-h7]at g1;simp[execOp,resolve,invoke,builtin,g1]
        ·rw[L8];rfl
       ·cases h
      ·cases h
     ·cases h
    ·cases h
   ·cases h
theorem oU{g:Nat}{cs:List Value}:∀{l:List (Nat×List Value)},P? l g=some cs-> (g,cs)∈l
 |[],h=>by cases h
 |(q,c)::r,h=>by
  simp only[P?]at h;cases hb:Nat.beq q g with
  |true=>
   rw[hb]at h;have:=Bb hb;subst this;cases h;exact .head _
  |false=>rw[hb]at h;exact .tail _ (oU h)
theorem S5{g:Nat}{t:TypeId}(hT:ON P T Z)(hr:Rel Z s σs A L σ w)(h:T.glv P g t=some v):∃cs T1 fr,w.heap[g]? =some (.cells cs.toArray T1 fr)/\ (A g/\Z.R g)/\As (λb=>A b/\Z.R b) w L v cs:=by
 unfold Tab.glv at h;split at h
 ·rename_i cs hg;split at h
  ·rename_i v' hp;cases h;obtain⟨h1,T1,fr,h2⟩:=hr.H2 (p:=(g,cs)) (by rw[hT.2];exact oU hg);obtain⟨c,e1,h3⟩:=GP (B:=λb=>A b/\Z.R b) (w:=w) (L:=L) Q hp;rw[gP]at e1;subst e1;exact⟨_,T1,fr,h2,h1,h3⟩
  ·cases h
 ·cases h
theorem B5{o:Op}{g dn:Nat}(hT:ON P T Z)(hr:Rel Z s σs A L σ w)(hd:Fa n ⟨some dn,o,ty,pos,after,none⟩=true)
  (ho:(∃t,o= .load t (.global g))\/ (∃t ix,o= .indexAddr t (.global g) ix)\/ (∃t lo hi,o= .slice t (.global g) lo hi none)) (h:ZU P T s dn g o k=some r):
  Mi P n ops ⟨some dn,o,ty,pos,after,none⟩ Z s σs k r G A L σ w:=by
 have hm:=hr.mem;rcases ho with⟨t,rfl⟩|⟨t,ix,rfl⟩|⟨t,lo,hi,rfl⟩
 ·simp only[ZU]at h;split at h
  ·rename_i v hv;obtain⟨hb,hk⟩:=Ak h;obtain⟨cs,T1,fr,h1,h2,h3⟩:=S5 hT hr hv;obtain⟨val,h7,h8⟩:=uX (P:=P) (σ:=σ) (x:= .global g) (b:=g) (off:=0) (Ir hb) h3 (λj hj=>by rw[cell_of h1];simp) rfl;obtain⟨hv,hv'⟩:=Ex h7;exact Cj hr hd h8 hv hv' hk
  ·cases h
 ·simp only[ZU]at h;split at h
  ·rename_i j m et e0 l0 hj ht hv;obtain⟨q,hix⟩:=Ui hj (Ie hm.sl ix (BF hj));split at h
   ·rename_i inf m' e l Jv;obtain⟨hb,h⟩:=Ak h;simp only[fI]at hb;obtain⟨y,hy,hk⟩:=bind_some h;obtain⟨hj0,hj1,hj2⟩:=Eu hy;obtain⟨cs,T1,fr,h1,h2,h3,h4⟩:=S5 hT hr hv;obtain⟨c1,c2,c3,he,h8,h9,_⟩:=Bi.get (λx c h=>Al.len h) h4 hj2;have hmm:=Bb hb.1.1;subst hmm;have h10:c2.length=e.size:=h9.len;have hp:yP (λb=>A b/\Z.R b) w (.pointer (some ⟨g,0+j.toNat*e.size,none⟩)) c2:=by
     refine⟨g,0+j.toNat*e.size,_,T1,fr,rfl,h2,h1,λq hq=>?_⟩;rw[j?,he,gV,iB F4,h8,show j.toNat*e.size+q-j.toNat*e.size=q by omega,gA hq]
    have o!:Cl (λb=>A b/\Z.R b) w L (.rptr (e.pv y)) (.pointer (some ⟨g,0+j.toNat*e.size,none⟩)):=⟨_,c2,rfl,hp,DM.2 h9⟩;exact Cj hr hd (DD (x:= .global g) ht (De Jv hb.1.2) rfl hix F4 (by rw[<-show l.length=m' from h3];omega) w) rfl o! hk
   ·cases h
  ·cases h
 ·simp only[ZU]at h;split at h
  ·rename_i u m et hat;split at h
   ·rename_i e0 l0 hv;split at h
    ·rename_i inf m' e l Jv;obtain⟨hb,h⟩:=Ak h;simp only[fI]at hb;split at h
     ·rename_i a b ha hb';obtain⟨y,hy,hk⟩:=bind_some h;obtain⟨k1,k2,k3,k4,rfl⟩:=Ww hy;obtain⟨cs,T1,fr,h1,h2,h3,h4⟩:=S5 hT hr hv;have hmm:=Bb hb.1.1;subst hmm;have hlen:=h4.len λx c h=>Al.len h;have hz:0<e.size:=by have:=iG hb.2;omega
      have hm3:l.length=m':=h3;have hxo:=X.xX (P:=P) (σ:=σ) (w:=w) (x:= .global g) (lo:=lo) (hi:=hi) (a:=a.toNat) (b:=b.toNat) (ad:=⟨g,0,none⟩) hat (De Jv hb.1.2) k3 F4 rfl
       (by rcases Gd hm.sl ha with h|⟨h,h'⟩;exact .inl (by rw[<-k1];exact h);exact .inr ⟨h,F4⟩) (by rcases Gd hm.sl hb' with h|⟨h,h'⟩;exact .inl (by rw[<-k2];exact h);exact .inr ⟨h,F4⟩)
      have e5:a.toNat*e.size<=b.toNat*e.size:=fY _ k3;have e6:b.toNat*e.size<=l.length*e.size:=fY _ k4;have e7:(b.toNat-a.toNat)*e.size=b.toNat*e.size-a.toNat*e.size:=jD _ _ _;refine Cj hr hd hxo rfl (VO ⟨_,_,_,rfl,?_,F4,(λh=>by cases h),λhc=>?_⟩ (Bi.drop (λx c h=>Al.len h) _ (Bi.take (λx c h=>Al.len h) _ h4))) hk
      ·rw[lU,hH,hlen,e7];omega
      ·rw[fK F4,Hh];refine⟨g,0+a.toNat*e.size,_,T1,fr,rfl,h2,h1,?_,λi hi=>?_⟩
       ·simp only[iF,hlen,hm3];have:(m'-a.toNat)*e.size=m'*e.size-a.toNat*e.size:=jD _ _ _;have:a.toNat*e.size<=m'*e.size:=fY _ F4;omega
       ·rw[j?,gV,jB,gY,fN F4]
     ·cases h
    ·cases h
   ·cases h
  ·cases h
theorem vS{o:Op}{dn:Nat}(hT:ON P T Z)(hI:Gz P T.gl inl)(hr:Rel Z s σs A L σ w)(hd:Fa n ⟨some dn,o,ty,pos,after,none⟩=true)(h:op2 P T inl s dn ty o k=some r):
  Mi P n ops ⟨some dn,o,ty,pos,after,none⟩ Z s σs k r (wD T s ⟨some dn,o,ty,pos,after,none⟩=true) A L σ w:=by
 have hm:=hr.mem;unfold op2 at h;split at h
 ·
  rename_i o t x y t';split at h
  ·rename_i a u b v hx hy;split at h
   ·rename_i c q hc hq;obtain⟨_,hok,h⟩:=bind_some h;have:=Li hok;subst this;obtain⟨hv,val,hb,o!⟩:=nY (P:=P) (w:=w) (L:=L) (B:=λb=>A b/\Z.R b) (t:=t) hq hc;exact Cj hr hd (X.bin (Nk hm.sl hx) (Nk hm.sl hy) hb) hv o! h
   ·cases h
  ·rename_i u v hx hy;split at h
   ·obtain⟨q,hq,h⟩:=bind_some h;exact Cj (p:= .val .str q) hr hd (X.A! (Jm hm.sl hx) (Jm hm.sl hy) hq) rfl rfl h
   ·cases h
  ·rename_i a h1 h2 hy;exact M! hr hd rfl hy h
  ·cases h
 ·
  rename_i t x ix;split at h
  ·rename_i j e0 l0 hj hx;obtain⟨q,hix⟩:=Ui hj (Ie hm.sl ix (BF hj));split at h
   ·rename_i l ht;obtain⟨y,hy,h⟩:=bind_some h;exact Cj (p:= .i .u8 y) hr hd (X.Y' ht (Jm hm.sl hx) hix hy) rfl rfl h
   ·rename_i m e l m' et ht;obtain⟨hb,h⟩:=Ak h;obtain⟨y,hy,h⟩:=bind_some h;obtain⟨hk,hkk⟩:=Ak h;have hok:=Ir hk;have hv:Ea (λb=>A b/\Z.R b) w L (.val (.vec m e) l) (ev σ x):=Bw hm.sl hx rfl;obtain⟨cs,h1,h2,h3⟩:=hv;have hsz:(e.pv y).size=e.size:=by
     obtain⟨_,_,h5⟩:=Eu hy;obtain⟨_,c2,_,_,_,h6,_⟩:=Bi.get (λx c h=>Al.len h) h3 h5;rw[<- (DM (L:=L).2 h6).len,h6.len]
    have hmm:=Bb hb;subst hmm;obtain⟨d0,hd0,ha0⟩:=hok.agg;obtain⟨val,h4,h5⟩:=O? (L:=L) ht (by rw[<-hsz];exact hok.size) ⟨d0,hd0,ha0⟩ (λhA=>by rw[<-hsz];exact hok.one hA) h2 h1 h3 hix hy;obtain⟨hv,hv'⟩:=Ex h5;exact Cj hr hd h4 hv hv' hkk
   ·cases h
  ·cases h
 ·split at h
  ·exact B5 hT hr hd (.inr (.inr ⟨_,_,_,rfl⟩)) h
  ·exact S_ hr hd h (λg=>g)
 ·split at h
  ·exact B5 hT hr hd (.inr (.inl ⟨_,_,rfl⟩)) h
  ·exact P5 hr hd h
 ·split at h
  ·exact B5 hT hr hd (.inl ⟨_,rfl⟩) h
  ·exact sC hr hd h
 ·
  split at h
  ·rename_i v hz;exact D_ hr hd hz h
  ·cases h
 ·obtain⟨hb,h⟩:=Ak h;exact vF hr hd hb h
 ·split at h
  ·rename_i v hv;obtain⟨hA,h⟩:=Ak h;obtain⟨h1,h2⟩:=wT (B:=λb=>A b/\Z.R b) (w:=w) (L:=L) hv hA;exact Cj hr hd (X.assign rfl) h1 h2 h
  ·cases h
 ·split at h
  ·rename_i v hv;obtain⟨hA,h⟩:=Ak h;obtain⟨h1,h2⟩:=wT (B:=λb=>A b/\Z.R b) (w:=w) (L:=L) hv hA;exact Cj hr hd (X.move rfl) h1 h2 h
  ·cases h
 ·exact H' hr hd h
 ·exact Aho hr hd h (λg=>g)
 ·exact s_ hr hd h
 ·
  split at h
  ·rename_i e ha ht;split at h
   ·rename_i l he hx;exact yW hr hd ha ht he hx h
   ·cases h
  ·rename_i e ha ht;obtain⟨hb,h1⟩:=Ak h;clear h;have:=Bb hb;subst this;split at h1
   ·rename_i i he hx;split at h1
    ·rename_i E e' l hi;split at h1
     ·rename_i y ys;exact C? hr hd ht he hx hi h1
     ·cases h1
    ·cases h1
   ·cases h1
  ·cases h
 ·
  rename_i as ts;split at h
  ·rename_i x y t t2 has hts;have h1:=Rc has;have h2:=Rc hts;subst h1 h2;refine Uh (Ajw hr hd h) ?_;rintro σ' w' ⟨s',A',L',g1,g2,g3⟩;exact⟨s',A',L',g1,g2,λg=>by simp[wD,brk]at g⟩
  ·cases h
 ·
  rename_i as ts;split at h
  ·rename_i x y t t2 has hts;have h1:=Rc has;have h2:=Rc hts;subst h1 h2;refine Uh (jh hr hd h) ?_;rintro σ' w' ⟨s',A',L',g1,g2,g3⟩;exact⟨s',A',L',g1,g2,λg=>by simp[wD,brk]at g⟩
  ·cases h
 ·
  rename_i as ts;split at h
  ·rename_i x t has hts;have h1:=Rc has;have h2:=Rc hts;subst h1 h2;split at h
   ·rename_i e ht hx;refine Cj (p:= .i .i64 (0:Int)) hr hd (val:=iv (0:Int)) (λ_ _ _ _ _=>?_) rfl rfl h;have hv:=Ta (Bw hm.sl hx rfl);simp[execOp,resolve,invoke,builtin,hv,Builtin.cap_,fJ ht,goInt];rfl
   ·cases h
  ·cases h
 ·
  rename_i g as ts;split at h
  ·rename_i f caps hg;refine Agr hT hI hr hg hd h (λgg=>?_);unfold wD at gg;split at gg
   ·rename_i heq;cases heq
   ·rename_i heq;cases heq
   ·rename_i f' as' ts' heq;cases heq;cases hg;split at gg
    ·rename_i c hc;simp only[fI,iJ,gQ]at gg;exact⟨c,hc,gg.1,gg.2.imp id isEmpty_nil⟩
    ·cases gg
   ·rename_i h1 h2 h3;simp only[brk]at gg;split at gg<;>simp_all
  ·rename_i f fs hg;obtain⟨hb,h⟩:=Ak h;simp only[fI]at hb;refine Ahu hT hI hr hg hd hb.2 h (λgg=>?_);unfold wD at gg;split at gg
   ·rename_i heq;cases heq
   ·rename_i heq;cases heq
   ·rename_i f' as' ts' heq;cases heq;cases hg
   ·rename_i h1 h2 h3;simp only[brk]at gg;split at gg<;>simp_all
  ·cases h
 ·exact Ajc hr hd h (λg=>g)
 ·exact Afa hr hd h
 ·cases h
end Go.Rx
namespace Go.Rx
open Go Go.Lv
variable {P:Program} {w w':World} {L:List MD} {s:S} {σs:List Env} {σ:Env} {Z:Fix} {A:Reg}
theorem IB{α:Type 1}{c:Bool}{x:Option α}{y:α}(h:(Bo (c) (x)<|none)=some y):c=true/\x=some y:=by cases c<;>simp_all
theorem Q0{o:Op}{b:BV}{x:b.X}(hr:Rel Z s σs A L σ w)(h:a_ P s o=some b)(hx:b.E=some x):(b.v x).isV=true/\∃val,(∀w',XO P σ w' o val)/\Cl (λb=>A b/\Z.R b) w L (b.v x) val:=by
 have hm:=hr.mem;unfold a_ at h;split at h
 ·
  rename_i o t x y t';split at h
  ·rename_i a u b v hx' hy;split at h
   ·rename_i c q hc hq;cases h;have:=Li hx;subst this;obtain⟨hv,val,hb,o!⟩:=nY (P:=P) (w:=w) (L:=L) (B:=λb=>A b/\Z.R b) (t:=t) hq hc;exact⟨hv,val,λw'=>X.bin (Nk hm.sl hx') (Nk hm.sl hy) hb,o!⟩
   ·cases h
  ·rename_i u v hx' hy;split at h
   ·cases h;exact⟨rfl,_,λw'=>X.A! (Jm hm.sl hx') (Jm hm.sl hy) hx,rfl⟩
   ·cases h
  ·cases h
 ·
  split at h
  ·rename_i j l hj hx' ht;cases h;obtain⟨q,hix⟩:=Ui hj (Ie hm.sl _ (BF hj));exact⟨rfl,_,λw'=>X.Y' ht (Jm hm.sl hx') hix hx,rfl⟩
  ·cases h
 ·
  split at h
  ·rename_i ht;split at h
   ·rename_i l hx';split at h
    ·rename_i a b ha hb;cases h;exact⟨rfl,_,λw'=>X.qj ht (Jm hm.sl hx') hx (Gd hm.sl ha) (Gd hm.sl hb),rfl⟩
    ·cases h
   ·cases h
  ·rename_i et ht;split at h
   ·rename_i e0 l0 hx';split at h
    ·rename_i e l;split at h
     ·rename_i inf Jv;obtain⟨hb,h⟩:=IB h;simp only[fI]at hb;split at h
      ·rename_i a b ha hb';cases h;obtain⟨h1,h2,h3,h4,h5'⟩:=Ww hx;obtain⟨c0,h5,h6⟩:=On (Bw hm.sl hx' rfl);have hlen:=h6.len λx c h=>Al.len h;obtain⟨p',l',c',h7,h8⟩:=X.M4 (P:=P) (l:=a.toNat) (k:=b.toNat) (m:=l.length) ht (De Jv hb.1) (St.N! hr h5) (j:=0) rfl hlen (D7 hb.2) h3 h4;refine⟨rfl, .slice p' l' c',λw'=>h7 σ w' _ _ _ rfl (by rcases Gd hm.sl ha with h|⟨h,h'⟩;exact .inl (by rw[<-h1];exact h);exact .inr ⟨h,F4⟩)
        (by rcases Gd hm.sl hb' with h|⟨h,h'⟩;exact .inl (by rw[<-h2];exact h);exact .inr ⟨h,by rw[h'];simp[Ac]⟩),?_⟩
       rw[h5'];exact VO (h8.fact 0 rfl) (Bi.drop (λx c h=>Al.len h) _ (Bi.take (λx c h=>Al.len h) _ h6))
      ·cases h
     ·cases h
    ·cases h
   ·cases h
  ·cases h
 ·
  split at h
  ·cases h
  ·rename_i j hj;obtain⟨q,hix⟩:=Ui hj (Ie hm.sl _ (BF hj));split at h
   ·rename_i et ht;split at h
    ·cases h
    ·rename_i inf Jv;split at h
     ·rename_i e0 l0 hx';split at h
      ·rename_i e l;obtain⟨hb,h⟩:=IB h;cases h;simp only[fI]at hb;obtain⟨hj0,hj1,hj2⟩:=Eu hx;obtain⟨c0,h1,h2⟩:=On (Bw hm.sl hx' rfl);obtain⟨p,len,cap,h3,h4,h5,h6,h7⟩:=h1;have hlen:=h2.len λx c h=>Al.len h;have hz:0<e.size:=by have:=iG hb.2;omega
       have hl:len=l.length:=gW hz (h4.symm.trans hlen);subst hl;obtain⟨b,off,arr,T,fr,rfl,hB,hbl,hcap,hc⟩:=h7 F4;obtain⟨c1,c2,c3,he,h8,h9,_⟩:=Bi.get (λx c h=>Al.len h) h2 hj2;have h10:c2.length=e.size:=h9.len;have h11:(j.toNat+1)*e.size<=l.length*e.size:=fY _ hj1;rw[jC]at h11;have hp:yP (λb=>A b/\Z.R b) w (.pointer (some ⟨b,off+j.toNat*e.size,none⟩)) c2:=by
        refine⟨b,off+j.toNat*e.size,arr,T,fr,rfl,hB,hbl,λq hq=>?_⟩;rw[gN,hc _ F4,he,iB F4,h8,show j.toNat*e.size+q-j.toNat*e.size=q by omega,gA hq]
       have o!:Cl (λb=>A b/\Z.R b) w L (.rptr (e.pv x)) (.pointer (some ⟨b,off+j.toNat*e.size,none⟩)):=⟨_,c2,rfl,hp,DM.2 h9⟩;exact⟨rfl,_,λw'=>Kg ht (De Jv hb.1) h3 hix F4 F4 w',o!⟩
      ·cases h
     ·rename_i i hx';split at h
      ·rename_i E e l hi;obtain⟨hb,h⟩:=IB h;cases h;simp only[fI]at hb;obtain⟨hj0,hj1,hj2⟩:=Eu hx;obtain⟨v,cs,h1,h2⟩:=hm.arr hi;obtain⟨z',E',c',h3⟩:=Up (Bw hm.sl hx' rfl);rw[h1]at h3;cases h3;have hlen:=h2.len λx c h=>Al.len h;have hz:0<e.size:=by have:=iG hb.2;omega
       have hpos:0<cs.length:=by rw[hlen];exact Nat.mul_pos F4 hz
       obtain⟨b,len,cap,h4,h5⟩:=hr.base h1 hpos;have hl:len=l.length:=gW hz (h5.symm.trans hlen);subst hl;refine⟨rfl,_,λw'=>Kg ht (De Jv hb.1) h4 hix F4 F4 w',?_⟩;rw[show(0:Nat)+j.toNat*e.size=Ap [.idx j e.size] by simp[Ap,UZ]];refine Un h1 ?_;rw[h4];rfl
      ·cases h
     ·rename_i o i p e lo n' hx';obtain⟨hb,h⟩:=IB h;cases h;simp only[fI]at hb;have hj':0<=j/\j<n':=iM (Li hx);obtain⟨md,v1,h3,h4,k1,k2,⟨pt,cap,k3,k4,k5,k6⟩,_⟩:=Bw hm.sl hx' rfl;have h6:=List.cons.inj h4;obtain⟨b,e1,rfl⟩:=k6 F4;refine⟨rfl,_,λw'=>Kg ht (De Jv hb.1) (h6.1.trans k3) hix hj'.1 F4 w',?_⟩;rw[show Ap p+lo.toNat*e.size+j.toNat*e.size=Ap (p++[.idx (lo+j) e.size]) by
       rw[KO,gN,<-g!]
       show _=Ap p+(lo+j).toNat*e.size;rw[Int.toNat_add k1 hj'.1]]
      exact Un h3 e1
     ·cases h
   ·rename_i m et ht;split at h
    ·cases h
    ·rename_i inf Jv;split at h
     ·rename_i i p hx';split at h
      ·rename_i T v hi;split at h
       ·rename_i e0 l0 hg;split at h
        ·rename_i m' e l;obtain⟨hb,h⟩:=IB h;cases h;simp only[fI]at hb;obtain⟨hj0,hj1,hj2⟩:=Eu hx;obtain⟨md,b,h1,h2,h3⟩:=Mn (Bw hm.sl hx' rfl);obtain⟨b',cells,h4,h5⟩:=hm.box hi;rw[h4]at h1;cases h1;cases h2;obtain⟨c1,c2,c3,he,h6,h7,h8⟩:=LD hg h5;have hmm:=Bb hb.2;subst hmm;have hl:l.length=m':=h7;refine⟨rfl,_,λw'=>DD ht (De Jv hb.1.1) h3 hix F4 F4 w',?_⟩;rw[show Ap p+j.toNat*e.size=Ap (p++[.idx j e.size]) by simp[Zg,Ap,UZ]];exact Un h4 rfl
        ·cases h
       ·cases h
      ·cases h
     ·cases h
   ·cases h
 ·cases h
end Go.Rx
namespace Go.Rx
open Go Go.Lv
variable{want b st:Bool}{o:Op}{v:PV}{G:Prop}
variable {P:Program} {B B':Reg} {w w':World} {L L':List MD} {s:S} {σs:List Env} {σ:Env} {Z:Fix} {A A':Reg} {n:Nat} {ops:Array Oper}
variable {R:Type} {k:S->Option R} {r:R} {d:Option Nat} {ty:TypeId} {pos:String} {after:Array Edge} {T:Tab} {inl:KI R}
theorem Q_{o:Oper}(hT:ON P T Z)(hI:Gz P T.gl inl)(hr:Rel Z s σs A L σ w)(hd:Fa n o=true)(h:exU P T inl o s k=some r):
  Mi P n ops {o with guard:=none} Z s σs k r (wD T s o=true) A L σ w:=by
 obtain⟨d,op,ty,pos,after,g⟩:=o;have hd':Fa n ⟨d,op,ty,pos,after,none⟩=true:=hd;unfold exU at h;split at h
 ·rename_i v hv;obtain⟨h1,val,h2,h3⟩:=zH (P:=P) (B:=λb=>A b/\Z.R b) (w:=w) (L:=L) (λ_=>True) hr.mem.sl hv;exact Cj hr hd' (h2 w trivial) h1 h3 h
 ·split at h
  ·rename_i v hv;obtain⟨h1,val,h2,h3⟩:=S7 (P:=P) hr hv;exact Cj hr hd' (h2 w (.refl hr)) h1 h3 h
  ·cases d with
   |some dn=>exact vS hT hI hr hd' h
   |none=>
    simp only at h;split at h
    ·rename_i t a x;refine Uh (J! hr h) ?_;rintro σ' w' ⟨s',A',L',g1,g2,g3⟩;exact⟨s',A',L',g1,g2,λg=>by simp[wD,brk]at g⟩
    ·rename_i as ts;split at h
     ·rename_i x y t t2 has hts;have h1:=Rc has;have h2:=Rc hts;subst h1 h2;refine Uh (jh hr hd' h) ?_;rintro σ' w' ⟨s',A',L',g1,g2,g3⟩;exact⟨s',A',L',g1,g2,λg=>by simp[wD,brk]at g⟩
     ·cases h
    ·cases h
theorem WL.qZ{rest:List Oper}{K:Env->World->Prop}{o:Oper}{j t:Nat}(hg:o.guard=some (j,want))(hj:(ops[j]?).bind (·.dst)=some t)(hb:σ t= .bool b)(hne:(b==want)=false)
  (hdn:Fa n o=true) (h:WL P n ops rest K (vo σ o.dst Go.undef) w):WL P n ops (o::rest) K σ w:=by
 intro ds a ha;refine wpList_step λK' hK'=>?_;have hw:Region.wanted o (yielded ops a.tmps)=false:=by
  simp only[Region.wanted,hg,Zu ha hj hb];cases b<;>cases want<;>simp_all
 rw[fK (by rw[hw];simp)];refine hK' _ _ ?_;cases hd:o.dst with
 |none=>rw[hd]at h;exact h _ _ (ha.sK _)
 |some d=>rw[hd]at h;unfold Fa at hdn;rw[hd]at hdn;exact h _ _ (ha.put hdn _)
theorem WL.wP{rest:List Oper}{K:Env->World->Prop}{o:Oper}{j t:Nat}(hg:o.guard=some (j,want))(hj:(ops[j]?).bind (·.dst)=some t)(hb:σ t=Go.undef)
  (hdn:Fa n o=true) (h:WL P n ops rest K (vo σ o.dst Go.undef) w):WL P n ops (o::rest) K σ w:=by
 intro ds a ha;refine wpList_step λK' hK'=>?_;have hy:yielded ops a.tmps j=none:=by
  unfold yielded;rw[hj];have h1:=ha.get t;rw[hb]at h1;cases h:a.tmps[t]? with
  |none=>simp[h]
  |some v=>
   rw[i?,h]at h1;simp at h1;subst h1;simp[h,undef]
 have hw:Region.wanted o (yielded ops a.tmps)=false:=by
  simp only[Region.wanted,hg,hy];cases want<;>rfl
 rw[fK (by rw[hw];simp)];refine hK' _ _ ?_;cases hd:o.dst with
 |none=>rw[hd]at h;exact h _ _ (ha.sK _)
 |some d=>rw[hd]at h;unfold Fa at hdn;rw[hd]at hdn;exact h _ _ (ha.put hdn _)
theorem H6{o:Oper}(hr:Rel Z s σs A L σ w)(h:k (s.Dk o.dst .off)=some r):WL P n ops [] (wA Z σs k r G A L s.it w) (vo σ o.dst Go.undef) w:=by
 refine WL.nil ⟨_,A,L,h,hr.B?,λ_=>?_⟩;have:(s.Dk o.dst .off).it=s.it:=by cases o.dst<;>rfl
 rw[this];exact .refl
theorem KL{a:Bool}:VL a b=(b==a):=by cases a<;>cases b<;>rfl
theorem P8{G':Prop}{σ':Env}{it:List Item}(hp:wA Z σs k r G A L it w σ' w')(h:G'->G):wA Z σs k r G' A L it w σ' w':=by
 obtain⟨s',A',L',h1,h2,h3⟩:=hp;exact⟨s',A',L',h1,h2,λg=>h3 (h g)⟩
theorem oC{t dn:Nat}{val:Value}(ht:σ t= .bool b)(hne:Nat.beq dn t=false)(h1:b=want->Cl B w L v val)(h2:b≠want->val=Go.undef):Du B w L (Hc σ dn val) dn (.gd t want v):=by
 have htd:t≠dn:=by intro e;subst e;simp at hne
 exact⟨b,by rw[KZ _ _ htd];exact ht,λe=>by rw[Nf];exact h1 e,λe=>by rw[Nf];exact h2 e⟩
theorem Z3{o:Oper}{j t dn:Nat}(hr:Rel Z s σs A L σ w)(hg:o.guard=some (j,want))(hj:(ops[j]?).bind (·.dst)=some t)(ht:σ t= .bool b)(hdn:Fa n o=true)(hd:o.dst=some dn)
  (hne:Nat.beq dn t=false) (hv:b=want->v.isV=true/\∃val,XO P σ w o.op val/\Cl (λb=>A b/\Z.R b) w L v val) (hk:k (s.set dn (.gd t want v))=some r):Mi P n ops o Z s σs k r G A L σ w:=by
 by_cases hbw:b=want
 ·obtain⟨h1,val,h2,h3⟩:=hv hbw;refine WL.on hg hj ht (by simpa using hbw) (WL.U0 rfl (by simpa [Fa]using hdn) (h2 _ _ _ _ _) (WL.nil ⟨_,A,L,hk,?_,λ_=> .refl⟩));simp only[hd];exact hr.set (oC ht hne (λ_=>h3) (λe=>absurd hbw e))
 ·refine WL.qZ hg hj ht (by simpa using hbw) hdn (WL.nil ⟨_,A,L,hk,?_,λ_=> .refl⟩);rw[hd];exact hr.set (oC ht hne (λe=>absurd e hbw) (λ_=>rfl))
theorem Wx{t:Nat}(hm:Dh B w L σ s.sl)(h:Np s.sl t= .val .bool b):σ t= .bool b:=by
 have h1:=Hg (t:=t) hm;rw[h]at h1;exact To h1
theorem cR{t:Nat}(hm:Dh B w L σ s.sl)(h:Np s.sl t= .cst (.bool b)):σ t= .bool b:=by
 have h1:=Hg (t:=t) hm;rw[h]at h1;have: [σ t]=[Value.bool b]:=h1.1;simpa using this
theorem uy{o:Oper}{j t:Nat}(hT:ON P T Z)(hI:Gz P T.gl inl)(hr:Rel Z s σs A L σ w)(hd:Fa n o=true)(hg:o.guard=some (j,want))(hj:(ops[j]?).bind (·.dst)=some t)
  (h:exG P T inl o t want s k=some r):Mi P n ops o Z s σs k r (wD T s o=true/\∃b,Np s.sl t= .cst (.bool b)) A L σ w:=by
 have hm:=hr.mem;have lit:∀(G:Prop) (s1:S) (b:Bool),(G->wD T s1 o=true)->Rel Z s1 σs A L σ w->s1.it=s.it->σ t= .bool b-> (Bo (VL want b) (exU P T inl o s1 k)<|k (s1.Dk o.dst .off))=some r->Mi P n ops o Z s σs k r G A L σ w:=by
  intro G s1 b hG hr1 hit ht h;cases hb:VL want b with
  |true=>
   rw[hb]at h;refine WL.on hg hj ht (by rw[<-KL];exact hb) (Uh (Q_ hT hI hr1 hd h) λσ' w' hp=>?_);rw[<-hit];exact P8 hp hG
  |false=>
   rw[hb]at h;refine WL.qZ hg hj ht (by rw[<-KL];exact hb) hd ?_;rw[<-hit];exact H6 hr1 h
 unfold exG at h;simp only at h;split at h
 ·rename_i b hb;exact lit _ s b (λg=>g.1) hr rfl (cR hm.sl hb) h
 ·rename_i hb;have h1:=Hg (t:=t) hm.sl;rw[hb]at h1;exact WL.wP hg hj h1 hd (H6 hr h)
 ·rename_i b hb;have ht:=Wx hm.sl hb;have nog:∀{X:Prop},(∃b,Np s.sl t= .cst (.bool b))->X:=λ⟨_,g⟩=>by rw[hb]at g;cases g
  split at h
  ·rename_i dn v hdn hv;cases hne:Nat.beq dn t with
   |true=>rw[hne]at h;cases h
   |false=>
    rw[hne]at h;refine Z3 hr hg hj ht hd hdn hne (λhbw=>?_) h;subst hbw;obtain⟨h1,val,h2,h3⟩:=zH (P:=P) (λ_=>True) (hr.res ht).mem.sl hv;exact⟨h1,val,h2 w trivial,h3⟩
  ·rename_i dn v hdn hv0 hv;cases hne:Nat.beq dn t with
   |true=>rw[hne]at h;cases h
   |false=>
    rw[hne]at h;refine Z3 hr hg hj ht hd hdn hne (λhbw=>?_) h;subst hbw;obtain⟨h1,val,h2,h3⟩:=S7 (P:=P) (hr.res ht) hv;exact⟨h1,val,h2 w (.refl (hr.res ht)),h3⟩
  ·cases b with
   |true=>exact lit _ (s.res t true) true (λg=>nog g.2) (hr.res ht) rfl ht (by simpa using h)
   |false=>exact lit _ (s.res t false) false (λg=>nog g.2) (hr.res ht) rfl ht (by simpa using h)
 ·cases h
theorem je{o:Oper}(hT:ON P T Z)(hI:Gz P T.gl inl)(hr:Rel Z s σs A L σ w)(h:YS P T inl n ops o s k=some r):Mi P n ops o Z s σs k r (wD T s o=true/\U1 ops s o=true) A L σ w:=by
 have hm:=hr.mem;unfold YS at h;cases hd:Fa n o with
 |false=>rw[hd]at h;cases h
 |true=>
  rw[hd]at h;simp only[lE,jK]at h;try dsimp only[Bo]at h
  split at h
  ·rename_i hg;have:({o with guard:=none}:Oper)=o:=by cases o;simp only at hg;subst hg;rfl
   rw[<-this];refine Uh (Q_ hT hI hr hd h) λσ' w' hp=>P8 hp ?_;rintro⟨g,_⟩;rw[this]at g;exact g
  ·rename_i j want hg;split at h
   ·cases h
   ·rename_i t hj;have fin:∀s1:S,(U1 ops s o=true->s1=s)->Rel Z s1 σs A L σ w->s1.it=s.it->exG P T inl o t want s1 k=some r->Mi P n ops o Z s σs k r (wD T s o=true/\U1 ops s o=true) A L σ w:=by
     intro s1 hs hr1 hit h;refine Uh (uy hT hI hr1 hd hg hj h) λσ' w' hp=>?_;rw[<-hit];refine P8 hp (λg=>?_);have:=hs g.2;subst this;refine⟨g.1,?_⟩;have h2:=g.2;unfold U1 at h2;simp only[hg,hj]at h2;split at h2
     ·exact⟨_,by assumption⟩
     ·cases h2
    split at h
    ·rename_i t2 w2 v hv;have nog:∀{X:Prop},U1 ops s o=true->X:=λg=>by
      unfold U1 at g;simp only[hg,hj,hv]at g;cases g
     split at h
     ·rename_i b hb;have ht:=Wx hm.sl hb;cases b with
      |true=>exact fin _ nog (hr.res ht) rfl (by simpa using h)
      |false=>exact fin _ nog (hr.res ht) rfl (by simpa using h)
     ·cases h
    ·exact fin s (λ_=>rfl) hr rfl h
theorem Rel.xg{rr:Nat}(hr:Rel Z s σs A L σ w)(hl:rr<w.heap.size)(hm:Bs w (λb=>A b\/b=rr) (L.map MD.Cy)):Rel Z s σs (λb=>A b\/b=rr) L σ w:=
 ⟨λb hb=>hb.elim (hr.lt b) (λe=>e▸hl),λf hf=>f.step (hr.facts f hf) (λ_ h=> .inl h) (λ_ _=>rfl) (.refl _),hm⟩
theorem Rel.world{w':World}(hr:Rel Z s σs A L σ w)(hs:Same A w w')(hg:Gr w w')(hm:Bs w' A (L.map MD.Cy)):Rel Z s σs A L σ w':=
 ⟨λb hb=>gE (hr.lt b hb) hg.le,λf hf=>f.step (hr.facts f hf) (λ_ h=>h) hs hg,hm⟩
def e_(P:Program)(Z:Fix)(d t:Nat)(st:Bool)(ks:List (List UInt8))(vs:List PV)(A:Reg)(L:List MD)(σ:Env)(w:World):Prop:=
 ∃rr es c kt et,P.underlying t=some (.map kt et)/\P.underlying kt=some (tyK st)/\σ d= .map (some rr)/\w.heap[rr]? =some (.map es c)/\Z.w0.heap.size<=rr/\ ¬A rr/\Bs w (λb=>A b\/b=rr) (L.map MD.Cy)/\
  es.toList.map (·.key)=ks.map (JF st)/\Cr (λb=>A b/\Z.R b) w L vs (es.toList.map (·.val))
theorem e_.close{d t:Nat}{ks:List (List UInt8)}{vs:List PV}(hr:Rel Z s σs A L σ w)(h:e_ P Z d t st ks vs A L σ w):∃A',Rel Z (s.set d (.mp st ks vs)) σs A' L σ w:=by
 obtain⟨rr,es,c,kt,et,_,_,h3,h4,h5,h6,h7,h8,h9⟩:=h;have hr1:=hr.xg (lt_of_heap h4) h7;have hσ:Hc σ d (.map (some rr))=σ:=by
  rw[<-h3];funext q;by_cases hq:q=d
  ·rw[hq,Nf]
  ·rw[KZ _ _ hq]
 refine⟨λb=>A b\/b=rr,?_⟩;rw[<-hσ];refine hr1.set ?_;rw[hσ];have hv:As (λb=>(A b\/b=rr)/\Z.R b) w L (.mp st ks vs) [.map (some rr)]:=⟨rr,es,c,rfl,⟨.inr rfl,Z.new _ h5⟩,h4,h8,As.kN (λb hb=>⟨.inl hb.1,hb.2⟩) (λ_ _=>rfl) (.refl L) h9⟩
 show As _ w L (.mp st ks vs) [σ d];rw[h3];exact hv
theorem X9{st:Bool}{u:List UInt8}:∀{es:List MapEntry} {ks:List (List UInt8)} (i:Nat),es.map (·.key)=ks.map (JF st)->ni st u ks=false->Instr.findNow (tyK st) (JF st u) es i=some none
 |[],_,_,_,_=>rfl
 |e::es,[],_,h,_=>by cases h
 |e::es,q::ks,i,h,hu=>by
  simp only[gT,jJ]at h;simp only[ni,lJ]at hu;have hs:Instr.sameNow (tyK st) (JF st u) e.key=some (zn st u q):=by rw[h.1];exact xO st u q
  simp only[Instr.findNow,hs,hu.1];exact X9 (i+1) h.2 hu.2
theorem Cr.push{B:Reg}{p:PV}{v:Value}(h:P0 p.isA (As B w L p) v):∀{vs:List PV} {us:List Value},Cr B w L vs us->Cr B w L (vs++[p]) (us++[v])
 |[],us,e=>by
  rw[show us=[]from e];exact⟨v,[],rfl,h,rfl⟩
 |a::vs,us,⟨x,us',e,h1,h2⟩=>⟨x,us'++[v],by rw[e];rfl,h1,Cr.push h h2⟩
theorem E_{d t:Nat}{u:List UInt8}{x:Operand}(h:V! st d t o=some (u,x)):o= .insert t (.tmp d) (.const (JF st u)) x:=by
 unfold V! at h;split at h
 ·rename_i t' q m x';obtain⟨hb,h⟩:=Ak h;simp only[fI,gQ]at hb;cases h;obtain⟨rfl,hb⟩:=hb;rw[Bb hb.1.1,Bb hb.1.2];have:=iM hb.2
  show Op.insert t (.tmp d) (.const (.int .u8 m)) x= .insert t (.tmp d) (.const (.int .u8 (((GI.ofZ m:UInt8).toNat:Nat):Int))) x;rw[this]
 ·rename_i t' q b x';obtain⟨hb,h⟩:=Ak h;simp only[fI]at hb;cases h;obtain⟨rfl,hb⟩:=hb;rw[Bb hb.1,Bb hb.2]
  show Op.insert t (.tmp d) (.const (.string b)) x= .insert t (.tmp d) (.const (sv (bytesOf b))) x;simp[sv,bytesOf]
 ·cases h
theorem sG{o:Oper}{d t:Nat}(h:nR P n o=some (d,t,st)):o.op= .makeMap t none/\o.dst=some d/\o.guard=none/\Nat.blt d n=true/\∃kt et,P.underlying t=some (.map kt et)/\P.underlying kt=some (tyK st):=by
 unfold nR at h;split at h
 ·rename_i t' ho;split at h
  ·rename_i d' kt et hd hg ht;split at h
   ·rename_i hk;obtain⟨hb,h⟩:=Ak h;cases h;exact⟨ho,hd,hg,hb,kt,et,ht,J_ hk⟩
   ·cases h
  ·cases h
 ·cases h
def yj(P:Program)(Z:Fix)(σs:List Env)(m:Option (Nat×Nat×Bool×List (List UInt8)×List PV))(A:Reg)(L:List MD)(σ:Env)(w:World):Prop:=match m with|none=>True|some (d,t,st,ks,vs)=>e_ P Z d t st ks vs A L σ w
theorem uM{t:TypeId}{ps:Array (Nat×Operand)}(hr:Rel Z s σs A L σ w)(h:nH P s (.build t ps)=some v):v.isV=true/\∃val,(∀(d:Option Nat) (ty:TypeId) (pos:String) (af:Array Edge) (g:Option (Nat×Bool)),(execOp (ev σ) ⟨d, .build t ps,ty,pos,af,g⟩).run P w= .ok (.value val) w)/\Cl (λb=>A b/\Z.R b) w L v val:=by
 have hps:ps=ps.toList.toArray:=by simp
 unfold nH at h;simp only at h;split at h
 ·rename_i fs zs ht hz;obtain⟨hb,h⟩:=Ak h;obtain⟨z,⟨i,hi,hz0⟩,hz2⟩:=Tp hz;split at h
  ·rename_i l hl;cases h;obtain⟨cells,h1,h2⟩:=RS hr (pl:=places zs 0) hl rfl (show As.go _ w L zs _ from hz2 _ _ _);have hst:Uq P t (places zs 0) z.cells.toList:=by
    unfold Uq Zj;rw[ht];simp only[UR hb,hi,hz0,iU]
   refine⟨rfl,_,λd ty pos af g=>?_,(show Cl _ w L (.agg l) _ from⟨cells,rfl,h2⟩)⟩;rw[show(⟨d, .build t ps,ty,pos,af,g⟩:Oper)=⟨d, .build t ps.toList.toArray,ty,pos,af,g⟩ by rw[<-hps]];exact X.build hst rfl (by simpa using h1) d ty pos af g
  ·cases h
 ·cases h
theorem su(hr:Rel Z s σs A L σ w)(h:nJ P s o=some v):v.isV=true/\∃val,(∀(d:Option Nat) (ty:TypeId) (pos:String) (af:Array Edge) (g:Option (Nat×Bool)),(execOp (ev σ) ⟨d,o,ty,pos,af,g⟩).run P w= .ok (.value val) w)/\Cl (λb=>A b/\Z.R b) w L v val:=by
 unfold nJ at h;split at h
 ·rename_i u hu;cases h;obtain⟨h1,val,h2,h3⟩:=zH (P:=P) (B:=λb=>A b/\Z.R b) (w:=w) (L:=L) (λ_=>True) hr.mem.sl hu;exact⟨h1,val,λd ty pos af g=>h2 w trivial d ty pos af g,h3⟩
 ·cases o<;>first|exact uM hr h|cases h
theorem IN(hT:ON P T Z)(hI:Gz P T.gl inl):∀{l:List Oper} {m:Option (Nat×Nat×Bool×List (List UInt8)×List PV)} {s:S} {A:Reg} {L:List MD} {σ:Env} {w:World},Rel Z s σs A L σ w->yj P Z σs m A L σ w->Vl P T inl n ops l m s k=some r->
  WL P n ops l (λσ' w'=>∃s' A' L',k s'=some r/\Rel Z s' σs A' L' σ' w') σ w
 |[],m,s,A,L,σ,w,hr,hm,h=>by
  unfold Vl at h;cases m with
  |none=>exact WL.nil ⟨s,A,L,h,hr⟩
  |some q=>
   obtain⟨d,t,st,ks,vs⟩:=q;obtain⟨A',hr'⟩:=e_.close hr hm;exact WL.nil ⟨_,A',L,h,hr'⟩
 |o::l,m,s,A,L,σ,w,hr,hm,h=>by
  have op:∀{s:S} {A:Reg},Rel Z s σs A L σ w-> (YS P T inl n ops o s λs'=>Vl P T inl n ops l none s' k)=some r->WL P n ops (o::l) (λσ' w'=>∃s' A' L',k s'=some r/\Rel Z s' σs A' L' σ' w') σ w:=by
   intro s A hr h;have h1:=je (ops:=ops) hT hI hr h;refine WL.cut _ [o] h1 ?_;rintro σ' w' ⟨s',A',L',g1,g2,_⟩;exact IN (m:=none) hT hI g2 trivial g1
  unfold Vl at h;cases m with
  |none=>
   simp only at h;split at h
   ·exact op hr h
   ·rename_i d t st hmk;obtain⟨h1,h2,h3,h4,kt,et,h5,h6⟩:=sG hmk;have hsz:(w.alloc (.map #[] 0)).heap.size=w.heap.size+1:=QJ w _;have hkeep:Keep w (w.alloc (.map #[] 0)):=jV w _;have hr1:Rel Z s σs A L σ (w.alloc (.map #[] 0)):=St.keep hr hkeep;have hr2:Rel Z (s.set d .undef) σs A L (Hc σ d (.map (some w.heap.size))) (w.alloc (.map #[] 0)):=hr1.set trivial;have Py:Bs (w.alloc (.map #[] 0)) (λb=>A b\/b=w.heap.size) (L.map MD.Cy):=
     (Bs.step (by rw[hsz];omega) (St.mobs hr).lt λb hb _=>hkeep.same b hb).Eo λb hb=>hb.imp id λe=>m? e.symm
    have hx:(execOp (ev σ) o).run P w= .ok (.value (.map (some w.heap.size))) (w.alloc (.map #[] 0)):=by
     obtain⟨_,_,_,_,_,_⟩:=o;simp only at h1;subst h1;simp[execOp,Instr.makeMap,Result.andThen]
    refine WL.val h3 h2 h4 hx (IN hT hI hr2 ?_ h);exact⟨w.heap.size, #[],0,kt,et,h5,h6,Nf _ _ _,Ld w _,(hr.fact 1 (f:= .old Z.M Z.w0) rfl).1.le,λhA=>absurd (hr.lt _ hA) F4,Py,rfl,rfl⟩
  |some q=>
   obtain⟨d,t,st,ks,vs⟩:=q;simp only at h;have cl:∀{s':S},s'=s.set d (.mp st ks vs)-> (YS P T inl n ops o s' λs'=>Vl P T inl n ops l none s' k)=some r->WL P n ops (o::l) (λσ' w'=>∃s' A' L',k s'=some r/\Rel Z s' σs A' L' σ' w') σ w:=by
    intro s' hs' h;subst hs';obtain⟨A',hr'⟩:=e_.close hr hm;exact op hr' h
   split at h
   ·rename_i q hg hq;split at h
    ·rename_i v hv;obtain⟨hb,hv⟩:=Ak hv;simp only[fI,gQ]at hb;obtain⟨h1,val,h2,h3⟩:=su hr hv;have hne:d≠q:=λe=>by rw[e]at hb;simp at hb
     have hx:(execOp (ev σ) o).run P w= .ok (.value val) w:=by
      obtain⟨d0,op0,ty0,yT,af0,g0⟩:=o;exact h2 d0 ty0 yT af0 g0
     refine WL.val hg hq hb.1 hx (IN hT hI (hr.set (Du.put h1 h3)) ?_ h);obtain⟨rr,es,c,kt,et,g1,g2,g3,g4⟩:=hm;exact⟨rr,es,c,kt,et,g1,g2,by rw[KZ _ _ hne];exact g3,g4⟩
    ·exact cl rfl h
   ·rename_i hg hq;split at h
    ·rename_i u x hins;have ho:=E_ hins;obtain⟨hb,h⟩:=Ak h;simp only[fI,gQ]at hb;obtain⟨rr,es,c,kt,et,g1,g2,g3,g4,g5,g6,g7,g8,g9⟩:=hm;have hxv:Ea (λb=>A b/\Z.R b) w L (Cm s.sl x) (ev σ x):=by
      refine Xd hr.mem.sl ?_;cases hp:Cm s.sl x<;>rw[hp]at hb<;>first|rfl|exact absurd hb.1 (by simp[qo])
     have hlt:=lt_of_heap g4
     let o':Obj:= .map (es.push {key:=JF st u,val:=ev σ x,born:=c}) (c+1)
     let w':World:={w with heap:=w.heap.setIfInBounds rr o'}
     have hheap:∀b,b≠rr->w'.heap[b]? =w.heap[b]? :=λb hb=>by simp[w',iY (gO hb)]
     have hnew:w'.heap[rr]? =some o':=by simp[w',hlt]
     have hgr:Gr w w':=⟨by simp[w'],rfl,rfl,rfl⟩;have hsame:Same A w w':=λb hb=>hheap b λe=>g6 (e▸hb);have Py:Bs w' (λb=>A b\/b=rr) (L.map MD.Cy):=Bs.step hgr.le g7 λb _ hb=>hheap b λe=>hb (.inr e);have hck:(Instr.checkKey false 10000 kt (JF st u)).run P w= .ok () w:=MapKept.run_checkKey g2 (B3 st u) _ 9999;have hfk:=MapKept.run_findKey (P:=P) (w:=w) g2 (X9 0 g8 hb.2);have hx:(execOp (ev σ) o).run P w= .ok .skip w':=by
      obtain⟨_,_,_,_,_,_⟩:=o;simp only at ho;subst ho;have e1:ev σ (.tmp d)= .map (some rr):=g3;have e2:ev σ (.const (JF st u))=JF st u:=rfl;simp[execOp,e1,e2,Instr.mapUpdate,fJ g1,MapKept.run_getObj_map g4,hck,hfk,MapKept.run_setObj_map _ g4,Result.andThen,w',o']
     refine WL.unit hg hq hx (IN hT hI (hr.world hsame hgr (Py.Eo λb hb=> .inl hb)) ?_ h);refine⟨rr,_,_,kt,et,g1,g2,g3,hnew,g5,g6,Py,?_,?_⟩
     ·simp only[Array.toList_push,l?,g8,gT,lM]
     ·simp only[Array.toList_push,l?,gT,lM];exact As.kN (λ_ h=>h) (λb hb=>hsame b hb.1) (.refl L) (Cr.push hxv g9)
    ·exact cl rfl h
   ·cases h
theorem qI(hT:ON P T Z)(hI:Gz P T.gl inl){l:List Oper}{s:S}{A:Reg}{L:List MD}{σ:Env}{w:World}(hr:Rel Z s σs A L σ w)(h:Uk P T inl n ops l s k=some r):
  WL P n ops l (λσ' w'=>∃s' A' L',k s'=some r/\Rel Z s' σs A' L' σ' w') σ w:=IN (m:=none) hT hI hr trivial h
end Go.Rx
namespace Go.Rx
open Go Go.Lv
variable{b:BV}{o:Op}{v:PV}
variable {P:Program} {B B':Reg} {w w':World} {L L':List MD} {s:S} {σs:List Env} {σ:Env} {Z:Fix} {A A':Reg} {n:Nat} {ops:Array Oper}
variable {R:Type} {k:S->Option R} {r:R} {d:Option Nat} {ty:TypeId} {pos:String} {after:Array Edge} {T:Tab} {inl:KI R} {mem:Bool} {listed:Array Bool}
def gL(Z:Fix)(σs:List Env)(A:Reg)(L:List MD)(it:List Item)(w w':World):Prop:=∃s2 σ2 A' L',Rel Z s2 σs A' L' σ2 w'/\Grow A L it w A' L' s2.it w'
theorem gL.refl(hr:Rel Z s σs A L σ w):gL Z σs A L s.it w w:=⟨s,σ,A,L,hr, .refl⟩
theorem gL.ext(hr:Rel Z s σs A L σ w)(h:gL Z σs A L s.it w w'):Ext Z s σs A L σ w w':=by
 obtain⟨s2,σ2,A',L',h1,h2⟩:=h;exact h2.ext hr h1
theorem KT{z:Array Bool}:∀{is:List Nat} {i d:Nat} {v:PV},Lm P T n mem ops z listed s is=some (i,d,v)->∃o,ops[i]? =some o/\Dj ops (tw z) listed i=true/\C5 P T n mem ops o s=some (d,v)
 |[],_,_,_,h=>by simp[Lm]at h
 |j::is,i,d,v,h=>by
  simp only[Lm]at h;split at h
  ·cases h
  ·rename_i o ho;split at h
   ·rename_i d' v' hp;cases ht:J6 ops (tw z) listed j with
    |true=>rw[ht,Lf]at h;cases h;exact⟨o,ho,zN ht,hp⟩
    |false=>rw[ht,Kh]at h;exact KT h
   ·exact KT h
def GS(Z:Fix)(σs:List Env)(w':World):Prop:=∃s2 σ2 A2 L2,Rel Z s2 σs A2 L2 σ2 w'
theorem Ext.gs(h:Ext Z s σs A L σ w w'):GS Z σs w':=by
 obtain⟨⟨A',L',it',_,hr⟩,_⟩:=h;exact⟨_,_,_,_,hr⟩
theorem Ahc{g:Nat}{t:TypeId}(hT:ON P T Z)(h:T.glv P g t=some v):∃cs,(∀w',GS Z σs w'->∃T1 fr,w'.heap[g]? =some (.cells cs.toArray T1 fr))/\∀(B:Reg) (w:World) (L:List MD),As B w L v cs:=by
 unfold Tab.glv at h;split at h
 ·rename_i cs hg;split at h
  ·rename_i v' hp;cases h;refine⟨cs,λw' hw=>?_,λB w L=>?_⟩
   ·obtain⟨s2,σ2,A2,L2,hr⟩:=hw;obtain⟨_,T1,fr,h2⟩:=hr.H2 (p:=(g,cs)) (by rw[hT.2];exact oU hg);exact⟨T1,fr,h2⟩
   ·obtain⟨c,e1,h3⟩:=GP (B:=B) (w:=w) (L:=L) Q hp;rw[gP]at e1;subst e1;exact h3
  ·cases h
 ·cases h
theorem b? (hT:ON P T Z)(h:oG P T o=some v):v.isV=true/\∃val,(∀w',GS Z σs w'->XO P σ w' o val)/\Cl (λb=>A b/\Z.R b) w L v val:=by
 unfold oG at h;split at h
 ·rename_i t g;split at h
  ·rename_i u hv;obtain⟨hb,hk⟩:=Ak h;cases hk;obtain⟨cs,h1,h3⟩:=Ahc (σs:=σs) hT hv;obtain⟨val,h7,h8⟩:=QA (P:=P) (σ:=σ) (x:= .global g) (b:=g) (off:=0) (Ir hb) (h3 (λb=>A b/\Z.R b) w L) rfl;obtain⟨hv1,hv2⟩:=Ex h7;refine⟨hv1,val,λw' hw=>h8 w' λj hj=>?_,hv2⟩;obtain⟨T1,fr,h4⟩:=h1 w' hw;rw[cell_of h4];simp
  ·cases h
 ·cases h
theorem qK{S:World->Prop}(hT:ON P T Z)(hr:Rel Z s σs A L σ w)(h:jU P T mem s o=some v)(hS:mem=true->∀w',S w'->Ext Z s σs A L σ w w')(hG:∀w',S w'->GS Z σs w'):v.isV=true/\∃val,(∀w',S w'->XO P σ w' o val)/\Cl (λb=>A b/\Z.R b) w L v val:=by
 unfold jU at h;split at h
 ·rename_i u hu;cases h;exact zH (P:=P) S hr.mem.sl hu
 ·split at h
  ·rename_i u hu;cases h;cases mem with
   |true=>
    obtain⟨h1,val,h2,h3⟩:=S7 (P:=P) hr hu;exact⟨h1,val,λw' hw=>h2 w' (hS rfl w' hw),h3⟩
   |false=>cases hu
  ·obtain⟨h1,val,h2,h3⟩:=b? (σs:=σs) (σ:=σ) (A:=A) (w:=w) (L:=L) hT h;exact⟨h1,val,λw' hw=>h2 w' (hG w' hw),h3⟩
theorem tI{t:Nat}{b:Bool}{w':World}(h:Ext Z s σs A L σ w w')(ht:σ t= .bool b):Ext Z (s.res t b) σs A L σ w w':=by
 obtain⟨⟨A',L',it',h1,h2⟩,h3⟩:=h;exact⟨⟨A',L',it',h1,Rel.res (s:=⟨s.sl,s.it++it',s.st⟩) h2 ht⟩,h3⟩
theorem WD.gxU{op:Op}{d j t:Nat}{ty:TypeId}{pos:String}{after:Array Edge}{want:Bool}{S:World->Prop}{TT:Nat->Bool}{fuel:Nat}{K:Env->World->Prop}(i:Nat)(hi:ops[i]? =some ⟨some d,op,ty,pos,after,some (j,want)⟩)(hB:Dj ops TT listed i=true)(hdn:Nat.blt d n=true)
  (hj:(ops[j]?).bind (·.dst)=some t) (hb:σ t=Go.undef) (hS:S w)
  (h:WD P n ops S TT fuel (listed.setIfInBounds i true) K (Hc σ d Go.undef) w):WD P n ops S TT (fuel+1) listed K σ w:=by
 intro ds a ha;obtain⟨B,hblk,hcl⟩:=ZQ hi hB;simp only[Dj,fI]at hB;refine KY (v:=Go.undef) hi (oX hB.1) (λc a w h=>absurd h.1 F5) fuel listed a w hblk (Pp hcl).1 (Pp hcl).2 (by simpa using hB.2.1) ?_ hS (h _ _ (ha.put hdn _));refine .inr ⟨?_,rfl⟩;have hy:yielded ops a.tmps j=none:=by
  unfold yielded;rw[hj];have h1:=ha.get t;rw[hb]at h1;cases h:a.tmps[t]? with
  |none=>simp[h]
  |some v=>
   rw[i?,h]at h1;simp at h1;subst h1;simp[h,Go.undef]
 simp only[Region.wanted,hy];cases want<;>rfl
theorem jl{S:World->Prop}{z:Array Bool}{fuel i dn:Nat}{o:Oper}{K:Env->World->Prop}(hT:ON P T Z)(hr:Rel Z s σs A L σ w)(hi:ops[i]? =some o)(hB:Dj ops (tw z) listed i=true)(hp:C5 P T n mem ops o s=some (dn,v))(hSw:S w)
  (hS:mem=true->∀w',S w'->Ext Z s σs A L σ w w') (hG:∀w',S w'->GS Z σs w') (h:∀σ',Rel Z (s.set dn v) σs A L σ' w->WD P n ops S (tw z) fuel (listed.setIfInBounds i true) K σ' w):WD P n ops S (tw z) (fuel+1) listed K σ w:=by
 obtain⟨d,op,ty,pos,after,g⟩:=o;have hm:=hr.mem;unfold C5 at hp;simp only at hp;split at hp
 ·cases hp
 ·rename_i d';cases hn:Nat.blt d' n with
  |false=>rw[hn]at hp;cases hp
  |true=>
   rw[hn]at hp;simp only[lE,jK]at hp;try dsimp only[Bo]at hp
   split at hp
   ·
    cases hv:jU P T mem s op with
    |none=>rw[hv]at hp;cases hp
    |some u=>
     rw[hv]at hp;cases hp;obtain⟨h1,val,h2,h3⟩:=qK hT hr hv hS hG;exact WD.x i hi hB hn hSw h2 (h _ (hr.set (.put h1 h3)))
   ·rename_i j want;split at hp
    ·cases hp
    ·rename_i t hj;split at hp
     ·rename_i b hb;have ht:=cR hm.sl hb;cases hw:VL want b with
      |true=>
       rw[hw]at hp;dsimp only[Bo,cond]at hp;cases hv:jU P T mem s op with
       |none=>rw[hv]at hp;cases hp
       |some u=>
        rw[hv]at hp;cases hp;obtain⟨h1,val,h2,h3⟩:=qK hT hr hv hS hG;have hbw:(b==want)=true:=by rw[<-KL];exact hw
        refine WD.gx (v:=val) i hi hB hn hj ht hSw (λ_=>h2) (h _ ?_);rw[pK hbw];exact hr.set (.put h1 h3)
      |false=>
       rw[hw]at hp;cases hp;have hbw:(b==want)=false:=by rw[<-KL];exact hw
       refine WD.gx (v:=Go.undef) i hi hB hn hj ht hSw (λhg=>by rw[hbw]at hg;cases hg) (h _ ?_);rw[Q8 hbw];exact hr.set (show Hc σ dn Go.undef dn=Go.undef from Nf _ _ _)
     ·rename_i hb;cases hp;have h1:=Hg (t:=t) hm.sl;rw[hb]at h1;exact WD.gxU i hi hB hn hj h1 hSw (h _ (hr.set (show Hc σ dn Go.undef dn=Go.undef from Nf _ _ _)))
     ·rename_i b hb;have ht:=Wx hm.sl hb;cases hne:Nat.beq d' t with
      |true=>rw[hne]at hp;cases hp
      |false=>
       rw[hne]at hp;dsimp only[Bo,cond]at hp;cases hv:jU P T mem (s.res t want) op with
       |none=>rw[hv]at hp;cases hp
       |some u=>
        rw[hv]at hp;cases hp;by_cases hbw:b=want
        ·subst hbw;obtain⟨h1,val,h2,h3⟩:=qK hT (hr.res ht) hv (λhm w' hw=>tI (hS hm w' hw) ht) hG;refine WD.gx (v:=val) i hi hB hn hj ht hSw (λ_=>h2) (h _ ?_);rw[pK F5];exact hr.set (oC ht hne (λ_=>h3) (λe=>absurd rfl e))
        ·refine WD.gx (v:=Go.undef) i hi hB hn hj ht hSw (λhg=>absurd (by simpa using hg) hbw) (h _ ?_);rw[Q8 (by simpa using hbw)];exact hr.set (oC ht hne (λe=>absurd e hbw) (λ_=>rfl))
     ·cases hp
theorem AM{z:Array Bool}:∀{is:List Nat} {i d:Nat} {v:BG},Qq P n ops z listed s is=some (i,d,v)->∃o,ops[i]? =some o/\Dj ops (tw z) listed i=true/\xC P n ops o s=some (d,v)
 |[],_,_,_,h=>by simp[Qq]at h
 |j::is,i,d,v,h=>by
  simp only[Qq]at h;split at h
  ·cases h
  ·rename_i o ho;split at h
   ·rename_i d' v' hp;cases ht:J6 ops (tw z) listed j with
    |true=>rw[ht,Lf]at h;cases h;exact⟨o,ho,zN ht,hp⟩
    |false=>rw[ht,Kh]at h;exact AM h
   ·exact AM h
theorem h!{S:World->Prop}{z:Array Bool}{fuel i dn:Nat}{o:Oper}{x:b.X}{K:Env->World->Prop}(hr:Rel Z s σs A L σ w)(hi:ops[i]? =some o)(hB:Dj ops (tw z) listed i=true)(hp:xC P n ops o s=some (dn, .on b))(hx:b.E=some x)(hSw:S w)
  (h:∀σ',Rel Z (s.set dn (b.v x)) σs A L σ' w->WD P n ops S (tw z) fuel (listed.setIfInBounds i true) K σ' w):WD P n ops S (tw z) (fuel+1) listed K σ w:=by
 obtain⟨d,op,ty,pos,after,g⟩:=o;have hm:=hr.mem;unfold xC at hp;simp only at hp;split at hp
 ·cases hp
 ·rename_i d';cases hn:Nat.blt d' n with
  |false=>rw[hn]at hp;cases hp
  |true=>
   rw[hn]at hp;simp only[lE,jK]at hp;try dsimp only[Bo]at hp
   split at hp
   ·cases hv:a_ P s op with
    |none=>rw[hv]at hp;cases hp
    |some u=>
     rw[hv]at hp;cases hp;obtain⟨h1,val,h2,h3⟩:=Q0 hr hv hx;exact WD.x i hi hB hn hSw (λw' _=>h2 w') (h _ (hr.set (.put h1 h3)))
   ·rename_i j want;split at hp
    ·cases hp
    ·rename_i t hj;split at hp
     ·rename_i c hb;have ht:=cR hm.sl hb;cases hw:VL want c with
      |true=>
       rw[hw]at hp;dsimp only[Bo,cond]at hp;cases hv:a_ P s op with
       |none=>rw[hv]at hp;cases hp
       |some u=>
        rw[hv]at hp;cases hp;obtain⟨h1,val,h2,h3⟩:=Q0 hr hv hx;have hbw:(c==want)=true:=by rw[<-KL];exact hw
        refine WD.gx (v:=val) i hi hB hn hj ht hSw (λ_ w' _=>h2 w') (h _ ?_);rw[pK hbw];exact hr.set (.put h1 h3)
      |false=>rw[hw]at hp;cases hp
     ·rename_i c hb;cases hne:Nat.beq d' t with
      |true=>rw[hne]at hp;cases hp
      |false=>
       rw[hne]at hp;dsimp only[Bo,cond]at hp;cases hv:a_ P (s.res t want) op with
       |none=>rw[hv]at hp;cases hp
       |some u=>rw[hv]at hp;cases hp
     ·cases hp
theorem jw{S:World->Prop}{z:Array Bool}{fuel i dn t:Nat}{want bv:Bool}{o:Oper}{K:Env->World->Prop}{X:Go.Rx.S->Option R}(hr:Rel Z s σs A L σ w)(hi:ops[i]? =some o)(hB:Dj ops (tw z) listed i=true)(hp:xC P n ops o s=some (dn, .ask t want bv b))(hSw:S w)
  (hx:(Bo (VL want bv) (Option.bind b.E λx=>X ((s.res t bv).set dn (b.v x)))<|X ((s.res t bv).set dn .off))=some r)
  (h:∀s',s'.it=s.it->∀σ',Rel Z s' σs A L σ' w->X s'=some r->WD P n ops S (tw z) fuel (listed.setIfInBounds i true) K σ' w):WD P n ops S (tw z) (fuel+1) listed K σ w:=by
 obtain⟨d,op,ty,pos,after,g⟩:=o;have hm:=hr.mem;unfold xC at hp;simp only at hp;split at hp
 ·cases hp
 ·rename_i d';cases hn:Nat.blt d' n with
  |false=>rw[hn]at hp;cases hp
  |true=>
   rw[hn]at hp;simp only[lE,jK]at hp;try dsimp only[Bo]at hp
   split at hp
   ·cases hv:a_ P s op with
    |none=>rw[hv]at hp;cases hp
    |some u=>rw[hv]at hp;cases hp
   ·rename_i j want';split at hp
    ·cases hp
    ·rename_i t' hj;split at hp
     ·rename_i c hb;cases hw:VL want' c with
      |true=>
       rw[hw]at hp;dsimp only[Bo,cond]at hp;cases hv:a_ P s op with
       |none=>rw[hv]at hp;cases hp
       |some u=>rw[hv]at hp;cases hp
      |false=>rw[hw]at hp;cases hp
     ·rename_i c hb;have ht:=Wx hm.sl hb;cases hne:Nat.beq d' t' with
      |true=>rw[hne]at hp;cases hp
      |false=>
       rw[hne]at hp;dsimp only[Bo,cond]at hp;cases hv:a_ P (s.res t' want') op with
       |none=>rw[hv]at hp;cases hp
       |some u=>
        rw[hv]at hp;cases hp;cases hw:VL want bv with
        |true=>
         rw[hw]at hx;dsimp only[Bo,cond]at hx;obtain⟨x,hx,hk⟩:=bind_some hx;have hbw:bv=want:=by cases want<;>cases bv<;>simp_all [VL]
         subst hbw;obtain⟨h1,val,h2,h3⟩:=Q0 (hr.res ht) hv hx;refine WD.gx (v:=val) i hi hB hn hj ht hSw (λ_ w' _=>h2 w') (h ((s.res t bv).set dn (b.v x)) rfl _ ?_ hk);rw[pK F5];exact(hr.res ht).set (.put h1 h3)
        |false=>
         rw[hw]at hx;dsimp only[Bo,cond]at hx;have hbw:(bv==want)=false:=by rw[<-KL];exact hw
         refine WD.gx (v:=Go.undef) i hi hB hn hj ht hSw (λhg=>by rw[hbw]at hg;cases hg) (h ((s.res t bv).set dn .off) rfl _ ?_ hx);rw[Q8 hbw];exact(hr.res ht).set (show Hc σ dn Go.undef dn=Go.undef from Nf _ _ _)
     ·cases hp
theorem YQ{z:Array Bool}:∀{is:List Nat} {i:Nat} {v:Nat×TypeId×Nat×List Step},Wl n ops z listed s is=some (i,v)->∃o,ops[i]? =some o/\Dj ops (tw z) listed i=true/\mC n ops o s=some v
 |[],_,_,h=>by simp[Wl]at h
 |j::is,i,v,h=>by
  simp only[Wl]at h;split at h
  ·cases h
  ·rename_i o ho;split at h
   ·rename_i v' hp;cases ht:J6 ops (tw z) listed j with
    |true=>rw[ht,Lf]at h;cases h;exact⟨o,ho,zN ht,hp⟩
    |false=>rw[ht,Kh]at h;exact YQ h
   ·exact YQ h
theorem pS{d dn:Nat}{t:TypeId}{j:Nat}{p:List Step}{u:PV}{kk:PV->Option R}(hr:Rel Z s σs A L σ w)(hp:mD s d o=some (dn,t,j,p))(h:getRoot (Bp s.it j) p kk=some r):
  d=dn/\∃u,kk u=some r/\ (Ha P t u=true->u.isV=true/\∃val,(∀w',Ext Z s σs A L σ w w'->XO P σ w' o val)/\Cl (λb=>A b/\Z.R b) w L u val):=by
 have hm:=hr.mem;unfold mD at hp;split at hp
 ·rename_i t' x;split at hp
  ·rename_i i p' hx;split at hp
   ·cases hp
   ·rename_i hne;cases hp;obtain⟨md,b,h1,h2,h3⟩:=Mn (Bw hm.sl hx rfl);obtain⟨h4,_⟩:=hm.root h1 (λe=>hne e);obtain⟨u,c1,c2,c3,hk,he,h5,h6⟩:=uV h h4;refine⟨rfl,u,hk,λhb=>?_⟩;obtain⟨val,h7,h8⟩:=QA (P:=P) (σ:=σ) (x:=x) (b:=b) (off:=Ap p) (Ir hb) h6 h3;obtain⟨hv,hv'⟩:=Ex h7;refine⟨hv,val,λw' hext=>h8 w' λq hq=>?_,hv'⟩;obtain⟨A',L',it',ha,hr'⟩:=hext.ex;have h10:(L++L')[j]? =some md:=by rw[gA (List.getElem?_eq_some_iff.1 h1).1];exact h1
    rw[hr'.cells h10 h2 _ (by rw[he];simp;omega),he,iB F4,h5,show Ap p+q-Ap p=q by omega,gA hq]
  ·cases hp
 ·cases hp
theorem xq{S:World->Prop}{z:Array Bool}{fuel i dn j:Nat}{t:TypeId}{p:List Step}{o:Oper}{kk:PV->Option R}{K:Env->World->Prop}(hr:Rel Z s σs A L σ w)(hi:ops[i]? =some o)(hB:Dj ops (tw z) listed i=true)(hp:mC n ops o s=some (dn,t,j,p))(hg:getRoot (Bp s.it j) p kk=some r)(hSw:S w)
  (hS:∀w',S w'->Ext Z s σs A L σ w w') (hkk:∀u,kk u=some r->Ha P t u=true)
  (h:∀u σ',kk u=some r->Rel Z (s.set dn u) σs A L σ' w->WD P n ops S (tw z) fuel (listed.setIfInBounds i true) K σ' w):WD P n ops S (tw z) (fuel+1) listed K σ w:=by
 obtain⟨d,op,ty,pos,after,g⟩:=o;have hm:=hr.mem;unfold mC at hp;simp only at hp;split at hp
 ·cases hp
 ·rename_i d';cases hn:Nat.blt d' n with
  |false=>rw[hn]at hp;cases hp
  |true=>
   rw[hn]at hp;simp only[lE,jK]at hp;try dsimp only[Bo]at hp
   split at hp
   ·obtain⟨rfl,u,hk,hu⟩:=pS (P:=P) (u:= .undef) hr hp hg;obtain⟨h1,val,h2,h3⟩:=hu (hkk u hk);exact WD.x i hi hB hn hSw (λw' hw=>h2 w' (hS w' hw)) (h u _ hk (hr.set (.put h1 h3)))
   ·rename_i q want;split at hp
    ·cases hp
    ·rename_i t' hj;split at hp
     ·rename_i c hb;have ht:=cR hm.sl hb;cases hw:VL want c with
      |true=>
       rw[hw]at hp;dsimp only[Bo,cond]at hp;obtain⟨rfl,u,hk,hu⟩:=pS (P:=P) (u:= .undef) hr hp hg;obtain⟨h1,val,h2,h3⟩:=hu (hkk u hk);have hbw:(c==want)=true:=by rw[<-KL];exact hw
       refine WD.gx (v:=val) i hi hB hn hj ht hSw (λ_ w' hw=>h2 w' (hS w' hw)) (h u _ hk ?_);rw[pK hbw];exact hr.set (.put h1 h3)
      |false=>rw[hw]at hp;cases hp
     ·cases hp
theorem Ahv{i t:Nat}{b:Bool}(hr:Rel Z s σs A L σ w)(h:Q3 ops s i=some (t,b)):σ t= .bool b:=by
 unfold Q3 at h;split at h
 ·cases h
 ·split at h
  ·cases h
  ·split at h
   ·cases h
   ·split at h
    ·rename_i hb;cases h;exact Wx hr.mem.sl hb
    ·split at h
     ·rename_i hb;cases h;exact Wx hr.mem.sl hb
     ·cases h
    ·cases h
theorem VJ{fin:S->Option R}:∀{l:List Nat} {s:Go.Rx.S},Rel Z s σs A L σ w->JV ops l s fin=some r->∃s',Rel Z s' σs A L σ w/\s'.it=s.it/\fin s'=some r
 |[],s,hr,h=>⟨s,hr,rfl,h⟩
 |i::l,s,hr,h=>by
  rw[JV]at h;split at h
  ·rename_i t b hg;have ht:=Ahv hr hg;cases b with
   |true=>
    obtain⟨s',h1,h2,h3⟩:=VJ (l:=l) (hr.res ht) (by simpa using h);exact⟨s',h1,h2,h3⟩
   |false=>
    obtain⟨s',h1,h2,h3⟩:=VJ (l:=l) (hr.res ht) (by simpa using h);exact⟨s',h1,h2,h3⟩
  ·exact VJ (l:=l) hr h
theorem vP(hT:ON P T Z)(hI:Gz P T.gl inl):∀{fuel:Nat} {z0:Array Bool} {listed:Array Bool} {s:S} {A:Reg} {L:List MD} {σ:Env} {w:World} {S:World->Prop},Rel Z s σs A L σ w->AZ P T inl n mem ops fuel z0 listed s k=some r->
  (mem=true->Yy (tw z0) listed=true\/∀w',gL Z σs A L s.it w w'->S w')-> (mem=false->∀w',GS Z σs w'->S w')->
  WD P n ops S (tw z0) fuel listed (λσ' w'=>∃s' A' L',k s'=some r/\Rel Z s' σs A' L' σ' w') σ w:=by
 intro fuel
 induction fuel with
 |zero=>
  intro z0 listed s A L σ w S hr h hI1 hI2;unfold AZ at h;simp only[e!,xH,H9]at h;split at h
  ·rename_i hrd;exact WD.done hrd ⟨s,A,L,h,hr⟩
  ·cases h
 |succ fuel ih=>
  intro z0 listed s A L σ w S hr h hI1 hI2;unfold AZ at h;simp only[e!,xH,H9]at h;split at h
  ·rename_i hrd;exact WD.done hrd ⟨s,A,L,h,hr⟩
  ·rename_i i is hrd
   try simp only at h
   have rest:∀(z:Array Bool) (S:World->Prop) (s:Go.Rx.S),Rel Z s σs A L σ w-> (mem=true->∀w',gL Z σs A L s.it w w'->S w')-> (mem=false->∀w',GS Z σs w'->S w')->
     both (match ops[i]? with
        |some o=>Bo (mem&& !((wD T s o&&U1 ops s o)||(!tw z i&&Yy (tw z) (listed.setIfInBounds i true)))) (none)<|
         YS P T inl n ops o s λs'=>AZ P T inl n mem ops fuel z (listed.setIfInBounds i true) s' k
        |none=>none) (is.map λi=>match ops[i]? with
        |some o=>Bo (mem&& !((wD T s o&&U1 ops s o)||(!tw z i&&Yy (tw z) (listed.setIfInBounds i true)))) (none)<|
         YS P T inl n ops o s λs'=>AZ P T inl n mem ops fuel z (listed.setIfInBounds i true) s' k
        |none=>none)=some r->WD P n ops S (tw z) (fuel+1) listed (λσ' w'=>∃s' A' L',k s'=some r/\Rel Z s' σs A' L' σ' w') σ w:=by
    intro z S s hr hS1 hS2 h;obtain⟨h1,h2⟩:=B6 h;refine WD.steps hrd rfl ?_;intro q hq;have hone:(match ops[q]? with
       |some o=>Bo (mem&& !((wD T s o&&U1 ops s o)||(!tw z q&&Yy (tw z) (listed.setIfInBounds q true)))) (none)<|
        YS P T inl n ops o s λs'=>AZ P T inl n mem ops fuel z (listed.setIfInBounds q true) s' k
       |none=>none)=some r:=by
     rcases List.mem_cons.1 hq with rfl|hq
     ·exact h1
     ·exact h2 _ (List.mem_map_of_mem hq)
    split at hone
    ·rename_i o ho;refine⟨o,ho,?_⟩;cases hc:(mem&& !((wD T s o&&U1 ops s o)||(!tw z q&&Yy (tw z) (listed.setIfInBounds q true))))with
     |true=>rw[hc]at hone;cases hone
     |false=>
      rw[hc]at hone;dsimp only[Bo,cond]at hone;refine Uh (je hT hI hr hone) ?_;rintro σ' w' ⟨s',A',L',g1,g2,g3⟩;cases hmem:mem with
      |true=>
       subst hmem;simp only[iP,mU,iJ,fI,gQ]at hc;rcases hc with hc|⟨hc1,hc2⟩
       ·have g4:=g3 hc;refine⟨λ_=>hS1 rfl _ ⟨s',σ',A',L',g2,g4⟩,ih g2 g1 (λ_=> .inr λw'' hw=>?_) (λe=>by cases e)⟩;obtain⟨s2,σ2,A2,L2,h5,h6⟩:=hw;exact hS1 rfl _ ⟨s2,σ2,A2,L2,h5,g4.trans h6⟩
       ·refine⟨λhlt=>?_,ih g2 g1 (λ_=> .inl hc2) (λe=>by cases e)⟩;rw[hlt]at hc1;cases hc1
      |false=>
       subst hmem;exact⟨λ_=>hS2 rfl _ ⟨_,_,_,_,g2⟩,ih g2 g1 (λe=>by cases e) hS2⟩
    ·cases hone
   have main:∀(z:Array Bool) (S:World->Prop) (s:Go.Rx.S) (F:Option R),Rel Z s σs A L σ w-> (mem=true->∀w',gL Z σs A L s.it w w'->S w')-> (mem=false->∀w',GS Z σs w'->S w')-> (F=some r->WD P n ops S (tw z) (fuel+1) listed (λσ' w'=>∃s' A' L',k s'=some r/\Rel Z s' σs A' L' σ' w') σ w)->
     (match Lm P T n mem ops z listed s (i::is)with
      |some (i,d,v)=>AZ P T inl n mem ops fuel z (listed.setIfInBounds i true) (s.set d v) k
      |none=>match Qq P n ops z listed s (i::is)with
       |some (i,d, .on b)=>Option.bind b.E λx=>AZ P T inl n mem ops fuel z (listed.setIfInBounds i true) (s.set d (b.v x)) k
       |some (i,d, .ask t want bv b)=>if bv=true then
         (Bo (VL want true) (Option.bind b.E λx=>AZ P T inl n mem ops fuel z (listed.setIfInBounds i true) ((s.res t true).set d (b.v x)) k)<|AZ P T inl n mem ops fuel z (listed.setIfInBounds i true) ((s.res t true).set d .off) k)
         else(Bo (VL want false) (Option.bind b.E λx=>AZ P T inl n mem ops fuel z (listed.setIfInBounds i true) ((s.res t false).set d (b.v x)) k)<|AZ P T inl n mem ops fuel z (listed.setIfInBounds i true) ((s.res t false).set d .off) k)
       |none=>match(Bo (mem) (Wl n ops z listed s (i::is))<|none)with
       |some (i,d,t,j,p)=>getRoot (Bp s.it j) p λu=>Bo (Ha P t u) (AZ P T inl n mem ops fuel z (listed.setIfInBounds i true) (s.set d u) k)<|none
       |none=>F)=some r->WD P n ops S (tw z) (fuel+1) listed (λσ' w'=>∃s' A' L',k s'=some r/\Rel Z s' σs A' L' σ' w') σ w:=by
    intro z S s F hr hS1 hS2 hfin h;split at h
    ·rename_i i' d v hp;obtain⟨o,ho,hB,hp⟩:=KT hp;cases hmem:mem with
     |true=>
      subst hmem;refine WD.sF (S':=gL Z σs A L s.it w) (hS1 rfl) (jl hT hr ho hB hp (.refl hr) (λ_ w' hw=>hw.ext hr) (λw' hw=>(hw.ext hr).gs) λσ' hr'=>?_);exact ih hr' h (λ_=> .inr λw' hw=>hw) (λe=>by cases e)
     |false=>
      subst hmem;refine WD.sF (S':=GS Z σs) (hS2 rfl) (jl hT hr ho hB hp ⟨_,_,_,_,hr⟩ (λe=>by cases e) (λw' hw=>hw) λσ' hr'=>?_);exact ih hr' h (λe=>by cases e) (λ_ w' hw=>hw)
    ·split at h
     ·rename_i i' d b hp;obtain⟨o,ho,hB,hp⟩:=AM hp;obtain⟨x,hx,h⟩:=bind_some h;cases hmem:mem with
      |true=>
       subst hmem;refine WD.sF (S':=gL Z σs A L s.it w) (hS1 rfl) (h! hr ho hB hp hx (.refl hr) λσ' hr'=>?_);exact ih hr' h (λ_=> .inr λw' hw=>hw) (λe=>by cases e)
      |false=>
       subst hmem;refine h! hr ho hB hp hx (hS2 rfl _ ⟨_,_,_,_,hr⟩) λσ' hr'=>?_;exact ih hr' h (λe=>by cases e) hS2
     ·rename_i i' d t want bv b hp;obtain⟨o,ho,hB,hp⟩:=AM hp;have h:(Bo (VL want bv) (Option.bind b.E λx=>AZ P T inl n mem ops fuel z (listed.setIfInBounds i' true) ((s.res t bv).set d (b.v x)) k)<|AZ P T inl n mem ops fuel z (listed.setIfInBounds i' true) ((s.res t bv).set d .off) k)=some r:=by
       cases bv with
       |true=>simpa using h
       |false=>simpa using h
      cases hmem:mem with
      |true=>
       subst hmem;refine WD.sF (S':=gL Z σs A L s.it w) (hS1 rfl) (jw (X:=λs'=>AZ P T inl n true ops fuel z (listed.setIfInBounds i' true) s' k) hr ho hB hp (.refl hr) h λs' hs' σ' hr' h=>?_);exact ih hr' h (λ_=> .inr λw' hw=>hs'▸hw) (λe=>by cases e)
      |false=>
       subst hmem;refine jw (X:=λs'=>AZ P T inl n false ops fuel z (listed.setIfInBounds i' true) s' k) hr ho hB hp (hS2 rfl _ ⟨_,_,_,_,hr⟩) h λs' hs' σ' hr' h=>?_;exact ih hr' h (λe=>by cases e) hS2
     ·split at h
      ·rename_i i' d t j p hp;cases hmem:mem with
       |false=>rw[hmem]at hp;cases hp
       |true=>
        subst hmem;dsimp only[Bo,cond]at hp;obtain⟨o,ho,hB,hp⟩:=YQ hp;refine WD.sF (S':=gL Z σs A L s.it w) (hS1 rfl) (xq (P:=P) hr ho hB hp h (.refl hr) (λw' hw=>hw.ext hr) (λu hu=>(Ak hu).1) λu σ' hu hr'=>?_);exact ih hr' (Ak hu).2 (λ_=> .inr λw' hw=>hw) (λe=>by cases e)
      exact hfin h
   have all:∀(z:Array Bool) (S:World->Prop),(mem=true->∀w',gL Z σs A L s.it w w'->S w')-> (mem=false->∀w',GS Z σs w'->S w')->
     (match Lm P T n mem ops z listed s (i::is)with
      |some (i,d,v)=>AZ P T inl n mem ops fuel z (listed.setIfInBounds i true) (s.set d v) k
      |none=>match Qq P n ops z listed s (i::is)with
       |some (i,d, .on b)=>Option.bind b.E λx=>AZ P T inl n mem ops fuel z (listed.setIfInBounds i true) (s.set d (b.v x)) k
       |some (i,d, .ask t want bv b)=>if bv=true then
         (Bo (VL want true) (Option.bind b.E λx=>AZ P T inl n mem ops fuel z (listed.setIfInBounds i true) ((s.res t true).set d (b.v x)) k)<|AZ P T inl n mem ops fuel z (listed.setIfInBounds i true) ((s.res t true).set d .off) k)
         else(Bo (VL want false) (Option.bind b.E λx=>AZ P T inl n mem ops fuel z (listed.setIfInBounds i true) ((s.res t false).set d (b.v x)) k)<|AZ P T inl n mem ops fuel z (listed.setIfInBounds i true) ((s.res t false).set d .off) k)
       |none=>match(Bo (mem) (Wl n ops z listed s (i::is))<|none)with
       |some (i,d,t,j,p)=>getRoot (Bp s.it j) p λu=>Bo (Ha P t u) (AZ P T inl n mem ops fuel z (listed.setIfInBounds i true) (s.set d u) k)<|none
       |none=>(λs=>Bo mem (JV ops ((i::is)++(i::is)) s λs=>(match Lm P T n mem ops z listed s (i::is)with
      |some (i,d,v)=>AZ P T inl n mem ops fuel z (listed.setIfInBounds i true) (s.set d v) k
      |none=>match Qq P n ops z listed s (i::is)with
       |some (i,d, .on b)=>Option.bind b.E λx=>AZ P T inl n mem ops fuel z (listed.setIfInBounds i true) (s.set d (b.v x)) k
       |some (i,d, .ask t want bv b)=>if bv=true then
         (Bo (VL want true) (Option.bind b.E λx=>AZ P T inl n mem ops fuel z (listed.setIfInBounds i true) ((s.res t true).set d (b.v x)) k)<|AZ P T inl n mem ops fuel z (listed.setIfInBounds i true) ((s.res t true).set d .off) k)
         else(Bo (VL want false) (Option.bind b.E λx=>AZ P T inl n mem ops fuel z (listed.setIfInBounds i true) ((s.res t false).set d (b.v x)) k)<|AZ P T inl n mem ops fuel z (listed.setIfInBounds i true) ((s.res t false).set d .off) k)
       |none=>match(Bo (mem) (Wl n ops z listed s (i::is))<|none)with
       |some (i,d,t,j,p)=>getRoot (Bp s.it j) p λu=>Bo (Ha P t u) (AZ P T inl n mem ops fuel z (listed.setIfInBounds i true) (s.set d u) k)<|none
       |none=>both (match ops[i]? with
        |some o=>Bo (mem&& !((wD T s o&&U1 ops s o)||(!tw z i&&Yy (tw z) (listed.setIfInBounds i true)))) (none)<|
         YS P T inl n ops o s λs'=>AZ P T inl n mem ops fuel z (listed.setIfInBounds i true) s' k
        |none=>none) (is.map λi=>match ops[i]? with
        |some o=>Bo (mem&& !((wD T s o&&U1 ops s o)||(!tw z i&&Yy (tw z) (listed.setIfInBounds i true)))) (none)<|
         YS P T inl n ops o s λs'=>AZ P T inl n mem ops fuel z (listed.setIfInBounds i true) s' k
        |none=>none)))<|both (match ops[i]? with
        |some o=>Bo (mem&& !((wD T s o&&U1 ops s o)||(!tw z i&&Yy (tw z) (listed.setIfInBounds i true)))) (none)<|
         YS P T inl n ops o s λs'=>AZ P T inl n mem ops fuel z (listed.setIfInBounds i true) s' k
        |none=>none) (is.map λi=>match ops[i]? with
        |some o=>Bo (mem&& !((wD T s o&&U1 ops s o)||(!tw z i&&Yy (tw z) (listed.setIfInBounds i true)))) (none)<|
         YS P T inl n ops o s λs'=>AZ P T inl n mem ops fuel z (listed.setIfInBounds i true) s' k
        |none=>none)) s)=some r->WD P n ops S (tw z) (fuel+1) listed (λσ' w'=>∃s' A' L',k s'=some r/\Rel Z s' σs A' L' σ' w') σ w:=by
    intro z S hS1 hS2 h;refine main z S s _ hr hS1 hS2 (λhF=>?_) h;clear h;cases hmem:mem with
    |false=>
     simp only[hmem,Bo]at hF;subst hmem;exact rest z S s hr hS1 hS2 hF
    |true=>
     simp only[hmem,Bo]at hF;subst hmem;obtain⟨s',hr',hit,h'⟩:=VJ hr hF;refine main z S s' _ hr' (by rw[hit];exact hS1) hS2 (λhG=>?_) h';exact rest z S s' hr' (by rw[hit];exact hS1) hS2 hG
   cases hz:(mem&&Yy (tw z0) listed)with
   |true=>
    rw[hz]at h;simp only[fI]at hz;obtain⟨hm,hov⟩:=hz;subst hm;exact WD.next (S':=gL Z σs A L s.it w) _ hov (all _ _ (λ_ w' hw=>hw) (λe=>by cases e) h)
   |false=>
    rw[hz]at h;refine all _ _ (λhm=>?_) hI2 h;subst hm;rcases hI1 rfl with h1|h1
    ·rw[h1]at hz;cases hz
    ·exact h1
end Go.Rx
namespace Go.Rx
open Go Go.Lv
variable{p:PV}
variable {P:Program} {B B':Reg} {w w':World} {L L':List MD} {s:S} {σs:List Env} {σ:Env} {Z:Fix} {A A':Reg} {n:Nat} {ops:Array Oper}
variable {R:Type} {k:S->Option R} {r:R}
def qF(w:World)(A:Reg)(L:List Mob)(os:Nat->Option Nat):Prop:=
 (∀(i:Nat) (m:Mob),L[i]? =some m->m.holds (os i) w/\∀b,os i=some b-> ¬A b/\b<w.heap.size)/\∀i j b,i<L.length->j<L.length->i≠j->os i=some b->os j≠some b
theorem Bs.toI:∀{L:List Mob} {A:Reg},Bs w A L->∃os,qF w A L os
 |[],A,_=>⟨λ_=>none,λi m h=>by simp at h,λi j b h=>by simp at h⟩
 |m::L,A,⟨o,h1,h2,h3⟩=>by
  obtain⟨os,g1,g2⟩:=Bs.toI h3;refine⟨λi=>match i with|0=>o|i+1=>os i,λi m' h=>?_,λi j b hi hj hij h=>?_⟩
  ·cases i with
   |zero=>simp at h;subst h;exact⟨h1,h2⟩
   |succ i=>
    obtain⟨g3,g4⟩:=g1 i m' (by simpa using h);exact⟨g3,λb hb=>⟨λhA=>(g4 b hb).1 (.inl hA),(g4 b hb).2⟩⟩
  ·have key:∀q,q<L.length->∀b,os q=some b->o≠some b:=λq hq b hb ho=>by
    exact((g1 q L[q] (by simp[hq])).2 b hb).1 (.inr ho)
   cases i with
   |zero=>
    cases j with
    |zero=>exact absurd rfl hij
    |succ j=>intro hb;exact key j (by simpa using hj) b hb h
   |succ i=>
    cases j with
    |zero=>exact key i (by simpa using hi) b h
    |succ j=>exact g2 i j b (by simpa using hi) (by simpa using hj) F4 h
theorem Bs.ofI:∀{L:List Mob} {A:Reg} {os:Nat->Option Nat},qF w A L os->Bs w A L
 |[],_,_,_=>trivial
 |m::L,A,os,⟨g1,g2⟩=>by
  obtain⟨h1,h2⟩:=g1 0 m rfl;refine⟨os 0,h1,h2,Bs.ofI (os:=λi=>os (i+1)) ⟨λi m' h=>?_,λi j b hi hj hij h=>?_⟩⟩
  ·obtain⟨g3,g4⟩:=g1 (i+1) m' (by simpa using h);refine⟨g3,λb hb=>⟨λhA=>?_,(g4 b hb).2⟩⟩;rcases hA with hA|hA
   ·exact(g4 b hb).1 hA
   ·have hlt:i<L.length:=(List.getElem?_eq_some_iff.1 h).1;exact g2 0 (i+1) b F5 (by simpa using hlt) F4 hA hb
  ·exact g2 (i+1) (j+1) b (by simpa using hi) (by simpa using hj) F4 h
def distinct:List Nat->Bool|[]=>true|i::r=>!Ms i r&&distinct r
theorem cV:∀{l:List Nat} {i j q:Nat},distinct l=true->l[i]? =some q->l[j]? =some q->i=j
 |[],_,_,_,_,h,_=>by simp at h
 |a::l,i,j,q,hd,hi,hj=>by
  simp only[distinct,fI,gQ]at hd;have hn:a∉l:=λh=>by have:=Oq.2 h;rw[hd.1]at this;cases this
  cases i with
  |zero=>
   cases j with
   |zero=>rfl
   |succ j=>simp at hi hj;subst hi;exact absurd (iK hj) hn
  |succ i=>
   cases j with
   |zero=>simp at hi hj;subst hj;exact absurd (iK hi) hn
   |succ j=>exact congrArg (· +1) (cV (q:=q) hd.2 (by simpa using hi) (by simpa using hj))
theorem YX{w:World}:MD.dead.Cy.holds none w:=⟨none,0,0,rfl,F5,fQ _,λ_=>rfl,λ_=>rfl,λb h=>by cases h⟩
theorem getD_some{i:Nat}{md:MD}(h:L[i]? =some md):L.getD i .dead=md:=by simp[gS,h]
theorem getD_none{i:Nat}(h:L[i]? =none):L.getD i .dead= .dead:=by simp[gS,h]
def O7(o:List Nat)(L:List MD)(os:Nat->Option Nat)(j:Nat):Option Nat:=match o[j]? with|some i=>(match L[i]? with|some _=>os i|none=>none)|none=>none
theorem YH{o:List Nat}{os:Nat->Option Nat}{i j:Nat}{md:MD}(h:o[j]? =some i)(hL:L[i]? =some md):O7 o L os j=os i:=by unfold O7;rw[h];simp only[hL]
theorem aH{o:List Nat}{os:Nat->Option Nat}{i j:Nat}(h:o[j]? =some i)(hL:L[i]? =none):O7 o L os j=none:=by unfold O7;rw[h];simp only[hL]
theorem wW{o:List Nat}(h:Bs w A (L.map MD.Cy))(hd:distinct o=true):Bs w A ((o.map λi=>L.getD i .dead).map MD.Cy):=by
 obtain⟨os,g1,g2⟩:=Bs.toI h;refine Bs.ofI (os:=O7 o L os) ⟨λj m hm=>?_,λi j b hi hj hij hb=>?_⟩
 ·simp only[List.map_map,iS,lG,Function.comp]at hm;obtain⟨i,hi,rfl⟩:=hm;cases hL:L[i]? with
  |none=>rw[getD_none hL,aH hi hL];exact⟨YX,λb hb=>by cases hb⟩
  |some md=>rw[getD_some hL,YH hi hL];exact g1 i md.Cy (by simp[hL])
 ·simp only[List.length_map]at hi hj;have e1:o[i]? =some o[i]:=by simp[hi]
  have e2:o[j]? =some o[j]:=by simp[hj]
  have hne:o[i]≠o[j]:=λe=>hij (cV hd e1 (by rw[e2,e]));cases hL1:L[o[i]]? with
  |none=>rw[aH e1 hL1]at hb;cases hb
  |some m1=>
   rw[YH e1 hL1]at hb;cases hL2:L[o[j]]? with
   |none=>rw[aH e2 hL2];simp
   |some m2=>
    rw[YH e2 hL2];exact g2 _ _ b (by simpa using(List.getElem?_eq_some_iff.1 hL1).1) (by simpa using(List.getElem?_eq_some_iff.1 hL2).1) hne hb
theorem O5{i:Nat}:∀{o:List Nat} {m j:Nat},posOf i o m=some j->∃q,j=m+q/\o[q]? =some i
 |[],_,_,h=>by simp[posOf]at h
 |a::o,m,j,h=>by
  simp only[posOf]at h;cases hb:Nat.beq i a with
  |true=>rw[hb]at h;cases h;exact⟨0,rfl,by simp[Bb hb]⟩
  |false=>
   rw[hb]at h;obtain⟨q,h1,h2⟩:=O5 (o:=o) h;exact⟨q+1,F4,by simpa using h2⟩
theorem VM{o:List Nat}{i j:Nat}{md:MD}(h:posOf i o 0=some j)(hL:L[i]? =some md):(o.map λi=>L.getD i .dead)[j]? =some md:=by
 obtain⟨q,h1,h2⟩:=O5 h;rw[gV]at h1;subst h1;simp[h2,gS,hL]
theorem Z9{o:List Nat}:(nI o p).isA=p.isA:=by
 cases p<;>try rfl
 ·simp only[nI];split<;>rfl
 ·simp only[nI];split<;>rfl
 ·simp only[nI];split<;>rfl
 ·simp only[nI];split<;>rfl
abbrev WA(L:List MD):Prop:=L.all (λm=>match m with| .own _ _ v _=>v.oneCell'|_=>true)=true
mutual
theorem cC{o:List Nat}(h1:WA L):∀{p:PV} {cs:List Value},As B w L p cs->As B w (o.map λi=>L.getD i .dead) (nI o p) cs
 | .val _ x,cs,h=>h
 | .agg q,cs,h=>O3 h1 (show As.go B w L q cs from h)
 | .tup _,_,h=>h.elim
 | .nils,cs,h=>h
 | .own j,cs,⟨z,E,v,c,g1,g2⟩=>by
  simp only[nI];split
  ·rename_i j' hj;exact⟨z,E,v,c,VM hj g1,g2⟩
  ·exact⟨v,g2,List.all_eq_true.1 h1 _ (iK g1)⟩
 | .ptr j q,cs,⟨md,b,g1,g2,g3⟩=>by
  simp only[nI];split
  ·rename_i j' hj;exact⟨md,b,VM hj g1,g2,g3⟩
  ·exact⟨_,g3,rfl⟩
 | .view u j p e lo n,cs,⟨md,v,g1,g2,g3⟩=>by
  simp only[nI];split
  ·rename_i j' hj;exact⟨md,v,VM hj g1,g2,g3⟩
  ·obtain⟨_,_,⟨pt,cap,e',_⟩,_⟩:=g3;exact⟨v,g2,by rw[e'];rfl⟩
 | .wp j,cs,h=>by
  simp only[nI];split
  ·rename_i j' hj;rcases h with h|⟨md,b,g1,g2,g3⟩
   ·exact .inl h
   ·exact .inr ⟨md,b,VM hj g1,g2,g3⟩
  ·rcases h with h|⟨md,b,g1,g2,g3⟩
   ·exact⟨_,h,rfl⟩
   ·exact⟨_,g3,rfl⟩
 | .rptr v,cs,⟨pv,c0,g1,g2,g3⟩=>⟨pv,c0,g1,g2,cC h1 g3⟩
 | .fn f caps,cs,⟨vs,g1,g2⟩=>⟨vs,g1,OU h1 g2⟩
 | .cap _ _ _,cs,h=>h
 | .bfn f fs,cs,⟨vs,g1,g2⟩=>⟨vs,g1,OU h1 g2⟩
 | .mp st ks l,cs,⟨r,es,n,g1,g2,g3,g4,g5⟩=>⟨r,es,n,g1,g2,g3,g4,OU h1 g5⟩
 | .cst v,cs,h=>h
 | .any,cs,h=>h
 | .gd _ _ _,_,h=>h.elim
 | .off,_,h=>h.elim
 | .undef,_,h=>h.elim
theorem O3{o:List Nat}(h1:WA L):∀{q:List PV} {cs:List Value},As.go B w L q cs->As.go B w (o.map λi=>L.getD i .dead) (nI.go o q) cs
 |[],cs,h=>h
 |a::q,cs,⟨c1,c2,e',g1,g2⟩=>⟨c1,c2,e',cC h1 g1,O3 h1 g2⟩
theorem OU{o:List Nat}(h1:WA L):∀{q:List PV} {vs:List Value},Cr B w L q vs->Cr B w (o.map λi=>L.getD i .dead) (nI.go o q) vs
 |[],vs,h=>h
 |a::q,vs,⟨v,vs',e',g1,g2⟩=>⟨v,vs',e',by rw[Z9];exact g1.mono λc h=>cC h1 h,OU h1 g2⟩
end
theorem N5{o:List Nat}(h1:WA L){v:Value}(h:Cl B w L p v):Cl B w (o.map λi=>L.getD i .dead) (nI o p) v:=by
 cases hp:p.D2 with
 |true=>
  have h2:Ea B w (o.map λi=>L.getD i .dead) (nI o p) v:=by
   unfold Ea;rw[Z9];exact P0.mono (λc h=>cC h1 h) ((CW hp).1 h)
  exact(Ex h2).2
 |false=>
  cases p
  case tup q=>obtain⟨vs,g1,g2⟩:=h;exact⟨vs,g1,OU h1 g2⟩
  case undef=>exact(show False from h).elim
  case off=>exact(show False from h).elim
  case gd=>exact(show False from h).elim
  all_goals cases hp
theorem Agc{o:List Nat}(h1:WA L){t:Nat}(h:Du B w L σ t p):Du B w (o.map λi=>L.getD i .dead) σ t (nI o p):=by
 cases hv:p.isV with
 |true=>
  have g1:=N5 (o:=o) h1 ((Du.iff hv).1 h);have g2:(nI o p).isV=true:=by
   cases p<;>first|rfl|cases hv|skip
   ·simp only[nI];split<;>rfl
   ·simp only[nI];split<;>rfl
   ·simp only[nI];split<;>rfl
   ·simp only[nI];split<;>rfl
  exact(Du.iff g2).2 g1
 |false=>
  rcases Lk hv with rfl|rfl|⟨j,u,q,rfl⟩
  ·exact trivial
  ·exact h
  ·obtain⟨b,g1,g2,g3⟩:=h;exact⟨b,g1,λe=>N5 h1 (g2 e),g3⟩
theorem tL{o:List Nat}(h1:WA L){sl:Slots}(h:Dh B w L σ sl):Dh B w (o.map λi=>L.getD i .dead) σ (ny o sl):=by
 intro p hp;obtain⟨q,hq,rfl⟩:=List.mem_map.1 hp;exact Agc h1 (h q hq)
theorem tV{o:List Nat}(h1:WA L):∀{σs:List Env} {st:List Slots},JJ B w L σs st->JJ B w (o.map λi=>L.getD i .dead) σs (st.map (ny o))
 |[],[],h=>h
 |_::_,_::_,⟨g1,g2⟩=>⟨tL h1 g1,tV h1 g2⟩
theorem xS{o:List Nat}(h1:WA L){a:Item}{md:MD}(h:Mx B w L a md):Mx B w (o.map λi=>L.getD i .dead) (pz o a) md:=by
 cases a<;>cases md<;>first
  |exact h
  |exact⟨h.1,cC h1 h.2⟩
theorem IC{sl:Slots}(h:Dh B w L σ sl):∀(lv:List Nat),Dh B w L σ (XU sl lv)
 |[]=>λp hp=>by simp[XU]at hp
 |t::lv=>by
  intro p hp;simp only[XU]at hp;split at hp
  ·exact IC h lv p hp
  ·exact IC h lv p hp
  ·exact IC h lv p hp
  ·rcases List.mem_cons.1 hp with rfl|hp
   ·exact Hg (s:=⟨sl,[],[]⟩) (t:=t) h
   ·exact IC h lv p hp
theorem XP:∀{l:List Nat} {i:Nat},distinct l=true->Ms i l=false->distinct (l++[i])=true
 |[],_,_,_=>rfl
 |a::l,i,hd,hi=>by
  simp only[distinct,fI,gQ]at hd;simp only[Ms,lJ]at hi;simp only[lT,distinct,fI,gQ];refine⟨?_,XP hd.2 hi.2⟩;cases hx:Ms a (l++[i])with
  |false=>rfl
  |true=>
   rcases List.mem_append.1 (Oq.1 hx)with h|h
   ·have:=Oq.2 h;rw[hd.1]at this;cases this
   ·simp at h;subst h;simp at hi
theorem Ya{it:List Item}:∀(q:Nat) (todo seen:List Nat),distinct seen=true->distinct (reach it q todo seen)=true
 |0,_,_,h=>h
 |_+1,[],_,h=>h
 |q+1,i::todo,seen,h=>by
  simp only[reach];cases he:Ms i seen with
  |true=>exact Ya q _ _ h
  |false=>exact Ya q _ _ (XP h he)
theorem Y!(hr:Rel Z s σs A L σ w)(lv:List Nat):∃L',Rel Z (s.canon lv) σs A L' σ w:=by
 have hm:=hr.mem;have h1:WA L:=hr.WA;unfold S.canon;simp only;generalize ho:reach s.it 200 (D9 (XU s.sl lv)++(s.st.map D9).flatten) []=o;have hd:distinct o=true:=by rw[<-ho];exact Ya _ _ _ rfl
 refine⟨o.map λi=>L.getD i .dead,?_⟩;have hst:St A w [fD Z.R L s σs σ, .old Z.M Z.w0] ((o.map λi=>L.getD i .dead).map MD.Cy):=⟨St.lt hr,St.facts hr,wW (St.mobs hr) hd⟩;refine Rel.as hst (i:=1) rfl ⟨⟨F5,λj a m g1 g2=>?_⟩,tL h1 (IC hm.sl lv),tV h1 hm.stk⟩ rfl;simp only[iS,lG]at g1 g2;obtain⟨i,g3,rfl⟩:=g1;obtain⟨i',g4,rfl⟩:=g2;rw[g3]at g4;cases g4;cases hi:Bp s.it i with
 |dead=>exact trivial
 |box T v=>
  obtain⟨md,g5,g6⟩:=hm.item hi (by intro e;cases e);rw[getD_some g5];exact xS h1 g6
 |arr E e l=>
  obtain⟨md,g5,g6⟩:=hm.item hi (by intro e;cases e);rw[getD_some g5];exact xS h1 g6
theorem fX:∀{p:List Nat} {v u:PV} {cs:List Value},atV v p=some u->As B w L v cs-> (∃c,As B w L u c)/\∀(B':Reg) (w':World) (L':List MD) (m v':PV),(∀q c,As B w L q c->As B' w' L' q c)-> (∀c,As B w L u c->As B' w' L' m c)->m.isA=u.isA->N1 m v p=some v'->As B' w' L' v' cs/\v'.isA=v.isA
 |[],v,u,cs,h,hv=>by
  simp only[atV,fR]at h;subst h;refine⟨⟨cs,hv⟩,λB' w' L' m v' _ hm hA hp=>?_⟩;simp only[N1,fR]at hp;subst hp;exact⟨hm _ hv,hA⟩
 |i::p,v,u,cs,h,hv=>by
  cases v<;>simp only[atV,reduceCtorEq]at h;rename_i l;split at h
  ·rename_i f hf;obtain⟨c1,c2,c3,e,h1,h2,h3⟩:=As.field (show As.go B w L l cs from hv) hf;obtain⟨g1,g2⟩:=fX h h2;refine⟨g1,λB' w' L' m v' hq hm hA hp=>?_⟩;simp only[N1,hf]at hp;split at hp
   ·rename_i f' hf';cases hp;obtain⟨g3,_⟩:=g2 B' w' L' m f' hq hm hA hf';refine⟨?_,rfl⟩;have hl:As.go B' w' L' l cs:=show As B' w' L' (.agg l) cs from hq _ _ hv;obtain⟨d1,d2,d3,e',k1,k2,k3⟩:=As.field hl hf;have:d2=c2:=by
     have l1:d1.length=c1.length:=k1.trans h1.symm;have l2:d2.length=c2.length:=k2.len.trans h2.len.symm;rw[e]at e';obtain⟨e1,e2⟩:=List.append_inj e' l1.symm;obtain⟨e3,_⟩:=List.append_inj e2 l2.symm;exact e3.symm
    rw[e'];exact k3 _ _ (by rw[this];exact g3)
   ·cases hp
  ·cases h
theorem G1(hr:Rel Z s σs A L σ w)(E:TypeId)(e:ET):Rel Z (s.add (.arr E e [])) σs A (L++[.own e.size E (.slice none 0 0) []]) σ w:=
 Rel.push (a:= .arr E e []) (md:= .own e.size E (.slice none 0 0) []) (St.zW hr e.size E) ⟨rfl,rfl,rfl⟩
theorem ZH{i b:Nat}{T:TypeId}{v':PV}{cells:List Value}(hr:Rel Z s σs A L σ w)(hL:L[i]? =some (.box b cells T))(hv:As (λb=>A b/\Z.R b) w L v' cells):Rel Z (s.Hc i (.box T v')) σs A L σ w:=by
 have hm:=hr.mem;refine Rel.as hr (i:=1) rfl ⟨⟨by simp[S.Hc,Wv,hm.it.1],λj a m h1 h2=>?_⟩,hm.sl,hm.stk⟩ rfl;simp only[S.Hc]at h1;rcases Wu h1 with⟨rfl,rfl⟩|⟨_,h4⟩
 ·rw[hL]at h2;cases h2;exact⟨rfl,hv⟩
 ·exact hm.it.2 j a m h4 h2
theorem H5{t:Nat}{m:PV}:∀{sl:Slots} {q:Nat} {v:PV},(q,v)∈U5 t m sl-> (q,v)∈sl\/ (q=t/\v=m)
 |[],_,_,h=>by simp[U5]at h
 |(q',v')::r,q,v,h=>by
  simp only[U5]at h;cases hb:Nat.beq q' t with
  |true=>
   rw[hb]at h;rcases List.mem_cons.1 h with h|h
   ·cases h;exact .inr ⟨Bb hb,rfl⟩
   ·exact .inl (.tail _ h)
  |false=>
   rw[hb]at h;rcases List.mem_cons.1 h with h|h
   ·cases h;exact .inl (.head _)
   ·exact(H5 h).imp (.tail _) id
theorem sR{t:Nat}{m:PV}(hr:Rel Z s σs A L σ w)(hm:Du (λb=>A b/\Z.R b) w L σ t m):Rel Z ⟨U5 t m s.sl,s.it,s.st⟩ σs A L σ w:=by
 refine hr.wZ rfl rfl ?_;rintro⟨q,v⟩ hp;rcases H5 hp with h|⟨rfl,rfl⟩
 ·exact hr.mem.sl _ h
 ·exact hm
theorem N8{e:ET}{c:List Value}(h:As B w L .nils c):As B w L (.val (.list e) []) c:=⟨_,[],show c=_ from h,Rd.nil,rfl⟩
theorem d? {a:At}{s':S}(hr:Rel Z s σs A L σ w)(h:nK s a=some s'):∃A' L',Rel Z s' σs A' L' σ w:=by
 have hm:=hr.mem;unfold nK at h;simp only at h;split at h
 ·
  unfold ql at h;split at h
  ·rename_i i q hsl;split at h
   ·rename_i T v hi;obtain⟨b,cells,hL,hv⟩:=hm.box hi;split at h
    ·rename_i hu;split at h
     ·rename_i v' hv';cases h;obtain⟨_,g⟩:=fX hu hv;obtain⟨g1,_⟩:=g (λb=>A b/\Z.R b) w L (.wp i) v' (λq c h=>h) (λc hc=> .inl (show c=_/\ _ from hc).1) rfl hv';exact⟨_,_,ZH hr hL g1⟩
     ·cases h
    ·cases h;exact⟨A,L,hr⟩
    ·cases h
   ·cases h
  ·cases h
 split at h
 ·
  rename_i i q hsl;split at h
  ·rename_i T v hi;split at h
   ·rename_i u hu;obtain⟨b,cells,hL,hv⟩:=hm.box hi;split at h
    ·rename_i E e _;split at h
     ·rename_i v' hv';cases h;obtain⟨_,g⟩:=fX hu hv;have hr2:=G1 hr E e;have hL2:(L++[.own e.size E (.slice none 0 0) []])[i]? =some (.box b cells T):=by rw[gA (List.getElem?_eq_some_iff.1 hL).1];exact hL
      obtain⟨g1,_⟩:=g (λb=>A b/\Z.R b) w (L++[.own e.size E (.slice none 0 0) []]) (.own s.new) v' (λq c h=>As.step (λ_ h=>h) (λ_ _=>rfl) (AW.append _ _) h)
       (λc hc=>⟨e.size,E,_,[],by rw[S.new,hr.len];simp,hc⟩) rfl hv'
      exact⟨_,_,ZH hr2 hL2 g1⟩
     ·cases h
    ·cases h;exact⟨A,L,hr⟩
    ·rename_i e _;split at h
     ·rename_i v' hv';cases h;obtain⟨_,g⟩:=fX hu hv;obtain⟨g1,_⟩:=g (λb=>A b/\Z.R b) w L (.val (.list e) []) v' (λq c h=>h) (λc hc=>N8 hc) rfl hv';exact⟨_,_,ZH hr hL g1⟩
     ·cases h
    ·obtain⟨A',h1,_⟩:=YP hr h;exact⟨A',_,h1⟩
    ·cases h;exact⟨A,L,hr⟩
    ·cases h
   ·cases h
  ·cases h
 split at h
 ·
  rename_i o i p e1 lo n hsl;split at h
  ·rename_i E e _ _;obtain⟨hb,h⟩:=Ak h;split at h
   ·rename_i s1 j h1;cases h;have hx:Cm s.sl (.tmp a.t)= .view o i p e1 lo n:=by simp only[Cm,hsl]
    obtain⟨L1,hr1,c0,hL⟩:=M7 (x:= .tmp a.t) hr (by simpa [Nat.blt_eq]using hb) (by rw[hx];rfl) (by rw[hx];exact h1);exact⟨_,_,sR hr1 ⟨_,_,_,_,hL,rfl⟩⟩
   ·cases h
  ·cases h
 ·
  split at h
  ·rename_i u hu;have hsl:=Hg (t:=a.t) hm.sl;have qO:∀(B':Reg) (L':List MD) (m v':PV),(∀q c,As (λb=>A b/\Z.R b) w L q c->As B' w L' q c)-> (∀c,As (λb=>A b/\Z.R b) w L u c->As B' w L' m c)->m.isA=u.isA->u= .nils->N1 m (Np s.sl a.t) a.p=some v'->Du B' w L' σ a.t v':=by
    intro B' L' m v' hq hmu hA hun hp;have hP:(Np s.sl a.t).D2=true:=by
     revert hu
     generalize Np s.sl a.t=x;generalize a.p=pp;intro hu;cases pp with
     |nil=>simp only[atV,fR]at hu;rw[hu,hun];rfl
     |cons _ _=>cases x<;>first|rfl|simp[atV]at hu
    have hE:Ea (λb=>A b/\Z.R b) w L (Np s.sl a.t) (σ a.t):=(CW hP).1 ((Du.iff (PV.xJ hP)).1 hsl);have key:Ea B' w L' v' (σ a.t):=by
     unfold Ea P0 at hE;split at hE
     ·rename_i hA';obtain⟨cs,e1,hc⟩:=hE;obtain⟨_,g⟩:=fX hu hc;obtain⟨g1,g2⟩:=g B' w L' m v' hq hmu hA hp;unfold Ea;rw[g2,hA'];exact⟨cs,e1,g1⟩
     ·rename_i hA';obtain⟨_,g⟩:=fX hu hE;obtain⟨g1,g2⟩:=g B' w L' m v' hq hmu hA hp;unfold Ea;rw[g2,hA'];exact g1
    obtain⟨k1,k2⟩:=Ex key;exact(Du.iff k1).2 k2
   split at h
   ·rename_i E e _;split at h
    ·rename_i v' hv';cases h;have hr2:=G1 hr E e;exact⟨_,_,sR (s:=s.add (.arr E e [])) hr2 (qO _ _ (.own s.new) v' (λq c h=>As.step (λ_ h=>h) (λ_ _=>rfl) (AW.append _ _) h) (λc hc=>⟨e.size,E,_,[],by rw[S.new,hr.len];simp,hc⟩) rfl rfl hv')⟩
    ·cases h
   ·cases h;exact⟨A,L,hr⟩
   ·rename_i e _;split at h
    ·rename_i v' hv';cases h;exact⟨_,_,sR hr (qO _ _ (.val (.list e) []) v' (λq c h=>h) (λc hc=>N8 hc) rfl rfl hv')⟩
    ·cases h
   ·obtain⟨A',h1,_⟩:=YP hr h;exact⟨A',_,h1⟩
   ·cases h;exact⟨A,L,hr⟩
   ·cases h
  ·cases h
theorem jf:∀{l:List At} {s s':S} {A:Reg} {L:List MD},Rel Z s σs A L σ w->L_ s l=some s'->∃A' L',Rel Z s' σs A' L' σ w
 |[],s,s',A,L,hr,h=>by simp only[L_,fR]at h;subst h;exact⟨A,L,hr⟩
 |a::l,s,s',A,L,hr,h=>by
  simp only[L_]at h;split at h
  ·rename_i s1 h1;obtain⟨A1,L1,hr1⟩:=d? hr h1;exact jf hr1 h
  ·cases h
theorem WZ{lv:List Nat}{co:List At}{s':S}(hr:Rel Z s σs A L σ w)(h:s.cn lv co=some s'):∃A' L',Rel Z s' σs A' L' σ w:=by
 unfold S.cn at h;split at h
 ·rename_i s1 h1;cases h;obtain⟨A1,L1,hr1⟩:=jf hr h1;obtain⟨L',hr2⟩:=Y! hr1 lv;exact⟨A1,L',hr2⟩
 ·cases h
end Go.Rx
namespace Go.Rx
open Go Go.Lv
variable {P:Program} {B B':Reg} {w w':World} {L L':List MD} {s:S} {σs:List Env} {σ:Env} {Z:Fix} {A A':Reg} {n:Nat} {ops:Array Oper}
variable {R:Type} {r:R} {T:Tab} {inl:KI R}
def kof(k:K R):Exit->S->Option R
 | .normal=>k.n| .exit id=>k.x id| .ret=>k.r|_=>λ_=>none
def QK(Z:Fix)(σs:List Env)(k:K R)(r:R)(e:Exit)(σ':Env)(w':World):Prop:=∃s' A' L',kof k e s'=some r/\Rel Z s' σs A' L' σ' w'
theorem Z8(an:An){gl:List (Nat×List Value)}(hI:Gz P gl inl):Gz P gl (D3 an inl):=by
 unfold D3;split
 ·intro Z hZ f as s k r σs A L σ w vs h hr ha;exact hI Z hZ f as _ k r σs A L σ w vs h (hr.wZ rfl rfl (IC hr.mem.sl _)) ha
 ·exact hI
theorem cJ(Ry:P.follows .mixedOrders=true)(hT:ON P T Z)(hI:Gz P T.gl inl):∀(c:Code) {an:An} {k:K R} {s:S} {A:Reg} {L:List MD} {σ:Env} {w:World},ex P T inl n c an k s=some r->Rel Z s σs A L σ w->W P n c (QK Z σs k r) σ w:=by
 intro c
 induction c with
 |skip=>intro an k s A L σ w h hr;exact W.skip ⟨s,A,L,h,hr⟩
 |ret=>intro an k s A L σ w h hr;exact W.ret ⟨s,A,L,h,hr⟩
 |exit id=>intro an k s A L σ w h hr;exact W.exit ⟨s,A,L,h,hr⟩
 |seq a b iha ihb=>
  intro an k s A L σ w h hr;refine W.seq (W.mono (iha (an:=an.l) (k:={k with n:=uE an λs'=>ex P T inl n b an.r k s'}) h hr) ?_);rintro e σ' w' ⟨s',A',L',h1,hr'⟩;cases e with
  |normal=>
   have h2:uE an (λs'=>ex P T inl n b an.r k s') s'=some r:=h1;unfold uE at h2;split at h2
   ·split at h2
    ·rename_i s2 hs2;obtain⟨A2,L2,hr2⟩:=WZ hr' hs2;exact ihb h2 hr2
    ·cases h2
   ·exact ihb h2 hr'
  |exit id=>exact⟨s',A',L',h1,hr'⟩
  |ret=>exact⟨s',A',L',h1,hr'⟩
  |goto l=>exact⟨s',A',L',h1,hr'⟩
  |panic c=>exact⟨s',A',L',h1,hr'⟩
  |outgrown=>exact⟨s',A',L',h1,hr'⟩
 |cond c a b iha ihb=>
  intro an k s A L σ w h hr;simp only[ex]at h;split at h
  ·rename_i t hc;refine W.cond (dN hr.mem.sl hc) (λht=>?_) (λht=>?_)
   ·subst ht;exact iha (by simpa using h) hr
   ·subst ht;exact ihb (by simpa using h) hr
  ·cases h
 |block id a iha=>
  intro an k s A L σ w h hr;refine W.block (W.mono (iha (an:=an.l) (k:={k with x:=λid' s'=>Bo (Nat.beq id' id) (k.n s')<|k.x id' s'}) h hr) ?_);rintro e σ' w' ⟨s',A',L',h1,hr'⟩;cases e with
  |exit id'=>
   have h2:(Bo (Nat.beq id' id) (k.n s')<|k.x id' s')=some r:=h1;simp only[zJ];by_cases hid:id'=id
   ·rw[fN hid];subst hid;simp at h2;exact⟨s',A',L',h2,hr'⟩
   ·rw[fK hid];have hb:Nat.beq id' id=false:=by
     cases hb:Nat.beq id' id with
     |false=>rfl
     |true=>exact absurd (Bb hb) hid
    rw[hb]at h2;exact⟨s',A',L',h2,hr'⟩
  |normal=>exact⟨s',A',L',h1,hr'⟩
  |ret=>exact⟨s',A',L',h1,hr'⟩
  |goto l=>exact⟨s',A',L',h1,hr'⟩
  |panic c=>exact⟨s',A',L',h1,hr'⟩
  |outgrown=>exact⟨s',A',L',h1,hr'⟩
 |loop a iha=>
  intro an k s A L σ w h hr;have head:∀(q:Nat) (s:S) (A:Reg) (L:List MD) (σ:Env) (w:World),BS an (iter an (λkn s'=>ex P T inl n a an.l {k with n:=kn} s') q) s=some r->Rel Z s σs A L σ w->
    ∃s' A' L',iter an (λkn s'=>ex P T inl n a an.l {k with n:=kn} s') q s'=some r/\Rel Z s' σs A' L' σ w:=by
   intro q s A L σ w h hr;unfold BS at h;split at h
   ·split at h
    ·rename_i s2 hs2;obtain⟨A2,L2,hr2⟩:=WZ hr hs2;exact⟨s2,A2,L2,h,hr2⟩
    ·cases h
   ·cases h
  refine W.loop (λq σ w=>∃s A L,iter an (λkn s'=>ex P T inl n a an.l {k with n:=kn} s') q s=some r/\Rel Z s σs A L σ w) Ay (head _ _ _ _ _ _ h hr) ?_;rintro q σ w ⟨s,A,L,h,hr⟩;cases q with
  |zero=>cases h
  |succ q=>
   refine W.mono (iha (k:={k with n:=BS an (iter an (λkn s'=>ex P T inl n a an.l {k with n:=kn} s') q)}) h hr) ?_;rintro e σ' w' ⟨s',A',L',h1,hr'⟩;cases e with
   |normal=>exact⟨q,Nat.lt_succ_self _,head q s' A' L' σ' w' h1 hr'⟩
   |exit id=>exact⟨s',A',L',h1,hr'⟩
   |ret=>exact⟨s',A',L',h1,hr'⟩
   |goto l=>exact⟨s',A',L',h1,hr'⟩
   |panic c=>exact⟨s',A',L',h1,hr'⟩
   |outgrown=>exact⟨s',A',L',h1,hr'⟩
 |region id ops draw=>
  intro an k s A L σ w h hr;cases draw with
  |false=>
   obtain⟨hd,h⟩:=Ak (show(Bo (SX ops.toList) (Uk P T (D3 an inl) n ops ops.toList s k.n)<|none)=some r from h);have h1:=qI (ops:=ops) hT (Z8 an hI) hr (show Uk P T (D3 an inl) n ops ops.toList s k.n=some r from h);have hops:ops=ops.toList.toArray:=by simp
   rw[hops];exact W.region hd (by rw[<-hops];exact h1)
  |true=>
   obtain⟨hd,h⟩:=Ak (show(Bo (SX ops.toList) (AZ P T (D3 an inl) n (gD an) ops ops.size (Bo (gD an) (#[])<|Array.replicate ops.size true) (Array.replicate ops.size false) s k.n)<|none)=some r from h);refine W.t? hd Ry (λ_=>True) (tw (Bo (gD an) (#[])<|Array.replicate ops.size true)) (λw' hw hg=>?_);have hr':Rel Z s σs A L σ w':=St.Ah4 hr hw hg;refine vP hT (Z8 an hI) hr' h (λhm=> .inl ?_) (λ_ _ _=>trivial);rw[hm];simp[Yy,tw]
 |rangeFunc=>intro an k s A L σ w h hr;cases h
 |scope=>intro an k s A L σ w h hr;cases h
 |label=>intro an k s A L σ w h hr;cases h
 |goto=>intro an k s A L σ w h hr;cases h
 |refuse=>intro an k s A L σ w h hr;cases h
theorem Ah7(hr:Rel Z s σs A L σ w){v:ResultVar}{p:PV}(h:T8 P s v=some p):∃u,CL P σ w v u/\Ea (λb=>A b/\Z.R b) w L p u:=by
 have hm:=hr.mem;cases v with
 |tmp t=>
  obtain⟨hp,h⟩:=Ak h;cases h;exact⟨σ t,rfl,Xd hm.sl hp⟩
 |cell a t=>
  simp only[T8]at h;split at h
  ·rename_i i p' hsl;split at h
   ·rename_i T v0 hi;split at h
    ·rename_i u hu;obtain⟨hk,h⟩:=Ak h;cases h;have hs1:=Hg (t:=a) hm.sl;rw[hsl]at hs1;obtain⟨md,b,h1,h2,h3⟩:=Mn hs1;obtain⟨b',cells,h4,h5⟩:=hm.box hi;rw[h4]at h1;cases h1;cases h2;obtain⟨c1,c2,c3,e,h6,h7⟩:=LD hu h5;have hok:=Ir hk;obtain⟨d,hd,ha⟩:=hok.agg;have hlen:=h7.len;cases hA:p.isA with
     |true=>
      refine⟨.agg c2.toArray,CL.cells hr (hr.Cy h4) ⟨d,hd,ha.trans hA⟩ hok.size h3 ?_ hlen,by unfold Ea;rw[hA];exact⟨c2,rfl,h7⟩⟩;rw[e,<-h6,<-hlen];exact jr rfl
     |false=>
      rw[hok.one hA]at hlen
      match c2,hlen with
      |[u],_=>exact⟨u,CL.cell hr (hr.Cy h4) ⟨d,hd,ha.trans hA⟩ h3 (by rw[e,<-h6];simp),by unfold Ea;rw[hA];exact h7⟩
    ·cases h
   ·cases h
  ·cases h
theorem VB(hr:Rel Z s σs A L σ w):∀{vs:List ResultVar} {ps:List PV},aG P s vs=some ps->∃us,LA P σ w vs us/\Cr (λb=>A b/\Z.R b) w L ps us
 |[],ps,h=>by simp only[aG,fR]at h;subst h;exact⟨[],trivial,rfl⟩
 |v::vs,ps,h=>by
  simp only[aG]at h;split at h
  ·rename_i p ps' hp hps;cases h;obtain⟨u,h1,h2⟩:=Ah7 hr hp;obtain⟨us,h3,h4⟩:=VB hr hps;exact⟨u::us,⟨h1,h3⟩,u,us,rfl,h2,h4⟩
  ·cases h
theorem PH:∀{as:List PV} {vs:List Value} {m:Nat} {f:Nat->Value},Cr B w L as vs-> (∀i v,vs[i]? =some v->f (m+i)=v)->∀p∈Mk m as,Du B w L f p.1 p.2
 |[],vs,m,f,_,_,p,hp=>by simp[Mk]at hp
 |a::as,vs,m,f,⟨v,vs',e,h1,h2⟩,hf,p,hp=>by
  subst e;simp only[Mk]at hp;rcases List.mem_cons.1 hp with rfl|hp
  ·obtain⟨k1,k2⟩:=Ex (show Ea B w L a v from h1);refine(Du.iff k1).2 ?_;have:=hf 0 v rfl;rw[lZ]at this;rw[this];exact k2
  ·exact PH h2 (λi v hi=>by have:=hf (i+1) v (by simpa using hi);rw[<-this];congr 1;omega) p hp
theorem xG{vs:List Value}{i:Nat}{v:Value}(h:vs[i]? =some v):Xc vs i=v:=by simp[Xc,gS,h]
theorem Cr.length:∀{as:List PV} {vs:List Value},Cr B w L as vs->vs.length=as.length
 |[],vs,h=>by rw[show vs=[]from h];rfl
 |a::as,vs,⟨v,vs',e,h1,h2⟩=>by rw[e,iT,Cr.length h2];rfl
theorem yD{f:Nat}{an:An}:∀{DN:List (Nat×An)},Kl.vJ DN f=some an-> (f,an)∈DN
 |[],h=>by simp[Kl.vJ]at h
 |(g,a)::DN,h=>by
  simp only[Kl.vJ]at h;cases hb:Nat.beq g f with
  |true=>have:=Bb hb;subst this;rw[hb]at h;cases h;exact .head _
  |false=>rw[hb]at h;exact .tail _ (yD h)
def I'(P:Program)(f:Nat)(T:TypeId):Prop:=∀(w:World) (b:Nat) (p v:Value),w.heap[b]? =some (.cells #[p,v] T (0,0))-> (p= .pointer none\/p= .pointer (some ⟨b,0,none⟩))->
 Calls P f #[.pointer (some ⟨b,0,none⟩)] w λe w'=>e= .returned (.tuple #[])/\w'=Ck w b (.cells #[.pointer (some ⟨b,0,none⟩),v] T (0,0))
def r_(P:Program)(f:Nat)(T E:TypeId):Prop:=∀(w:World) (b:Nat) (p v:Value) (o:Option Nat) (l:List UInt8),w.heap[b]? =some (.cells #[p,v] T (0,0))-> (Mob.own 1 E v (Go.Lv.Rk (k:= .u8) l)).holds o w->l.length<=17179869184->
 Calls P f #[.pointer (some ⟨b,0,none⟩)] w λe w'=>e= .returned (sv l)/\Gr w w'/\∀k,k<w.heap.size->o≠some k->w'.heap[k]? =w.heap[k]?
def Q2(P:Program)(f:Nat)(T E:TypeId):Prop:=∀(w:World) (b n:Nat),w.heap[b]? =some (.cells #[.pointer none, .slice none 0 0] T (0,0))->n<=281474976710656->
 Calls P f #[.pointer (some ⟨b,0,none⟩), .int .i64 n] w λe w'=>e= .returned (.tuple #[])/\Gr w w'/\ (∀k,k<w.heap.size->k≠b->w'.heap[k]? =w.heap[k]?)/\∃v o,w'.heap[b]? =some (.cells #[.pointer (some ⟨b,0,none⟩),v] T (0,0))/\ (Mob.own 1 E v []).holds o w'/\∀k,o=some k->w.heap.size<=k/\k<w'.heap.size
def KN(P:Program):An->Nat->Prop
 | .pr n T E,f=>(match n with|0=>I' P f T|1=>r_ P f T E|2=>Q2 P f T E|_=>True)
 |_,_=>True
abbrev AnE(P:Program)(p:Nat×An):Prop:=Ent P p.1/\KN P p.2 p.1
theorem uK(hr:Rel Z s σs A L σ w){i:Nat}{md:MD}(hL:L[i]? =some md):Rel Z ((s.Hc i .dead).sub i .any) σs A (L.set i .dead) σ w/\∃o,md.Cy.holds o w/\ (∀b,o=some b-> ¬A b/\b<w.heap.size)/\Bs w (λk=>A k\/o=some k) ((L.set i .dead).map MD.Cy):=by
 obtain⟨o,h1,h2,h3⟩:=(St.front hr (hr.Cy hL)).mobs;have Py:Bs w (λk=>A k\/o=some k) ((L.set i .dead).map MD.Cy):=by
  rw[iX];exact Bs.perm (Mt (hr.Cy hL)) ⟨none,YX,(λb hb=>by cases hb),h3.Eo λk hk=>hk.elim id (λh=>by cases h)⟩
 have hf:Frz (λb=>A b/\Z.R b) w L i .any:=⟨λz E v c h=>⟨v,rfl,by
  obtain⟨p,len,cap,e,_⟩:=hr.Ik h;rw[e];rfl⟩,rfl,rfl⟩
 have hs:St A w [fD Z.R L s σs σ, .old Z.M Z.w0] ((L.set i .dead).map MD.Cy):=⟨St.lt hr,St.facts hr,Py.Eo λ_ h=> .inl h⟩;exact⟨Rel.as hs (i:=1) rfl (hr.mem.subst hf) rfl,o,h1,h2,Py⟩
theorem xZ{B:Reg}{w:World}:∀{l:List UInt8} {c:List Value},Bi (Al B w (.int .u8)) l c->c=Go.Lv.Rk (k:= .u8) l
 |[],c,h=>h
 |x::l,c,⟨c1,c2,h1,h2,h3⟩=>by rw[h1,show c1=_ from h2,xZ h3];rfl
theorem Ah6{w:World}{b k:Nat}{o:Obj}(h:k≠b):(Ck w b o).heap[k]? =w.heap[k]? :=by simp only[Ck];rw[iY (gO h)]
theorem X!{i b:Nat}{T E:TypeId}{v:Value}{o:Option Nat}{cells:List Value}(hr:Rel Z s σs A L σ w)(hL:L[i]? =some (.box b cells T))(hg:Gr w w')(hs:∀k,k<w.heap.size->k≠b->w'.heap[k]? =w.heap[k]?)
  (hb:w'.heap[b]? =some (.cells #[.pointer (some ⟨b,0,none⟩),v] T (0,0))) (ho:(Mob.own 1 E v []).holds o w') (hn:∀k,o=some k->w.heap.size<=k/\k<w'.heap.size):
  Rel Z ((s.add (.arr E (.int .u8) [])).Hc i (.box T (.agg [.wp i, .own s.new]))) σs A (L.set i (.box b [.pointer (some ⟨b,0,none⟩),v] T)++[MD.own 1 E v []]) σ w':=by
 obtain⟨o1,⟨rfl,hbk⟩,h2,h3⟩:=(St.front hr (hr.Cy hL)).mobs;have hnb:∀k,A k->k≠b:=λk hk e=>(h2 b rfl).1 (e▸hk);have hi:=(List.getElem?_eq_some_iff.1 hL).1;have hlt:=(h2 b rfl).2;have same:∀k,A k->w'.heap[k]? =w.heap[k]? :=λk hk=>hs k (St.lt hr k hk) (hnb k hk);have hle1:AW L (L.set i (.box b [.pointer (some ⟨b,0,none⟩),v] T)):=AW.set hL (λs E v c e=>by cases e) (λb' e=>e);have hle:AW L (L.set i (MD.box b [.pointer (some ⟨b,0,none⟩),v] T)++[MD.own 1 E v []]):=⟨λj z E' u c h=>by
  obtain⟨z',E'',c',g⟩:=hle1.1 j z E' u c h;exact⟨z',E'',c',by rw[gA (List.getElem?_eq_some_iff.1 g).1];exact g⟩,λj m b' h h'=>by
  obtain⟨m',g,g'⟩:=hle1.2 j m b' h h';exact⟨m',by rw[gA (List.getElem?_eq_some_iff.1 g).1];exact g,g'⟩⟩
 have hnew:(L.set i (.box b [.pointer (some ⟨b,0,none⟩),v] T)++[MD.own 1 E v []])[L.length]? =some (.own 1 E v []):=by rw[iB F5];simp
 have IU:(L.set i (.box b [.pointer (some ⟨b,0,none⟩),v] T)++[MD.own 1 E v []])[i]? =some (.box b [.pointer (some ⟨b,0,none⟩),v] T):=by
  rw[gA (by simpa using hi),iI hi]
 have hm:=hr.mem;have Py:Bs w' A ((L.set i (.box b [.pointer (some ⟨b,0,none⟩),v] T)++[MD.own 1 E v []]).map MD.Cy):=by
  have h4:Bs w' (λk=>(A k\/some b=some k)\/w.heap.size<=k) ((L.map MD.Cy).eraseIdx i):=h3.lt.step hg.le λk hk hn=>hs k hk λe=>hn (.inl (.inr (by rw[e])));have h5:Bs w' A ((MD.own 1 E v []).Cy::(MD.box b [.pointer (some ⟨b,0,none⟩),v] T).Cy::(L.map MD.Cy).eraseIdx i):=by
   refine⟨o,ho,λk hk=>⟨λh=>?_,(hn k hk).2⟩,some b,⟨rfl,hb⟩,λk hk=>⟨λh=>?_,?_⟩,h4.Eo λk hk=>?_⟩
   ·have:=St.lt hr k h;have:=(hn k hk).1;omega
   ·cases hk;rcases h with h|h
    ·exact hnb _ h rfl
    ·have:=(hn _ h).1;omega
   ·cases hk;exact gE hlt hg.le
   ·rcases hk with(hk|hk)|hk
    ·exact .inl (.inl hk)
    ·exact .inr (hn k hk).1
    ·exact .inl (.inr hk)
  refine h5.perm ?_;rw[l?,iX];exact((List.Perm.cons _ (Mt (hr.Cy hL))).trans (mQ (l₁:=[_])))
 refine Rel.as (L:=L.set i (.box b [.pointer (some ⟨b,0,none⟩),v] T)++[MD.own 1 E v []]) (F:=[.old Z.M Z.w0]) (i:=0) ⟨λk hk=>gE (St.lt hr k hk) hg.le,λf hf=>?_,Py⟩ rfl ⟨⟨?_,λj a md h1 h2=>?_⟩,hm.sl.step (λ_ h=>h) (λk hk=>same k hk.1) hle,hm.stk.step (λ_ h=>h) (λk hk=>same k hk.1) hle⟩ rfl
 ·cases hf with
  |head=>exact Fact.step (.old Z.M Z.w0) (hr.fact 1 (f:= .old Z.M Z.w0) rfl) (λ_ h=>h) same hg
  |tail _ h=>cases h
 ·simp[S.Hc,S.add,Wv,hm.it.1]
 ·simp only[S.Hc]at h1;rcases Wu h1 with⟨rfl,rfl⟩|⟨h3,h4⟩
  ·rw[IU]at h2;cases h2;refine⟨rfl,[_],[_],rfl, .inr ⟨_,b,IU,rfl,rfl⟩,[_],[],rfl,⟨1,E,v,[],?_,rfl⟩,rfl⟩;rw[S.new,hr.len];exact hnew
  ·simp only[S.add]at h4;by_cases hj:j<s.it.length
   ·rw[gA hj]at h4;have hjL:j<L.length:=by rw[<-hr.len];exact hj
    rw[gA (by simpa using hjL),gX (gO h3)]at h2;exact(hm.it.2 j a md h4 h2).step (λ_ h=>h) (λk hk=>same k hk.1) hle
   ·have hj':j=s.it.length:=by
     have:=(List.getElem?_eq_some_iff.1 h4).1;simp at this;omega
    subst hj';simp at h4;subst h4;rw[hr.len,hnew]at h2;cases h2;exact⟨rfl,rfl,rfl⟩
theorem uJ{m:Nat}{TB EB:TypeId}{f:Nat}{as:List PV}{k:S->PV->Option R}{vs:List Value}(hP:KN P (.pr m TB EB) f)(h:Q1 m TB EB as s k=some r)(hr:Rel Z s σs A L σ w)(ha:Cr (λb=>A b/\Z.R b) w L as vs):
  Calls P f vs.toArray w λe w'=>∃v p s' A' L',e= .returned v/\k s' p=some r/\Rel Z s' σs A' L' σ w'/\p.isV=true/\Cl (λb=>A' b/\Z.R b) w' L' p v:=by
 unfold Q1 at h;split at h
 ·rename_i i;split at h
  ·rename_i T a v hi;have hh:=Ak h;clear h;obtain⟨hc,h⟩:=hh;simp only[fI]at hc;obtain⟨hT,hw⟩:=hc;obtain rfl:=Bb hT;obtain⟨b,cells,hL,henc⟩:=hr.mem.box hi;have hbk:=St.box hr (hr.Cy hL);obtain⟨v0,_,rfl,hp0,rfl⟩:=ha;have hv0:v0= .pointer (some ⟨b,0,none⟩):=by
    obtain⟨md,b',e1,e2,e3⟩:=(show As (λb=>A b/\Z.R b) w L (.ptr i []) [v0]from hp0);rw[hL]at e1;cases e1;cases e2;simpa [Ap]using e3
   subst hv0;obtain⟨c1,c2',hcl,h1,c2,_,rfl,h2,rfl⟩:=(show As.go (λb=>A b/\Z.R b) w L [a,v] cells from henc);rw[gP]at hcl;have hp:∃p,c1=[p]/\ (p= .pointer none\/p= .pointer (some ⟨b,0,none⟩)):=by
    unfold isW at hw;split at hw
    ·split at hw
     ·exact⟨_,h1.1, .inl rfl⟩
     ·cases hw
    ·rename_i j;obtain rfl:=Bb hw;rcases h1 with h1|⟨md,b',e1,e2,e3⟩
     ·exact⟨_,h1, .inl rfl⟩
     ·rw[hL]at e1;cases e1;cases e2;exact⟨_,e3, .inr rfl⟩
    ·rename_i j q;simp only[fI,List.isEmpty_iff]at hw;obtain⟨hij,rfl⟩:=hw;obtain rfl:=Bb hij;obtain⟨md,b',e1,e2,e3⟩:=h1;rw[hL]at e1;cases e1;cases e2;exact⟨_,e3, .inr rfl⟩
    ·cases hw
   obtain⟨p,rfl,hp⟩:=hp;split at h
   ·
    have hh:=Ak h;clear h;obtain⟨hsz,h⟩:=hh;simp only[fI,gQ]at hsz;have hlen:=h2.len;rw[Bb hsz.1]at hlen;obtain⟨u,rfl⟩:∃u,c2=[u]:=by match c2,hlen with|[u],_=>exact⟨u,rfl⟩
    subst hcl;refine(hP w b p u hbk hp).mono ?_;rintro e w' ⟨rfl,rfl⟩;have hle:AW L (L.set i (.box b [.pointer (some ⟨b,0,none⟩),u] T)):=AW.set hL (λs E v c e=>by cases e) (λb' e=>e);have hnA:¬A b:=(Bs.qd (St.mobs hr) (hr.Cy hL)).elim λo ho=>by
     obtain⟨⟨rfl,_⟩,ho2⟩:=ho;exact ho2 b rfl
    refine⟨_,_,_,A,_,rfl,h,Rel.change (St.R7 (cells':=[.pointer (some ⟨b,0,none⟩),u]) hr (hr.Cy hL)) hL hle ⟨rfl,?_⟩,rfl,[],rfl,rfl⟩;exact⟨[_],[u],rfl, .inr ⟨_,b,iI (List.getElem?_eq_some_iff.1 hL).1,rfl,rfl⟩,[u],[],rfl,As.step (λ_ h=>h) (λk hk=>Ah6 (b:=b) λ(e:k=b)=>hnA (e▸hk.1)) hle h2,rfl⟩
   ·
    obtain⟨hr1,o1,g1,g2,g3⟩:=uK hr hL;split at h
    ·obtain rfl:c2=[.slice none 0 0]:=h2;subst hcl;refine(hP w b p _ none [] hbk ⟨none,0,0,rfl,rfl,fQ _,λ_=>rfl,λ_=>rfl,λb h=>by cases h⟩ F5).mono ?_;rintro e w' ⟨rfl,hg,hs⟩;have hs':∀k,k<w.heap.size->w'.heap[k]? =w.heap[k]? :=λk hk=>hs k hk F5;exact⟨_,_,_,A,_,rfl,h,Rel.world hr1 (λk hk=>hs' k (St.lt hr1 k hk)) hg ((St.mobs hr1).step hg.le λk hk _=>hs' k hk),rfl,rfl⟩
    ·rename_i j;split at h
     ·rename_i E e l hj;split at h
      ·rename_i l;have hh:=Ak h;clear h;obtain⟨hE,h⟩:=hh;obtain rfl:=Bb hE;obtain⟨_,hok,h⟩:=Go.Lv.bind_some h;have hlen:l.length<=17179869184:=by
        unfold Dl at hok;split at hok
        ·rename_i hd;have hd':=iM hd;unfold Ac at hd';omega
        ·cases hok
       obtain⟨u,cs,hLj,hall⟩:=hr.mem.arr hj;have hij:i≠j:=λe=>by subst e;rw[hL]at hLj;cases hLj
       have yU:(L.set i .dead)[j]? =some (.own 1 E u cs):=by rw[gX hij];exact hLj
       obtain⟨z,E',u',c',q1,q2⟩:=(show∃s E v c0,L[j]? =some (.own s E v c0)/\c2=[v]from h2);rw[hLj]at q1;cases q1;subst q2;obtain rfl:=xZ hall;subst hcl;obtain⟨hr2,o2,k1,k2,k3⟩:=uK hr1 yU;refine(hP w b p u o2 l hbk k1 hlen).mono ?_;rintro e w' ⟨rfl,hg,hs⟩;refine⟨_,_,_,A,_,rfl,h,Rel.world hr2 (λk hk=>hs k (St.lt hr2 k hk) λe=>(k2 k e).1 hk) hg ((k3.step hg.le λk hk hn=>hs k hk λe=>hn (.inr e)).Eo λ_ h=> .inl h),rfl,rfl⟩
      ·cases h
     ·cases h
    ·cases h
   ·cases h
  ·cases h
 ·
  rename_i i n;split at h
  ·split at h
   ·rename_i T a hi;split at h
    ·have hh:=Ak h;clear h;obtain⟨hT,h⟩:=hh;obtain rfl:=Bb hT;obtain⟨_,hok,h⟩:=Go.Lv.bind_some h;have hn:0<=n/\n<=281474976710656:=by
      unfold Dl at hok;split at hok
      ·rename_i hd;exact iM hd
      ·cases hok
     obtain⟨b,cells,hL,henc⟩:=hr.mem.box hi;have hbk:=St.box hr (hr.Cy hL);obtain⟨v0,_,rfl,hp0,v1,_,rfl,hp1,rfl⟩:=ha;have hv0:v0= .pointer (some ⟨b,0,none⟩):=by
      obtain⟨md,b',e1,e2,e3⟩:=(show As (λb=>A b/\Z.R b) w L (.ptr i []) [v0]from hp0);rw[hL]at e1;cases e1;cases e2;simpa [Ap]using e3
     subst hv0;obtain rfl:v1= .int .i64 n:=by cases(show [v1]=[.int .i64 n]from hp1);rfl
     obtain⟨c1,c2',hcl,h1,c2,_,rfl,h2,rfl⟩:=(show As.go (λb=>A b/\Z.R b) w L [.cst (.pointer none), .nils] cells from henc);obtain rfl:c1=[.pointer none]:=h1.1;obtain rfl:c2=[.slice none 0 0]:=h2;obtain rfl:cells=[.pointer none, .slice none 0 0]:=hcl;have hP':=hP w b (Int.toNat n) hbk (Int.toNat_le.2 hn.2);rw[Int.toNat_of_nonneg hn.1]at hP';refine hP'.mono ?_;rintro e w' ⟨rfl,hg,hs,v,o,q1,q2,q3⟩;exact⟨_,_,_,A,_,rfl,h,X! hr hL hg hs q1 q2 q3,rfl,[],rfl,rfl⟩
    ·cases h
   ·cases h
  ·cases h
 ·cases h
theorem Qo(Ry:P.follows .mixedOrders=true)(hT:Hy P T){DN:List (Nat×An)}(hA:∀p∈DN,AnE P p):∀(q:Nat),Gz (R:=R) P T.gl (Kl P T q DN)
 |0=>λZ hZ f as s k r σs A L σ w vs h hr ha=>by cases h
 |q+1=>λZ hZ f as s k r σs A L σ w vs h hr ha=>by
  have hI:=Qo Ry hT hA q;unfold Kl at h;split at h
  ·rename_i an fn han hfn;have hmem:=yD han;split at h
   ·exact⟨(hA _ hmem).1,uJ (hA _ hmem).2 h hr ha⟩
   split at h
   ·cases h
   ·rename_i c hc;obtain⟨hle,h⟩:=Ak h;refine⟨(hA _ hmem).1,?_⟩;have hr1:Rel Z ⟨Mk 0 as,s.it,s.sl::s.st⟩ (σ::σs) A L (Xc vs) w:=
     Rel.as hr (i:=1) rfl ⟨hr.mem.it,PH ha (λi v hi=>by rw[gV];exact xG hi),hr.mem.sl,hr.mem.stk⟩ rfl
    refine vC (rs:=fn.results.toList) hfn hc rfl F5 (by rw[ha.length];exact hle) (W.mono (cJ Ry ⟨hT,hZ⟩ hI c h hr1) ?_);rintro e σ' w' ⟨s',A',L',h1,hr'⟩;have fin:Kl.zq P fn.results.toList k s'=some r->∃us,LA P σ' w' fn.results.toList us/\∃v p s'' A'' L'',Ending.returned (Ty us)= .returned v/\k s'' p=some r/\Rel Z s'' σs A'' L'' σ w'/\p.isV=true/\Cl (λb=>A'' b/\Z.R b) w' L'' p v:=by
     intro h1;unfold Kl.zq at h1;split at h1
     ·rename_i ps sl st hps hst;obtain⟨us,h2,h3⟩:=VB hr' hps;obtain⟨h4,h5⟩:=N0 h3;have WN:=hr'.mem.stk;rw[hst]at WN;exact⟨us,h2,_,_,_,A',L',rfl,h1,Rel.as hr' (i:=1) rfl ⟨hr'.mem.it,WN.1,WN.2⟩ rfl,h4,h5⟩
     ·cases h1
    cases e with
    |normal=>exact⟨.inr rfl,fin h1⟩
    |ret=>exact⟨.inl rfl,fin h1⟩
    |exit id=>cases h1
    |goto l=>cases h1
    |panic c=>cases h1
    |outgrown=>cases h1
  ·cases h
end Go.Rx
namespace Go.Rx
open Go Go.Lv
variable{e:ET}{fn:Func}{o:Option TypeId}
variable {P:Program} {B B':Reg} {w w':World} {L L':List MD} {s:S} {σs:List Env} {σ:Env} {Z:Fix} {A A':Reg} {n:Nat} {ops:Array Oper}
variable {R:Type} {r:R} {T:Tab} {inl:KI R}
abbrev LS:=List (ET×Option TypeId)
def Ee:LS->List PV->Nat->List Nat
 |p::r,v::vs,c=>match p.2 with
  |none=>Ee r vs c
  |some _=>(match v with| .own i=>i|_=>c)::Ee r vs (c+1)
 |_,_,_=>[]
def DR:LS->List MD
 |p::r=>match p.2 with
  |none=>DR r
  |some E=>(match p.1 with| .list a=> .own a.size E (.slice none 0 0) []|_=> .dead)::DR r
 |[]=>[]
theorem Ada(h:Bs w A (L.map MD.Cy)):∀(ls:LS),Bs w A ((L++DR ls).map MD.Cy):=by
 have one:∀(m:MD) (ms:List MD),m.Cy.holds none w->Bs w A ((L++ms).map MD.Cy)->Bs w A ((L++m::ms).map MD.Cy):=by
  intro m ms hm h;have:Bs w A (m.Cy::(L++ms).map MD.Cy):=⟨none,hm,λb hb=>(by cases hb),h.Eo λb hb=>hb.elim id (λh=>by cases h)⟩;refine this.perm ?_;rw[l?,l?,gT];exact(List.perm_middle).symm
 intro ls
 induction ls with
 |nil=>simpa [DR]using h
 |cons p ls ih=>
  obtain⟨e,o⟩:=p;cases o with
  |none=>exact ih
  |some E=>cases e<;>exact one _ _ (by first|exact YX|exact⟨none,0,0,rfl,F5,fQ _,λ_=>rfl,λ_=>rfl,λb h=>by cases h⟩) ih
theorem VK:∀{ls:LS} {vs:List PV} {seen:List Nat} {c:Nat},FK s ls vs seen=true->s.it.length<=c->distinct (Ee ls vs c)=true/\∀i∈Ee ls vs c,(i<s.it.length/\i∉seen)\/c<=i
 |[],[],_,_,_,_=>⟨rfl,by simp[Ee]⟩
 |[],_::_,_,_,h,_=>by simp[FK]at h
 |_::_,[],_,_,h,_=>by simp[FK]at h
 |(e,none)::ls,v::vs,seen,c,h,hc=>by
  simp only[FK,fI]at h;exact VK (ls:=ls) (vs:=vs) (seen:=seen) (c:=c) h.2 hc
 |(e,some E)::ls,v::vs,seen,c,h,hc=>by
  simp only[FK]at h;split at h
  ·obtain⟨h1,h2⟩:=VK h (c:=c+1) F4;refine⟨?_,λi hi=>?_⟩
   ·simp only[Ee,distinct,fI,gQ];refine⟨?_,h1⟩;cases hx:Ms c (Ee ls vs (c+1))with
    |false=>rfl
    |true=>rcases h2 c (Oq.1 hx)with⟨h3,_⟩|h3<;>omega
   ·simp only[Ee,lR]at hi;rcases hi with rfl|hi
    ·exact .inr (fQ _)
    ·rcases h2 i hi with h3|h3
     ·exact .inl h3
     ·exact .inr F4
  ·rename_i a i;simp only[fI,gQ]at h;obtain⟨⟨h0,hit⟩,h⟩:=h;have hlt:i<s.it.length:=by
    split at hit
    ·rename_i E' a' l hi;exact(List.getElem?_eq_some_iff.1 (aA hi (by intro e;cases e))).1
    ·cases hit
   obtain⟨h1,h2⟩:=VK h (c:=c+1) F4;refine⟨?_,λj hj=>?_⟩
   ·simp only[Ee,distinct,fI,gQ];refine⟨?_,h1⟩;cases hx:Ms i (Ee ls vs (c+1))with
    |false=>rfl
    |true=>
     rcases h2 i (Oq.1 hx)with⟨_,h3⟩|h3
     ·exact absurd (List.mem_cons_self) h3
     ·omega
   ·simp only[Ee,lR]at hj;rcases hj with rfl|hj
    ·exact .inl ⟨hlt,λhm=>by have:=Oq.2 hm;rw[h0]at this;cases this⟩
    ·rcases h2 j hj with⟨h3,h4⟩|h3
     ·exact .inl ⟨h3,λhm=>h4 (lQ _ hm)⟩
     ·exact .inr F4
  ·cases h
theorem H? {q:PV}{x:e.T}(hr:Rel Z s σs A L σ w)(h:UO s e q=some x)(ho:owns q=[])(hb:e.uL=true->∀b,A b/\Z.R b->B' b){L':List MD}:NB (λb=>A b/\Z.R b) w L B' w L' q (.val e x):=by
 obtain⟨h1,h2⟩:=M2 (L':=L') hr h (B':=λb=>A b/\Z.R b) (λ_ h=>h) (λi hi=>by rw[ho]at hi;cases hi);refine⟨h1,λcs hcs=>?_⟩;have h3:Al (λb=>A b/\Z.R b) w e x cs:=h2 cs hcs;cases hl:e.uL with
 |true=>exact Al.step (hb hl) (λ_ _=>rfl) h3
 |false=>exact Al.noL hl h3
theorem T? {l:List e.T}{cs:List Value}(hb:e.uL=true->∀b,B b->B' b)(h:Bi (Al B w e) l cs):Bi (Al B' w e) l cs:=by
 cases hl:e.uL with
 |true=>exact h.mono λx c hx=>Al.step (hb hl) (λ_ _=>rfl) hx
 |false=>exact h.mono λx c hx=>Al.noL hl hx
theorem sY(hr:Rel Z s σs A L σ w){LP:List MD}(hP:∀(i:Nat) (m:MD),L[i]? =some m->LP[i]? =some m):∀(ls:LS) (vs:List PV) (y:Mp ls) (seen:List Nat) (c:Nat) (s0:S) (Lx LF:List MD),
  FK s ls vs seen=true->Yi s ls vs=some y-> (∀p∈ls,x_ p=true->∀b,A b/\Z.R b->B' b)-> (∀i m,(DR ls)[i]? =some m->LP[c+i]? =some m)->Lx.length=s0.it.length->LF=Lx++(Ee ls vs c).map (λi=>LP.getD i .dead)->
  ∃its,(Cu ls y s0).2=⟨s0.sl,s0.it++its,s0.st⟩/\its.length=(Ee ls vs c).length/\All2 (NB (λb=>A b/\Z.R b) w L B' w LF) vs (Cu ls y s0).1/\
   ∀(i:Nat) (a:Item) (m:MD),its[i]? =some a-> ((Ee ls vs c).map (λi=>LP.getD i .dead))[i]? =some m->Mx B' w LF a m
 |[],vs,y,seen,c,s0,Lx,LF,ho,hp,_,_,_,_=>by
  rw[K8 hp];refine⟨[],?_,rfl,All2.nil,λi a m h=>by simp at h⟩;rw[oV];simp
 |p::ls,vs,y,seen,c,s0,Lx,LF,ho,hp,hb,hn,hlen,O8=>by
  have main:∀(v:PV) (vs':List PV) (x:p.1.T) (rest:S->List PV×S),vs=v::vs'->UO s p.1 v=some x->
    (Cu (p::ls) y s0=((Dd p.1 p.2 x s0).1::(rest (Dd p.1 p.2 x s0).2).1,(rest (Dd p.1 p.2 x s0).2).2))->
    (∀(seen:List Nat) (c:Nat) (s1:S) (Lx:List MD),FK s ls vs' seen=true-> (∀i m,(DR ls)[i]? =some m->LP[c+i]? =some m)->Lx.length=s1.it.length->LF=Lx++(Ee ls vs' c).map (λi=>LP.getD i .dead)->
     ∃its,(rest s1).2=⟨s1.sl,s1.it++its,s1.st⟩/\its.length=(Ee ls vs' c).length/\All2 (NB (λb=>A b/\Z.R b) w L B' w LF) vs' (rest s1).1/\
      ∀(i:Nat) (a:Item) (m:MD),its[i]? =some a-> ((Ee ls vs' c).map (λi=>LP.getD i .dead))[i]? =some m->Mx B' w LF a m)->
    ∃its,(Cu (p::ls) y s0).2=⟨s0.sl,s0.it++its,s0.st⟩/\its.length=(Ee (p::ls) vs c).length/\All2 (NB (λb=>A b/\Z.R b) w L B' w LF) vs (Cu (p::ls) y s0).1/\
     ∀(i:Nat) (a:Item) (m:MD),its[i]? =some a-> ((Ee (p::ls) vs c).map (λi=>LP.getD i .dead))[i]? =some m->Mx B' w LF a m:=by
   intro v vs' x rest hvs hx hu hrest;subst hvs;rw[hu];have hbp:=hb p (.head _);obtain⟨e,o⟩:=p;cases o with
   |none=>
    simp only[FK,fI]at ho;have e1:Dd e none x s0=(.val e x,s0):=ji;simp only[e1];obtain⟨its,h1,h2,h3,h4⟩:=hrest seen c s0 Lx ho.2 hn hlen O8;refine⟨its,h1,h2, .cons (H? hr hx (isEmpty_nil ho.1) (λhl=>hbp ?_)) h3,h4⟩;cases e<;>first|exact hl|cases hl
   |some E=>
    simp only[FK]at ho;split at ho
    ·
     rename_i a;have hx':x=[]:=by
      have:elems s a .nils=some x:=hx;simpa [elems]using this.symm
     subst hx';have hc:LP[c]? =some (.own a.size E (.slice none 0 0) []):=hn 0 _ rfl;have e1:Dd (.list a) (some E) [] s0=(.own s0.new,s0.add (.arr E a [])):=rfl;simp only[e1];obtain⟨its,h1,h2,h3,h4⟩:=hrest seen (c+1) (s0.add (.arr E a [])) (Lx++[.own a.size E (.slice none 0 0) []]) ho (λi m hi=>by rw[gN,Nat.add_comm 1 i];exact hn (i+1) m (by simpa [DR]using hi))
      (by simp[S.add,hlen]) (by rw[O8];simp[Ee,gS,hc])
     refine⟨.arr E a []::its,by rw[h1];simp[S.add],by simp[Ee,h2], .cons ⟨rfl,λcs hcs=>?_⟩ h3,λi b m hi hm=>?_⟩
     ·refine⟨a.size,E, .slice none 0 0,[],?_,hcs⟩;rw[O8,S.new,<-hlen];simp[Ee,gS,hc]
     ·cases i with
      |zero=>
       simp[Ee,gS,hc]at hi hm;subst hi hm;exact⟨rfl,rfl,rfl⟩
      |succ i=>exact h4 i b m (by simpa using hi) (by simpa [Ee]using hm)
    ·
     rename_i a i;simp only[fI,gQ]at ho;obtain⟨⟨h0,hit⟩,ho⟩:=ho;split at hit
     ·rename_i E' a' l hi;simp only[fI,lC]at hit;obtain⟨hE,rfl⟩:=hit;have:=Bb hE;subst this;obtain⟨u,cs0,g1,g2⟩:=hr.mem.arr hi;have hx':x=l:=by
       have:elems s a' (.own i)=some x:=hx;simp[elems,hi]at this;exact this.symm
      subst hx';have hc:LP[i]? =some (.own a'.size E' u cs0):=hP i _ g1;have e1:Dd (.list a') (some E') x s0=(.own s0.new,s0.add (.arr E' a' x)):=rfl;simp only[e1];obtain⟨its,h1,h2,h3,h4⟩:=hrest (i::seen) (c+1) (s0.add (.arr E' a' x)) (Lx++[.own a'.size E' u cs0]) ho (λi m hi=>by rw[gN,Nat.add_comm 1 i];exact hn (i+1) m (by simpa [DR]using hi))
       (by simp[S.add,hlen]) (by rw[O8];simp[Ee,gS,hc])
      refine⟨.arr E' a' x::its,by rw[h1];simp[S.add],by simp[Ee,h2], .cons ⟨rfl,λcs hcs=>?_⟩ h3,λq b m hq hm=>?_⟩
      ·obtain⟨z,E2,v2,c2,k1,k2⟩:=hcs;rw[g1]at k1;cases k1;refine⟨a'.size,E',u,cs0,?_,k2⟩;rw[O8,S.new,<-hlen];simp[Ee,gS,hc]
      ·cases q with
       |zero=>
        simp[Ee,gS,hc]at hq hm;subst hq hm;exact⟨rfl,rfl,T? hbp g2⟩
       |succ q=>exact h4 q b m (by simpa using hq) (by simpa [Ee]using hm)
     ·cases hit
    ·cases ho
  cases ls with
  |nil=>
   obtain⟨v,rfl,hx⟩:=I4 hp;exact main v [] y (λs1=>([],s1)) rfl hx (JH p y s0) (λseen c s1 Lx _ _ hlen O8=>⟨[],F5,rfl,All2.nil,λi a m h=>by simp at h⟩)
  |cons q r=>
   obtain⟨v,vs',x,y',rfl,rfl,hx,hy⟩:=xM hp;exact main v vs' x (λs1=>Cu (q::r) y' s1) rfl hx (AV p q r x y' s0)
    (λseen c s1 Lx ho hn hlen O8=>sY hr hP (q::r) vs' y' seen c s1 Lx LF ho hy (λp hp=>hb p (.tail _ hp)) hn hlen O8)
theorem Lb{e:ET}{x:e.T}{cs:List Value}(h:Al B w e x cs):Al (λb=>b<w.heap.size/\B b) w e x cs:=
 match e,x,h with
 | .int _,_,h=>h
 | .bool,_,h=>h
 | .str,_,h=>h
 | .list _,_,⟨v,c0,h1,h2,h3⟩=>⟨v,c0,h1,h2.start,h3.mono λ_ _ h=>Lb h⟩
 | .vec _ _,_,⟨h1,h2⟩=>⟨h1,h2.mono λ_ _ h=>Lb h⟩
 | .cons _ _,_,⟨c1,c2,e,h1,h2⟩=>⟨c1,c2,e,Lb h1,Lb h2⟩
 | .nil,_,h=>h
def DC:PV->Bool
 | .val _ _=>true
 | .own _=>true
 | .agg l=>go l
 |_=>false
where go:List PV->Bool
 |[]=>true
 |a::r=>DC a&&go r
mutual
theorem xA:∀{p:PV} {cs:List Value},DC p=true->As B w L p cs->As (λb=>b<w.heap.size/\B b) w L p cs
 | .val e x,cs,_,h=>Lb (show Al B w e x cs from h)
 | .own i,cs,_,h=>h
 | .agg l,cs,hv,h=>tN hv (show As.go B w L l cs from h)
 | .tup _,_,hv,_=>by cases hv
 | .nils,_,hv,_=>by cases hv
 | .ptr _ _,_,hv,_=>by cases hv
 | .wp _,_,hv,_=>by cases hv
 | .view _ _ _ _ _ _,_,hv,_=>by cases hv
 | .rptr _,_,hv,_=>by cases hv
 | .fn _ _,_,hv,_=>by cases hv
 | .cap _ _ _,_,hv,_=>by cases hv
 | .mp _ _ _,_,hv,_=>by cases hv
 | .bfn _ _,_,hv,_=>by cases hv
 | .cst _,_,hv,_=>by cases hv
 | .any,_,hv,_=>by cases hv
 | .gd _ _ _,_,hv,_=>by cases hv
 | .off,_,hv,_=>by cases hv
 | .undef,_,hv,_=>by cases hv
theorem tN:∀{l:List PV} {cs:List Value},DC.go l=true->As.go B w L l cs->As.go (λb=>b<w.heap.size/\B b) w L l cs
 |[],cs,_,h=>h
 |a::l,cs,hv,⟨c1,c2,e,h1,h2⟩=>by
  simp only[DC.go,fI]at hv;exact⟨c1,c2,e,xA hv.1 h1,tN hv.2 h2⟩
end
theorem oL:∀{l:List PV} {vs:List Value},DC.go l=true->Cr B w L l vs->Cr (λb=>b<w.heap.size/\B b) w L l vs
 |[],vs,_,h=>h
 |a::l,vs,hv,⟨v,vs',e,h1,h2⟩=>by
  simp only[DC.go,fI]at hv;exact⟨v,vs',e,h1.mono λc h=>xA hv.1 h,oL hv.2 h2⟩
theorem kW{x:e.T}{s0:S}:DC (Dd e o x s0).1=true:=by
 unfold Dd;split<;>rfl
theorem jN{x:e.T}{s0:S}(h:∀a∈s0.it,∃E e' l,a= .arr E e' l):∀a∈(Dd e o x s0).2.it,∃E e' l,a= .arr E e' l:=by
 unfold Dd;split
 ·intro a ha;simp only[S.add,List.mem_append,List.mem_singleton]at ha;rcases ha with ha|ha
  ·exact h a ha
  ·exact⟨_,_,_,ha⟩
 ·exact h
theorem uT:∀(ls:LS) (x:Mp ls) (s0:S),DC.go (Cu ls x s0).1=true
 |[],x,s0=>rfl
 |[p],x,s0=>by
  rw[JH];have h1:DC (Dd p.1 p.2 x s0).1=true:=kW;simp only[DC.go,h1];rfl
 |p::q::r,(x,y),s0=>by
  rw[AV];have h1:DC (Dd p.1 p.2 x s0).1=true:=kW;simp only[DC.go,h1,uT (q::r) y _];rfl
theorem uZ:∀(ls:LS) (x:Mp ls) (s0:S),(∀a∈s0.it,∃E e' l,a= .arr E e' l)->∀a∈(Cu ls x s0).2.it,∃E e' l,a= .arr E e' l
 |[],x,s0,h=>h
 |[p],x,s0,h=>by rw[JH];exact jN h
 |p::q::r,(x,y),s0,h=>by rw[AV];exact uZ (q::r) y _ (jN h)
mutual
theorem Aha:∀{sh:Sh} {vs r:List PV} {u:PV},Ju sh vs=some (u,r)->DC.go vs=true->DC u=true/\DC.go r=true
 | .lf e o,v::vs,r,u,h,hv=>by
  simp only[Ju,fR,iN]at h;obtain⟨rfl,rfl⟩:=h;simpa [DC.go]using hv
 | .lf e o,[],r,u,h,hv=>by simp[Ju]at h
 | .agg l,vs,r,u,h,hv=>by
  simp only[Ju]at h;split at h
  ·rename_i us r' h1;cases h;exact ZR h1 hv
  ·cases h
theorem ZR:∀{l:List Sh} {vs r us:List PV},Ju.go l vs=some (us,r)->DC.go vs=true->DC.go us=true/\DC.go r=true
 |[],vs,r,us,h,hv=>by
  simp only[Ju.go,fR,iN]at h;obtain⟨rfl,rfl⟩:=h;exact⟨rfl,hv⟩
 |a::l,vs,r,us,h,hv=>by
  simp only[Ju.go]at h;split at h
  ·rename_i u vs' h1;split at h
   ·rename_i us' vs'' h2;cases h;obtain⟨g1,g2⟩:=Aha h1 hv;obtain⟨g3,g4⟩:=ZR h2 g2;exact⟨by simp[DC.go,g1,g3],g4⟩
   ·cases h
  ·cases h
end
theorem b!{rs:List Sh}{p:ET×Option TypeId}(hp:p∈Jc rs)(h:x_ p=true):mF rs=true:=by
 unfold mF;exact List.any_eq_true.2 ⟨p,hp,h⟩
theorem Wm{f:Nat}{ps rs:List Sh}{F:Mp (Jc ps)->Option (Mp (Jc rs))}{RUN:S->Option (Mp (Jc rs))}(hE:Ent P f)
  (hrun:∀x y pvs,args ps x=some pvs->F x=some y->RUN ⟨Mk 0 pvs,E1 ps x,[]⟩=some y)
  (vR:∀(Z:Fix) (A:Reg) (L:List MD) (w:World) (s:S) (y:Mp (Jc rs)) (vs:List Value) (Q:Ending->World->Prop),Z.gl=T.gl->Rel Z s [] A L (Xc vs) w->vs.length=ps.length->RUN s=some y->
   (∀s' A' L' σ' w',OL P rs fn.results.toList s'=some y->Rel Z s' [] A' L' σ' w'->∃us,LA P σ' w' fn.results.toList us/\Q (.returned (Ty us)) w')->Calls P f vs.toArray w Q):ConOk P T.gl f ⟨ps,rs,F⟩:=by
 refine⟨hE,λR N w L0 vs pvs x y hx yJ mG w_ hvs hgl hy=>?_⟩;have hx':args ps x=some pvs:=hx;have hy':=hrun x y pvs hx' hy
 ·let Z:Fix:=⟨λb=>((R b/\N b)\/∃p∈T.gl,p.1=b)\/ ¬N b\/w.heap.size<=b,λb=>¬N b,w,λb hb=> .inr (.inr hb),λb hb=> .inr (.inl hb),T.gl,λp hp=>⟨.inl (.inr ⟨p,hp,rfl⟩),λh=>h (hgl p hp).2.1,(hgl p hp).1,(hgl p hp).2.2⟩⟩
  have hval:DC.go pvs=true:=by
   unfold args QI at hx';split at hx'
   ·rename_i us hs;cases hx';exact(ZR hs (uT _ _ _)).1
   ·cases hx'
  have yV:Cr (λb=>(b<w.heap.size/\N b)/\Z.R b) w L0 pvs vs:=Cr.step (λb hb=>⟨⟨hb.1,hb.2.2⟩, .inl (.inl hb.2)⟩) (λ_ _=>rfl) (.refl L0) (oL hval hvs);have hst:St (λb=>b<w.heap.size/\N b) w [.old Z.M Z.w0] (L0.map MD.Cy):=by
   refine⟨λb hb=>hb.1,λf hf=>?_,w_.Eo λb hb=>hb.2⟩;cases hf with
   |head=>exact⟨.refl _,λb hb hM=>⟨⟨hb,Classical.not_not.1 hM⟩,rfl⟩⟩
   |tail _ h=>cases h
  have hr:Rel Z ⟨Mk 0 pvs,E1 ps x,[]⟩ [] (λb=>b<w.heap.size/\N b) L0 (Xc vs) w:=
   Rel.as (L:=L0) hst (i:=0) rfl ⟨⟨yJ,λi a m h1 h2=>by
    have h3:=mG i a m h1 h2;obtain⟨E,e',l,rfl⟩:=uZ (Jc ps) x ⟨[],[],[]⟩ F5 a (iK h1);cases m with
    |dead=>exact h3
    |box _ _ _=>exact h3
    |own z E2 v2 c2=>exact⟨h3.1,h3.2.1,h3.2.2.mono λx c h=>Al.step (λb hb=>⟨⟨hb.1,hb.2.2⟩, .inl (.inl hb.2)⟩) (λ_ _=>rfl) (Lb h)⟩⟩,
    PH yV (λi v hi=>by rw[gV];exact xG hi),trivial⟩ rfl
  have hlen:vs.length=pvs.length:=hvs.length;have hpl:pvs.length=ps.length:=by
   unfold args QI at hx';split at hx'
   ·rename_i us hs;cases hx';have key:∀(l:List Sh) (vs r us:List PV),Ju.go l vs=some (us,r)->us.length=l.length:=by
     intro l
     induction l with
     |nil=>intro vs r us h;simp only[Ju.go,fR,iN]at h;obtain⟨rfl,_⟩:=h;rfl
     |cons a l ih=>
      intro vs r us h;simp only[Ju.go]at h;split at h
      ·split at h
       ·rename_i h2;cases h;simp[ih _ _ _ h2]
       ·cases h
      ·cases h
    exact key _ _ _ _ hs
   ·cases hx'
  refine vR Z _ _ w _ y vs _ rfl hr (hlen.trans hpl) hy' ?_;intro s' A' L' σ' w' h1 hr';have fin:OL P rs fn.results.toList s'=some y->∃us,LA P σ' w' fn.results.toList us/\∃us',Ending.returned (Ty us)= .returned (Ty us')/\S! T.gl R N w w' rs y us':=by
   intro h1;unfold OL at h1;split at h1
   ·cases h1
   ·rename_i ls0 rD;split at h1
    ·cases h1
    ·rename_i s1 hs1;obtain⟨A1,L1,hr1,_⟩:=Jd hr' hs1;split at h1
     ·rename_i ls hls;obtain⟨ho,h1⟩:=Ak h1;unfold nU at hls;split at hls
      ·rename_i vs1 yY;obtain⟨us,hus,huv⟩:=VB hr1 yY;refine⟨us,hus,us,rfl,?_⟩;have hold:=hr1.fact 1 (f:= .old Z.M Z.w0) rfl;have hA:∀b,b<w.heap.size->N b->A1 b:=λb hb hN=>(hold.2 b hb (λh=>h hN)).1;have hkeep:KeepN N w w':=⟨λb hb hN=>(hold.2 b hb (λh=>h hN)).2,hold.1⟩;have Py:=Ada (St.mobs hr1) (Jc rs);obtain⟨hd,hidx⟩:=VK (s:=s1) (c:=L1.length) ho (by rw[hr1.len];exact fQ _);refine⟨hkeep,λb=>A1 b/\ (¬N b\/w.heap.size<=b),(Ee (Jc rs) ls L1.length).map (λi=>(L1++DR (Jc rs)).getD i .dead),λb hb=>⟨hb.2,St.lt hr1 b hb.1⟩,?_,?_⟩
       ·refine(wW Py hd).Eo ?_;rintro b (hb|hb)
        ·exact hb.1
        ·exact hA b hb.1 hb.2
       ·intro s0 L0 B' hL0 hB1 hB2;obtain⟨its,g1,g2,g3,g4⟩:=sY hr1 (B':=B') (LP:=L1++DR (Jc rs)) (λi m hi=>by rw[gA (List.getElem?_eq_some_iff.1 hi).1];exact hi) (Jc rs) ls y [] L1.length s0 L0 _ ho h1
         (λp hp hl b hb=>by
          rcases hb.2 with hR|hN
          ·exact hB2 (b! hp hl) b hR
          ·exact hB1 b ⟨hb.1,hN⟩)
         (λi m hi=>by rw[iB F4,Nat.add_sub_cancel_left];exact hi) hL0 rfl
        obtain⟨ps',g5,g6⟩:=eC hls huv g3;exact⟨ps',its,g1,g5,g6,by rw[g2];simp,g4⟩
      ·cases hls
     ·cases h1
  obtain⟨us,k1,us',k2,k3⟩:=fin h1;exact⟨us,k1,us',k2,k3⟩
theorem P7(Ry:P.follows .mixedOrders=true){f:Nat}{DN:List (Nat×An)}{an:An}{ps rs:List Sh}{F:Mp (Jc ps)->Option (Mp (Jc rs))}(hf:P.funcs[f]? =some fn)(hE:Ent P f)(hT:Hy P T)(hA:∀p∈DN,AnE P p)
  (hle:Nat.ble ps.length fn.ntmps=true) (h:∀x,run P T DN fn an ps rs x=F x):ConOk P T.gl f ⟨ps,rs,F⟩:=by
 cases hc:fn.body with
 |none=>
  refine Wm (RUN:=λ_=>none) (fn:=fn) hE (λx y pvs hx hy=>?_) (λ_ _ _ _ _ _ _ _ _ _ _ h=>by cases h);rw[<-h x]at hy;unfold run at hy;rw[hc]at hy;exact hy
 |some c=>
  refine Wm (T:=T) (fn:=fn) (RUN:=ex P T (Kl P T 8 DN) fn.ntmps c an {n:=OL P rs fn.results.toList,x:=λ_ _=>none,r:=OL P rs fn.results.toList}) hE (λx y pvs hx hy=>?_) ?_
  ·rw[<-h x]at hy;unfold run at hy;rw[hc,hx]at hy;exact hy
  ·intro Z A L w s y vs Q hZ hr hl hy fin;refine vC (rs:=fn.results.toList) hf hc rfl F5 (by rw[hl];exact hle) (W.mono (cJ Ry ⟨hT,hZ⟩ (Qo Ry hT hA 8) c hy hr) ?_);rintro e σ' w' ⟨s',A',L',h1,hr'⟩;cases e with
   |normal=>exact⟨.inr rfl,fin s' A' L' σ' w' h1 hr'⟩
   |ret=>exact⟨.inl rfl,fin s' A' L' σ' w' h1 hr'⟩
   |exit id=>cases h1
   |goto l=>cases h1
   |panic c=>cases h1
   |outgrown=>cases h1
end Go.Rx
namespace Go.Rx
open Go Go.Lv
structure Pt (R:Type)where
 q:Nat
 n:Nat
 c:Code
 an:An
 k:K R
inductive PS (R:Type)|l|r|d|lp (kn:S->Option R)|call (i f:Nat)|dcall (i f fuel:Nat) (z listed:Array Bool)
def Q4(f:Func):Code:=match f.body with|some c=>c|none=> .skip
variable {R:Type}
noncomputable def Pt.e(P:Program)(T:Tab)(DN:List (Nat×An))(p:Pt R)(s:S):Option R:=match p.c with
 | .loop _=>ex P T (Kl P T p.q DN) p.n p.c p.an p.k s
 |_=>hold (λs=>ex P T (Kl P T p.q DN) p.n p.c p.an p.k s) s
noncomputable def Pt.it(P:Program)(T:Tab)(DN:List (Nat×An))(p:Pt R)(q:Nat)(s:S):Option R:=match p.c with
 | .loop a=>iter p.an (λkn s'=>ex P T (Kl P T p.q DN) p.n a p.an.l {p.k with n:=kn} s') q s
 |_=>none
noncomputable def Pt.step(P:Program)(T:Tab)(DN:List (Nat×An))(p:Pt R):PS R->Pt R
 | .l=>match p.c with
  | .seq a b=>⟨p.q,p.n,a,p.an.l,{p.k with n:=uE p.an λs'=>ex P T (Kl P T p.q DN) p.n b p.an.r p.k s'}⟩
  | .cond _ a _=>⟨p.q,p.n,a,p.an.l,p.k⟩
  |_=>p
 | .r=>match p.c with
  | .seq _ b=>⟨p.q,p.n,b,p.an.r,p.k⟩
  | .cond _ _ b=>⟨p.q,p.n,b,p.an.r,p.k⟩
  |_=>p
 | .d=>match p.c with
  | .block id a=>⟨p.q,p.n,a,p.an.l,{p.k with x:=λid' s'=>Bo (Nat.beq id' id) (p.k.n s')<|p.k.x id' s'}⟩
  |_=>p
 | .lp kn=>match p.c with
  | .loop a=>⟨p.q,p.n,a,p.an.l,{p.k with n:=BS p.an kn}⟩
  |_=>p
 | .call i f=>match p.c,p.q,P.funcs[f]?,Kl.vJ DN f with
  | .region _ ops false,q+1,some fn,some an=>
   let fin:=Kl.zq P fn.results.toList λs v=>Uk P T (D3 p.an (Kl P T (q+1) DN)) p.n ops (ops.toList.drop (i+1)) (s.Dk ((ops[i]?).bind (·.dst)) v) p.k.n
   ⟨q,fn.ntmps,Q4 fn,an,{n:=fin,x:=λ_ _=>none,r:=fin}⟩
  |_,_,_,_=>p
 | .dcall i f fuel z listed=>match p.c,p.q,P.funcs[f]?,Kl.vJ DN f with
  | .region _ ops true,q+1,some fn,some an=>
   let fin:=Kl.zq P fn.results.toList λs v=>AZ P T (D3 p.an (Kl P T (q+1) DN)) p.n (gD p.an) ops fuel z listed (s.Dk ((ops[i]?).bind (·.dst)) v) p.k.n
   ⟨q,fn.ntmps,Q4 fn,an,{n:=fin,x:=λ_ _=>none,r:=fin}⟩
  |_,_,_,_=>p
noncomputable def Pt.at(P:Program)(T:Tab)(DN:List (Nat×An)):Pt R->List (PS R)->Pt R
 |p,[]=>p
 |p,x::l=>Pt.at P T DN (p.step P T DN x) l
noncomputable def Pt.root(P:Program)(fn:Func)(an:An)(rs:List Sh):Pt (Mp (Jc rs)):=
 ⟨8,fn.ntmps,Q4 fn,an,{n:=OL P rs fn.results.toList,x:=λ_ _=>none,r:=OL P rs fn.results.toList}⟩
noncomputable def PE(P:Program)(T:Tab)(DN:List (Nat×An))(fn:Func)(an:An)(rs:List Sh)(l:List (PS (Mp (Jc rs))))(s:S):Option (Mp (Jc rs)):=(Pt.at P T DN (Pt.root P fn an rs) l).e P T DN s
noncomputable def PI(P:Program)(T:Tab)(DN:List (Nat×An))(fn:Func)(an:An)(rs:List Sh)(l:List (PS (Mp (Jc rs))))(q:Nat)(s:S):Option (Mp (Jc rs)):=(Pt.at P T DN (Pt.root P fn an rs) l).it P T DN q s
theorem uH(a:Option R):both a [a,a]=a:=by simp[both]
theorem rP(a:Option R):both a [a,a,a]=a:=by simp[both]
end Go.Rx
namespace Go.Rx
open Go Go.Lv
variable{a:An}{vw cp:Bool}{g:Nat}{P:Program}
theorem ConOk.mono{P:Program}{gl gl':List (Nat×List Value)}{f:Nat}{c:Con}(h:ConOk P gl f c)(hs:gl.Sublist gl'):ConOk P gl' f c:=by
 refine⟨h.ent,λR N w L0 vs ps x y h1 h2 h3 h4 h5 h6 h7=>(h.ok R N w L0 vs ps x y h1 h2 h3 h4 h5 (λp hp=>h6 p (hs.subset hp)) h7).mono ?_⟩;rintro e w' ⟨us,he,hk,A1,L1,g1,g2,g3⟩;exact⟨us,he,hk,A1,L1,g1,g2,λs L B' k1 k2 k3=>g3 s L B' k1 k2 λhr b hb=>k3 hr b (hb.imp id λ⟨p,hp,he⟩=>⟨p,hs.subset hp,he⟩)⟩
theorem Hy.nil{gl:List (Nat×List Value)}:Hy P ⟨[],gl,vw,cp⟩:=λf c h=>by cases h
theorem Hy.cons{c:Con}{r:List (Nat×Con)}{gl:List (Nat×List Value)}(h:ConOk P gl g c)(hr:Hy P ⟨r,gl,vw,cp⟩):Hy P ⟨(g,c)::r,gl,vw,cp⟩:=λf c' h'=>by
 simp only[Tab.get,nE]at h';cases hb:Nat.beq g f with
 |true=>
  rw[hb]at h';have:=Bb hb;subst this;cases h';exact h
 |false=>rw[hb]at h';exact hr f c' h'
theorem Ed.nil:∀p∈([]:List (Nat×An)),AnE P p:=by simp
theorem Ed.cons{r:List (Nat×An)}(h:Ent P g)(hr:∀p∈r,AnE P p)(hp:KN P a g:=by exact trivial):∀p∈(g,a)::r,AnE P p:=by
 intro p hp';rcases List.mem_cons.1 hp' with rfl|hp'
 ·exact⟨h,hp⟩
 ·exact hr p hp'
def rB:An->Bool| .pr _ _ _=>false|_=>true
theorem J? {f:Nat}(h:rB a=true):KN P a f:=by cases a<;>first|trivial|cases h
end Go.Rx
namespace Go.Rx
variable {R α:Type}
theorem Ds{a b c:Option R}(h:a=c)(h1:b=c):both a [b]=c:=by subst h;subst h1;exact fM _
theorem Dq{a b d c:Option R}(h:a=c)(h1:b=c)(h2:d=c):both a [b,d]=c:=by subst h;subst h1;subst h2;exact uH _
theorem Dt{a b d e c:Option R}(h:a=c)(h1:b=c)(h2:d=c)(h3:e=c):both a [b,d,e]=c:=by subst h;subst h1;subst h2;subst h3;exact rP _
theorem Fj{l:List α}{a b c:Option R}(h:l=[]->a=c)(h1:b=c):oH l a b=c:=by subst h1;exact uU h
theorem Fc{o:Option α}{f g:α->Option R}(h:∀x,f x=g x):Option.bind o f=Option.bind o g:=by rw[funext h]
theorem Cg{o:Option α}{f:α->Option R}{t:Option R}(h:o=none->none=t)(h1:∀x,o=some x->f x=t):Option.bind o f=t:=by
 cases o with
 |none=>exact h rfl
 |some x=>exact h1 x rfl
theorem Fi(f:α->Option R):Option.bind none f=none:=rfl
theorem Bv(x:α)(f:α->Option R):Option.bind (some x) f=f x:=rfl
theorem Bt(o:Option α):Option.bind o (λ_=>(none:Option R))=none:=by cases o<;>rfl
theorem Ho{c:Prop} [Decidable c]{a b a' b':Option R}(h:c->a=a')(h1:¬c->b=b'):(if c then a else b)=if c then a' else b':=by
 by_cases hc:c
 ·rw[fN hc,fN hc];exact h hc
 ·rw[fK hc,fK hc];exact h1 hc
theorem Cw{c:Prop} [Decidable c]{a b t:Option R}(h:c->a=t)(h1:¬c->b=t):(if c then a else b)=t:=by
 by_cases hc:c
 ·rw[fN hc];exact h hc
 ·rw[fK hc];exact h1 hc
abbrev vi(x:Int):PV:= .val (.int .i64) x
abbrev vc(x:UInt8):PV:= .val (.int .u8) x
abbrev vu(x:UInt32):PV:= .val (.int .u32) x
abbrev vq(x:UInt64):PV:= .val (.int .u64) x
abbrev vx(x:Int32):PV:= .val (.int .i32) x
abbrev vt(x:Bool):PV:= .val .bool x
abbrev vs(x:List UInt8):PV:= .val .str x
abbrev vb(x:List UInt8):PV:= .val (.list (.int .u8)) x
abbrev vl(x:List Int):PV:= .val (.list (.int .i64)) x
abbrev vw(x:List Int32):PV:= .val (.list (.int .i32)) x
abbrev vv(x:List UInt32):PV:= .val (.list (.int .u32)) x
end Go.Rx
namespace Go.Rx
open Go Go.Lv
variable{f:Nat}{P:Program}
structure Hd where
 p:List Sh
 r:List Sh
 a:An
 T:Tab
 s:List (Nat×An)
 f:Func
noncomputable def Hd.e(P:Program)(H:Hd):List (PS (Mp (Jc H.r)))->S->Option (Mp (Jc H.r)):=PE P H.T H.s H.f H.a H.r
noncomputable def Hd.i(P:Program)(H:Hd):List (PS (Mp (Jc H.r)))->Nat->S->Option (Mp (Jc H.r)):=PI P H.T H.s H.f H.a H.r
noncomputable def Hd.u(P:Program)(H:Hd)(x:Mp (Jc H.p)):Option (Mp (Jc H.r)):=run P H.T H.s H.f H.a H.p H.r x
def okH(H:Hd):Bool:=(!(H.f.name== "runtime.NumGoroutine")&&H.f.body.isSome)&&Nat.ble H.p.length H.f.ntmps
theorem Hd.con(hM:P.follows .mixedOrders=true)(H:Hd){F:Mp (Jc H.p)->Option (Mp (Jc H.r))}(hf:P.funcs[f]? =some H.f)(hT:Hy P H.T)(hA:∀p∈H.s,AnE P p)
  (hb:okH H=true) (h:∀x,H.u P x=F x):ConOk P H.T.gl f ⟨H.p,H.r,F⟩:=by
 simp only[okH,fI,gQ]at hb;obtain⟨c,hc⟩:=Option.isSome_iff_exists.1 hb.1.2;exact P7 (T:=H.T) hM hf (Ent.mk hf hb.1.1 hc) hT hA hb.2 h
def G? (P:Program)(f:Nat):Bool:=match P.funcs[f]? with|some fn=>!(fn.name== "runtime.NumGoroutine")&&fn.body.isSome|none=>false
theorem H!(h:G? P f=true):Ent P f:=by
 unfold G? at h;split at h
 ·rename_i fn hf;simp only[fI,gQ]at h;obtain⟨c,hc⟩:=Option.isSome_iff_exists.1 h.2;exact Ent.mk hf h.1 hc
 ·cases h
def okA(P:Program)(H:Hd):Bool:=(H.s.all λp=>G? P p.1&&rB p.2)&&okH H
theorem Hd.cn(hM:P.follows .mixedOrders=true)(H:Hd){F:Mp (Jc H.p)->Option (Mp (Jc H.r))}(hf:P.funcs[f]? =some H.f)(hT:Hy P H.T)
  (hb:okA P H=true) (h:∀x,H.u P x=F x):ConOk P H.T.gl f ⟨H.p,H.r,F⟩:=by
 simp only[okA,fI,lD]at hb;exact Hd.con hM H hf hT (λp hp=>⟨H! (hb.1 p hp).1,J? (hb.1 p hp).2⟩) hb.2 h
def okP(P:Program)(H:Hd):Bool:=(H.s.all λp=>G? P p.1)&&okH H
theorem Hd.cp(hM:P.follows .mixedOrders=true)(H:Hd){F:Mp (Jc H.p)->Option (Mp (Jc H.r))}(hf:P.funcs[f]? =some H.f)(hT:Hy P H.T)(hP:∀p∈H.s,KN P p.2 p.1)
  (hb:okP P H=true) (h:∀x,H.u P x=F x):ConOk P H.T.gl f ⟨H.p,H.r,F⟩:=by
 simp only[okP,fI,lD]at hb;exact Hd.con hM H hf hT (λp hp=>⟨H! (hb.1 p hp),hP p hp⟩) hb.2 h
abbrev Kc(P:Program)(gl:List (Nat×List Value)):={p:Nat×Con//ConOk P gl p.1 p.2}
def qX{P:Program}{gl:List (Nat×List Value)}(l:List (Kc P gl))(v c:Bool):Tab:=⟨l.map (·.1),gl,v,c⟩
theorem CE{P:Program}{gl:List (Nat×List Value)}:∀(l:List (Kc P gl)) (v c:Bool),Hy P (qX l v c)
 |[],_,_=> .nil
 |a::l,v,c=> .cons a.2 (CE l v c)
theorem ind{p:Nat->Prop}(h:p 0)(hs:∀q,p q->p (q+1)):∀q,p q:=λq=>Nat.rec h hs q
variable {R α:Type}
noncomputable abbrev bo(a:Option R):Option R:=both a [a]
noncomputable abbrev bo2(a:Option R):Option R:=both a [a,a]
theorem Sg(a:Option R):both a [a]=a:=fM a
theorem Kk(a:Option R):both a [a,a]=a:=uH a
theorem Kn(a:Option R):both a [a,a,a]=a:=rP a
abbrev Si:Sh:= .lf (.int .i64) none
abbrev Sc:Sh:= .lf (.int .u8) none
abbrev Su:Sh:= .lf (.int .u32) none
abbrev Sq:Sh:= .lf (.int .u64) none
abbrev Sx:Sh:= .lf (.int .i32) none
abbrev Sz:Sh:= .lf .bool none
abbrev Ss:Sh:= .lf .str none
abbrev Sb:Sh:= .lf (.list (.int .u8)) none
abbrev Sl:Sh:= .lf (.list (.int .i64)) none
abbrev Sw:Sh:= .lf (.list (.int .i32)) none
abbrev Sv:Sh:= .lf (.list (.int .u32)) none
abbrev Ob(e:Nat):Sh:= .lf (.list (.int .u8)) (some e)
abbrev Ol(e:Nat):Sh:= .lf (.list (.int .i64)) (some e)
abbrev Ow(e:Nat):Sh:= .lf (.list (.int .i32)) (some e)
abbrev Ov(e:Nat):Sh:= .lf (.list (.int .u32)) (some e)
abbrev Ai(e:Nat)(l:List Int):Item:= .arr e (.int .i64) l
abbrev Ab(e:Nat)(l:List UInt8):Item:= .arr e (.int .u8) l
abbrev Aw(e:Nat)(l:List Int32):Item:= .arr e (.int .i32) l
abbrev Av(e:Nat)(l:List UInt32):Item:= .arr e (.int .u32) l
abbrev An.q(a:An):An:= .seq .d a
end Go.Rx
namespace Go.Rx
open Go Go.Lv Go.RowKit
variable{cs:List Value}{B:Reg}{w:World}
variable {P:Program}
theorem Yc{B:Reg}{w:World}{k:Kd}:∀(l:List k.T),Bi (Al B w (.int k)) l (Go.Lv.Rk (k:=k.k) l)
 |[]=>rfl
 |x::l=>⟨[iv (T:=k.T) (k:=k.k) x],Go.Lv.Rk (k:=k.k) l,rfl,rfl,Yc l⟩
theorem Rd.Eo{A:Reg}{s:Nat}{v:Value}(h:Rd A w s v cs)(ha:∀b,A b->B b):Rd B w s v cs:=h.step ha λ_ _=>rfl
theorem encs_nil:Cr B w [] [] []:=rfl
theorem row_true{gl:List (Nat×List Value)}{f:Nat}{ps:List Sh}{F:Mp (Jc ps)->Option Bool}(hC:ConOk P gl f ⟨ps,[.lf .bool none],F⟩){x:Mp (Jc ps)}{pvs:List PV}{vs:List Value}(ha:args ps x=some pvs)(hi:E1 ps x=[])
  (hv:Cr (λ_=>True/\True) w [] pvs vs) (hg:GlOk gl (λ_=>True) w) (hF:F x=some true):Calls P f vs.toArray w λe w'=>e= .returned (.bool true)/\Below w.heap.size w w':=by
 refine(hC.ok (λ_=>True) (λ_=>True) w [] vs pvs x true ha (by rw[hi];rfl) (λi a m h=>by rw[hi]at h;simp at h) trivial hv hg hF).mono ?_;rintro e w' ⟨us,rfl,hk,A1,L1,g1,g2,g3⟩;obtain⟨qs,its,k1,k2,k3,k4,k5⟩:=g3 ⟨[],[],[]⟩ [] (λ_=>True) rfl (λ_ _=>trivial) (λ_ _ _=>trivial);refine⟨?_,⟨hk.gr.os,hk.gr.tape,hk.gr.output,hk.gr.le,λb hb=>hk.same b hb trivial⟩⟩;obtain rfl:=iV (show some [PV.val .bool true]=some qs from k2);obtain⟨_,_,rfl,e1,rfl⟩:=k3;cases(show [_]=[Value.bool true]from e1);rfl
theorem laid_ints{H:Type}{enc:TypeId×Value->H}{fuel:Nat}{t e n:Nat}{k:IntKind}{zs:List Int}{p:List MemPlace}(hu:P.underlying t=some (.array n e))(he:P.underlying e=some (.int k))(hc:P.cellsOf e=1)(ht:P.cellsOf t=n)
  (h:DataW.trod enc P w 0 (λ_=>true) false fuel t cs=some (.agg (zs.map λz=> .lit (.int k z)),p)):cs=zs.map λz=>Value.int k z:=by
 obtain⟨xs,m,rfl,hx,hlen,hn,hel⟩:=DataW.trod_array hu h;simp only[iN,DataW.agg.injEq]at hx;rw[ht]at hlen;have hz:zs.length=n:=by
  have:=congrArg List.length hx.1;simpa [hn]using this
 apply lH;intro i;by_cases hi:i<n
 ·have h0:=hel i hi;rw[hc,mA]at h0;have hxi:xs[i]? =some xs[i]:=gH F4;rw[hxi]at h0;obtain⟨q,e1,e2,_⟩:=DataW.trod_int he h0;have e3:(cs.drop i).take 1=[cs[i]' F4]:=by
   rw[rN F4];rfl
  rw[e3]at e1;have e4:(xs.map (·.1))[i]? =(zs.map λz=>(DataW.lit (.int k z):DataW H))[i]? :=by rw[<-hx.1]
  rw[iS,iS,hxi,gH F4,e2]at e4;simp only[iU,fR,DataW.lit.injEq,Lit.int.injEq,true_and]at e4;rw[iS,gH F4,gH F4];simp only[jJ,and_true]at e1;rw[e1,e4];rfl
 ·rw[lI F4,lI F6]
theorem glOk_cons{n:String}{g:Nat}{cs:Array Value}{l:List Value}{gl:List (Nat×List Value)}(hg:P.globalNamed n=some g)(hv:w.var? P n=some cs)(hl:cs.toList=l)(h:GlOk gl (λ_=>True) w):GlOk ((g,l)::gl) (λ_=>True) w:=by
 intro p hp;rcases List.mem_cons.1 hp with rfl|hp
 ·simp only[World.var?,hg,Option.bind_some]at hv;split at hv
  ·rename_i cs' T fr hh;cases hv;refine⟨(Array.getElem?_eq_some_iff.1 hh).1,trivial,T,fr,?_⟩;rw[hh,<-hl]
  ·cases hv
 ·exact h p hp
theorem glOk_nil{N:Reg}:GlOk [] N w:=λp hp=>by simp at hp
end Go.Rx
namespace Go.Rx
open Go Go.Lv Go.RowKit Go.ChangeShapes Go.WideShapes
variable{cs:List Value}{fuel:Nat}{H:Type}{t:TypeId}{w:World}
variable {P:Program}
theorem laid_bool_int{enc:TypeId×Value->H}{f0 f1:Field}{k:IntKind}{b:Bool}{z:Int}{p:List MemPlace}(hu:P.underlying t=some (.struct #[f0,f1]))
  (h0:P.underlying f0.type=some .bool) (h1:P.underlying f1.type=some (.int k)) (o0:f0.offset=0) (o1:f1.offset=1) (c0:P.cellsOf f0.type=1) (c1:P.cellsOf f1.type=1) (ct:P.cellsOf t=2)
  (h:DataW.trod enc P w 0 (λ_=>true) false fuel t cs=some (.agg [.lit (.bool b), .lit (.int k z)],p)):cs=[.bool b, .int k z]:=by
 obtain⟨xs,m,rfl,hx,hlen,hn,hel⟩:=DataW.trod_struct hu h;rw[ct]at hlen
 match cs,hlen with
 |[a,c],_=>
  match xs,hn with
  |[y0,y1],_=>
   simp only[iN,DataW.agg.injEq,gT,lM,jJ,and_true]at hx;have e0:=hel 0 f0 rfl;have e1:=hel 1 f1 rfl;rw[o0,c0]at e0;rw[o1,c1]at e1;obtain⟨b',q0,r0⟩:=DataW.trod_bool h0 e0;obtain⟨z',q1,r1,_⟩:=DataW.trod_int h1 e1;simp at q0 q1;rw[r0,r1]at hx;simp at hx;rw[q0,q1,hx.1.1,hx.1.2]
theorem fld{enc:TypeId×Value->H}{base:Nat}{spare:Nat->Bool}{held:Bool}{fs:Array Field}{x:DataW H×List MemPlace}(ht:P.underlying t=some (.struct fs))(h:DataW.trod enc P w base spare held fuel t cs=some x)
  (i:Nat) {ft:TypeId} {off k:Nat} {part:List Value} (hf:(fs[i]?).map (λf=>(f.type,f.offset))=some (ft,off)) (hc:P.cellsOf ft=k) (hd:(cs.drop off).take k=part):∃n y,DataW.trod enc P w base spare held n ft part=some y:=by
 obtain⟨xs,n,_,_,_,hn,hel⟩:=DataW.trod_struct ht h;cases hi:fs[i]? with
 |none=>rw[hi]at hf;cases hf
 |some f=>
  rw[hi]at hf;cases hf;have g:=hel i f hi;rw[hc,hd,gH (by rw[hn];exact(Array.getElem?_eq_some_iff.1 hi).1)]at g;exact⟨n,_,g⟩
theorem laid_if{enc:TypeId×Value->H}{m:Array (String×TypeId)}{d:DataW H×List MemPlace}(hu:P.underlying t=some (.interface m))(h:DataW.trod enc P w 0 (λ_=>true) false fuel t cs=some d):∃v,cs=[v]/\ (v= .nilIface\/∃te pe,v= .iface te pe):=by
 cases fuel with
 |zero=>cases h
 |succ n=>
  unfold DataW.trod at h;rw[hu]at h;split at h
  all_goals first
   |exact⟨_,rfl, .inl rfl⟩
   |exact⟨_,rfl, .inr ⟨_,_,rfl⟩⟩
   |(rename_i e;cases e;done)
   |cases h
   |simp_all
end Go.Rx
namespace Go.Rx
open Go Go.Lv Go.RowKit Go.ChangeShapes Go.WideShapes
variable {P:Program}
end Go.Rx
