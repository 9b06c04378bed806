/- A part of a proof (see the text that ends in Proof). No conditions. -/
import Derived.Test.YtehlnpncgkmoaaaGreatDoorOeWA
set_option linter.unusedVariables false
set_option linter.unusedSimpArgs false
namespace Go.Pl
open Go Go.Lv
theorem Aw1{p:Prop}(h:p:=by simp only[Bl,Hl,Ac,Aqm,Aup,Aef];omega):p:=h
end Go.Pl
namespace Go.Pl
open Go Go.Lv
theorem I8(a b:Nat)(h:a*b<=9223372036854775807):Bc (a:Int) (b:Int)=((a*b:Nat):Int):=by
 rw[Gu Av7 Av7,<-Ana]
theorem H4(a b:Nat)(h:a+b<=9223372036854775807):Ae (a:Int) (b:Int)=((a+b:Nat):Int):=by
 rw[Ag,<-Au9]
theorem Aln{bits:Int}(h:¬Bg bits):Ef bits=some 0:=by
 have h8:¬bits=8:=λe=>h (.inl e);have h16:¬bits=16:=λe=>h (.inr (.inl e));have h24:¬bits=24:=λe=>h (.inr (.inr e));rw[Ef,Aa1 (by rw[Ba];simpa using h8),Aa1 (by rw[Ba];simpa using h16),Aa1 (by rw[Ba];simpa using h24)]
instance Asm(bits:Int):Decidable (Bg bits):=by unfold Bg;infer_instance
def yx(c w:Int):Bool:=decide ((1<=c/\c<=6)/\Bg w)
theorem Agk(c w:Int):Ep c w=some (if yx c w=true then 0 else 2):=by
 rw[Ep];by_cases hw:Bg w
 ·rw[wO hw,Aa];simp only;by_cases hc:1<=c/\c<=6
  ·rw[Aa1 Awo,yx,Auc ⟨hc,hw⟩,Abh rfl]
  ·rw[Abh Awo,yx,Anr (λh=>hc h.1),Aa1 F3]
 ·rw[Agb hw,Aa];simp only;rw[Abh Awr,yx,Anr (λh=>hw h.2),Aa1 F3]
theorem Ajn(c w:Int):Cg c w=some (if yx c w=true then 0 else 2):=by
 rw[Cg];by_cases hc:1<=c/\c<=6
 ·rw[Aa1 Av4];by_cases hw:Bg w
  ·have:=(LN w).1;rw[RZ hw,Aa,Aa1 Av5,yx,Auc ⟨hc,hw⟩,Abh rfl]
  ·rw[Aln hw,Aa,Abh F3,yx,Anr (λh=>hw h.2),Aa1 F3]
 ·rw[Abh Av4,yx,Anr (λh=>hc h.1),Aa1 F3]
def aK(r:Int):Bool:=decide (1<=r/\r<=1048576)
def pN(r:Int):Int:=if aK r=true then(Am r.toNat:Int)else 0
theorem Ab2(r:Int):Ko r=some (pN r,if aK r=true then 0 else 2):=by
 by_cases h:1<=r/\r<=1048576
 ·obtain⟨R,rfl⟩:=Akc (show 0<=r by omega);rw[gK F0 F0,pN,aK,Auc h];rfl
 ·rw[Ko,Abh Av4,pN,aK,Anr h];rfl
theorem Acb(r:Int):Ec r=some (pN r,if aK r=true then 0 else 2):=by
 by_cases h:1<=r/\r<=1048576
 ·obtain⟨R,rfl⟩:=Akc (show 0<=r by omega);have e:Ay (Bc (R:Int) 256) 245=((R*256/245:Nat):Int):=by
   rw[Gu,show(R:Int)*256=((R*256:Nat):Int) by omega];exact Oy
  rw[Ec,Aa1 Av4,e,pN,aK,Auc h,Abh rfl,Abh rfl,Am,show(R:Int).toNat=R from rfl,Anw 256 R];by_cases h0:R*256/245=0
  ·rw[Abh Av5];congr 2;omega
  ·rw[Aa1 Av5];congr 2;omega
 ·rw[Ec,Abh Av4,pN,aK,Anr h];rfl
def wz(C w:Int)(c L:Nat)(rest:LB)(l:LX)(fr:List LB)(out:LB):Bool:=
 decide (out=[]/\rest.length<c*wB w/\l.length %c=0/\l.length/c<L/\fr.length<=1000/\Al w l=some 0/\fr.length+(if l=[]then 0 else 1)<=1000/\ (fr.length*L+l.length/c)*c<=4000/\
  ∀x∈fr,5<=x.length/\x.length<= (81*L*c+7)/8+4)
section
variable {w:Int} {c L:Nat} (hw:Bg w) (hc:1<=c/\c<=6) (hL:1<=L/\L<=1100000)
include hw hc hL
omit hw in
theorem Ac8:Ae (Ay (Ae (Bc (Bc 81 (L:Int)) (c:Int)) 7) 8) 4=(((81*L*c+7)/8+4:Nat):Int):=by
 have h1:81*L*c<=81*1100000*6:=Arb F0 hc.2;rw[show(81:Int)=((81:Nat):Int)from rfl,I8 81 L F0,I8 (81*L) c F0,show(7:Int)=((7:Nat):Int)from rfl,H4 (81*L*c) 7 F0,show(8:Int)=((8:Nat):Int)from rfl,Oy,show(4:Int)=((4:Nat):Int)from rfl,H4 _ 4 F0]
omit hw in
theorem Ach(fr:List LB)(hf:fr.length<=2000):∀(j i q:Nat),i+j=fr.length->j<q->Du fr (L:Int) (c:Int) q (i:Int)=some (decide (∀x∈fr.drop i,5<=x.length/\x.length<= (81*L*c+7)/8+4))
 |0,i,q+1,hi,_=>by
  rw[Du,Jh,Aa1 F2,show i=fr.length by omega,At2];rfl
 |j+1,i,q+1,hi,hq=>by
  have hlt:i<fr.length:=F0
  have ih:=Ach fr hf j (i+1) q F0 F0;rw[Du,Jh,Abh F2,Ca hlt,Aa,Qi,Zl,Ac8 hc hL,drop_cons hlt];generalize(81*L*c+7)/8+4=K at*
  by_cases h:5<=fr[i].length/\fr[i].length<=K
  ·rw[Aa1 Awy,Za,Zf,Ag];refine ih.trans ?_;congr 1;rw[An2,Aef,Aef,List.forall_mem_cons];exact⟨λhh=>⟨h,hh⟩,λhh=>hh.2⟩
  ·rw[Abh Awy,Zm,MO,MX,MW];have e:Ls (i:Int) 0=true:=by rw[Hl];simp
   rw[e,Anr (λhh=>h (hh _ Aqz))];rfl
omit hw in
theorem Ai9(C:Int)(fr:List LB)(hf:fr.length<=2000)(f2:Int)(o k:LB)(b:LX)(m:LB)(p:Bool)(u:Int):∀(j i q:Nat),i+j=fr.length->j<q->Eo (L:Int) (c:Int) C f2 o k b fr m p u q (i:Int)=some (decide (∀x∈fr.drop i,5<=x.length/\x.length<= (81*L*c+7)/8+4))
 |0,i,q+1,hi,_=>by
  rw[Eo,Ks,Aa1 F2,show i=fr.length by omega,At2];rfl
 |j+1,i,q+1,hi,hq=>by
  have hlt:i<fr.length:=F0
  have ih:=Ai9 C fr hf f2 o k b m p u j (i+1) q F0 F0;rw[Eo,Ks,Abh F2,Ca hlt,Aa,Aa,Ac8 hc hL,drop_cons hlt];generalize(81*L*c+7)/8+4=K at*
  by_cases h5:5<=fr[i].length
  ·rw[Aa1 (by simp[Af,Ac];omega)];by_cases h:fr[i].length<=K
   ·rw[Aa1 (by simp[Ar,Ac];omega),Ag];refine ih.trans ?_;congr 1;rw[An2,Aef,Aef,List.forall_mem_cons];exact⟨λhh=>⟨⟨h5,h⟩,hh⟩,λhh=>hh.2⟩
   ·rw[Abh (by simp[Ar,Ac];omega),Anr (λhh=>h (hh _ Aqz).2)]
  ·rw[Abh (by simp[Af,Ac];omega),Anr (λhh=>h5 (hh _ Aqz).1)]
theorem Ae2(R:Int)(p rest:LB)(l:LX)(fr:List LB)(out:LB)(u:Bool)(v:Int)(h1:l.length<=4000)(h2:fr.length<=2000):
  Oz (c:Int) w R p rest l fr out u v (L:Int)=some (wz w w c L rest l fr out):=by
 have hok:Hq (Bm (c:Int) 0)=some ():=Bt Av1;have hgs:Ay (Ac l) (c:Int)=((l.length/c:Nat):Int):=by rw[Ac];exact Oy
 have him:Fm (Ac l) (c:Int)=((l.length %c:Nat):Int):=by rw[Ac];exact AV _ _
 have hmo:Rt (c:Int) w=some ((c*wB w:Nat):Int):=by
  rw[Rt];obtain⟨W,rfl⟩:∃W:Nat,w=W:=by
   rcases hw with h|h|h<;>exact⟨_,h⟩
  rw[S3 hc.2 hw]
 rw[Oz,Th];simp only[hok,hgs,him,hmo,Aa];by_cases c1:out=[]
 ·rw[Aa1 (by subst c1;decide)];by_cases c2:rest.length<c*wB w
  ·rw[Aa1 Awp];by_cases c3:l.length %c=0
   ·rw[Aa1 (by rw[Bl,c3];decide)];by_cases c4:l.length/c<L/\fr.length<=1000
    ·rw[Aa1 (by simp[Hl,Ar,Ac];omega),Qn,Qr,QH hw l h1];obtain⟨e,he⟩:=zU hw l h1;rw[he,Aa];by_cases c5:e=0
     ·subst c5;rw[Aa1 F3];have hlc:l.length/c<=4000:=Nat.le_trans (Aqh _ _) h1;have hGL:fr.length*L<=2000*1100000:=Arb h2 hL.2;have Avv:(fr.length*L+l.length/c)*c<= (2000*1100000+4000)*6:=Arb F0 hc.2;have key:∀M:Nat,M<=3000->Md (L:Int) (c:Int) w R p rest l fr out u v (M:Int)=some (decide (M<=1000/\ (fr.length*L+l.length/c)*c<=4000/\∀x∈fr,5<=x.length/\x.length<= (81*L*c+7)/8+4)):=by
       intro M hM;rw[Md,Mb,Qe,hok,Aa,Aa,Py,Aa,hgs,Ac,I8 fr.length L F0,H4 _ _ F0,I8 _ c F0];by_cases c6:M<=1000/\ (fr.length*L+l.length/c)*c<=4000
       ·rw[Aa1 (by simp only[Sm,An6,Bool.and_eq_false_iff,Asb];omega),Ra,Ly,Ql];refine(Ach hc hL fr h2 fr.length 0 Aq F0 F7).trans ?_;rw[Avw];congr 1;rw[An2,Aef,Aef];exact⟨λh=>⟨c6.1,c6.2,h⟩,λh=>h.2.2⟩
       ·rw[Abh (by simp only[Sm,An6,Bool.and_eq_false_iff,Asb];omega),Anr (λh=>c6 ⟨h.1,h.2.1⟩)]
      have fin:∀M:Nat,M=fr.length+(if l=[]then 0 else 1)->some (decide (M<=1000/\ (fr.length*L+l.length/c)*c<=4000/\∀x∈fr,5<=x.length/\x.length<= (81*L*c+7)/8+4))=some (wz w w c L rest l fr out):=by
       intro M hM;congr 1;rw[wz,An2,Aef,Aef,hM];exact⟨λh=>⟨c1,c2,c3,c4.1,c4.2,he,h⟩,λh=>h.2.2.2.2.2.2⟩
      by_cases c0:l=[]
      ·rw[Aa1 (by subst c0;decide),Ac,key fr.length F0];exact fin _ (by rw[Abh c0];rfl)
      ·rw[Abh (by rw[nR];simpa using c0),Ac,Ag,show((fr.length:Int)+1)=((fr.length+1:Nat):Int) by omega,key (fr.length+1) F0];exact fin _ (by rw[Aa1 c0])
     ·rw[Abh (by rw[Bl];simpa using c5),wz,Anr (λh=>c5 (by have:=h.2.2.2.2.2.1;rw[he]at this;exact Auy this))]
    ·rw[Abh (by simp[Hl,Ar,Ac];omega),wz,Anr (λh=>c4 ⟨h.2.2.2.1,h.2.2.2.2.1⟩)]
   ·rw[Abh Av1,Abh Av2,wz,Anr (λh=>c3 h.2.2.1)]
  ·rw[Abh Awp,Abh trivial,Abh Av2,wz,Anr (λh=>c2 h.2.1)]
 ·rw[Abh (by rw[nR];simpa using c1),Abh trivial,Abh trivial,Abh Av2,wz,Anr (λh=>c1 h.1)]
theorem Agl(R:Int)(hR:pN R=L)(p rest:LB)(l:LX)(fr:List LB)(out:LB)(u:Bool)(v:Int)(h1:l.length<=4000)(h2:fr.length<=2000):
  Pe (c:Int) w R p rest l fr out u v=some (wz w w c L rest l fr out):=by
 have hok:Hq (Bm (c:Int) 0)=some ():=Bt Av1;have hgs:Ay (Ac l) (c:Int)=((l.length/c:Nat):Int):=by rw[Ac];exact Oy
 have him:Fm (Ac l) (c:Int)=((l.length %c:Nat):Int):=by rw[Ac];exact AV _ _
 have hmo:Gx (c:Int) w=some ((c*wB w:Nat):Int):=by
  rw[Gx];obtain⟨W,rfl⟩:∃W:Nat,w=W:=by
   rcases hw with h|h|h<;>exact⟨_,h⟩
  rw[S3 hc.2 hw]
 have hlg:He (c:Int) w R p rest l fr out u v=some (L:Int):=by rw[He,Acb,Aa,hR]
 have hLc:L*c<=1100000*6:=Arb hL.2 hc.2;have hlm:Bc (L:Int) (c:Int)=((L*c:Nat):Int):=I8 L c F0;obtain⟨e,he⟩:=zU hw l h1;rw[Pe,Sj];simp only[hlg,hok,him,hmo,hlm,he,Aa];by_cases c1:out=[]
 ·rw[Aa1 (by subst c1;decide)];by_cases c2:rest.length<c*wB w
  ·rw[Aa1 Awp];by_cases c3:l.length %c=0/\l.length/c<L
   ·have c34:l.length<L*c:=(Nat.div_lt_iff_lt_mul F0).1 c3.2;rw[Aa1 Aw1];by_cases c5:e=0/\fr.length<=1000
    ·obtain⟨c5,c4⟩:=c5;subst c5;rw[Aa1 (by simp[Bl,Ar,Ac];omega),Rn,Rl];have hlc:l.length/c<=4000:=Nat.le_trans (Aqh _ _) h1;have hGL:fr.length*L<=2000*1100000:=Arb h2 hL.2;have key:∀M:Nat,M<=3000->Ry (L:Int) (c:Int) w R p rest l fr out u v (M:Int)=some (decide (M<=1000/\ (fr.length*L+l.length/c)*c<=4000/\∀x∈fr,5<=x.length/\x.length<= (81*L*c+7)/8+4)):=by
      intro M hM;have e4:Ay 4000 (c:Int)=((4000/c:Nat):Int):=Oy (a:=4000) F3;rw[Ry,Rq,Dc,hok,Aa,hlg,Aa,Aa,hgs,Ac,I8 fr.length L F0,H4 _ _ F0,Ln,hok,Aa,e4];have hdiv:(fr.length*L+l.length/c<=4000/c)↔(fr.length*L+l.length/c)*c<=4000:=Nat.le_div_iff_mul_le F0;by_cases c6:M<=1000
      ·rw[Abh Awn,Aa];by_cases c7:(fr.length*L+l.length/c)*c<=4000
       ·have c8:=hdiv.2 c7;rw[Aa1 (by simp only[Sm,An6,Asb];omega),BS,Sa,Zq];refine(Ai9 hc hL w fr h2 R p rest l out u v fr.length 0 Aq F0 F7).trans ?_;rw[Avw];congr 1;rw[An2,Aef,Aef];exact⟨λh=>⟨c6,c7,h⟩,λh=>h.2.2⟩
       ·have c8:¬(fr.length*L+l.length/c<=4000/c):=λh=>c7 (hdiv.1 h);rw[Abh (by simp only[Sm,An6,Asb];omega),Anr (λh=>c7 h.2.1)]
      ·rw[Aa1 Awn,Aa,Abh F3,Anr (λh=>c6 h.1)]
     have fin:∀M:Nat,M=fr.length+(if l=[]then 0 else 1)->some (decide (M<=1000/\ (fr.length*L+l.length/c)*c<=4000/\∀x∈fr,5<=x.length/\x.length<= (81*L*c+7)/8+4))=some (wz w w c L rest l fr out):=by
      intro M hM;congr 1;rw[wz,An2,Aef,Aef,hM];exact⟨λh=>⟨c1,c2,c3.1,c3.2,c4,he,h⟩,λh=>h.2.2.2.2.2.2⟩
     by_cases c0:l=[]
     ·rw[Aa1 (by subst c0;decide),Ac,key fr.length F0];exact fin _ (by rw[Abh c0];rfl)
     ·rw[Abh (by rw[nR];simpa using c0),Ac,Ag,show((fr.length:Int)+1)=((fr.length+1:Nat):Int) by omega,key (fr.length+1) F0];exact fin _ (by rw[Aa1 c0])
    ·rw[Abh (by simp[Bl,Ar,Ac];omega),wz,Anr (λh=>c5 ⟨by have:=h.2.2.2.2.2.1;rw[he]at this;exact Auy this,h.2.2.2.2.1⟩)]
   ·have c34:l.length %c≠0\/L*c<=l.length:=by
     by_cases h0:l.length %c=0
     ·exact .inr (by have:=mt (Nat.div_lt_iff_lt_mul (show 0<c by omega) (x:=l.length) (y:=L)).2 (λh=>c3 ⟨h0,h⟩);omega)
     ·exact .inl h0
    rw[Abh Aw1,Abh Av2,wz,Anr (λh=>c3 ⟨h.2.2.1,h.2.2.2.1⟩)]
  ·rw[Abh Awp,Abh Av2,Abh Av2,wz,Anr (λh=>c2 h.2.1)]
 ·rw[Abh (by rw[nR];simpa using c1),Abh trivial,Abh Av2,Abh Av2,wz,Anr (λh=>c1 h.1)]
end
theorem empty_eq(b:LB)(f:LX)(g:List LB)(hb:b.length<=100000)(hf:f.length<=100000)(hg:g.length<=100000):geq (Ae (Ae (Ac b) (Ac f)) (Ac g)) 0=((geq (Ac b) 0&&geq (Ac f) 0)&&geq (Ac g) 0):=by
 rw[Ac,Ac,Ac,H4 _ _ F0,H4 _ _ F0];simp only[Ba];rw[An2];simp only[Afq,Atw];omega
theorem Aen(m n o:Int)(p b:LB)(f:LX)(g:List LB)(h:LB)(k:Bool)(a:Int)(hb:b.length<=100000)(hf:f.length<=4000)(hg:g.length<=2000)(hh:h.length<=1000000):
  ∃E,Uu m n o p b f g h k a=some E/\Jw m n o p b f g h k a=some E:=by
 rw[Uu,Qg,Ab2,Aa,Jw,Kg,Acb,Aa];simp only;rw[Agk,Ajn,Aa,Aa,Aa];simp only;by_cases hR:yx m n=true/\aK o=true/\p.length<=64
 ·obtain⟨h1,h2,h3⟩:=hR;have hp1:xZ (Ac p) 64=true:=by rw[Sm,Ac];simp;omega
  have hp2:Da (Ac p) 64=false:=by rw[Ar,Ac];simp;omega
  have hx:(if((Bm (0:Int) 0||Bm (0:Int) 0)||false)=true then some (2:Int)else some 0)=some 0:=rfl;have hy:¬(Bm (0:Int) 0=true):=F3
  rw[Abh h1,Abh h2,hp1,hp2,Aa1 F3,hx,Aa,Aa1 hy];by_cases ha:Bm a 0=true
  ·rw[Abh ha,Abh ha,empty_eq b f g F0 F0 F0];generalize((geq (Ac b) 0&&geq (Ac f) 0)&&geq (Ac g) 0)=z;have e1:geq (Ac h) 0=decide (h=[]):=Alk h;have e2:Da (Ac h) 0=decide (h≠ []):=nR h;rw[e1,e2];by_cases hq:(((((geq a 18)||(geq a 24))&&(!k))&&z)&&decide (h=[]))=true
   ·rw[Aa1 (by rw[hq];decide),Aa1]
    ·exact⟨0,rfl,rfl⟩
    ·simp only[Afq,Aqm,An6,Aef,Ba,Bl,Aup,Atw]at hq⊢;simp[hq];omega
   ·rw[Abh (by rw[Bool.eq_false_iff.2 hq];rfl),Abh]
    ·exact⟨8,rfl,rfl⟩
    ·simp only[Afq,Aqm,An6,Aef,Ba,Bl,Aup,Atw]at hq⊢;by_cases e3:h=[]
     ·by_cases e4:z=true
      ·by_cases e5:k=true
       ·exact .inl (.inl (.inr e5))
       ·exact .inl (.inl (.inl (by
         simp only[Bool.not_eq_true]at e5;simp[e3,e4,e5]at hq;omega)))
      ·exact .inl (.inr (by simpa using e4))
     ·exact .inr e3
  ·rw[Aa1 ha,Aa1 ha];cases k with
   |true=>
    rw[Abh rfl,Abh rfl,empty_eq b f g F0 F0 F0];generalize((geq (Ac b) 0&&geq (Ac f) 0)&&geq (Ac g) 0)=z;by_cases hq:(z&&xZ (Ac h) 100000)=true
    ·rw[Aa1 (by rw[hq];decide),Aa1]
     ·exact⟨0,rfl,rfl⟩
     ·simp only[Afq,Sm,Aef,Ac]at hq;simp[hq.1,Ar,Ac];omega
    ·rw[Abh (by rw[Bool.eq_false_iff.2 hq];rfl),Abh]
     ·exact⟨8,rfl,rfl⟩
     ·cases z with
      |false=>rfl
      |true=>
       simp[Sm,Ac]at hq;simp[Ar,Ac];omega
   |false=>
    rw[Aa1 F3,Aa1 F3];have hs1:=h1;have hs2:=h2;rw[yx,Aef]at hs1;rw[aK,Aef]at hs2;obtain⟨C,rfl⟩:=Akc (show 0<=m by omega);have hLo:pN o=((Am o.toNat:Nat):Int):=by rw[pN,Abh h2]
    have hL:1<=Am o.toNat/\Am o.toNat<=1100000:=⟨Km _,EM F0⟩;rw[hLo,Ae2 hs1.2 F0 hL o p b f g h false a hf hg,Agl hs1.2 F0 hL o hLo p b f g h false a hf hg,Aa];generalize wz n n C (Am o.toNat) b f g h=B;cases B
    ·exact⟨8,rfl,rfl⟩
    ·exact⟨0,rfl,rfl⟩
 ·have h8:(((geq (if yx m n=true then(0:Int)else 2) 0&&geq (if aK o=true then(0:Int)else 2) 0)&&xZ (Ac p) 64))=false:=by
   rw[Bool.eq_false_iff];intro e;simp only[Afq,Sm,Aef,Ac]at e;refine hR ⟨?_,?_,F0⟩
   ·cases hq:yx m n with
    |true=>rfl
    |false=>rw[hq]at e;exact absurd e.1.1 F3
   ·cases hq:aK o with
    |true=>rfl
    |false=>rw[hq]at e;exact absurd e.1.2 F3
  rw[h8];refine⟨8,rfl,?_⟩;rw[Abh,Aa,Abh F3]
  ·simp only[Aqm,Ar,Aef,Ac];cases hq:yx m n with
   |false=>exact .inl (.inl F3)
   |true=>
    cases hq2:aK o with
    |false=>exact .inl (.inr F3)
    |true=>exact .inr (by have:¬p.length<=64:=λh=>hR ⟨hq,hq2,h⟩;omega)
theorem Awv{p:Prop}(h:p:=by simp only[Abp,Bi];omega):p:=h
end Go.Pl
namespace Go.Pl
open Go Go.Lv
theorem Aod{n w:Nat}(hn:n<2^64)(hw:w<=1000):Ah (Ad (n:Int):UInt64) (w:Int)=some (Ot n w):=by
 rw[Sr,II _ w hw,We hn]
theorem Arf{a:LB}(ha:a.length<=10000000):∃k,Ga a=some k/\Ah (Ad k:UInt64) 4=some (Ot (Mn a).toNat 4):=by
 have hlt:=(Mn a).toNat_lt;refine⟨Mn a,Agj a F0,?_⟩;rw[Dg,show(4:Int)=((4:Nat):Int)from rfl,II _ 4 F0,We F0]
theorem As9{f c w r n:Nat}(hf:f<2^64)(hc:c<2^64)(hw:w<2^64)(hr:r<2^64)(hn:n<2^64):Uf (f:Int) (c:Int) (w:Int) (r:Int) (n:Int)=some (R5 f c w r n):=by
 have w2:∀{m:Nat},m<2^64->Ah (Ad (m:Int):UInt64) 2=some (Ot m 2):=λh=>Aod (w:=2) h F0;have w4:∀{m:Nat},m<2^64->Ah (Ad (m:Int):UInt64) 4=some (Ot m 4):=λh=>Aod (w:=4) h F0;obtain⟨k,k1,k2⟩:=Arf (a:=zT f c w r n) (by rw[eU];omega);have e0:([(84:UInt8),(84:UInt8),(65:UInt8),(49:UInt8)]:LB)=ES:=rfl;have hm:ES.length=4:=rfl;rw[Uf,e0,w2 hf,Aa,As Aws,Aa,w2 hc,Aa,As Awv,Aa,w2 hw,Aa,As Awv,Aa,w4 hr,Aa,As Awv,Aa,w4 hn,Aa,As Awv,Aa];change (Ga (zT f c w r n)).bind _=_;rw[k1,Aa,k2,Aa];change (Br (zT f c w r n) _).bind _=_;rw[As (by rw[eU,Bi];omega),Aa];rfl
theorem Aqt(l:LI)(hl:l.length<=1000)(h5:∀x∈l,0<=x/\x<=100000):BP l=some (jm l):=by
 have loop:∀(j i q:Nat),i+j=l.length->j<q->Hk l q (i:Int) (nF (l.take i))=some (jm l):=by
  intro j
  induction j with
  |zero=>
   intro i q hi hq;obtain⟨q,rfl⟩:∃q',q=q'+1:=⟨q-1,F0⟩;obtain⟨k,k1,k2⟩:=Arf (a:=nF l) (by rw[OI];omega);rw[Hk,Oi,Aa1 F2,Aka F0,Vx,GP,k1,Aa,k2,Aa,As (by rw[OI,Bi];omega),Aa];rfl
  |succ j ih=>
   intro i q hi hq;obtain⟨q,rfl⟩:∃q',q=q'+1:=⟨q-1,F0⟩;have ih:=ih (i+1) q F0 F0;obtain⟨x5,x6⟩:=h5 l[i] (Asx _);obtain⟨v,hv⟩:=Akc (show 0<=l[i] by omega);rw[Hh F0,E1,hv,Ajs]at ih;have w4:Ah (Ad (v:Int):UInt64) 4=some (Ot v 4):=Aod (w:=4) F0 F0;rw[Hk,Oi,Abh F2,Ca,Aa,hv,w4,Aa,As (by rw[OI,Bi,Af3];omega),Aa,Ag];exact ih
 exact loop l.length 0 Aq F0 F7
theorem Am7{a:List LB}(ha:∀y∈a,y.length<=17179869184)(ha2:a.length<=100000)(b f g:Int)(h:LB){x:LB}{s:LX}{z:LB}(hx:x.length<=17179869184)(hs:s.length<=17179869184)(hz:z.length<=17179869184)(k:Bool)(m:Int):Pf b f g h x s a z k m=some (b,f,g,h,x,s,a,z,k,m):=by
 have loop:∀(j i q:Nat),i+j=a.length->j<q->Ig b f g h a k m x s z q (i:Int) (a.take i)=some (b,f,g,h,x,s,a,z,k,m):=by
  intro j
  induction j with
  |zero=>
   intro i q hi hq;obtain⟨q,rfl⟩:∃q',q=q'+1:=⟨q-1,F0⟩;rw[Ig,Pu,Aa1 F2,Aka F0];rfl
  |succ j ih=>
   intro i q hi hq;obtain⟨q,rfl⟩:∃q',q=q'+1:=⟨q-1,F0⟩;have ih:=ih (i+1) q F0 F0;rw[Hh F0]at ih;have h1:=ha a[i] (Asx _);rw[Ig,Pu,Abh F2,Ca,Aa,As F5,Aa,Asa,As F5,Aa,Ag];exact ih
 have h0:=loop a.length 0 Aq F0 F7;rw[Pf,Xd,As F5,Aa,As F5,Aa,As F5,Aa];exact h0
theorem Alx(p:LB):Ji p=some (Zv p:Int):=by
 rw[Ji,Zv];by_cases h0:p=[]
 ·rw[Abh h0,Abh (by simpa using h0)];rfl
 ·rw[Aa1 h0,Aa1 (by simpa using h0)];rfl
theorem Anc{c w r n:Nat}{x:LX}(hcl:ClipOk c w r n x){p:LB}(hp:p.length<=64)(k:LB)(ab:LX):KB (c:Int) (w:Int) (r:Int) p k [] false 0 (Zv p:Int) (n:Int) ab (NM c w r n x p)=some (ML c w r n x p):=by
 have hfn:=Abw hcl p;have hle:=H9 hcl p;have hlen:=pT (c:=c) (w:=w) (r:=r) (n:=n) (x:=x) p;have h5:=uw hcl p;have Atz:=mo p;have hll:=Xf (NM c w r n x p);have hnn:=Am1 (NM c w r n x p);have hsh:(Zv p=1\/Zv p=2)/\ (1<=c/\c<=6)/\ (w=8\/w=16\/w=24)/\ (1<=r/\r<=1048576)/\1<=n:=by simpa only[Uz,Aef]using hcl.shape _ Atz
 have Arx:=hcl.le;have htb:=Z2 hcl p;have h6:∀z∈Ic (NM c w r n x p),0<=z/\z<=100000:=by
  simp only[yU,Afq,Aef]at htb;obtain⟨⟨_,_⟩,h3⟩:=htb;have h4:=(uI _ 100000 F0).1 h3;have h6:=yg h4.1;exact λz hz=>⟨hnn z hz,by have:=h6 z hz;omega⟩
 have hh:=pM (Zv p) c w r n;have ht:=yR (Ic (NM c w r n x p));have hdl:=zR p;have hfin:Oo (c:Int) (w:Int) (r:Int) p k ab [] false 0 (Zv p:Int) (n:Int) (Ic (NM c w r n x p)) (NM c w r n x p).flatten (NM c w r n x p)=some (ML c w r n x p):=by
  rw[Oo,GF,As9 F0 F0 F0 F0 F0,Aa];by_cases h0:p=[]
  ·have e2:nS p=[]:=by rw[nS,Abh h0]
   rw[e2,List.length_nil]at hdl;rw[Aa1 (by simp[h0]),Vf,Vm,Aqt _ F0 h6,Aa,As,Aa,As Awg,Aa,ML,e2];simp
  ·have e2:nS p=Ot (JI p).toNat 8:=by rw[nS,Aa1 h0]
   rw[e2,Bi]at hdl;rw[Abh (by simpa using h0),Ady p hp,Aa,As Aws,Aa,Vf,Vm,Aqt _ F0 h6,Aa,As (by rw[Abp,Bi];omega),Aa,As (by rw[Abp,Abp,Bi];omega),Aa,ML,e2];simp
 have loop:∀(j i q:Nat),i+j=(NM c w r n x p).length->j<q->Im (c:Int) (w:Int) (r:Int) p k ab [] false 0 (Zv p:Int) (n:Int) (NM c w r n x p) q (i:Int) (Ic ((NM c w r n x p).take i)) ((NM c w r n x p).take i).flatten=some (ML c w r n x p):=by
  intro j
  induction j with
  |zero=>
   intro i q hi hq;obtain⟨q,rfl⟩:∃q',q=q'+1:=⟨q-1,F0⟩;rw[Im,Ps,Aa1 F2,Aka F0];exact hfin
  |succ j ih=>
   intro i q hi hq;obtain⟨q,rfl⟩:∃q',q=q'+1:=⟨q-1,F0⟩;have ih:=ih (i+1) q F0 F0;have hlt:i<(NM c w r n x p).length:=F0
   have hll:(Ic ((NM c w r n x p).take i)).length=i:=by rw[Xf,Af3];omega
   have hsn:Ic ((NM c w r n x p).take i)++[Ac (NM c w r n x p)[i]]=Ic ((NM c w r n x p).take (i+1)):=by rw[Hh F0,Ic,Ic,At8];rfl
   have hsf:((NM c w r n x p).take i).flatten++(NM c w r n x p)[i]=((NM c w r n x p).take (i+1)).flatten:=by rw[Hh F0,Au0];simp
   have hfl:((NM c w r n x p).take (i+1)).flatten.length<= (NM c w r n x p).flatten.length:=by
    have:=congrArg (λl:List LB=>l.flatten.length) (Aul (i+1) (NM c w r n x p));simp only[Au0,Abp]at this;omega
   have hfa:=congrArg List.length hsf;rw[Abp]at hfa;rw[Im,Ps,Abh F2,Ca hlt,Aa,Aa,As F5,Aa,Aa,Aa,As,Aa,hsn,hsf,Ag];exact ih
 exact loop (NM c w r n x p).length 0 Aq F0 F7
section
variable {c w r:Nat} {p:LB} (h:EncOk c w r p)
include h
theorem Agf{t:LB}(hR:Rp c r (nE c w t)):(RE c w t).length<=18/\ (SE c w r t).length<=4000/\ (FE c w r p t).length<=1001/\ (∀y∈FE c w r p t,y.length<=17179869184)/\nE c w t<=4000:=by
 have h1:=wC h t;have hs:=fD h;have hsl:=PN (r:=r) h t;have hfl:=dY (c:=c) (w:=w) (r:=r) (p:=p) t;have hn4:=hR.1;have hmod:nE c w t %Am r*c<=nE c w t*c:=Af0 _ (Avm _ _);have hlt:=EM h.rate.2;have hLc:Am r*c<=1100000*6:=Arb F0 h.ch.2;have hn:nE c w t<=4000:=by
  have:nE c w t*1<=nE c w t*c:=At1 _ h.ch.1;omega
 have hk:kE c w r t<=1001:=by
  rcases hR.2 with h0|h0
  ·rw[kE,h0,Avs];omega
  ·rw[kE];have h2:nE c w t/Am r<= (nE c w t-1+Am r)/Am r:=Au7 (by have:=Km r;omega);rw[Nat.add_div_right _ (Km r)]at h2;omega
 exact⟨F0,F0,F0,λy hy=>by have:=Aas h t hR y hy;omega,hn⟩
theorem Aih{t:LB}(hR:Rp c r (nE c w t)):Jw (c:Int) (w:Int) (r:Int) p (RE c w t) (SE c w r t) (FE c w r p t) [] false 0=some 0:=by
 obtain⟨s1,s2,s3,s4,s5⟩:=Agf h hR;obtain⟨E,e1,e2⟩:=Aen (c:Int) (w:Int) (r:Int) p (RE c w t) (SE c w r t) (FE c w r p t) [] false 0 F0 F0 F0 Av2;rw[E5 h t hR]at e1;rw[e2,<-e1]
theorem Ang(m:LB)(n:LX)(o:List LB)(x:LB)(u:Bool)(v:Int):He (c:Int) (w:Int) (r:Int) p m n o x u v=some (Am r:Int):=by
 rw[He,xq h.rate.1 h.rate.2,Aa]
theorem zk{t:LB}(hR:Rp c r (nE c w t))(m x:LB)(u:Bool)(v:Int):Dc (c:Int) (w:Int) (r:Int) p m (SE c w r t) (FE c w r p t) x u v=some (nE c w t:Int):=by
 obtain⟨s1,s2,s3,s4,s5⟩:=Agf h hR;have hc:=h.ch;obtain⟨d1,d2⟩:=vT (r:=r) h t;have hsl:=PN (r:=r) h t;have hfl:=dY (c:=c) (w:=w) (r:=r) (p:=p) t;have Aqc:Ay (Ac (SE c w r t)) (c:Int)=((nE c w t %Am r:Nat):Int):=by
  rw[Ac,hsl,Oy,Auq _ F0]
 rw[Dc,Bt Av1,Aa,Ang h,Aa,Aqc,Ac,hfl,Gu Av7 Av7,<-Ana,Ag,<-Au9,<-d1]
theorem Abd(T:LB)(d:UInt8)(hR:Rp c r (nE c w T)):Lg (c:Int) (w:Int) (r:Int) p (RE c w T) (SE c w r T) (FE c w r p T) [] false 0 d=some (iO c w r p (T++[d])):=by
 obtain⟨s1,s2,s3,s4,s5⟩:=Agf h hR;have hc:=h.ch;have hs:=fD h;have htl:=wC h T;have hsl:=PN (r:=r) h T;have hfl:=dY (c:=c) (w:=w) (r:=r) (p:=p) T;have hlt:=EM h.rate.2;have hmo:Gx (c:Int) (w:Int)=some (jS c w:Int):=by rw[Gx,S3 hc.2 h.bits];rfl
 rw[Lg,BU,As F5,Aa,hmo,Aa];by_cases hlt1:(RE c w T).length+1<jS c w
 ·obtain⟨m1,m2,m3⟩:=Aix h T d hlt1;obtain⟨g1,g2,g3⟩:=Am8 h T (b:=d) (r:=r) (p:=p) hlt1;rw[Abh Awm,iO,m1,Abh hR,m3,g2,g3]
 ·obtain⟨m0,m1,m2,m3⟩:=Aip h T d hlt1;obtain⟨g1,g2⟩:=Anp h T (b:=d) (r:=r) (p:=p) hlt1;have hq4:Ay (4000:Int) (c:Int)=((4000/c:Nat):Int):=by rw[show(4000:Int)=((4000:Nat):Int)from rfl,Oy]
  have hdiv:nE c w T+1<=4000/c↔(nE c w T+1)*c<=4000:=Nat.le_div_iff_mul_le hc.1;have hfits:Ln (c:Int) (w:Int) (r:Int) p (RE c w T++[d]) (SE c w r T) (FE c w r p T) [] false 0 (Ae (Ac (FE c w r p T)) 1) (Ae (nE c w T:Int) 1)=some (decide (kE c w r T+1<=1000/\ (nE c w T+1)*c<=4000)):=by
   rw[Ln,Ac,hfl,Ag,Ag,hq4];by_cases h1:kE c w r T+1<=1000
   ·rw[Abh Awn,Bt Av1,Aa,Sm];congr 1;rw[decide_eq_decide];omega
   ·rw[Aa1 Awn,Anr (λe=>h1 e.1)]
  rw[Aa1 Awm,zk h hR,Aa,hfits,Aa];by_cases hok:kE c w r T+1<=1000/\ (nE c w T+1)*c<=4000
  ·have hR':Rp c r (nE c w (T++[d])):=by rw[m1];exact⟨hok.2, .inr (by rw[Avo];exact hok.1)⟩
   have Aqd:=rQ (RE c w T++[d]) h.bits (m:=c) (by rw[Abp,Ass,m0];rfl) F0;have hLc:Am r*c<=1100000*6:=Arb F0 hc.2;have hmul:Bc (Am r:Int) (c:Int)=((Am r*c:Nat):Int):=by rw[Gu Av7 Av7,<-Ana]
   rw[Auc hok,Aa1 F3,CO,CI,Aqd,Aa];simp only;rw[As (by rw[ER];omega),Aa,Ang h,Aa,hmul];by_cases hfull:(SE c w r T++NP (wB (w:Int)) c (RE c w T++[d])).length<Am r*c
   ·obtain⟨k1,k2,k3⟩:=g1 hfull;rw[Aa1 (by rw[Ba,Ac];simp only[Atw];omega),iO,Abh hR',m3,k2,k3]
   ·obtain⟨k0,k1,k2,k3⟩:=g2 hfull;have hXl:Am r*c<=4000:=by
     have e:=hR'.1;have hlen:(XE c w (T++[d])).length=nE c w (T++[d])*c:=fA (T++[d]);have hdk:=vP (r:=r) h (T++[d]);rw[k1,Aim,Aqu]at hdk;omega
    have hin:H2 (w:Int) (SE c w r T++NP (wB (w:Int)) c (RE c w T++[d])):=by
     intro v hv;rw[List.mem_append]at hv;rcases hv with hv|hv
     ·exact rF h T v (Aue hv)
     ·exact N6 h.bits _ _ v hv
    have hLp:=Avf (Km r) hc.1;have henc:=xA (t:=Tt p) (x:=SE c w r T++NP (wB (w:Int)) c (RE c w T++[d])) h.bits (YM p) hc.1 hc.2 F0 F0 (by rw[k0];exact Asi _ _) hin;rw[Abh (by rw[Ba,Ac];simp only[Atw];omega),BI,kg p h.pass,Aa];simp only;rw[henc,Aa];simp only;rw[As F5,Aa,Aa,iO,Abh hR',m3,k2,k3]
  ·have hno:¬Rp c r (nE c w (T++[d])):=by
    intro hh;rw[m1]at hh;obtain⟨z1,z2⟩:=hh;apply hok;rw[Avo]at z2;have hkE:kE c w r T=nE c w T/Am r:=rfl;omega
   rw[Anr hok,Abh F3,Gp,Aa,iO,Aa1 hno]
theorem Arc(t b:LB)(hb:b.length<=1000000)(hR:Rp c r (nE c w t)):Wj (c:Int) (w:Int) (r:Int) p (RE c w t) (SE c w r t) (FE c w r p t) [] false 0 b=some (iO c w r p (t++b)):=by
 obtain⟨s1,s2,s3,s4,s5⟩:=Agf h hR;have loop:∀(j u q:Nat) (T:LB),u+j=b.length->j<q->T=t++b.take u->Rp c r (nE c w T)->Ih b q (u:Int) (c:Int) (w:Int) (r:Int) p false 0 (RE c w T) (SE c w r T) (FE c w r p T) []=some (iO c w r p (t++b)):=by
  intro j
  induction j with
  |zero=>
   intro u q T hu hq hT hR;obtain⟨q,rfl⟩:∃q',q=q'+1:=⟨q-1,F0⟩;rw[Aka F0]at hT;rw[Ih,Kv,Aa1 F2,Vs,HH,iO,<-hT,Abh hR]
  |succ j ih=>
   intro u q T hu hq hT hR;obtain⟨q,rfl⟩:∃q',q=q'+1:=⟨q-1,F0⟩;have hT':T++[b[u]' F0]=t++b.take (u+1):=by rw[hT,Hh F0,Aqj]
   have hmono:nE c w (T++[b[u]' F0])<=nE c w (t++b):=Au7 (by rw[hT',Abp,Abp,Af3];omega);have hbf:=Abd h T (b[u]' F0) hR;rw[Ih,Kv,Abh F2,Ca,Aa,hbf,iO];by_cases hok:Rp c r (nE c w (T++[b[u]' F0]))
   ·rw[Abh hok,Aa];simp only;rw[Pz,Xj,Aa1 F3,Ag];exact ih (u+1) q _ F0 F0 hT' hok
   ·rw[Aa1 hok,Aa];simp only;rw[Pz,Xj,Abh F3,iO,Aa1 (λhh=>hok (hh.mono hmono))]
 have hl:=loop b.length 0 Aq t F0 F7 Av2 hR;rw[Wj,Xk,Aih h hR,Aa,Aa1 F3,Am7 s4 F0 _ _ _ _ F0 F0 Av2,Aa];simp only;rw[Lb,Aa1 F3,Aa1 F3,Aa,Aa1 F3];exact hl
theorem As1:Xx (c:Int) (w:Int) (r:Int) p=some ((c:Int),(w:Int),(r:Int),p,RE c w [],SE c w r [],FE c w r p [],[],false,0,0):=by
 have h0:nE c w []=0:=Avs _;have hk:kE c w r []=0:=by rw[kE,h0];exact Avs _
 have Abo:Kg (c:Int) (w:Int) (r:Int) p=some 0:=by
  rw[Kg,xq h.rate.1 h.rate.2,Aa];simp only;have hsh:yx (c:Int) (w:Int)=true:=by rw[yx,Aef];exact⟨by have:=h.ch;omega,h.bits⟩
  rw[Ajn,Aa,hsh,Abh rfl,Aa1 (by have:=h.pass;simp[Bl,Ar,Ac];omega)]
 rw[Xx,Abo,Aa,Aa1 F3,RE,SE,FE,XE,hk,h0];simp[NP,Gt]
theorem Amj(t:LB)(hR:Rp c r (nE c w t)):Qx (c:Int) (w:Int) (r:Int) p (RE c w t) (SE c w r t) (FE c w r p t) [] false 0=
  some (if RE c w t≠ []\/nE c w t=0 then((c:Int),(w:Int),(r:Int),p,[],[],[],[],false,24,24)else((c:Int),(w:Int),(r:Int),p,[],[],[],ML c w r (nE c w t) (XE c w t) p,true,0,0)):=by
 obtain⟨s1,s2,s3,s4,s5⟩:=Agf h hR;have hc:=h.ch;have hsl:=PN (r:=r) h t;rw[Qx,To,Aih h hR,Aa,Aa1 F3,Am7 s4 F0 _ _ _ _ F0 F0 Av2,Aa];simp only;rw[Lb,Aa1 F3,Aa1 F3,Aa,Aa1 F3];by_cases hr0:RE c w t=[]
 case neg=>
  have hl:0<(RE c w t).length:=List.length_pos_iff.2 hr0;rw[Abh (by rw[Ar,Ac];simpa using hl),Gp,Aa,Abh (.inl hr0)]
 rw[Aa1 (by rw[hr0];decide),zk h hR,Aa];by_cases hn0:nE c w t=0
 ·rw[Abh (by rw[Ba,hn0];rfl),Gp,Aa,Abh (.inr hn0)]
 have hn1:1<=nE c w t:=F0
 have hcl:=qb h t hR hn1;have hfr:=wK h t (r:=r) (p:=p) hn1;rw[Aa1 Av5,Aa1 (λe=>by rcases e with e|e;exact e hr0;exact hn0 e),Ud,Nb,Lp,Pd,Alx,Aa,zk h hR,Aa,JH,Xb];by_cases hS:SE c w r t=[]
 ·rw[Abh hS,Ap2]at hfr;rw[Aa1 (by rw[hS];decide),<-hfr,Anc hcl h.pass,Aa]
 ·rw[Aa1 hS]at hfr;have hl:0<(SE c w r t).length:=List.length_pos_iff.2 hS;have hin:H2 (w:Int) (SE c w r t):=λv hv=>rF h t v (Aue hv);have henc:=xA (t:=Tt p) (x:=SE c w r t) h.bits (YM p) hc.1 hc.2 F0 F0 (by rw[hsl];exact Asi _ _) hin;rw[Abh (by rw[Ar,Ac];simpa using hl),kg p h.pass,Aa];simp only;rw[henc,Aa];simp only;rw[As F5,Aa,<-hfr,Anc hcl h.pass,Aa]
end
abbrev Chk:=LB×LB×Unit
def fI(n:LB):List Chk->Option Nat
 |[]=>none
 |c::l=>if(c.1==n)=true then some 0 else(fI n l).map (· +1)
def cL(n:LB):List Chk->Nat
 |[]=>0
 |c::l=>(if(c.1==n)=true then 1 else 0)+cL n l
def lI(n:LB):List Chk->Nat
 |[]=>0
 |c::l=>if cL n l=0 then 0 else lI n l+1
theorem uD{n:LB}:∀{l:List Chk},fI n l=none↔cL n l=0
 |[]=>by simp[fI,cL]
 |c::l=>by
  rw[fI,cL];by_cases h:(c.1==n)=true
  ·rw[Abh h,Abh h];simp
  ·rw[Aa1 h,Aa1 h,Option.map_eq_none_iff,uD,Ar7]
theorem Ac3{n:LB}:∀{l:List Chk} {k:Nat},fI n l=some k->k<l.length/\cL n l=cL n (l.drop (k+1))+1/\ (cL n l=1->lI n l=k)
 |[],k,h=>by cases h
 |c::l,k,h=>by
  rw[fI]at h;by_cases hc:(c.1==n)=true
  ·rw[Abh hc]at h;cases h;refine⟨Av2,by rw[cL,Abh hc];simp;omega,λh1=>?_⟩;rw[cL,Abh hc]at h1;rw[lI,Abh F0]
  ·rw[Aa1 hc,At7]at h;obtain⟨k',h',rfl⟩:=h;obtain⟨a1,a2,a3⟩:=Ac3 h';refine⟨by simp;omega,by rw[cL,Aa1 hc];simp;omega,λh1=>?_⟩;rw[cL,Aa1 hc]at h1;rw[lI,Aa1 F0,a3 F0]
theorem Aku{n:LB}{l:List Chk}(h:cL n l=0):lI n l=0:=by
 cases l with
 |nil=>rfl
 |cons c l=>
  rw[cL]at h;rw[lI,Abh F0]
theorem og{l:List Chk}{n:LB}(hl:l.length<=20):gZ l n=some (match fI n l with|some k=>((k:Int),0)|none=>(0,6)):=by
 have loop:∀(j i q:Nat),i+j=l.length->j<q->Ye l n q (i:Int)=some (match fI n (l.drop i)with|some k=>(((i+k:Nat):Int),0)|none=>(0,6)):=by
  intro j
  induction j with
  |zero=>
   intro i q hi hq;obtain⟨q,rfl⟩:∃z,q=z+1:=⟨q-1,F0⟩;rw[Ye,NW,Aa1 F2,TZ,jP,IY,TH,Abh F3,Asf F0];rfl
  |succ j ih=>
   intro i q hi hq;obtain⟨q,rfl⟩:∃z,q=z+1:=⟨q-1,F0⟩;have hlt:i<l.length:=F0
   have hdrop:l.drop i=l[i]::l.drop (i+1):=(List.getElem_cons_drop hlt).symm;rw[Ye,NW,Abh F2,Ca hlt,Aa,TD,jR,hdrop,fI];by_cases hb:(l[i].1==n)=true
   ·rw[Abh hb,IY,TH,Aa1 Av8,Abh hb];rfl
   ·rw[Aa1 hb,kK,jV,Ag,Aa1 hb];have:=ih (i+1) q F0 F0;refine Asr this ?_;cases fI n (l.drop (i+1))with
    |none=>rfl
    |some k=>simp only[Aux];congr 2;omega
 have h:=loop l.length 0 Aq F0 F7;rw[Avw]at h;refine Asr h ?_;cases fI n l with
 |none=>rfl
 |some k=>simp
theorem Abr{l:List Chk}{n:LB}(hl:l.length<=20):Tn l n=some ((cL n l:Int),(lI n l:Int)):=by
 have loop:∀(j i q a g:Nat),i+j=l.length->j<q->a<=i->Hg l n q (a:Int) (g:Int) (i:Int)=some (((a+cL n (l.drop i):Nat):Int),((if cL n (l.drop i)=0 then g else i+lI n (l.drop i):Nat):Int)):=by
  intro j
  induction j with
  |zero=>
   intro i q a g hi hq ha;obtain⟨q,rfl⟩:∃z,q=z+1:=⟨q-1,F0⟩;rw[Hg,Oh,Aa1 F2,Asf F0];rfl
  |succ j ih=>
   intro i q a g hi hq ha;obtain⟨q,rfl⟩:∃z,q=z+1:=⟨q-1,F0⟩;have hlt:i<l.length:=F0
   have hdrop:l.drop i=l[i]::l.drop (i+1):=(List.getElem_cons_drop hlt).symm;rw[Hg,Oh,Abh F2,Ca hlt,Aa,hdrop,cL,lI];by_cases hb:(l[i].1==n)=true
   ·have:=ih (i+1) q (a+1) i F0 F0 F0;rw[Abh hb,Abh hb,Ag,Ag];refine Asr this ?_;by_cases h0:cL n (l.drop (i+1))=0
    ·rw[Abh h0,Abh h0,Aa1 F0,h0,show a+1+0=a+(1+0) by omega,show i+0=i by omega]
    ·rw[Aa1 h0,Aa1 h0,Aa1 F0,show a+1+cL n (l.drop (i+1))=a+(1+cL n (l.drop (i+1))) by omega,show i+1+lI n (l.drop (i+1))=i+(lI n (l.drop (i+1))+1) by omega]
   ·have:=ih (i+1) q a g F0 F0 F0;rw[Aa1 hb,Aa1 hb,Ag,Ar7];refine Asr this ?_;by_cases h0:cL n (l.drop (i+1))=0
    ·rw[Abh h0,Abh h0]
    ·rw[Aa1 h0,Aa1 h0,Aa1 h0,show i+1+lI n (l.drop (i+1))=i+(lI n (l.drop (i+1))+1) by omega]
 have h:=loop l.length 0 Aq 0 0 F0 F7 F0;rw[Avw,Ar7,Ar7]at h;refine Asr h ?_;by_cases h0:cL n l=0
 ·rw[Abh h0,h0,Aku h0]
 ·rw[Aa1 h0]
theorem pI{l:List Chk}{n:LB}(hl:l.length<=20):(cL n l=0/\OT l n=some (0,6))\/ (cL n l=1/\lI n l<l.length/\OT l n=some ((lI n l:Int),0))\/ (1<cL n l/\OT l n=some (0,12)):=by
 have hF:=og (l:=l) (n:=n) hl;rw[OT];cases h:fI n l with
 |none=>
  rw[h]at hF;refine .inl ⟨uD.1 h,?_⟩;rw[hF,Aa];rfl
 |some k=>
  rw[h]at hF;obtain⟨a1,a2,a3⟩:=Ac3 h;have hG:=og (l:=l.drop (k+1)) (n:=n) F5;rw[hF,Aa];simp only;rw[Aa1 F3,Ag,show(k:Int)+1=((k+1:Nat):Int) by omega,Yo,Aa,Ajs,hG,Aa];cases h2:fI n (l.drop (k+1))with
  |none=>
   have:=uD.1 h2;refine .inr (.inl ⟨F0,by rw[a3 F0];exact a1,?_⟩);simp only;rw[Aa1 F3,a3 F0]
  |some k2=>
   have hne:cL n (l.drop (k+1))≠0:=λe=>by rw[uD.2 e]at h2;cases h2
   refine .inr (.inr ⟨F0,?_⟩);simp only;rw[Abh F3]
def fv(b:LB)(a w:Nat):UInt64:=if a+w<=b.length then gS (part b a w)else 0
theorem NK{b:LB}{q a w f:Nat}{l:LQ}(hb:b.length<=100000)(ha:a<=100)(hf:f<9)(hw:Aj ([(2:Int),(2:Int),(4:Int),(4:Int),(2:Int),(2:Int),(2:Int),(2:Int),(4:Int)]:LI) (f:Int)=some (w:Int))(h1:1<=w)(h8:w<=8)(hl:l.length=9)(h0:l[f]? =some 0):
  Ki b (q+1) (a:Int) (f:Int) l=Ki b q ((a+w:Nat):Int) ((f+1:Nat):Int) (l.set f (fv b a w)):=by
 rw[Ki,Yf,Abh F9,hw,Aa,Ag,show(a:Int)+(w:Int)=((a+w:Nat):Int) by omega,Ag,show(f:Int)+1=((f+1:Nat):Int) by omega,fv];by_cases h:a+w<=b.length
 ·rw[Abh (by rw[Sm,Ac];simp;omega),Y6 b a w h1 h8 h F0,Aa];simp only;rw[Ca,Aa,Xn _ F0,Aa,Abh h]
 ·rw[Aa1 (by rw[Sm,Ac];simp;omega),Aa1 h];congr 1;have hlt:f<l.length:=F0
  rw[List.getElem?_eq_getElem hlt]at h0;rw[<-Auy h0,List.set_getElem_self]
theorem Al0{b:LB}(hb:b.length<=100000):Ux b=Yd b [fv b 0 2,fv b 2 2,fv b 4 4,fv b 8 4,fv b 12 2,fv b 14 2,fv b 16 2,fv b 18 2,fv b 20 4]:=by
 obtain⟨q,hq⟩:=Ag9;rw[Ux,HR,UJ,hq];refine Asr (NK (a:=0) (f:=0) (w:=2) hb F0 F0 rfl F0 F0 rfl rfl) ?_;refine Asr (NK (a:=0+2) (f:=0+1) (w:=2) hb F0 F0 rfl F0 F0 rfl rfl) ?_;refine Asr (NK (a:=0+2+2) (f:=0+1+1) (w:=4) hb F0 F0 rfl F0 F0 rfl rfl) ?_;refine Asr (NK (a:=0+2+2+4) (f:=0+1+1+1) (w:=4) hb F0 F0 rfl F0 F0 rfl rfl) ?_;refine Asr (NK (a:=0+2+2+4+4) (f:=0+1+1+1+1) (w:=2) hb F0 F0 rfl F0 F0 rfl rfl) ?_;refine Asr (NK (a:=0+2+2+4+4+2) (f:=0+1+1+1+1+1) (w:=2) hb F0 F0 rfl F0 F0 rfl rfl) ?_;refine Asr (NK (a:=0+2+2+4+4+2+2) (f:=0+1+1+1+1+1+1) (w:=2) hb F0 F0 rfl F0 F0 rfl rfl) ?_;refine Asr (NK (a:=0+2+2+4+4+2+2+2) (f:=0+1+1+1+1+1+1+1) (w:=2) hb F0 F0 rfl F0 F0 rfl rfl) ?_;refine Asr (NK (a:=0+2+2+4+4+2+2+2+2) (f:=0+1+1+1+1+1+1+1+1) (w:=4) hb F0 F0 rfl F0 F0 rfl rfl) ?_;rw[Ki,Yf,Aa1 F3];rfl
theorem zi(b:LB)(a:Nat):(fv b a 2).toNat<65536:=by
 rw[fv];split
 ·have hp:(part b a 2).length=2:=Dj (by assumption);rw[Yn F0];have:∀l:LB,l.length=2->Li l<65536:=by
   intro l hl
   match l,hl with
   |[x,y],_=>have:=x.toNat_lt;have:=y.toNat_lt;simp only[Li];omega
  exact this _ hp
 ·decide
theorem Agg(b:LB)(a:Nat):(fv b a 4).toNat<4294967296:=by
 rw[fv];split
 ·have hp:(part b a 4).length=4:=Dj (by assumption);rw[Yn F0];exact gY F0
 ·decide
theorem Z9{b:LB}{a w:Nat}(h:a+w<=b.length):fv b a w=gS (part b a w):=by rw[fv,Abh h]
theorem fi{v:UInt64}(h:v.toNat<4294967296):(Ad v:Int)=(v.toNat:Int):=Ym F0
def fOk(c w r:Nat):Prop:=(1<=c/\c<=6)/\Bg (w:Int)/\ (1<=r/\r<=1048576)
theorem As0(c w r:Nat):(fOk c w r/\Lh (c:Int) (w:Int) (r:Int)=some 0/\Kb (c:Int) (w:Int) (r:Int)=some 0)\/ (Lh (c:Int) (w:Int) (r:Int)=some 8/\Kb (c:Int) (w:Int) (r:Int)=some 8):=by
 by_cases h:fOk c w r
 ·obtain⟨⟨h1,h6⟩,hw,hr1,hr⟩:=h;refine .inl ⟨⟨⟨h1,h6⟩,hw,hr1,hr⟩,Afe h1 h6 hw hr1 hr,?_⟩;rw[Kb,Aa1 Av4,Aa1];unfold Bg at hw;simp[Bl,Af,Ar];omega
 ·right;constructor
  ·rw[Lh];by_cases hb:((((Cm (c:Int) 1)||(Da (c:Int) 6))||(Cm (r:Int) 1))||(Da (r:Int) 1048576))=true
   ·rw[Abh hb]
   ·rw[Aa1 hb];simp only[Aqm,not_or,Af,Ar,Aef]at hb;have hw:¬Bg (w:Int):=λhw=>h ⟨⟨F0,F0⟩,hw,F0,F0⟩;unfold Bg at hw;rw[Aa1 Av5,Aa1 Av5,Aa1 Av5]
  ·rw[Kb];by_cases hc:((Cm (c:Int) 1)||(Da (c:Int) 6))=true
   ·rw[Abh hc,Abh (by rfl)]
   ·rw[Aa1 hc,Abh];refine Classical.byContradiction λhb=>h ?_;simp only[Aqm,Afq,not_or,not_and,Af,Ar,Bl,Aef,Aup,ne_eq,Decidable.not_not]at hb hc;refine⟨⟨F0,F0⟩,?_,F0,F0⟩;unfold Bg;by_cases h8:(w:Int)=8
    ·exact .inl h8
    ·by_cases h16:(w:Int)=16
     ·exact .inr (.inl h16)
     ·exact .inr (.inr (hb.1.1 ⟨h8,h16⟩))
theorem uq{c w r:Int}{g:UInt64}{b:LB}{z:LB}(hg:g.toNat<65536)(h:iN c w r g++z=b):fv b 0 2=g:=by
 have hl:(iN c w r g).length=16:=OJ _ _ _ _;have hb:b.length=16+z.length:=by rw[<-h,Abp,hl]
 rw[Z9 F0,<-h];have e:part (iN c w r g++z) 0 2=Ot g.toNat 2:=by
  rw[part,iN];simp only[Aqj,Avw];rw[Aus Aws];exact Aka Aws
 rw[e];apply UInt64.toNat_inj.1;rw[Yn Aws,Ac2];exact Acn (by simpa using hg)
theorem Agx{b:LB}(hb:b.length<=100000):∃(c w r e:Int),Ux b=some (c,w,r,e)/\Qa b=some (c,w,r,e)/\ (e=0->∃c' w' r':Nat,c=(c':Int)/\w=(w':Int)/\r=(r':Int)/\fOk c' w' r'):=by
 have hc2:=zi b 2;have hw2:=zi b 14;have hr4:=Agg b 4;have hm4:=Agg b 20;have ht2:=zi b 0;have hP:Ux b=Yd b [fv b 0 2,fv b 2 2,fv b 4 4,fv b 8 4,fv b 12 2,fv b 14 2,fv b 16 2,fv b 18 2,fv b 20 4]:=Al0 hb;have g0:∀v0 v1 v2 v3 v4 v5 v6 v7 v8:UInt64,Yd b [v0,v1,v2,v3,v4,v5,v6,v7,v8]=(Lh (Ad v1:Int) (Ad v5:Int) (Ad v2:Int)).bind λn=>if(Bm n 0)then some (0,0,0,12)else(Nc (Ad v1:Int) (Ad v5:Int) (Ad v2:Int) (geq v0 65534) v8).bind λu=>(CW b u).bind λv=>if(!v)then some (0,0,0,12)else some ((Ad v1:Int),(Ad v5:Int),(Ad v2:Int),0):=λ_ _ _ _ _ _ _ _ _=>rfl;rw[hP,g0,fi F0,fi F0,fi F0];have hR:Qa b=if b.length≠16/\b.length≠40 then some (0,0,0,12)else Fv b (fv b 2 2) (fv b 14 2) (fv b 4 4):=by
  rw[Qa,Pj];by_cases hl:b.length≠16/\b.length≠40
  ·rw[Abh (by simp[Bl,Ac];omega),Abh hl]
  ·have h16:16<=b.length:=F0
   have cut:∀x y:Nat,x<=y->y<=16->Cr b (x:Int) (y:Int)=some (part b x (y-x)):=by
    intro x y hxy hy;rw[Ve,part,Ajs,Ajs,show x+(y-x)=y by omega]
   have e1:(part b 2 (4-2)).length=2:=Dj;have e2:(part b 4 (8-4)).length=4:=Dj;have e3:(part b 14 (16-14)).length=2:=Dj;rw[Aa1 (by simp[Bl,Ac];omega),Aa1 hl,show Cr b 2 4=_ from cut 2 4 F0 F0,Aa,show Cr b 4 8=_ from cut 4 8 F0 F0,Aa,show Cr b 14 16=_ from cut 14 16 F0 F0,Aa,oY _ F0,Aa,oY _ F0,Aa,oY _ F0,Aa,Z9 F0,Z9 F0,Z9 F0]
 rw[hR];have hF:=As0 (fv b 2 2).toNat (fv b 14 2).toNat (fv b 4 4).toNat;have hE:∀u:LB,CW b u=some (b==u):=λu=>rfl;have Ase:∀(g b' f:UInt64) (n:LB),JK b g b' f n=if(n !=b)then some (0,0,0,12)else some ((Ad g:Int),(Ad b':Int),(Ad f:Int),0):=λ_ _ _ _=>rfl;rcases hF with⟨hok,k1,k2⟩|⟨k1,k2⟩
 case inr=>
  refine⟨0,0,0,12,by rw[k1,Aa,Abh F3],?_,λe=>absurd e F3⟩;by_cases hl:b.length≠16/\b.length≠40
  ·rw[Abh hl]
  ·rw[Aa1 hl,Fv,Xe,fi F0,fi F0,fi F0,k2,Aa,Abh F3]
 obtain⟨⟨h1,h6⟩,hw,hr1,hr⟩:=hok;obtain⟨z1,z2,z3,z4⟩:=Apn h1 h6 hw (R:=(Ad (((fv b 4 4).toNat:Nat):Int):UInt64)) (by rw[Sr,Ahx];omega);have zr:(Ad (((fv b 4 4).toNat:Nat):Int):UInt64).toNat<4294967296:=by rw[Sr,Ahx];omega
 rw[k1,Aa,Aa1 F3];generalize hC:(((fv b 2 2).toNat:Nat):Int)=C at*
 generalize hW:(((fv b 14 2).toNat:Nat):Int)=W at*
 generalize hRR:(((fv b 4 4).toNat:Nat):Int)=R at*
 have At0:∀v:UInt64,v.toNat<4294967296-> (Ad (Ad v:UInt32):UInt64)=v:=λv hv=>by
  have e:(Ad v:UInt32)=UInt32.ofNat v.toNat:=by simp only[Ad,Ho,Jn]
  rw[e,Dg,Aj1,Acn F0];simp
 have hplain:∀m:UInt64,Nc C W R false m=some (iN C W R 1):=by
  intro m;rw[Nc,Xy,Aa1 F3,IL,Yj];obtain⟨q,hq⟩:=Anm (v0:=1) (v1:=(Ad C:UInt64)) (v2:=(Ad R:UInt64)) (v3:=(Bc (Ad R:UInt64) (Ad (Ay (Bc C W) 8):UInt64))) (v4:=(Ad (Ay (Bc C W) 8):UInt64)) (v5:=(Ad W:UInt64)) (t:=[22,(Ad W:UInt64),m]) F3 z1 zr z4 z2 z3 false 6 F0;rw[hq,Ah4];rfl
 have hwide:∀m:UInt64,m.toNat<4294967296->Nc C W R true m=some (iN C W R 65534++(Ot 22 2++(Ot (Ad W:UInt64).toNat 2++(Ot m.toNat 4++oJ)))):=by
  intro m hm;rw[Nc,Xy,Abh rfl];change (some (1:UInt64)).bind _=_;rw[Aa];change (some ([(65534:UInt64),(Ad C:UInt64),(Ad R:UInt64),(Bc (Ad R:UInt64) (Ad (Ay (Bc C W) 8):UInt64)),(Ad (Ay (Bc C W) 8):UInt64),(Ad W:UInt64),(22:UInt64),(Ad W:UInt64),m]:LQ)).bind _=_;rw[Aa,IL,Yj];obtain⟨q,hq⟩:=Anm (v0:=65534) (v1:=(Ad C:UInt64)) (v2:=(Ad R:UInt64)) (v3:=(Bc (Ad R:UInt64) (Ad (Ay (Bc C W) 8):UInt64))) (v4:=(Ad (Ay (Bc C W) 8):UInt64)) (v5:=(Ad W:UInt64)) (t:=[22,(Ad W:UInt64),m]) F3 z1 zr z4 z2 z3 true 9 F0;rw[hq,Yk (k:=2) _ F0 (show _=some (22:UInt64)from rfl) rfl F0 F0 F3 Awb,show Ae (6:Int) 1=7 by decide,
   Yk (k:=2) _ F0 (show _=some (Ad W:UInt64)from rfl) rfl F0 F0 z3 Awb,show Ae (7:Int) 1=8 by decide,
   Yk (k:=4) _ F0 (show _=some m from rfl) rfl F0 F0 hm Awb,show Ae (8:Int) 1=9 by decide,Aft Awb]
  simp[iN]
 have hl1:(iN C W R 1).length=16:=OJ _ _ _ _;have hl2:∀m:UInt64,(iN C W R 65534++(Ot 22 2++(Ot (Ad W:UInt64).toNat 2++(Ot m.toNat 4++oJ)))).length=40:=λm=>by simp[OJ,Bi,oJ]
 have hfin:∀u:LB,(b=u-> (b.length=16\/b.length=40))->∀u':LB,(b=u↔u'=b)-> ((CW b u).bind λv=>if(!v)then some ((0:Int),(0:Int),(0:Int),(12:Int))else some (C,W,R,(0:Int)))=if(u' !=b)then some (0,0,0,12)else some (C,W,R,0):=by
  intro u _ u' hiff;rw[hE,Aa];by_cases h:b=u
  ·rw[Aa1 (by simp[h]),Aa1 (by simp[hiff.1 h])]
  ·rw[Abh (by simp[h]),Abh (by simp;exact λe=>h (hiff.2 e))]
 have hgc:(Ad (fv b 2 2):Int)=C:=by rw[fi F0,hC]
 have hgw:(Ad (fv b 14 2):Int)=W:=by rw[fi F0,hW]
 have hgr:(Ad (fv b 4 4):Int)=R:=by rw[fi F0,hRR]
 have hgood:fOk (fv b 2 2).toNat (fv b 14 2).toNat (fv b 4 4).toNat:=⟨⟨h1,h6⟩,by rw[hW];exact hw,hr1,hr⟩;have h3:∀_:¬(b.length≠16/\b.length≠40),Fv b (fv b 2 2) (fv b 14 2) (fv b 4 4)=if b.length=40 then(if((iN C W R 65534++(Ot 22 2++(Ot (Ad W:UInt64).toNat 2++(Ot (fv b 20 4).toNat 4++oJ)))) !=b)then some (0,0,0,12)else some (C,W,R,0))else(if(iN C W R 1 !=b)then some (0,0,0,12)else some (C,W,R,0)):=by
  intro hl;rw[Fv,Xe,hgc,hgw,hgr,k2,Aa,Aa1 F3,BK,C9,Aa,Aa];by_cases h40:b.length=40
  ·have hc:Cr b 20 24=some (part b 20 4):=by rw[Ve];rfl
   have e4:(part b 20 4).length=4:=Dj;rw[Abh (by rw[Ba,Ac,h40];rfl),Abh h40,hc,Aa,oY _ F0,Aa,<-Z9 F0,Zd,C9,Aa,As (by simp[OJ]),Aa,wr2,Aa,As (by simp[OJ,Bi]),Aa,At0 _ hm4,wr4,Aa,As (by simp[OJ,Bi]),Aa,As (by simp[OJ,Bi]),Aa,Aa,Ase,hgc,hgw,hgr];have e22:Ot 22 2=[22,0]:=F3
   rw[e22];simp[oJ]
  ·rw[Aa1 Awd,Aa1 h40,Ase,hgc,hgw,hgr]
 have hres:∃e:Int×Int×Int×Int,(e=(0,0,0,12)\/e=(C,W,R,0))/\ ((Nc C W R (geq (fv b 0 2) 65534) (fv b 20 4)).bind λu=>(CW b u).bind λv=>if(!v)then some (0,0,0,12)else some (C,W,R,0))=some e/\ (if b.length≠16/\b.length≠40 then some (0,0,0,12)else Fv b (fv b 2 2) (fv b 14 2) (fv b 4 4))=some e:=by
  by_cases ht:fv b 0 2=65534
  ·rw[ht,show geq (65534:UInt64) 65534=true from rfl,hwide _ hm4,Aa,hE,Aa];by_cases he:b=iN C W R 65534++(Ot 22 2++(Ot (Ad W:UInt64).toNat 2++(Ot (fv b 20 4).toNat 4++oJ)))
   ·have h40:b.length=40:=by rw[he];exact hl2 _
    refine⟨_, .inr rfl,?_,?_⟩
    ·rw[Aa1 (by simp[<-he])]
    ·rw[Aa1 F0,h3 F0,Abh h40,Aa1 (by simp[<-he])]
   ·refine⟨_, .inl rfl,?_,?_⟩
    ·rw[Abh (by simp[he])]
    ·by_cases hl:b.length≠16/\b.length≠40
     ·rw[Abh hl]
     ·rw[Aa1 hl,h3 hl];by_cases h40:b.length=40
      ·rw[Abh h40,Abh (by simp;exact λe=>he e.symm)]
      ·rw[Aa1 h40,Abh];simp only[Aup,ne_eq];intro e;have:=uq (c:=C) (w:=W) (r:=R) (b:=b) (z:=[]) (g:=1) F3 (by rw[Ap2];exact e);rw[ht]at this;exact absurd this F3
  ·rw[show geq (fv b 0 2) 65534=false by rw[uE];simpa using ht,hplain,Aa,hE,Aa];by_cases he:b=iN C W R 1
   ·have h16:b.length=16:=by rw[he];exact hl1
    refine⟨_, .inr rfl,?_,?_⟩
    ·rw[Aa1 (by simp[<-he])]
    ·rw[Aa1 F0,h3 F0,Aa1 F0,Aa1 (by simp[<-he])]
   ·refine⟨_, .inl rfl,?_,?_⟩
    ·rw[Abh (by simp[he])]
    ·by_cases hl:b.length≠16/\b.length≠40
     ·rw[Abh hl]
     ·rw[Aa1 hl,h3 hl];by_cases h40:b.length=40
      ·rw[Abh h40,Abh];simp only[Aup,ne_eq];intro e;exact ht (uq F3 e)
      ·rw[Aa1 h40,Abh (by simp;exact λe=>he e.symm)]
 obtain⟨e,he,p1,p2⟩:=hres;rcases he with rfl|rfl
 ·exact⟨0,0,0,12,p1,p2,λe=>absurd e F3⟩
 ·exact⟨C,W,R,0,p1,p2,λ_=>⟨_,_,_,hC.symm,hW.symm,hRR.symm,hgood⟩⟩
theorem Aw3{p:Prop}(h:p:=by simp[Ba]):p:=h
end Go.Pl
namespace Go.Pl
open Go Go.Lv
theorem Ah2{w:Nat}(hw:Bg (w:Int)):1<=wB (w:Int)/\wB (w:Int)<=3:=by
 unfold Bg at hw;rw[wB];split
 ·omega
 ·split<;>omega
theorem Abz{g:Chk}{w:Nat}{C R:Int}(hw:Bg (w:Int)){m:Nat}(hm:g.2.1.length=m*wB (w:Int))(h4:m<=4000):∀(j x q:Nat),x+j=m->j<q->Ft g (w:Int) C R q ((x*wB (w:Int):Nat):Int) (NP (wB (w:Int)) x g.2.1)=Jv C (w:Int) R (NP (wB (w:Int)) m g.2.1)
 |j,x,0,_,h=>absurd h (Aqw _)
 |0,x,q+1,hx,_=>by
  rw[show x=m by omega,<-hm,Ft,Pv,Aa1 Aw2]
 |j+1,x,q+1,hx,hq=>by
  have hb:=Ah2 hw;have hn:=gA hw;generalize hB:wB (w:Int)=B at*
  have hlt:(x+1)*B<=m*B:=Af0 _ F0;rw[Aim,Aqu]at hlt;have ih:=Abz (g:=g) (C:=C) (R:=R) hw (by rw[hB];exact hm) h4 j (x+1) q F0 F0;rw[hB,Aim,Aqu]at ih;have hxB:x*B<=4000*3:=Arb F0 hb.2;have hcut:Cr g.2.1 ((x*B:Nat):Int) (Ae ((x*B:Nat):Int) (Ay (w:Int) 8))=some ((g.2.1.drop (x*B)).take B):=by
   rw[hn,Ag,<-Au9,Ve,Ajs,Ajs,Avu];congr 2;omega
  have hpl:((g.2.1.drop (x*B)).take B).length=B:=by rw[Af3,Aqi];omega
  have hs:=rQ ((g.2.1.drop (x*B)).take B) hw (m:=1) (by rw[hpl,hB,Aqu]) F0;rw[hB]at hs;have hsa:NP B 1 ((g.2.1.drop (x*B)).take B)=NP B 1 (g.2.1.drop (x*B)):=by
   have h1:=P0 hw (t:=(g.2.1.drop (x*B)).take B) (z:=(g.2.1.drop (x*B)).drop B) (m:=1) (by rw[hB,hpl];omega);rw[hB,Aul]at h1;exact h1.symm
  have hadd:=Acd hw g.2.1 x 1;rw[hB]at hadd;rw[hadd]at ih;rw[Ft,Pv,Abh Av9,hcut,Aa,hs,Aa];simp only;rw[Wa,GQ,hsa,As (by rw[ER,ER];omega),Aa,hn,Ag,<-Au9];exact ih
theorem Ai5{a:LB}(ha:a.length<=2000):∃(C W R:Int) (X:LX) (e:Int),pK a=some (C,W,R,X,e)/\Wb a=some (C,W,R,X,e)/\X.length<=2000:=by
 obtain⟨y,G,e,hr,hG,hD⟩:=Aha ha;have hr2:=Aed ha;rw[hr]at hr2;rw[pK,hr,Aa,Wb,Xh,hr2,Aa];simp only;by_cases he:Bm e 0=true
 ·rw[Abh he,Abh he];exact⟨_,_,_,_,_,rfl,rfl,Av2⟩
 rw[Aa1 he,Aa1 he];by_cases hy:(y !=([87,65,86,69]:LB))=true
 ·rw[Abh hy,Abh hy];exact⟨_,_,_,_,_,rfl,rfl,Av2⟩
 rw[Aa1 hy,Aa1 hy,Abr hG,Aa];simp only;rw[Abr hG,Aa];simp only;have Aqf:∀(v w:Nat),v=0\/w=0-> ((geq (v:Int) 0)||(geq (w:Int) 0))=true:=λv w h=>by rw[Aqm,Ba,Ba];simp;omega
 have Aj9:∀(v w:Nat) (o p:Int),1<=v->1<=w-> (1<v\/1<w)-> ¬((geq (v:Int) 0)||(geq (w:Int) 0))=true/\ (((Da (v:Int) 1)||(Da (w:Int) 1))||(Da o p))=true:=λv w o p h1 h2 h3=>by
  refine⟨by rw[Aqm,Ba,Ba];simp;omega,?_⟩;rw[Aqm,Aqm,Ar,Ar];simp;omega
 rcases pI (n:=([102,109,116,32]:LB)) hG with⟨v1,o1⟩|⟨v1,o2,o1⟩|⟨v1,o1⟩
 ·rw[o1,Aa];simp only;rcases pI (n:=([100,97,116,97]:LB)) hG with⟨w1,p1⟩|⟨w1,p2,p1⟩|⟨w1,p1⟩<;>
   (rw[p1,Aa];simp only;rw[Abh Aw3,Abh (Aqf _ _ F0)];exact⟨_,_,_,_,_,rfl,rfl,Av2⟩)
 ·rw[o1,Aa];simp only;rcases pI (n:=([100,97,116,97]:LB)) hG with⟨w1,p1⟩|⟨w1,p2,p1⟩|⟨w1,p1⟩
  ·rw[p1,Aa];simp only;rw[Abh Aw3,Abh (Aqf _ _ F0)];exact⟨_,_,_,_,_,rfl,rfl,Av2⟩
  ·rw[p1,Aa];simp only;rw[Aa1 F3];by_cases hgt:Da (lI [102,109,116,32] G:Int) (lI [100,97,116,97] G:Int)=true
   ·rw[Abh (by rw[hgt,Bool.or_true]),v1,w1,Aa1 F3,Abh (by rw[hgt,Bool.or_true])];exact⟨_,_,_,_,_,rfl,rfl,Av2⟩
   rw[Aa1 (by simp[hgt,Bl]),v1,w1,Aa1 F3,Aa1 (by simp[hgt,Ar]),Ca o2,Aa,Aa,Aa,Aa];have hf2:=hD _ (Asx o2);have hd2:=hD _ (Asx p2);obtain⟨C,W,R,e2,f1,f2,f3⟩:=Agx (b:=(G[lI [102,109,116,32] G]).2.1) F0;rw[f1,Aa,f2,Aa];simp only;by_cases he2:Bm e2 0=true
   ·rw[Abh he2,Abh he2];exact⟨_,_,_,_,_,rfl,rfl,Av2⟩
   rw[Aa1 he2,Aa1 he2];obtain⟨c,w,r,rfl,rfl,rfl,⟨h1,h6⟩,hw,hr1,hrr⟩:=f3 (by rw[Bl]at he2;simpa using he2);rw[Ca p2,Aa,Aa,Aa,Aa];generalize hg:G[lI [100,97,116,97] G]=g at hd2⊢;by_cases h0:geq (Ac g.2.1) 0=true
   ·rw[Abh h0,Abh h0];exact⟨_,_,_,_,_,rfl,rfl,Av2⟩
   have hb:=Ah2 hw;have hcB:1<=c*wB (w:Int):=Avf h1 F0;rw[Aa1 h0,Aa1 h0,S3 h6 hw,Bt (by rw[Bl];simp only[Aup,ne_eq];omega),Aa,Aa,Ac,AV];by_cases hmd:g.2.1.length %(c*wB (w:Int))=0
   case neg=>
    rw[Abh Awz,Abh (by rw[Bl];simp only[Aup,ne_eq];omega)];exact⟨_,_,_,_,_,rfl,rfl,Av2⟩
   rw[hmd,Aa1 F3,Aa1 F3];obtain⟨m,hm⟩:∃m,g.2.1.length=m*wB (w:Int):=by
    have hdm:=At9 g.2.1.length (c*wB (w:Int));refine⟨g.2.1.length/(c*wB (w:Int))*c,?_⟩;rw[hmd,Asg]at hdm;rw[Ar3,Anw];exact hdm.symm
   have hm2:m<=2000:=by
    have:m*1<=m*wB (w:Int):=At1 _ hb.1;omega
   rw[nA _ hw hm F0,Aa];simp only;rw[Aa1 F3,gA hw,Bt (by rw[Bl];simp only[Aup,ne_eq];omega),Aa,hm,Oy (by rw[<-hm];omega),Auq _ F0,Aa1 Av6,KM];have hl:=Abz (g:=g) (C:=(c:Int)) (R:=(r:Int)) hw hm F0 m 0 Aq F0 F7;rw[Au5]at hl;have hl':Ft g (w:Int) (c:Int) (r:Int) Aq 0 []=Jv (c:Int) (w:Int) (r:Int) (NP (wB (w:Int)) m g.2.1):=hl;rw[hl',Jv,GZ];rcases sN (c:Int) (w:Int) (r:Int) (NP (wB (w:Int)) m g.2.1)with⟨c1,c2⟩|⟨c',w',r',n',_,_,_,_,c1,c2⟩
   ·rw[c1,c2 (by rw[ER];omega),Aa];exact⟨_,_,_,_,_,Abh F3,Abh F3,Av2⟩
   ·rw[c1,c2,Aa];exact⟨_,_,_,_,_,Aa1 F3,Aa1 F3,by rw[ER];exact hm2⟩
  ·obtain⟨b1,b2⟩:=Aj9 (cL [102,109,116,32] G) (cL [100,97,116,97] G) (lI [102,109,116,32] G:Int) (lI [100,97,116,97] G:Int) F0 F0 F0;rw[p1,Aa];simp only;rw[Aa1 Aw3,Abh Awr,Aa1 b1,Abh b2];exact⟨_,_,_,_,_,rfl,rfl,Av2⟩
 ·rw[o1,Aa];simp only;rcases pI (n:=([100,97,116,97]:LB)) hG with⟨w1,p1⟩|⟨w1,p2,p1⟩|⟨w1,p1⟩
  ·rw[p1,Aa];simp only;rw[Abh Aw3,Abh (Aqf _ _ F0)];exact⟨_,_,_,_,_,rfl,rfl,Av2⟩
  ·obtain⟨b1,b2⟩:=Aj9 (cL [102,109,116,32] G) (cL [100,97,116,97] G) (lI [102,109,116,32] G:Int) (lI [100,97,116,97] G:Int) F0 F0 F0;rw[p1,Aa];simp only;rw[Aa1 Aw3,Abh Awr,Aa1 b1,Abh b2];exact⟨_,_,_,_,_,rfl,rfl,Av2⟩
  ·obtain⟨b1,b2⟩:=Aj9 (cL [102,109,116,32] G) (cL [100,97,116,97] G) (lI [102,109,116,32] G:Int) (lI [100,97,116,97] G:Int) F0 F0 F0;rw[p1,Aa];simp only;rw[Aa1 Aw3,Abh Awr,Aa1 b1,Abh b2];exact⟨_,_,_,_,_,rfl,rfl,Av2⟩
theorem tB(C W R:Int)(x:LX)(p:LB)(hx:x.length<=100000):∃(b:LB) (e:Int),Kw C W R x p=some (b,e)/\Gs C W R x p=some (b,e):=by
 rcases sN C W R x with⟨c1,c2⟩|⟨c,w,r,n,rfl,rfl,rfl,h,c1,c2⟩
 ·refine⟨[],8,?_,?_⟩
  ·rw[Kw,Wf,c2 F0,Aa,Abh F3]
  ·rw[Gs,c1,Aa,Abh F3]
 by_cases hp:p.length<=64
 ·refine⟨ML c w r n x p,0,yB h c2 hp,?_⟩;have he:=h.enc hp;obtain⟨f1,f2,f3,f4⟩:=uf h hp;have hle:=h.le;have hbl:=IP (w:Int) x;have hf:=Arc he [] (Dl (w:Int) x) F0 (by rw[show nE c w []=0 from Avs _];exact J1 c r);rw[Asa,iO,f1,Abh f4]at hf;have hfin:=Amj he (Dl (w:Int) x) (by rw[f1];exact f4);rw[f1,f2,f3,Aa1 (by have:=h.cnt.1;simp;omega)]at hfin;rw[f3]at hf;rw[Gs,c1,Aa,Aa1 F3,Aa1 Av3,As1 he,Aa];simp only;rw[Aer h.bits F0 (WQ h.bits F0 h.rng),Aa];simp only;rw[hf,Aa];simp only;rw[hfin,Aa]
 ·refine⟨[],2,?_,?_⟩
  ·have hle:=h.le;have hnew:CM (c:Int) (w:Int) (r:Int) p=some (0,0,0,[],[],[],[],[],false,0,2):=by
    rw[CM,Qg,Ab2,Aa];simp only;rw[Agk,Aa,Aa];simp only;rw[Abh];simp[Sm,Ac];omega
   rw[Kw,Wf,c2,Aa,Aa1 F3,zH h.bits F0 h.rng,Aa];simp only;rw[Aa1 F3,hnew,Aa];simp only;rw[Abh F3]
  ·rw[Gs,c1,Aa,Aa1 F3,Abh Av3]
theorem law_OneshotEncodes(C W R:Int)(x:LX)(p a:LB):Mr C W R x p a=some true:=by
 rw[Mr];by_cases hc:(((((Da (Ac x) 600)&&(xZ (Ac x) 4000))||(Da (Ac x) 4010))||(Da (Ac p) 100))||(Da (Ac a) 2000))=true
 ·rw[Abh hc]
 rw[Aa1 hc];simp only[Aqm,Afq,not_or,not_and,Ar,Sm,Ac,Aef]at hc;obtain⟨b1,e1,h1,h2⟩:=tB C W R x p F0;obtain⟨C2,W2,R2,X2,e2,h3,h4,h5⟩:=Ai5 (a:=a) F0;obtain⟨b3,e3,h6,h7⟩:=tB C2 W2 R2 X2 p F0;have hfw:∃(b:LB) (e:Int),Uo a p=some (b,e)/\Kx a p=some (b,e):=by
  by_cases he:Bm e2 0=true
  ·refine⟨[],e2,?_,?_⟩
   ·rw[Uo,BQ,h3,Aa];simp only;rw[BC,BH,Abh he];rfl
   ·rw[Kx,h4,Aa];simp only;rw[Abh he]
  ·refine⟨b3,e3,?_,?_⟩
   ·rw[Uo,BQ,h3,Aa];simp only;rw[BC,BH,Aa1 he,h6,Aa];rfl
   ·rw[Kx,h4,Aa];simp only;rw[Aa1 he,h7,Aa]
 obtain⟨b4,e4,h8,h9⟩:=hfw;rw[h1,Aa];simp only;rw[h2,Aa];simp only;rw[h8,Aa];simp only;rw[h9,Aa];simp[Ba]
end Go.Pl
