/- A part of a proof (see the text that ends in Proof). No conditions. -/
import Derived.Test.YtheamkpclkijmaaGreatDoorSsWA
set_option linter.unusedVariables false
set_option linter.unusedSimpArgs false
namespace Go.Pl
open Go Go.Lv
variable{u:Bool}{f c w r n a v e k:Int}{o p x:LB}{g l:LI}{F C W R N:Nat}{α:Type}
theorem Ti{β:Type}{o:Option α}{f:α->Option β}{r:β}(h:Option.bind o f=some r):∃x,o=some x/\f x=some r:=by
 cases o with
 |none=>cases h
 |some x=>exact⟨x,rfl,h⟩
theorem Alz{l:List α}{i:Int}{x:α}(h:Go.Lv.Ah l i=some x):x∈l:=by
 unfold Go.Lv.Ah at h;split at h
 ·exact List.mem_of_getElem? h
 ·cases h
theorem E0(q:LB){y:LB}(hg:∀z∈g,0<=z)(h:Cv o p f c w r n g a x u v=some (y,e))(he:e≠ -1):Cv o (p++q) f c w r n g a x u v=some (y,e):=by
 rw[Cv,Gn]at h⊢;obtain⟨l,hl,h⟩:=Ti h;have hl0:=hg l (Alz hl);rw[hl,Aa];by_cases hc:(p.length:Int)<l
 ·rw[Aa4 (by rw[Af,Ac];simpa using hc)]at h;cases h;exact absurd rfl he
 ·have hc':¬(Cj (Ac (p++q)) l=true):=by rw[Af,Ac,Aa7];simp;omega
  rw[Aa2 (by rw[Af,Ac];simpa using hc)]at h;rw[Aa2 hc',Db hl0 Ax8,Lz F0];rw[Db hl0]at h;simpa only[Gp,Gj]using h
theorem Aaw(hd:HdI f c w r n F C W R N)(q:LB)(hp:(p++q).length<=100000){A:Nat}(hA:A<=p.length)(h:Dw p f c w r n (A:Int)=some (k,l,e))(he:e≠ -1):
  Dw (p++q) f c w r n (A:Int)=some (k,l,e)/\ (e=0->0<=k/\k<=p.length):=by
 have hp':p.length<=100000:=by rw[Aa7]at hp;omega
 obtain⟨_,t2,t3⟩:=zP hd [] p hp' A hA 0 [] false 0;obtain⟨_,s2,_⟩:=zP hd [] (p++q) hp A Ax8 0 [] false 0;rw[t2]at h;rw[s2,Auq hA];by_cases h1:(Jf (p.drop A) (Ao (Bf R) N).length).2=24
 ·rw[Aa4 h1]at h;cases h;exact absurd rfl he
 ·rw[Aa2 h1]at h;rw[Ag9 q _ h1,Aa2 h1];refine⟨h,λe0=>?_⟩;cases h;have:=t3 e0;constructor
  ·omega
  ·exact this
theorem C5(hd:HdI f c w r n F C W R N)(q:LB)(hp:(p++q).length<=100000)(h:Fb p f c w r n o=some (k,l,e))(he:e≠ -1):
  Fb (p++q) f c w r n o=some (k,l,e)/\ (e=0->0<=k/\k<=p.length):=by
 rw[Fb,It]at h⊢;by_cases hf:geq f 2=true
 ·rw[Aa4 hf]at h⊢;by_cases h8:p.length<8
  ·rw[Aa4 F2]at h;cases h;exact absurd rfl he
  ·have n1:¬(Cj (Ac p) 8=true):=by rw[Af,Ac];simp;omega
   have n2:¬(Cj (Ac (p++q)) 8=true):=by rw[Af,Ac,Aa7];simp;omega
   rw[Aa2 n1,Db F5,Aa]at h;rw[Aa2 n2,Db F5 Ax8,Aa,Lz (show(8:Int).toNat<=p.length from by simp;omega)];obtain⟨y,hy,h⟩:=Ti h;rw[hy,Aa];by_cases hm:(p.take (8:Int).toNat !=y)=true
   ·rw[Aa4 hm]at h⊢;cases h;exact⟨rfl,λe=>by cases e⟩
   ·rw[Aa2 hm]at h⊢;exact Aaw hd q hp (A:=8) F0 h he
 ·rw[Aa2 hf]at h⊢;exact Aaw hd q hp (A:=0) F0 h he
theorem ZV{q af:LB}(h:Bk p n (Ac p)=some af):Bk (p++q) n (Ac (p++q))=some (af++q):=by
 unfold Bk Ac at h⊢;split at h
 ·rename_i hc;cases h;rw[Aa4 ⟨hc.1,by rw[Aa7];omega,F0⟩];simp only[Amc,Aw1];rw[Auq F0]
 ·cases h
theorem fM(q:LB)(hf:FitD o f c w r n g a x)(hp:(p++q).length<=100000){t1 t2:LB}{t3 t4 t5 t6 t7:Int}{t8:LI}{t9:Int}{t10:LB}{t11:Bool}{t12:Int}
  (h:Ag o p f c w r n g a x u v=some (t1,t2,t3,t4,t5,t6,t7,t8,t9,t10,t11,t12,e)) (he:e≠ -1):
  (e=0->Ag o (p++q) f c w r n g a x u v=some (t1,t2++q,t3,t4,t5,t6,t7,t8,t9,t10,t11,t12,0))/\
  (e≠0->∃(s1 s2:LB) (s3 s4 s5 s6 s7:Int) (s8:LI) (s9:Int) (s10:LB) (s11:Bool) (s12:Int),Ag o (p++q) f c w r n g a x u v=some (s1,s2,s3,s4,s5,s6,s7,s8,s9,s10,s11,s12,e)):=by
 have hp':p.length<=100000:=by rw[Aa7]at hp;omega
 have zero:¬(Bi (0:Int) 0=true):=F5
 rw[Ag,Br]at h⊢;cases hf with
 |new e1 e2 e3 e4 e5 e6 e7 e8=>
  subst e1;rw[Aa4 F5,AK p hp',Aa]at h;rw[Aa4 F5,AK (p++q) hp,Aa];have hst:(ng p).2.2.2.2.2.2≠ -1->ng (p++q)=ng p:=Am3 q;generalize ng p=z at h hst;obtain⟨z1,z2,z3,z4,z5,z6,z7⟩:=z;simp only at h hst;by_cases hz:Bi z7 0=true
  ·rw[Aa4 hz]at h;simp only[Aa6,Aep]at h;obtain⟨-, -, -, -, -, -, -, -, -, -, -, -,rfl⟩:=h;rw[hst he];simp only;rw[Aa4 hz];refine⟨λe0=>?_,λ_=>⟨_,_,_,_,_,_,_,_,_,_,_,_,rfl⟩⟩;rw[e0]at hz;exact absurd hz zero
  ·rw[Aa2 hz]at h;have z70:z7=0:=by rw[Am]at hz;simpa using hz
   rw[hst (by rw[z70];decide)];simp only;rw[Aa2 hz];obtain⟨af,h1,h⟩:=Ti h;rw[ZV h1,Aa];rw[Ga,Fz]at h⊢;obtain⟨aw,h2,h⟩:=Ti h;rw[h2,Aa];simp only[Aa6,Aep]at h;obtain⟨rfl,rfl,rfl,rfl,rfl,rfl,rfl,rfl,rfl,rfl,rfl,rfl,rfl⟩:=h;exact⟨λe0=>by rw[e0],λ_=>⟨_,_,_,_,_,_,_,_,_,_,_,_,rfl⟩⟩
 |head F C W R N hd hpw e6 e7 e8=>
  subst e6;have hfn:¬(geq f 0=true):=by rw[Ba];simpa using hd.fnz
  rw[Aa2 hfn,Bt,Bc,Aa4 F5]at h⊢;obtain⟨⟨k,l,e1⟩,h1,h⟩:=Ti h;simp only at h;by_cases hz:Bi e1 0=true
  ·rw[Aa4 hz]at h;simp only[Aa6,Aep]at h;obtain⟨-, -, -, -, -, -, -, -, -, -, -, -,rfl⟩:=h;rw[(C5 hd q hp h1 he).1,Aa];simp only;rw[Aa4 hz];refine⟨λe0=>?_,λ_=>⟨_,_,_,_,_,_,_,_,_,_,_,_,rfl⟩⟩;rw[e0]at hz;exact absurd hz zero
  ·rw[Aa2 hz]at h;have z70:e1=0:=by rw[Am]at hz;simpa using hz
   rw[(C5 hd q hp h1 (by rw[z70];decide)).1,Aa];simp only;rw[Aa2 hz];obtain⟨af,h2,h⟩:=Ti h;rw[ZV h2,Aa];simp only[Aa6,Aep]at h;obtain⟨rfl,rfl,rfl,rfl,rfl,rfl,rfl,rfl,rfl,rfl,rfl,rfl,rfl⟩:=h;exact⟨λe0=>rfl,λe0=>absurd rfl e0⟩
 |tab F C W R N A hd hpw ht hl ea hA=>
  have hfn:¬(geq f 0=true):=by rw[Ba];simpa using hd.fnz
  have ht':=ht;rw[BB,Aa5,Acr]at ht';have hgl:¬(geq (Ac g) 0=true):=by
   intro e;rw[Ba,Ac]at e;have hl1:=ht'.1.1;simp only[As1,Acr]at e;omega
  rw[Aa2 hfn,Bt,Bc,Aa2 hgl]at h⊢;by_cases hend:geq a (Ac g)=true
  ·rw[Aa4 hend]at h⊢;by_cases hm:Dv (Ac p) 4000=true
   ·have hm':Dv (Ac (p++q)) 4000=true:=by rw[Au,Ac]at hm⊢;simp only[Acr]at hm⊢;rw[Aa7];omega
    rw[Aa4 hm]at h;rw[Aa4 hm'];simp only[Aa6,Aep]at h;obtain⟨-, -, -, -, -, -, -, -, -, -, -, -,rfl⟩:=h;exact⟨(λe0=>by cases e0),λ_=>⟨_,_,_,_,_,_,_,_,_,_,_,_,rfl⟩⟩
   ·rw[Aa2 hm]at h;simp only[Aa6,Aep]at h;obtain⟨-, -, -, -, -, -, -, -, -, -, -, -,rfl⟩:=h;exact absurd rfl he
  ·rw[Aa2 hend]at h⊢;have hpos:∀z∈g,0<=z:=by
    have:=(PB g 100000 F0).1 ht'.2;intro z hz;have:=this.1 z hz;omega
   obtain⟨⟨y,e1⟩,h1,h⟩:=Ti h;simp only at h;by_cases hz:Bi e1 0=true
   ·rw[Aa4 hz]at h;simp only[Aa6,Aep]at h;obtain⟨-, -, -, -, -, -, -, -, -, -, -, -,rfl⟩:=h;rw[E0 q hpos h1 he,Aa];simp only;rw[Aa4 hz];refine⟨λe0=>?_,λ_=>⟨_,_,_,_,_,_,_,_,_,_,_,_,rfl⟩⟩;rw[e0]at hz;exact absurd hz zero
   ·rw[Aa2 hz]at h;have z70:e1=0:=by rw[Am]at hz;simpa using hz
    rw[E0 q hpos h1 (by rw[z70];decide),Aa];simp only;rw[Aa2 hz];obtain⟨an,h2,h⟩:=Ti h;rw[h2,Aa];obtain⟨ah,h3,h⟩:=Ti h;rw[h3,Aa];obtain⟨ad,h4,h⟩:=Ti h;rw[h4,Aa];obtain⟨ae,h5,h⟩:=Ti h;rw[ZV h5,Aa];simp only[Aa6,Aep]at h;obtain⟨rfl,rfl,rfl,rfl,rfl,rfl,rfl,rfl,rfl,rfl,rfl,rfl,rfl⟩:=h;exact⟨λe0=>rfl,λe0=>absurd rfl e0⟩
theorem Ax6{p:Prop}(h:p:=by rw[fU (by omega)];decide):p:=h
end Go.Pl
namespace Go.Pl
open Go Go.Lv
variable{u t11:Bool}{F C W R N A:Nat}
def Atv(o:LB)(K:Nat)(u:Bool)(v:Int)(X Y:Option Au4):Prop:=∃(t1 t2:LB) (t3 t4 t5 t6 t7:Int) (t8:LI) (t9:Int) (t10:LB) (t11:Bool) (t12 e:Int),X=some (t1,t2,t3,t4,t5,t6,t7,t8,t9,t10,t11,t12,e)/\Y=some (t1,t2,t3,t4,t5,t6,t7,t8,t9,t10,t11,t12,e)/\t10.length<=13000000/\
 (e=0->t1=o/\t2.length<=K/\FitD o t3 t4 t5 t6 t7 t8 t9 t10/\SzD t2 t8 t9 t10/\t11=u/\t12=v)
theorem C8(K:Nat):∀(k q1 q2:Nat) (o p:LB) (f c w r n:Int) (g:LI) (a:Int) (x:LB) (u:Bool) (v:Int),FitD o f c w r n g a x->o.length<=64->SzD p g a x->p.length<=K->muD f g a<k->k<=q1->k<=q2->
  Atv o K u v (Be o u v q1 p f c w r n a g x) (Ax q2 o p f c w r n g a x u v)
 |0,_,_,_,_,_,_,_,_,_,_,_,_,_,_,_,_,_,_,h,_,_=>by omega
 |k+1,q1,q2,o,p,f,c,w,r,n,g,a,x,u,v,hf,ho,hZ,hK,hm,h1,h2=>by
  obtain⟨q1,rfl⟩:∃q,q1=q+1:=⟨q1-1,F0⟩;obtain⟨q2,rfl⟩:∃q,q2=q+1:=⟨q2-1,F0⟩;have hx:x.length<=13000000:=by have:=hZ.hx;omega
  rw[Be,Ax,Bs];have hS:StepR (Be o u v q1) o p f c w r n g a x u v:=zV hf ho hZ;cases hS with
  |wait hF hT=>
   rw[hT,Aa];simp only;rw[Aa4 F5,XW hZ.hp (by have:=hZ.hg;omega) hx,Aa];exact⟨_,_,_,_,_,_,_,_,_,_,_,_,_,hF,rfl,hx,λ_=>⟨rfl,hK,hf,hZ,rfl,rfl⟩⟩
  |err e he hF hT=>
   rw[hT,Aa];simp only;rw[Aa2 Ax6,Aa4 Axp,B3 hx,Aa];exact⟨_,_,_,_,_,_,_,_,_,_,_,_,_,hF,rfl,hx,λh=>absurd h F0⟩
  |next p' f' c' w' r' n' g' a' x' hF hT hf' hZ' hle hmu=>
   rw[hT,Aa];simp only;rw[Aa2 F5,Aa2 F5];have ih:=C8 K k q1 q2 o p' f' c' w' r' n' g' a' x' u v hf' ho hZ' F0 F0 F0 F0;have hF':Ht (Mw (Be o u v q1) o u v) (Qt (Be o u v q1) o u v) (Ki (Be o u v q1) o u v) (Xc (Be o u v q1) o u v) (Mx (Be o u v q1) o u v) (Mv (Be o u v q1) o u v) (Xu (Be o u v q1) o u v) (Cb (Be o u v q1) o u v) (Xo (Be o u v q1) o u v) o u v p f c w r n a g x=Be o u v q1 p' f' c' w' r' n' a' g' x':=hF;rw[hF'];exact ih
theorem Att{o p:LB}{f c w r n:Int}{g:LI}{a:Int}{x:LB}(ho:o.length<=64)(hf:FitD o f c w r n g a x)(hZ:SzD p g a x)(b:LB)(hp:p.length<=20000)(hb:b.length<=20000):
  Atv o (p.length+b.length) false 0 (Di o p f c w r n g a x false 0 b) (Ig o p f c w r n g a x false 0 b):=by
 have hx:x.length<=13000000:=by have:=hZ.hx;omega
 have hg:g.length<=2000:=by have:=hZ.hg;omega
 obtain⟨E,e1,e2⟩:=rA o p f c w r n g a x false 0 F0 F0 F0;rw[Di,Tm,fN hp hg hx e1,Ig,Ps,e2,Aa];by_cases h:E≠0
 ·rw[Aa4 h,Aa,Aa4 (by rw[Am];simpa using h)];simp only;rw[Aa4 (by rw[Am];simpa using h)];exact⟨_,_,_,_,_,_,_,_,_,_,_,_,_,rfl,rfl,Axl,λh'=>absurd h' h⟩
 have h0:E=0:=by simpa using h
 subst h0;have hE:¬(Bi (0:Int) 0=true):=F5
 rw[Aa2 h,Aa,Aa2 hE,XW F0 hg F0,Aa];simp only;have hF:¬(false=true):=F5
 rw[Pr,Aa2 (show ¬((0:Int)≠0)from λh=>h rfl),Aa2 hF]
 repeat (first|rw[Aa]|rw[Aa2 hE]|rw[Aa2 hF])
 rw[Ct];rw[Aa,Aa];have hZ':SzD (p++b) g a x:=⟨by rw[Aa7];omega,hZ.hg,hZ.hx⟩;exact C8 _ 1004 Ar Ar o (p++b) f c w r n g a x false 0 hf ho hZ' (by rw[Aa7];exact Apn _) (Akl hZ') Axj Axj
def OutB(f c w r n:Int)(g:LI)(a:Int)(x:LB):Prop:=∀(F C W R N A:Nat),HdI f c w r n F C W R N->g≠ []->a=(A:Int)-> (x.length:Int)<=CR C W (Ao (Bf R) N) A
theorem OutB.nil{f c w r n:Int}{a:Int}{x:LB}:OutB f c w r n [] a x:=λ_ _ _ _ _ _ _ h=>absurd rfl h
theorem OutB.zero{f c w r n:Int}{g:LI}:OutB f c w r n g 0 []:=λF C W R N A h hg ha=>by
 obtain rfl:A=0:=F0
 rw[Ab7];simp
theorem Ac5{o p:LB}{f c w r n:Int}(hd:HdI f c w r n F C W R N)(ho:o.length<=64)(hp:p.length<=100000){g:LI}(ht:BB g=true)(hl:g.length=(Ao (Bf R) N).length)(hA:A<g.length){x:LB}{v:Int}{y:LB}{e:Int}
  (h:Cv o p f c w r n g (A:Int) x u v=some (y,e)) (he:e=0):∃m:Nat,(Ao (Bf R) N)[A]' F0=(m:Int)/\y.length=m*C*wB (W:Int):=by
 subst he;have hlt2:A<(Ao (Bf R) N).length:=F0
 have SX:=hd.num;rw[BB,Aa5,Acr,PB g 100000 F0]at ht;obtain⟨ht1,g5,gs⟩:=ht;have h5:=g5 g[A] (Asd hA);rw[Cv,Gn,Cu hA,Aa]at h;by_cases hw:(p.length:Int)<g[A]
 ·rw[Aa4 (by rw[Af,Ac];simpa using hw)]at h;cases h
 rw[Aa2 (by rw[Af,Ac];simpa using hw)]at h;obtain⟨m,hm,m1,m2⟩:=IA (Xs R) SX.2.2.2.2.1 (Asd hlt2);have hb:Dd w:=by rw[hd.ew];unfold Dd;omega
 obtain⟨xs,e,d1,d2,d3,d4⟩:=TW (bits:=w) (ch:=C) (n:=m) (t:=IW o) (p.take g[A].toNat) hb (AO o) SX.2.1.1 SX.2.1.2 m1 F0;rw[pU o ho,Aa]at h;simp only at h;rw[Db,Aa,Hp,Aa]at h;simp only at h;rw[hd.Ab6,Aa,Cu hlt2,Aa,Aa,hm,hd.ec]at h;rw[d2,Aa]at h;simp only at h;rw[Gp,Gj]at h;by_cases he:e≠0
 ·rw[Aa4 (by rw[Am];simpa using he)]at h;cases h;exact absurd rfl he
 ·have he0:e=0:=by simpa using he
  obtain⟨k1,k2,k3⟩:=d3 he0;rw[Aa2 (by rw[Am,he0];simp),iV hb k2 k1,Aa]at h;cases h;refine⟨m,hm,?_⟩;rw[eJ hb,k3,hd.ew]
theorem Ak0{o p:LB}{f c w r n:Int}{g:LI}{a:Int}{x:LB}{v:Int}(hf:FitD o f c w r n g a x)(ho:o.length<=64)(hZ:SzD p g a x)(hO:OutB f c w r n g a x){t1 t2:LB}{t3 t4 t5 t6 t7:Int}{t8:LI}{t9:Int}{t10:LB}{t12:Int}
  (h:Ag o p f c w r n g a x u v=some (t1,t2,t3,t4,t5,t6,t7,t8,t9,t10,t11,t12,0)):OutB t3 t4 t5 t6 t7 t8 t9 t10:=by
 have hp':=hZ.hp;have zero:¬(Bi (0:Int) 0=true):=F5
 rw[Ag,Br]at h;cases hf with
 |new e1 e2 e3 e4 e5 e6 e7 e8=>
  subst e1 e6 e7 e8;rw[Aa4 F5,AK p hp',Aa]at h;generalize ng p=z at h;obtain⟨z1,z2,z3,z4,z5,z6,z7⟩:=z;simp only at h;by_cases hz:Bi z7 0=true
  ·rw[Aa4 hz]at h;simp only[Aa6,Aep]at h;obtain⟨-, -, -, -, -, -, -,rfl, -⟩:=h;exact OutB.nil
  ·rw[Aa2 hz]at h;obtain⟨af,h1,h⟩:=Ti h;rw[Ga,Fz]at h;obtain⟨aw,h2,h⟩:=Ti h;simp only[Aa6,Aep]at h;obtain⟨-, -, -, -, -, -, -,rfl, -⟩:=h;exact OutB.nil
 |head F C W R N hd hpw e6 e7 e8=>
  subst e6 e7 e8;have hfn:¬(geq f 0=true):=by rw[Ba];simpa using hd.fnz
  rw[Aa2 hfn,Bt,Bc,Aa4 F5]at h;obtain⟨⟨k,l,e1⟩,h1,h⟩:=Ti h;simp only at h;by_cases hz:Bi e1 0=true
  ·rw[Aa4 hz]at h;simp only[Aa6,Aep]at h;obtain⟨-, -, -, -, -, -, -,rfl, -⟩:=h;exact OutB.nil
  ·rw[Aa2 hz]at h;obtain⟨af,h2,h⟩:=Ti h;simp only[Aa6,Aep]at h;obtain⟨-, -, -, -, -, -, -, -,rfl,rfl, -⟩:=h;exact OutB.zero
 |tab F C W R N A hd hpw ht hl ea hA=>
  subst ea;have hfn:¬(geq f 0=true):=by rw[Ba];simpa using hd.fnz
  have ht':=ht;rw[BB,Aa5,Acr]at ht';have hgl:¬(geq (Ac g) 0=true):=by
   intro e;rw[Ba,Ac]at e;have hl1:=ht'.1.1;simp only[As1,Acr]at e;omega
  have hne:g≠ []:=by intro e;subst e;simp at ht'
  rw[Aa2 hfn,Bt,Bc,Aa2 hgl]at h;by_cases hend:geq (A:Int) (Ac g)=true
  ·rw[Aa4 hend]at h;by_cases hm:Dv (Ac p) 4000=true
   ·rw[Aa4 hm]at h;simp only[Aa6,Aep]at h;exact absurd h.2.2.2.2.2.2.2.2.2.2.2.2 F5
   ·rw[Aa2 hm]at h;simp only[Aa6,Aep]at h;exact absurd h.2.2.2.2.2.2.2.2.2.2.2.2 F5
  ·rw[Aa2 hend]at h;have hlt:A<g.length:=by
    rw[Ba,Ac]at hend;simp only[As1]at hend;omega
   obtain⟨⟨y,e1⟩,h1,h⟩:=Ti h;simp only at h;by_cases hz:Bi e1 0=true
   ·rw[Aa4 hz]at h;simp only[Aa6,Aep]at h;have:=h.2.2.2.2.2.2.2.2.2.2.2.2;rw[this]at hz;exact absurd hz zero
   ·rw[Aa2 hz]at h;have z70:e1=0:=by rw[Am]at hz;simpa using hz
    obtain⟨m,hm,hy⟩:=Ac5 hd ho hp' ht hl hlt h1 z70;obtain⟨an,h2,h⟩:=Ti h;obtain⟨ah,h3,h⟩:=Ti h;obtain⟨ad,h4,h⟩:=Ti h;obtain⟨ae,h5,h⟩:=Ti h;simp only[Aa6,Aep]at h;obtain⟨-, -,rfl,rfl,rfl,rfl,rfl,rfl,rfl,rfl, -⟩:=h;intro F' C' W' R' N' A' hd' _ ha';have eqs:C'=C/\W'=W/\R'=R/\N'=N:=by
     have q1:=hd.ec.symm.trans hd'.ec;have q2:=hd.ew.symm.trans hd'.ew;have q3:=hd.er.symm.trans hd'.er;have q4:=hd.en.symm.trans hd'.en;omega
    obtain⟨rfl,rfl,rfl,rfl⟩:=eqs;have hold:=hO F C' W' R' N' A hd hne rfl;have e2:Ae (A:Int) 1=((A+1:Nat):Int):=by rw[Ak];omega
    rw[e2]at ha';obtain rfl:A'=A+1:=F0
    have hah:ah.length=x.length+y.length:=by
     unfold Ck at h2 h3;split at h2
     ·cases h2;split at h3
      ·cases h3;simp
      ·cases h3
     ·cases h2
    have hpos:∀z∈Ao (Bf R') N',0<=z:=by
     intro z hz;obtain⟨m,hm,m1,m2⟩:=IA (Xs R') hd.num.2.2.2.2.1 hz;omega
    rw[Ab5 C' W' hpos F0 hm,hah,hy];omega
theorem mS{o p:LB}{f c w r n:Int}{g:LI}{a:Int}{x:LB}(hf:FitD o f c w r n g a x)(ho:o.length<=64)(hO:OutB f c w r n g a x){t1 t2:LB}{t3 t4 t5 t6 t7:Int}{t8:LI}{t9:Int}{t10:LB}{t12:Int}
  (h:Ag o p f c w r n g a x false 0=some (t1,t2,t3,t4,t5,t6,t7,t8,t9,t10,t11,t12, -1)):De o p f c w r n g a x false 0=some 0:=by
 have h4:Ch o p f c w r n g a x false 0=some true:=by
  rw[Ch,Up,h,Aa];rfl
 have hr:Kj o p f c w r n g a x false 0=some true:=by
  rw[Kj,Um];cases hf with
  |new e1 e2 e3 e4 e5 e6 e7 e8=>
   subst e1 e2 e3 e4 e5 e6 e7 e8;rw[Aa4 F5,Aa2 F5];exact h4
  |head F C W R N hd hpw e6 e7 e8=>
   subst e6 e7 e8;have hz:¬(((geq f 0)&&((geq c 0)&&((geq w 0)&&((geq r 0)&&((geq n 0)&&true)))))=true):=by
    simp only[Aa5,Ba,As1,Axg];exact λe=>hd.fnz e.1
   have hff:geq f 1=decide (F=1):=by rw[hd.ef,Ba,Akf];simp;omega
   rw[Aa2 hz,hd.check,Aa,Aa2 F5,Eb,hff,hpw,Aa2 Axl,Aa,Aa2 F5,Og,Od,Aa4 F5,Aa2 F5];exact h4
  |tab F C W R N A hd hpw ht hl ea hA=>
   subst ea;have hz:¬(((geq f 0)&&((geq c 0)&&((geq w 0)&&((geq r 0)&&((geq n 0)&&true)))))=true):=by
    simp only[Aa5,Ba,As1,Axg];exact λe=>hd.fnz e.1
   have hff:geq f 1=decide (F=1):=by rw[hd.ef,Ba,Akf];simp;omega
   have ht':=ht;rw[BB,Aa5,Acr]at ht';have hgl:¬(geq (Ac g) 0=true):=by
    intro e;rw[Ba,Ac]at e;have hl1:=ht'.1.1;simp only[As1,Acr]at e;omega
   have hne:g≠ []:=by intro e;subst e;simp at ht'
   have hout:=hO F C W R N A hd hne rfl;rw[Aa2 hz,hd.check,Aa,Aa2 F5,Eb,hff,hpw,Aa2 Axl,Aa,Aa2 F5,Og,Od,Aa2 hgl,VR,Aa,Aa4 ht,Aa2 F5,hd.Ab6,Aa];rw[Aa2 Ax1];obtain⟨rfl,rfl,rfl,rfl,rfl,hs,hfit⟩:=hd;rw[jy hs hfit A F0,Aa,Aa2 Axk];exact h4
 have hO':¬(Dv (Ac o) 64=true):=by rw[Au,Ac];simp;omega
 rw[De,Aa2 hO',Aa4 F5,hr,Aa];rfl
theorem Ago{o p:LB}{f c w r n:Int}(hd:HdI f c w r n F C W R N)(ho:o.length<=64)(hp:p.length<=100000){g:LI}(ht:BB g=true)(hl:g.length=(Ao (Bf R) N).length)(hA:A<g.length){x:LB}{v:Int}{y:LB}{e:Int}
  (h:Cv o p f c w r n g (A:Int) x u v=some (y,e)) (he:e≠ -1):Cd e:=by
 have hlt2:A<(Ao (Bf R) N).length:=F0
 have SX:=hd.num;rw[BB,Aa5,Acr,PB g 100000 F0]at ht;obtain⟨ht1,g5,gs⟩:=ht;have h5:=g5 g[A] (Asd hA);rw[Cv,Gn,Cu hA,Aa]at h;by_cases hw:(p.length:Int)<g[A]
 ·rw[Aa4 (by rw[Af,Ac];simpa using hw)]at h;cases h;exact absurd rfl he
 rw[Aa2 (by rw[Af,Ac];simpa using hw)]at h;obtain⟨m,hm,m1,m2⟩:=IA (Xs R) SX.2.2.2.2.1 (Asd hlt2);have hb:Dd w:=by rw[hd.ew];unfold Dd;omega
 obtain⟨xs,e',d1,d2,d3,d4⟩:=TW (bits:=w) (ch:=C) (n:=m) (t:=IW o) (p.take g[A].toNat) hb (AO o) SX.2.1.1 SX.2.1.2 m1 F0;have hcd:=P8 hb (AO o) SX.2.1.1 SX.2.1.2 m1 F0 d2;rw[pU o ho,Aa]at h;simp only at h;rw[Db,Aa,Hp,Aa]at h;simp only at h;rw[hd.Ab6,Aa,Cu hlt2,Aa,Aa,hm,hd.ec]at h;rw[d2,Aa]at h;simp only at h;rw[Gp,Gj]at h;by_cases he:e'≠0
 ·rw[Aa4 (by rw[Am];simpa using he)]at h;cases h;exact hcd
 ·have he0:e'=0:=by simpa using he
  obtain⟨k1,k2,k3⟩:=d3 he0;rw[Aa2 (by rw[Am,he0];simp),iV hb k2 k1,Aa]at h;cases h;exact .inl rfl
theorem Ady{f c w r n:Int}(hd:HdI f c w r n F C W R N){p:LB}(hp:p.length<=100000)(hA:A<=p.length){k:Int}{l:LI}{e:Int}(h:Dw p f c w r n (A:Int)=some (k,l,e))(he:e≠ -1):Cd e:=by
 obtain⟨_,t2,t3⟩:=zP hd [] p hp A hA 0 [] false 0;rw[t2]at h;by_cases h1:(Jf (p.drop A) (Ao (Bf R) N).length).2=24
 ·rw[Aa4 h1]at h;cases h;exact absurd rfl he
 ·rw[Aa2 h1]at h;cases h;exact Alx _ (C2 hd.fit)
theorem Afl{f c w r n:Int}(hd:HdI f c w r n F C W R N){o p:LB}(hp:p.length<=100000){k:Int}{l:LI}{e:Int}(h:Fb p f c w r n o=some (k,l,e))(he:e≠ -1):Cd e:=by
 rw[Fb,It]at h;by_cases hf:geq f 2=true
 ·rw[Aa4 hf]at h;by_cases h8:p.length<8
  ·rw[Aa4 F2]at h;cases h;exact absurd rfl he
  ·have n1:¬(Cj (Ac p) 8=true):=by rw[Af,Ac];simp;omega
   rw[Aa2 n1]at h;obtain⟨z,hz,h⟩:=Ti h;obtain⟨y,hy,h⟩:=Ti h;by_cases hm:(z !=y)=true
   ·rw[Aa4 hm]at h;cases h;decide
   ·rw[Aa2 hm]at h;exact Ady hd hp (A:=8) F0 h he
 ·rw[Aa2 hf]at h;exact Ady hd hp (A:=0) F0 h he
theorem Aqs(p:LB):(ng p).2.2.2.2.2.2= -1\/Cd (ng p).2.2.2.2.2.2:=by
 unfold ng
 repeat' split
 ·exact .inl rfl
 ·exact .inr (sH p)
 ·exact .inl rfl
 ·exact .inl rfl
 ·exact .inr (I1 _)
theorem Aos{o p:LB}{f c w r n:Int}{g:LI}{a:Int}{x:LB}{v:Int}(hf:FitD o f c w r n g a x)(ho:o.length<=64)(hp':p.length<=100000){t1 t2:LB}{t3 t4 t5 t6 t7:Int}{t8:LI}{t9:Int}{t10:LB}{t12 e:Int}
  (h:Ag o p f c w r n g a x u v=some (t1,t2,t3,t4,t5,t6,t7,t8,t9,t10,t11,t12,e)) (he:e≠ -1):Cd e:=by
 have zero:¬(Bi (0:Int) 0=true):=F5
 rw[Ag,Br]at h;cases hf with
 |new e1 e2 e3 e4 e5 e6 e7 e8=>
  subst e1 e6 e7 e8;rw[Aa4 F5,AK p hp',Aa]at h;have hcd:=Aqs p;generalize ng p=z at h hcd;obtain⟨z1,z2,z3,z4,z5,z6,z7⟩:=z;simp only at h hcd;by_cases hz:Bi z7 0=true
  ·rw[Aa4 hz]at h;simp only[Aa6,Aep]at h;obtain⟨-, -, -, -, -, -, -, -, -, -, -, -,rfl⟩:=h;exact hcd.resolve_left he
  ·rw[Aa2 hz]at h;obtain⟨af,h1,h⟩:=Ti h;rw[Ga,Fz,Eb]at h;obtain⟨aw,h2,h⟩:=Ti h;simp only[Aa6,Aep]at h;obtain⟨-, -, -, -, -, -, -, -, -, -, -, -,rfl⟩:=h;split at h2
   ·cases h2;decide
   ·cases h2;decide
 |head F C W R N hd hpw e6 e7 e8=>
  subst e6 e7 e8;have hfn:¬(geq f 0=true):=by rw[Ba];simpa using hd.fnz
  rw[Aa2 hfn,Bt,Bc,Aa4 F5]at h;obtain⟨⟨k,l,e1⟩,h1,h⟩:=Ti h;simp only at h;by_cases hz:Bi e1 0=true
  ·rw[Aa4 hz]at h;simp only[Aa6,Aep]at h;obtain⟨-, -, -, -, -, -, -, -, -, -, -, -,rfl⟩:=h;exact Afl hd hp' h1 he
  ·rw[Aa2 hz]at h;obtain⟨af,h2,h⟩:=Ti h;simp only[Aa6,Aep]at h;obtain⟨-, -, -, -, -, -, -, -, -, -, -, -,rfl⟩:=h;exact .inl rfl
 |tab F C W R N A hd hpw ht hl ea hA=>
  subst ea;have hfn:¬(geq f 0=true):=by rw[Ba];simpa using hd.fnz
  have ht':=ht;rw[BB,Aa5,Acr]at ht';have hgl:¬(geq (Ac g) 0=true):=by
   intro e;rw[Ba,Ac]at e;have hl1:=ht'.1.1;simp only[As1,Acr]at e;omega
  rw[Aa2 hfn,Bt,Bc,Aa2 hgl]at h;by_cases hend:geq (A:Int) (Ac g)=true
  ·rw[Aa4 hend]at h;by_cases hm:Dv (Ac p) 4000=true
   ·rw[Aa4 hm]at h;simp only[Aa6,Aep]at h;obtain⟨-, -, -, -, -, -, -, -, -, -, -, -,rfl⟩:=h;decide
   ·rw[Aa2 hm]at h;simp only[Aa6,Aep]at h;exact absurd h.2.2.2.2.2.2.2.2.2.2.2.2.symm he
  ·rw[Aa2 hend]at h;have hlt:A<g.length:=by
    rw[Ba,Ac]at hend;simp only[As1]at hend;omega
   obtain⟨⟨y,e1⟩,h1,h⟩:=Ti h;simp only at h;by_cases hz:Bi e1 0=true
   ·rw[Aa4 hz]at h;simp only[Aa6,Aep]at h;obtain⟨-, -, -, -, -, -, -, -, -, -, -, -,rfl⟩:=h;exact Ago hd ho hp' ht hl hlt h1 he
   ·rw[Aa2 hz]at h;obtain⟨an,h2,h⟩:=Ti h;obtain⟨ah,h3,h⟩:=Ti h;obtain⟨ad,h4,h⟩:=Ti h;obtain⟨ae,h5,h⟩:=Ti h;simp only[Aa6,Aep]at h;obtain⟨-, -, -, -, -, -, -, -, -, -, -, -,rfl⟩:=h;exact .inl rfl
theorem Aji{o:LB}{f c w r n:Int}{g:LI}{a:Int}{x:LB}(hf:FitD o f c w r n g a x)(hO:OutB f c w r n g a x):x.length<=12000:=by
 cases hf with
 |new e1 e2 e3 e4 e5 e6 e7 e8=>subst e8;simp
 |head F C W R N hd hpw e6 e7 e8=>subst e8;simp
 |tab F C W R N A hd hpw ht hl ea hA=>
  have hne:g≠ []:=by intro e;subst e;simp[BB]at ht
  have h:=hO F C W R N A hd hne ea;obtain⟨g1,g2,g3⟩:=RV hd.shape hd.fit;have b:=jA g1 A;have SX:=hd.num;have hw:=(mg (W:Int)).2;have hN:N*C<=4000:=by
   have h1:=Adh C SX.2.2.2.2.2.1;have h2:=Avs 4000 C;omega
  have hs:((Ao (Bf R) N).take A).sum.toNat<=N:=F0
  rw[CR]at h;have hb:((Ao (Bf R) N).take A).sum.toNat*(C*wB (W:Int))<=4000*3:=by
   have h1:=Adh (C*wB (W:Int)) hs;have h2:=Aun hN hw;rw[<-Au5 N]at h1;omega
  omega
theorem rQ{o x:LB}{e:Int}(ho:o.length<=64)(hx:x.length<=12000)(he:Cd e)(h0:0<e):De o [] 0 0 0 0 0 [] 0 x false e=some 0:=by
 have hO':¬(Dv (Ac o) 64=true):=by rw[Au,Ac];simp;omega
 have hX:Dv (Ac x) 12000=false:=by rw[Au,Ac];simp;omega
 rw[De,Aa2 hO',Aa2 Axq,Aa4 F5,hX,Aa2 F5,Aa4 Axp,Aa2 F5];obtain rfl|rfl|rfl|rfl|rfl|rfl|rfl|rfl:=he
 ·omega
 all_goals rfl
theorem M1:∀(k q1 q2:Nat) (o p:LB) (f c w r n:Int) (g:LI) (a:Int) (x:LB) (u:Bool) (v:Int),FitD o f c w r n g a x->o.length<=64->SzD p g a x->muD f g a<k->k<=q1->k<=q2->
  Ax q1 o p f c w r n g a x u v=Ax q2 o p f c w r n g a x u v
 |0,_,_,_,_,_,_,_,_,_,_,_,_,_,_,_,_,_,h,_,_=>by omega
 |k+1,q1,q2,o,p,f,c,w,r,n,g,a,x,u,v,hf,ho,hZ,hm,h1,h2=>by
  obtain⟨q1,rfl⟩:∃q,q1=q+1:=⟨q1-1,F0⟩;obtain⟨q2,rfl⟩:∃q,q2=q+1:=⟨q2-1,F0⟩;rw[Ax,Ax,Bs,Bs];have hS:StepR (Be o u v q1) o p f c w r n g a x u v:=zV hf ho hZ;cases hS with
  |wait hF hT=>
   rw[hT,Aa,Aa];simp only;rw[Aa4 F5,Aa4 F5]
  |err e he hF hT=>
   rw[hT,Aa,Aa];simp only;rw[Aa2 Ax6,Aa4 Axp,Aa2 Ax6,Aa4 Axp]
  |next p' f' c' w' r' n' g' a' x' hF hT hf' hZ' hle hmu=>
   rw[hT,Aa,Aa];simp only;rw[Aa2 F5,Aa2 F5,Aa2 F5,Aa2 F5];exact M1 k q1 q2 o p' f' c' w' r' n' g' a' x' u v hf' ho hZ' F0 F0 F0
structure Wt (o p:LB) (f c w r n:Int) (g:LI) (a:Int) (x:LB):Prop where
 fit:FitD o f c w r n g a x
 sz:SzD p g a x
 out:OutB f c w r n g a x
 wait:Ag o p f c w r n g a x false 0=some (o,p,f,c,w,r,n,g,a,x,false,0, -1)
abbrev ON(q:Nat)(o p:LB)(f c w r n:Int)(g:LI)(a:Int)(x:LB):=Ax q o p f c w r n g a x false 0
theorem xk:∀(k q:Nat) (o p:LB) (f c w r n:Int) (g:LI) (a:Int) (x:LB),FitD o f c w r n g a x->o.length<=64->SzD p g a x->OutB f c w r n g a x->p.length<=100000->muD f g a<k->k<=q->
  (∃(t2:LB) (t3 t4 t5 t6 t7:Int) (t8:LI) (t9:Int) (t10:LB),ON q o p f c w r n g a x=some (o,t2,t3,t4,t5,t6,t7,t8,t9,t10,false,0,0)/\Wt o t2 t3 t4 t5 t6 t7 t8 t9 t10/\t2.length<=p.length/\muD t3 t8 t9<k/\
   ∀b:LB,(p++b).length<=100000->ON q o (p++b) f c w r n g a x=ON q o (t2++b) t3 t4 t5 t6 t7 t8 t9 t10)\/
  (∃(x':LB) (e:Int),0<e/\Cd e/\x'.length<=12000/\∀b:LB,(p++b).length<=100000->ON q o (p++b) f c w r n g a x=some (o,[],0,0,0,0,0,[],0,x',false,e,e))
 |0,_,_,_,_,_,_,_,_,_,_,_,_,_,_,_,_,h,_=>by omega
 |k+1,q,o,p,f,c,w,r,n,g,a,x,hf,ho,hZ,hO,hp,hm,h1=>by
  obtain⟨q,rfl⟩:∃q',q=q'+1:=⟨q-1,F0⟩;have hx:x.length<=13000000:=by have:=hZ.hx;omega
  have hS:StepR (Be o false 0 q) o p f c w r n g a x false 0:=zV hf ho hZ;cases hS with
  |wait hF hT=>
   refine .inl ⟨p,f,c,w,r,n,g,a,x,?_,⟨hf,hZ,hO,hT⟩,Apn _,hm,λb _=>rfl⟩;rw[ON,Ax,Bs,hT,Aa];simp only;rw[Aa4 F5,XW hZ.hp (by have:=hZ.hg;omega) hx,Aa]
  |err e he hF hT=>
   refine .inr ⟨x,e,he,Aos hf ho hp hT F0,Aji hf hO,λb hL=>?_⟩;obtain⟨s1,s2,s3,s4,s5,s6,s7,s8,s9,s10,s11,s12,hs⟩:=(fM b hf hL hT F0).2 F0;rw[ON,Ax,Bs,hs,Aa];simp only;rw[Aa2 Ax6,Aa4 Axp,B3 hx,Aa]
  |next p' f' c' w' r' n' g' a' x' hF hT hf' hZ' hle hmu=>
   have hp':p'.length<=100000:=F0
   rcases xk k q o p' f' c' w' r' n' g' a' x' hf' ho hZ' (Ak0 hf ho hZ hO hT) hp' F0 F0 with⟨t2,t3,t4,t5,t6,t7,t8,t9,t10,k1,k2,k3,k4,k5⟩|⟨x2,e,k1,k2,k3,k4⟩
   ·refine .inl ⟨t2,t3,t4,t5,t6,t7,t8,t9,t10,?_,k2,F0,F0,λb hL=>?_⟩
    ·rw[ON,Ax,Bs,hT,Aa];simp only;rw[Aa2 F5,Aa2 F5];exact k1
    ·have hs:=(fM b hf hL hT F5).1 rfl;have hL':(p'++b).length<=100000:=by rw[Aa7]at hL⊢;omega
     rw[ON,Ax,Bs,hs,Aa];simp only;rw[Aa2 F5,Aa2 F5];refine(k5 b hL').trans ?_;exact M1 k q (q+1) o (t2++b) t3 t4 t5 t6 t7 t8 t9 t10 false 0 k2.fit ho ⟨by rw[Aa7]at hL⊢;omega,k2.sz.hg,k2.sz.hx⟩ k4 F0 F0
   ·refine .inr ⟨x2,e,k1,k2,k3,λb hL=>?_⟩;have hs:=(fM b hf hL hT F5).1 rfl;have hL':(p'++b).length<=100000:=by rw[Aa7]at hL⊢;omega
    rw[ON,Ax,Bs,hs,Aa];simp only;rw[Aa2 F5,Aa2 F5];exact k4 b hL'
abbrev Fd(o s:LB):=ON Ar o s 0 0 0 0 0 [] 0 []
inductive Bh (o s:LB):LB->Int->Int->Int->Int->Int->LI->Int->LB->Int->Prop
 |wt {p:LB} {f c w r n:Int} {g:LI} {a:Int} {x:LB}:Wt o p f c w r n g a x->p.length<=s.length-> (∀b:LB,(s++b).length<=100000->Fd o (s++b)=ON Ar o (p++b) f c w r n g a x)->Bh o s p f c w r n g a x 0
 |er {x:LB} {e:Int}:0<e->Cd e->x.length<=12000-> (∀b:LB,(s++b).length<=100000->Fd o (s++b)=some (o,[],0,0,0,0,0,[],0,x,false,e,e))->Bh o s [] 0 0 0 0 0 [] 0 x e
variable {o s p:LB} {f c w r n:Int} {g:LI} {a:Int} {x:LB} {e:Int}
theorem Wt.stop(W:Wt o p f c w r n g a x):ON Ar o p f c w r n g a x=some (o,p,f,c,w,r,n,g,a,x,false,0,0):=by
 obtain⟨q,hq⟩:∃q,Ar=q+1:=⟨Ar-1,by have:=As;omega⟩;have hx:x.length<=13000000:=by have:=W.sz.hx;omega
 rw[ON,hq,Ax,Bs,W.wait,Aa];simp only;rw[Aa4 F5,XW W.sz.hp (by have:=W.sz.hg;omega) hx,Aa]
theorem Bh.fd(h:Bh o s p f c w r n g a x e)(hs:s.length<=100000):Fd o s=some (o,p,f,c,w,r,n,g,a,x,false,e,e):=by
 cases h with
 |wt W hl hb=>
  have:=hb [] (by simpa using hs);rw[Ap8,Ap8]at this;rw[this,W.stop]
 |er h0 hc hx hb=>
  have:=hb [] (by simpa using hs);rw[Ap8]at this;exact this
theorem Bh.new(ho:o.length<=64):Bh o [] [] 0 0 0 0 0 [] 0 [] 0:=by
 refine .wt ⟨.new rfl rfl rfl rfl rfl rfl rfl rfl,⟨Axl,Axl,Axl⟩,OutB.nil,?_⟩ (Apn _) λb _=>rfl;rw[Ag,Br,Aa4 F5,AK [] Axl,Aa];rfl
theorem jd(ho:o.length<=64)(W:Wt o p f c w r n g a x)(b:LB)(hp:p.length<=20000)(hb:b.length<=20000):
  Di o p f c w r n g a x false 0 b=ON Ar o (p++b) f c w r n g a x/\Ig o p f c w r n g a x false 0 b=ON Ar o (p++b) f c w r n g a x:=by
 have hR:Ig o p f c w r n g a x false 0 b=ON Ar o (p++b) f c w r n g a x:=by
  have hx:x.length<=13000000:=by have:=W.sz.hx;omega
  have hg:g.length<=2000:=by have:=W.sz.hg;omega
  have hE:¬(Bi (0:Int) 0=true):=F5
  have hF:¬(false=true):=F5
  rw[Ig,Ps,mS W.fit ho W.out W.wait,Aa,Aa2 hE,XW F0 hg hx,Aa];simp only;rw[Pr]
  repeat (first|rw[Aa]|rw[Aa2 hE]|rw[Aa2 hF])
  rw[Ct,Aa];rfl
 obtain⟨t1,t2,t3,t4,t5,t6,t7,t8,t9,t10,t11,t12,e,h1,h2,_⟩:=Att ho W.fit W.sz b hp hb;exact⟨h1.trans (h2.symm.trans hR),hR⟩
theorem Bh.check(ho:o.length<=64)(h:Bh o s p f c w r n g a x e)(hp:p.length<=100000):Hi o p f c w r n g a x false e=some 0/\De o p f c w r n g a x false e=some 0:=by
 have key:De o p f c w r n g a x false e=some 0/\g.length<=1000/\x.length<=13000000:=by
  cases h with
  |wt W hl hb=>exact⟨mS W.fit ho W.out W.wait,W.sz.hg,by have:=W.sz.hx;omega⟩
  |er h0 hc hx hb=>exact⟨rQ ho hx hc h0,Axl,F0⟩
 obtain⟨k1,k2,k3⟩:=key;obtain⟨E,e1,e2⟩:=rA o p f c w r n g a x false e hp F0 F0;rw[k1]at e2;cases e2;exact⟨e1,k1⟩
theorem Bh.feed(ho:o.length<=64)(h:Bh o s p f c w r n g a x e)(hp:p.length<=20000)(b:LB)(hb:b.length<=20000)(hs:(s++b).length<=100000):
  ∃(p':LB) (f' c' w' r' n':Int) (g':LI) (a':Int) (x':LB) (e':Int),Di o p f c w r n g a x false e b=some (o,p',f',c',w',r',n',g',a',x',false,e',e')/\
   Ig o p f c w r n g a x false e b=some (o,p',f',c',w',r',n',g',a',x',false,e',e')/\Bh o (s++b) p' f' c' w' r' n' g' a' x' e':=by
 have hck:=h.check ho F0;cases h with
 |wt W hl hB=>
  obtain⟨h1,h2⟩:=jd ho W b hp hb;have hpb:(p++b).length<=100000:=by rw[Aa7];omega
  have hZ:SzD (p++b) g a x:=⟨hpb,W.sz.hg,W.sz.hx⟩;rcases xk 1004 Ar o (p++b) f c w r n g a x W.fit ho hZ W.out hpb (Akl hZ) Axj with⟨t2,t3,t4,t5,t6,t7,t8,t9,t10,k1,k2,k3,k4,k5⟩|⟨x2,e,k1,k2,k3,k4⟩
  ·refine⟨t2,t3,t4,t5,t6,t7,t8,t9,t10,0,h1.trans k1,h2.trans k1, .wt k2 ?_ λb2 hL=>?_⟩
   ·rw[Aa7]at k3⊢;omega
   ·rw[Ame,hB (b++b2) (by rw[<-Ame];exact hL),<-Ame];refine k5 b2 ?_;rw[Aa7,Aa7]at hL⊢;omega
  ·have k4':=k4 [] (by simpa using hpb);rw[Ap8]at k4';refine⟨_,_,_,_,_,_,_,_,_,_,h1.trans k4',h2.trans k4', .er k1 k2 k3 λb2 hL=>?_⟩;rw[Ame,hB (b++b2) (by rw[<-Ame];exact hL),<-Ame];refine k4 b2 ?_;rw[Aa7,Aa7]at hL⊢;omega
 |er h0 hc hx hB=>
  have hne:Bi e 0=true:=by rw[Am];simp;omega
  refine⟨_,_,_,_,_,_,_,_,_,_,?_,?_, .er h0 hc hx λb2 hL=>?_⟩
  ·rw[Di,Tm,fN Axl Axl F0 hck.1,Aa2 F5,Aa];simp only;rw[Aa4 (show e≠0 by omega),Aa4 hne]
  ·rw[Ig,Ps,hck.2,Aa,Aa2 F5,XW Axl Axl F0,Aa];simp only;rw[Pr,Aa4 hne,Aa,Aa4 hne]
  ·rw[Ame];exact hB (b++b2) (by rw[<-Ame];exact hL)
theorem Akm{v:Int}{y:LB}(hf:FitD o f c w r n g a x){t1 t2:LB}{t3 t4 t5 t6 t7:Int}{t8:LI}{t9:Int}{t10:LB}{t12:Int}
  (h:Ag o p f c w r n g a x u v=some (t1,t2,t3,t4,t5,t6,t7,t8,t9,t10,t11,t12, -1)) (hp:p.length<=100000):Ag o p f c w r n g a y u v=some (o,p,f,c,w,r,n,g,a,y,u,v, -1):=by
 have zero:¬(Bi (0:Int) 0=true):=F5
 rw[Ag,Br]at h⊢;by_cases hz:geq f 0=true
 ·rw[Aa4 hz]at h⊢;obtain⟨⟨z1,z2,z3,z4,z5,z6,z7⟩,hz1,h⟩:=Ti h;rw[hz1,Aa];simp only at h⊢;by_cases h7:Bi z7 0=true
  ·rw[Aa4 h7]at h⊢;simp only[Aa6,Aep]at h;rw[h.2.2.2.2.2.2.2.2.2.2.2.2]
  ·rw[Aa2 h7]at h;obtain⟨af,h1,h⟩:=Ti h;rw[Ga,Fz,Eb]at h;obtain⟨aw,h2,h⟩:=Ti h;simp only[Aa6,Aep]at h;obtain⟨-, -, -, -, -, -, -, -, -, -, -, -,rfl⟩:=h;split at h2<;>cases h2
 ·rw[Aa2 hz]at h⊢;rw[Bt,Bc]at h⊢;by_cases hg:geq (Ac g) 0=true
  ·rw[Aa4 hg]at h⊢;obtain⟨⟨z1,z2,z3⟩,hz1,h⟩:=Ti h;rw[hz1,Aa];simp only at h⊢;by_cases h7:Bi z3 0=true
   ·rw[Aa4 h7]at h⊢;simp only[Aa6,Aep]at h;rw[h.2.2.2.2.2.2.2.2.2.2.2.2]
   ·rw[Aa2 h7]at h;obtain⟨af,h1,h⟩:=Ti h;simp only[Aa6,Aep]at h;exact absurd h.2.2.2.2.2.2.2.2.2.2.2.2 F5
  ·rw[Aa2 hg]at h⊢;by_cases he:geq a (Ac g)=true
   ·rw[Aa4 he]at h⊢;by_cases hm:Dv (Ac p) 4000=true
    ·rw[Aa4 hm]at h;simp only[Aa6,Aep]at h;exact absurd h.2.2.2.2.2.2.2.2.2.2.2.2 F5
    ·rw[Aa2 hm]
   ·rw[Aa2 he]at h⊢;obtain⟨⟨z1,z2⟩,hz1,h⟩:=Ti h;have hz2:Cv o p f c w r n g a y u v=some (z1,z2):=hz1;rw[hz2,Aa];simp only at h⊢;by_cases h7:Bi z2 0=true
    ·rw[Aa4 h7]at h⊢;simp only[Aa6,Aep]at h;rw[h.2.2.2.2.2.2.2.2.2.2.2.2]
    ·rw[Aa2 h7]at h;obtain⟨an,h2,h⟩:=Ti h;obtain⟨ah,h3,h⟩:=Ti h;obtain⟨ad,h4,h⟩:=Ti h;obtain⟨ae,h5,h⟩:=Ti h;simp only[Aa6,Aep]at h;exact absurd h.2.2.2.2.2.2.2.2.2.2.2.2 F5
end Go.Pl
namespace Go.Pl
open Go Go.Lv
variable{u t11:Bool}{α:Type}
section
variable {o s p:LB} {f c w r n:Int} {g:LI} {a:Int} {x:LB} {e:Int}
theorem FitD.drop(h:FitD o f c w r n g a x)(t:Nat):FitD o f c w r n g a (x.drop t):=by
 cases h with
 |new e1 e2 e3 e4 e5 e6 e7 e8=>subst e8;exact .new e1 e2 e3 e4 e5 e6 e7 Axl
 |head F C W R N hd hpw e6 e7 e8=>subst e8;exact .head F C W R N hd hpw e6 e7 Axl
 |tab F C W R N A hd hpw ht hl ea hA=>exact .tab F C W R N A hd hpw ht hl ea hA
theorem OutB.drop(h:OutB f c w r n g a x)(t:Nat):OutB f c w r n g a (x.drop t):=by
 intro F C W R N A hd hg ha;have:=h F C W R N A hd hg ha;rw[Ah1];omega
theorem Bh.uH(h:Bh o s p f c w r n g a x e):p.length<=s.length/\g.length<=1000/\x.length<=12000:=by
 cases h with
 |wt W hl hb=>exact⟨hl,W.sz.hg,Aji W.fit W.out⟩
 |er h0 hc hx hb=>exact⟨Axl,Axl,hx⟩
theorem Bh.xT(ho:o.length<=64)(h:Bh o s p f c w r n g a x e)(hp:p.length<=100000)(t:Nat):Hi o p f c w r n g a (x.drop t) false e=some 0:=by
 have hs:=h.uH;have key:De o p f c w r n g a (x.drop t) false e=some 0:=by
  cases h with
  |wt W hl hb=>exact mS (W.fit.drop t) ho (W.out.drop t) (Akm W.fit W.wait hp)
  |er h0 hc hx hb=>exact rQ ho Axv hc h0
 obtain⟨E,e1,e2⟩:=rA o p f c w r n g a (x.drop t) false e hp F0 Axv;rw[key]at e2;cases e2;exact e1
theorem Ai7(hck:Hi o p f c w r n g a x u e=some 0)(hp:p.length<=20000)(hg:g.length<=2000)(hx:x.length<=12000)(m:Nat):
  Tr o p f c w r n g a x u e (m:Int)=some (o,p,f,c,w,r,n,g,a,x.drop (min m x.length),u,e,x.take (min m x.length),0):=by
 rw[Tr,hck,Aa,Aa2 F5,Aa2 Axs,P1 F0 hg F0,Aa];simp only;have hk:Dx (m:Int) (Ac x)=((min m x.length:Nat):Int):=by rw[HZ,Ac];omega
 rw[hk,Db,Aa,Hy,Ct F6,Aa,Aa,Dm,Aa];rfl
end
section
variable {o s p:LB} {f c w r n:Int} {g:LI} {a:Int} {x:LB} {e:Int}
theorem S2{v:Int}(hp:p.length<=20000)(h:Qj o p f c w r n g a x u v=some e):Cd e:=by
 rw[Qj]at h;split at h
 ·rw[ZY p F0,Aa]at h;have hok:=PM (b:=p);simp only at h;by_cases h2:(Dk p).2≠0
  ·rw[Aa4 (by rw[Am];simpa using h2)]at h;cases h;exact sH p
  ·have h3:(Dk p).2=0:=by simpa using h2
   obtain⟨k1,k2,k3⟩:=hok h3;have hl:(Ui p).length<=p.length:=by rw[Ui,Ah1];omega
   rw[Aa2 (by rw[Am,h3];simp),Dm,Aa,show p.drop (Dk p).1.toNat=Ui p from rfl,yI _ F0,Aa]at h;cases h;exact I1 _
 ·split at h
  ·cases h;decide
  ·obtain⟨⟨z1,z2⟩,hz,h⟩:=Ti h;simp only at h;split at h<;>(cases h;decide)
theorem VP{v k:Int}(ho:o.length<=64)(hx:x.length<=12000)(hk:(u=false/\v=k/\0<k/\Cd k)\/ (u=true/\v=0/\k=36)):
  Hi o [] 0 0 0 0 0 [] 0 x u v=some 0/\ (∀b,Di o [] 0 0 0 0 0 [] 0 x u v b=some (o,[],0,0,0,0,0,[],0,x,u,v,k))/\Dq o [] 0 0 0 0 0 [] 0 x u v=some (o,[],0,0,0,0,0,[],0,x,u,v,k):=by
 have key:De o [] 0 0 0 0 0 [] 0 x u v=some 0:=by
  rcases hk with⟨rfl,rfl,h1,h2⟩|⟨rfl,rfl,rfl⟩
  ·exact rQ ho hx h2 h1
  ·have hX:Dv (Ac x) 12000=false:=by rw[Au,Ac];simp;omega
   rw[De,Aa2 Axk,Aa2 F5,Aa4 F5,hX,Aa2 F5,Aa2 F5]
 obtain⟨E,e1,e2⟩:=rA o [] 0 0 0 0 0 [] 0 x u v Axl Axl F0;rw[key]at e2;cases e2;have hv:(if v≠0 then v else if u=true then 36 else 0)=k:=by
  rcases hk with⟨rfl,rfl,h1,h2⟩|⟨rfl,rfl,rfl⟩
  ·rw[Aa4 F0]
  ·rfl
 have hk0:Bi k 0=true:=by
  rw[Am];rcases hk with⟨rfl,rfl,h1,h2⟩|⟨rfl,rfl,rfl⟩
  ·simp;omega
  ·rfl
 have hb:=fN (o:=o) (p:=[]) (f:=0) (c:=0) (w:=0) (r:=0) (n:=0) (g:=[]) (a:=0) (x:=x) (u:=u) (v:=v) Axl Axl F0 e1;rw[Aa2 F5,hv]at hb;refine⟨e1,λb=>?_,?_⟩
 ·rw[Di,Tm,hb,Aa];simp only;rw[Aa4 hk0]
 ·rw[Dq,hb,Aa];simp only;rw[Aa4 hk0]
theorem Bh.finish(ho:o.length<=64)(h:Bh o s p f c w r n g a x e)(hp:p.length<=20000):
  ∃(u:Bool) (v k:Int),Dq o p f c w r n g a x false e=some (o,[],0,0,0,0,0,[],0,x,u,v,k)/\ ((u=false/\v=k/\0<k/\Cd k/\ (e=0\/e=k))\/ (u=true/\v=0/\k=0)):=by
 have hs:=h.uH;have hck:=(h.check ho F0).1;have hb:=fN (o:=o) (p:=p) (f:=f) (c:=c) (w:=w) (r:=r) (n:=n) (g:=g) (a:=a) (x:=x) (u:=false) (v:=e) F0 F0 F0 hck;rw[Aa2 F5]at hb;cases h with
 |wt W hl hB=>
  obtain⟨e1,d1,d2⟩:=uU (o:=o) (p:=p) (f:=f) (c:=c) (w:=w) (r:=r) (n:=n) (a:=a) (u:=false) (v:=0) (g:=g) (x:=x) hp;have hcd:=S2 hp d2;rw[Dq,hb,Aa];simp only;rw[Aa2 F5,d1,Aa];by_cases he:Bi e1 0=true
  ·rw[Aa4 he];refine⟨false,e1,e1,rfl, .inl ⟨rfl,rfl,?_,hcd,Axl⟩⟩;have:=hcd.nn;rw[Am]at he;simp only[Awn]at he;omega
  ·rw[Aa2 he];exact⟨true,0,0,rfl, .inr ⟨rfl,rfl,rfl⟩⟩
 |er h0 hc hx hB=>
  have hne:Bi e 0=true:=by rw[Am];simp;omega
  rw[Dq,hb,Aa];simp only;rw[Aa4 (show e≠0 by omega),Aa4 hne];exact⟨false,e,e,rfl, .inl ⟨rfl,rfl,h0,hc, .inr rfl⟩⟩
end
theorem XG{l m z:List α}(h:Ck l m=some z):z=l++m:=by
 rw[Ck]at h;split at h
 ·exact(Awu h).symm
 ·cases h
theorem Aih{o p:LB}{f c w r n:Int}{g:LI}{a:Int}{x:LB}{v:Int}(hf:f≠0)(hg:g≠ []){t1 t2:LB}{t3 t4 t5 t6 t7:Int}{t8:LI}{t9:Int}{t10:LB}{t12 e:Int}
  (h:Ag o p f c w r n g a x u v=some (t1,t2,t3,t4,t5,t6,t7,t8,t9,t10,t11,t12,e)):e≠0\/ (t3=f/\t8=g/\∃y,t10=x++y):=by
 rw[Ag,Br,Aa2 (by rw[Ba];simpa using hf),Bt,Bc,Aa2 (by
  rw[Ba,Ac,As1];intro e;exact hg (As3 F0))]at h
 by_cases he:geq a (Ac g)=true
 ·rw[Aa4 he]at h;by_cases hm:Dv (Ac p) 4000=true
  ·rw[Aa4 hm]at h;simp only[Aa6,Aep]at h;left;rw[<-h.2.2.2.2.2.2.2.2.2.2.2.2];decide
  ·rw[Aa2 hm]at h;simp only[Aa6,Aep]at h;left;rw[<-h.2.2.2.2.2.2.2.2.2.2.2.2];decide
 ·rw[Aa2 he]at h;obtain⟨⟨z1,z2⟩,hz1,h⟩:=Ti h;simp only at h;by_cases h7:Bi z2 0=true
  ·rw[Aa4 h7]at h;simp only[Aa6,Aep]at h;left;rw[<-h.2.2.2.2.2.2.2.2.2.2.2.2];rw[Am]at h7;simpa using h7
  ·rw[Aa2 h7]at h;obtain⟨an,h2,h⟩:=Ti h;obtain⟨ah,h3,h⟩:=Ti h;obtain⟨ad,h4,h⟩:=Ti h;obtain⟨ae,h5,h⟩:=Ti h;simp only[Aa6,Aep]at h;have e1:=XG h2;have e2:=XG h3;rw[Arh]at e1;right;exact⟨h.2.2.1.symm,h.2.2.2.2.2.2.2.1.symm,z1,by rw[<-h.2.2.2.2.2.2.2.2.2.1,e2,e1]⟩
theorem qZ{l m r:List α}(h:Ck l m=some r):l.length+m.length<=M2:=by
 rw[Ck]at h;split at h
 ·assumption
 ·cases h
theorem wW{l m:List α}(h:l.length+m.length<=M2):Ck l m=some (l++m):=by rw[Ck,Aa4 h]
theorem Aqn{o p:LB}{f c w r n:Int}{g:LI}{a:Int}{x:LB}{v:Int}(hf:f≠0)(hg:g≠ []){t1 t2:LB}{t3 t4 t5 t6 t7:Int}{t8:LI}{t9:Int}{t10:LB}{t12 e:Int}
  (h:Ag o p f c w r n g a x u v=some (t1,t2,t3,t4,t5,t6,t7,t8,t9,t10,t11,t12,e)):
  ∃y,t10=x++y/\∀z:LB,z.length<=x.length->Ag o p f c w r n g a z u v=some (t1,t2,t3,t4,t5,t6,t7,t8,t9,z++y,t11,t12,e):=by
 have e0:∀z:LB,Ag o p f c w r n g a z u v=Bc o p f c w r n g a z u v:=λz=>by
  rw[Ag,Br,Aa2 (by rw[Ba];simpa using hf),Bt]
 have hgl:¬geq (Ac g) 0=true:=by
  rw[Ba,Ac,As1];intro e;exact hg (As3 F0)
 have stay:∀E:Int,some (o,p,f,c,w,r,n,g,a,x,u,v,E)=some (t1,t2,t3,t4,t5,t6,t7,t8,t9,t10,t11,t12,e)-> (∀z:LB,Bc o p f c w r n g a z u v=some (o,p,f,c,w,r,n,g,a,z,u,v,E))->
   ∃y,t10=x++y/\∀z:LB,z.length<=x.length->Ag o p f c w r n g a z u v=some (t1,t2,t3,t4,t5,t6,t7,t8,t9,z++y,t11,t12,e):=by
  intro E h hz;simp only[Aa6,Aep]at h;obtain⟨rfl,rfl,rfl,rfl,rfl,rfl,rfl,rfl,rfl,rfl,rfl,rfl,rfl⟩:=h;exact⟨[],(Ap8 _).symm,λz _=>by rw[e0,hz,Ap8]⟩
 rw[e0,Bc,Aa2 hgl]at h;by_cases he:geq a (Ac g)=true
 ·rw[Aa4 he]at h;by_cases hm:Dv (Ac p) 4000=true
  ·rw[Aa4 hm]at h;exact stay _ h λz=>by rw[Bc,Aa2 hgl,Aa4 he,Aa4 hm]
  ·rw[Aa2 hm]at h;exact stay _ h λz=>by rw[Bc,Aa2 hgl,Aa4 he,Aa2 hm]
 ·rw[Aa2 he]at h;obtain⟨⟨z1,z2⟩,hz1,h⟩:=Ti h;have hz1':∀z:LB,Cv o p f c w r n g a z u v=some (z1,z2):=λz=>hz1;simp only at h;by_cases h7:Bi z2 0=true
  ·rw[Aa4 h7]at h;refine stay _ h λz=>?_;rw[Bc,Aa2 hgl,Aa2 he,hz1',Aa];simp only;rw[Aa4 h7]
  ·rw[Aa2 h7]at h;obtain⟨an,h2,h⟩:=Ti h;obtain⟨ah,h3,h⟩:=Ti h;obtain⟨ad,h4,h⟩:=Ti h;obtain⟨ae,h5,h⟩:=Ti h;simp only[Aa6,Aep]at h;have e1:=XG h2;have e2:=XG h3;have l2:=qZ h2;have l3:=qZ h3;rw[Arh]at e1;obtain⟨h01,h02,h03,h04,h05,h06,h07,h08,h09,h10,h11,h12,h13⟩:=h;refine⟨z1,by rw[<-h10,e2,e1],λz hz=>?_⟩;rw[e1]at l3;rw[e0,Bc,Aa2 hgl,Aa2 he,hz1',Aa];simp only;rw[Aa2 h7,wW (by simp at l2⊢;omega),Aa,Arh,wW F0,Aa,h4,Aa,h5,Aa,h01,h02,h03,h04,h05,h06,h07,h08,h09,h11,h12,h13]
theorem Ah3:∀(q:Nat) (o p:LB) (f c w r n:Int) (g:LI) (a:Int) (x:LB) (u:Bool) (v:Int),f≠0->g≠ []->∀(t1 t2:LB) (t3 t4 t5 t6 t7:Int) (t8:LI) (t9:Int) (t10:LB) (t11:Bool) (t12 e:Int),Ax q o p f c w r n g a x u v=some (t1,t2,t3,t4,t5,t6,t7,t8,t9,t10,t11,t12,e)->
  ∃y,t10=x++y/\∀z:LB,z.length<=x.length->Ax q o p f c w r n g a z u v=some (t1,t2,t3,t4,t5,t6,t7,t8,t9,z++y,t11,t12,e)
 |0,o,p,f,c,w,r,n,g,a,x,u,v,_,_,t1,t2,t3,t4,t5,t6,t7,t8,t9,t10,t11,t12,e,h=>by cases h
 |q+1,o,p,f,c,w,r,n,g,a,x,u,v,hf,hg,t1,t2,t3,t4,t5,t6,t7,t8,t9,t10,t11,t12,e,h=>by
  rw[Ax,Bs]at h;obtain⟨⟨z1,z2,z3,z4,z5,z6,z7,z8,z9,z10,z11,z12,zz⟩,hz,h⟩:=Ti h;obtain⟨y,hy1,hy2⟩:=Aqn hf hg hz;simp only at h;by_cases h1:geq zz (-1)=true
  ·rw[Aa4 h1]at h;obtain⟨⟨y1,y2,y3,y4,y5,y6,y7,y8,y9,y10,y11,y12⟩,hy,h⟩:=Ti h;simp only[Aa6,Aep]at h;rw[Ld,Pe]at hy;obtain⟨a1,k1,hy⟩:=Ti hy;obtain⟨a2,k2,hy⟩:=Ti hy;rw[Pj,Ph]at hy;obtain⟨a3,k3,hy⟩:=Ti hy;simp only[Aa6,Aep]at hy;have e2:=XG k2;have l2:=qZ k2;obtain⟨rfl,rfl,rfl,rfl,rfl,rfl,rfl,rfl,rfl,rfl,rfl,rfl⟩:=hy;obtain⟨rfl,rfl,rfl,rfl,rfl,rfl,rfl,rfl,rfl,rfl,rfl,rfl,rfl⟩:=h;refine⟨[],by rw[e2,Arh,Ap8],λz hzl=>?_⟩;rw[Ax,Bs,hy2 z hzl,Aa];simp only;rw[Aa4 h1,Ld,Pe,k1,Aa,wW (by simp at l2⊢;omega),Aa,Pj,Ph,k3,Aa,Aa];simp
  ·rw[Aa2 h1]at h;by_cases h2:Bi zz 0=true
   ·rw[Aa4 h2]at h;obtain⟨⟨y1,y2,y3,y4,y5,y6,y7,y8,y9,y10,y11,y12,y13⟩,hy,h⟩:=Ti h;simp only[Aa6,Aep]at h;rw[Md]at hy;obtain⟨⟨x1,x2,x3,x4,x5,x6,x7,x8,x9,x10,x11,x12⟩,hx,hy⟩:=Ti hy;simp only[Aa6,Aep]at hy;rw[Vm]at hx;obtain⟨a2,k2,hx⟩:=Ti hx;simp only[Aa6,Aep]at hx;have e2:=XG k2;have l2:=qZ k2;obtain⟨rfl,rfl,rfl,rfl,rfl,rfl,rfl,rfl,rfl,rfl,rfl,rfl⟩:=hx;obtain⟨rfl,rfl,rfl,rfl,rfl,rfl,rfl,rfl,rfl,rfl,rfl,rfl,rfl⟩:=hy;obtain⟨rfl,rfl,rfl,rfl,rfl,rfl,rfl,rfl,rfl,rfl,rfl,rfl,rfl⟩:=h;refine⟨[],by rw[e2,Arh,Ap8],λz hzl=>?_⟩;rw[Ax,Bs,hy2 z hzl,Aa];simp only;rw[Aa2 h1,Aa4 h2,Md,Vm,wW (by simp at l2⊢;omega),Aa,Aa,Aa];simp
   ·rw[Aa2 h2]at h;have hz0:zz=0:=by rw[Am]at h2;simpa using h2
    rcases Aih hf hg hz with h3|⟨h3,h4,y0,h5⟩
    ·exact absurd hz0 h3
    ·obtain⟨y2,h6,h7⟩:=Ah3 q z1 z2 z3 z4 z5 z6 z7 z8 z9 z10 z11 z12 (by rw[h3];exact hf) (by rw[h4];exact hg) _ _ _ _ _ _ _ _ _ _ _ _ _ h;refine⟨y++y2,by rw[h6,hy1,Ame],λz hzl=>?_⟩;rw[Ax,Bs,hy2 z hzl,Aa];simp only;rw[Aa2 h1,Aa2 h2,h7 (z++y) (by rw[hy1,Aa7,Aa7];omega),Ame]
section
variable {o s p:LB} {f c w r n:Int} {g:LI} {a:Int} {x:LB} {e:Int}
theorem Wt.drop(W:Wt o p f c w r n g a x)(t:Nat):Wt o p f c w r n g a (x.drop t):=
 ⟨W.fit.drop t,⟨W.sz.hp,W.sz.hg,by have:=W.sz.hx;rw[Ah1];omega⟩,W.out.drop t,Akm W.fit W.wait W.sz.hp⟩
theorem FitD.early(h:FitD o f c w r n g a x)(hx:x≠ []):f≠0/\g≠ []:=by
 cases h with
 |new _ _ _ _ _ _ _ e8=>exact absurd e8 hx
 |head _ _ _ _ _ _ _ _ _ e8=>exact absurd e8 hx
 |tab F C W R N A hd hpw ht hl ea hA=>
  refine⟨hd.fnz,λe=>?_⟩;have h1:=hd.num;have h2:(Ao (Bf R) N).length=0:=by rw[<-hl,e];rfl
  have h3:Ao (Bf R) N=[]:=As3 h2;have h4:(Ao (Bf R) N).sum=(N:Int):=fT h1.2.2.2.2.1;rw[h3]at h4;simp at h4;omega
theorem Bh.Apr(ho:o.length<=64)(h:Bh o s p f c w r n g a x e)(hp:p.length<=20000)(b:LB)(hb:b.length<=20000)(hs:(s++b).length<=100000){t:Nat}(ht:t<=x.length):
  ∃(p':LB) (f' c' w' r' n':Int) (g':LI) (a':Int) (y:LB) (e':Int),Di o p f c w r n g a (x.drop t) false e b=some (o,p',f',c',w',r',n',g',a',(x++y).drop t,false,e',e')/\
   Di o p f c w r n g a x false e b=some (o,p',f',c',w',r',n',g',a',x++y,false,e',e')/\Bh o (s++b) p' f' c' w' r' n' g' a' (x++y) e':=by
 obtain⟨p',f',c',w',r',n',g',a',x',e',h1,h2,h3⟩:=h.feed ho hp b hb hs;have hck:=h.xT ho F0 t;have hsz:=h.uH;cases h with
 |wt W hl hB=>
  by_cases hx:x=[]
  ·subst hx;obtain rfl:t=0:=by simpa using ht
   exact⟨p',f',c',w',r',n',g',a',x',e',h1,by simpa using h1,by simpa using h3⟩
  ·obtain⟨hf,hg⟩:=W.fit.early hx;have e1:=(jd ho W b hp hb).1;have e2:=(jd ho (W.drop t) b hp hb).1;rw[e1]at h1;obtain⟨y,k1,k2⟩:=Ah3 Ar o (p++b) f c w r n g a x false 0 hf hg _ _ _ _ _ _ _ _ _ _ _ _ _ h1;subst k1;refine⟨p',f',c',w',r',n',g',a',y,e',?_,by rw[e1];exact h1,h3⟩;rw[e2,Auq ht];exact k2 (x.drop t) Axv
 |er h0 hc hx hB=>
  obtain⟨q1,q2,q3⟩:=VP (o:=o) (x:=x) (u:=false) (v:=e) (k:=e) ho hx (.inl ⟨rfl,rfl,h0,hc⟩);obtain⟨d1,d2,d3⟩:=VP (o:=o) (x:=x.drop t) (u:=false) (v:=e) (k:=e) ho Axv (.inl ⟨rfl,rfl,h0,hc⟩);rw[q2 b]at h1;simp only[Aa6,Aep,true_and]at h1;obtain⟨rfl,rfl,rfl,rfl,rfl,rfl,rfl,rfl,rfl,rfl,_⟩:=h1;exact⟨[],0,0,0,0,0,[],0,[],e,by simpa using d2 b,by simpa using q2 b,by simpa using h3⟩
def Alm(u:Bool)(v k:Int):Prop:=(u=false/\v=k/\0<k/\Cd k)\/ (u=true/\v=0/\k=36)
theorem Bh.Amp(ho:o.length<=64)(h:Bh o s p f c w r n g a x e)(hp:p.length<=20000):
  ∃(u:Bool) (v k:Int),(∀t,Dq o p f c w r n g a (x.drop t) false e=some (o,[],0,0,0,0,0,[],0,x.drop t,u,v,k))/\ ((u=false/\v=k/\0<k/\Cd k/\ (e=0\/e=k))\/ (u=true/\v=0/\k=0)):=by
 have hs:=h.uH;cases h with
 |wt W hl hB=>
  obtain⟨e1,d1,d2⟩:=uU (o:=o) (p:=p) (f:=f) (c:=c) (w:=w) (r:=r) (n:=n) (a:=a) (u:=false) (v:=0) (g:=g) (x:=x) hp;have hcd:=S2 hp d2;have go:∀t,Dq o p f c w r n g a (x.drop t) false 0=if Bi e1 0=true then some (o,[],0,0,0,0,0,[],0,x.drop t,false,e1,e1)else some (o,[],0,0,0,0,0,[],0,x.drop t,true,0,0):=by
   intro t;have hb:=fN (o:=o) (p:=p) (f:=f) (c:=c) (w:=w) (r:=r) (n:=n) (g:=g) (a:=a) (x:=x.drop t) (u:=false) (v:=0) F0 F0 Axv (Bh.xT ho (.wt W hl hB) F0 t);rw[Aa2 F5]at hb;rw[Dq,hb,Aa];simp only;have d1':Wa o p f c w r n g a (x.drop t) false 0=some e1:=d1;rw[Aa2 F5,d1',Aa];rfl
  by_cases he:Bi e1 0=true
  ·refine⟨false,e1,e1,λt=>by rw[go,Aa4 he], .inl ⟨rfl,rfl,?_,hcd,Axl⟩⟩;have:=hcd.nn;rw[Am]at he;simp only[Awn]at he;omega
  ·exact⟨true,0,0,λt=>by rw[go,Aa2 he], .inr ⟨rfl,rfl,rfl⟩⟩
 |er h0 hc hx hB=>
  refine⟨false,e,e,λt=>?_, .inl ⟨rfl,rfl,h0,hc, .inr rfl⟩⟩;exact(VP (o:=o) (x:=x.drop t) (u:=false) (v:=e) (k:=e) ho Axv (.inl ⟨rfl,rfl,h0,hc⟩)).2.2
end
theorem Ayb{p:Prop}(h:p:=by simp only[Ah1];omega):p:=h
theorem Aye{p:Prop}(h:p:=by rw[Aa7];simp;omega):p:=h
end Go.Pl
namespace Go.Pl
open Go Go.Lv
variable{o X X' inp:LB}{L i t t':Nat}
abbrev rJ:=UInt8×Int×Unit
abbrev Sad:=Int×LB×Unit
structure Ud where
 s:LB
 X:LB
 p:LB
 f:Int
 c:Int
 w:Int
 r:Int
 n:Int
 g:LI
 a:Int
 u:Bool
 v:Int
inductive OkU (o:LB) (L:Nat):Ud->Prop
 |live {s X p:LB} {f c w r n:Int} {g:LI} {a e:Int}:s.length+L<=12100->Bh o s p f c w r n g a X e->OkU o L ⟨s,X,p,f,c,w,r,n,g,a,false,e⟩
 |stop {s X:LB} {u:Bool} {v k:Int}:X.length<=12000->Alm u v k->OkU o L ⟨s,X,[],0,0,0,0,0,[],0,u,v⟩
def S4(o:LB)(U:Ud)(q:LB):Option (Int×Ud):=(Di o U.p U.f U.c U.w U.r U.n U.g U.a U.X U.u U.v q).bind λ(_,p,f,c,w,r,n,g,a,x,u,v,e)=>some (e,⟨U.s++q,x,p,f,c,w,r,n,g,a,u,v⟩)
def Afv(o:LB)(U:Ud):Option (Int×Ud):=(Dq o U.p U.f U.c U.w U.r U.n U.g U.a U.X U.u U.v).bind λ(_,p,f,c,w,r,n,g,a,x,u,v,e)=>some (e,⟨U.s,x,p,f,c,w,r,n,g,a,u,v⟩)
theorem Ak5(ho:o.length<=64){U:Ud}(h:OkU o L U)(q:LB)(hq:q.length<=L):
  ∃(e:Int) (U':Ud),S4 o U q=some (e,U')/\OkU o (L-q.length) U'/\ (∃y,U'.X=U.X++y)/\
   ∀t,t<=U.X.length->Di o U.p U.f U.c U.w U.r U.n U.g U.a (U.X.drop t) U.u U.v q=some (o,U'.p,U'.f,U'.c,U'.w,U'.r,U'.n,U'.g,U'.a,U'.X.drop t,U'.u,U'.v,e):=by
 cases h with
 |live hl hB=>
  rename_i s X p f c w r n g a e;have hsz:=hB.uH;have hs:(s++q).length<=100000:=by rw[Aa7];omega
  obtain⟨p',f',c',w',r',n',g',a',y,e',h1,h2,h3⟩:=hB.Apr ho F0 q F0 hs (Nat.zero_le _);refine⟨e',⟨s++q,X++y,p',f',c',w',r',n',g',a',false,e'⟩,by rw[S4];simp only;rw[h2];rfl, .live Ax8 h3,⟨y,rfl⟩,λt ht=>?_⟩;obtain⟨p2,f2,c2,w2,r2,n2,g2,a2,y2,e2,k1,k2,k3⟩:=hB.Apr ho F0 q F0 hs ht;rw[h2]at k2;simp only[Aa6,Aep,true_and,List.append_cancel_left_eq]at k2;obtain⟨rfl,rfl,rfl,rfl,rfl,rfl,rfl,rfl,rfl,rfl,_⟩:=k2;exact k1
 |stop hx hk=>
  rename_i s X u v k;refine⟨k,⟨s++q,X,[],0,0,0,0,0,[],0,u,v⟩,?_, .stop hx hk,⟨[],(Ap8 _).symm⟩,λt ht=>?_⟩
  ·rw[S4];simp only;rw[(VP ho hx hk).2.1 q];rfl
  ·exact(VP ho Ayb hk).2.1 q
theorem Ao6(ho:o.length<=64){U:Ud}(h:OkU o L U):
  ∃(e:Int) (U':Ud),Afv o U=some (e,U')/\OkU o L U'/\U'.X=U.X/\
   ∀t,t<=U.X.length->Dq o U.p U.f U.c U.w U.r U.n U.g U.a (U.X.drop t) U.u U.v=some (o,U'.p,U'.f,U'.c,U'.w,U'.r,U'.n,U'.g,U'.a,U'.X.drop t,U'.u,U'.v,e):=by
 cases h with
 |live hl hB=>
  rename_i s X p f c w r n g a e;have hsz:=hB.uH;obtain⟨u,v,k,h1,h2⟩:=hB.Amp ho F0;have h0:=h1 0;rw[Aw4]at h0;refine⟨k,⟨s,X,[],0,0,0,0,0,[],0,u,v⟩,by rw[Afv];simp only;rw[h0];rfl,?_,rfl,λt _=>h1 t⟩;rcases h2 with⟨k1,k2,k3,k4,_⟩|⟨k1,k2,_⟩
  ·exact .stop (k:=k) hsz.2.2 (.inl ⟨k1,k2,k3,k4⟩)
  ·exact .stop (k:=36) hsz.2.2 (.inr ⟨k1,k2,rfl⟩)
 |stop hx hk=>
  rename_i s X u v k;refine⟨k,⟨s,X,[],0,0,0,0,0,[],0,u,v⟩,?_, .stop hx hk,rfl,λt ht=>?_⟩
  ·rw[Afv];simp only;rw[(VP ho hx hk).2.2];rfl
  ·exact(VP ho Ayb hk).2.2
theorem OkU.szs{U:Ud}(h:OkU o L U):U.p.length<=12100/\U.g.length<=1000/\U.X.length<=12000:=by
 cases h with
 |live hl hB=>have:=hB.uH;exact⟨by simp only;omega,this.2.1,this.2.2⟩
 |stop hx hk=>exact⟨Axl,Axl,hx⟩
theorem Af5(ho:o.length<=64){U:Ud}(h:OkU o L U)(t:Nat)(m:Nat):
  Tr o U.p U.f U.c U.w U.r U.n U.g U.a (U.X.drop t) U.u U.v (m:Int)=some (o,U.p,U.f,U.c,U.w,U.r,U.n,U.g,U.a,(U.X.drop t).drop (min m (U.X.drop t).length),U.u,U.v,(U.X.drop t).take (min m (U.X.drop t).length),0):=by
 have hs:=h.szs;refine Ai7 ?_ F0 F0 Axv m;cases h with
 |live hl hB=>exact hB.xT ho (by have:=hs.1;simp only at this;omega) t
 |stop hx hk=>exact(VP ho Ayb hk).1
def N8(o:LB)(st:rJ)(inp:LB)(U:Ud):Option (Int×Ud×LB):=
 if st.1=1 then(S4 o U (inp.take (min st.2.1.toNat inp.length))).bind λz=>some (z.1,z.2,inp.drop (min st.2.1.toNat inp.length))
 else if st.1=2 then some (0,U,inp)
 else(Afv o U).bind λz=>some (z.1,z.2,inp)
def wQ(o:LB):List rJ->LB->Ud->Option (LI×Ud×LB)
 |[],inp,U=>some ([],U,inp)
 |st::l,inp,U=>(N8 o st inp U).bind λz=>(wQ o l z.2.2 z.2.1).bind λy=>some (z.1::y.1,y.2)
def VS(st:rJ):Prop:=(st.1=1\/st.1=2\/st.1=3)/\0<=st.2.1/\st.2.1<=100000
def SR(st:rJ)(e:Int)(d:Sad):Prop:=d.1=e/\ (st.1=2->e=0/\ (d.2.1.length:Int)<=st.2.1)/\ (st.1≠2->d.2.1=[])
inductive SRs:List rJ->LI->List Sad->Prop
 |nil:SRs [] [] []
 |cons {st e d l es ds}:SR st e d->SRs l es ds->SRs (st::l) (e::es) (d::ds)
def outs(l:List Sad):LB:=(l.map (·.2.1)).flatten
def kP(b:List rJ)(i t:Nat)(X:LB)(t':Nat)(X':LB):Prop:=(i=b.length->t'=t/\X'=X)/\ (i<b.length->∀m:Int,b[b.length-1]? =some (2,m,())->20000<=m->t'=X'.length)
theorem kP.nil{b:List rJ}(h:i=b.length):kP b i t X t X:=⟨λ_=>⟨rfl,rfl⟩,λh'=>absurd h' F0⟩
theorem kP.other{b:List rJ}{t1:Nat}{X1:LB}(hlt:i<b.length)(h1:b[i].1≠2)(ih:kP b (i+1) t1 X1 t' X'):kP b i t X t' X':=by
 refine⟨λh=>absurd h F0,λ_ m hm h2=>?_⟩;by_cases h:i+1<b.length
 ·exact ih.2 h m hm h2
 ·rw[show b.length-1=i by omega,List.getElem?_eq_getElem hlt]at hm;exact absurd (by rw[Awu hm]) h1
theorem kP.drain{b:List rJ}{m:Nat}(hlt:i<b.length)(hm:b[i].2.1=(m:Int))(hX:X.length<=20000)(ht:t<=X.length)(ih:kP b (i+1) (t+min m (X.length-t)) X t' X'):kP b i t X t' X':=by
 refine⟨λh=>absurd h F0,λ_ k hk h2=>?_⟩;by_cases h:i+1<b.length
 ·exact ih.2 h k hk h2
 ·rw[show b.length-1=i by omega,List.getElem?_eq_getElem hlt]at hk;obtain⟨e1,e2⟩:=ih.1 F0;have e3:=Awu hk;rw[e3]at hm;simp only at hm;rw[e1,e2];omega
theorem oO{o:LB}(ho:o.length<=64){b:List rJ}(hb:b.length<=200)(hv:∀st∈b,VS st):∀(k i t q:Nat) (U:Ud) (inp:LB) (aa:List Sad),i+k=b.length->k<q->inp.length<=12100->OkU o inp.length U->t<=U.X.length->aa.length<=i->
  ∃(es:LI) (U':Ud) (inp':LB) (ds:List Sad) (t':Nat),wQ o (b.drop i) inp U=some (es,U',inp')/\OkU o inp'.length U'/\t'<=U'.X.length/\SRs (b.drop i) es ds/\U.X.take t++outs ds=U'.X.take t'/\
   Fl b q (i:Int) o U.f U.c U.w U.r U.n U.a (U.X.drop t) U.u U.v inp aa U.p U.g=some (o,U'.p,U'.f,U'.c,U'.w,U'.r,U'.n,U'.g,U'.a,U'.X.drop t',U'.u,U'.v,aa++ds,0)/\kP b i t U.X t' U'.X
 |k,i,t,0,U,inp,aa,_,hq,_,_,_,_=>absurd hq (Nat.not_lt_zero _)
 |0,i,t,q+1,U,inp,aa,hi,hq,hin,hU,ht,haa=>by
  refine⟨[],U,inp,[],t,by rw[List.drop_eq_nil_of_le F0];rfl,hU,ht,by rw[List.drop_eq_nil_of_le F0];exact .nil,by simp[outs],?_, .nil F0⟩;rw[Fl,Po,Aa2 F2,DF,UQ,TI,UK,Ap8]
 |k+1,i,t,q+1,U,inp,aa,hi,hq,hin,hU,ht,haa=>by
  have hlt:i<b.length:=F0
  obtain⟨hop,hn0,hn1⟩:=hv b[i] (Asd hlt);have hdrop:b.drop i=b[i]::b.drop (i+1):=(List.getElem_cons_drop hlt).symm;obtain⟨m,hm⟩:∃m:Nat,b[i].2.1=m:=⟨b[i].2.1.toNat,F0⟩;have hgi:Ae (i:Int) 1=((i+1:Nat):Int):=by rw[show(1:Int)=((1:Nat):Int)from rfl,Ak];omega
  rw[Fl,Po,Aa4 F2,Cu hlt,Aa];rcases hop with h1|h1|h1
  ·
   have hg1:geq b[i].1 1=true:=by rw[h1];rfl
   have hmin:Dx b[i].2.1 (Ac inp)=((min m inp.length:Nat):Int):=by rw[hm,HZ,Ac];omega
   obtain⟨e,U1,f1,f2,⟨y,f3⟩,f4⟩:=Ak5 ho hU (inp.take (min m inp.length)) Axx;have hl:(inp.take (min m inp.length)).length=min m inp.length:=by rw[Ah0];omega
   rw[hl]at f2;have hl2:(inp.drop (min m inp.length)).length=inp.length-min m inp.length:=Ah1;rw[<-hl2]at f2;obtain⟨es,U2,Amb,ds,t2,r1,r2,r3,r4,r5,r6,r7⟩:=oO ho hb hv k (i+1) t q U1 (inp.drop (min m inp.length)) (aa++[(e,[],())]) F0 F0 F0 f2 (by rw[f3,Aa7];omega) Aye;refine⟨e::es,U2,Amb,(e,[],())::ds,t2,?_,r2,r3,?_,?_,?_, .other hlt (by rw[h1];decide) r7⟩
   ·rw[hdrop,wQ,N8,Aa4 h1,hm,Amc,f1,Aa,Aa];simp only;rw[r1,Aa]
   ·rw[hdrop];exact .cons ⟨rfl,λh=>by rw[h1]at h;exact absurd h F5,λ_=>rfl⟩ r4
   ·rw[<-r5,f3,Awj ht];simp[outs]
   ·rw[Aa4 hg1,hmin,Db,Amc,Aa,f4 t ht,Aa];simp only;rw[GH,Ve,hmin,Dm,Aa,Ct F6,Aa,Fq,Vg,hgi,Amc,r6];simp
  ·
   have hg1:¬geq b[i].1 1=true:=by rw[h1];decide
   have hg2:geq b[i].1 2=true:=by rw[h1];rfl
   have hd:=Af5 ho hU t m;have hXl:(U.X.drop t).length=U.X.length-t:=Ah1;obtain⟨es,U2,Amb,ds,t2,r1,r2,r3,r4,r5,r6,r7⟩:=oO ho hb hv k (i+1) (t+min m (U.X.length-t)) q U inp (aa++[(0,(U.X.drop t).take (min m (U.X.drop t).length),())]) F0 F0 hin hU F0 Aye;refine⟨0::es,U2,Amb,(0,(U.X.drop t).take (min m (U.X.drop t).length),())::ds,t2,?_,r2,r3,?_,?_,?_, .drain hlt hm (by have:=hU.szs;omega) ht r7⟩
   ·rw[hdrop,wQ,N8,Aa2 (by rw[h1];decide),Aa4 h1,Aa];simp only;rw[r1,Aa]
   ·rw[hdrop];exact .cons ⟨rfl,λ_=>⟨rfl,by simp only[Ah0];rw[hm];omega⟩,λh=>absurd h1 h⟩ r4
   ·rw[<-r5,hXl,List.take_add];simp[outs]
   ·rw[Aa2 hg1,Aa4 hg2,hm,hd,Aa];simp only;rw[DB,VF,Ct F6,Aa,Fq,Vg,hgi];rw[hXl,List.drop_drop]at*
    rw[r6];simp
  ·
   have hg1:¬geq b[i].1 1=true:=by rw[h1];decide
   have hg2:¬geq b[i].1 2=true:=by rw[h1];decide
   have hg3:geq b[i].1 3=true:=by rw[h1];rfl
   obtain⟨e,U1,f1,f2,f3,f4⟩:=Ao6 ho hU;obtain⟨es,U2,Amb,ds,t2,r1,r2,r3,r4,r5,r6,r7⟩:=oO ho hb hv k (i+1) t q U1 inp (aa++[(e,[],())]) F0 F0 hin f2 (by rw[f3];exact ht) Aye;refine⟨e::es,U2,Amb,(e,[],())::ds,t2,?_,r2,r3,?_,?_,?_, .other hlt (by rw[h1];decide) r7⟩
   ·rw[hdrop,wQ,N8,Aa2 (by rw[h1];decide),Aa2 (by rw[h1];decide),f1,Aa,Aa];simp only;rw[r1,Aa]
   ·rw[hdrop];exact .cons ⟨rfl,λh=>by rw[h1]at h;exact absurd h F5,λ_=>rfl⟩ r4
   ·rw[<-r5,f3];simp[outs]
   ·rw[Aa2 hg1,Aa2 hg2,Aa4 hg3,f4 t ht,Aa];simp only;rw[DU,UX,Ct F6,Aa,Fq,Vg,hgi,r6];simp
def VS3(st:rJ):Prop:=VS st/\ (st.1=3->st.2.1=0)
theorem Arz{a:UInt8}(h1:Cj a 1=false)(h2:Dv a 3=false):a=1\/a=2\/a=3:=by
 have e1:¬((a.toNat:Int)<1):=of_decide_eq_false (show decide ((a.toNat:Int)<1)=false from h1);have e2:¬((a.toNat:Int)>3):=of_decide_eq_false (show decide ((a.toNat:Int)>3)=false from h2);have:a.toNat=1\/a.toNat=2\/a.toNat=3:=F0
 rcases this with h|h|h
 ·exact .inl (UInt8.toNat_inj.1 h)
 ·exact .inr (.inl (UInt8.toNat_inj.1 h))
 ·exact .inr (.inr (UInt8.toNat_inj.1 h))
theorem Ad2(l:List rJ):∀(q i:Nat),Ee l q (i:Int)=some 0->l.length<=200->∀j (hj:j<l.length),i<=j->VS3 l[j]
 |0,i,h,_,_,_,_=>by cases h
 |q+1,i,h,hl,j,hj,hij=>by
  have hlt:i<l.length:=F0
  rw[Ee,Jp,Aa4 F2,Cu hlt,Aa]at h;split at h
  ·cases h
  ·rename_i h1;split at h
   ·cases h
   ·rename_i h2;by_cases he:j=i
    ·subst he;simp only[Ash,not_or,Bool.not_eq_true,Af,Au,Asl]at h1;obtain⟨⟨⟨k1,k2⟩,k3⟩,k4⟩:=h1;refine⟨⟨Arz k1 k2,F0,F0⟩,λh3=>?_⟩;simp only[Aa5,not_and,Am,Awn,ne_eq,Decidable.not_not]at h2;exact h2 (by rw[h3];rfl)
    ·rw[show Ae (i:Int) 1=((i+1:Nat):Int) by rw[show(1:Int)=((1:Nat):Int)from rfl,Ak];omega]at h;exact Ad2 l q (i+1) h hl j hj F0
theorem Ary{l:List rJ}(h:Eu l=some true):l.length<=60/\∀st∈l,VS3 st:=by
 rw[Eu,Pg,Aa]at h;split at h
 ·rename_i hm;obtain⟨e,he,h⟩:=Ti h;have he0:e=0:=by
   simp only[Aa6,Ba,As1]at h;exact h
  subst he0;simp only[Au,RW,Ac,Ap1,Av8,Bool.and_eq_false_iff,Asl]at hm;rw[Te,Of]at he;split at he
  ·cases he
  ·rename_i h2;rw[Au,Ac]at h2;simp only[Acr]at h2;refine⟨F0,λst hst=>?_⟩;obtain⟨j,hj,rfl⟩:=List.mem_iff_getElem.1 hst;exact Ad2 l Ar 0 he F0 j hj (Nat.zero_le _)
 ·cases h
theorem Aj2(l:List rJ)(hl:l.length<=100000):∃k,Eu l=some k:=by
 have loop:∀(j i q:Nat),i+j=l.length->j<q->∃e,Ee l q (i:Int)=some e:=by
  intro j
  induction j with
  |zero=>
   intro i q hi hq;obtain⟨q,rfl⟩:∃q',q=q'+1:=⟨q-1,F0⟩;rw[Ee,Jp,Aa2 F2];exact⟨_,rfl⟩
  |succ j ih=>
   intro i q hi hq;obtain⟨q,rfl⟩:∃q',q=q'+1:=⟨q-1,F0⟩;have hlt:i<l.length:=F0
   rw[Ee,Jp,Aa4 F2,Cu hlt,Aa];split
   ·exact⟨_,rfl⟩
   ·split
    ·exact⟨_,rfl⟩
    ·rw[show Ae (i:Int) 1=((i+1:Nat):Int) by rw[show(1:Int)=((1:Nat):Int)from rfl,Ak];omega];exact ih (i+1) q F0 F0
 rw[Eu,Pg,Aa];split
 ·rw[Te,Of];split
  ·exact⟨_,rfl⟩
  ·obtain⟨e,he⟩:=loop l.length 0 Ar F0 Axj;have he':HL l 0=some e:=he;rw[he',Aa];exact⟨_,rfl⟩
 ·exact⟨_,rfl⟩
theorem Ao9(l:List rJ):∃k,Eu l=some k:=by
 by_cases hl:l.length<=100000
 ·exact Aj2 l hl
 ·rw[Eu,Pg,Aa,Aa2 (by simp[Au,RW,Ac];omega)];exact⟨_,rfl⟩
theorem Als{st:rJ}(h:VS3 st):EX st.1 st.2.1=some false:=by
 obtain⟨⟨h1,h2,h3⟩,h4⟩:=h;rw[EX,aQ,bR,cG];have hr:(Kq st.2.1 0&&pP st.2.1 100000)=true:=by rw[Ek,RW];simp;omega
 rcases h1 with h1|h1|h1
 ·rw[h1,Aa4 F5,AB,Aa4 F5,hr,Aa];rfl
 ·rw[h1,Aa2 F5,AB,Aa4 F5,hr,Aa];rfl
 ·rw[h1,Aa2 F5,AB,Aa2 F5,Aa4 F5,h4 h1,Aa];rfl
theorem Aav{l:List rJ}(hl:l.length<=200)(hv:∀st∈l,VS3 st):ER l=some 0:=by
 have loop:∀(j i q:Nat),i+j=l.length->j<q->Ms l q (i:Int)=some 0:=by
  intro j
  induction j with
  |zero=>
   intro i q hi hq;obtain⟨q,rfl⟩:∃q',q=q'+1:=⟨q-1,F0⟩;rw[Ms,Xl,Aa2 F2];rfl
  |succ j ih=>
   intro i q hi hq;obtain⟨q,rfl⟩:∃q',q=q'+1:=⟨q-1,F0⟩;have hlt:i<l.length:=F0
   rw[Ms,Xl,Aa4 F2,Cu hlt,Aa,Als (hv _ (Asd hlt)),Aa,HX,YD,Aa2 F5,ZA,XJ,
    show Ae (i:Int) 1=((i+1:Nat):Int) by rw[show(1:Int)=((1:Nat):Int)from rfl,Ak];omega]
   exact ih (i+1) q F0 F0
 rw[ER,MU,Aa2 Axk];exact loop l.length 0 Ar F0 Axj
def U0:Ud:=⟨[],[],[],0,0,0,0,0,[],0,false,0⟩
theorem Atx(ho:o.length<=64)(hL:L<=12100):OkU o L U0:= .live (by simpa using hL) (Bh.new ho)
theorem Aj6{l:List rJ}(ho:o.length<=64)(hin:inp.length<=12100)(hl:l.length<=200)(hv:∀st∈l,VS3 st):
  ∃(es:LI) (U:Ud) (inp':LB) (ds:List Sad) (t:Nat),wQ o l inp U0=some (es,U,inp')/\OkU o inp'.length U/\t<=U.X.length/\SRs l es ds/\outs ds=U.X.take t/\
   Zm o inp l=some (o,U.p,U.f,U.c,U.w,U.r,U.n,U.g,U.a,U.X.drop t,U.u,U.v,ds,0)/\kP l 0 0 [] t U.X:=by
 obtain⟨es,U,inp',ds,t,h1,h2,h3,h4,h5,h6,h7⟩:=oO ho hl (λst h=>(hv st h).1) l.length 0 0 Ar U0 inp [] F0 Axj hin (Atx ho hin) (Apn _) Axl;rw[Aw4]at h1 h4;refine⟨es,U,inp',ds,t,h1,h2,h3,h4,by simpa [U0]using h5,?_,h7⟩;rw[Zm,IF,Aav hl hv,Aa,Aa2 F5,KZ,Aa2 Axk,Aa];simp only;rw[Aa2 F5];exact h6
theorem Aoq{l:List rJ}(ho:o.length<=64)(hin:inp.length<=12100)(hl:l.length<=200)(hv:∀st∈l,VS3 st):
  ∃(es:LI) (U:Ud) (inp':LB) (ds:List Sad) (t:Nat),wQ o l inp U0=some (es,U,inp')/\OkU o inp'.length U/\t<=U.X.length/\SRs l es ds/\outs ds=U.X.take t/\
   Zm o inp l=some (o,U.p,U.f,U.c,U.w,U.r,U.n,U.g,U.a,U.X.drop t,U.u,U.v,ds,0):=by
 obtain⟨es,U,inp',ds,t,h1,h2,h3,h4,h5,h6,h7⟩:=Aj6 ho hin hl hv;exact⟨es,U,inp',ds,t,h1,h2,h3,h4,h5,h6⟩
theorem SRs.len{l:List rJ}{es:LI}{ds:List Sad}(h:SRs l es ds):es.length=l.length/\ds.length=l.length:=by
 induction h with
 |nil=>exact⟨rfl,rfl⟩
 |cons _ _ ih=>exact⟨by simp[ih.1],by simp[ih.2]⟩
theorem SRs.at{l:List rJ}{es:LI}{ds:List Sad}(h:SRs l es ds):∀(i:Nat) (h1:i<ds.length) (h2:i<es.length),ds[i].1=es[i]:=by
 induction h with
 |nil=>intro i h1;simp at h1
 |cons hd _ ih=>
  intro i h1 h2;cases i with
  |zero=>exact hd.1
  |succ i=>exact ih i (by simpa using h1) (by simpa using h2)
theorem D9(i:Nat)(h:i<=100000):Ae (i:Int) 1=((i+1:Nat):Int):=by rw[show(1:Int)=((1:Nat):Int)from rfl,Ak];omega
theorem Ana:Sy=some true:=by kernel_rfl
theorem Aaf(a b:List Sad):outs (a++b)=outs a++outs b:=by simp[outs]
theorem vF(ds:List Sad)(hd:ds.length<=200)(ho:(outs ds).length<=20000):∀(j i q:Nat),i+j=ds.length->j<q->Mt ds q (i:Int) (outs (ds.take i))=some (outs ds)
 |j,i,0,_,hq=>absurd hq (Nat.not_lt_zero _)
 |0,i,q+1,hi,hq=>by
  rw[Mt,Xp,Aa2 F2,HS,XQ,Aus F0]
 |j+1,i,q+1,hi,hq=>by
  have hlt:i<ds.length:=F0
  have e1:ds.take (i+1)=ds.take i++[ds[i]]:=(List.take_append_getElem hlt).symm;have e2:outs (ds.take (i+1))=outs (ds.take i)++ds[i].2.1:=by rw[e1,Aaf];simp[outs]
  have e3:outs ds=outs (ds.take (i+1))++outs (ds.drop (i+1)):=by rw[<-Aaf,Av3]
  have e4:(outs (ds.take i)).length+ds[i].2.1.length<=20000:=by
   have:=congrArg List.length e3;rw[Aa7,e2,Aa7]at this;omega
  rw[Mt,Xp,Aa4 F2,Cu hlt,Aa,Ct,Aa,<-e2,D9 i F0];exact vF ds hd ho j (i+1) q F0 F0
theorem Ags{ds:List Sad}(hd:ds.length<=200)(ho:(outs ds).length<=20000):Aq ds=some (outs ds):=vF ds hd ho ds.length 0 Ar F0 Axj
def iF(L:Nat):List rJ->Nat->Nat×Bool
 |[],n=>(n,false)
 |st::l,n=>if st.1=3 then(n,true)else if st.1=1 then iF L l (n+min st.2.1.toNat (L-n))else iF L l n
theorem T6(L:Nat):∀(l:List rJ) (n:Nat),n<=L-> (iF L l n).1<=L
 |[],n,h=>h
 |st::l,n,h=>by
  rw[iF];split
  ·exact h
  ·split
   ·exact T6 L l _ F0
   ·exact T6 L l n h
theorem B8(inp:LB)(hin:inp.length<=20000)(l:List rJ)(hl:l.length<=200)(hv:∀st∈l,VS st):∀(j i n q:Nat),i+j=l.length->j<q->n<=inp.length->Iz inp l q (n:Int) (i:Int)=some (inp.take (iF inp.length (l.drop i) n).1,(iF inp.length (l.drop i) n).2)
 |j,i,n,0,_,hq,_=>absurd hq (Nat.not_lt_zero _)
 |0,i,n,q+1,hi,hq,hn=>by
  rw[Iz,Qi,Aa2 F2,Yf,OD,Db,Aa,List.drop_eq_nil_of_le F0,iF,Amc]
 |j+1,i,n,q+1,hi,hq,hn=>by
  have hlt:i<l.length:=F0
  obtain⟨hop,hn0,hn1⟩:=hv l[i] (Asd hlt);have hdrop:l.drop i=l[i]::l.drop (i+1):=(List.getElem_cons_drop hlt).symm;rw[Iz,Qi,Aa4 F2,Cu hlt,Aa,hdrop,iF];by_cases h3:l[i].1=3
  ·rw[Aa4 (by rw[h3];rfl),Db,Aa,Aa4 h3,Amc]
  ·have g3:¬geq l[i].1 3=true:=by rw[RF];simpa using h3
   rw[Aa2 g3,Aa,Aa2 h3];by_cases h1:l[i].1=1
   ·have e0:Al (Ac inp) (n:Int)=((inp.length-n:Nat):Int):=by rw[Ac,Cm];omega
    have e1:Dx l[i].2.1 (Al (Ac inp) (n:Int))=((min l[i].2.1.toNat (inp.length-n):Nat):Int):=by rw[e0,HZ];omega
    have e2:Ae (n:Int) ((min l[i].2.1.toNat (inp.length-n):Nat):Int)=((n+min l[i].2.1.toNat (inp.length-n):Nat):Int):=by rw[Ak];omega
    rw[Aa4 (by rw[h1];rfl),Aa,Aa4 h1,e1,e2,D9 i F0];exact B8 inp hin l hl hv j (i+1) _ q F0 F0 F0
   ·rw[Aa2 (by rw[RF];simpa using h1),Aa2 h1,D9 i F0];exact B8 inp hin l hl hv j (i+1) n q F0 F0 hn
theorem nV{o:LB}(ho:o.length<=64):∀{l:List rJ} {inp:LB} {s X:LB} {u:Bool} {v k:Int} {es:LI} {U':Ud} {inp':LB},X.length<=12000->Alm u v k-> (∀st∈l,VS st)->wQ o l inp ⟨s,X,[],0,0,0,0,0,[],0,u,v⟩=some (es,U',inp')->
  ∃s',U'=⟨s',X,[],0,0,0,0,0,[],0,u,v⟩
 |[],inp,s,X,u,v,k,es,U',inp',hx,hk,hv,h=>by
  cases h;exact⟨s,rfl⟩
 |st::l,inp,s,X,u,v,k,es,U',inp',hx,hk,hv,h=>by
  rw[wQ]at h;obtain⟨⟨e,U1,i1⟩,h1,h⟩:=Ti h;obtain⟨⟨es1,U2,i2⟩,h2,h⟩:=Ti h;simp only[Aa6,Aep]at h;obtain⟨-,rfl, -⟩:=h;have hv':∀st∈l,VS st:=λx hx=>hv x (Asi _ hx);rw[N8]at h1;split at h1
  ·rw[S4]at h1;simp only at h1;rw[(VP ho hx hk).2.1]at h1;cases h1;exact nV ho hx hk hv' h2
  ·split at h1
   ·cases h1;exact nV ho hx hk hv' h2
   ·rw[Afv]at h1;simp only at h1;rw[(VP ho hx hk).2.2]at h1;cases h1;exact nV ho hx hk hv' h2
theorem E4{o:LB}(ho:o.length<=64){inp:LB}(hin:inp.length<=12100):∀{l:List rJ} {n:Nat} {p:LB} {f c w r m:Int} {g:LI} {a:Int} {X:LB} {e:Int} {es:LI} {U':Ud} {inp':LB},n<=inp.length->Bh o (inp.take n) p f c w r m g a X e-> (∀st∈l,VS st)->
  wQ o l (inp.drop n) ⟨inp.take n,X,p,f,c,w,r,m,g,a,false,e⟩=some (es,U',inp')->
  ((iF inp.length l n).2=false/\Bh o (inp.take (iF inp.length l n).1) U'.p U'.f U'.c U'.w U'.r U'.n U'.g U'.a U'.X U'.v/\U'.u=false)\/
  ((iF inp.length l n).2=true/\∃(p:LB) (f c w r m:Int) (g:LI) (a:Int) (X:LB) (e k:Int),Bh o (inp.take (iF inp.length l n).1) p f c w r m g a X e/\Dq o p f c w r m g a X false e=some (o,U'.p,U'.f,U'.c,U'.w,U'.r,U'.n,U'.g,U'.a,U'.X,U'.u,U'.v,k))
 |[],n,p,f,c,w,r,m,g,a,X,e,es,U',inp',hn,hB,hv,h=>by
  cases h;exact .inl ⟨rfl,hB,rfl⟩
 |st::l,n,p,f,c,w,r,m,g,a,X,e,es,U',inp',hn,hB,hv,h=>by
  rw[wQ]at h;obtain⟨⟨e1,U1,i1⟩,h1,h⟩:=Ti h;obtain⟨⟨es1,U2,i2⟩,h2,h⟩:=Ti h;simp only[Aa6,Aep]at h;obtain⟨-,rfl, -⟩:=h;have hv':∀st∈l,VS st:=λx hx=>hv x (Asi _ hx);have hsz:=hB.uH;have hop:=(hv st (.head _)).1;have htl:(inp.take n).length=n:=by rw[Ah0];omega
  rw[iF];rw[N8]at h1;by_cases h3:st.1=1
  ·rw[Aa4 h3]at h1;rw[Aa2 (by rw[h3];decide),Aa4 h3];have hl:(inp.drop n).length=inp.length-n:=Ah1;have e5:inp.take n++(inp.drop n).take (min st.2.1.toNat (inp.length-n))=inp.take (n+min st.2.1.toNat (inp.length-n)):=by rw[List.take_add]
   obtain⟨p2,f2,c2,w2,r2,n2,g2,a2,x2,e2,d1,_,d3⟩:=hB.feed ho F0 ((inp.drop n).take (min st.2.1.toNat (inp.length-n))) Axx (by rw[e5,Ah0];omega);rw[e5]at d3;rw[hl,S4]at h1;simp only at h1;rw[d1,Aa,Aa]at h1;simp only[Aa6,Aep]at h1;obtain⟨-,rfl,rfl⟩:=h1;simp only[List.drop_drop]at h2;rw[e5]at h2;exact E4 ho hin F0 d3 hv' h2
  ·rw[Aa2 h3]at h1;by_cases h4:st.1=2
   ·rw[Aa4 h4]at h1;rw[Aa2 (by rw[h4];decide),Aa2 h3];cases h1;exact E4 ho hin hn hB hv' h2
   ·rw[Aa2 h4]at h1;have h5:st.1=3:=by rcases hop with h|h|h;exact absurd h h3;exact absurd h h4;exact h
    rw[Aa4 h5];obtain⟨u,v,k,q1,q2⟩:=hB.finish ho F0;rw[Afv]at h1;simp only at h1;rw[q1,Aa,Aa]at h1;simp only[Aa6,Aep]at h1;obtain⟨-,rfl,rfl⟩:=h1;refine .inr ⟨rfl,p,f,c,w,r,m,g,a,X,e,k,hB,?_⟩;have hk:∃k',Alm u v k':=by
     rcases q2 with⟨k1,k2,k3,k4,_⟩|⟨k1,k2,_⟩
     ·exact⟨k, .inl ⟨k1,k2,k3,k4⟩⟩
     ·exact⟨36, .inr ⟨k1,k2,rfl⟩⟩
    obtain⟨k',hk⟩:=hk;obtain⟨s',rfl⟩:=nV ho hsz.2.2 hk hv' h2;exact q1
theorem Ala(hal:Sy=some true)(k m:LB)(h:List rJ):Le k m h=some true:=by
 have main:k.length<=64->m.length<=12100->Eu h=some true->Nw k m h true=some true:=by
  intro hk hm hf;obtain⟨hl,hv⟩:=Ary hf;have hv1:∀st∈h,VS st:=λst hs=>(hv st hs).1;obtain⟨es,U,inp',ds,t,r1,r2,r3,r4,r5,r6⟩:=Aoq hk hm F0 hv;have hlen:=r4.len;have hsz:=r2.szs;have hol:(outs ds).length<=12000:=by rw[r5,Ah0];omega
  have Av5:HV m h=some (m.take (iF m.length h 0).1,(iF m.length h 0).2):=by
   have:=B8 m F0 h F0 hv1 h.length 0 0 Ar F0 Axj (Nat.zero_le _);rw[Aw4]at this;exact this
  have hle:=T6 m.length h 0 (Nat.zero_le _);have hfl:(m.take (iF m.length h 0).1).length<=12100:=by rw[Ah0];omega
  obtain⟨p2,f2,c2,w2,r2',n2,g2,a2,x2,e2,d1,_,d3⟩:=(Bh.new hk).feed hk Axl (m.take (iF m.length h 0).1) F0 F6;rw[Arh]at d3;have hfd:=d3.fd F0;have tail:∀(z1 z2:Int) (z3:Bool),Im h true 0 0 k U.f U.c U.w U.r U.n U.a (U.X.drop t) U.u U.v ds U.p U.g k U.f U.c U.w U.r U.n U.a U.X U.u U.v U.p U.g=some true:=by
   intro _ _ _;rw[Im,Iw,Ags F0 F0,Aa,Ct F6,Aa,Arh,Ct Axv,Aa,r5,Av3,Np,We,
    Aa2 (by simp[Am,Ac,hlen.2]),Aa4 rfl,Ahi _ _ _ _ _ _ _ _ _ _ _ _ F0,Aa]
  have hrun:wQ k h (m.drop 0) ⟨m.take 0,[],[],0,0,0,0,0,[],0,false,0⟩=some (es,U,inp'):=r1;have hend:=E4 hk hm (Nat.zero_le _) (by simpa using Bh.new hk) hv1 hrun;rw[Nw,Nk,r6,Aa];simp only;rw[KZ,Aa2 Axk,Aa];simp only;rw[Av5,Aa];simp only;rw[d1,Aa];simp only;rcases hend with⟨k1,k2,k3⟩|⟨k1,p,f,c,w,r,m',g,a,X,e,k',k2,k3⟩
  ·rw[k1,Aa2 F5];have h9:=k2.fd F0;rw[hfd]at h9;simp only[Aa6,Aep,true_and]at h9;obtain⟨rfl,rfl,rfl,rfl,rfl,rfl,rfl,rfl,rfl,rfl, -⟩:=h9;have:=tail 0 0 true;rw[k3]at this;rw[k3];exact this
  ·rw[k1,Aa4 rfl];have h9:=k2.fd F0;rw[hfd]at h9;simp only[Aa6,Aep,true_and]at h9;obtain⟨rfl,rfl,rfl,rfl,rfl,rfl,rfl,rfl,rfl,rfl, -⟩:=h9;rw[k3,Aa];exact tail 0 0 true
 obtain⟨kf,hkf⟩:=Ao9 h;rw[Le,Ng,hal,Aa];by_cases ho:k.length<=64
 ·rw[Aa2 Axk,FK,Aa];by_cases hc:(((Dv (Ac m) 5000)&&(Cj (Ac m) 12000))||(Dv (Ac m) 12100))=true
  ·rw[Aa4 hc,Aa4 F5];try rfl
  ·rw[Aa2 hc,hkf,Aa];simp only[Ash,not_or,Au,Ac,Acr]at hc;cases kf with
   |false=>rfl
   |true=>rw[Aa2 F5];exact main ho F0 hkf
 ·rw[Aa4 Axk,Aa4 F5];rfl
theorem law_ScriptSays(k m:LB)(h:List rJ):Le k m h=some true:=Ala Ana k m h
end Go.Pl
