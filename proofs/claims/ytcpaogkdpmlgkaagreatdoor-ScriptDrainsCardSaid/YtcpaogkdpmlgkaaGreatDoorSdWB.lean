/- A part of a proof (see the text that ends in Proof). No conditions. -/
import Derived.Test.YtcpaogkdpmlgkaaGreatDoorSdWA
set_option linter.unusedVariables false
set_option linter.unusedSimpArgs false
namespace Go.Pl
open Go Go.Lv
variable{u:Bool}{f c w r n a v e k:Int}{o p x:LB}{g l:LI}{F C W R N:Nat}{α:Type}
theorem Tz{β:Type}{o:Option α}{f:α->Option β}{r:β}(h:Option.bind o f=some r):∃x,o=some x/\f x=some r:=by
 cases o with
 |none=>cases h
 |some x=>exact⟨x,rfl,h⟩
theorem Ali{l:List α}{i:Int}{x:α}(h:Go.Lv.Ah l i=some x):x∈l:=by
 unfold Go.Lv.Ah at h;split at h
 ·exact List.mem_of_getElem? h
 ·cases h
theorem C4(q:LB){y:LB}(hg:∀z∈g,0<=z)(h:Cv o p f c w r n g a x u v=some (y,e))(he:e≠ -1):Cv o (p++q) f c w r n g a x u v=some (y,e):=by
 rw[Cv,Gn]at h⊢;obtain⟨l,hl,h⟩:=Tz h;have hl0:=hg l (Ali hl);rw[hl,Aa];by_cases hc:(p.length:Int)<l
 ·rw[Aao (by rw[Af,Ac];simpa using hc)]at h;cases h;exact absurd rfl he
 ·have hc':¬(Ck (Ac (p++q)) l=true):=by rw[Af,Ac,Aar];simp;omega
  rw[Aam (by rw[Af,Ac];simpa using hc)]at h;rw[Aam hc',Di hl0 Axu,Mf F0];rw[Di hl0]at h;simpa only[Gp,Gj]using h
theorem Aag(hd:HdI f c w r n F C W R N)(q:LB)(hp:(p++q).length<=100000){A:Nat}(hA:A<=p.length)(h:Dx p f c w r n (A:Int)=some (k,l,e))(he:e≠ -1):
  Dx (p++q) f c w r n (A:Int)=some (k,l,e)/\ (e=0->0<=k/\k<=p.length):=by
 have hp':p.length<=100000:=by rw[Aar]at hp;omega
 obtain⟨_,t2,t3⟩:=zA hd [] p hp' A hA 0 [] false 0;obtain⟨_,s2,_⟩:=zA hd [] (p++q) hp A Axu 0 [] false 0;rw[t2]at h;rw[s2,Aub hA];by_cases h1:(Jf (p.drop A) (Ao (Be R) N).length).2=24
 ·rw[Aao h1]at h;cases h;exact absurd rfl he
 ·rw[Aam h1]at h;rw[Agt q _ h1,Aam h1];refine⟨h,λe0=>?_⟩;cases h;have:=t3 e0;constructor
  ·omega
  ·exact this
theorem A8(hd:HdI f c w r n F C W R N)(q:LB)(hp:(p++q).length<=100000)(h:Fb p f c w r n o=some (k,l,e))(he:e≠ -1):
  Fb (p++q) f c w r n o=some (k,l,e)/\ (e=0->0<=k/\k<=p.length):=by
 rw[Fb,Iv]at h⊢;by_cases hf:geq f 2=true
 ·rw[Aao hf]at h⊢;by_cases h8:p.length<8
  ·rw[Aao F2]at h;cases h;exact absurd rfl he
  ·have n1:¬(Ck (Ac p) 8=true):=by rw[Af,Ac];simp;omega
   have n2:¬(Ck (Ac (p++q)) 8=true):=by rw[Af,Ac,Aar];simp;omega
   rw[Aam n1,Di Aw2,Aa]at h;rw[Aam n2,Di Aw2 Axu,Aa,Mf (show(8:Int).toNat<=p.length from by simp;omega)];obtain⟨y,hy,h⟩:=Tz h;rw[hy,Aa];by_cases hm:(p.take (8:Int).toNat !=y)=true
   ·rw[Aao hm]at h⊢;cases h;exact⟨rfl,λe=>by cases e⟩
   ·rw[Aam hm]at h⊢;exact Aag hd q hp (A:=8) F0 h he
 ·rw[Aam hf]at h⊢;exact Aag hd q hp (A:=0) F0 h he
theorem ZM{q af:LB}(h:Bl p n (Ac p)=some af):Bl (p++q) n (Ac (p++q))=some (af++q):=by
 unfold Bl Ac at h⊢;split at h
 ·rename_i hc;cases h;rw[Aao ⟨hc.1,by rw[Aar];omega,F0⟩];simp only[Aly,Awl];rw[Aub F0]
 ·cases h
theorem fD(q:LB)(hf:FitD o f c w r n g a x)(hp:(p++q).length<=100000){t1 t2:LB}{t3 t4 t5 t6 t7:Int}{t8:LI}{t9:Int}{t10:LB}{t11:Bool}{t12:Int}
  (h:Ag o p f c w r n g a x u v=some (t1,t2,t3,t4,t5,t6,t7,t8,t9,t10,t11,t12,e)) (he:e≠ -1):
  (e=0->Ag o (p++q) f c w r n g a x u v=some (t1,t2++q,t3,t4,t5,t6,t7,t8,t9,t10,t11,t12,0))/\
  (e≠0->∃(s1 s2:LB) (s3 s4 s5 s6 s7:Int) (s8:LI) (s9:Int) (s10:LB) (s11:Bool) (s12:Int),Ag o (p++q) f c w r n g a x u v=some (s1,s2,s3,s4,s5,s6,s7,s8,s9,s10,s11,s12,e)):=by
 have hp':p.length<=100000:=by rw[Aar]at hp;omega
 have zero:¬(Bi (0:Int) 0=true):=Aw2
 rw[Ag,Br]at h⊢;cases hf with
 |new e1 e2 e3 e4 e5 e6 e7 e8=>
  subst e1;rw[Aao Aw2,AE p hp',Aa]at h;rw[Aao Aw2,AE (p++q) hp,Aa];have hst:(jm p).2.2.2.2.2.2≠ -1->jm (p++q)=jm p:=Amo q;generalize jm p=z at h hst;obtain⟨z1,z2,z3,z4,z5,z6,z7⟩:=z;simp only at h hst;by_cases hz:Bi z7 0=true
  ·rw[Aao hz]at h;simp only[Aaq,Aea]at h;obtain⟨-, -, -, -, -, -, -, -, -, -, -, -,rfl⟩:=h;rw[hst he];simp only;rw[Aao hz];refine⟨λe0=>?_,λ_=>⟨_,_,_,_,_,_,_,_,_,_,_,_,rfl⟩⟩;rw[e0]at hz;exact absurd hz zero
  ·rw[Aam hz]at h;have z70:z7=0:=by rw[Am]at hz;simpa using hz
   rw[hst (by rw[z70];decide)];simp only;rw[Aam hz];obtain⟨af,h1,h⟩:=Tz h;rw[ZM h1,Aa];rw[Ga,Fz]at h⊢;obtain⟨aw,h2,h⟩:=Tz h;rw[h2,Aa];simp only[Aaq,Aea]at h;obtain⟨rfl,rfl,rfl,rfl,rfl,rfl,rfl,rfl,rfl,rfl,rfl,rfl,rfl⟩:=h;exact⟨λe0=>by rw[e0],λ_=>⟨_,_,_,_,_,_,_,_,_,_,_,_,rfl⟩⟩
 |head F C W R N hd hpw e6 e7 e8=>
  subst e6;have hfn:¬(geq f 0=true):=by rw[Ba];simpa using hd.fnz
  rw[Aam hfn,Bt,Bb,Aao Aw2]at h⊢;obtain⟨⟨k,l,e1⟩,h1,h⟩:=Tz h;simp only at h;by_cases hz:Bi e1 0=true
  ·rw[Aao hz]at h;simp only[Aaq,Aea]at h;obtain⟨-, -, -, -, -, -, -, -, -, -, -, -,rfl⟩:=h;rw[(A8 hd q hp h1 he).1,Aa];simp only;rw[Aao hz];refine⟨λe0=>?_,λ_=>⟨_,_,_,_,_,_,_,_,_,_,_,_,rfl⟩⟩;rw[e0]at hz;exact absurd hz zero
  ·rw[Aam hz]at h;have z70:e1=0:=by rw[Am]at hz;simpa using hz
   rw[(A8 hd q hp h1 (by rw[z70];decide)).1,Aa];simp only;rw[Aam hz];obtain⟨af,h2,h⟩:=Tz h;rw[ZM h2,Aa];simp only[Aaq,Aea]at h;obtain⟨rfl,rfl,rfl,rfl,rfl,rfl,rfl,rfl,rfl,rfl,rfl,rfl,rfl⟩:=h;exact⟨λe0=>rfl,λe0=>absurd rfl e0⟩
 |tab F C W R N A hd hpw ht hl ea hA=>
  have hfn:¬(geq f 0=true):=by rw[Ba];simpa using hd.fnz
  have ht':=ht;rw[AV,Aap,Acb]at ht';have hgl:¬(geq (Ac g) 0=true):=by
   intro e;rw[Ba,Ac]at e;have hl1:=ht'.1.1;simp only[Ar7,Acb]at e;omega
  rw[Aam hfn,Bt,Bb,Aam hgl]at h⊢;by_cases hend:geq a (Ac g)=true
  ·rw[Aao hend]at h⊢;by_cases hm:Du (Ac p) 4000=true
   ·have hm':Du (Ac (p++q)) 4000=true:=by rw[As,Ac]at hm⊢;simp only[Acb]at hm⊢;rw[Aar];omega
    rw[Aao hm]at h;rw[Aao hm'];simp only[Aaq,Aea]at h;obtain⟨-, -, -, -, -, -, -, -, -, -, -, -,rfl⟩:=h;exact⟨(λe0=>by cases e0),λ_=>⟨_,_,_,_,_,_,_,_,_,_,_,_,rfl⟩⟩
   ·rw[Aam hm]at h;simp only[Aaq,Aea]at h;obtain⟨-, -, -, -, -, -, -, -, -, -, -, -,rfl⟩:=h;exact absurd rfl he
  ·rw[Aam hend]at h⊢;have hpos:∀z∈g,0<=z:=by
    have:=(OT g 100000 F0).1 ht'.2;intro z hz;have:=this.1 z hz;omega
   obtain⟨⟨y,e1⟩,h1,h⟩:=Tz h;simp only at h;by_cases hz:Bi e1 0=true
   ·rw[Aao hz]at h;simp only[Aaq,Aea]at h;obtain⟨-, -, -, -, -, -, -, -, -, -, -, -,rfl⟩:=h;rw[C4 q hpos h1 he,Aa];simp only;rw[Aao hz];refine⟨λe0=>?_,λ_=>⟨_,_,_,_,_,_,_,_,_,_,_,_,rfl⟩⟩;rw[e0]at hz;exact absurd hz zero
   ·rw[Aam hz]at h;have z70:e1=0:=by rw[Am]at hz;simpa using hz
    rw[C4 q hpos h1 (by rw[z70];decide),Aa];simp only;rw[Aam hz];obtain⟨an,h2,h⟩:=Tz h;rw[h2,Aa];obtain⟨ah,h3,h⟩:=Tz h;rw[h3,Aa];obtain⟨ad,h4,h⟩:=Tz h;rw[h4,Aa];obtain⟨ae,h5,h⟩:=Tz h;rw[ZM h5,Aa];simp only[Aaq,Aea]at h;obtain⟨rfl,rfl,rfl,rfl,rfl,rfl,rfl,rfl,rfl,rfl,rfl,rfl,rfl⟩:=h;exact⟨λe0=>rfl,λe0=>absurd rfl e0⟩
theorem Axs{p:Prop}(h:p:=by rw[fK (by omega)];decide):p:=h
end Go.Pl
namespace Go.Pl
open Go Go.Lv
variable{u t11:Bool}{F C W R N A:Nat}
def Atg(o:LB)(K:Nat)(u:Bool)(v:Int)(X Y:Option Aup):Prop:=∃(t1 t2:LB) (t3 t4 t5 t6 t7:Int) (t8:LI) (t9:Int) (t10:LB) (t11:Bool) (t12 e:Int),X=some (t1,t2,t3,t4,t5,t6,t7,t8,t9,t10,t11,t12,e)/\Y=some (t1,t2,t3,t4,t5,t6,t7,t8,t9,t10,t11,t12,e)/\t10.length<=13000000/\
 (e=0->t1=o/\t2.length<=K/\FitD o t3 t4 t5 t6 t7 t8 t9 t10/\SzD t2 t8 t9 t10/\t11=u/\t12=v)
theorem B2(K:Nat):∀(k q1 q2:Nat) (o p:LB) (f c w r n:Int) (g:LI) (a:Int) (x:LB) (u:Bool) (v:Int),FitD o f c w r n g a x->o.length<=64->SzD p g a x->p.length<=K->muD f g a<k->k<=q1->k<=q2->
  Atg o K u v (Bd o u v q1 p f c w r n a g x) (Au q2 o p f c w r n g a x u v)
 |0,_,_,_,_,_,_,_,_,_,_,_,_,_,_,_,_,_,_,h,_,_=>by omega
 |k+1,q1,q2,o,p,f,c,w,r,n,g,a,x,u,v,hf,ho,hZ,hK,hm,h1,h2=>by
  obtain⟨q1,rfl⟩:∃q,q1=q+1:=⟨q1-1,F0⟩;obtain⟨q2,rfl⟩:∃q,q2=q+1:=⟨q2-1,F0⟩;have hx:x.length<=13000000:=by have:=hZ.hx;omega
  rw[Bd,Au,Bs];have hS:StepR (Bd o u v q1) o p f c w r n g a x u v:=zG hf ho hZ;cases hS with
  |wait hF hT=>
   rw[hT,Aa];simp only;rw[Aao Aw2,XK hZ.hp (by have:=hZ.hg;omega) hx,Aa];exact⟨_,_,_,_,_,_,_,_,_,_,_,_,_,hF,rfl,hx,λ_=>⟨rfl,hK,hf,hZ,rfl,rfl⟩⟩
  |err e he hF hT=>
   rw[hT,Aa];simp only;rw[Aam Axs,Aao Axb,zU hx,Aa];exact⟨_,_,_,_,_,_,_,_,_,_,_,_,_,hF,rfl,hx,λh=>absurd h F0⟩
  |next p' f' c' w' r' n' g' a' x' hF hT hf' hZ' hle hmu=>
   rw[hT,Aa];simp only;rw[Aam Aw2,Aam Aw2];have ih:=B2 K k q1 q2 o p' f' c' w' r' n' g' a' x' u v hf' ho hZ' F0 F0 F0 F0;have hF':Hw (Na (Bd o u v q1) o u v) (Qq (Bd o u v q1) o u v) (Kk (Bd o u v q1) o u v) (Xa (Bd o u v q1) o u v) (Nb (Bd o u v q1) o u v) (Mz (Bd o u v q1) o u v) (Xr (Bd o u v q1) o u v) (Cb (Bd o u v q1) o u v) (Xm (Bd o u v q1) o u v) o u v p f c w r n a g x=Bd o u v q1 p' f' c' w' r' n' a' g' x':=hF;rw[hF'];exact ih
theorem Ate{o p:LB}{f c w r n:Int}{g:LI}{a:Int}{x:LB}(ho:o.length<=64)(hf:FitD o f c w r n g a x)(hZ:SzD p g a x)(b:LB)(hp:p.length<=20000)(hb:b.length<=20000):
  Atg o (p.length+b.length) false 0 (Dr o p f c w r n g a x false 0 b) (Ij o p f c w r n g a x false 0 b):=by
 have hx:x.length<=13000000:=by have:=hZ.hx;omega
 have hg:g.length<=2000:=by have:=hZ.hg;omega
 obtain⟨E,e1,e2⟩:=qM o p f c w r n g a x false 0 F0 F0 F0;rw[Dr,Tk,oN hp hg hx e1,Ij,Pq,e2,Aa];by_cases h:E≠0
 ·rw[Aao h,Aa,Aao (by rw[Am];simpa using h)];simp only;rw[Aao (by rw[Am];simpa using h)];exact⟨_,_,_,_,_,_,_,_,_,_,_,_,_,rfl,rfl,Aw7,λh'=>absurd h' h⟩
 have h0:E=0:=by simpa using h
 subst h0;have hE:¬(Bi (0:Int) 0=true):=Aw2
 rw[Aam h,Aa,Aam hE,XK F0 hg F0,Aa];simp only;have hF:¬(false=true):=Aw2
 rw[Pp,Aam (show ¬((0:Int)≠0)from λh=>h rfl),Aam hF]
 repeat (first|rw[Aa]|rw[Aam hE]|rw[Aam hF])
 rw[Cu];rw[Aa,Aa];have hZ':SzD (p++b) g a x:=⟨by rw[Aar];omega,hZ.hg,hZ.hx⟩;exact B2 _ 1004 Aq Aq o (p++b) f c w r n g a x false 0 hf ho hZ' (by rw[Aar];exact Aox _) (Aj5 hZ') Aw5 Aw5
def OutB(f c w r n:Int)(g:LI)(a:Int)(x:LB):Prop:=∀(F C W R N A:Nat),HdI f c w r n F C W R N->g≠ []->a=(A:Int)-> (x.length:Int)<=CM C W (Ao (Be R) N) A
theorem OutB.nil{f c w r n:Int}{a:Int}{x:LB}:OutB f c w r n [] a x:=λ_ _ _ _ _ _ _ h=>absurd rfl h
theorem OutB.zero{f c w r n:Int}{g:LI}:OutB f c w r n g 0 []:=λF C W R N A h hg ha=>by
 obtain rfl:A=0:=F0
 rw[Abr];simp
theorem Acp{o p:LB}{f c w r n:Int}(hd:HdI f c w r n F C W R N)(ho:o.length<=64)(hp:p.length<=100000){g:LI}(ht:AV g=true)(hl:g.length=(Ao (Be R) N).length)(hA:A<g.length){x:LB}{v:Int}{y:LB}{e:Int}
  (h:Cv o p f c w r n g (A:Int) x u v=some (y,e)) (he:e=0):∃m:Nat,(Ao (Be R) N)[A]' F0=(m:Int)/\y.length=m*C*wB (W:Int):=by
 subst he;have hlt2:A<(Ao (Be R) N).length:=F0
 have SM:=hd.num;rw[AV,Aap,Acb,OT g 100000 F0]at ht;obtain⟨ht1,g5,gs⟩:=ht;have h5:=g5 g[A] (Ar3 hA);rw[Cv,Gn,Cm hA,Aa]at h;by_cases hw:(p.length:Int)<g[A]
 ·rw[Aao (by rw[Af,Ac];simpa using hw)]at h;cases h
 rw[Aam (by rw[Af,Ac];simpa using hw)]at h;obtain⟨m,hm,m1,m2⟩:=HU (Xp R) SM.2.2.2.2.1 (Ar3 hlt2);have hb:Dd w:=by rw[hd.ew];unfold Dd;omega
 obtain⟨xs,e,d1,d2,d3,d4⟩:=TN (bits:=w) (ch:=C) (n:=m) (t:=IL o) (p.take g[A].toNat) hb (AI o) SM.2.1.1 SM.2.1.2 m1 F0;rw[pG o ho,Aa]at h;simp only at h;rw[Di,Aa,Ht,Aa]at h;simp only at h;rw[hd.Abq,Aa,Cm hlt2,Aa,Aa,hm,hd.ec]at h;rw[d2,Aa]at h;simp only at h;rw[Gp,Gj]at h;by_cases he:e≠0
 ·rw[Aao (by rw[Am];simpa using he)]at h;cases h;exact absurd rfl he
 ·have he0:e=0:=by simpa using he
  obtain⟨k1,k2,k3⟩:=d3 he0;rw[Aam (by rw[Am,he0];simp),iL hb k2 k1,Aa]at h;cases h;refine⟨m,hm,?_⟩;rw[dW hb,k3,hd.ew]
theorem Akk{o p:LB}{f c w r n:Int}{g:LI}{a:Int}{x:LB}{v:Int}(hf:FitD o f c w r n g a x)(ho:o.length<=64)(hZ:SzD p g a x)(hO:OutB f c w r n g a x){t1 t2:LB}{t3 t4 t5 t6 t7:Int}{t8:LI}{t9:Int}{t10:LB}{t12:Int}
  (h:Ag o p f c w r n g a x u v=some (t1,t2,t3,t4,t5,t6,t7,t8,t9,t10,t11,t12,0)):OutB t3 t4 t5 t6 t7 t8 t9 t10:=by
 have hp':=hZ.hp;have zero:¬(Bi (0:Int) 0=true):=Aw2
 rw[Ag,Br]at h;cases hf with
 |new e1 e2 e3 e4 e5 e6 e7 e8=>
  subst e1 e6 e7 e8;rw[Aao Aw2,AE p hp',Aa]at h;generalize jm p=z at h;obtain⟨z1,z2,z3,z4,z5,z6,z7⟩:=z;simp only at h;by_cases hz:Bi z7 0=true
  ·rw[Aao hz]at h;simp only[Aaq,Aea]at h;obtain⟨-, -, -, -, -, -, -,rfl, -⟩:=h;exact OutB.nil
  ·rw[Aam hz]at h;obtain⟨af,h1,h⟩:=Tz h;rw[Ga,Fz]at h;obtain⟨aw,h2,h⟩:=Tz h;simp only[Aaq,Aea]at h;obtain⟨-, -, -, -, -, -, -,rfl, -⟩:=h;exact OutB.nil
 |head F C W R N hd hpw e6 e7 e8=>
  subst e6 e7 e8;have hfn:¬(geq f 0=true):=by rw[Ba];simpa using hd.fnz
  rw[Aam hfn,Bt,Bb,Aao Aw2]at h;obtain⟨⟨k,l,e1⟩,h1,h⟩:=Tz h;simp only at h;by_cases hz:Bi e1 0=true
  ·rw[Aao hz]at h;simp only[Aaq,Aea]at h;obtain⟨-, -, -, -, -, -, -,rfl, -⟩:=h;exact OutB.nil
  ·rw[Aam hz]at h;obtain⟨af,h2,h⟩:=Tz h;simp only[Aaq,Aea]at h;obtain⟨-, -, -, -, -, -, -, -,rfl,rfl, -⟩:=h;exact OutB.zero
 |tab F C W R N A hd hpw ht hl ea hA=>
  subst ea;have hfn:¬(geq f 0=true):=by rw[Ba];simpa using hd.fnz
  have ht':=ht;rw[AV,Aap,Acb]at ht';have hgl:¬(geq (Ac g) 0=true):=by
   intro e;rw[Ba,Ac]at e;have hl1:=ht'.1.1;simp only[Ar7,Acb]at e;omega
  have hne:g≠ []:=by intro e;subst e;simp at ht'
  rw[Aam hfn,Bt,Bb,Aam hgl]at h;by_cases hend:geq (A:Int) (Ac g)=true
  ·rw[Aao hend]at h;by_cases hm:Du (Ac p) 4000=true
   ·rw[Aao hm]at h;simp only[Aaq,Aea]at h;exact absurd h.2.2.2.2.2.2.2.2.2.2.2.2 Aw2
   ·rw[Aam hm]at h;simp only[Aaq,Aea]at h;exact absurd h.2.2.2.2.2.2.2.2.2.2.2.2 Aw2
  ·rw[Aam hend]at h;have hlt:A<g.length:=by
    rw[Ba,Ac]at hend;simp only[Ar7]at hend;omega
   obtain⟨⟨y,e1⟩,h1,h⟩:=Tz h;simp only at h;by_cases hz:Bi e1 0=true
   ·rw[Aao hz]at h;simp only[Aaq,Aea]at h;have:=h.2.2.2.2.2.2.2.2.2.2.2.2;rw[this]at hz;exact absurd hz zero
   ·rw[Aam hz]at h;have z70:e1=0:=by rw[Am]at hz;simpa using hz
    obtain⟨m,hm,hy⟩:=Acp hd ho hp' ht hl hlt h1 z70;obtain⟨an,h2,h⟩:=Tz h;obtain⟨ah,h3,h⟩:=Tz h;obtain⟨ad,h4,h⟩:=Tz h;obtain⟨ae,h5,h⟩:=Tz h;simp only[Aaq,Aea]at h;obtain⟨-, -,rfl,rfl,rfl,rfl,rfl,rfl,rfl,rfl, -⟩:=h;intro F' C' W' R' N' A' hd' _ ha';have eqs:C'=C/\W'=W/\R'=R/\N'=N:=by
     have q1:=hd.ec.symm.trans hd'.ec;have q2:=hd.ew.symm.trans hd'.ew;have q3:=hd.er.symm.trans hd'.er;have q4:=hd.en.symm.trans hd'.en;omega
    obtain⟨rfl,rfl,rfl,rfl⟩:=eqs;have hold:=hO F C' W' R' N' A hd hne rfl;have e2:Ae (A:Int) 1=((A+1:Nat):Int):=by rw[Ak];omega
    rw[e2]at ha';obtain rfl:A'=A+1:=F0
    have hah:ah.length=x.length+y.length:=by
     unfold Cj at h2 h3;split at h2
     ·cases h2;split at h3
      ·cases h3;simp
      ·cases h3
     ·cases h2
    have hpos:∀z∈Ao (Be R') N',0<=z:=by
     intro z hz;obtain⟨m,hm,m1,m2⟩:=HU (Xp R') hd.num.2.2.2.2.1 hz;omega
    rw[Abp C' W' hpos F0 hm,hah,hy];omega
theorem mF{o p:LB}{f c w r n:Int}{g:LI}{a:Int}{x:LB}(hf:FitD o f c w r n g a x)(ho:o.length<=64)(hO:OutB f c w r n g a x){t1 t2:LB}{t3 t4 t5 t6 t7:Int}{t8:LI}{t9:Int}{t10:LB}{t12:Int}
  (h:Ag o p f c w r n g a x false 0=some (t1,t2,t3,t4,t5,t6,t7,t8,t9,t10,t11,t12, -1)):De o p f c w r n g a x false 0=some 0:=by
 have h4:Ch o p f c w r n g a x false 0=some true:=by
  rw[Ch,Up,h,Aa];rfl
 have hr:Kl o p f c w r n g a x false 0=some true:=by
  rw[Kl,Um];cases hf with
  |new e1 e2 e3 e4 e5 e6 e7 e8=>
   subst e1 e2 e3 e4 e5 e6 e7 e8;rw[Aao Aw2,Aam Aw2];exact h4
  |head F C W R N hd hpw e6 e7 e8=>
   subst e6 e7 e8;have hz:¬(((geq f 0)&&((geq c 0)&&((geq w 0)&&((geq r 0)&&((geq n 0)&&true)))))=true):=by
    simp only[Aap,Ba,Ar7,Aw0];exact λe=>hd.fnz e.1
   have hff:geq f 1=decide (F=1):=by rw[hd.ef,Ba,Ak7];simp;omega
   rw[Aam hz,hd.check,Aa,Aam Aw2,Eb,hff,hpw,Aam Aw7,Aa,Aam Aw2,Of,Od,Aao Aw2,Aam Aw2];exact h4
  |tab F C W R N A hd hpw ht hl ea hA=>
   subst ea;have hz:¬(((geq f 0)&&((geq c 0)&&((geq w 0)&&((geq r 0)&&((geq n 0)&&true)))))=true):=by
    simp only[Aap,Ba,Ar7,Aw0];exact λe=>hd.fnz e.1
   have hff:geq f 1=decide (F=1):=by rw[hd.ef,Ba,Ak7];simp;omega
   have ht':=ht;rw[AV,Aap,Acb]at ht';have hgl:¬(geq (Ac g) 0=true):=by
    intro e;rw[Ba,Ac]at e;have hl1:=ht'.1.1;simp only[Ar7,Acb]at e;omega
   have hne:g≠ []:=by intro e;subst e;simp at ht'
   have hout:=hO F C W R N A hd hne rfl;rw[Aam hz,hd.check,Aa,Aam Aw2,Eb,hff,hpw,Aam Aw7,Aa,Aam Aw2,Of,Od,Aam hgl,VH,Aa,Aao ht,Aam Aw2,hd.Abq,Aa];rw[Aam Axm];obtain⟨rfl,rfl,rfl,rfl,rfl,hs,hfit⟩:=hd;rw[iq hs hfit A F0,Aa,Aam Aw6];exact h4
 have hO':¬(Du (Ac o) 64=true):=by rw[As,Ac];simp;omega
 rw[De,Aam hO',Aao Aw2,hr,Aa];rfl
theorem Af9{o p:LB}{f c w r n:Int}(hd:HdI f c w r n F C W R N)(ho:o.length<=64)(hp:p.length<=100000){g:LI}(ht:AV g=true)(hl:g.length=(Ao (Be R) N).length)(hA:A<g.length){x:LB}{v:Int}{y:LB}{e:Int}
  (h:Cv o p f c w r n g (A:Int) x u v=some (y,e)) (he:e≠ -1):Cd e:=by
 have hlt2:A<(Ao (Be R) N).length:=F0
 have SM:=hd.num;rw[AV,Aap,Acb,OT g 100000 F0]at ht;obtain⟨ht1,g5,gs⟩:=ht;have h5:=g5 g[A] (Ar3 hA);rw[Cv,Gn,Cm hA,Aa]at h;by_cases hw:(p.length:Int)<g[A]
 ·rw[Aao (by rw[Af,Ac];simpa using hw)]at h;cases h;exact absurd rfl he
 rw[Aam (by rw[Af,Ac];simpa using hw)]at h;obtain⟨m,hm,m1,m2⟩:=HU (Xp R) SM.2.2.2.2.1 (Ar3 hlt2);have hb:Dd w:=by rw[hd.ew];unfold Dd;omega
 obtain⟨xs,e',d1,d2,d3,d4⟩:=TN (bits:=w) (ch:=C) (n:=m) (t:=IL o) (p.take g[A].toNat) hb (AI o) SM.2.1.1 SM.2.1.2 m1 F0;have hcd:=O2 hb (AI o) SM.2.1.1 SM.2.1.2 m1 F0 d2;rw[pG o ho,Aa]at h;simp only at h;rw[Di,Aa,Ht,Aa]at h;simp only at h;rw[hd.Abq,Aa,Cm hlt2,Aa,Aa,hm,hd.ec]at h;rw[d2,Aa]at h;simp only at h;rw[Gp,Gj]at h;by_cases he:e'≠0
 ·rw[Aao (by rw[Am];simpa using he)]at h;cases h;exact hcd
 ·have he0:e'=0:=by simpa using he
  obtain⟨k1,k2,k3⟩:=d3 he0;rw[Aam (by rw[Am,he0];simp),iL hb k2 k1,Aa]at h;cases h;exact .inl rfl
theorem Adj{f c w r n:Int}(hd:HdI f c w r n F C W R N){p:LB}(hp:p.length<=100000)(hA:A<=p.length){k:Int}{l:LI}{e:Int}(h:Dx p f c w r n (A:Int)=some (k,l,e))(he:e≠ -1):Cd e:=by
 obtain⟨_,t2,t3⟩:=zA hd [] p hp A hA 0 [] false 0;rw[t2]at h;by_cases h1:(Jf (p.drop A) (Ao (Be R) N).length).2=24
 ·rw[Aao h1]at h;cases h;exact absurd rfl he
 ·rw[Aam h1]at h;cases h;exact Alg _ (A5 hd.fit)
theorem Ae8{f c w r n:Int}(hd:HdI f c w r n F C W R N){o p:LB}(hp:p.length<=100000){k:Int}{l:LI}{e:Int}(h:Fb p f c w r n o=some (k,l,e))(he:e≠ -1):Cd e:=by
 rw[Fb,Iv]at h;by_cases hf:geq f 2=true
 ·rw[Aao hf]at h;by_cases h8:p.length<8
  ·rw[Aao F2]at h;cases h;exact absurd rfl he
  ·have n1:¬(Ck (Ac p) 8=true):=by rw[Af,Ac];simp;omega
   rw[Aam n1]at h;obtain⟨z,hz,h⟩:=Tz h;obtain⟨y,hy,h⟩:=Tz h;by_cases hm:(z !=y)=true
   ·rw[Aao hm]at h;cases h;decide
   ·rw[Aam hm]at h;exact Adj hd hp (A:=8) F0 h he
 ·rw[Aam hf]at h;exact Adj hd hp (A:=0) F0 h he
theorem Aqd(p:LB):(jm p).2.2.2.2.2.2= -1\/Cd (jm p).2.2.2.2.2.2:=by
 unfold jm
 repeat' split
 ·exact .inl rfl
 ·exact .inr (rS p)
 ·exact .inl rfl
 ·exact .inl rfl
 ·exact .inr (G3 _)
theorem Aoc{o p:LB}{f c w r n:Int}{g:LI}{a:Int}{x:LB}{v:Int}(hf:FitD o f c w r n g a x)(ho:o.length<=64)(hp':p.length<=100000){t1 t2:LB}{t3 t4 t5 t6 t7:Int}{t8:LI}{t9:Int}{t10:LB}{t12 e:Int}
  (h:Ag o p f c w r n g a x u v=some (t1,t2,t3,t4,t5,t6,t7,t8,t9,t10,t11,t12,e)) (he:e≠ -1):Cd e:=by
 have zero:¬(Bi (0:Int) 0=true):=Aw2
 rw[Ag,Br]at h;cases hf with
 |new e1 e2 e3 e4 e5 e6 e7 e8=>
  subst e1 e6 e7 e8;rw[Aao Aw2,AE p hp',Aa]at h;have hcd:=Aqd p;generalize jm p=z at h hcd;obtain⟨z1,z2,z3,z4,z5,z6,z7⟩:=z;simp only at h hcd;by_cases hz:Bi z7 0=true
  ·rw[Aao hz]at h;simp only[Aaq,Aea]at h;obtain⟨-, -, -, -, -, -, -, -, -, -, -, -,rfl⟩:=h;exact hcd.resolve_left he
  ·rw[Aam hz]at h;obtain⟨af,h1,h⟩:=Tz h;rw[Ga,Fz,Eb]at h;obtain⟨aw,h2,h⟩:=Tz h;simp only[Aaq,Aea]at h;obtain⟨-, -, -, -, -, -, -, -, -, -, -, -,rfl⟩:=h;split at h2
   ·cases h2;decide
   ·cases h2;decide
 |head F C W R N hd hpw e6 e7 e8=>
  subst e6 e7 e8;have hfn:¬(geq f 0=true):=by rw[Ba];simpa using hd.fnz
  rw[Aam hfn,Bt,Bb,Aao Aw2]at h;obtain⟨⟨k,l,e1⟩,h1,h⟩:=Tz h;simp only at h;by_cases hz:Bi e1 0=true
  ·rw[Aao hz]at h;simp only[Aaq,Aea]at h;obtain⟨-, -, -, -, -, -, -, -, -, -, -, -,rfl⟩:=h;exact Ae8 hd hp' h1 he
  ·rw[Aam hz]at h;obtain⟨af,h2,h⟩:=Tz h;simp only[Aaq,Aea]at h;obtain⟨-, -, -, -, -, -, -, -, -, -, -, -,rfl⟩:=h;exact .inl rfl
 |tab F C W R N A hd hpw ht hl ea hA=>
  subst ea;have hfn:¬(geq f 0=true):=by rw[Ba];simpa using hd.fnz
  have ht':=ht;rw[AV,Aap,Acb]at ht';have hgl:¬(geq (Ac g) 0=true):=by
   intro e;rw[Ba,Ac]at e;have hl1:=ht'.1.1;simp only[Ar7,Acb]at e;omega
  rw[Aam hfn,Bt,Bb,Aam hgl]at h;by_cases hend:geq (A:Int) (Ac g)=true
  ·rw[Aao hend]at h;by_cases hm:Du (Ac p) 4000=true
   ·rw[Aao hm]at h;simp only[Aaq,Aea]at h;obtain⟨-, -, -, -, -, -, -, -, -, -, -, -,rfl⟩:=h;decide
   ·rw[Aam hm]at h;simp only[Aaq,Aea]at h;exact absurd h.2.2.2.2.2.2.2.2.2.2.2.2.symm he
  ·rw[Aam hend]at h;have hlt:A<g.length:=by
    rw[Ba,Ac]at hend;simp only[Ar7]at hend;omega
   obtain⟨⟨y,e1⟩,h1,h⟩:=Tz h;simp only at h;by_cases hz:Bi e1 0=true
   ·rw[Aao hz]at h;simp only[Aaq,Aea]at h;obtain⟨-, -, -, -, -, -, -, -, -, -, -, -,rfl⟩:=h;exact Af9 hd ho hp' ht hl hlt h1 he
   ·rw[Aam hz]at h;obtain⟨an,h2,h⟩:=Tz h;obtain⟨ah,h3,h⟩:=Tz h;obtain⟨ad,h4,h⟩:=Tz h;obtain⟨ae,h5,h⟩:=Tz h;simp only[Aaq,Aea]at h;obtain⟨-, -, -, -, -, -, -, -, -, -, -, -,rfl⟩:=h;exact .inl rfl
theorem Ai3{o:LB}{f c w r n:Int}{g:LI}{a:Int}{x:LB}(hf:FitD o f c w r n g a x)(hO:OutB f c w r n g a x):x.length<=12000:=by
 cases hf with
 |new e1 e2 e3 e4 e5 e6 e7 e8=>subst e8;simp
 |head F C W R N hd hpw e6 e7 e8=>subst e8;simp
 |tab F C W R N A hd hpw ht hl ea hA=>
  have hne:g≠ []:=by intro e;subst e;simp[AV]at ht
  have h:=hO F C W R N A hd hne ea;obtain⟨g1,g2,g3⟩:=RM hd.shape hd.fit;have b:=iQ g1 A;have SM:=hd.num;have hw:=(jh (W:Int)).2;have hN:N*C<=4000:=by
   have h1:=Ac1 C SM.2.2.2.2.2.1;have h2:=Avo 4000 C;omega
  have hs:((Ao (Be R) N).take A).sum.toNat<=N:=F0
  rw[CM]at h;have hb:((Ao (Be R) N).take A).sum.toNat*(C*wB (W:Int))<=4000*3:=by
   have h1:=Ac1 (C*wB (W:Int)) hs;have h2:=At8 hN hw;rw[<-Aui N]at h1;omega
  omega
theorem rC{o x:LB}{e:Int}(ho:o.length<=64)(hx:x.length<=12000)(he:Cd e)(h0:0<e):De o [] 0 0 0 0 0 [] 0 x false e=some 0:=by
 have hO':¬(Du (Ac o) 64=true):=by rw[As,Ac];simp;omega
 have hX:Du (Ac x) 12000=false:=by rw[As,Ac];simp;omega
 rw[De,Aam hO',Aam Axc,Aao Aw2,hX,Aam Aw2,Aao Axb,Aam Aw2];obtain rfl|rfl|rfl|rfl|rfl|rfl|rfl|rfl:=he
 ·omega
 all_goals rfl
theorem K2:∀(k q1 q2:Nat) (o p:LB) (f c w r n:Int) (g:LI) (a:Int) (x:LB) (u:Bool) (v:Int),FitD o f c w r n g a x->o.length<=64->SzD p g a x->muD f g a<k->k<=q1->k<=q2->
  Au q1 o p f c w r n g a x u v=Au q2 o p f c w r n g a x u v
 |0,_,_,_,_,_,_,_,_,_,_,_,_,_,_,_,_,_,h,_,_=>by omega
 |k+1,q1,q2,o,p,f,c,w,r,n,g,a,x,u,v,hf,ho,hZ,hm,h1,h2=>by
  obtain⟨q1,rfl⟩:∃q,q1=q+1:=⟨q1-1,F0⟩;obtain⟨q2,rfl⟩:∃q,q2=q+1:=⟨q2-1,F0⟩;rw[Au,Au,Bs,Bs];have hS:StepR (Bd o u v q1) o p f c w r n g a x u v:=zG hf ho hZ;cases hS with
  |wait hF hT=>
   rw[hT,Aa,Aa];simp only;rw[Aao Aw2,Aao Aw2]
  |err e he hF hT=>
   rw[hT,Aa,Aa];simp only;rw[Aam Axs,Aao Axb,Aam Axs,Aao Axb]
  |next p' f' c' w' r' n' g' a' x' hF hT hf' hZ' hle hmu=>
   rw[hT,Aa,Aa];simp only;rw[Aam Aw2,Aam Aw2,Aam Aw2,Aam Aw2];exact K2 k q1 q2 o p' f' c' w' r' n' g' a' x' u v hf' ho hZ' F0 F0 F0
structure Wt (o p:LB) (f c w r n:Int) (g:LI) (a:Int) (x:LB):Prop where
 fit:FitD o f c w r n g a x
 sz:SzD p g a x
 out:OutB f c w r n g a x
 wait:Ag o p f c w r n g a x false 0=some (o,p,f,c,w,r,n,g,a,x,false,0, -1)
abbrev OE(q:Nat)(o p:LB)(f c w r n:Int)(g:LI)(a:Int)(x:LB):=Au q o p f c w r n g a x false 0
theorem um:∀(k q:Nat) (o p:LB) (f c w r n:Int) (g:LI) (a:Int) (x:LB),FitD o f c w r n g a x->o.length<=64->SzD p g a x->OutB f c w r n g a x->p.length<=100000->muD f g a<k->k<=q->
  (∃(t2:LB) (t3 t4 t5 t6 t7:Int) (t8:LI) (t9:Int) (t10:LB),OE q o p f c w r n g a x=some (o,t2,t3,t4,t5,t6,t7,t8,t9,t10,false,0,0)/\Wt o t2 t3 t4 t5 t6 t7 t8 t9 t10/\t2.length<=p.length/\muD t3 t8 t9<k/\
   ∀b:LB,(p++b).length<=100000->OE q o (p++b) f c w r n g a x=OE q o (t2++b) t3 t4 t5 t6 t7 t8 t9 t10)\/
  (∃(x':LB) (e:Int),0<e/\Cd e/\x'.length<=12000/\∀b:LB,(p++b).length<=100000->OE q o (p++b) f c w r n g a x=some (o,[],0,0,0,0,0,[],0,x',false,e,e))
 |0,_,_,_,_,_,_,_,_,_,_,_,_,_,_,_,_,h,_=>by omega
 |k+1,q,o,p,f,c,w,r,n,g,a,x,hf,ho,hZ,hO,hp,hm,h1=>by
  obtain⟨q,rfl⟩:∃q',q=q'+1:=⟨q-1,F0⟩;have hx:x.length<=13000000:=by have:=hZ.hx;omega
  have hS:StepR (Bd o false 0 q) o p f c w r n g a x false 0:=zG hf ho hZ;cases hS with
  |wait hF hT=>
   refine .inl ⟨p,f,c,w,r,n,g,a,x,?_,⟨hf,hZ,hO,hT⟩,Aox _,hm,λb _=>rfl⟩;rw[OE,Au,Bs,hT,Aa];simp only;rw[Aao Aw2,XK hZ.hp (by have:=hZ.hg;omega) hx,Aa]
  |err e he hF hT=>
   refine .inr ⟨x,e,he,Aoc hf ho hp hT F0,Ai3 hf hO,λb hL=>?_⟩;obtain⟨s1,s2,s3,s4,s5,s6,s7,s8,s9,s10,s11,s12,hs⟩:=(fD b hf hL hT F0).2 F0;rw[OE,Au,Bs,hs,Aa];simp only;rw[Aam Axs,Aao Axb,zU hx,Aa]
  |next p' f' c' w' r' n' g' a' x' hF hT hf' hZ' hle hmu=>
   have hp':p'.length<=100000:=F0
   rcases um k q o p' f' c' w' r' n' g' a' x' hf' ho hZ' (Akk hf ho hZ hO hT) hp' F0 F0 with⟨t2,t3,t4,t5,t6,t7,t8,t9,t10,k1,k2,k3,k4,k5⟩|⟨x2,e,k1,k2,k3,k4⟩
   ·refine .inl ⟨t2,t3,t4,t5,t6,t7,t8,t9,t10,?_,k2,F0,F0,λb hL=>?_⟩
    ·rw[OE,Au,Bs,hT,Aa];simp only;rw[Aam Aw2,Aam Aw2];exact k1
    ·have hs:=(fD b hf hL hT Aw2).1 rfl;have hL':(p'++b).length<=100000:=by rw[Aar]at hL⊢;omega
     rw[OE,Au,Bs,hs,Aa];simp only;rw[Aam Aw2,Aam Aw2];refine(k5 b hL').trans ?_;exact K2 k q (q+1) o (t2++b) t3 t4 t5 t6 t7 t8 t9 t10 false 0 k2.fit ho ⟨by rw[Aar]at hL⊢;omega,k2.sz.hg,k2.sz.hx⟩ k4 F0 F0
   ·refine .inr ⟨x2,e,k1,k2,k3,λb hL=>?_⟩;have hs:=(fD b hf hL hT Aw2).1 rfl;have hL':(p'++b).length<=100000:=by rw[Aar]at hL⊢;omega
    rw[OE,Au,Bs,hs,Aa];simp only;rw[Aam Aw2,Aam Aw2];exact k4 b hL'
abbrev Fd(o s:LB):=OE Aq o s 0 0 0 0 0 [] 0 []
inductive Bh (o s:LB):LB->Int->Int->Int->Int->Int->LI->Int->LB->Int->Prop
 |wt {p:LB} {f c w r n:Int} {g:LI} {a:Int} {x:LB}:Wt o p f c w r n g a x->p.length<=s.length-> (∀b:LB,(s++b).length<=100000->Fd o (s++b)=OE Aq o (p++b) f c w r n g a x)->Bh o s p f c w r n g a x 0
 |er {x:LB} {e:Int}:0<e->Cd e->x.length<=12000-> (∀b:LB,(s++b).length<=100000->Fd o (s++b)=some (o,[],0,0,0,0,0,[],0,x,false,e,e))->Bh o s [] 0 0 0 0 0 [] 0 x e
variable {o s p:LB} {f c w r n:Int} {g:LI} {a:Int} {x:LB} {e:Int}
theorem Wt.stop(W:Wt o p f c w r n g a x):OE Aq o p f c w r n g a x=some (o,p,f,c,w,r,n,g,a,x,false,0,0):=by
 obtain⟨q,hq⟩:∃q,Aq=q+1:=⟨Aq-1,by have:=Ar;omega⟩;have hx:x.length<=13000000:=by have:=W.sz.hx;omega
 rw[OE,hq,Au,Bs,W.wait,Aa];simp only;rw[Aao Aw2,XK W.sz.hp (by have:=W.sz.hg;omega) hx,Aa]
theorem Bh.new(ho:o.length<=64):Bh o [] [] 0 0 0 0 0 [] 0 [] 0:=by
 refine .wt ⟨.new rfl rfl rfl rfl rfl rfl rfl rfl,⟨Aw7,Aw7,Aw7⟩,OutB.nil,?_⟩ (Aox _) λb _=>rfl;rw[Ag,Br,Aao Aw2,AE [] Aw7,Aa];rfl
theorem Y9(ho:o.length<=64)(W:Wt o p f c w r n g a x)(b:LB)(hp:p.length<=20000)(hb:b.length<=20000):
  Dr o p f c w r n g a x false 0 b=OE Aq o (p++b) f c w r n g a x/\Ij o p f c w r n g a x false 0 b=OE Aq o (p++b) f c w r n g a x:=by
 have hR:Ij o p f c w r n g a x false 0 b=OE Aq o (p++b) f c w r n g a x:=by
  have hx:x.length<=13000000:=by have:=W.sz.hx;omega
  have hg:g.length<=2000:=by have:=W.sz.hg;omega
  have hE:¬(Bi (0:Int) 0=true):=Aw2
  have hF:¬(false=true):=Aw2
  rw[Ij,Pq,mF W.fit ho W.out W.wait,Aa,Aam hE,XK F0 hg hx,Aa];simp only;rw[Pp]
  repeat (first|rw[Aa]|rw[Aam hE]|rw[Aam hF])
  rw[Cu,Aa];rfl
 obtain⟨t1,t2,t3,t4,t5,t6,t7,t8,t9,t10,t11,t12,e,h1,h2,_⟩:=Ate ho W.fit W.sz b hp hb;exact⟨h1.trans (h2.symm.trans hR),hR⟩
theorem Bh.check(ho:o.length<=64)(h:Bh o s p f c w r n g a x e)(hp:p.length<=100000):Hm o p f c w r n g a x false e=some 0/\De o p f c w r n g a x false e=some 0:=by
 have key:De o p f c w r n g a x false e=some 0/\g.length<=1000/\x.length<=13000000:=by
  cases h with
  |wt W hl hb=>exact⟨mF W.fit ho W.out W.wait,W.sz.hg,by have:=W.sz.hx;omega⟩
  |er h0 hc hx hb=>exact⟨rC ho hx hc h0,Aw7,F0⟩
 obtain⟨k1,k2,k3⟩:=key;obtain⟨E,e1,e2⟩:=qM o p f c w r n g a x false e hp F0 F0;rw[k1]at e2;cases e2;exact⟨e1,k1⟩
theorem Bh.feed(ho:o.length<=64)(h:Bh o s p f c w r n g a x e)(hp:p.length<=20000)(b:LB)(hb:b.length<=20000)(hs:(s++b).length<=100000):
  ∃(p':LB) (f' c' w' r' n':Int) (g':LI) (a':Int) (x':LB) (e':Int),Dr o p f c w r n g a x false e b=some (o,p',f',c',w',r',n',g',a',x',false,e',e')/\
   Ij o p f c w r n g a x false e b=some (o,p',f',c',w',r',n',g',a',x',false,e',e')/\Bh o (s++b) p' f' c' w' r' n' g' a' x' e':=by
 have hck:=h.check ho F0;cases h with
 |wt W hl hB=>
  obtain⟨h1,h2⟩:=Y9 ho W b hp hb;have hpb:(p++b).length<=100000:=by rw[Aar];omega
  have hZ:SzD (p++b) g a x:=⟨hpb,W.sz.hg,W.sz.hx⟩;rcases um 1004 Aq o (p++b) f c w r n g a x W.fit ho hZ W.out hpb (Aj5 hZ) Aw5 with⟨t2,t3,t4,t5,t6,t7,t8,t9,t10,k1,k2,k3,k4,k5⟩|⟨x2,e,k1,k2,k3,k4⟩
  ·refine⟨t2,t3,t4,t5,t6,t7,t8,t9,t10,0,h1.trans k1,h2.trans k1, .wt k2 ?_ λb2 hL=>?_⟩
   ·rw[Aar]at k3⊢;omega
   ·rw[Alw,hB (b++b2) (by rw[<-Alw];exact hL),<-Alw];refine k5 b2 ?_;rw[Aar,Aar]at hL⊢;omega
  ·have k4':=k4 [] (by simpa using hpb);rw[Aqy]at k4';refine⟨_,_,_,_,_,_,_,_,_,_,h1.trans k4',h2.trans k4', .er k1 k2 k3 λb2 hL=>?_⟩;rw[Alw,hB (b++b2) (by rw[<-Alw];exact hL),<-Alw];refine k4 b2 ?_;rw[Aar,Aar]at hL⊢;omega
 |er h0 hc hx hB=>
  have hne:Bi e 0=true:=by rw[Am];simp;omega
  refine⟨_,_,_,_,_,_,_,_,_,_,?_,?_, .er h0 hc hx λb2 hL=>?_⟩
  ·rw[Dr,Tk,oN Aw7 Aw7 F0 hck.1,Aam Aw2,Aa];simp only;rw[Aao (show e≠0 by omega),Aao hne]
  ·rw[Ij,Pq,hck.2,Aa,Aam Aw2,XK Aw7 Aw7 F0,Aa];simp only;rw[Pp,Aao hne,Aa,Aao hne]
  ·rw[Alw];exact hB (b++b2) (by rw[<-Alw];exact hL)
theorem Aj6{v:Int}{y:LB}(hf:FitD o f c w r n g a x){t1 t2:LB}{t3 t4 t5 t6 t7:Int}{t8:LI}{t9:Int}{t10:LB}{t12:Int}
  (h:Ag o p f c w r n g a x u v=some (t1,t2,t3,t4,t5,t6,t7,t8,t9,t10,t11,t12, -1)) (hp:p.length<=100000):Ag o p f c w r n g a y u v=some (o,p,f,c,w,r,n,g,a,y,u,v, -1):=by
 have zero:¬(Bi (0:Int) 0=true):=Aw2
 rw[Ag,Br]at h⊢;by_cases hz:geq f 0=true
 ·rw[Aao hz]at h⊢;obtain⟨⟨z1,z2,z3,z4,z5,z6,z7⟩,hz1,h⟩:=Tz h;rw[hz1,Aa];simp only at h⊢;by_cases h7:Bi z7 0=true
  ·rw[Aao h7]at h⊢;simp only[Aaq,Aea]at h;rw[h.2.2.2.2.2.2.2.2.2.2.2.2]
  ·rw[Aam h7]at h;obtain⟨af,h1,h⟩:=Tz h;rw[Ga,Fz,Eb]at h;obtain⟨aw,h2,h⟩:=Tz h;simp only[Aaq,Aea]at h;obtain⟨-, -, -, -, -, -, -, -, -, -, -, -,rfl⟩:=h;split at h2<;>cases h2
 ·rw[Aam hz]at h⊢;rw[Bt,Bb]at h⊢;by_cases hg:geq (Ac g) 0=true
  ·rw[Aao hg]at h⊢;obtain⟨⟨z1,z2,z3⟩,hz1,h⟩:=Tz h;rw[hz1,Aa];simp only at h⊢;by_cases h7:Bi z3 0=true
   ·rw[Aao h7]at h⊢;simp only[Aaq,Aea]at h;rw[h.2.2.2.2.2.2.2.2.2.2.2.2]
   ·rw[Aam h7]at h;obtain⟨af,h1,h⟩:=Tz h;simp only[Aaq,Aea]at h;exact absurd h.2.2.2.2.2.2.2.2.2.2.2.2 Aw2
  ·rw[Aam hg]at h⊢;by_cases he:geq a (Ac g)=true
   ·rw[Aao he]at h⊢;by_cases hm:Du (Ac p) 4000=true
    ·rw[Aao hm]at h;simp only[Aaq,Aea]at h;exact absurd h.2.2.2.2.2.2.2.2.2.2.2.2 Aw2
    ·rw[Aam hm]
   ·rw[Aam he]at h⊢;obtain⟨⟨z1,z2⟩,hz1,h⟩:=Tz h;have hz2:Cv o p f c w r n g a y u v=some (z1,z2):=hz1;rw[hz2,Aa];simp only at h⊢;by_cases h7:Bi z2 0=true
    ·rw[Aao h7]at h⊢;simp only[Aaq,Aea]at h;rw[h.2.2.2.2.2.2.2.2.2.2.2.2]
    ·rw[Aam h7]at h;obtain⟨an,h2,h⟩:=Tz h;obtain⟨ah,h3,h⟩:=Tz h;obtain⟨ad,h4,h⟩:=Tz h;obtain⟨ae,h5,h⟩:=Tz h;simp only[Aaq,Aea]at h;exact absurd h.2.2.2.2.2.2.2.2.2.2.2.2 Aw2
end Go.Pl
namespace Go.Pl
open Go Go.Lv
variable{u t11:Bool}{α:Type}
section
variable {o s p:LB} {f c w r n:Int} {g:LI} {a:Int} {x:LB} {e:Int}
theorem FitD.drop(h:FitD o f c w r n g a x)(t:Nat):FitD o f c w r n g a (x.drop t):=by
 cases h with
 |new e1 e2 e3 e4 e5 e6 e7 e8=>subst e8;exact .new e1 e2 e3 e4 e5 e6 e7 Aw7
 |head F C W R N hd hpw e6 e7 e8=>subst e8;exact .head F C W R N hd hpw e6 e7 Aw7
 |tab F C W R N A hd hpw ht hl ea hA=>exact .tab F C W R N A hd hpw ht hl ea hA
theorem OutB.drop(h:OutB f c w r n g a x)(t:Nat):OutB f c w r n g a (x.drop t):=by
 intro F C W R N A hd hg ha;have:=h F C W R N A hd hg ha;rw[Aiq];omega
theorem Bh.L3(h:Bh o s p f c w r n g a x e):p.length<=s.length/\g.length<=1000/\x.length<=12000:=by
 cases h with
 |wt W hl hb=>exact⟨hl,W.sz.hg,Ai3 W.fit W.out⟩
 |er h0 hc hx hb=>exact⟨Aw7,Aw7,hx⟩
theorem Bh.xE(ho:o.length<=64)(h:Bh o s p f c w r n g a x e)(hp:p.length<=100000)(t:Nat):Hm o p f c w r n g a (x.drop t) false e=some 0:=by
 have hs:=h.L3;have key:De o p f c w r n g a (x.drop t) false e=some 0:=by
  cases h with
  |wt W hl hb=>exact mF (W.fit.drop t) ho (W.out.drop t) (Aj6 W.fit W.wait hp)
  |er h0 hc hx hb=>exact rC ho Axj hc h0
 obtain⟨E,e1,e2⟩:=qM o p f c w r n g a (x.drop t) false e hp F0 Axj;rw[key]at e2;cases e2;exact e1
theorem Ais(hck:Hm o p f c w r n g a x u e=some 0)(hp:p.length<=20000)(hg:g.length<=2000)(hx:x.length<=12000)(m:Nat):
  Tp o p f c w r n g a x u e (m:Int)=some (o,p,f,c,w,r,n,g,a,x.drop (min m x.length),u,e,x.take (min m x.length),0):=by
 rw[Tp,hck,Aa,Aam Aw2,Aam Axe,N5 F0 hg F0,Aa];simp only;have hk:Ee (m:Int) (Ac x)=((min m x.length:Nat):Int):=by rw[MC,Ac];omega
 rw[hk,Di,Aa,Ib,Cu Aw3,Aa,Aa,Dm,Aa];rfl
end
section
variable {o s p:LB} {f c w r n:Int} {g:LI} {a:Int} {x:LB} {e:Int}
theorem Ag2{v:Int}(hp:p.length<=20000)(h:Qg o p f c w r n g a x u v=some e):Cd e:=by
 rw[Qg]at h;split at h
 ·rw[ZP p F0,Aa]at h;have hok:=PC (b:=p);simp only at h;by_cases h2:(Dk p).2≠0
  ·rw[Aao (by rw[Am];simpa using h2)]at h;cases h;exact rS p
  ·have h3:(Dk p).2=0:=by simpa using h2
   obtain⟨k1,k2,k3⟩:=hok h3;have hl:(Ui p).length<=p.length:=by rw[Ui,Aiq];omega
   rw[Aam (by rw[Am,h3];simp),Dm,Aa,show p.drop (Dk p).1.toNat=Ui p from rfl,xT _ F0,Aa]at h;cases h;exact G3 _
 ·split at h
  ·cases h;decide
  ·obtain⟨⟨z1,z2⟩,hz,h⟩:=Tz h;simp only at h;split at h<;>(cases h;decide)
theorem eX{v k:Int}(ho:o.length<=64)(hx:x.length<=12000)(hk:(u=false/\v=k/\0<k/\Cd k)\/ (u=true/\v=0/\k=36)):
  Hm o [] 0 0 0 0 0 [] 0 x u v=some 0/\ (∀b,Dr o [] 0 0 0 0 0 [] 0 x u v b=some (o,[],0,0,0,0,0,[],0,x,u,v,k))/\Hl o [] 0 0 0 0 0 [] 0 x u v=some (o,[],0,0,0,0,0,[],0,x,u,v,k):=by
 have key:De o [] 0 0 0 0 0 [] 0 x u v=some 0:=by
  rcases hk with⟨rfl,rfl,h1,h2⟩|⟨rfl,rfl,rfl⟩
  ·exact rC ho hx h2 h1
  ·have hX:Du (Ac x) 12000=false:=by rw[As,Ac];simp;omega
   rw[De,Aam Aw6,Aam Aw2,Aao Aw2,hX,Aam Aw2,Aam Aw2]
 obtain⟨E,e1,e2⟩:=qM o [] 0 0 0 0 0 [] 0 x u v Aw7 Aw7 F0;rw[key]at e2;cases e2;have hv:(if v≠0 then v else if u=true then 36 else 0)=k:=by
  rcases hk with⟨rfl,rfl,h1,h2⟩|⟨rfl,rfl,rfl⟩
  ·rw[Aao F0]
  ·rfl
 have hk0:Bi k 0=true:=by
  rw[Am];rcases hk with⟨rfl,rfl,h1,h2⟩|⟨rfl,rfl,rfl⟩
  ·simp;omega
  ·rfl
 have hb:=oN (o:=o) (p:=[]) (f:=0) (c:=0) (w:=0) (r:=0) (n:=0) (g:=[]) (a:=0) (x:=x) (u:=u) (v:=v) Aw7 Aw7 F0 e1;rw[Aam Aw2,hv]at hb;refine⟨e1,λb=>?_,?_⟩
 ·rw[Dr,Tk,hb,Aa];simp only;rw[Aao hk0]
 ·rw[Hl,hb,Aa];simp only;rw[Aao hk0]
end
theorem WV{l m z:List α}(h:Cj l m=some z):z=l++m:=by
 rw[Cj]at h;split at h
 ·exact(Option.some.inj h).symm
 ·cases h
theorem Ah2{o p:LB}{f c w r n:Int}{g:LI}{a:Int}{x:LB}{v:Int}(hf:f≠0)(hg:g≠ []){t1 t2:LB}{t3 t4 t5 t6 t7:Int}{t8:LI}{t9:Int}{t10:LB}{t12 e:Int}
  (h:Ag o p f c w r n g a x u v=some (t1,t2,t3,t4,t5,t6,t7,t8,t9,t10,t11,t12,e)):e≠0\/ (t3=f/\t8=g/\∃y,t10=x++y):=by
 rw[Ag,Br,Aam (by rw[Ba];simpa using hf),Bt,Bb,Aam (by
  rw[Ba,Ac,Ar7];intro e;exact hg (Ar8 F0))]at h
 by_cases he:geq a (Ac g)=true
 ·rw[Aao he]at h;by_cases hm:Du (Ac p) 4000=true
  ·rw[Aao hm]at h;simp only[Aaq,Aea]at h;left;rw[<-h.2.2.2.2.2.2.2.2.2.2.2.2];decide
  ·rw[Aam hm]at h;simp only[Aaq,Aea]at h;left;rw[<-h.2.2.2.2.2.2.2.2.2.2.2.2];decide
 ·rw[Aam he]at h;obtain⟨⟨z1,z2⟩,hz1,h⟩:=Tz h;simp only at h;by_cases h7:Bi z2 0=true
  ·rw[Aao h7]at h;simp only[Aaq,Aea]at h;left;rw[<-h.2.2.2.2.2.2.2.2.2.2.2.2];rw[Am]at h7;simpa using h7
  ·rw[Aam h7]at h;obtain⟨an,h2,h⟩:=Tz h;obtain⟨ah,h3,h⟩:=Tz h;obtain⟨ad,h4,h⟩:=Tz h;obtain⟨ae,h5,h⟩:=Tz h;simp only[Aaq,Aea]at h;have e1:=WV h2;have e2:=WV h3;rw[Aqf]at e1;right;exact⟨h.2.2.1.symm,h.2.2.2.2.2.2.2.1.symm,z1,by rw[<-h.2.2.2.2.2.2.2.2.2.1,e2,e1]⟩
theorem qL{l m r:List α}(h:Cj l m=some r):l.length+m.length<=K3:=by
 rw[Cj]at h;split at h
 ·assumption
 ·cases h
theorem wH{l m:List α}(h:l.length+m.length<=K3):Cj l m=some (l++m):=by rw[Cj,Aao h]
theorem Ap8{o p:LB}{f c w r n:Int}{g:LI}{a:Int}{x:LB}{v:Int}(hf:f≠0)(hg:g≠ []){t1 t2:LB}{t3 t4 t5 t6 t7:Int}{t8:LI}{t9:Int}{t10:LB}{t12 e:Int}
  (h:Ag o p f c w r n g a x u v=some (t1,t2,t3,t4,t5,t6,t7,t8,t9,t10,t11,t12,e)):
  ∃y,t10=x++y/\∀z:LB,z.length<=x.length->Ag o p f c w r n g a z u v=some (t1,t2,t3,t4,t5,t6,t7,t8,t9,z++y,t11,t12,e):=by
 have e0:∀z:LB,Ag o p f c w r n g a z u v=Bb o p f c w r n g a z u v:=λz=>by
  rw[Ag,Br,Aam (by rw[Ba];simpa using hf),Bt]
 have hgl:¬geq (Ac g) 0=true:=by
  rw[Ba,Ac,Ar7];intro e;exact hg (Ar8 F0)
 have stay:∀E:Int,some (o,p,f,c,w,r,n,g,a,x,u,v,E)=some (t1,t2,t3,t4,t5,t6,t7,t8,t9,t10,t11,t12,e)-> (∀z:LB,Bb o p f c w r n g a z u v=some (o,p,f,c,w,r,n,g,a,z,u,v,E))->
   ∃y,t10=x++y/\∀z:LB,z.length<=x.length->Ag o p f c w r n g a z u v=some (t1,t2,t3,t4,t5,t6,t7,t8,t9,z++y,t11,t12,e):=by
  intro E h hz;simp only[Aaq,Aea]at h;obtain⟨rfl,rfl,rfl,rfl,rfl,rfl,rfl,rfl,rfl,rfl,rfl,rfl,rfl⟩:=h;exact⟨[],(Aqy _).symm,λz _=>by rw[e0,hz,Aqy]⟩
 rw[e0,Bb,Aam hgl]at h;by_cases he:geq a (Ac g)=true
 ·rw[Aao he]at h;by_cases hm:Du (Ac p) 4000=true
  ·rw[Aao hm]at h;exact stay _ h λz=>by rw[Bb,Aam hgl,Aao he,Aao hm]
  ·rw[Aam hm]at h;exact stay _ h λz=>by rw[Bb,Aam hgl,Aao he,Aam hm]
 ·rw[Aam he]at h;obtain⟨⟨z1,z2⟩,hz1,h⟩:=Tz h;have hz1':∀z:LB,Cv o p f c w r n g a z u v=some (z1,z2):=λz=>hz1;simp only at h;by_cases h7:Bi z2 0=true
  ·rw[Aao h7]at h;refine stay _ h λz=>?_;rw[Bb,Aam hgl,Aam he,hz1',Aa];simp only;rw[Aao h7]
  ·rw[Aam h7]at h;obtain⟨an,h2,h⟩:=Tz h;obtain⟨ah,h3,h⟩:=Tz h;obtain⟨ad,h4,h⟩:=Tz h;obtain⟨ae,h5,h⟩:=Tz h;simp only[Aaq,Aea]at h;have e1:=WV h2;have e2:=WV h3;have l2:=qL h2;have l3:=qL h3;rw[Aqf]at e1;obtain⟨h01,h02,h03,h04,h05,h06,h07,h08,h09,h10,h11,h12,h13⟩:=h;refine⟨z1,by rw[<-h10,e2,e1],λz hz=>?_⟩;rw[e1]at l3;rw[e0,Bb,Aam hgl,Aam he,hz1',Aa];simp only;rw[Aam h7,wH (by simp at l2⊢;omega),Aa,Aqf,wH F0,Aa,h4,Aa,h5,Aa,h01,h02,h03,h04,h05,h06,h07,h08,h09,h11,h12,h13]
theorem Ahn:∀(q:Nat) (o p:LB) (f c w r n:Int) (g:LI) (a:Int) (x:LB) (u:Bool) (v:Int),f≠0->g≠ []->∀(t1 t2:LB) (t3 t4 t5 t6 t7:Int) (t8:LI) (t9:Int) (t10:LB) (t11:Bool) (t12 e:Int),Au q o p f c w r n g a x u v=some (t1,t2,t3,t4,t5,t6,t7,t8,t9,t10,t11,t12,e)->
  ∃y,t10=x++y/\∀z:LB,z.length<=x.length->Au q o p f c w r n g a z u v=some (t1,t2,t3,t4,t5,t6,t7,t8,t9,z++y,t11,t12,e)
 |0,o,p,f,c,w,r,n,g,a,x,u,v,_,_,t1,t2,t3,t4,t5,t6,t7,t8,t9,t10,t11,t12,e,h=>by cases h
 |q+1,o,p,f,c,w,r,n,g,a,x,u,v,hf,hg,t1,t2,t3,t4,t5,t6,t7,t8,t9,t10,t11,t12,e,h=>by
  rw[Au,Bs]at h;obtain⟨⟨z1,z2,z3,z4,z5,z6,z7,z8,z9,z10,z11,z12,zz⟩,hz,h⟩:=Tz h;obtain⟨y,hy1,hy2⟩:=Ap8 hf hg hz;simp only at h;by_cases h1:geq zz (-1)=true
  ·rw[Aao h1]at h;obtain⟨⟨y1,y2,y3,y4,y5,y6,y7,y8,y9,y10,y11,y12⟩,hy,h⟩:=Tz h;simp only[Aaq,Aea]at h;rw[Lj,Pc]at hy;obtain⟨a1,k1,hy⟩:=Tz hy;obtain⟨a2,k2,hy⟩:=Tz hy;rw[Pg,Pf]at hy;obtain⟨a3,k3,hy⟩:=Tz hy;simp only[Aaq,Aea]at hy;have e2:=WV k2;have l2:=qL k2;obtain⟨rfl,rfl,rfl,rfl,rfl,rfl,rfl,rfl,rfl,rfl,rfl,rfl⟩:=hy;obtain⟨rfl,rfl,rfl,rfl,rfl,rfl,rfl,rfl,rfl,rfl,rfl,rfl,rfl⟩:=h;refine⟨[],by rw[e2,Aqf,Aqy],λz hzl=>?_⟩;rw[Au,Bs,hy2 z hzl,Aa];simp only;rw[Aao h1,Lj,Pc,k1,Aa,wH (by simp at l2⊢;omega),Aa,Pg,Pf,k3,Aa,Aa];simp
  ·rw[Aam h1]at h;by_cases h2:Bi zz 0=true
   ·rw[Aao h2]at h;obtain⟨⟨y1,y2,y3,y4,y5,y6,y7,y8,y9,y10,y11,y12,y13⟩,hy,h⟩:=Tz h;simp only[Aaq,Aea]at h;rw[Mj]at hy;obtain⟨⟨x1,x2,x3,x4,x5,x6,x7,x8,x9,x10,x11,x12⟩,hx,hy⟩:=Tz hy;simp only[Aaq,Aea]at hy;rw[Vl]at hx;obtain⟨a2,k2,hx⟩:=Tz hx;simp only[Aaq,Aea]at hx;have e2:=WV k2;have l2:=qL k2;obtain⟨rfl,rfl,rfl,rfl,rfl,rfl,rfl,rfl,rfl,rfl,rfl,rfl⟩:=hx;obtain⟨rfl,rfl,rfl,rfl,rfl,rfl,rfl,rfl,rfl,rfl,rfl,rfl,rfl⟩:=hy;obtain⟨rfl,rfl,rfl,rfl,rfl,rfl,rfl,rfl,rfl,rfl,rfl,rfl,rfl⟩:=h;refine⟨[],by rw[e2,Aqf,Aqy],λz hzl=>?_⟩;rw[Au,Bs,hy2 z hzl,Aa];simp only;rw[Aam h1,Aao h2,Mj,Vl,wH (by simp at l2⊢;omega),Aa,Aa,Aa];simp
   ·rw[Aam h2]at h;have hz0:zz=0:=by rw[Am]at h2;simpa using h2
    rcases Ah2 hf hg hz with h3|⟨h3,h4,y0,h5⟩
    ·exact absurd hz0 h3
    ·obtain⟨y2,h6,h7⟩:=Ahn q z1 z2 z3 z4 z5 z6 z7 z8 z9 z10 z11 z12 (by rw[h3];exact hf) (by rw[h4];exact hg) _ _ _ _ _ _ _ _ _ _ _ _ _ h;refine⟨y++y2,by rw[h6,hy1,Alw],λz hzl=>?_⟩;rw[Au,Bs,hy2 z hzl,Aa];simp only;rw[Aam h1,Aam h2,h7 (z++y) (by rw[hy1,Aar,Aar];omega),Alw]
section
variable {o s p:LB} {f c w r n:Int} {g:LI} {a:Int} {x:LB} {e:Int}
theorem Wt.drop(W:Wt o p f c w r n g a x)(t:Nat):Wt o p f c w r n g a (x.drop t):=
 ⟨W.fit.drop t,⟨W.sz.hp,W.sz.hg,by have:=W.sz.hx;rw[Aiq];omega⟩,W.out.drop t,Aj6 W.fit W.wait W.sz.hp⟩
theorem FitD.early(h:FitD o f c w r n g a x)(hx:x≠ []):f≠0/\g≠ []:=by
 cases h with
 |new _ _ _ _ _ _ _ e8=>exact absurd e8 hx
 |head _ _ _ _ _ _ _ _ _ e8=>exact absurd e8 hx
 |tab F C W R N A hd hpw ht hl ea hA=>
  refine⟨hd.fnz,λe=>?_⟩;have h1:=hd.num;have h2:(Ao (Be R) N).length=0:=by rw[<-hl,e];rfl
  have h3:Ao (Be R) N=[]:=Ar8 h2;have h4:(Ao (Be R) N).sum=(N:Int):=fJ h1.2.2.2.2.1;rw[h3]at h4;simp at h4;omega
theorem Bh.Apa(ho:o.length<=64)(h:Bh o s p f c w r n g a x e)(hp:p.length<=20000)(b:LB)(hb:b.length<=20000)(hs:(s++b).length<=100000){t:Nat}(ht:t<=x.length):
  ∃(p':LB) (f' c' w' r' n':Int) (g':LI) (a':Int) (y:LB) (e':Int),Dr o p f c w r n g a (x.drop t) false e b=some (o,p',f',c',w',r',n',g',a',(x++y).drop t,false,e',e')/\
   Dr o p f c w r n g a x false e b=some (o,p',f',c',w',r',n',g',a',x++y,false,e',e')/\Bh o (s++b) p' f' c' w' r' n' g' a' (x++y) e':=by
 obtain⟨p',f',c',w',r',n',g',a',x',e',h1,h2,h3⟩:=h.feed ho hp b hb hs;have hck:=h.xE ho F0 t;have hsz:=h.L3;cases h with
 |wt W hl hB=>
  by_cases hx:x=[]
  ·subst hx;obtain rfl:t=0:=by simpa using ht
   exact⟨p',f',c',w',r',n',g',a',x',e',h1,by simpa using h1,by simpa using h3⟩
  ·obtain⟨hf,hg⟩:=W.fit.early hx;have e1:=(Y9 ho W b hp hb).1;have e2:=(Y9 ho (W.drop t) b hp hb).1;rw[e1]at h1;obtain⟨y,k1,k2⟩:=Ahn Aq o (p++b) f c w r n g a x false 0 hf hg _ _ _ _ _ _ _ _ _ _ _ _ _ h1;subst k1;refine⟨p',f',c',w',r',n',g',a',y,e',?_,by rw[e1];exact h1,h3⟩;rw[e2,Aub ht];exact k2 (x.drop t) Axj
 |er h0 hc hx hB=>
  obtain⟨q1,q2,q3⟩:=eX (o:=o) (x:=x) (u:=false) (v:=e) (k:=e) ho hx (.inl ⟨rfl,rfl,h0,hc⟩);obtain⟨d1,d2,d3⟩:=eX (o:=o) (x:=x.drop t) (u:=false) (v:=e) (k:=e) ho Axj (.inl ⟨rfl,rfl,h0,hc⟩);rw[q2 b]at h1;simp only[Aaq,Aea,true_and]at h1;obtain⟨rfl,rfl,rfl,rfl,rfl,rfl,rfl,rfl,rfl,rfl,_⟩:=h1;exact⟨[],0,0,0,0,0,[],0,[],e,by simpa using d2 b,by simpa using q2 b,by simpa using h3⟩
def Atu(u:Bool)(v k:Int):Prop:=(u=false/\v=k/\0<k/\Cd k)\/ (u=true/\v=0/\k=36)
theorem Bh.Al9(ho:o.length<=64)(h:Bh o s p f c w r n g a x e)(hp:p.length<=20000):
  ∃(u:Bool) (v k:Int),(∀t,Hl o p f c w r n g a (x.drop t) false e=some (o,[],0,0,0,0,0,[],0,x.drop t,u,v,k))/\ ((u=false/\v=k/\0<k/\Cd k/\ (e=0\/e=k))\/ (u=true/\v=0/\k=0)):=by
 have hs:=h.L3;cases h with
 |wt W hl hB=>
  obtain⟨e1,d1,d2⟩:=kr (o:=o) (p:=p) (f:=f) (c:=c) (w:=w) (r:=r) (n:=n) (a:=a) (u:=false) (v:=0) (g:=g) (x:=x) hp;have hcd:=Ag2 hp d2;have go:∀t,Hl o p f c w r n g a (x.drop t) false 0=if Bi e1 0=true then some (o,[],0,0,0,0,0,[],0,x.drop t,false,e1,e1)else some (o,[],0,0,0,0,0,[],0,x.drop t,true,0,0):=by
   intro t;have hb:=oN (o:=o) (p:=p) (f:=f) (c:=c) (w:=w) (r:=r) (n:=n) (g:=g) (a:=a) (x:=x.drop t) (u:=false) (v:=0) F0 F0 Axj (Bh.xE ho (.wt W hl hB) F0 t);rw[Aam Aw2]at hb;rw[Hl,hb,Aa];simp only;have d1':Vz o p f c w r n g a (x.drop t) false 0=some e1:=d1;rw[Aam Aw2,d1',Aa];rfl
  by_cases he:Bi e1 0=true
  ·refine⟨false,e1,e1,λt=>by rw[go,Aao he], .inl ⟨rfl,rfl,?_,hcd,Aw7⟩⟩;have:=hcd.nn;rw[Am]at he;simp only[Av7]at he;omega
  ·exact⟨true,0,0,λt=>by rw[go,Aam he], .inr ⟨rfl,rfl,rfl⟩⟩
 |er h0 hc hx hB=>
  refine⟨false,e,e,λt=>?_, .inl ⟨rfl,rfl,h0,hc, .inr rfl⟩⟩;exact(eX (o:=o) (x:=x.drop t) (u:=false) (v:=e) (k:=e) ho Axj (.inl ⟨rfl,rfl,h0,hc⟩)).2.2
end
theorem Axx{p:Prop}(h:p:=by simp only[Aiq];omega):p:=h
theorem Ax0{p:Prop}(h:p:=by rw[Aar];simp;omega):p:=h
end Go.Pl
namespace Go.Pl
open Go Go.Lv
variable{o:LB}{es:LI}{L:Nat}{a:UInt8}
abbrev tC:=UInt8×Int×Unit
abbrev Sad:=Int×LB×Unit
structure Ud where
 s:LB
 X:LB
 p:LB
 f:Int
 c:Int
 w:Int
 r:Int
 n:Int
 g:LI
 a:Int
 u:Bool
 v:Int
inductive OkU (o:LB) (L:Nat):Ud->Prop
 |live {s X p:LB} {f c w r n:Int} {g:LI} {a e:Int}:s.length+L<=12100->Bh o s p f c w r n g a X e->OkU o L ⟨s,X,p,f,c,w,r,n,g,a,false,e⟩
 |stop {s X:LB} {u:Bool} {v k:Int}:X.length<=12000->Atu u v k->OkU o L ⟨s,X,[],0,0,0,0,0,[],0,u,v⟩
def Aev(o:LB)(U:Ud)(q:LB):Option (Int×Ud):=(Dr o U.p U.f U.c U.w U.r U.n U.g U.a U.X U.u U.v q).bind λ(_,p,f,c,w,r,n,g,a,x,u,v,e)=>some (e,⟨U.s++q,x,p,f,c,w,r,n,g,a,u,v⟩)
def Amk(o:LB)(U:Ud):Option (Int×Ud):=(Hl o U.p U.f U.c U.w U.r U.n U.g U.a U.X U.u U.v).bind λ(_,p,f,c,w,r,n,g,a,x,u,v,e)=>some (e,⟨U.s,x,p,f,c,w,r,n,g,a,u,v⟩)
theorem Akp(ho:o.length<=64){U:Ud}(h:OkU o L U)(q:LB)(hq:q.length<=L):
  ∃(e:Int) (U':Ud),Aev o U q=some (e,U')/\OkU o (L-q.length) U'/\ (∃y,U'.X=U.X++y)/\
   ∀t,t<=U.X.length->Dr o U.p U.f U.c U.w U.r U.n U.g U.a (U.X.drop t) U.u U.v q=some (o,U'.p,U'.f,U'.c,U'.w,U'.r,U'.n,U'.g,U'.a,U'.X.drop t,U'.u,U'.v,e):=by
 cases h with
 |live hl hB=>
  rename_i s X p f c w r n g a e;have hsz:=hB.L3;have hs:(s++q).length<=100000:=by rw[Aar];omega
  obtain⟨p',f',c',w',r',n',g',a',y,e',h1,h2,h3⟩:=hB.Apa ho F0 q F0 hs (Nat.zero_le _);refine⟨e',⟨s++q,X++y,p',f',c',w',r',n',g',a',false,e'⟩,by rw[Aev];simp only;rw[h2];rfl, .live Axu h3,⟨y,rfl⟩,λt ht=>?_⟩;obtain⟨p2,f2,c2,w2,r2,n2,g2,a2,y2,e2,k1,k2,k3⟩:=hB.Apa ho F0 q F0 hs ht;rw[h2]at k2;simp only[Aaq,Aea,true_and,List.append_cancel_left_eq]at k2;obtain⟨rfl,rfl,rfl,rfl,rfl,rfl,rfl,rfl,rfl,rfl,_⟩:=k2;exact k1
 |stop hx hk=>
  rename_i s X u v k;refine⟨k,⟨s++q,X,[],0,0,0,0,0,[],0,u,v⟩,?_, .stop hx hk,⟨[],(Aqy _).symm⟩,λt ht=>?_⟩
  ·rw[Aev];simp only;rw[(eX ho hx hk).2.1 q];rfl
  ·exact(eX ho Axx hk).2.1 q
theorem Aoq(ho:o.length<=64){U:Ud}(h:OkU o L U):
  ∃(e:Int) (U':Ud),Amk o U=some (e,U')/\OkU o L U'/\U'.X=U.X/\
   ∀t,t<=U.X.length->Hl o U.p U.f U.c U.w U.r U.n U.g U.a (U.X.drop t) U.u U.v=some (o,U'.p,U'.f,U'.c,U'.w,U'.r,U'.n,U'.g,U'.a,U'.X.drop t,U'.u,U'.v,e):=by
 cases h with
 |live hl hB=>
  rename_i s X p f c w r n g a e;have hsz:=hB.L3;obtain⟨u,v,k,h1,h2⟩:=hB.Al9 ho F0;have h0:=h1 0;rw[Awv]at h0;refine⟨k,⟨s,X,[],0,0,0,0,0,[],0,u,v⟩,by rw[Amk];simp only;rw[h0];rfl,?_,rfl,λt _=>h1 t⟩;rcases h2 with⟨k1,k2,k3,k4,_⟩|⟨k1,k2,_⟩
  ·exact .stop (k:=k) hsz.2.2 (.inl ⟨k1,k2,k3,k4⟩)
  ·exact .stop (k:=36) hsz.2.2 (.inr ⟨k1,k2,rfl⟩)
 |stop hx hk=>
  rename_i s X u v k;refine⟨k,⟨s,X,[],0,0,0,0,0,[],0,u,v⟩,?_, .stop hx hk,rfl,λt ht=>?_⟩
  ·rw[Amk];simp only;rw[(eX ho hx hk).2.2];rfl
  ·exact(eX ho Axx hk).2.2
theorem OkU.szs{U:Ud}(h:OkU o L U):U.p.length<=12100/\U.g.length<=1000/\U.X.length<=12000:=by
 cases h with
 |live hl hB=>have:=hB.L3;exact⟨by simp only;omega,this.2.1,this.2.2⟩
 |stop hx hk=>exact⟨Aw7,Aw7,hx⟩
theorem Afr(ho:o.length<=64){U:Ud}(h:OkU o L U)(t:Nat)(m:Nat):
  Tp o U.p U.f U.c U.w U.r U.n U.g U.a (U.X.drop t) U.u U.v (m:Int)=some (o,U.p,U.f,U.c,U.w,U.r,U.n,U.g,U.a,(U.X.drop t).drop (min m (U.X.drop t).length),U.u,U.v,(U.X.drop t).take (min m (U.X.drop t).length),0):=by
 have hs:=h.szs;refine Ais ?_ F0 F0 Axj m;cases h with
 |live hl hB=>exact hB.xE ho (by have:=hs.1;simp only at this;omega) t
 |stop hx hk=>exact(eX ho Axx hk).1
def lq(o:LB)(st:tC)(inp:LB)(U:Ud):Option (Int×Ud×LB):=
 if st.1=1 then(Aev o U (inp.take (min st.2.1.toNat inp.length))).bind λz=>some (z.1,z.2,inp.drop (min st.2.1.toNat inp.length))
 else if st.1=2 then some (0,U,inp)
 else(Amk o U).bind λz=>some (z.1,z.2,inp)
def J5(o:LB):List tC->LB->Ud->Option (LI×Ud×LB)
 |[],inp,U=>some ([],U,inp)
 |st::l,inp,U=>(lq o st inp U).bind λz=>(J5 o l z.2.2 z.2.1).bind λy=>some (z.1::y.1,y.2)
def VS(st:tC):Prop:=(st.1=1\/st.1=2\/st.1=3)/\0<=st.2.1/\st.2.1<=100000
def SR(st:tC)(e:Int)(d:Sad):Prop:=d.1=e/\ (st.1=2->e=0/\ (d.2.1.length:Int)<=st.2.1)/\ (st.1≠2->d.2.1=[])
inductive SRs:List tC->LI->List Sad->Prop
 |nil:SRs [] [] []
 |cons {st e d l es ds}:SR st e d->SRs l es ds->SRs (st::l) (e::es) (d::ds)
def outs(l:List Sad):LB:=(l.map (·.2.1)).flatten
theorem nZ{o:LB}(ho:o.length<=64){b:List tC}(hb:b.length<=200)(hv:∀st∈b,VS st):∀(k i t q:Nat) (U:Ud) (inp:LB) (aa:List Sad),i+k=b.length->k<q->inp.length<=12100->OkU o inp.length U->t<=U.X.length->aa.length<=i->
  ∃(es:LI) (U':Ud) (inp':LB) (ds:List Sad) (t':Nat),J5 o (b.drop i) inp U=some (es,U',inp')/\OkU o inp'.length U'/\t'<=U'.X.length/\SRs (b.drop i) es ds/\U.X.take t++outs ds=U'.X.take t'/\
   Fl b q (i:Int) o U.f U.c U.w U.r U.n U.a (U.X.drop t) U.u U.v inp aa U.p U.g=some (o,U'.p,U'.f,U'.c,U'.w,U'.r,U'.n,U'.g,U'.a,U'.X.drop t',U'.u,U'.v,aa++ds,0)
 |k,i,t,0,U,inp,aa,_,hq,_,_,_,_=>absurd hq (Nat.not_lt_zero _)
 |0,i,t,q+1,U,inp,aa,hi,hq,hin,hU,ht,haa=>by
  refine⟨[],U,inp,[],t,by rw[List.drop_eq_nil_of_le F0];rfl,hU,ht,by rw[List.drop_eq_nil_of_le F0];exact .nil,by simp[outs],?_⟩;rw[Fl,Pm,Aam F2,DB,UI,TA,UB,Aqy]
 |k+1,i,t,q+1,U,inp,aa,hi,hq,hin,hU,ht,haa=>by
  have hlt:i<b.length:=F0
  obtain⟨hop,hn0,hn1⟩:=hv b[i] (Ar3 hlt);have hdrop:b.drop i=b[i]::b.drop (i+1):=(List.getElem_cons_drop hlt).symm;obtain⟨m,hm⟩:∃m:Nat,b[i].2.1=m:=⟨b[i].2.1.toNat,F0⟩;have hgi:Ae (i:Int) 1=((i+1:Nat):Int):=by rw[show(1:Int)=((1:Nat):Int)from rfl,Ak];omega
  rw[Fl,Pm,Aao F2,Cm hlt,Aa];rcases hop with h1|h1|h1
  ·
   have hg1:geq b[i].1 1=true:=by rw[h1];rfl
   have hmin:Ee b[i].2.1 (Ac inp)=((min m inp.length:Nat):Int):=by rw[hm,MC,Ac];omega
   obtain⟨e,U1,f1,f2,⟨y,f3⟩,f4⟩:=Akp ho hU (inp.take (min m inp.length)) Axn;have hl:(inp.take (min m inp.length)).length=min m inp.length:=by rw[Ajz];omega
   rw[hl]at f2;have hl2:(inp.drop (min m inp.length)).length=inp.length-min m inp.length:=Aiq;rw[<-hl2]at f2;obtain⟨es,U2,Ahk,ds,t2,r1,r2,r3,r4,r5,r6⟩:=nZ ho hb hv k (i+1) t q U1 (inp.drop (min m inp.length)) (aa++[(e,[],())]) F0 F0 F0 f2 (by rw[f3,Aar];omega) Ax0;refine⟨e::es,U2,Ahk,(e,[],())::ds,t2,?_,r2,r3,?_,?_,?_⟩
   ·rw[hdrop,J5,lq,Aao h1,hm,Aly,f1,Aa,Aa];simp only;rw[r1,Aa]
   ·rw[hdrop];exact .cons ⟨rfl,λh=>by rw[h1]at h;exact absurd h Aw2,λ_=>rfl⟩ r4
   ·rw[<-r5,f3,Av3 ht];simp[outs]
   ·rw[Aao hg1,hmin,Di,Aly,Aa,f4 t ht,Aa];simp only;rw[GD,Ve,hmin,Dm,Aa,Cu Aw3,Aa,Fq,Vg,hgi,Aly,r6];simp
  ·
   have hg1:¬geq b[i].1 1=true:=by rw[h1];decide
   have hg2:geq b[i].1 2=true:=by rw[h1];rfl
   have hd:=Afr ho hU t m;have hXl:(U.X.drop t).length=U.X.length-t:=Aiq;obtain⟨es,U2,Ahk,ds,t2,r1,r2,r3,r4,r5,r6⟩:=nZ ho hb hv k (i+1) (t+min m (U.X.length-t)) q U inp (aa++[(0,(U.X.drop t).take (min m (U.X.drop t).length),())]) F0 F0 hin hU F0 Ax0;refine⟨0::es,U2,Ahk,(0,(U.X.drop t).take (min m (U.X.drop t).length),())::ds,t2,?_,r2,r3,?_,?_,?_⟩
   ·rw[hdrop,J5,lq,Aam (by rw[h1];decide),Aao h1,Aa];simp only;rw[r1,Aa]
   ·rw[hdrop];exact .cons ⟨rfl,λ_=>⟨rfl,by simp only[Ajz];rw[hm];omega⟩,λh=>absurd h1 h⟩ r4
   ·rw[<-r5,hXl,List.take_add];simp[outs]
   ·rw[Aam hg1,Aao hg2,hm,hd,Aa];simp only;rw[CX,UX,Cu Aw3,Aa,Fq,Vg,hgi];rw[hXl,List.drop_drop]at*
    rw[r6];simp
  ·
   have hg1:¬geq b[i].1 1=true:=by rw[h1];decide
   have hg2:¬geq b[i].1 2=true:=by rw[h1];decide
   have hg3:geq b[i].1 3=true:=by rw[h1];rfl
   obtain⟨e,U1,f1,f2,f3,f4⟩:=Aoq ho hU;obtain⟨es,U2,Ahk,ds,t2,r1,r2,r3,r4,r5,r6⟩:=nZ ho hb hv k (i+1) t q U1 inp (aa++[(e,[],())]) F0 F0 hin f2 (by rw[f3];exact ht) Ax0;refine⟨e::es,U2,Ahk,(e,[],())::ds,t2,?_,r2,r3,?_,?_,?_⟩
   ·rw[hdrop,J5,lq,Aam (by rw[h1];decide),Aam (by rw[h1];decide),f1,Aa,Aa];simp only;rw[r1,Aa]
   ·rw[hdrop];exact .cons ⟨rfl,λh=>by rw[h1]at h;exact absurd h Aw2,λ_=>rfl⟩ r4
   ·rw[<-r5,f3];simp[outs]
   ·rw[Aam hg1,Aam hg2,Aao hg3,f4 t ht,Aa];simp only;rw[DQ,UO,Cu Aw3,Aa,Fq,Vg,hgi,r6];simp
def VS3(st:tC):Prop:=VS st/\ (st.1=3->st.2.1=0)
theorem Arm(h1:Ck a 1=false)(h2:Du a 3=false):a=1\/a=2\/a=3:=by
 have e1:¬((a.toNat:Int)<1):=of_decide_eq_false (show decide ((a.toNat:Int)<1)=false from h1);have e2:¬((a.toNat:Int)>3):=of_decide_eq_false (show decide ((a.toNat:Int)>3)=false from h2);have:a.toNat=1\/a.toNat=2\/a.toNat=3:=F0
 rcases this with h|h|h
 ·exact .inl (UInt8.toNat_inj.1 h)
 ·exact .inr (.inl (UInt8.toNat_inj.1 h))
 ·exact .inr (.inr (UInt8.toNat_inj.1 h))
theorem Adn(l:List tC):∀(q i:Nat),Ef l q (i:Int)=some 0->l.length<=200->∀j (hj:j<l.length),i<=j->VS3 l[j]
 |0,i,h,_,_,_,_=>by cases h
 |q+1,i,h,hl,j,hj,hij=>by
  have hlt:i<l.length:=F0
  rw[Ef,Jq,Aao F2,Cm hlt,Aa]at h;split at h
  ·cases h
  ·rename_i h1;split at h
   ·cases h
   ·rename_i h2;by_cases he:j=i
    ·subst he;simp only[Ars,not_or,Bool.not_eq_true,Af,As,Ar4]at h1;obtain⟨⟨⟨k1,k2⟩,k3⟩,k4⟩:=h1;refine⟨⟨Arm k1 k2,F0,F0⟩,λh3=>?_⟩;simp only[Aap,not_and,Am,Av7,ne_eq,Decidable.not_not]at h2;exact h2 (by rw[h3];rfl)
    ·rw[show Ae (i:Int) 1=((i+1:Nat):Int) by rw[show(1:Int)=((1:Nat):Int)from rfl,Ak];omega]at h;exact Adn l q (i+1) h hl j hj F0
theorem Arl{l:List tC}(h:Ev l=some true):l.length<=60/\∀st∈l,VS3 st:=by
 rw[Ev,Pe,Aa]at h;split at h
 ·rename_i hm;obtain⟨e,he,h⟩:=Tz h;have he0:e=0:=by
   simp only[Aaq,Ba,Ar7]at h;exact h
  subst he0;simp only[As,RN,Ac,Aph,Avs,Bool.and_eq_false_iff,Ar4]at hm;rw[Td,Oe]at he;split at he
  ·cases he
  ·rename_i h2;rw[As,Ac]at h2;simp only[Acb]at h2;refine⟨F0,λst hst=>?_⟩;obtain⟨j,hj,rfl⟩:=List.mem_iff_getElem.1 hst;exact Adn l Aq 0 he F0 j hj (Nat.zero_le _)
 ·cases h
theorem Ajn(l:List tC)(hl:l.length<=100000):∃k,Ev l=some k:=by
 have loop:∀(j i q:Nat),i+j=l.length->j<q->∃e,Ef l q (i:Int)=some e:=by
  intro j
  induction j with
  |zero=>
   intro i q hi hq;obtain⟨q,rfl⟩:∃q',q=q'+1:=⟨q-1,F0⟩;rw[Ef,Jq,Aam F2];exact⟨_,rfl⟩
  |succ j ih=>
   intro i q hi hq;obtain⟨q,rfl⟩:∃q',q=q'+1:=⟨q-1,F0⟩;have hlt:i<l.length:=F0
   rw[Ef,Jq,Aao F2,Cm hlt,Aa];split
   ·exact⟨_,rfl⟩
   ·split
    ·exact⟨_,rfl⟩
    ·rw[show Ae (i:Int) 1=((i+1:Nat):Int) by rw[show(1:Int)=((1:Nat):Int)from rfl,Ak];omega];exact ih (i+1) q F0 F0
 rw[Ev,Pe,Aa];split
 ·rw[Td,Oe];split
  ·exact⟨_,rfl⟩
  ·obtain⟨e,he⟩:=loop l.length 0 Aq F0 Aw5;have he':HI l 0=some e:=he;rw[he',Aa];exact⟨_,rfl⟩
 ·exact⟨_,rfl⟩
theorem Aot(l:List tC):∃k,Ev l=some k:=by
 by_cases hl:l.length<=100000
 ·exact Ajn l hl
 ·rw[Ev,Pe,Aa,Aam (by simp[As,RN,Ac];omega)];exact⟨_,rfl⟩
theorem Alc{st:tC}(h:VS3 st):ES st.1 st.2.1=some false:=by
 obtain⟨⟨h1,h2,h3⟩,h4⟩:=h;rw[ES,aH,bH,bW];have hr:(Ks st.2.1 0&&pB st.2.1 100000)=true:=by rw[El,RN];simp;omega
 rcases h1 with h1|h1|h1
 ·rw[h1,Aao Aw2,Zv,Aao Aw2,hr,Aa];rfl
 ·rw[h1,Aam Aw2,Zv,Aao Aw2,hr,Aa];rfl
 ·rw[h1,Aam Aw2,Zv,Aam Aw2,Aao Aw2,h4 h1,Aa];rfl
theorem Aaf{l:List tC}(hl:l.length<=200)(hv:∀st∈l,VS3 st):EM l=some 0:=by
 have loop:∀(j i q:Nat),i+j=l.length->j<q->Mx l q (i:Int)=some 0:=by
  intro j
  induction j with
  |zero=>
   intro i q hi hq;obtain⟨q,rfl⟩:∃q',q=q'+1:=⟨q-1,F0⟩;rw[Mx,Xj,Aam F2];rfl
  |succ j ih=>
   intro i q hi hq;obtain⟨q,rfl⟩:∃q',q=q'+1:=⟨q-1,F0⟩;have hlt:i<l.length:=F0
   rw[Mx,Xj,Aao F2,Cm hlt,Aa,Alc (hv _ (Ar3 hlt)),Aa,HS,XT,Aam Aw2,YQ,WY,
    show Ae (i:Int) 1=((i+1:Nat):Int) by rw[show(1:Int)=((1:Nat):Int)from rfl,Ak];omega]
   exact ih (i+1) q F0 F0
 rw[EM,MP,Aam Aw6];exact loop l.length 0 Aq F0 Aw5
def U0:Ud:=⟨[],[],[],0,0,0,0,0,[],0,false,0⟩
theorem Ati(ho:o.length<=64)(hL:L<=12100):OkU o L U0:= .live (by simpa using hL) (Bh.new ho)
theorem Aef{inp:LB}{l:List tC}(ho:o.length<=64)(hin:inp.length<=12100)(hl:l.length<=200)(hv:∀st∈l,VS3 st):
  ∃(es:LI) (U:Ud) (inp':LB) (ds:List Sad) (t:Nat),J5 o l inp U0=some (es,U,inp')/\OkU o inp'.length U/\t<=U.X.length/\SRs l es ds/\outs ds=U.X.take t/\
   Zg o inp l=some (o,U.p,U.f,U.c,U.w,U.r,U.n,U.g,U.a,U.X.drop t,U.u,U.v,ds,0):=by
 obtain⟨es,U,inp',ds,t,h1,h2,h3,h4,h5,h6⟩:=nZ ho hl (λst h=>(hv st h).1) l.length 0 0 Aq U0 inp [] F0 Aw5 hin (Ati ho hin) (Aox _) Aw7;rw[Awv]at h1 h4;refine⟨es,U,inp',ds,t,h1,h2,h3,h4,by simpa [U0]using h5,?_⟩;rw[Zg,HY,Aaf hl hv,Aa,Aam Aw2,fY,Aam Aw6,Aa];simp only;rw[Aam Aw2];exact h6
theorem SRs.len{l:List tC}{ds:List Sad}(h:SRs l es ds):es.length=l.length/\ds.length=l.length:=by
 induction h with
 |nil=>exact⟨rfl,rfl⟩
 |cons _ _ ih=>exact⟨by simp[ih.1],by simp[ih.2]⟩
def SV(l:List tC):List tC:=l.filter λst=>st.1 !=2
def esL:List tC->LI->LI
 |st::l,e::es=>if st.1=2 then esL l es else e::esL l es
 |_,_=>[]
theorem om{o:LB}:∀{l:List tC} {inp:LB} {U:Ud} {es:LI} {U':Ud} {inp':LB},J5 o l inp U=some (es,U',inp')->J5 o (SV l) inp U=some (esL l es,U',inp')
 |[],inp,U,es,U',inp',h=>by
  cases h;rfl
 |st::l,inp,U,es,U',inp',h=>by
  rw[J5]at h;obtain⟨⟨e,U1,i1⟩,h1,h⟩:=Tz h;obtain⟨⟨es1,U2,i2⟩,h2,h⟩:=Tz h;simp only[Aaq,Aea]at h;obtain⟨rfl,rfl,rfl⟩:=h;have ih:=om h2;by_cases hd:st.1=2
  ·rw[lq,Aam (by rw[hd];decide),Aao hd]at h1;cases h1;simp only at ih;rw[show SV (st::l)=SV l by simp[SV,hd],ih,esL,Aao hd]
  ·rw[show SV (st::l)=st::SV l by simp[SV,hd],J5,h1,Aa];simp only at ih⊢;rw[ih,Aa,esL,Aam hd]
theorem SRs.at{l:List tC}{es:LI}{ds:List Sad}(h:SRs l es ds):∀(i:Nat) (h1:i<ds.length) (h2:i<es.length),ds[i].1=es[i]:=by
 induction h with
 |nil=>intro i h1;simp at h1
 |cons hd _ ih=>
  intro i h1 h2;cases i with
  |zero=>exact hd.1
  |succ i=>exact ih i (by simpa using h1) (by simpa using h2)
theorem R2{α:Type}{l:List α}{i:Nat}{x:α}{r:List α}(h:l.drop i=x::r):∃hi:i<l.length,l[i]=x/\l.drop (i+1)=r:=by
 have hi:i<l.length:=by
  apply Nat.lt_of_not_le;intro hn;rw[List.drop_eq_nil_of_le hn]at h;cases h
 rw[<-List.getElem_cons_drop hi]at h;exact⟨hi,(List.cons.inj h).1,(List.cons.inj h).2⟩
theorem C3(i:Nat)(h:i<=100000):Ae (i:Int) 1=((i+1:Nat):Int):=by rw[show(1:Int)=((1:Nat):Int)from rfl,Ak];omega
theorem Apk:geq a 2=(a==2):=by rw[VJ]
theorem Aqr(k m:LB)(h:List tC)(g:List Sad)(hh:h.length<=200){suf:List tC}{ds:List Sad}(hs:SRs suf es ds):∀(i q:Nat) (n:List tC) (b:LI),h.drop i=suf->g.drop i=ds->i<=h.length->suf.length<q->n.length<=i->b.length<=i->
  Da k m h true g q (i:Int) n b=Le k m true (n++SV suf) (b++esL suf es):=by
 induction hs with
 |nil=>
  intro i q n b h1 h2 hi hq hn hb;obtain⟨q,rfl⟩:∃q',q=q'+1:=⟨q-1,F0⟩;have:h.length<=i:=List.drop_eq_nil_iff.1 h1;rw[Da,Ha,Aam F2];simp[SV,esL]
 | @cons st e d l es ds hd hr ih=>
  intro i q n b h1 h2 hi hq hn hb;obtain⟨q,rfl⟩:∃q',q=q'+1:=⟨q-1,F0⟩;obtain⟨hi1,e1,e2⟩:=R2 h1;obtain⟨hi2,e3,e4⟩:=R2 h2;rw[Da,Ha,Aao F2,Cm hi1,Aa,e1];by_cases h3:st.1=2
  ·obtain⟨k1,k2⟩:=hd.2.1 h3;rw[Aao (by rw[Apk,h3];rfl),Cm hi2,Aa,Aa,e3,Aam (by rw[hd.1,k1];decide),Aa,Aa,Aa,Aam Aw6,C3 i F0];rw[ih (i+1) q n b e2 e4 F0 (by simp at hq;omega) F0 F0];simp[SV,esL,h3]
  ·have k1:=hd.2.2 h3;rw[Aam (by rw[Apk];simpa using h3),Kv,Hc,Cm hi2,Aa,Aa,e3,k1,Aam Aw2,Cm hi1,Aa,Aa,e1,Cu Aw3,Aa,Aa,Cu Aw3,Aa,C3 i F0];rw[ih (i+1) q _ _ e2 e4 F0 (by simp at hq;omega) Aw3 Aw3];simp[SV,esL,h3,hd.1]
theorem Ak9(b:LI)(o:List Sad)(hl:o.length=b.length)(hb:b.length<=200)(h:∀(i:Nat) (h1:i<o.length) (h2:i<b.length),o[i].1=b[i]):∀(j i q:Nat),i+j=b.length->j<q->Ds true b o q (i:Int)=some true
 |j,i,0,_,hq=>absurd hq (Nat.not_lt_zero _)
 |0,i,q+1,hi,hq=>by
  rw[Ds,Hb,Aam F2];rfl
 |j+1,i,q+1,hi,hq=>by
  have h1:i<b.length:=F0
  have h2:i<o.length:=F0
  rw[Ds,Hb,Aao F2,Cm h2,Aa,Cm h1,Aa,Aa,Aa,Aam (by rw[h i h2 h1,Am];simp),C3 i F0];exact Ak9 b o hl hb h j (i+1) q F0 F0
theorem Ahs{l:List tC}(hv:∀st∈l,VS3 st):∀st∈SV l,VS3 st:=λst h=>hv st (List.mem_filter.1 h).1
theorem P3(l:List tC):(SV l).length<=l.length:=List.length_filter_le _ _
theorem Ab3(hal:Sr=some true)(k m:LB)(h:List tC):Jo k m h=some true:=by
 have main:k.length<=64->m.length<=12100->Ev h=some true->Kz k m h true=some true:=by
  intro hk hm hf;obtain⟨hl,hv⟩:=Arl hf;obtain⟨es,U,inp',ds,t,r1,r2,r3,r4,r5,r6⟩:=Aef hk hm F0 hv;obtain⟨es2,U2,Ahk,ds2,t2,y1,y2,y3,y4,y5,y6⟩:=Aef hk hm (l:=SV h) (by have:=P3 h;omega) (Ahs hv);rw[om r1]at y1;simp only[Aaq,Aea]at y1;obtain⟨rfl, -, -⟩:=y1;have hlen:=r4.len;have YT:=y4.len;rw[Kz,La,r6,Aa];simp only;rw[Aam (by simp[Am,Ac,hlen.2]),Rl];have:=Aqr k m h ds F0 r4 0 Aq [] [] rfl rfl (Nat.zero_le _) Aw5 Aw7 Aw7;rw[Aqf,Aqf]at this;refine Ave this ?_;rw[Le,Kw,y6,Aa];simp only;rw[Aam (by simp[Am,Ac,YT.1,YT.2])];have hll:=P3 h;exact Ak9 _ ds2 F0 F0 (λi h1 h2=>y4.at i h1 h2) (esL h es).length 0 Aq F0 Aw5
 obtain⟨kf,hkf⟩:=Aot h;rw[Jo,Lw,hal,Aa];by_cases ho:k.length<=64
 ·rw[Aam Aw6,FG,Aa];by_cases hc:(((Du (Ac m) 5000)&&(Ck (Ac m) 12000))||(Du (Ac m) 12100))=true
  ·rw[Aao hc,Aao Aw2];try rfl
  ·rw[Aam hc,hkf,Aa];simp only[Ars,not_or,As,Ac,Acb]at hc;cases kf with
   |false=>rfl
   |true=>rw[Aam Aw2];exact main ho F0 hkf
 ·rw[Aao Aw6,Aao Aw2];rfl
theorem Amv:Sr=some true:=by kernel_rfl
theorem law_ScriptDrains(k m:LB)(h:List tC):Jo k m h=some true:=Ab3 Amv k m h
end Go.Pl
