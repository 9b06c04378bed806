/- A part of a proof (see the text that ends in Proof). No conditions. -/
import Derived.Test.YtheamkpclkijmaaGreatDoorMbWA
set_option linter.unusedVariables false
set_option linter.unusedSimpArgs false
namespace Go.Pl
open Go Go.Lv
def OU(bk:LB->Int->Int->Int->Int->Int->Int->LI->LB->Ap)(o:LB)(u:Bool)(v:Int):LB->Int->Int->Int->Int->Int->Int->LI->LB->Ap:=
 Hj (Mg bk o u v) (Pw bk o u v) (Jt bk o u v) (Wp bk o u v) (Mh bk o u v) (Me bk o u v) (Xi bk o u v) (By bk o u v) (Xc bk o u v) o u v
structure SzD (p:LB) (g:LI) (a:Int) (x:LB):Prop where
 hp:p.length<=100000
 hg:g.length<=1000
 hx:x.length+12000*(g.length-a.toNat)<=13000000
def muD(f:Int)(g:LI)(a:Int):Nat:=if f=0 then 1003 else if g=[]then 1002 else g.length-a.toNat+1
section
variable {bk:LB->Int->Int->Int->Int->Int->Int->LI->LB->Ap} {o p:LB} {f c w r n:Int} {g:LI} {a:Int} {x:LB} {u:Bool} {v:Int}
theorem Akh(hp:p.length<=100000)(hg:g.length<=1000)(hx:x.length<=13000000):Dk o p f c w r n g a x u v=some (o,p,f,c,w,r,n,g,a,x,u,v):=by
 rw[Dk,Kn,Cy F6,Aa,Aa,Kn,Cy F6,Aa,Aa,Fy,Cy F6,Aa,Aa];rfl
theorem Auo(h:SzD p g a x)(e:Int):By bk o u v p f c w r n a true e g x=some (o,p,f,c,w,r,n,g,a,x,u,v,0):=by
 rw[By,GG,Aa8 rfl,Akh h.hp h.hg (by have:=h.hx;omega),Aa]
theorem Atm{e:Int}(h:e≠0):By bk o u v p f c w r n a false e g x=some (o,[],0,0,0,0,0,[],0,x,false,e,e):=by
 rw[By,GG,Aa2 F4,Aa8 (by rw[Ao];simpa using h)];rfl
inductive StepR (bk:LB->Int->Int->Int->Int->Int->Int->LI->LB->Ap) (o p:LB) (f c w r n:Int) (g:LI) (a:Int) (x:LB) (u:Bool) (v:Int):Prop
 |wait:OU bk o u v p f c w r n a g x=some (o,p,f,c,w,r,n,g,a,x,u,v,0)->Ag o p f c w r n g a x u v=some (o,p,f,c,w,r,n,g,a,x,u,v, -1)->StepR bk o p f c w r n g a x u v
 |err (e:Int) {t1 t2:LB} {t3 t4 t5 t6 t7:Int} {t8:LI} {t9:Int} {t10:LB} {t11:Bool} {t12:Int}:0<e->OU bk o u v p f c w r n a g x=some (o,[],0,0,0,0,0,[],0,x,false,e,e)->
   Ag o p f c w r n g a x u v=some (t1,t2,t3,t4,t5,t6,t7,t8,t9,t10,t11,t12,e)->StepR bk o p f c w r n g a x u v
 |next (p':LB) (f' c' w' r' n':Int) (g':LI) (a':Int) (x':LB):OU bk o u v p f c w r n a g x=bk p' f' c' w' r' n' a' g' x'->Ag o p f c w r n g a x u v=some (o,p',f',c',w',r',n',g',a',x',u,v,0)->
   FitD o f' c' w' r' n' g' a' x'->SzD p' g' a' x'->p'.length<=p.length->muD f' g' a'<muD f g a->StepR bk o p f c w r n g a x u v
theorem f62{d:Bool}{e:Int}:Mg bk o u v a g x d e p f c w r n=By bk o u v p f c w r n a d e g x:=rfl
theorem f75{d:Bool}{e:Int}:Jt bk o u v f c w r n a x d e p g=By bk o u v p f c w r n a d e g x:=rfl
theorem f78{d:Bool}{e:Int}:Me bk o u v f c w r n g d e p a x=By bk o u v p f c w r n a d e g x:=rfl
theorem mkW(hZ:SzD p g a x)(hF:OU bk o u v p f c w r n a g x=By bk o u v p f c w r n a true 0 g x)(hT:Ag o p f c w r n g a x u v=some (o,p,f,c,w,r,n,g,a,x,u,v, -1)):StepR bk o p f c w r n g a x u v:=
 .wait (hF.trans (Auo hZ 0)) hT
theorem mkE{e:Int}{p2:LB}{f2 c2 w2 r2 n2 a2:Int}{g2:LI}{t1 t2:LB}{t3 t4 t5 t6 t7:Int}{t8:LI}{t9:Int}{t10:LB}{t11:Bool}{t12:Int}(he:0<e)(hF:OU bk o u v p f c w r n a g x=By bk o u v p2 f2 c2 w2 r2 n2 a2 false e g2 x)
  (hT:Ag o p f c w r n g a x u v=some (t1,t2,t3,t4,t5,t6,t7,t8,t9,t10,t11,t12,e)):StepR bk o p f c w r n g a x u v:= .err e he (hF.trans (Atm F0)) hT
theorem HdI.fnz{F C W R N:Nat}(h:HdI f c w r n F C W R N):f≠0:=by
 have:=h.num;rw[h.ef];omega
theorem Aiu(hp:p.length<=100000):StepR bk o p 0 0 0 0 0 [] 0 [] u v:=by
 have hZ:SzD p [] 0 []:=⟨hp,Axz,Axz⟩;have hT:Ag o p 0 0 0 0 0 [] 0 [] u v=Ag o p 0 0 0 0 0 [] 0 [] u v:=rfl
 conv at hT=>rhs;rw[Ag,Bj,Aa8 F4,Zo p hp,Aa,W7]
 have hF:OU bk o u v p 0 0 0 0 0 0 [] []=OU bk o u v p 0 0 0 0 0 0 [] []:=rfl
 conv at hF=>rhs;rw[OU,Hj,Aa8 F4,OH p F0,Aa]
 have hfn:=E5 p;have hrn:=qx (Td p);have hok:=NP (b:=p);simp only at hT hF;by_cases h1:(Cv p).2=24
 ·rw[Aa8 h1]at hT;simp only at hT;rw[Aa8 F4]at hT;rw[Aa8 (by rw[Ay];simpa using h1)]at hF;exact mkW hZ hF hT
 rw[Aa2 h1]at hT;rw[Aa2 (by rw[Ay];simpa using h1)]at hF;by_cases h2:(Cv p).2≠0
 ·rw[Aa8 h2]at hT;simp only at hT;rw[Aa8 (by rw[Ao];simpa using h2)]at hT;rw[Aa8 (by rw[Ao];simpa using h2),Ah,Aa]at hF;exact mkE F0 hF hT
 have h0:(Cv p).2=0:=by simpa using h2
 obtain⟨k1,k2,k3⟩:=hok h0;have hl:(Td p).length=p.length-(Cv p).1.toNat:=by rw[Td,Aio]
 rw[Aa2 h2]at hT;rw[Aa2 (by rw[Ao,h0];simp),Dd,Aa,Aa,show p.drop (Cv p).1.toNat=Td p from rfl,Ajo,Aa]at hF;by_cases h3:(Qq (Td p) zW||Qq (Td p) A4)=true
 ·rw[Aa8 h3]at hT hF;simp only at hT;rw[Aa8 F4]at hT;exact mkW hZ hF hT
 rw[Aa2 h3]at hT hF;rw[pI _ F0,Aa]at hF;by_cases h5:(Ek (Td p)).2.2.2.2.2=24
 ·rw[Aa8 h5]at hT;simp only at hT;rw[Aa8 F4]at hT;rw[Aa8 (by rw[Ay];simpa using h5)]at hF;exact mkW hZ hF hT
 rw[Aa2 h5]at hT;rw[Aa2 (by rw[Ay];simpa using h5)]at hF;simp only at hT;by_cases h6:(Ek (Td p)).2.2.2.2.2≠0
 ·rw[Aa8 (by rw[Ao];simpa using h6)]at hT hF;rw[Ah,Aa]at hF;exact mkE (by have:=hrn;generalize(Ek (Td p)).2.2.2.2.2=z at *;omega) (hF.trans f62) hT
 have h7:(Ek (Td p)).2.2.2.2.2=0:=by simpa using h6
 obtain⟨r1,h22,r3,r4⟩:=qd h7;rw[Aa2 (by rw[Ao,h7];simp),Dd,Aa,Fs,Fq,Dp]at hT;rw[Aa2 (by rw[Ao,h7];simp),Aj,Dd,Aa,Pw,VJ,Mr]at hF;simp only at hT hF;by_cases h8:((o==([]:LB)) !=geq (Ek (Td p)).1 1)=true
 ·rw[Aa8 h8]at hT hF;rw[Aa]at hT hF;rw[Ah,Aa]at hF;simp only at hF;exact mkE F4 (hF.trans f62) hT
 ·rw[Aa2 h8]at hT hF;rw[Aa]at hT hF;rw[Ah,Aa]at hF;have hd:HdI (Ek (Td p)).1 (Ek (Td p)).2.1 (Ek (Td p)).2.2.1 (Ek (Td p)).2.2.2.1 (Ek (Td p)).2.2.2.2.1 (f0 (Td p)) (f1 (Td p)) (f2 (Td p)) (f3 (Td p)) (f4 (Td p)):=by
   constructor<;>first|(rw[r1])|assumption
  refine .next _ _ _ _ _ _ [] 0 [] (by exact hF) hT (.head _ _ _ _ _ hd ?_ rfl rfl rfl) ⟨by rw[Aio];omega,Axz,Axz⟩ Ax9 ?_
  ·have e:geq (Ek (Td p)).1 1=decide (f0 (Td p)=1):=by rw[hd.ef,Ay,Alp];simp;omega
   rw[<-e];simpa using h8
  ·rw[muD,muD,Aa2 hd.fnz,Aa8 rfl,Aa8 rfl];omega
section
variable {F C W R N:Nat} (hd:HdI f c w r n F C W R N)
include hd
theorem Ad2(hp:p.length<=100000)(hpw:(o==([]:LB))=decide (F=1))(A:Nat)(hA:A<=p.length)
  (hT:Ag o p f c w r n [] 0 [] u v=(Dl p f c w r n (A:Int)).bind (λ(ag,ak,w1)=>if(Bf w1 0)then some (o,p,f,c,w,r,n,([]:LI),(0:Int),([]:LB),u,v,w1)else(Bl p ag (Ac p)).bind λal=>some (o,al,f,c,w,r,n,ak,(0:Int),([]:LB),u,v,(0:Int))))
  (hF:OU bk o u v p f c w r n 0 [] []=Mh bk o u v p f c w r n 0 [] [] (A:Int)):StepR bk o p f c w r n [] 0 [] u v:=by
 have hZ:SzD p [] 0 []:=⟨hp,Axz,Axz⟩;obtain⟨_,t2,t3⟩:=wF hd o p hp A hA 0 [] u v;have hs:=K3 (p.drop A) (Al (Aq R) N).length Ax9;have hnn:=sw (p.drop A) (Al (Aq R) N).length;have hok:=Y1 (b:=p.drop A) (n:=(Al (Aq R) N).length);rw[t2,Aa]at hT;rw[Mh,Xj,hd.nY,Aa]at hF;simp only at hF;rw[Aa2 F4,Dd,Aa,Aly,Ac,hs,Aa]at hF;generalize hz:Hz (p.drop A) (Al (Aq R) N).length=z at*
 obtain⟨z1,z2⟩:=z;simp only at*
 by_cases h1:z2=24
 ·rw[Aa8 h1]at hT;simp only at hT;rw[Aa8 F4]at hT;rw[Aa8 (by rw[Ay];simpa using h1)]at hF;exact mkW hZ hF hT
 rw[Aa2 h1]at hT;rw[Aa2 (by rw[Ay];simpa using h1)]at hF;simp only at hT;by_cases h2:z2≠0
 ·rw[Aa8 (by rw[Ao];simpa using h2)]at hT hF;rw[Ah,Aa]at hF;exact mkE F0 hF hT
 ·have h0:z2=0:=by simpa using h2
  subst h0;have h3:=t3 rfl;obtain⟨k1,k2,k3,k4,k5,k6⟩:=hok rfl;simp only[Ahf,Axw]at k1;have hl:z1.length=(Al (Aq R) N).length:=by rw[k1];exact JD _ _
  rw[<-k1]at k5 k6;rw[Aa2 F4,Dd,Aa]at hT;rw[Aa2 F4,Ac,Abm A z1.length F0 F0,Dd,Aa]at hF;have hne:z1≠ []:=by intro e;rw[e]at hl;simp at hl;omega
  refine .next _ _ _ _ _ _ z1 0 [] (by exact hF) hT (.tab _ _ _ _ _ 0 hd hpw ?_ hl rfl F0) ⟨by rw[Aio];omega,F0,by simp;omega⟩ Ax9 ?_
  ·rw[Xe,Abd,Abi,HT z1 100000 F0];exact⟨F0,k5,k6⟩
  ·rw[muD,muD,Aa2 hd.fnz,Aa2 hd.fnz,Aa8 rfl,Aa2 hne];simp;omega
theorem Agj(ho:o.length<=64)(hp:p.length<=100000)(hpw:(o==([]:LB))=decide (F=1)):StepR bk o p f c w r n [] 0 [] u v:=by
 have hZ:SzD p [] 0 []:=⟨hp,Axz,Axz⟩;have hT:Ag o p f c w r n [] 0 [] u v=Ag o p f c w r n [] 0 [] u v:=rfl
 conv at hT=>rhs;rw[Ag,Bj,Aa2 hd.ne0,Bk,As,Aa8 F4,Ew,Ig]
 have hF:OU bk o u v p f c w r n 0 [] []=OU bk o u v p f c w r n 0 [] []:=rfl
 conv at hF=>rhs;rw[OU,Hj,Aa2 hd.ne0,Aa8 F4]
 by_cases h2:geq f 2=true
 ·rw[Aa8 h2]at hT hF;by_cases h8:p.length<8
  ·rw[Aa8 F2]at hT hF;rw[Aa]at hT;simp only at hT;rw[Aa8 F4]at hT;exact mkW hZ hF hT
  ·rw[Aa2 F2]at hT hF;have h8':(p.take 8).length=8:=by rw[Alg];omega
   rw[Dc,Aa,C7 o ho,Aa]at hT;rw[Wp,GM,Dc,Aa,show(8:Int).toNat=8 from rfl,Y8 h8' ho,Aa]at hF;rw[show(8:Int).toNat=8 from rfl]at hT;simp only at hF;rw[UA,HK,Aa2 F4]at hF;by_cases he:(p.take 8==FD (AS o).toNat 8)=true
   ·rw[Aa2 (by rw[bne,he];decide)]at hT;rw[Aa2 (by rw[he];decide)]at hF;exact Ad2 hd hp hpw 8 F0 hT hF
   ·have he':(p.take 8==FD (AS o).toNat 8)=false:=by simpa using he
    rw[Aa8 (by rw[bne,he'];decide),Aa]at hT;simp only at hT;rw[Aa8 F4]at hT;rw[Aa8 (by rw[he'];decide),Ah,Aa]at hF;simp only at hF;exact mkE F4 (hF.trans f75) hT
 ·rw[Aa2 h2]at hT hF;exact Ad2 hd hp hpw 0 F0 hT hF
theorem Aky(ho:o.length<=64)(hpw:(o==([]:LB))=decide (F=1))(hg:Xe g=true)(hl:g.length=(Al (Aq R) N).length)(A:Nat)(hA:A<=g.length)(hZ:SzD p g (A:Int) x):StepR bk o p f c w r n g (A:Int) x u v:=by
 have hp:=hZ.hp;have hx:=hZ.hx;have hc:=hd.ec;subst hc;have hg':=hg;rw[Xe,Abd,Abi,HT g 100000 F0]at hg';obtain⟨⟨g1,g2⟩,g5,g6⟩:=hg';have hgn:¬(geq (Ac g) 0=true):=by rw[Ay,Ac];simp;intro e;subst e;simp at g1
 have hT:Ag o p f (C:Int) w r n g (A:Int) x u v=Ag o p f (C:Int) w r n g (A:Int) x u v:=rfl
 conv at hT=>rhs;rw[Ag,Bj,Aa2 hd.ne0,Bk,As,Aa2 hgn]
 have hF:OU bk o u v p f (C:Int) w r n (A:Int) g x=OU bk o u v p f (C:Int) w r n (A:Int) g x:=rfl
 conv at hF=>rhs;rw[OU,Hj,Aa2 hd.ne0,Aa2 hgn]
 by_cases hA2:A=g.length
 ·subst hA2;rw[Aa8 (by rw[Ay,Ac];simp)]at hT;rw[Aa2 Aym]at hF;by_cases h4:4000<p.length
  ·rw[Aa8 Axy]at hT hF;rw[Ah,Aa]at hF;exact mkE F4 hF hT
  ·rw[Aa2 Axy]at hT hF;exact mkW hZ hF hT
 ·have hlt:A<g.length:=F0
  have h5:=g5 g[A] (Ap8 hlt);have hsum:=tZ g5 g[A] (Ap8 hlt);rw[Aa2 (by rw[Ay,Ac];simp;omega),Bv,Ee,Ch hlt,Aa]at hT;rw[Aa8 F2,Ch hlt,Aa,Aa]at hF;by_cases hw:(p.length:Int)<g[A]
  ·rw[Aa8 (by rw[Af,Ac];simpa using hw)]at hT hF;rw[Aa]at hT;simp only at hT;rw[Aa8 F4]at hT;exact mkW hZ hF hT
  rw[Aa2 (by rw[Af,Ac];simpa using hw)]at hT hF;have FC:=hd.num;have hlt2:A<(Al (Aq R) N).length:=F0
  obtain⟨m,hm,m1,m2⟩:=Vj (Jz R) FC.2.2.2.2.1 (Ap8 hlt2);have hb:Ck w:=by rw[hd.ew];unfold Ck;omega
  obtain⟨xs,e,d1,d2,d3,d4⟩:=BE (bits:=w) (ch:=C) (n:=m) (t:=We o) (p.take g[A].toNat) hb (Pb o) FC.2.1.1 FC.2.1.2 m1 F0;have hnn:=E0 hb (Pb o) FC.2.1.1 FC.2.1.2 m1 F0 d2;rw[I4 o ho,Aa]at hF;simp only at hF;rw[Aa2 F4,hd.nY,Aa]at hF;simp only at hF;rw[Aa2 (by simp[Ao,Dx,Ac];omega),Xi,GL,Ch hlt2,Aa,Dc,Aa,Aa,Yq,Aa]at hF;simp only at hF;rw[hm,d1,Aa]at hF;simp only at hF;rw[UT o ho,Aa]at hT;simp only at hT;rw[Dc,Aa,Fx,Aa]at hT;simp only at hT;rw[hd.lg,Aa,Ch hlt2,Aa,Aa,hm]at hT;rw[d2,Aa]at hT;simp only at hT;rw[Eh,Eb]at hT;rw[HA,Wz]at hF;by_cases he:e≠0
  ·rw[Aa8 (by rw[Ao];simpa using he)]at hT hF;rw[Aa]at hT;simp only at hT;rw[Aa8 (by rw[Ao];simpa using he)]at hT;rw[Ah,Aa]at hF;exact mkE F0 hF hT
  ·have he0:e=0:=by simpa using he
   obtain⟨k1,k2,k3⟩:=d3 he0;have hbl:=HL w xs;have ht:((A:Int)).toNat=A:=rfl;rw[ht]at hx;rw[Aa2 (by rw[Ao,he0];simp)]at hT hF;rw[NU hb k2 k1,Aa,Aa]at hT;simp only at hT;rw[Aa2 F4,Cy F6,Aa,Arw,Cy,Aa,Aa,Dd,Aa,Aj]at hT;rw[jO hb k2 k1,Aa]at hF;simp only at hF;rw[Aa2 F4,Cy,Aa,Dd,Aa,Aj]at hF;have e1:((A:Int)+1).toNat=A+1:=rfl;refine .next _ _ _ _ _ _ _ _ _ (by exact hF) hT (.tab _ _ _ _ _ (A+1) hd hpw hg hl rfl F0) ⟨by rw[Aio];omega,hZ.hg,by rw[e1,Ac5];omega⟩ Ax9 ?_
   have hne:g≠ []:=by intro e;subst e;simp at g1
   rw[muD,muD,Aa2 hd.fnz,Aa2 hd.fnz,Aa2 hne,Aa2 hne,e1,ht];omega
end
theorem wP(hf:FitD o f c w r n g a x)(ho:o.length<=64)(hZ:SzD p g a x):StepR bk o p f c w r n g a x u v:=by
 cases hf with
 |new e1 e2 e3 e4 e5 e6 e7 e8=>subst e1 e2 e3 e4 e5 e6 e7 e8;exact Aiu hZ.hp
 |head F C W R N h hpw e6 e7 e8=>subst e6 e7 e8;exact Agj h ho hZ.hp hpw
 |tab F C W R N A h hpw ht hl ea hA=>subst ea;exact Aky h ho hpw ht hl A hA hZ
end
abbrev Avs:=LB×LB×Int×Int×Int×Int×Int×LI×Int×LB×Bool×Int×Int
theorem Ak2:∀(j:Nat) (b:LB) (a:Nat),(P5 j b a).2=0\/ (P5 j b a).2=38
 |0,_,_=> .inr rfl
 |j+1,b,a=>by
  rw[P5];split
  ·exact .inl rfl
  ·split
   ·exact .inr rfl
   ·exact Ak2 j _ _
theorem Afr(b:LB):(HW b).2=0\/ (HW b).2=38:=by
 rw[HW];split
 ·exact .inr rfl
 ·exact Ak2 _ _ _
theorem UZ{o p:LB}{f c w r n:Int}{g:LI}{a:Int}{x:LB}{u:Bool}{v:Int}(hp:p.length<=100000)(hg:g.length<=2000)(hx:x.length<=13000000):Kr o p f c w r n g a x u v=some (o,p,f,c,w,r,n,g,a,x,u,v):=by
 rw[Kr,Oe,Cy F6,Aa,Cy F6,Aa,Oh,Og,Cy F6,Aa];rfl
theorem Aft{o p:LB}{f c w r n:Int}{g:LI}{a:Int}{x:LB}{u:Bool}{v:Int}(hp:p.length<=100000)(hg:g.length<=2000)(hx:x.length<=13000000):Dk o p f c w r n g a x u v=some (o,p,f,c,w,r,n,g,a,x,u,v):=by
 rw[Dk,Kn,Cy F6,Aa,Aa,Kn,Cy F6,Aa,Aa,Fy,Cy F6,Aa,Aa];rfl
theorem xE{o p:LB}{f c w r n:Int}{g:LI}{a:Int}{x:LB}{u:Bool}{v e:Int}(hx:x.length<=13000000):Lq o p f c w r n g a x u v e=some (o,[],0,0,0,0,0,[],0,x,false,e,e):=by
 rw[Lq,Uv,Cy F6,Aa];rfl
theorem Aj2{p:LB}{f:Int}{g:LI}{a:Int}{x:LB}(h:SzD p g a x):muD f g a<1004:=by
 have:=h.hg;unfold muD;split
 ·omega
 ·split<;>omega
section
variable {o p:LB} {f c w r n:Int} {g:LI} {a:Int} {x:LB} {u:Bool} {v:Int} (hp:p.length<=20000) (hg:g.length<=2000) (hx:x.length<=13000000)
include hp hg hx
theorem lW{E:Int}(hE:Gc o p f c w r n g a x u v=some E):Pj o p f c w r n g a x u v=if E≠0 then some ([],[],0,0,0,0,0,[],0,[],false,0,E)else some (o,p,f,c,w,r,n,g,a,x,u,v,if v≠0 then v else if u=true then 36 else 0):=by
 rw[Pj,hE,Aa];by_cases h:E≠0
 ·rw[Aa8 (by rw[Ao];simpa using h),Aa8 h]
 rw[Aa2 (by rw[Ao];simpa using h),Aa2 h,Aft F0 hg F0];by_cases hv:v≠0
 ·rw[Aa8 (by rw[Ao];simpa using hv),Aa8 hv,Aa]
 ·rw[Aa2 (by rw[Ao];simpa using hv),Aa2 hv];cases u<;>simp[Aa]
omit hg hx in
theorem X7:∃e,Vp o p f c w r n g a x u v=some e/\Pk o p f c w r n g a x u v=some e:=by
 rw[Vp,Pk];by_cases h0:geq f 0=true
 ·rw[Aa8 h0,Aa8 h0,OH p F0,XI p F0,Aa,Aa];have hok:=NP (b:=p);simp only;by_cases h2:(Cv p).2≠0
  ·rw[Aa8 (by rw[Ao];simpa using h2),Aa8 (by rw[Ao];simpa using h2)];exact⟨_,rfl,rfl⟩
  have h3:(Cv p).2=0:=by simpa using h2
  obtain⟨k1,k2,k3⟩:=hok h3;have hl:(Td p).length<=p.length:=by rw[Td,Aio];omega
  rw[Aa2 (by rw[Ao,h3];simp),Aa2 (by rw[Ao,h3];simp),Dd,Aa,Aa,show p.drop (Cv p).1.toNat=Td p from rfl,pI _ F0,uQ _ F0,Aa];exact⟨_,rfl,rfl⟩
 ·rw[Aa2 h0,Aa2 h0,Bool.or_comm];by_cases h1:(geq (Ac g) 0||Cm a (Ac g))=true
  ·rw[Aa8 h1,Aa8 h1];exact⟨_,rfl,rfl⟩
  ·rw[Aa2 h1,Aa2 h1,rC p F0,Abp p F0,Aa,Aa];simp only;refine⟨(HW p).2,rfl,?_⟩;rcases Afr p with h|h
   ·rw[Aa2 (by rw[h];decide),h]
   ·rw[Aa8 (by rw[h];decide),h]
end
theorem Ru{α β:Type}{o:Option α}{f:α->Option β}{r:β}(h:Option.bind o f=some r):∃x,o=some x/\f x=some r:=by
 cases o with
 |none=>cases h
 |some x=>exact⟨x,rfl,h⟩
theorem Alk{α:Type}{l:List α}{i:Int}{x:α}(h:Go.Lv.Ak l i=some x):x∈l:=by
 unfold Go.Lv.Ak at h;split at h
 ·exact List.mem_of_getElem? h
 ·cases h
theorem yI{o p:LB}(q:LB){f c w r n:Int}{g:LI}{a:Int}{x:LB}{u:Bool}{v:Int}{y:LB}{e:Int}(hg:∀z∈g,0<=z)(h:Bv o p f c w r n g a x u v=some (y,e))(he:e≠ -1):Bv o (p++q) f c w r n g a x u v=some (y,e):=by
 rw[Bv,Ee]at h⊢;obtain⟨l,hl,h⟩:=Ru h;have hl0:=hg l (Alk hl);rw[hl,Aa];by_cases hc:(p.length:Int)<l
 ·rw[Aa8 (by rw[Af,Ac];simpa using hc)]at h;cases h;exact absurd rfl he
 ·have hc':¬(Cm (Ac (p++q)) l=true):=by rw[Af,Ac,Ac5];simp;omega
  rw[Aa2 (by rw[Af,Ac];simpa using hc)]at h;rw[Aa2 hc',Dc hl0 Ayd,Lm F0];rw[Dc hl0]at h;simpa only[Eh,Eb]using h
theorem xg{f c w r n:Int}{F C W R N:Nat}(hd:HdI f c w r n F C W R N){p:LB}(q:LB)(hp:(p++q).length<=100000){A:Nat}(hA:A<=p.length){k:Int}{l:LI}{e:Int}(h:Dl p f c w r n (A:Int)=some (k,l,e))(he:e≠ -1):
  Dl (p++q) f c w r n (A:Int)=some (k,l,e)/\ (e=0->0<=k/\k<=p.length):=by
 have hp':p.length<=100000:=by rw[Ac5]at hp;omega
 obtain⟨_,t2,t3⟩:=wF hd [] p hp' A hA 0 [] false 0;obtain⟨_,s2,_⟩:=wF hd [] (p++q) hp A Ayd 0 [] false 0;rw[t2]at h;rw[s2,Au4 hA];by_cases h1:(Hz (p.drop A) (Al (Aq R) N).length).2=24
 ·rw[Aa8 h1]at h;cases h;exact absurd rfl he
 ·rw[Aa2 h1]at h;rw[Ago q _ h1,Aa2 h1];refine⟨h,λe0=>?_⟩;cases h;have:=t3 e0;constructor
  ·omega
  ·exact this
theorem xQ{f c w r n:Int}{F C W R N:Nat}(hd:HdI f c w r n F C W R N){o p:LB}(q:LB)(hp:(p++q).length<=100000){k:Int}{l:LI}{e:Int}(h:Ew p f c w r n o=some (k,l,e))(he:e≠ -1):
  Ew (p++q) f c w r n o=some (k,l,e)/\ (e=0->0<=k/\k<=p.length):=by
 rw[Ew,Ig]at h⊢;by_cases hf:geq f 2=true
 ·rw[Aa8 hf]at h⊢;by_cases h8:p.length<8
  ·rw[Aa8 F2]at h;cases h;exact absurd rfl he
  ·have n1:¬(Cm (Ac p) 8=true):=by rw[Af,Ac];simp;omega
   have n2:¬(Cm (Ac (p++q)) 8=true):=by rw[Af,Ac,Ac5];simp;omega
   rw[Aa2 n1,Dc F4,Aa]at h;rw[Aa2 n2,Dc F4 Ayd,Aa,Lm (show(8:Int).toNat<=p.length from by simp;omega)];obtain⟨y,hy,h⟩:=Ru h;rw[hy,Aa];by_cases hm:(p.take (8:Int).toNat !=y)=true
   ·rw[Aa8 hm]at h⊢;cases h;exact⟨rfl,λe=>by cases e⟩
   ·rw[Aa2 hm]at h⊢;exact xg hd q hp (A:=8) F0 h he
 ·rw[Aa2 hf]at h⊢;exact xg hd q hp (A:=0) F0 h he
theorem XC{p q af:LB}{n:Int}(h:Bl p n (Ac p)=some af):Bl (p++q) n (Ac (p++q))=some (af++q):=by
 unfold Bl Ac at h⊢;split at h
 ·rename_i hc;cases h;rw[Aa8 ⟨hc.1,by rw[Ac5];omega,F0⟩];simp only[Aly,Awh];rw[Au4 F0]
 ·cases h
theorem cL{o p:LB}(q:LB){f c w r n:Int}{g:LI}{a:Int}{x:LB}{u:Bool}{v:Int}(hf:FitD o f c w r n g a x)(hp:(p++q).length<=100000){t1 t2:LB}{t3 t4 t5 t6 t7:Int}{t8:LI}{t9:Int}{t10:LB}{t11:Bool}{t12 e:Int}
  (h:Ag o p f c w r n g a x u v=some (t1,t2,t3,t4,t5,t6,t7,t8,t9,t10,t11,t12,e)) (he:e≠ -1):
  (e=0->Ag o (p++q) f c w r n g a x u v=some (t1,t2++q,t3,t4,t5,t6,t7,t8,t9,t10,t11,t12,0))/\
  (e≠0->∃(s1 s2:LB) (s3 s4 s5 s6 s7:Int) (s8:LI) (s9:Int) (s10:LB) (s11:Bool) (s12:Int),Ag o (p++q) f c w r n g a x u v=some (s1,s2,s3,s4,s5,s6,s7,s8,s9,s10,s11,s12,e)):=by
 have hp':p.length<=100000:=by rw[Ac5]at hp;omega
 have zero:¬(Bf (0:Int) 0=true):=F4
 rw[Ag,Bj]at h⊢;cases hf with
 |new e1 e2 e3 e4 e5 e6 e7 e8=>
  subst e1;rw[Aa8 F4,Zo p hp',Aa]at h;rw[Aa8 F4,Zo (p++q) hp,Aa];have hst:(W7 p).2.2.2.2.2.2≠ -1->W7 (p++q)=W7 p:=Amr q;generalize W7 p=z at h hst;obtain⟨z1,z2,z3,z4,z5,z6,z7⟩:=z;simp only at h hst;by_cases hz:Bf z7 0=true
  ·rw[Aa8 hz]at h;simp only[Ab5,Ahf]at h;obtain⟨-, -, -, -, -, -, -, -, -, -, -, -,rfl⟩:=h;rw[hst he];simp only;rw[Aa8 hz];refine⟨λe0=>?_,λ_=>⟨_,_,_,_,_,_,_,_,_,_,_,_,rfl⟩⟩;rw[e0]at hz;exact absurd hz zero
  ·rw[Aa2 hz]at h;have z70:z7=0:=by rw[Ao]at hz;simpa using hz
   rw[hst (by rw[z70];decide)];simp only;rw[Aa2 hz];obtain⟨af,h1,h⟩:=Ru h;rw[XC h1,Aa];rw[Fs,Fq]at h⊢;obtain⟨aw,h2,h⟩:=Ru h;rw[h2,Aa];simp only[Ab5,Ahf]at h;obtain⟨rfl,rfl,rfl,rfl,rfl,rfl,rfl,rfl,rfl,rfl,rfl,rfl,rfl⟩:=h;exact⟨λe0=>by rw[e0],λ_=>⟨_,_,_,_,_,_,_,_,_,_,_,_,rfl⟩⟩
 |head F C W R N hd hpw e6 e7 e8=>
  subst e6;have hfn:¬(geq f 0=true):=by rw[Ay];simpa using hd.fnz
  rw[Aa2 hfn,Bk,As,Aa8 F4]at h⊢;obtain⟨⟨k,l,e1⟩,h1,h⟩:=Ru h;simp only at h;by_cases hz:Bf e1 0=true
  ·rw[Aa8 hz]at h;simp only[Ab5,Ahf]at h;obtain⟨-, -, -, -, -, -, -, -, -, -, -, -,rfl⟩:=h;rw[(xQ hd q hp h1 he).1,Aa];simp only;rw[Aa8 hz];refine⟨λe0=>?_,λ_=>⟨_,_,_,_,_,_,_,_,_,_,_,_,rfl⟩⟩;rw[e0]at hz;exact absurd hz zero
  ·rw[Aa2 hz]at h;have z70:e1=0:=by rw[Ao]at hz;simpa using hz
   rw[(xQ hd q hp h1 (by rw[z70];decide)).1,Aa];simp only;rw[Aa2 hz];obtain⟨af,h2,h⟩:=Ru h;rw[XC h2,Aa];simp only[Ab5,Ahf]at h;obtain⟨rfl,rfl,rfl,rfl,rfl,rfl,rfl,rfl,rfl,rfl,rfl,rfl,rfl⟩:=h;exact⟨λe0=>rfl,λe0=>absurd rfl e0⟩
 |tab F C W R N A hd hpw ht hl ea hA=>
  have hfn:¬(geq f 0=true):=by rw[Ay];simpa using hd.fnz
  have ht':=ht;rw[Xe,Abd,Abi]at ht';have hgl:¬(geq (Ac g) 0=true):=by
   intro e;rw[Ay,Ac]at e;have hl1:=ht'.1.1;simp only[Asv,Abi]at e;omega
  rw[Aa2 hfn,Bk,As,Aa2 hgl]at h⊢;by_cases hend:geq a (Ac g)=true
  ·rw[Aa8 hend]at h⊢;by_cases hm:Dm (Ac p) 4000=true
   ·have hm':Dm (Ac (p++q)) 4000=true:=by rw[Az,Ac]at hm⊢;simp only[Abi]at hm⊢;rw[Ac5];omega
    rw[Aa8 hm]at h;rw[Aa8 hm'];simp only[Ab5,Ahf]at h;obtain⟨-, -, -, -, -, -, -, -, -, -, -, -,rfl⟩:=h;exact⟨(λe0=>by cases e0),λ_=>⟨_,_,_,_,_,_,_,_,_,_,_,_,rfl⟩⟩
   ·rw[Aa2 hm]at h;simp only[Ab5,Ahf]at h;obtain⟨-, -, -, -, -, -, -, -, -, -, -, -,rfl⟩:=h;exact absurd rfl he
  ·rw[Aa2 hend]at h⊢;have hpos:∀z∈g,0<=z:=by
    have:=(HT g 100000 F0).1 ht'.2;intro z hz;have:=this.1 z hz;omega
   obtain⟨⟨y,e1⟩,h1,h⟩:=Ru h;simp only at h;by_cases hz:Bf e1 0=true
   ·rw[Aa8 hz]at h;simp only[Ab5,Ahf]at h;obtain⟨-, -, -, -, -, -, -, -, -, -, -, -,rfl⟩:=h;rw[yI q hpos h1 he,Aa];simp only;rw[Aa8 hz];refine⟨λe0=>?_,λ_=>⟨_,_,_,_,_,_,_,_,_,_,_,_,rfl⟩⟩;rw[e0]at hz;exact absurd hz zero
   ·rw[Aa2 hz]at h;have z70:e1=0:=by rw[Ao]at hz;simpa using hz
    rw[yI q hpos h1 (by rw[z70];decide),Aa];simp only;rw[Aa2 hz];obtain⟨an,h2,h⟩:=Ru h;rw[h2,Aa];obtain⟨ah,h3,h⟩:=Ru h;rw[h3,Aa];obtain⟨ad,h4,h⟩:=Ru h;rw[h4,Aa];obtain⟨ae,h5,h⟩:=Ru h;rw[XC h5,Aa];simp only[Ab5,Ahf]at h;obtain⟨rfl,rfl,rfl,rfl,rfl,rfl,rfl,rfl,rfl,rfl,rfl,rfl,rfl⟩:=h;exact⟨λe0=>rfl,λe0=>absurd rfl e0⟩
theorem Ayj{p:Prop}(h:p:=by rw[cU (by omega)];decide):p:=h
end Go.Pl
namespace Go.Pl
open Go Go.Lv
variable{u t11:Bool}{F C W R N A:Nat}
def Aue(o:LB)(K:Nat)(u:Bool)(v:Int)(X Y:Option Avs):Prop:=∃(t1 t2:LB) (t3 t4 t5 t6 t7:Int) (t8:LI) (t9:Int) (t10:LB) (t11:Bool) (t12 e:Int),X=some (t1,t2,t3,t4,t5,t6,t7,t8,t9,t10,t11,t12,e)/\Y=some (t1,t2,t3,t4,t5,t6,t7,t8,t9,t10,t11,t12,e)/\t10.length<=13000000/\
 (e=0->t1=o/\t2.length<=K/\FitD o t3 t4 t5 t6 t7 t8 t9 t10/\SzD t2 t8 t9 t10/\t11=u/\t12=v)
theorem xU(K:Nat):∀(k q1 q2:Nat) (o p:LB) (f c w r n:Int) (g:LI) (a:Int) (x:LB) (u:Bool) (v:Int),FitD o f c w r n g a x->o.length<=64->SzD p g a x->p.length<=K->muD f g a<k->k<=q1->k<=q2->
  Aue o K u v (Bc o u v q1 p f c w r n a g x) (Au q2 o p f c w r n g a x u v)
 |0,_,_,_,_,_,_,_,_,_,_,_,_,_,_,_,_,_,_,h,_,_=>by omega
 |k+1,q1,q2,o,p,f,c,w,r,n,g,a,x,u,v,hf,ho,hZ,hK,hm,h1,h2=>by
  obtain⟨q1,rfl⟩:∃q,q1=q+1:=⟨q1-1,F0⟩;obtain⟨q2,rfl⟩:∃q,q2=q+1:=⟨q2-1,F0⟩;have hx:x.length<=13000000:=by have:=hZ.hx;omega
  rw[Bc,Au,Bq];have hS:StepR (Bc o u v q1) o p f c w r n g a x u v:=wP hf ho hZ;cases hS with
  |wait hF hT=>
   rw[hT,Aa];simp only;rw[Aa8 F4,UZ hZ.hp (by have:=hZ.hg;omega) hx,Aa];exact⟨_,_,_,_,_,_,_,_,_,_,_,_,_,hF,rfl,hx,λ_=>⟨rfl,hK,hf,hZ,rfl,rfl⟩⟩
  |err e he hF hT=>
   rw[hT,Aa];simp only;rw[Aa2 Ayj,Aa8 Ax3,xE hx,Aa];exact⟨_,_,_,_,_,_,_,_,_,_,_,_,_,hF,rfl,hx,λh=>absurd h F0⟩
  |next p' f' c' w' r' n' g' a' x' hF hT hf' hZ' hle hmu=>
   rw[hT,Aa];simp only;rw[Aa2 F4,Aa2 F4];have ih:=xU K k q1 q2 o p' f' c' w' r' n' g' a' x' u v hf' ho hZ' F0 F0 F0 F0;have hF':Hj (Mg (Bc o u v q1) o u v) (Pw (Bc o u v q1) o u v) (Jt (Bc o u v q1) o u v) (Wp (Bc o u v q1) o u v) (Mh (Bc o u v q1) o u v) (Me (Bc o u v q1) o u v) (Xi (Bc o u v q1) o u v) (By (Bc o u v q1) o u v) (Xc (Bc o u v q1) o u v) o u v p f c w r n a g x=Bc o u v q1 p' f' c' w' r' n' a' g' x':=hF;rw[hF'];exact ih
theorem Aub{o p:LB}{f c w r n:Int}{g:LI}{a:Int}{x:LB}(ho:o.length<=64)(hf:FitD o f c w r n g a x)(hZ:SzD p g a x)(b:LB)(hp:p.length<=20000)(hb:b.length<=20000):
  Aue o (p.length+b.length) false 0 (Fh o p f c w r n g a x false 0 b) (Hx o p f c w r n g a x false 0 b):=by
 have hx:x.length<=13000000:=by have:=hZ.hx;omega
 have hg:g.length<=2000:=by have:=hZ.hg;omega
 obtain⟨E,e1,e2⟩:=nN o p f c w r n g a x false 0 F0 F0 F0;rw[Fh,Se,lW hp hg hx e1,Hx,Ot,e2,Aa];by_cases h:E≠0
 ·rw[Aa8 h,Aa,Aa8 (by rw[Ao];simpa using h)];simp only;rw[Aa8 (by rw[Ao];simpa using h)];exact⟨_,_,_,_,_,_,_,_,_,_,_,_,_,rfl,rfl,Axz,λh'=>absurd h' h⟩
 have h0:E=0:=by simpa using h
 subst h0;have hE:¬(Bf (0:Int) 0=true):=F4
 rw[Aa2 h,Aa,Aa2 hE,UZ F0 hg F0,Aa];simp only;have hF:¬(false=true):=F4
 rw[On,Aa2 (show ¬((0:Int)≠0)from λh=>h rfl),Aa2 hF]
 repeat (first|rw[Aa]|rw[Aa2 hE]|rw[Aa2 hF])
 rw[Cy];rw[Aa,Aa];have hZ':SzD (p++b) g a x:=⟨by rw[Ac5];omega,hZ.hg,hZ.hx⟩;exact xU _ 1004 Ba Ba o (p++b) f c w r n g a x false 0 hf ho hZ' (by rw[Ac5];exact Ap4 _) (Aj2 hZ') F9 F9
def OutB(f c w r n:Int)(g:LI)(a:Int)(x:LB):Prop:=∀(F C W R N A:Nat),HdI f c w r n F C W R N->g≠ []->a=(A:Int)-> (x.length:Int)<=BR C W (Al (Aq R) N) A
theorem OutB.nil{f c w r n:Int}{a:Int}{x:LB}:OutB f c w r n [] a x:=λ_ _ _ _ _ _ _ h=>absurd rfl h
theorem OutB.zero{f c w r n:Int}{g:LI}:OutB f c w r n g 0 []:=λF C W R N A h hg ha=>by
 obtain rfl:A=0:=F0
 rw[Aav];simp
theorem Abq{o p:LB}{f c w r n:Int}(hd:HdI f c w r n F C W R N)(ho:o.length<=64)(hp:p.length<=100000){g:LI}(ht:Xe g=true)(hl:g.length=(Al (Aq R) N).length)(hA:A<g.length){x:LB}{v:Int}{y:LB}{e:Int}
  (h:Bv o p f c w r n g (A:Int) x u v=some (y,e)) (he:e=0):∃m:Nat,(Al (Aq R) N)[A]' F0=(m:Int)/\y.length=m*C*wB (W:Int):=by
 subst he;have hlt2:A<(Al (Aq R) N).length:=F0
 have FC:=hd.num;rw[Xe,Abd,Abi,HT g 100000 F0]at ht;obtain⟨ht1,g5,gs⟩:=ht;have h5:=g5 g[A] (Ap8 hA);rw[Bv,Ee,Ch hA,Aa]at h;by_cases hw:(p.length:Int)<g[A]
 ·rw[Aa8 (by rw[Af,Ac];simpa using hw)]at h;cases h
 rw[Aa2 (by rw[Af,Ac];simpa using hw)]at h;obtain⟨m,hm,m1,m2⟩:=Vj (Jz R) FC.2.2.2.2.1 (Ap8 hlt2);have hb:Ck w:=by rw[hd.ew];unfold Ck;omega
 obtain⟨xs,e,d1,d2,d3,d4⟩:=BE (bits:=w) (ch:=C) (n:=m) (t:=We o) (p.take g[A].toNat) hb (Pb o) FC.2.1.1 FC.2.1.2 m1 F0;rw[UT o ho,Aa]at h;simp only at h;rw[Dc,Aa,Fx,Aa]at h;simp only at h;rw[hd.lg,Aa,Ch hlt2,Aa,Aa,hm,hd.ec]at h;rw[d2,Aa]at h;simp only at h;rw[Eh,Eb]at h;by_cases he:e≠0
 ·rw[Aa8 (by rw[Ao];simpa using he)]at h;cases h;exact absurd rfl he
 ·have he0:e=0:=by simpa using he
  obtain⟨k1,k2,k3⟩:=d3 he0;rw[Aa2 (by rw[Ao,he0];simp),NU hb k2 k1,Aa]at h;cases h;refine⟨m,hm,?_⟩;rw[RM hb,k3,hd.ew]
theorem Akk{o p:LB}{f c w r n:Int}{g:LI}{a:Int}{x:LB}{v:Int}(hf:FitD o f c w r n g a x)(ho:o.length<=64)(hZ:SzD p g a x)(hO:OutB f c w r n g a x){t1 t2:LB}{t3 t4 t5 t6 t7:Int}{t8:LI}{t9:Int}{t10:LB}{t12:Int}
  (h:Ag o p f c w r n g a x u v=some (t1,t2,t3,t4,t5,t6,t7,t8,t9,t10,t11,t12,0)):OutB t3 t4 t5 t6 t7 t8 t9 t10:=by
 have hp':=hZ.hp;have zero:¬(Bf (0:Int) 0=true):=F4
 rw[Ag,Bj]at h;cases hf with
 |new e1 e2 e3 e4 e5 e6 e7 e8=>
  subst e1 e6 e7 e8;rw[Aa8 F4,Zo p hp',Aa]at h;generalize W7 p=z at h;obtain⟨z1,z2,z3,z4,z5,z6,z7⟩:=z;simp only at h;by_cases hz:Bf z7 0=true
  ·rw[Aa8 hz]at h;simp only[Ab5,Ahf]at h;obtain⟨-, -, -, -, -, -, -,rfl, -⟩:=h;exact OutB.nil
  ·rw[Aa2 hz]at h;obtain⟨af,h1,h⟩:=Ru h;rw[Fs,Fq]at h;obtain⟨aw,h2,h⟩:=Ru h;simp only[Ab5,Ahf]at h;obtain⟨-, -, -, -, -, -, -,rfl, -⟩:=h;exact OutB.nil
 |head F C W R N hd hpw e6 e7 e8=>
  subst e6 e7 e8;have hfn:¬(geq f 0=true):=by rw[Ay];simpa using hd.fnz
  rw[Aa2 hfn,Bk,As,Aa8 F4]at h;obtain⟨⟨k,l,e1⟩,h1,h⟩:=Ru h;simp only at h;by_cases hz:Bf e1 0=true
  ·rw[Aa8 hz]at h;simp only[Ab5,Ahf]at h;obtain⟨-, -, -, -, -, -, -,rfl, -⟩:=h;exact OutB.nil
  ·rw[Aa2 hz]at h;obtain⟨af,h2,h⟩:=Ru h;simp only[Ab5,Ahf]at h;obtain⟨-, -, -, -, -, -, -, -,rfl,rfl, -⟩:=h;exact OutB.zero
 |tab F C W R N A hd hpw ht hl ea hA=>
  subst ea;have hfn:¬(geq f 0=true):=by rw[Ay];simpa using hd.fnz
  have ht':=ht;rw[Xe,Abd,Abi]at ht';have hgl:¬(geq (Ac g) 0=true):=by
   intro e;rw[Ay,Ac]at e;have hl1:=ht'.1.1;simp only[Asv,Abi]at e;omega
  have hne:g≠ []:=by intro e;subst e;simp at ht'
  rw[Aa2 hfn,Bk,As,Aa2 hgl]at h;by_cases hend:geq (A:Int) (Ac g)=true
  ·rw[Aa8 hend]at h;by_cases hm:Dm (Ac p) 4000=true
   ·rw[Aa8 hm]at h;simp only[Ab5,Ahf]at h;exact absurd h.2.2.2.2.2.2.2.2.2.2.2.2 F4
   ·rw[Aa2 hm]at h;simp only[Ab5,Ahf]at h;exact absurd h.2.2.2.2.2.2.2.2.2.2.2.2 F4
  ·rw[Aa2 hend]at h;have hlt:A<g.length:=by
    rw[Ay,Ac]at hend;simp only[Asv]at hend;omega
   obtain⟨⟨y,e1⟩,h1,h⟩:=Ru h;simp only at h;by_cases hz:Bf e1 0=true
   ·rw[Aa8 hz]at h;simp only[Ab5,Ahf]at h;have:=h.2.2.2.2.2.2.2.2.2.2.2.2;rw[this]at hz;exact absurd hz zero
   ·rw[Aa2 hz]at h;have z70:e1=0:=by rw[Ao]at hz;simpa using hz
    obtain⟨m,hm,hy⟩:=Abq hd ho hp' ht hl hlt h1 z70;obtain⟨an,h2,h⟩:=Ru h;obtain⟨ah,h3,h⟩:=Ru h;obtain⟨ad,h4,h⟩:=Ru h;obtain⟨ae,h5,h⟩:=Ru h;simp only[Ab5,Ahf]at h;obtain⟨-, -,rfl,rfl,rfl,rfl,rfl,rfl,rfl,rfl, -⟩:=h;intro F' C' W' R' N' A' hd' _ ha';have eqs:C'=C/\W'=W/\R'=R/\N'=N:=by
     have q1:=hd.ec.symm.trans hd'.ec;have q2:=hd.ew.symm.trans hd'.ew;have q3:=hd.er.symm.trans hd'.er;have q4:=hd.en.symm.trans hd'.en;omega
    obtain⟨rfl,rfl,rfl,rfl⟩:=eqs;have hold:=hO F C' W' R' N' A hd hne rfl;have e2:Ae (A:Int) 1=((A+1:Nat):Int):=by rw[Aj];omega
    rw[e2]at ha';obtain rfl:A'=A+1:=F0
    have hah:ah.length=x.length+y.length:=by
     unfold Dh at h2 h3;split at h2
     ·cases h2;split at h3
      ·cases h3;simp
      ·cases h3
     ·cases h2
    have hpos:∀z∈Al (Aq R') N',0<=z:=by
     intro z hz;obtain⟨m,hm,m1,m2⟩:=Vj (Jz R') hd.num.2.2.2.2.1 hz;omega
    rw[Aau C' W' hpos F0 hm,hah,hy];omega
theorem jM{o p:LB}{f c w r n:Int}{g:LI}{a:Int}{x:LB}(hf:FitD o f c w r n g a x)(ho:o.length<=64)(hO:OutB f c w r n g a x){t1 t2:LB}{t3 t4 t5 t6 t7:Int}{t8:LI}{t9:Int}{t10:LB}{t12:Int}
  (h:Ag o p f c w r n g a x false 0=some (t1,t2,t3,t4,t5,t6,t7,t8,t9,t10,t11,t12, -1)):Cw o p f c w r n g a x false 0=some 0:=by
 have h4:Cc o p f c w r n g a x false 0=some true:=by
  rw[Cc,Ua,h,Aa];rfl
 have hr:Jv o p f c w r n g a x false 0=some true:=by
  rw[Jv,Tx];cases hf with
  |new e1 e2 e3 e4 e5 e6 e7 e8=>
   subst e1 e2 e3 e4 e5 e6 e7 e8;rw[Aa8 F4,Aa2 F4];exact h4
  |head F C W R N hd hpw e6 e7 e8=>
   subst e6 e7 e8;have hz:¬(((geq f 0)&&((geq c 0)&&((geq w 0)&&((geq r 0)&&((geq n 0)&&true)))))=true):=by
    simp only[Abd,Ay,Asv,Axw];exact λe=>hd.fnz e.1
   have hff:geq f 1=decide (F=1):=by rw[hd.ef,Ay,Alp];simp;omega
   rw[Aa2 hz,hd.check,Aa,Aa2 F4,Dp,hff,hpw,Aa2 Axz,Aa,Aa2 F4,Nk,Nj,Aa8 F4,Aa2 F4];exact h4
  |tab F C W R N A hd hpw ht hl ea hA=>
   subst ea;have hz:¬(((geq f 0)&&((geq c 0)&&((geq w 0)&&((geq r 0)&&((geq n 0)&&true)))))=true):=by
    simp only[Abd,Ay,Asv,Axw];exact λe=>hd.fnz e.1
   have hff:geq f 1=decide (F=1):=by rw[hd.ef,Ay,Alp];simp;omega
   have ht':=ht;rw[Xe,Abd,Abi]at ht';have hgl:¬(geq (Ac g) 0=true):=by
    intro e;rw[Ay,Ac]at e;have hl1:=ht'.1.1;simp only[Asv,Abi]at e;omega
   have hne:g≠ []:=by intro e;subst e;simp at ht'
   have hout:=hO F C W R N A hd hne rfl;rw[Aa2 hz,hd.check,Aa,Aa2 F4,Dp,hff,hpw,Aa2 Axz,Aa,Aa2 F4,Nk,Nj,Aa2 hgl,TJ,Aa,Aa8 ht,Aa2 F4,hd.lg,Aa];rw[Aa2 Aye];obtain⟨rfl,rfl,rfl,rfl,rfl,hs,hfit⟩:=hd;rw[U2 hs hfit A F0,Aa,Aa2 Axy];exact h4
 have hO':¬(Dm (Ac o) 64=true):=by rw[Az,Ac];simp;omega
 rw[Cw,Aa2 hO',Aa8 F4,hr,Aa];rfl
theorem Af1{o p:LB}{f c w r n:Int}(hd:HdI f c w r n F C W R N)(ho:o.length<=64)(hp:p.length<=100000){g:LI}(ht:Xe g=true)(hl:g.length=(Al (Aq R) N).length)(hA:A<g.length){x:LB}{v:Int}{y:LB}{e:Int}
  (h:Bv o p f c w r n g (A:Int) x u v=some (y,e)) (he:e≠ -1):Cd e:=by
 have hlt2:A<(Al (Aq R) N).length:=F0
 have FC:=hd.num;rw[Xe,Abd,Abi,HT g 100000 F0]at ht;obtain⟨ht1,g5,gs⟩:=ht;have h5:=g5 g[A] (Ap8 hA);rw[Bv,Ee,Ch hA,Aa]at h;by_cases hw:(p.length:Int)<g[A]
 ·rw[Aa8 (by rw[Af,Ac];simpa using hw)]at h;cases h;exact absurd rfl he
 rw[Aa2 (by rw[Af,Ac];simpa using hw)]at h;obtain⟨m,hm,m1,m2⟩:=Vj (Jz R) FC.2.2.2.2.1 (Ap8 hlt2);have hb:Ck w:=by rw[hd.ew];unfold Ck;omega
 obtain⟨xs,e',d1,d2,d3,d4⟩:=BE (bits:=w) (ch:=C) (n:=m) (t:=We o) (p.take g[A].toNat) hb (Pb o) FC.2.1.1 FC.2.1.2 m1 F0;have hcd:=pE hb (Pb o) FC.2.1.1 FC.2.1.2 m1 F0 d2;rw[UT o ho,Aa]at h;simp only at h;rw[Dc,Aa,Fx,Aa]at h;simp only at h;rw[hd.lg,Aa,Ch hlt2,Aa,Aa,hm,hd.ec]at h;rw[d2,Aa]at h;simp only at h;rw[Eh,Eb]at h;by_cases he:e'≠0
 ·rw[Aa8 (by rw[Ao];simpa using he)]at h;cases h;exact hcd
 ·have he0:e'=0:=by simpa using he
  obtain⟨k1,k2,k3⟩:=d3 he0;rw[Aa2 (by rw[Ao,he0];simp),NU hb k2 k1,Aa]at h;cases h;exact .inl rfl
theorem Acv{f c w r n:Int}(hd:HdI f c w r n F C W R N){p:LB}(hp:p.length<=100000)(hA:A<=p.length){k:Int}{l:LI}{e:Int}(h:Dl p f c w r n (A:Int)=some (k,l,e))(he:e≠ -1):Cd e:=by
 obtain⟨_,t2,t3⟩:=wF hd [] p hp A hA 0 [] false 0;rw[t2]at h;by_cases h1:(Hz (p.drop A) (Al (Aq R) N).length).2=24
 ·rw[Aa8 h1]at h;cases h;exact absurd rfl he
 ·rw[Aa2 h1]at h;cases h;exact Ali _ (xN hd.fit)
theorem Aev{f c w r n:Int}(hd:HdI f c w r n F C W R N){o p:LB}(hp:p.length<=100000){k:Int}{l:LI}{e:Int}(h:Ew p f c w r n o=some (k,l,e))(he:e≠ -1):Cd e:=by
 rw[Ew,Ig]at h;by_cases hf:geq f 2=true
 ·rw[Aa8 hf]at h;by_cases h8:p.length<8
  ·rw[Aa8 F2]at h;cases h;exact absurd rfl he
  ·have n1:¬(Cm (Ac p) 8=true):=by rw[Af,Ac];simp;omega
   rw[Aa2 n1]at h;obtain⟨z,hz,h⟩:=Ru h;obtain⟨y,hy,h⟩:=Ru h;by_cases hm:(z !=y)=true
   ·rw[Aa8 hm]at h;cases h;decide
   ·rw[Aa2 hm]at h;exact Acv hd hp (A:=8) F0 h he
 ·rw[Aa2 hf]at h;exact Acv hd hp (A:=0) F0 h he
theorem Aq7(p:LB):(W7 p).2.2.2.2.2.2= -1\/Cd (W7 p).2.2.2.2.2.2:=by
 unfold W7
 repeat' split
 ·exact .inl rfl
 ·exact .inr (oM p)
 ·exact .inl rfl
 ·exact .inl rfl
 ·exact .inr (zO _)
theorem Aov{o p:LB}{f c w r n:Int}{g:LI}{a:Int}{x:LB}{v:Int}(hf:FitD o f c w r n g a x)(ho:o.length<=64)(hp':p.length<=100000){t1 t2:LB}{t3 t4 t5 t6 t7:Int}{t8:LI}{t9:Int}{t10:LB}{t12 e:Int}
  (h:Ag o p f c w r n g a x u v=some (t1,t2,t3,t4,t5,t6,t7,t8,t9,t10,t11,t12,e)) (he:e≠ -1):Cd e:=by
 have zero:¬(Bf (0:Int) 0=true):=F4
 rw[Ag,Bj]at h;cases hf with
 |new e1 e2 e3 e4 e5 e6 e7 e8=>
  subst e1 e6 e7 e8;rw[Aa8 F4,Zo p hp',Aa]at h;have hcd:=Aq7 p;generalize W7 p=z at h hcd;obtain⟨z1,z2,z3,z4,z5,z6,z7⟩:=z;simp only at h hcd;by_cases hz:Bf z7 0=true
  ·rw[Aa8 hz]at h;simp only[Ab5,Ahf]at h;obtain⟨-, -, -, -, -, -, -, -, -, -, -, -,rfl⟩:=h;exact hcd.resolve_left he
  ·rw[Aa2 hz]at h;obtain⟨af,h1,h⟩:=Ru h;rw[Fs,Fq,Dp]at h;obtain⟨aw,h2,h⟩:=Ru h;simp only[Ab5,Ahf]at h;obtain⟨-, -, -, -, -, -, -, -, -, -, -, -,rfl⟩:=h;split at h2
   ·cases h2;decide
   ·cases h2;decide
 |head F C W R N hd hpw e6 e7 e8=>
  subst e6 e7 e8;have hfn:¬(geq f 0=true):=by rw[Ay];simpa using hd.fnz
  rw[Aa2 hfn,Bk,As,Aa8 F4]at h;obtain⟨⟨k,l,e1⟩,h1,h⟩:=Ru h;simp only at h;by_cases hz:Bf e1 0=true
  ·rw[Aa8 hz]at h;simp only[Ab5,Ahf]at h;obtain⟨-, -, -, -, -, -, -, -, -, -, -, -,rfl⟩:=h;exact Aev hd hp' h1 he
  ·rw[Aa2 hz]at h;obtain⟨af,h2,h⟩:=Ru h;simp only[Ab5,Ahf]at h;obtain⟨-, -, -, -, -, -, -, -, -, -, -, -,rfl⟩:=h;exact .inl rfl
 |tab F C W R N A hd hpw ht hl ea hA=>
  subst ea;have hfn:¬(geq f 0=true):=by rw[Ay];simpa using hd.fnz
  have ht':=ht;rw[Xe,Abd,Abi]at ht';have hgl:¬(geq (Ac g) 0=true):=by
   intro e;rw[Ay,Ac]at e;have hl1:=ht'.1.1;simp only[Asv,Abi]at e;omega
  rw[Aa2 hfn,Bk,As,Aa2 hgl]at h;by_cases hend:geq (A:Int) (Ac g)=true
  ·rw[Aa8 hend]at h;by_cases hm:Dm (Ac p) 4000=true
   ·rw[Aa8 hm]at h;simp only[Ab5,Ahf]at h;obtain⟨-, -, -, -, -, -, -, -, -, -, -, -,rfl⟩:=h;decide
   ·rw[Aa2 hm]at h;simp only[Ab5,Ahf]at h;exact absurd h.2.2.2.2.2.2.2.2.2.2.2.2.symm he
  ·rw[Aa2 hend]at h;have hlt:A<g.length:=by
    rw[Ay,Ac]at hend;simp only[Asv]at hend;omega
   obtain⟨⟨y,e1⟩,h1,h⟩:=Ru h;simp only at h;by_cases hz:Bf e1 0=true
   ·rw[Aa8 hz]at h;simp only[Ab5,Ahf]at h;obtain⟨-, -, -, -, -, -, -, -, -, -, -, -,rfl⟩:=h;exact Af1 hd ho hp' ht hl hlt h1 he
   ·rw[Aa2 hz]at h;obtain⟨an,h2,h⟩:=Ru h;obtain⟨ah,h3,h⟩:=Ru h;obtain⟨ad,h4,h⟩:=Ru h;obtain⟨ae,h5,h⟩:=Ru h;simp only[Ab5,Ahf]at h;obtain⟨-, -, -, -, -, -, -, -, -, -, -, -,rfl⟩:=h;exact .inl rfl
theorem Ai0{o:LB}{f c w r n:Int}{g:LI}{a:Int}{x:LB}(hf:FitD o f c w r n g a x)(hO:OutB f c w r n g a x):x.length<=12000:=by
 cases hf with
 |new e1 e2 e3 e4 e5 e6 e7 e8=>subst e8;simp
 |head F C W R N hd hpw e6 e7 e8=>subst e8;simp
 |tab F C W R N A hd hpw ht hl ea hA=>
  have hne:g≠ []:=by intro e;subst e;simp[Xe]at ht
  have h:=hO F C W R N A hd hne ea;obtain⟨g1,g2,g3⟩:=QA hd.shape hd.fit;have b:=fJ g1 A;have FC:=hd.num;have hw:=(D8 (W:Int)).2;have hN:N*C<=4000:=by
   have h1:=Ahd C FC.2.2.2.2.2.1;have h2:=Au0 4000 C;omega
  have hs:((Al (Aq R) N).take A).sum.toNat<=N:=F0
  rw[BR]at h;have hb:((Al (Aq R) N).take A).sum.toNat*(C*wB (W:Int))<=4000*3:=by
   have h1:=Ahd (C*wB (W:Int)) hs;have h2:=Aut hN hw;rw[<-Avc N]at h1;omega
  omega
theorem oA{o x:LB}{e:Int}(ho:o.length<=64)(hx:x.length<=12000)(he:Cd e)(h0:0<e):Cw o [] 0 0 0 0 0 [] 0 x false e=some 0:=by
 have hO':¬(Dm (Ac o) 64=true):=by rw[Az,Ac];simp;omega
 have hX:Dm (Ac x) 12000=false:=by rw[Az,Ac];simp;omega
 rw[Cw,Aa2 hO',Aa2 Ax4,Aa8 F4,hX,Aa2 F4,Aa8 Ax3,Aa2 F4];obtain rfl|rfl|rfl|rfl|rfl|rfl|rfl|rfl:=he
 ·omega
 all_goals rfl
theorem C8:∀(k q1 q2:Nat) (o p:LB) (f c w r n:Int) (g:LI) (a:Int) (x:LB) (u:Bool) (v:Int),FitD o f c w r n g a x->o.length<=64->SzD p g a x->muD f g a<k->k<=q1->k<=q2->
  Au q1 o p f c w r n g a x u v=Au q2 o p f c w r n g a x u v
 |0,_,_,_,_,_,_,_,_,_,_,_,_,_,_,_,_,_,h,_,_=>by omega
 |k+1,q1,q2,o,p,f,c,w,r,n,g,a,x,u,v,hf,ho,hZ,hm,h1,h2=>by
  obtain⟨q1,rfl⟩:∃q,q1=q+1:=⟨q1-1,F0⟩;obtain⟨q2,rfl⟩:∃q,q2=q+1:=⟨q2-1,F0⟩;rw[Au,Au,Bq,Bq];have hS:StepR (Bc o u v q1) o p f c w r n g a x u v:=wP hf ho hZ;cases hS with
  |wait hF hT=>
   rw[hT,Aa,Aa];simp only;rw[Aa8 F4,Aa8 F4]
  |err e he hF hT=>
   rw[hT,Aa,Aa];simp only;rw[Aa2 Ayj,Aa8 Ax3,Aa2 Ayj,Aa8 Ax3]
  |next p' f' c' w' r' n' g' a' x' hF hT hf' hZ' hle hmu=>
   rw[hT,Aa,Aa];simp only;rw[Aa2 F4,Aa2 F4,Aa2 F4,Aa2 F4];exact C8 k q1 q2 o p' f' c' w' r' n' g' a' x' u v hf' ho hZ' F0 F0 F0
structure Wt (o p:LB) (f c w r n:Int) (g:LI) (a:Int) (x:LB):Prop where
 fit:FitD o f c w r n g a x
 sz:SzD p g a x
 out:OutB f c w r n g a x
 wait:Ag o p f c w r n g a x false 0=some (o,p,f,c,w,r,n,g,a,x,false,0, -1)
abbrev MR(q:Nat)(o p:LB)(f c w r n:Int)(g:LI)(a:Int)(x:LB):=Au q o p f c w r n g a x false 0
theorem nu:∀(k q:Nat) (o p:LB) (f c w r n:Int) (g:LI) (a:Int) (x:LB),FitD o f c w r n g a x->o.length<=64->SzD p g a x->OutB f c w r n g a x->p.length<=100000->muD f g a<k->k<=q->
  (∃(t2:LB) (t3 t4 t5 t6 t7:Int) (t8:LI) (t9:Int) (t10:LB),MR q o p f c w r n g a x=some (o,t2,t3,t4,t5,t6,t7,t8,t9,t10,false,0,0)/\Wt o t2 t3 t4 t5 t6 t7 t8 t9 t10/\t2.length<=p.length/\muD t3 t8 t9<k/\
   ∀b:LB,(p++b).length<=100000->MR q o (p++b) f c w r n g a x=MR q o (t2++b) t3 t4 t5 t6 t7 t8 t9 t10)\/
  (∃(x':LB) (e:Int),0<e/\Cd e/\x'.length<=12000/\∀b:LB,(p++b).length<=100000->MR q o (p++b) f c w r n g a x=some (o,[],0,0,0,0,0,[],0,x',false,e,e))
 |0,_,_,_,_,_,_,_,_,_,_,_,_,_,_,_,_,h,_=>by omega
 |k+1,q,o,p,f,c,w,r,n,g,a,x,hf,ho,hZ,hO,hp,hm,h1=>by
  obtain⟨q,rfl⟩:∃q',q=q'+1:=⟨q-1,F0⟩;have hx:x.length<=13000000:=by have:=hZ.hx;omega
  have hS:StepR (Bc o false 0 q) o p f c w r n g a x false 0:=wP hf ho hZ;cases hS with
  |wait hF hT=>
   refine .inl ⟨p,f,c,w,r,n,g,a,x,?_,⟨hf,hZ,hO,hT⟩,Ap4 _,hm,λb _=>rfl⟩;rw[MR,Au,Bq,hT,Aa];simp only;rw[Aa8 F4,UZ hZ.hp (by have:=hZ.hg;omega) hx,Aa]
  |err e he hF hT=>
   refine .inr ⟨x,e,he,Aov hf ho hp hT F0,Ai0 hf hO,λb hL=>?_⟩;obtain⟨s1,s2,s3,s4,s5,s6,s7,s8,s9,s10,s11,s12,hs⟩:=(cL b hf hL hT F0).2 F0;rw[MR,Au,Bq,hs,Aa];simp only;rw[Aa2 Ayj,Aa8 Ax3,xE hx,Aa]
  |next p' f' c' w' r' n' g' a' x' hF hT hf' hZ' hle hmu=>
   have hp':p'.length<=100000:=F0
   rcases nu k q o p' f' c' w' r' n' g' a' x' hf' ho hZ' (Akk hf ho hZ hO hT) hp' F0 F0 with⟨t2,t3,t4,t5,t6,t7,t8,t9,t10,k1,k2,k3,k4,k5⟩|⟨x2,e,k1,k2,k3,k4⟩
   ·refine .inl ⟨t2,t3,t4,t5,t6,t7,t8,t9,t10,?_,k2,F0,F0,λb hL=>?_⟩
    ·rw[MR,Au,Bq,hT,Aa];simp only;rw[Aa2 F4,Aa2 F4];exact k1
    ·have hs:=(cL b hf hL hT F4).1 rfl;have hL':(p'++b).length<=100000:=by rw[Ac5]at hL⊢;omega
     rw[MR,Au,Bq,hs,Aa];simp only;rw[Aa2 F4,Aa2 F4];refine(k5 b hL').trans ?_;exact C8 k q (q+1) o (t2++b) t3 t4 t5 t6 t7 t8 t9 t10 false 0 k2.fit ho ⟨by rw[Ac5]at hL⊢;omega,k2.sz.hg,k2.sz.hx⟩ k4 F0 F0
   ·refine .inr ⟨x2,e,k1,k2,k3,λb hL=>?_⟩;have hs:=(cL b hf hL hT F4).1 rfl;have hL':(p'++b).length<=100000:=by rw[Ac5]at hL⊢;omega
    rw[MR,Au,Bq,hs,Aa];simp only;rw[Aa2 F4,Aa2 F4];exact k4 b hL'
abbrev Fd(o s:LB):=MR Ba o s 0 0 0 0 0 [] 0 []
inductive Bh (o s:LB):LB->Int->Int->Int->Int->Int->LI->Int->LB->Int->Prop
 |wt {p:LB} {f c w r n:Int} {g:LI} {a:Int} {x:LB}:Wt o p f c w r n g a x->p.length<=s.length-> (∀b:LB,(s++b).length<=100000->Fd o (s++b)=MR Ba o (p++b) f c w r n g a x)->Bh o s p f c w r n g a x 0
 |er {x:LB} {e:Int}:0<e->Cd e->x.length<=12000-> (∀b:LB,(s++b).length<=100000->Fd o (s++b)=some (o,[],0,0,0,0,0,[],0,x,false,e,e))->Bh o s [] 0 0 0 0 0 [] 0 x e
variable {o s p:LB} {f c w r n:Int} {g:LI} {a:Int} {x:LB} {e:Int}
theorem Wt.stop(W:Wt o p f c w r n g a x):MR Ba o p f c w r n g a x=some (o,p,f,c,w,r,n,g,a,x,false,0,0):=by
 obtain⟨q,hq⟩:∃q,Ba=q+1:=⟨Ba-1,by have:=Ax;omega⟩;have hx:x.length<=13000000:=by have:=W.sz.hx;omega
 rw[MR,hq,Au,Bq,W.wait,Aa];simp only;rw[Aa8 F4,UZ W.sz.hp (by have:=W.sz.hg;omega) hx,Aa]
theorem Bh.new(ho:o.length<=64):Bh o [] [] 0 0 0 0 0 [] 0 [] 0:=by
 refine .wt ⟨.new rfl rfl rfl rfl rfl rfl rfl rfl,⟨Axz,Axz,Axz⟩,OutB.nil,?_⟩ (Ap4 _) λb _=>rfl;rw[Ag,Bj,Aa8 F4,Zo [] Axz,Aa];rfl
theorem S4(ho:o.length<=64)(W:Wt o p f c w r n g a x)(b:LB)(hp:p.length<=20000)(hb:b.length<=20000):
  Fh o p f c w r n g a x false 0 b=MR Ba o (p++b) f c w r n g a x/\Hx o p f c w r n g a x false 0 b=MR Ba o (p++b) f c w r n g a x:=by
 have hR:Hx o p f c w r n g a x false 0 b=MR Ba o (p++b) f c w r n g a x:=by
  have hx:x.length<=13000000:=by have:=W.sz.hx;omega
  have hg:g.length<=2000:=by have:=W.sz.hg;omega
  have hE:¬(Bf (0:Int) 0=true):=F4
  have hF:¬(false=true):=F4
  rw[Hx,Ot,jM W.fit ho W.out W.wait,Aa,Aa2 hE,UZ F0 hg hx,Aa];simp only;rw[On]
  repeat (first|rw[Aa]|rw[Aa2 hE]|rw[Aa2 hF])
  rw[Cy,Aa];rfl
 obtain⟨t1,t2,t3,t4,t5,t6,t7,t8,t9,t10,t11,t12,e,h1,h2,_⟩:=Aub ho W.fit W.sz b hp hb;exact⟨h1.trans (h2.symm.trans hR),hR⟩
theorem Bh.check(ho:o.length<=64)(h:Bh o s p f c w r n g a x e)(hp:p.length<=100000):Gc o p f c w r n g a x false e=some 0/\Cw o p f c w r n g a x false e=some 0:=by
 have key:Cw o p f c w r n g a x false e=some 0/\g.length<=1000/\x.length<=13000000:=by
  cases h with
  |wt W hl hb=>exact⟨jM W.fit ho W.out W.wait,W.sz.hg,by have:=W.sz.hx;omega⟩
  |er h0 hc hx hb=>exact⟨oA ho hx hc h0,Axz,F0⟩
 obtain⟨k1,k2,k3⟩:=key;obtain⟨E,e1,e2⟩:=nN o p f c w r n g a x false e hp F0 F0;rw[k1]at e2;cases e2;exact⟨e1,k1⟩
theorem Bh.feed(ho:o.length<=64)(h:Bh o s p f c w r n g a x e)(hp:p.length<=20000)(b:LB)(hb:b.length<=20000)(hs:(s++b).length<=100000):
  ∃(p':LB) (f' c' w' r' n':Int) (g':LI) (a':Int) (x':LB) (e':Int),Fh o p f c w r n g a x false e b=some (o,p',f',c',w',r',n',g',a',x',false,e',e')/\
   Hx o p f c w r n g a x false e b=some (o,p',f',c',w',r',n',g',a',x',false,e',e')/\Bh o (s++b) p' f' c' w' r' n' g' a' x' e':=by
 have hck:=h.check ho F0;cases h with
 |wt W hl hB=>
  obtain⟨h1,h2⟩:=S4 ho W b hp hb;have hpb:(p++b).length<=100000:=by rw[Ac5];omega
  have hZ:SzD (p++b) g a x:=⟨hpb,W.sz.hg,W.sz.hx⟩;rcases nu 1004 Ba o (p++b) f c w r n g a x W.fit ho hZ W.out hpb (Aj2 hZ) F9 with⟨t2,t3,t4,t5,t6,t7,t8,t9,t10,k1,k2,k3,k4,k5⟩|⟨x2,e,k1,k2,k3,k4⟩
  ·refine⟨t2,t3,t4,t5,t6,t7,t8,t9,t10,0,h1.trans k1,h2.trans k1, .wt k2 ?_ λb2 hL=>?_⟩
   ·rw[Ac5]at k3⊢;omega
   ·rw[Anx,hB (b++b2) (by rw[<-Anx];exact hL),<-Anx];refine k5 b2 ?_;rw[Ac5,Ac5]at hL⊢;omega
  ·have k4':=k4 [] (by simpa using hpb);rw[Arx]at k4';refine⟨_,_,_,_,_,_,_,_,_,_,h1.trans k4',h2.trans k4', .er k1 k2 k3 λb2 hL=>?_⟩;rw[Anx,hB (b++b2) (by rw[<-Anx];exact hL),<-Anx];refine k4 b2 ?_;rw[Ac5,Ac5]at hL⊢;omega
 |er h0 hc hx hB=>
  have hne:Bf e 0=true:=by rw[Ao];simp;omega
  refine⟨_,_,_,_,_,_,_,_,_,_,?_,?_, .er h0 hc hx λb2 hL=>?_⟩
  ·rw[Fh,Se,lW Axz Axz F0 hck.1,Aa2 F4,Aa];simp only;rw[Aa8 (show e≠0 by omega),Aa8 hne]
  ·rw[Hx,Ot,hck.2,Aa,Aa2 F4,UZ Axz Axz F0,Aa];simp only;rw[On,Aa8 hne,Aa,Aa8 hne]
  ·rw[Anx];exact hB (b++b2) (by rw[<-Anx];exact hL)
theorem Aj3{v:Int}{y:LB}(hf:FitD o f c w r n g a x){t1 t2:LB}{t3 t4 t5 t6 t7:Int}{t8:LI}{t9:Int}{t10:LB}{t12:Int}
  (h:Ag o p f c w r n g a x u v=some (t1,t2,t3,t4,t5,t6,t7,t8,t9,t10,t11,t12, -1)) (hp:p.length<=100000):Ag o p f c w r n g a y u v=some (o,p,f,c,w,r,n,g,a,y,u,v, -1):=by
 have zero:¬(Bf (0:Int) 0=true):=F4
 rw[Ag,Bj]at h⊢;by_cases hz:geq f 0=true
 ·rw[Aa8 hz]at h⊢;obtain⟨⟨z1,z2,z3,z4,z5,z6,z7⟩,hz1,h⟩:=Ru h;rw[hz1,Aa];simp only at h⊢;by_cases h7:Bf z7 0=true
  ·rw[Aa8 h7]at h⊢;simp only[Ab5,Ahf]at h;rw[h.2.2.2.2.2.2.2.2.2.2.2.2]
  ·rw[Aa2 h7]at h;obtain⟨af,h1,h⟩:=Ru h;rw[Fs,Fq,Dp]at h;obtain⟨aw,h2,h⟩:=Ru h;simp only[Ab5,Ahf]at h;obtain⟨-, -, -, -, -, -, -, -, -, -, -, -,rfl⟩:=h;split at h2<;>cases h2
 ·rw[Aa2 hz]at h⊢;rw[Bk,As]at h⊢;by_cases hg:geq (Ac g) 0=true
  ·rw[Aa8 hg]at h⊢;obtain⟨⟨z1,z2,z3⟩,hz1,h⟩:=Ru h;rw[hz1,Aa];simp only at h⊢;by_cases h7:Bf z3 0=true
   ·rw[Aa8 h7]at h⊢;simp only[Ab5,Ahf]at h;rw[h.2.2.2.2.2.2.2.2.2.2.2.2]
   ·rw[Aa2 h7]at h;obtain⟨af,h1,h⟩:=Ru h;simp only[Ab5,Ahf]at h;exact absurd h.2.2.2.2.2.2.2.2.2.2.2.2 F4
  ·rw[Aa2 hg]at h⊢;by_cases he:geq a (Ac g)=true
   ·rw[Aa8 he]at h⊢;by_cases hm:Dm (Ac p) 4000=true
    ·rw[Aa8 hm]at h;simp only[Ab5,Ahf]at h;exact absurd h.2.2.2.2.2.2.2.2.2.2.2.2 F4
    ·rw[Aa2 hm]
   ·rw[Aa2 he]at h⊢;obtain⟨⟨z1,z2⟩,hz1,h⟩:=Ru h;have hz2:Bv o p f c w r n g a y u v=some (z1,z2):=hz1;rw[hz2,Aa];simp only at h⊢;by_cases h7:Bf z2 0=true
    ·rw[Aa8 h7]at h⊢;simp only[Ab5,Ahf]at h;rw[h.2.2.2.2.2.2.2.2.2.2.2.2]
    ·rw[Aa2 h7]at h;obtain⟨an,h2,h⟩:=Ru h;obtain⟨ah,h3,h⟩:=Ru h;obtain⟨ad,h4,h⟩:=Ru h;obtain⟨ae,h5,h⟩:=Ru h;simp only[Ab5,Ahf]at h;exact absurd h.2.2.2.2.2.2.2.2.2.2.2.2 F4
end Go.Pl
namespace Go.Pl
open Go Go.Lv
variable{u t11:Bool}{α:Type}
section
variable {o s p:LB} {f c w r n:Int} {g:LI} {a:Int} {x:LB} {e:Int}
theorem FitD.drop(h:FitD o f c w r n g a x)(t:Nat):FitD o f c w r n g a (x.drop t):=by
 cases h with
 |new e1 e2 e3 e4 e5 e6 e7 e8=>subst e8;exact .new e1 e2 e3 e4 e5 e6 e7 Axz
 |head F C W R N hd hpw e6 e7 e8=>subst e8;exact .head F C W R N hd hpw e6 e7 Axz
 |tab F C W R N A hd hpw ht hl ea hA=>exact .tab F C W R N A hd hpw ht hl ea hA
theorem OutB.drop(h:OutB f c w r n g a x)(t:Nat):OutB f c w r n g a (x.drop t):=by
 intro F C W R N A hd hg ha;have:=h F C W R N A hd hg ha;rw[Aio];omega
theorem Bh.uA(h:Bh o s p f c w r n g a x e):p.length<=s.length/\g.length<=1000/\x.length<=12000:=by
 cases h with
 |wt W hl hb=>exact⟨hl,W.sz.hg,Ai0 W.fit W.out⟩
 |er h0 hc hx hb=>exact⟨Axz,Axz,hx⟩
theorem Bh.tW(ho:o.length<=64)(h:Bh o s p f c w r n g a x e)(hp:p.length<=100000)(t:Nat):Gc o p f c w r n g a (x.drop t) false e=some 0:=by
 have hs:=h.uA;have key:Cw o p f c w r n g a (x.drop t) false e=some 0:=by
  cases h with
  |wt W hl hb=>exact jM (W.fit.drop t) ho (W.out.drop t) (Aj3 W.fit W.wait hp)
  |er h0 hc hx hb=>exact oA ho Ax9 hc h0
 obtain⟨E,e1,e2⟩:=nN o p f c w r n g a (x.drop t) false e hp F0 Ax9;rw[key]at e2;cases e2;exact e1
end
section
variable {o s p:LB} {f c w r n:Int} {g:LI} {a:Int} {x:LB} {e:Int}
theorem Agw{v:Int}(hp:p.length<=20000)(h:Pk o p f c w r n g a x u v=some e):Cd e:=by
 rw[Pk]at h;split at h
 ·rw[XI p F0,Aa]at h;have hok:=NP (b:=p);simp only at h;by_cases h2:(Cv p).2≠0
  ·rw[Aa8 (by rw[Ao];simpa using h2)]at h;cases h;exact oM p
  ·have h3:(Cv p).2=0:=by simpa using h2
   obtain⟨k1,k2,k3⟩:=hok h3;have hl:(Td p).length<=p.length:=by rw[Td,Aio];omega
   rw[Aa2 (by rw[Ao,h3];simp),Dd,Aa,show p.drop (Cv p).1.toNat=Td p from rfl,uQ _ F0,Aa]at h;cases h;exact zO _
 ·split at h
  ·cases h;decide
  ·obtain⟨⟨z1,z2⟩,hz,h⟩:=Ru h;simp only at h;split at h<;>(cases h;decide)
theorem KP{v k:Int}(ho:o.length<=64)(hx:x.length<=12000)(hk:(u=false/\v=k/\0<k/\Cd k)\/ (u=true/\v=0/\k=36)):
  Gc o [] 0 0 0 0 0 [] 0 x u v=some 0/\ (∀b,Fh o [] 0 0 0 0 0 [] 0 x u v b=some (o,[],0,0,0,0,0,[],0,x,u,v,k))/\Gz o [] 0 0 0 0 0 [] 0 x u v=some (o,[],0,0,0,0,0,[],0,x,u,v,k):=by
 have key:Cw o [] 0 0 0 0 0 [] 0 x u v=some 0:=by
  rcases hk with⟨rfl,rfl,h1,h2⟩|⟨rfl,rfl,rfl⟩
  ·exact oA ho hx h2 h1
  ·have hX:Dm (Ac x) 12000=false:=by rw[Az,Ac];simp;omega
   rw[Cw,Aa2 Axy,Aa2 F4,Aa8 F4,hX,Aa2 F4,Aa2 F4]
 obtain⟨E,e1,e2⟩:=nN o [] 0 0 0 0 0 [] 0 x u v Axz Axz F0;rw[key]at e2;cases e2;have hv:(if v≠0 then v else if u=true then 36 else 0)=k:=by
  rcases hk with⟨rfl,rfl,h1,h2⟩|⟨rfl,rfl,rfl⟩
  ·rw[Aa8 F0]
  ·rfl
 have hk0:Bf k 0=true:=by
  rw[Ao];rcases hk with⟨rfl,rfl,h1,h2⟩|⟨rfl,rfl,rfl⟩
  ·simp;omega
  ·rfl
 have hb:=lW (o:=o) (p:=[]) (f:=0) (c:=0) (w:=0) (r:=0) (n:=0) (g:=[]) (a:=0) (x:=x) (u:=u) (v:=v) Axz Axz F0 e1;rw[Aa2 F4,hv]at hb;refine⟨e1,λb=>?_,?_⟩
 ·rw[Fh,Se,hb,Aa];simp only;rw[Aa8 hk0]
 ·rw[Gz,hb,Aa];simp only;rw[Aa8 hk0]
end
theorem UN{l m z:List α}(h:Dh l m=some z):z=l++m:=by
 rw[Dh]at h;split at h
 ·exact(Axe h).symm
 ·cases h
theorem Ahy{o p:LB}{f c w r n:Int}{g:LI}{a:Int}{x:LB}{v:Int}(hf:f≠0)(hg:g≠ []){t1 t2:LB}{t3 t4 t5 t6 t7:Int}{t8:LI}{t9:Int}{t10:LB}{t12 e:Int}
  (h:Ag o p f c w r n g a x u v=some (t1,t2,t3,t4,t5,t6,t7,t8,t9,t10,t11,t12,e)):e≠0\/ (t3=f/\t8=g/\∃y,t10=x++y):=by
 rw[Ag,Bj,Aa2 (by rw[Ay];simpa using hf),Bk,As,Aa2 (by
  rw[Ay,Ac,Asv];intro e;exact hg (Ash F0))]at h
 by_cases he:geq a (Ac g)=true
 ·rw[Aa8 he]at h;by_cases hm:Dm (Ac p) 4000=true
  ·rw[Aa8 hm]at h;simp only[Ab5,Ahf]at h;left;rw[<-h.2.2.2.2.2.2.2.2.2.2.2.2];decide
  ·rw[Aa2 hm]at h;simp only[Ab5,Ahf]at h;left;rw[<-h.2.2.2.2.2.2.2.2.2.2.2.2];decide
 ·rw[Aa2 he]at h;obtain⟨⟨z1,z2⟩,hz1,h⟩:=Ru h;simp only at h;by_cases h7:Bf z2 0=true
  ·rw[Aa8 h7]at h;simp only[Ab5,Ahf]at h;left;rw[<-h.2.2.2.2.2.2.2.2.2.2.2.2];rw[Ao]at h7;simpa using h7
  ·rw[Aa2 h7]at h;obtain⟨an,h2,h⟩:=Ru h;obtain⟨ah,h3,h⟩:=Ru h;obtain⟨ad,h4,h⟩:=Ru h;obtain⟨ae,h5,h⟩:=Ru h;simp only[Ab5,Ahf]at h;have e1:=UN h2;have e2:=UN h3;rw[Arw]at e1;right;exact⟨h.2.2.1.symm,h.2.2.2.2.2.2.2.1.symm,z1,by rw[<-h.2.2.2.2.2.2.2.2.2.1,e2,e1]⟩
theorem nM{l m r:List α}(h:Dh l m=some r):l.length+m.length<=C9:=by
 rw[Dh]at h;split at h
 ·assumption
 ·cases h
theorem sX{l m:List α}(h:l.length+m.length<=C9):Dh l m=some (l++m):=by rw[Dh,Aa8 h]
theorem Aq0{o p:LB}{f c w r n:Int}{g:LI}{a:Int}{x:LB}{v:Int}(hf:f≠0)(hg:g≠ []){t1 t2:LB}{t3 t4 t5 t6 t7:Int}{t8:LI}{t9:Int}{t10:LB}{t12 e:Int}
  (h:Ag o p f c w r n g a x u v=some (t1,t2,t3,t4,t5,t6,t7,t8,t9,t10,t11,t12,e)):
  ∃y,t10=x++y/\∀z:LB,z.length<=x.length->Ag o p f c w r n g a z u v=some (t1,t2,t3,t4,t5,t6,t7,t8,t9,z++y,t11,t12,e):=by
 have e0:∀z:LB,Ag o p f c w r n g a z u v=As o p f c w r n g a z u v:=λz=>by
  rw[Ag,Bj,Aa2 (by rw[Ay];simpa using hf),Bk]
 have hgl:¬geq (Ac g) 0=true:=by
  rw[Ay,Ac,Asv];intro e;exact hg (Ash F0)
 have stay:∀E:Int,some (o,p,f,c,w,r,n,g,a,x,u,v,E)=some (t1,t2,t3,t4,t5,t6,t7,t8,t9,t10,t11,t12,e)-> (∀z:LB,As o p f c w r n g a z u v=some (o,p,f,c,w,r,n,g,a,z,u,v,E))->
   ∃y,t10=x++y/\∀z:LB,z.length<=x.length->Ag o p f c w r n g a z u v=some (t1,t2,t3,t4,t5,t6,t7,t8,t9,z++y,t11,t12,e):=by
  intro E h hz;simp only[Ab5,Ahf]at h;obtain⟨rfl,rfl,rfl,rfl,rfl,rfl,rfl,rfl,rfl,rfl,rfl,rfl,rfl⟩:=h;exact⟨[],(Arx _).symm,λz _=>by rw[e0,hz,Arx]⟩
 rw[e0,As,Aa2 hgl]at h;by_cases he:geq a (Ac g)=true
 ·rw[Aa8 he]at h;by_cases hm:Dm (Ac p) 4000=true
  ·rw[Aa8 hm]at h;exact stay _ h λz=>by rw[As,Aa2 hgl,Aa8 he,Aa8 hm]
  ·rw[Aa2 hm]at h;exact stay _ h λz=>by rw[As,Aa2 hgl,Aa8 he,Aa2 hm]
 ·rw[Aa2 he]at h;obtain⟨⟨z1,z2⟩,hz1,h⟩:=Ru h;have hz1':∀z:LB,Bv o p f c w r n g a z u v=some (z1,z2):=λz=>hz1;simp only at h;by_cases h7:Bf z2 0=true
  ·rw[Aa8 h7]at h;refine stay _ h λz=>?_;rw[As,Aa2 hgl,Aa2 he,hz1',Aa];simp only;rw[Aa8 h7]
  ·rw[Aa2 h7]at h;obtain⟨an,h2,h⟩:=Ru h;obtain⟨ah,h3,h⟩:=Ru h;obtain⟨ad,h4,h⟩:=Ru h;obtain⟨ae,h5,h⟩:=Ru h;simp only[Ab5,Ahf]at h;have e1:=UN h2;have e2:=UN h3;have l2:=nM h2;have l3:=nM h3;rw[Arw]at e1;obtain⟨h01,h02,h03,h04,h05,h06,h07,h08,h09,h10,h11,h12,h13⟩:=h;refine⟨z1,by rw[<-h10,e2,e1],λz hz=>?_⟩;rw[e1]at l3;rw[e0,As,Aa2 hgl,Aa2 he,hz1',Aa];simp only;rw[Aa2 h7,sX (by simp at l2⊢;omega),Aa,Arw,sX F0,Aa,h4,Aa,h5,Aa,h01,h02,h03,h04,h05,h06,h07,h08,h09,h11,h12,h13]
theorem Ahi:∀(q:Nat) (o p:LB) (f c w r n:Int) (g:LI) (a:Int) (x:LB) (u:Bool) (v:Int),f≠0->g≠ []->∀(t1 t2:LB) (t3 t4 t5 t6 t7:Int) (t8:LI) (t9:Int) (t10:LB) (t11:Bool) (t12 e:Int),Au q o p f c w r n g a x u v=some (t1,t2,t3,t4,t5,t6,t7,t8,t9,t10,t11,t12,e)->
  ∃y,t10=x++y/\∀z:LB,z.length<=x.length->Au q o p f c w r n g a z u v=some (t1,t2,t3,t4,t5,t6,t7,t8,t9,z++y,t11,t12,e)
 |0,o,p,f,c,w,r,n,g,a,x,u,v,_,_,t1,t2,t3,t4,t5,t6,t7,t8,t9,t10,t11,t12,e,h=>by cases h
 |q+1,o,p,f,c,w,r,n,g,a,x,u,v,hf,hg,t1,t2,t3,t4,t5,t6,t7,t8,t9,t10,t11,t12,e,h=>by
  rw[Au,Bq]at h;obtain⟨⟨z1,z2,z3,z4,z5,z6,z7,z8,z9,z10,z11,z12,zz⟩,hz,h⟩:=Ru h;obtain⟨y,hy1,hy2⟩:=Aq0 hf hg hz;simp only at h;by_cases h1:geq zz (-1)=true
  ·rw[Aa8 h1]at h;obtain⟨⟨y1,y2,y3,y4,y5,y6,y7,y8,y9,y10,y11,y12⟩,hy,h⟩:=Ru h;simp only[Ab5,Ahf]at h;rw[Kr,Oe]at hy;obtain⟨a1,k1,hy⟩:=Ru hy;obtain⟨a2,k2,hy⟩:=Ru hy;rw[Oh,Og]at hy;obtain⟨a3,k3,hy⟩:=Ru hy;simp only[Ab5,Ahf]at hy;have e2:=UN k2;have l2:=nM k2;obtain⟨rfl,rfl,rfl,rfl,rfl,rfl,rfl,rfl,rfl,rfl,rfl,rfl⟩:=hy;obtain⟨rfl,rfl,rfl,rfl,rfl,rfl,rfl,rfl,rfl,rfl,rfl,rfl,rfl⟩:=h;refine⟨[],by rw[e2,Arw,Arx],λz hzl=>?_⟩;rw[Au,Bq,hy2 z hzl,Aa];simp only;rw[Aa8 h1,Kr,Oe,k1,Aa,sX (by simp at l2⊢;omega),Aa,Oh,Og,k3,Aa,Aa];simp
  ·rw[Aa2 h1]at h;by_cases h2:Bf zz 0=true
   ·rw[Aa8 h2]at h;obtain⟨⟨y1,y2,y3,y4,y5,y6,y7,y8,y9,y10,y11,y12,y13⟩,hy,h⟩:=Ru h;simp only[Ab5,Ahf]at h;rw[Lq]at hy;obtain⟨⟨x1,x2,x3,x4,x5,x6,x7,x8,x9,x10,x11,x12⟩,hx,hy⟩:=Ru hy;simp only[Ab5,Ahf]at hy;rw[Uv]at hx;obtain⟨a2,k2,hx⟩:=Ru hx;simp only[Ab5,Ahf]at hx;have e2:=UN k2;have l2:=nM k2;obtain⟨rfl,rfl,rfl,rfl,rfl,rfl,rfl,rfl,rfl,rfl,rfl,rfl⟩:=hx;obtain⟨rfl,rfl,rfl,rfl,rfl,rfl,rfl,rfl,rfl,rfl,rfl,rfl,rfl⟩:=hy;obtain⟨rfl,rfl,rfl,rfl,rfl,rfl,rfl,rfl,rfl,rfl,rfl,rfl,rfl⟩:=h;refine⟨[],by rw[e2,Arw,Arx],λz hzl=>?_⟩;rw[Au,Bq,hy2 z hzl,Aa];simp only;rw[Aa2 h1,Aa8 h2,Lq,Uv,sX (by simp at l2⊢;omega),Aa,Aa,Aa];simp
   ·rw[Aa2 h2]at h;have hz0:zz=0:=by rw[Ao]at h2;simpa using h2
    rcases Ahy hf hg hz with h3|⟨h3,h4,y0,h5⟩
    ·exact absurd hz0 h3
    ·obtain⟨y2,h6,h7⟩:=Ahi q z1 z2 z3 z4 z5 z6 z7 z8 z9 z10 z11 z12 (by rw[h3];exact hf) (by rw[h4];exact hg) _ _ _ _ _ _ _ _ _ _ _ _ _ h;refine⟨y++y2,by rw[h6,hy1,Anx],λz hzl=>?_⟩;rw[Au,Bq,hy2 z hzl,Aa];simp only;rw[Aa2 h1,Aa2 h2,h7 (z++y) (by rw[hy1,Ac5,Ac5];omega),Anx]
section
variable {o s p:LB} {f c w r n:Int} {g:LI} {a:Int} {x:LB} {e:Int}
theorem Wt.drop(W:Wt o p f c w r n g a x)(t:Nat):Wt o p f c w r n g a (x.drop t):=
 ⟨W.fit.drop t,⟨W.sz.hp,W.sz.hg,by have:=W.sz.hx;rw[Aio];omega⟩,W.out.drop t,Aj3 W.fit W.wait W.sz.hp⟩
theorem FitD.early(h:FitD o f c w r n g a x)(hx:x≠ []):f≠0/\g≠ []:=by
 cases h with
 |new _ _ _ _ _ _ _ e8=>exact absurd e8 hx
 |head _ _ _ _ _ _ _ _ _ e8=>exact absurd e8 hx
 |tab F C W R N A hd hpw ht hl ea hA=>
  refine⟨hd.fnz,λe=>?_⟩;have h1:=hd.num;have h2:(Al (Aq R) N).length=0:=by rw[<-hl,e];rfl
  have h3:Al (Aq R) N=[]:=Ash h2;have h4:(Al (Aq R) N).sum=(N:Int):=cT h1.2.2.2.2.1;rw[h3]at h4;simp at h4;omega
theorem Bh.Ap0(ho:o.length<=64)(h:Bh o s p f c w r n g a x e)(hp:p.length<=20000)(b:LB)(hb:b.length<=20000)(hs:(s++b).length<=100000){t:Nat}(ht:t<=x.length):
  ∃(p':LB) (f' c' w' r' n':Int) (g':LI) (a':Int) (y:LB) (e':Int),Fh o p f c w r n g a (x.drop t) false e b=some (o,p',f',c',w',r',n',g',a',(x++y).drop t,false,e',e')/\
   Fh o p f c w r n g a x false e b=some (o,p',f',c',w',r',n',g',a',x++y,false,e',e')/\Bh o (s++b) p' f' c' w' r' n' g' a' (x++y) e':=by
 obtain⟨p',f',c',w',r',n',g',a',x',e',h1,h2,h3⟩:=h.feed ho hp b hb hs;have hck:=h.tW ho F0 t;have hsz:=h.uA;cases h with
 |wt W hl hB=>
  by_cases hx:x=[]
  ·subst hx;obtain rfl:t=0:=by simpa using ht
   exact⟨p',f',c',w',r',n',g',a',x',e',h1,by simpa using h1,by simpa using h3⟩
  ·obtain⟨hf,hg⟩:=W.fit.early hx;have e1:=(S4 ho W b hp hb).1;have e2:=(S4 ho (W.drop t) b hp hb).1;rw[e1]at h1;obtain⟨y,k1,k2⟩:=Ahi Ba o (p++b) f c w r n g a x false 0 hf hg _ _ _ _ _ _ _ _ _ _ _ _ _ h1;subst k1;refine⟨p',f',c',w',r',n',g',a',y,e',?_,by rw[e1];exact h1,h3⟩;rw[e2,Au4 ht];exact k2 (x.drop t) Ax9
 |er h0 hc hx hB=>
  obtain⟨q1,q2,q3⟩:=KP (o:=o) (x:=x) (u:=false) (v:=e) (k:=e) ho hx (.inl ⟨rfl,rfl,h0,hc⟩);obtain⟨d1,d2,d3⟩:=KP (o:=o) (x:=x.drop t) (u:=false) (v:=e) (k:=e) ho Ax9 (.inl ⟨rfl,rfl,h0,hc⟩);rw[q2 b]at h1;simp only[Ab5,Ahf,true_and]at h1;obtain⟨rfl,rfl,rfl,rfl,rfl,rfl,rfl,rfl,rfl,rfl,_⟩:=h1;exact⟨[],0,0,0,0,0,[],0,[],e,by simpa using d2 b,by simpa using q2 b,by simpa using h3⟩
def Aus(u:Bool)(v k:Int):Prop:=(u=false/\v=k/\0<k/\Cd k)\/ (u=true/\v=0/\k=36)
theorem Bh.Ab8(ho:o.length<=64)(h:Bh o s p f c w r n g a x e)(hp:p.length<=20000):
  ∃(u:Bool) (v k:Int),(∀t,Gz o p f c w r n g a (x.drop t) false e=some (o,[],0,0,0,0,0,[],0,x.drop t,u,v,k))/\ ((u=false/\v=k/\0<k/\Cd k/\ (e=0\/e=k))\/ (u=true/\v=0/\k=0)):=by
 have hs:=h.uA;cases h with
 |wt W hl hB=>
  obtain⟨e1,d1,d2⟩:=X7 (o:=o) (p:=p) (f:=f) (c:=c) (w:=w) (r:=r) (n:=n) (a:=a) (u:=false) (v:=0) (g:=g) (x:=x) hp;have hcd:=Agw hp d2;have go:∀t,Gz o p f c w r n g a (x.drop t) false 0=if Bf e1 0=true then some (o,[],0,0,0,0,0,[],0,x.drop t,false,e1,e1)else some (o,[],0,0,0,0,0,[],0,x.drop t,true,0,0):=by
   intro t;have hb:=lW (o:=o) (p:=p) (f:=f) (c:=c) (w:=w) (r:=r) (n:=n) (g:=g) (a:=a) (x:=x.drop t) (u:=false) (v:=0) F0 F0 Ax9 (Bh.tW ho (.wt W hl hB) F0 t);rw[Aa2 F4]at hb;rw[Gz,hb,Aa];simp only;have d1':Vp o p f c w r n g a (x.drop t) false 0=some e1:=d1;rw[Aa2 F4,d1',Aa];rfl
  by_cases he:Bf e1 0=true
  ·refine⟨false,e1,e1,λt=>by rw[go,Aa8 he], .inl ⟨rfl,rfl,?_,hcd,Axz⟩⟩;have:=hcd.nn;rw[Ao]at he;simp only[Aw7]at he;omega
  ·exact⟨true,0,0,λt=>by rw[go,Aa2 he], .inr ⟨rfl,rfl,rfl⟩⟩
 |er h0 hc hx hB=>
  refine⟨false,e,e,λt=>?_, .inl ⟨rfl,rfl,h0,hc, .inr rfl⟩⟩;exact(KP (o:=o) (x:=x.drop t) (u:=false) (v:=e) (k:=e) ho Ax9 (.inl ⟨rfl,rfl,h0,hc⟩)).2.2
end
theorem Ayp{p:Prop}(h:p:=by simp only[Aio];omega):p:=h
end Go.Pl
namespace Go.Pl
open Go Go.Lv
variable{L i t:Nat}
abbrev Stp:=UInt8×Int×Unit
abbrev Sad:=Int×LB×Unit
structure Ud where
 s:LB
 X:LB
 p:LB
 f:Int
 c:Int
 w:Int
 r:Int
 n:Int
 g:LI
 a:Int
 u:Bool
 v:Int
inductive OkU (o:LB) (L:Nat):Ud->Prop
 |live {s X p:LB} {f c w r n:Int} {g:LI} {a e:Int}:s.length+L<=12100->Bh o s p f c w r n g a X e->OkU o L ⟨s,X,p,f,c,w,r,n,g,a,false,e⟩
 |stop {s X:LB} {u:Bool} {v k:Int}:X.length<=12000->Aus u v k->OkU o L ⟨s,X,[],0,0,0,0,0,[],0,u,v⟩
def Ak4(o:LB)(U:Ud)(q:LB):Option (Int×Ud):=(Fh o U.p U.f U.c U.w U.r U.n U.g U.a U.X U.u U.v q).bind λ(_,p,f,c,w,r,n,g,a,x,u,v,e)=>some (e,⟨U.s++q,x,p,f,c,w,r,n,g,a,u,v⟩)
def Aq4(o:LB)(U:Ud):Option (Int×Ud):=(Gz o U.p U.f U.c U.w U.r U.n U.g U.a U.X U.u U.v).bind λ(_,p,f,c,w,r,n,g,a,x,u,v,e)=>some (e,⟨U.s,x,p,f,c,w,r,n,g,a,u,v⟩)
theorem Akp{o:LB}(ho:o.length<=64){U:Ud}(h:OkU o L U)(q:LB)(hq:q.length<=L):
  ∃(e:Int) (U':Ud),Ak4 o U q=some (e,U')/\OkU o (L-q.length) U'/\ (∃y,U'.X=U.X++y)/\
   ∀t,t<=U.X.length->Fh o U.p U.f U.c U.w U.r U.n U.g U.a (U.X.drop t) U.u U.v q=some (o,U'.p,U'.f,U'.c,U'.w,U'.r,U'.n,U'.g,U'.a,U'.X.drop t,U'.u,U'.v,e):=by
 cases h with
 |live hl hB=>
  rename_i s X p f c w r n g a e;have hsz:=hB.uA;have hs:(s++q).length<=100000:=by rw[Ac5];omega
  obtain⟨p',f',c',w',r',n',g',a',y,e',h1,h2,h3⟩:=hB.Ap0 ho F0 q F0 hs (Nat.zero_le _);refine⟨e',⟨s++q,X++y,p',f',c',w',r',n',g',a',false,e'⟩,by rw[Ak4];simp only;rw[h2];rfl, .live Ayd h3,⟨y,rfl⟩,λt ht=>?_⟩;obtain⟨p2,f2,c2,w2,r2,n2,g2,a2,y2,e2,k1,k2,k3⟩:=hB.Ap0 ho F0 q F0 hs ht;rw[h2]at k2;simp only[Ab5,Ahf,true_and,List.append_cancel_left_eq]at k2;obtain⟨rfl,rfl,rfl,rfl,rfl,rfl,rfl,rfl,rfl,rfl,_⟩:=k2;exact k1
 |stop hx hk=>
  rename_i s X u v k;refine⟨k,⟨s++q,X,[],0,0,0,0,0,[],0,u,v⟩,?_, .stop hx hk,⟨[],(Arx _).symm⟩,λt ht=>?_⟩
  ·rw[Ak4];simp only;rw[(KP ho hx hk).2.1 q];rfl
  ·exact(KP ho Ayp hk).2.1 q
theorem Apc{o:LB}(ho:o.length<=64){U:Ud}(h:OkU o L U):
  ∃(e:Int) (U':Ud),Aq4 o U=some (e,U')/\OkU o L U'/\U'.X=U.X/\
   ∀t,t<=U.X.length->Gz o U.p U.f U.c U.w U.r U.n U.g U.a (U.X.drop t) U.u U.v=some (o,U'.p,U'.f,U'.c,U'.w,U'.r,U'.n,U'.g,U'.a,U'.X.drop t,U'.u,U'.v,e):=by
 cases h with
 |live hl hB=>
  rename_i s X p f c w r n g a e;have hsz:=hB.uA;obtain⟨u,v,k,h1,h2⟩:=hB.Ab8 ho F0;have h0:=h1 0;rw[Axa]at h0;refine⟨k,⟨s,X,[],0,0,0,0,0,[],0,u,v⟩,by rw[Aq4];simp only;rw[h0];rfl,?_,rfl,λt _=>h1 t⟩;rcases h2 with⟨k1,k2,k3,k4,_⟩|⟨k1,k2,_⟩
  ·exact .stop (k:=k) hsz.2.2 (.inl ⟨k1,k2,k3,k4⟩)
  ·exact .stop (k:=36) hsz.2.2 (.inr ⟨k1,k2,rfl⟩)
 |stop hx hk=>
  rename_i s X u v k;refine⟨k,⟨s,X,[],0,0,0,0,0,[],0,u,v⟩,?_, .stop hx hk,rfl,λt ht=>?_⟩
  ·rw[Aq4];simp only;rw[(KP ho hx hk).2.2];rfl
  ·exact(KP ho Ayp hk).2.2
theorem OkU.szs{o:LB}{U:Ud}(h:OkU o L U):U.p.length<=12100/\U.g.length<=1000/\U.X.length<=12000:=by
 cases h with
 |live hl hB=>have:=hB.uA;exact⟨by simp only;omega,this.2.1,this.2.2⟩
 |stop hx hk=>exact⟨Axz,Axz,hx⟩
def SR(st:Stp)(e:Int)(d:Sad):Prop:=d.1=e/\ (st.1=2->e=0/\ (d.2.1.length:Int)<=st.2.1)/\ (st.1≠2->d.2.1=[])
inductive SRs:List Stp->LI->List Sad->Prop
 |nil:SRs [] [] []
 |cons {st e d l es ds}:SR st e d->SRs l es ds->SRs (st::l) (e::es) (d::ds)
def U6(b:List Stp)(i t:Nat)(X:LB)(t':Nat)(X':LB):Prop:=(i=b.length->t'=t/\X'=X)/\ (i<b.length->∀m:Int,b[b.length-1]? =some (2,m,())->20000<=m->t'=X'.length)
theorem U6.nil{b:List Stp}{X:LB}(h:i=b.length):U6 b i t X t X:=⟨λ_=>⟨rfl,rfl⟩,λh'=>absurd h' F0⟩
theorem U6.other{b:List Stp}{t1 t':Nat}{X X1 X':LB}(hlt:i<b.length)(h1:b[i].1≠2)(ih:U6 b (i+1) t1 X1 t' X'):U6 b i t X t' X':=by
 refine⟨λh=>absurd h F0,λ_ m hm h2=>?_⟩;by_cases h:i+1<b.length
 ·exact ih.2 h m hm h2
 ·rw[show b.length-1=i by omega,List.getElem?_eq_getElem hlt]at hm;exact absurd (by rw[Axe hm]) h1
def U0:Ud:=⟨[],[],[],0,0,0,0,0,[],0,false,0⟩
theorem Aug{o:LB}(ho:o.length<=64)(hL:L<=12100):OkU o L U0:= .live (by simpa using hL) (Bh.new ho)
theorem SRs.len{l:List Stp}{es:LI}{ds:List Sad}(h:SRs l es ds):es.length=l.length/\ds.length=l.length:=by
 induction h with
 |nil=>exact⟨rfl,rfl⟩
 |cons _ _ ih=>exact⟨by simp[ih.1],by simp[ih.2]⟩
theorem SRs.at{l:List Stp}{es:LI}{ds:List Sad}(h:SRs l es ds):∀(i:Nat) (h1:i<ds.length) (h2:i<es.length),ds[i].1=es[i]:=by
 induction h with
 |nil=>intro i h1;simp at h1
 |cons hd _ ih=>
  intro i h1 h2;cases i with
  |zero=>exact hd.1
  |succ i=>exact ih i (by simpa using h1) (by simpa using h2)
theorem oo(i:Nat)(h:i<=100000):Ae (i:Int) 1=((i+1:Nat):Int):=by rw[show(1:Int)=((1:Nat):Int)from rfl,Aj];omega
theorem OkU.chk{o:LB}(ho:o.length<=64){U:Ud}(h:OkU o L U)(t:Nat):Gc o U.p U.f U.c U.w U.r U.n U.g U.a (U.X.drop t) U.u U.v=some 0:=by
 have hs:=h.szs;cases h with
 |live hl hB=>exact hB.tW ho (by have:=hs.1;simp only at this;omega) t
 |stop hx hk=>exact(KP ho Ayp hk).1
def kpU(U:Ud):Nat:=U.p.length+8*U.g.length
theorem An0{o:LB}(ho:o.length<=64){U:Ud}(h:OkU o L U)(t:Nat):Mm o U.p U.f U.c U.w U.r U.n U.g U.a (U.X.drop t) U.u U.v=some ((kpU U:Int),0):=by
 have hs:=h.szs;rw[Mm,h.chk ho t,Aa,Aa2 F4,Ac,Ac,show Bo 8 (U.g.length:Int)=((8*U.g.length:Nat):Int) by rw[show(8:Int)=((8:Nat):Int)from rfl,Hs];omega,Aj,kpU];simp
theorem Aoa:Qv=some true:=by kernel_rfl
theorem N7{o p:LB}{f c w r n:Int}{F C W R N:Nat}(hd:HdI f c w r n F C W R N)(ho:o.length<=64)(hp:p.length<=100000){g:LI}(ht:Xe g=true)(hl:g.length=(Al (Aq R) N).length){A:Nat}(hA:A<g.length){x:LB}{u:Bool}{v:Int}{y:LB}
  (h:Bv o p f c w r n g (A:Int) x u v=some (y, -1)):(p.length:Int)<g[A]/\g[A]<=100000:=by
 have hlt2:A<(Al (Aq R) N).length:=F0
 have FC:=hd.num;rw[Xe,Abd,Abi,HT g 100000 F0]at ht;obtain⟨ht1,g5,gs⟩:=ht;have h5:=g5 g[A] (Ap8 hA);rw[Bv,Ee,Ch hA,Aa]at h;by_cases hw:(p.length:Int)<g[A]
 ·exact⟨hw,by have:=tZ g5 g[A] (Ap8 hA);omega⟩
 rw[Aa2 (by rw[Af,Ac];simpa using hw)]at h;obtain⟨m,hm,m1,m2⟩:=Vj (Jz R) FC.2.2.2.2.1 (Ap8 hlt2);have hb:Ck w:=by rw[hd.ew];unfold Ck;omega
 obtain⟨xs,e',d1,d2,d3,d4⟩:=BE (bits:=w) (ch:=C) (n:=m) (t:=We o) (p.take g[A].toNat) hb (Pb o) FC.2.1.1 FC.2.1.2 m1 F0;have hcd:=pE hb (Pb o) FC.2.1.1 FC.2.1.2 m1 F0 d2;rw[UT o ho,Aa]at h;simp only at h;rw[Dc,Aa,Fx,Aa]at h;simp only at h;rw[hd.lg,Aa,Ch hlt2,Aa,Aa,hm,hd.ec]at h;rw[d2,Aa]at h;simp only at h;rw[Eh,Eb]at h;by_cases he:e'≠0
 ·rw[Aa8 (by rw[Ao];simpa using he)]at h;simp only[Ab5,Ahf]at h;rw[h.2]at hcd;exact absurd hcd F4
 ·have he0:e'=0:=by simpa using he
  obtain⟨k1,k2,k3⟩:=d3 he0;rw[Aa2 (by rw[Ao,he0];simp),NU hb k2 k1,Aa]at h;simp only[Ab5,Ahf]at h;exact absurd h.2 F4
def Aps(p:LB)(g:LI)(a:Int):Prop:=∃A:Nat,a=A/\ (g≠ []-> (∃h:A<g.length,(p.length:Int)<g[A]/\g[A]<=100000)\/ (A=g.length/\p.length<=4000))
theorem Wt.short{o p:LB}{f c w r n:Int}{g:LI}{a:Int}{x:LB}(W:Wt o p f c w r n g a x)(ho:o.length<=64):Aps p g a:=by
 obtain⟨hf,sz,out,h⟩:=W;cases hf with
 |new e1 e2 e3 e4 e5 e6 e7 e8=>exact⟨0,e7,λh=>absurd e6 h⟩
 |head F C W R N hd hpw e6 e7 e8=>exact⟨0,e7,λh=>absurd e6 h⟩
 |tab F C W R N A hd hpw ht hl ea hA=>
  refine⟨A,ea,λ_=>?_⟩;subst ea;rw[Ag,Bj]at h;have hfn:¬(geq f 0=true):=by rw[Ay];simpa using hd.fnz
  have ht':=ht;rw[Xe,Abd,Abi]at ht';have hgl:¬(geq (Ac g) 0=true):=by
   intro e;rw[Ay,Ac]at e;have hl1:=ht'.1.1;simp only[Asv,Abi]at e;omega
  rw[Aa2 hfn,Bk,As,Aa2 hgl]at h;by_cases hend:geq (A:Int) (Ac g)=true
  ·rw[Aa8 hend]at h;rw[Ay,Ac]at hend;simp only[Asv,Abi]at hend;refine .inr ⟨F0,?_⟩;by_cases hm:Dm (Ac p) 4000=true
   ·rw[Aa8 hm]at h;simp at h
   ·rw[Az,Ac]at hm;simp only[Abi]at hm;omega
  ·rw[Aa2 hend]at h;rw[Ay,Ac]at hend;simp only[Asv,Abi]at hend;have hlt:A<g.length:=F0
   refine .inl ⟨hlt,?_⟩;obtain⟨⟨am,y⟩,h1,h⟩:=Ru h;simp only at h;by_cases hy:Bf y 0=true
   ·rw[Aa8 hy]at h;simp only[Ab5,Ahf]at h;have:y= -1:=h.2.2.2.2.2.2.2.2.2.2.2.2;subst this;exact N7 hd ho sz.hp ht hl hlt h1
   ·rw[Aa2 hy]at h;obtain⟨z1,k1,h⟩:=Ru h;obtain⟨z2,k2,h⟩:=Ru h;obtain⟨z3,k3,h⟩:=Ru h;obtain⟨z4,k4,h⟩:=Ru h;simp at h
theorem OkU.short{o:LB}(ho:o.length<=64){L:Nat}{U:Ud}(h:OkU o L U):Aps U.p U.g U.a/\ (U.v≠0->kpU U=0):=by
 cases h with
 |live hl hB=>
  cases hB with
  |wt W hl hb=>exact⟨W.short ho,λh=>absurd rfl h⟩
  |er h0 hc hx hb=>exact⟨⟨0,rfl,λh=>absurd rfl h⟩,λ_=>rfl⟩
 |stop hx hk=>exact⟨⟨0,rfl,λh=>absurd rfl h⟩,λ_=>rfl⟩
section
variable (bk:Int->Int->LB->Int->Int->Int->Int->Int->Int->LB->Bool->Int->LB->LI->Option Bool) (inp:LB) (b:LI) (g w k:Int) (y:LB) (o p u aa v m:Int) (ab:LB) (ac:Bool) (n:Int) (ad:LB) (h:LI)
theorem At0(hh:h.length<=1000):∀(j i q:Nat) (aq:Int),i+j=h.length->j<q->∃M:Int,aq<=M/\ (∀(t:Nat) (ht:t<h.length),i<=t->h[t]<=M)/\
  Di bk inp b true g w k y o p u aa v m ab ac n ad h q aq (i:Int)=Ej bk inp b true g w k M y o p u aa v m ab ac n ad h
 |j,i,0,aq,_,hq=>absurd hq (Nat.not_lt_zero _)
 |0,i,q+1,aq,hi,hq=>by
  refine⟨aq,Int.le_refl _,λt ht hit=>by omega,?_⟩;rw[Di,Hc,Aa2 F2]
 |j+1,i,q+1,aq,hi,hq=>by
  have hlt:i<h.length:=F0
  obtain⟨M,h1,h2,h3⟩:=At0 hh j (i+1) q (aE aq h[i]) F0 F0;rw[pO]at h1;refine⟨M,F0,λt ht hit=>?_,?_⟩
  ·by_cases e:t=i
   ·subst e;omega
   ·exact h2 t ht F0
  ·rw[Di,Hc,Aa8 F2,Ch hlt,Aa,Aa,oo i F0,h3]
end
theorem Av1{o:LB}(ho:o.length<=64){U:Ud}(h:OkU o L U)(bk:Int->Int->LB->Int->Int->Int->Int->Int->Int->LB->Bool->Int->LB->LI->Option Bool)(inp:LB)(b:LI)(g w k M:Int)(hM:0<=M)(hMg:∀(t:Nat) (ht:t<U.g.length),U.g[t]<=M):
  Ej bk inp b true g w k M o U.f U.c U.w U.r U.n U.a U.X U.u U.v U.p U.g=bk (Ae g w) (Ae k 1) o U.f U.c U.w U.r U.n U.a U.X U.u U.v U.p U.g:=by
 have hs:=h.szs;have hk:=An0 ho h 0;rw[Axa]at hk;obtain⟨⟨A,hA,hsh⟩,hv⟩:=h.short ho;have e47:Lf bk inp b true g w k (kpU U:Int) o U.f U.c U.w U.r U.n U.a U.X U.u U.v U.p U.g=bk (Ae g w) (Ae k 1) o U.f U.c U.w U.r U.n U.a U.X U.u U.v U.p U.g:=by
  rw[Lf,Sk,Aa2,Sa,Ry];intro hc;simp only[Abd,Ao,Abi,Aw7,ne_eq]at hc;exact hc.2 (by rw[hv hc.1];rfl)
 have Awu:EH (Ha M 100000)=some (max (min M 100000) 8022+8000,0):=by
  rw[EH,Aa2 (by rw[GK,Af,Az];simp;omega),GK,pO,Aj]
 have hK:(kpU U:Int)=U.p.length+8*U.g.length:=by rw[kpU];omega
 have hg8:Bo 8 (Ac U.g)=8*(U.g.length:Int):=by rw[Ac,Hs]
 rw[Ej,Sg,hk,Aa];simp only;rw[Awu,Aa];simp only;have hle:(kpU U:Int)<=max (min M 100000) 8022+8000:=by
  by_cases hg:U.g=[]
  ·rw[hK,hg];simp only[List.length_nil];omega
  ·rcases hsh hg with⟨h1,h2⟩|⟨h1,h2⟩
   ·have:=hMg A h1;omega
   ·omega
 rw[Aa2 (by simp only[Ao,Az];simp;omega),Aa2 (by rw[hA,Af];simp)];by_cases hg:U.g=[]
 ·rw[Aa2 (by rw[hg];decide),Aa2 (by rw[hg];decide),Aa2 Axz];exact e47
 ·have hpos:0<U.g.length:=List.length_pos_iff.2 hg;have hp0:Dm (Ac U.g) 0=true:=by rw[Az,Ac];simp;omega
  rw[Aa8 hp0];rcases hsh hg with⟨h1,h2⟩|⟨h1,h2⟩
  ·rw[Aa8 (by rw[hA,Af,Ac];simp;omega),hA,Ch h1,Aa,Aa,Aa2,Aa8 hp0,Aa2,<-hA]
   ·exact e47
   ·rw[Ay,Ac];simp;omega
   ·have:=hMg A h1;rw[hg8,Dx];simp only[Abi];intro hc;rw[Aj]at hc;omega
  ·rw[Aa2 (by rw[hA,Af,Ac];simp;omega),Aa8 hp0,Aa2]
   ·exact e47
   ·rw[hg8,Aj,Az];simp;omega
theorem Af6{o:LB}(ho:o.length<=64){U:Ud}(h:OkU o L U):∃(u:Bool) (v k:Int),Gz o U.p U.f U.c U.w U.r U.n U.g U.a U.X U.u U.v=some (o,[],0,0,0,0,0,[],0,U.X,u,v,k)/\Gc o [] 0 0 0 0 0 [] 0 U.X u v=some 0:=by
 obtain⟨e,U',f1,f2,f3,f4⟩:=Apc ho h;cases h with
 |live hl hB=>
  have hsz:=hB.uA;obtain⟨u,v,k,h1,h2⟩:=hB.Ab8 ho F0;have h0:=h1 0;rw[Axa]at h0;refine⟨u,v,k,h0,?_⟩;rcases h2 with⟨k1,k2,k3,k4,_⟩|⟨k1,k2,_⟩
  ·exact(KP (k:=k) ho hsz.2.2 (.inl ⟨k1,k2,k3,k4⟩)).1
  ·exact(KP (k:=36) ho hsz.2.2 (.inr ⟨k1,k2,rfl⟩)).1
 |stop hx hk=>exact⟨_,_,_,(KP ho hx hk).2.2,(KP ho hx hk).1⟩
theorem Adm{o inp:LB}{b:LI}(ho:o.length<=64)(hin:inp.length<=12100)(hb:b.length<=60):∀(j i q pos:Nat) (U:Ud),i+j=b.length+1->j<q->pos<=inp.length->OkU o (inp.length-pos) U->
  Ci inp b true q (pos:Int) (i:Int) o U.f U.c U.w U.r U.n U.a U.X U.u U.v U.p U.g=some true
 |j,i,0,pos,U,_,hq,_,_=>absurd hq (Nat.not_lt_zero _)
 |0,i,q+1,pos,U,hi,hq,hp,hU=>by
  obtain⟨u,v,k,h1,h2⟩:=Af6 ho hU;rw[Ci,Hb,Aa2 (by rw[SK,Ac];simp;omega),Lc,Sj,h1,Aa];simp only;rw[Mm,h2,Aa,Aa2 F4,Aa];rfl
 |j+1,i,q+1,pos,U,hi,hq,hp,hU=>by
  have step:∀m:Nat,m<=inp.length-pos->Ku (Ci inp b true q) inp b true (pos:Int) (i:Int) o U.f U.c U.w U.r U.n U.a U.X U.u U.v U.p U.g (m:Int)=some true:=by
   intro m hm;have hg1:Ae (pos:Int) (m:Int)=((pos+m:Nat):Int):=by rw[Aj];omega
   have hl:((inp.take (pos+m)).drop pos).length=m:=by rw[Aio,Alg];omega
   obtain⟨e,U1,f1,f2,f3,f4⟩:=Akp ho hU ((inp.take (pos+m)).drop pos) (by rw[hl];exact hm);have f5:=f4 0 (Nat.zero_le _);rw[Axa,Axa]at f5;rw[hl,show inp.length-pos-m=inp.length-(pos+m) by omega]at f2;obtain⟨M,m1,m2,m3⟩:=At0 (Ci inp b true q) inp b (pos:Int) (m:Int) (i:Int) o U1.f U1.c U1.w U1.r U1.n U1.a U1.X U1.u U1.v U1.p U1.g f2.szs.2.1 U1.g.length 0 Ba 0 F0 (by have:=Ax;have:=f2.szs.2.1;omega);rw[Ku,Kz,hg1,Zp,Aly,Aly,Aa,f5,Aa];simp only;rw[Sf,Lb,Kx];refine Avk m3 ?_;rw[Av1 ho f2 _ _ _ _ _ _ _ m1 (λt ht=>m2 t ht (Nat.zero_le _)),hg1,oo i F0];exact Adm ho hin hb j (i+1) q (pos+m) U1 F0 F0 F0 f2
  rw[Ci,Hb,Aa8 (by rw[SK,Ac];simp;omega)];have hsub:Am (Ac inp) (pos:Int)=((inp.length-pos:Nat):Int):=by rw[Ac,Cf];omega
  by_cases hlt:i<b.length
  ·rw[Aa8 F2,Ch hlt,Aa,hsub,GK,pO,show min ((inp.length-pos:Nat):Int) (max 0 b[i])=((min (inp.length-pos) (max 0 b[i]).toNat:Nat):Int) by omega];exact step _ F0
  ·rw[Aa2 F2,hsub];exact step _ F0
theorem Afn(hal:Qv=some true)(k m:LB)(b:LI):Kh k m b=some true:=by
 rw[Kh,Lu,hal,Aa];by_cases ho:k.length<=64
 ·rw[Aa2 Axy,ED,Aa];by_cases hc:(((((Dm (Ac m) 5000)&&(Cm (Ac m) 12000))||(Dm (Ac m) 12100))||(Dm (Ac b) 60))||(!true))=true
  ·rw[Aa8 hc]
  ·rw[Aa2 hc];simp only[Asx,Abd,not_or,Az,Af,Ac,Abi]at hc;rw[Rz,Kw,SH,Aa2 Axy,Aa];simp only;rw[Aa2 F4,Sd];exact Adm ho F0 F0 (b.length+1) 0 Ba 0 U0 F0 F9 (Nat.zero_le _) (Aug ho F0)
 ·rw[Aa8 Axy,Aa8 Axz]
theorem law_MemoryBound(k m:LB)(b:LI):Kh k m b=some true:=Afn Aoa k m b
end Go.Pl
