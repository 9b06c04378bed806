/- A part of a proof (see the text that ends in Proof). No conditions. -/
import Derived.Test.YtheamkpclkijmaaGreatDoorMdWA
set_option linter.unusedVariables false
set_option linter.unusedSimpArgs false
namespace Go.Pl
open Go Go.Lv
def PU(bk:LB->Int->Int->Int->Int->Int->Int->LI->LB->Ap)(o:LB)(u:Bool)(v:Int):LB->Int->Int->Int->Int->Int->Int->LI->LB->Ap:=
 Ho (Mn bk o u v) (Qd bk o u v) (Kf bk o u v) (Wq bk o u v) (Mo bk o u v) (Mm bk o u v) (Xj bk o u v) (By bk o u v) (Xe bk o u v) o u v
structure SzD (p:LB) (g:LI) (a:Int) (x:LB):Prop where
 hp:p.length<=100000
 hg:g.length<=1000
 hx:x.length+12000*(g.length-a.toNat)<=13000000
def muD(f:Int)(g:LI)(a:Int):Nat:=if f=0 then 1003 else if g=[]then 1002 else g.length-a.toNat+1
section
variable {bk:LB->Int->Int->Int->Int->Int->Int->LI->LB->Ap} {o p:LB} {f c w r n:Int} {g:LI} {a:Int} {x:LB} {u:Bool} {v:Int}
theorem Amq(hp:p.length<=100000)(hg:g.length<=1000)(hx:x.length<=13000000):Dg o p f c w r n g a x u v=some (o,p,f,c,w,r,n,g,a,x,u,v):=by
 rw[Dg,Hv,Cr F9,Aa,Aa,Hv,Cr F9,Aa,Aa,Ga,Cr F9,Aa,Aa];rfl
theorem Aw1(h:SzD p g a x)(e:Int):By bk o u v p f c w r n a true e g x=some (o,p,f,c,w,r,n,g,a,x,u,v,0):=by
 rw[By,HB,Abo rfl,Amq h.hp h.hg (by have:=h.hx;omega),Aa]
theorem Av0{e:Int}(h:e≠0):By bk o u v p f c w r n a false e g x=some (o,[],0,0,0,0,0,[],0,x,false,e,e):=by
 rw[By,HB,Abl F7,Abo (by rw[Ao];simpa using h)];rfl
inductive StepR (bk:LB->Int->Int->Int->Int->Int->Int->LI->LB->Ap) (o p:LB) (f c w r n:Int) (g:LI) (a:Int) (x:LB) (u:Bool) (v:Int):Prop
 |wait:PU bk o u v p f c w r n a g x=some (o,p,f,c,w,r,n,g,a,x,u,v,0)->Ag o p f c w r n g a x u v=some (o,p,f,c,w,r,n,g,a,x,u,v, -1)->StepR bk o p f c w r n g a x u v
 |err (e:Int) {t1 t2:LB} {t3 t4 t5 t6 t7:Int} {t8:LI} {t9:Int} {t10:LB} {t11:Bool} {t12:Int}:0<e->PU bk o u v p f c w r n a g x=some (o,[],0,0,0,0,0,[],0,x,false,e,e)->
   Ag o p f c w r n g a x u v=some (t1,t2,t3,t4,t5,t6,t7,t8,t9,t10,t11,t12,e)->StepR bk o p f c w r n g a x u v
 |next (p':LB) (f' c' w' r' n':Int) (g':LI) (a':Int) (x':LB):PU bk o u v p f c w r n a g x=bk p' f' c' w' r' n' a' g' x'->Ag o p f c w r n g a x u v=some (o,p',f',c',w',r',n',g',a',x',u,v,0)->
   FitD o f' c' w' r' n' g' a' x'->SzD p' g' a' x'->p'.length<=p.length->muD f' g' a'<muD f g a->StepR bk o p f c w r n g a x u v
theorem f62{d:Bool}{e:Int}:Mn bk o u v a g x d e p f c w r n=By bk o u v p f c w r n a d e g x:=rfl
theorem f75{d:Bool}{e:Int}:Kf bk o u v f c w r n a x d e p g=By bk o u v p f c w r n a d e g x:=rfl
theorem f78{d:Bool}{e:Int}:Mm bk o u v f c w r n g d e p a x=By bk o u v p f c w r n a d e g x:=rfl
theorem mkW(hZ:SzD p g a x)(hF:PU bk o u v p f c w r n a g x=By bk o u v p f c w r n a true 0 g x)(hT:Ag o p f c w r n g a x u v=some (o,p,f,c,w,r,n,g,a,x,u,v, -1)):StepR bk o p f c w r n g a x u v:=
 .wait (hF.trans (Aw1 hZ 0)) hT
theorem mkE{e:Int}{p2:LB}{f2 c2 w2 r2 n2 a2:Int}{g2:LI}{t1 t2:LB}{t3 t4 t5 t6 t7:Int}{t8:LI}{t9:Int}{t10:LB}{t11:Bool}{t12:Int}(he:0<e)(hF:PU bk o u v p f c w r n a g x=By bk o u v p2 f2 c2 w2 r2 n2 a2 false e g2 x)
  (hT:Ag o p f c w r n g a x u v=some (t1,t2,t3,t4,t5,t6,t7,t8,t9,t10,t11,t12,e)):StepR bk o p f c w r n g a x u v:= .err e he (hF.trans (Av0 F0)) hT
theorem HdI.fnz{F C W R N:Nat}(h:HdI f c w r n F C W R N):f≠0:=by
 have:=h.num;rw[h.ef];omega
theorem Akz(hp:p.length<=100000):StepR bk o p 0 0 0 0 0 [] 0 [] u v:=by
 have hZ:SzD p [] 0 []:=⟨hp,Bab,Bab⟩;have hT:Ag o p 0 0 0 0 0 [] 0 [] u v=Ag o p 0 0 0 0 0 [] 0 [] u v:=rfl
 conv at hT=>rhs;rw[Ag,Bo,Abo F7,Zw p hp,Aa,om]
 have hF:PU bk o u v p 0 0 0 0 0 0 [] []=PU bk o u v p 0 0 0 0 0 0 [] []:=rfl
 conv at hF=>rhs;rw[PU,Ho,Abo F7,PD p F0,Aa]
 have hfn:=M4 p;have hrn:=Aal (Tc p);have hok:=OM (b:=p);simp only at hT hF;by_cases h1:(Da p).2=24
 ·rw[Abo h1]at hT;simp only at hT;rw[Abo F7]at hT;rw[Abo (by rw[Bb];simpa using h1)]at hF;exact mkW hZ hF hT
 rw[Abl h1]at hT;rw[Abl (by rw[Bb];simpa using h1)]at hF;by_cases h2:(Da p).2≠0
 ·rw[Abo h2]at hT;simp only at hT;rw[Abo (by rw[Ao];simpa using h2)]at hT;rw[Abo (by rw[Ao];simpa using h2),Ah,Aa]at hF;exact mkE F0 hF hT
 have h0:(Da p).2=0:=by simpa using h2
 obtain⟨k1,k2,k3⟩:=hok h0;have hl:(Tc p).length=p.length-(Da p).1.toNat:=by rw[Tc,Ae7]
 rw[Abl h2]at hT;rw[Abl (by rw[Ao,h0];simp),Cz,Aa,Aa,show p.drop (Da p).1.toNat=Tc p from rfl,Alw,Aa]at hF;by_cases h3:(Qy (Tc p) H7||Qy (Tc p) I2)=true
 ·rw[Abo h3]at hT hF;simp only at hT;rw[Abo F7]at hT;exact mkW hZ hF hT
 rw[Abl h3]at hT hF;rw[rN _ F0,Aa]at hF;by_cases h5:(Ek (Tc p)).2.2.2.2.2=24
 ·rw[Abo h5]at hT;simp only at hT;rw[Abo F7]at hT;rw[Abo (by rw[Bb];simpa using h5)]at hF;exact mkW hZ hF hT
 rw[Abl h5]at hT;rw[Abl (by rw[Bb];simpa using h5)]at hF;simp only at hT;by_cases h6:(Ek (Tc p)).2.2.2.2.2≠0
 ·rw[Abo (by rw[Ao];simpa using h6)]at hT hF;rw[Ah,Aa]at hF;exact mkE (by have:=hrn;generalize(Ek (Tc p)).2.2.2.2.2=z at *;omega) (hF.trans f62) hT
 have h7:(Ek (Tc p)).2.2.2.2.2=0:=by simpa using h6
 obtain⟨r1,h22,r3,r4⟩:=Aac h7;rw[Abl (by rw[Ao,h7];simp),Cz,Aa,Fu,Ft,Dq]at hT;rw[Abl (by rw[Ao,h7];simp),Aj,Cz,Aa,Qd,WW,Mw]at hF;simp only at hT hF;by_cases h8:((o==([]:LB)) !=geq (Ek (Tc p)).1 1)=true
 ·rw[Abo h8]at hT hF;rw[Aa]at hT hF;rw[Ah,Aa]at hF;simp only at hF;exact mkE F7 (hF.trans f62) hT
 ·rw[Abl h8]at hT hF;rw[Aa]at hT hF;rw[Ah,Aa]at hF;have hd:HdI (Ek (Tc p)).1 (Ek (Tc p)).2.1 (Ek (Tc p)).2.2.1 (Ek (Tc p)).2.2.2.1 (Ek (Tc p)).2.2.2.2.1 (f0 (Tc p)) (f1 (Tc p)) (f2 (Tc p)) (f3 (Tc p)) (f4 (Tc p)):=by
   constructor<;>first|(rw[r1])|assumption
  refine .next _ _ _ _ _ _ [] 0 [] (by exact hF) hT (.head _ _ _ _ _ hd ?_ rfl rfl rfl) ⟨by rw[Ae7];omega,Bab,Bab⟩ Bai ?_
  ·have e:geq (Ek (Tc p)).1 1=decide (f0 (Tc p)=1):=by rw[hd.ef,Bb,Aks];simp;omega
   rw[<-e];simpa using h8
  ·rw[muD,muD,Abl hd.fnz,Abo rfl,Abo rfl];omega
section
variable {F C W R N:Nat} (hd:HdI f c w r n F C W R N)
include hd
theorem Af3(hp:p.length<=100000)(hpw:(o==([]:LB))=decide (F=1))(A:Nat)(hA:A<=p.length)
  (hT:Ag o p f c w r n [] 0 [] u v=(Dn p f c w r n (A:Int)).bind (λ(ag,ak,w1)=>if(Bg w1 0)then some (o,p,f,c,w,r,n,([]:LI),(0:Int),([]:LB),u,v,w1)else(Bi p ag (Ac p)).bind λal=>some (o,al,f,c,w,r,n,ak,(0:Int),([]:LB),u,v,(0:Int))))
  (hF:PU bk o u v p f c w r n 0 [] []=Mo bk o u v p f c w r n 0 [] [] (A:Int)):StepR bk o p f c w r n [] 0 [] u v:=by
 have hZ:SzD p [] 0 []:=⟨hp,Bab,Bab⟩;obtain⟨_,t2,t3⟩:=yL hd o p hp A hA 0 [] u v;have hs:=R5 (p.drop A) (Al (As R) N).length Bai;have hnn:=Aas (p.drop A) (Al (As R) N).length;have hok:=ql (b:=p.drop A) (n:=(Al (As R) N).length);rw[t2,Aa]at hT;rw[Mo,Xk,hd.qA,Aa]at hF;simp only at hF;rw[Abl F7,Cz,Aa,Ajr,Ac,hs,Aa]at hF;generalize hz:If (p.drop A) (Al (As R) N).length=z at*
 obtain⟨z1,z2⟩:=z;simp only at*
 by_cases h1:z2=24
 ·rw[Abo h1]at hT;simp only at hT;rw[Abo F7]at hT;rw[Abo (by rw[Bb];simpa using h1)]at hF;exact mkW hZ hF hT
 rw[Abl h1]at hT;rw[Abl (by rw[Bb];simpa using h1)]at hF;simp only at hT;by_cases h2:z2≠0
 ·rw[Abo (by rw[Ao];simpa using h2)]at hT hF;rw[Ah,Aa]at hF;exact mkE F0 hF hT
 ·have h0:z2=0:=by simpa using h2
  subst h0;have h3:=t3 rfl;obtain⟨k1,k2,k3,k4,k5,k6⟩:=hok rfl;simp only[Afp,Az6]at k1;have hl:z1.length=(Al (As R) N).length:=by rw[k1];exact JX _ _
  rw[<-k1]at k5 k6;rw[Abl F7,Cz,Aa]at hT;rw[Abl F7,Ac,Adp A z1.length F0 F0,Cz,Aa]at hF;have hne:z1≠ []:=by intro e;rw[e]at hl;simp at hl;omega
  refine .next _ _ _ _ _ _ z1 0 [] (by exact hF) hT (.tab _ _ _ _ _ 0 hd hpw ?_ hl rfl F0) ⟨by rw[Ae7];omega,F0,by simp;omega⟩ Bai ?_
  ·rw[AK,Abp,Adf,OB z1 100000 F0];exact⟨F0,k5,k6⟩
  ·rw[muD,muD,Abl hd.fnz,Abl hd.fnz,Abo rfl,Abl hne];simp;omega
theorem Ail(ho:o.length<=64)(hp:p.length<=100000)(hpw:(o==([]:LB))=decide (F=1)):StepR bk o p f c w r n [] 0 [] u v:=by
 have hZ:SzD p [] 0 []:=⟨hp,Bab,Bab⟩;have hT:Ag o p f c w r n [] 0 [] u v=Ag o p f c w r n [] 0 [] u v:=rfl
 conv at hT=>rhs;rw[Ag,Bo,Abl hd.ne0,Bq,Bc,Abo F7,Ew,Im]
 have hF:PU bk o u v p f c w r n 0 [] []=PU bk o u v p f c w r n 0 [] []:=rfl
 conv at hF=>rhs;rw[PU,Ho,Abl hd.ne0,Abo F7]
 by_cases h2:geq f 2=true
 ·rw[Abo h2]at hT hF;by_cases h8:p.length<8
  ·rw[Abo F5]at hT hF;rw[Aa]at hT;simp only at hT;rw[Abo F7]at hT;exact mkW hZ hF hT
  ·rw[Abl F5]at hT hF;have h8':(p.take 8).length=8:=by rw[Agw];omega
   rw[Cw,Aa,K1 o ho,Aa]at hT;rw[Wq,HH,Cw,Aa,show(8:Int).toNat=8 from rfl,qz h8' ho,Aa]at hF;rw[show(8:Int).toNat=8 from rfl]at hT;simp only at hF;rw[VF,IE,Abl F7]at hF;by_cases he:(p.take 8==FU (BA o).toNat 8)=true
   ·rw[Abl (by rw[bne,he];decide)]at hT;rw[Abl (by rw[he];decide)]at hF;exact Af3 hd hp hpw 8 F0 hT hF
   ·have he':(p.take 8==FU (BA o).toNat 8)=false:=by simpa using he
    rw[Abo (by rw[bne,he'];decide),Aa]at hT;simp only at hT;rw[Abo F7]at hT;rw[Abo (by rw[he'];decide),Ah,Aa]at hF;simp only at hF;exact mkE F7 (hF.trans f75) hT
 ·rw[Abl h2]at hT hF;exact Af3 hd hp hpw 0 F0 hT hF
theorem Am7(ho:o.length<=64)(hpw:(o==([]:LB))=decide (F=1))(hg:AK g=true)(hl:g.length=(Al (As R) N).length)(A:Nat)(hA:A<=g.length)(hZ:SzD p g (A:Int) x):StepR bk o p f c w r n g (A:Int) x u v:=by
 have hp:=hZ.hp;have hx:=hZ.hx;have hc:=hd.ec;subst hc;have hg':=hg;rw[AK,Abp,Adf,OB g 100000 F0]at hg';obtain⟨⟨g1,g2⟩,g5,g6⟩:=hg';have hgn:¬(geq (Ac g) 0=true):=by rw[Bb,Ac];simp;intro e;subst e;simp at g1
 have hT:Ag o p f (C:Int) w r n g (A:Int) x u v=Ag o p f (C:Int) w r n g (A:Int) x u v:=rfl
 conv at hT=>rhs;rw[Ag,Bo,Abl hd.ne0,Bq,Bc,Abl hgn]
 have hF:PU bk o u v p f (C:Int) w r n (A:Int) g x=PU bk o u v p f (C:Int) w r n (A:Int) g x:=rfl
 conv at hF=>rhs;rw[PU,Ho,Abl hd.ne0,Abl hgn]
 by_cases hA2:A=g.length
 ·subst hA2;rw[Abo (by rw[Bb,Ac];simp)]at hT;rw[Abl Baz]at hF;by_cases h4:4000<p.length
  ·rw[Abo Baa]at hT hF;rw[Ah,Aa]at hF;exact mkE F7 hF hT
  ·rw[Abl Baa]at hT hF;exact mkW hZ hF hT
 ·have hlt:A<g.length:=F0
  have h5:=g5 g[A] (Ao8 hlt);have hsum:=S0 g5 g[A] (Ao8 hlt);rw[Abl (by rw[Bb,Ac];simp;omega),Cs,Gk,Cf hlt,Aa]at hT;rw[Abo F5,Cf hlt,Aa,Aa]at hF;by_cases hw:(p.length:Int)<g[A]
  ·rw[Abo (by rw[Af,Ac];simpa using hw)]at hT hF;rw[Aa]at hT;simp only at hT;rw[Abo F7]at hT;exact mkW hZ hF hT
  rw[Abl (by rw[Af,Ac];simpa using hw)]at hT hF;have SB:=hd.num;have hlt2:A<(Al (As R) N).length:=F0
  obtain⟨m,hm,m1,m2⟩:=Zu (La R) SB.2.2.2.2.1 (Ao8 hlt2);have hb:Cp w:=by rw[hd.ew];unfold Cp;omega
  obtain⟨xs,e,d1,d2,d3,d4⟩:=JR (bits:=w) (ch:=C) (n:=m) (t:=Yc o) (p.take g[A].toNat) hb (Vw o) SB.2.1.1 SB.2.1.2 m1 F0;have hnn:=M0 hb (Vw o) SB.2.1.1 SB.2.1.2 m1 F0 d2;rw[P4 o ho,Aa]at hF;simp only at hF;rw[Abl F7,hd.qA,Aa]at hF;simp only at hF;rw[Abl (by simp[Ao,Dz,Ac];omega),Xj,HG,Cf hlt2,Aa,Cw,Aa,Aa,Yt,Aa]at hF;simp only at hF;rw[hm,d1,Aa]at hF;simp only at hF;rw[fE o ho,Aa]at hT;simp only at hT;rw[Cw,Aa,Hm,Aa]at hT;simp only at hT;rw[hd.Acu,Aa,Cf hlt2,Aa,Aa,hm]at hT;rw[d2,Aa]at hT;simp only at hT;rw[Gn,Gf]at hT;rw[HU,Xa]at hF;by_cases he:e≠0
  ·rw[Abo (by rw[Ao];simpa using he)]at hT hF;rw[Aa]at hT;simp only at hT;rw[Abo (by rw[Ao];simpa using he)]at hT;rw[Ah,Aa]at hF;exact mkE F0 hF hT
  ·have he0:e=0:=by simpa using he
   obtain⟨k1,k2,k3⟩:=d3 he0;have hbl:=IF w xs;have ht:((A:Int)).toNat=A:=rfl;rw[ht]at hx;rw[Abl (by rw[Ao,he0];simp)]at hT hF;rw[VZ hb k2 k1,Aa,Aa]at hT;simp only at hT;rw[Abl F7,Cr F9,Aa,Ass,Cr,Aa,Aa,Cz,Aa,Aj]at hT;rw[lN hb k2 k1,Aa]at hF;simp only at hF;rw[Abl F7,Cr,Aa,Cz,Aa,Aj]at hF;have e1:((A:Int)+1).toNat=A+1:=rfl;refine .next _ _ _ _ _ _ _ _ _ (by exact hF) hT (.tab _ _ _ _ _ (A+1) hd hpw hg hl rfl F0) ⟨by rw[Ae7];omega,hZ.hg,by rw[e1,Abq];omega⟩ Bai ?_
   have hne:g≠ []:=by intro e;subst e;simp at g1
   rw[muD,muD,Abl hd.fnz,Abl hd.fnz,Abl hne,Abl hne,e1,ht];omega
end
theorem yV(hf:FitD o f c w r n g a x)(ho:o.length<=64)(hZ:SzD p g a x):StepR bk o p f c w r n g a x u v:=by
 cases hf with
 |new e1 e2 e3 e4 e5 e6 e7 e8=>subst e1 e2 e3 e4 e5 e6 e7 e8;exact Akz hZ.hp
 |head F C W R N h hpw e6 e7 e8=>subst e6 e7 e8;exact Ail h ho hZ.hp hpw
 |tab F C W R N A h hpw ht hl ea hA=>subst ea;exact Am7 h ho hpw ht hl A hA hZ
end
abbrev Ax7:=LB×LB×Int×Int×Int×Int×Int×LI×Int×LB×Bool×Int×Int
theorem Anb:∀(j:Nat) (b:LB) (a:Nat),(Y3 j b a).2=0\/ (Y3 j b a).2=38
 |0,_,_=> .inr rfl
 |j+1,b,a=>by
  rw[Y3];split
  ·exact .inl rfl
  ·split
   ·exact .inr rfl
   ·exact Anb j _ _
theorem Aht(b:LB):(IU b).2=0\/ (IU b).2=38:=by
 rw[IU];split
 ·exact .inr rfl
 ·exact Anb _ _ _
theorem WJ{o p:LB}{f c w r n:Int}{g:LI}{a:Int}{x:LB}{u:Bool}{v:Int}(hp:p.length<=100000)(hg:g.length<=2000)(hx:x.length<=13000000):Ky o p f c w r n g a x u v=some (o,p,f,c,w,r,n,g,a,x,u,v):=by
 rw[Ky,Oh,Cr F9,Aa,Cr F9,Aa,Ok,Oj,Cr F9,Aa];rfl
theorem N9{o p:LB}{f c w r n:Int}{g:LI}{a:Int}{x:LB}{u:Bool}{v:Int}(hp:p.length<=100000)(hg:g.length<=2000)(hx:x.length<=13000000):Dg o p f c w r n g a x u v=some (o,p,f,c,w,r,n,g,a,x,u,v):=by
 rw[Dg,Hv,Cr F9,Aa,Aa,Hv,Cr F9,Aa,Aa,Ga,Cr F9,Aa,Aa];rfl
theorem zK{o p:LB}{f c w r n:Int}{g:LI}{a:Int}{x:LB}{u:Bool}{v e:Int}(hx:x.length<=13000000):Ma o p f c w r n g a x u v e=some (o,[],0,0,0,0,0,[],0,x,false,e,e):=by
 rw[Ma,Ux,Cr F9,Aa];rfl
theorem Ama{p:LB}{f:Int}{g:LI}{a:Int}{x:LB}(h:SzD p g a x):muD f g a<1004:=by
 have:=h.hg;unfold muD;split
 ·omega
 ·split<;>omega
section
variable {o p:LB} {f c w r n:Int} {g:LI} {a:Int} {x:LB} {u:Bool} {v:Int} (hp:p.length<=20000) (hg:g.length<=2000) (hx:x.length<=13000000)
include hp hg hx
theorem nU{E:Int}(hE:Et o p f c w r n g a x u v=some E):Po o p f c w r n g a x u v=if E≠0 then some ([],[],0,0,0,0,0,[],0,[],false,0,E)else some (o,p,f,c,w,r,n,g,a,x,u,v,if v≠0 then v else if u=true then 36 else 0):=by
 rw[Po,hE,Aa];by_cases h:E≠0
 ·rw[Abo (by rw[Ao];simpa using h),Abo h]
 rw[Abl (by rw[Ao];simpa using h),Abl h,N9 F0 hg F0];by_cases hv:v≠0
 ·rw[Abo (by rw[Ao];simpa using hv),Abo hv,Aa]
 ·rw[Abl (by rw[Ao];simpa using hv),Abl hv];cases u<;>simp[Aa]
omit hg hx in
theorem qd:∃e,Vq o p f c w r n g a x u v=some e/\Pr o p f c w r n g a x u v=some e:=by
 rw[Vq,Pr];by_cases h0:geq f 0=true
 ·rw[Abo h0,Abo h0,PD p F0,YU p F0,Aa,Aa];have hok:=OM (b:=p);simp only;by_cases h2:(Da p).2≠0
  ·rw[Abo (by rw[Ao];simpa using h2),Abo (by rw[Ao];simpa using h2)];exact⟨_,rfl,rfl⟩
  have h3:(Da p).2=0:=by simpa using h2
  obtain⟨k1,k2,k3⟩:=hok h3;have hl:(Tc p).length<=p.length:=by rw[Tc,Ae7];omega
  rw[Abl (by rw[Ao,h3];simp),Abl (by rw[Ao,h3];simp),Cz,Aa,Aa,show p.drop (Da p).1.toNat=Tc p from rfl,rN _ F0,wV _ F0,Aa];exact⟨_,rfl,rfl⟩
 ·rw[Abl h0,Abl h0,Bool.or_comm];by_cases h1:(geq (Ac g) 0||Ch a (Ac g))=true
  ·rw[Abo h1,Abo h1];exact⟨_,rfl,rfl⟩
  ·rw[Abl h1,Abl h1,tJ p F0,Adt p F0,Aa,Aa];simp only;refine⟨(IU p).2,rfl,?_⟩;rcases Aht p with h|h
   ·rw[Abl (by rw[h];decide),h]
   ·rw[Abo (by rw[h];decide),h]
end
theorem Uk{α β:Type}{o:Option α}{f:α->Option β}{r:β}(h:Option.bind o f=some r):∃x,o=some x/\f x=some r:=by
 cases o with
 |none=>cases h
 |some x=>exact⟨x,rfl,h⟩
theorem Anv{α:Type}{l:List α}{i:Int}{x:α}(h:Go.Lv.Ak l i=some x):x∈l:=by
 unfold Go.Lv.Ak at h;split at h
 ·exact List.mem_of_getElem? h
 ·cases h
theorem C0{o p:LB}(q:LB){f c w r n:Int}{g:LI}{a:Int}{x:LB}{u:Bool}{v:Int}{y:LB}{e:Int}(hg:∀z∈g,0<=z)(h:Cs o p f c w r n g a x u v=some (y,e))(he:e≠ -1):Cs o (p++q) f c w r n g a x u v=some (y,e):=by
 rw[Cs,Gk]at h⊢;obtain⟨l,hl,h⟩:=Uk h;have hl0:=hg l (Anv hl);rw[hl,Aa];by_cases hc:(p.length:Int)<l
 ·rw[Abo (by rw[Af,Ac];simpa using hc)]at h;cases h;exact absurd rfl he
 ·have hc':¬(Ch (Ac (p++q)) l=true):=by rw[Af,Ac,Abq];simp;omega
  rw[Abl (by rw[Af,Ac];simpa using hc)]at h;rw[Abl hc',Cw hl0 Baq,Ls F0];rw[Cw hl0]at h;simpa only[Gn,Gf]using h
theorem Abf{f c w r n:Int}{F C W R N:Nat}(hd:HdI f c w r n F C W R N){p:LB}(q:LB)(hp:(p++q).length<=100000){A:Nat}(hA:A<=p.length){k:Int}{l:LI}{e:Int}(h:Dn p f c w r n (A:Int)=some (k,l,e))(he:e≠ -1):
  Dn (p++q) f c w r n (A:Int)=some (k,l,e)/\ (e=0->0<=k/\k<=p.length):=by
 have hp':p.length<=100000:=by rw[Abq]at hp;omega
 obtain⟨_,t2,t3⟩:=yL hd [] p hp' A hA 0 [] false 0;obtain⟨_,s2,_⟩:=yL hd [] (p++q) hp A Baq 0 [] false 0;rw[t2]at h;rw[s2,Aw7 hA];by_cases h1:(If (p.drop A) (Al (As R) N).length).2=24
 ·rw[Abo h1]at h;cases h;exact absurd rfl he
 ·rw[Abl h1]at h;rw[Aiq q _ h1,Abl h1];refine⟨h,λe0=>?_⟩;cases h;have:=t3 e0;constructor
  ·omega
  ·exact this
theorem zV{f c w r n:Int}{F C W R N:Nat}(hd:HdI f c w r n F C W R N){o p:LB}(q:LB)(hp:(p++q).length<=100000){k:Int}{l:LI}{e:Int}(h:Ew p f c w r n o=some (k,l,e))(he:e≠ -1):
  Ew (p++q) f c w r n o=some (k,l,e)/\ (e=0->0<=k/\k<=p.length):=by
 rw[Ew,Im]at h⊢;by_cases hf:geq f 2=true
 ·rw[Abo hf]at h⊢;by_cases h8:p.length<8
  ·rw[Abo F5]at h;cases h;exact absurd rfl he
  ·have n1:¬(Ch (Ac p) 8=true):=by rw[Af,Ac];simp;omega
   have n2:¬(Ch (Ac (p++q)) 8=true):=by rw[Af,Ac,Abq];simp;omega
   rw[Abl n1,Cw F7,Aa]at h;rw[Abl n2,Cw F7 Baq,Aa,Ls (show(8:Int).toNat<=p.length from by simp;omega)];obtain⟨y,hy,h⟩:=Uk h;rw[hy,Aa];by_cases hm:(p.take (8:Int).toNat !=y)=true
   ·rw[Abo hm]at h⊢;cases h;exact⟨rfl,λe=>by cases e⟩
   ·rw[Abl hm]at h⊢;exact Abf hd q hp (A:=8) F0 h he
 ·rw[Abl hf]at h⊢;exact Abf hd q hp (A:=0) F0 h he
theorem YP{p q af:LB}{n:Int}(h:Bi p n (Ac p)=some af):Bi (p++q) n (Ac (p++q))=some (af++q):=by
 unfold Bi Ac at h⊢;split at h
 ·rename_i hc;cases h;rw[Abo ⟨hc.1,by rw[Abq];omega,F0⟩];simp only[Ajr,Ayh];rw[Aw7 F0]
 ·cases h
theorem eE{o p:LB}(q:LB){f c w r n:Int}{g:LI}{a:Int}{x:LB}{u:Bool}{v:Int}(hf:FitD o f c w r n g a x)(hp:(p++q).length<=100000){t1 t2:LB}{t3 t4 t5 t6 t7:Int}{t8:LI}{t9:Int}{t10:LB}{t11:Bool}{t12 e:Int}
  (h:Ag o p f c w r n g a x u v=some (t1,t2,t3,t4,t5,t6,t7,t8,t9,t10,t11,t12,e)) (he:e≠ -1):
  (e=0->Ag o (p++q) f c w r n g a x u v=some (t1,t2++q,t3,t4,t5,t6,t7,t8,t9,t10,t11,t12,0))/\
  (e≠0->∃(s1 s2:LB) (s3 s4 s5 s6 s7:Int) (s8:LI) (s9:Int) (s10:LB) (s11:Bool) (s12:Int),Ag o (p++q) f c w r n g a x u v=some (s1,s2,s3,s4,s5,s6,s7,s8,s9,s10,s11,s12,e)):=by
 have hp':p.length<=100000:=by rw[Abq]at hp;omega
 have zero:¬(Bg (0:Int) 0=true):=F7
 rw[Ag,Bo]at h⊢;cases hf with
 |new e1 e2 e3 e4 e5 e6 e7 e8=>
  subst e1;rw[Abo F7,Zw p hp',Aa]at h;rw[Abo F7,Zw (p++q) hp,Aa];have hst:(om p).2.2.2.2.2.2≠ -1->om (p++q)=om p:=Apa q;generalize om p=z at h hst;obtain⟨z1,z2,z3,z4,z5,z6,z7⟩:=z;simp only at h hst;by_cases hz:Bg z7 0=true
  ·rw[Abo hz]at h;simp only[Ac9,Afp]at h;obtain⟨-, -, -, -, -, -, -, -, -, -, -, -,rfl⟩:=h;rw[hst he];simp only;rw[Abo hz];refine⟨λe0=>?_,λ_=>⟨_,_,_,_,_,_,_,_,_,_,_,_,rfl⟩⟩;rw[e0]at hz;exact absurd hz zero
  ·rw[Abl hz]at h;have z70:z7=0:=by rw[Ao]at hz;simpa using hz
   rw[hst (by rw[z70];decide)];simp only;rw[Abl hz];obtain⟨af,h1,h⟩:=Uk h;rw[YP h1,Aa];rw[Fu,Ft]at h⊢;obtain⟨aw,h2,h⟩:=Uk h;rw[h2,Aa];simp only[Ac9,Afp]at h;obtain⟨rfl,rfl,rfl,rfl,rfl,rfl,rfl,rfl,rfl,rfl,rfl,rfl,rfl⟩:=h;exact⟨λe0=>by rw[e0],λ_=>⟨_,_,_,_,_,_,_,_,_,_,_,_,rfl⟩⟩
 |head F C W R N hd hpw e6 e7 e8=>
  subst e6;have hfn:¬(geq f 0=true):=by rw[Bb];simpa using hd.fnz
  rw[Abl hfn,Bq,Bc,Abo F7]at h⊢;obtain⟨⟨k,l,e1⟩,h1,h⟩:=Uk h;simp only at h;by_cases hz:Bg e1 0=true
  ·rw[Abo hz]at h;simp only[Ac9,Afp]at h;obtain⟨-, -, -, -, -, -, -, -, -, -, -, -,rfl⟩:=h;rw[(zV hd q hp h1 he).1,Aa];simp only;rw[Abo hz];refine⟨λe0=>?_,λ_=>⟨_,_,_,_,_,_,_,_,_,_,_,_,rfl⟩⟩;rw[e0]at hz;exact absurd hz zero
  ·rw[Abl hz]at h;have z70:e1=0:=by rw[Ao]at hz;simpa using hz
   rw[(zV hd q hp h1 (by rw[z70];decide)).1,Aa];simp only;rw[Abl hz];obtain⟨af,h2,h⟩:=Uk h;rw[YP h2,Aa];simp only[Ac9,Afp]at h;obtain⟨rfl,rfl,rfl,rfl,rfl,rfl,rfl,rfl,rfl,rfl,rfl,rfl,rfl⟩:=h;exact⟨λe0=>rfl,λe0=>absurd rfl e0⟩
 |tab F C W R N A hd hpw ht hl ea hA=>
  have hfn:¬(geq f 0=true):=by rw[Bb];simpa using hd.fnz
  have ht':=ht;rw[AK,Abp,Adf]at ht';have hgl:¬(geq (Ac g) 0=true):=by
   intro e;rw[Bb,Ac]at e;have hl1:=ht'.1.1;simp only[Auy,Adf]at e;omega
  rw[Abl hfn,Bq,Bc,Abl hgl]at h⊢;by_cases hend:geq a (Ac g)=true
  ·rw[Abo hend]at h⊢;by_cases hm:Dw (Ac p) 4000=true
   ·have hm':Dw (Ac (p++q)) 4000=true:=by rw[Ax,Ac]at hm⊢;simp only[Adf]at hm⊢;rw[Abq];omega
    rw[Abo hm]at h;rw[Abo hm'];simp only[Ac9,Afp]at h;obtain⟨-, -, -, -, -, -, -, -, -, -, -, -,rfl⟩:=h;exact⟨(λe0=>by cases e0),λ_=>⟨_,_,_,_,_,_,_,_,_,_,_,_,rfl⟩⟩
   ·rw[Abl hm]at h;simp only[Ac9,Afp]at h;obtain⟨-, -, -, -, -, -, -, -, -, -, -, -,rfl⟩:=h;exact absurd rfl he
  ·rw[Abl hend]at h⊢;have hpos:∀z∈g,0<=z:=by
    have:=(OB g 100000 F0).1 ht'.2;intro z hz;have:=this.1 z hz;omega
   obtain⟨⟨y,e1⟩,h1,h⟩:=Uk h;simp only at h;by_cases hz:Bg e1 0=true
   ·rw[Abo hz]at h;simp only[Ac9,Afp]at h;obtain⟨-, -, -, -, -, -, -, -, -, -, -, -,rfl⟩:=h;rw[C0 q hpos h1 he,Aa];simp only;rw[Abo hz];refine⟨λe0=>?_,λ_=>⟨_,_,_,_,_,_,_,_,_,_,_,_,rfl⟩⟩;rw[e0]at hz;exact absurd hz zero
   ·rw[Abl hz]at h;have z70:e1=0:=by rw[Ao]at hz;simpa using hz
    rw[C0 q hpos h1 (by rw[z70];decide),Aa];simp only;rw[Abl hz];obtain⟨an,h2,h⟩:=Uk h;rw[h2,Aa];obtain⟨ah,h3,h⟩:=Uk h;rw[h3,Aa];obtain⟨ad,h4,h⟩:=Uk h;rw[h4,Aa];obtain⟨ae,h5,h⟩:=Uk h;rw[YP h5,Aa];simp only[Ac9,Afp]at h;obtain⟨rfl,rfl,rfl,rfl,rfl,rfl,rfl,rfl,rfl,rfl,rfl,rfl,rfl⟩:=h;exact⟨λe0=>rfl,λe0=>absurd rfl e0⟩
theorem Baw{p:Prop}(h:p:=by rw[eQ (by omega)];decide):p:=h
end Go.Pl
namespace Go.Pl
open Go Go.Lv
variable{u t11:Bool}{F C W R N A:Nat}
def Awr(o:LB)(K:Nat)(u:Bool)(v:Int)(X Y:Option Ax7):Prop:=∃(t1 t2:LB) (t3 t4 t5 t6 t7:Int) (t8:LI) (t9:Int) (t10:LB) (t11:Bool) (t12 e:Int),X=some (t1,t2,t3,t4,t5,t6,t7,t8,t9,t10,t11,t12,e)/\Y=some (t1,t2,t3,t4,t5,t6,t7,t8,t9,t10,t11,t12,e)/\t10.length<=13000000/\
 (e=0->t1=o/\t2.length<=K/\FitD o t3 t4 t5 t6 t7 t8 t9 t10/\SzD t2 t8 t9 t10/\t11=u/\t12=v)
theorem zZ(K:Nat):∀(k q1 q2:Nat) (o p:LB) (f c w r n:Int) (g:LI) (a:Int) (x:LB) (u:Bool) (v:Int),FitD o f c w r n g a x->o.length<=64->SzD p g a x->p.length<=K->muD f g a<k->k<=q1->k<=q2->
  Awr o K u v (Bd o u v q1 p f c w r n a g x) (Ay q2 o p f c w r n g a x u v)
 |0,_,_,_,_,_,_,_,_,_,_,_,_,_,_,_,_,_,_,h,_,_=>by omega
 |k+1,q1,q2,o,p,f,c,w,r,n,g,a,x,u,v,hf,ho,hZ,hK,hm,h1,h2=>by
  obtain⟨q1,rfl⟩:∃q,q1=q+1:=⟨q1-1,F0⟩;obtain⟨q2,rfl⟩:∃q,q2=q+1:=⟨q2-1,F0⟩;have hx:x.length<=13000000:=by have:=hZ.hx;omega
  rw[Bd,Ay,Bp];have hS:StepR (Bd o u v q1) o p f c w r n g a x u v:=yV hf ho hZ;cases hS with
  |wait hF hT=>
   rw[hT,Aa];simp only;rw[Abo F7,WJ hZ.hp (by have:=hZ.hg;omega) hx,Aa];exact⟨_,_,_,_,_,_,_,_,_,_,_,_,_,hF,rfl,hx,λ_=>⟨rfl,hK,hf,hZ,rfl,rfl⟩⟩
  |err e he hF hT=>
   rw[hT,Aa];simp only;rw[Abl Baw,Abo Baf,zK hx,Aa];exact⟨_,_,_,_,_,_,_,_,_,_,_,_,_,hF,rfl,hx,λh=>absurd h F0⟩
  |next p' f' c' w' r' n' g' a' x' hF hT hf' hZ' hle hmu=>
   rw[hT,Aa];simp only;rw[Abl F7,Abl F7];have ih:=zZ K k q1 q2 o p' f' c' w' r' n' g' a' x' u v hf' ho hZ' F0 F0 F0 F0;have hF':Ho (Mn (Bd o u v q1) o u v) (Qd (Bd o u v q1) o u v) (Kf (Bd o u v q1) o u v) (Wq (Bd o u v q1) o u v) (Mo (Bd o u v q1) o u v) (Mm (Bd o u v q1) o u v) (Xj (Bd o u v q1) o u v) (By (Bd o u v q1) o u v) (Xe (Bd o u v q1) o u v) o u v p f c w r n a g x=Bd o u v q1 p' f' c' w' r' n' a' g' x':=hF;rw[hF'];exact ih
theorem Awo{o p:LB}{f c w r n:Int}{g:LI}{a:Int}{x:LB}(ho:o.length<=64)(hf:FitD o f c w r n g a x)(hZ:SzD p g a x)(b:LB)(hp:p.length<=20000)(hb:b.length<=20000):
  Awr o (p.length+b.length) false 0 (Cv o p f c w r n g a x false 0 b) (Ic o p f c w r n g a x false 0 b):=by
 have hx:x.length<=13000000:=by have:=hZ.hx;omega
 have hg:g.length<=2000:=by have:=hZ.hg;omega
 obtain⟨E,e1,e2⟩:=pN o p f c w r n g a x false 0 F0 F0 F0;rw[Cv,Sj,nU hp hg hx e1,Ic,Oz,e2,Aa];by_cases h:E≠0
 ·rw[Abo h,Aa,Abo (by rw[Ao];simpa using h)];simp only;rw[Abo (by rw[Ao];simpa using h)];exact⟨_,_,_,_,_,_,_,_,_,_,_,_,_,rfl,rfl,Bab,λh'=>absurd h' h⟩
 have h0:E=0:=by simpa using h
 subst h0;have hE:¬(Bg (0:Int) 0=true):=F7
 rw[Abl h,Aa,Abl hE,WJ F0 hg F0,Aa];simp only;have hF:¬(false=true):=F7
 rw[Ou,Abl (show ¬((0:Int)≠0)from λh=>h rfl),Abl hF]
 repeat (first|rw[Aa]|rw[Abl hE]|rw[Abl hF])
 rw[Cr];rw[Aa,Aa];have hZ':SzD (p++b) g a x:=⟨by rw[Abq];omega,hZ.hg,hZ.hx⟩;exact zZ _ 1004 Ar Ar o (p++b) f c w r n g a x false 0 hf ho hZ' (by rw[Abq];exact An1 _) (Ama hZ') Az9 Az9
def OutB(f c w r n:Int)(g:LI)(a:Int)(x:LB):Prop:=∀(F C W R N A:Nat),HdI f c w r n F C W R N->g≠ []->a=(A:Int)-> (x.length:Int)<=CC C W (Al (As R) N) A
theorem OutB.nil{f c w r n:Int}{a:Int}{x:LB}:OutB f c w r n [] a x:=λ_ _ _ _ _ _ _ h=>absurd rfl h
theorem OutB.zero{f c w r n:Int}{g:LI}:OutB f c w r n g 0 []:=λF C W R N A h hg ha=>by
 obtain rfl:A=0:=F0
 rw[Acv];simp
theorem Adu{o p:LB}{f c w r n:Int}(hd:HdI f c w r n F C W R N)(ho:o.length<=64)(hp:p.length<=100000){g:LI}(ht:AK g=true)(hl:g.length=(Al (As R) N).length)(hA:A<g.length){x:LB}{v:Int}{y:LB}{e:Int}
  (h:Cs o p f c w r n g (A:Int) x u v=some (y,e)) (he:e=0):∃m:Nat,(Al (As R) N)[A]' F0=(m:Int)/\y.length=m*C*wB (W:Int):=by
 subst he;have hlt2:A<(Al (As R) N).length:=F0
 have SB:=hd.num;rw[AK,Abp,Adf,OB g 100000 F0]at ht;obtain⟨ht1,g5,gs⟩:=ht;have h5:=g5 g[A] (Ao8 hA);rw[Cs,Gk,Cf hA,Aa]at h;by_cases hw:(p.length:Int)<g[A]
 ·rw[Abo (by rw[Af,Ac];simpa using hw)]at h;cases h
 rw[Abl (by rw[Af,Ac];simpa using hw)]at h;obtain⟨m,hm,m1,m2⟩:=Zu (La R) SB.2.2.2.2.1 (Ao8 hlt2);have hb:Cp w:=by rw[hd.ew];unfold Cp;omega
 obtain⟨xs,e,d1,d2,d3,d4⟩:=JR (bits:=w) (ch:=C) (n:=m) (t:=Yc o) (p.take g[A].toNat) hb (Vw o) SB.2.1.1 SB.2.1.2 m1 F0;rw[fE o ho,Aa]at h;simp only at h;rw[Cw,Aa,Hm,Aa]at h;simp only at h;rw[hd.Acu,Aa,Cf hlt2,Aa,Aa,hm,hd.ec]at h;rw[d2,Aa]at h;simp only at h;rw[Gn,Gf]at h;by_cases he:e≠0
 ·rw[Abo (by rw[Ao];simpa using he)]at h;cases h;exact absurd rfl he
 ·have he0:e=0:=by simpa using he
  obtain⟨k1,k2,k3⟩:=d3 he0;rw[Abl (by rw[Ao,he0];simp),VZ hb k2 k1,Aa]at h;cases h;refine⟨m,hm,?_⟩;rw[SL hb,k3,hd.ew]
theorem Amt{o p:LB}{f c w r n:Int}{g:LI}{a:Int}{x:LB}{v:Int}(hf:FitD o f c w r n g a x)(ho:o.length<=64)(hZ:SzD p g a x)(hO:OutB f c w r n g a x){t1 t2:LB}{t3 t4 t5 t6 t7:Int}{t8:LI}{t9:Int}{t10:LB}{t12:Int}
  (h:Ag o p f c w r n g a x u v=some (t1,t2,t3,t4,t5,t6,t7,t8,t9,t10,t11,t12,0)):OutB t3 t4 t5 t6 t7 t8 t9 t10:=by
 have hp':=hZ.hp;have zero:¬(Bg (0:Int) 0=true):=F7
 rw[Ag,Bo]at h;cases hf with
 |new e1 e2 e3 e4 e5 e6 e7 e8=>
  subst e1 e6 e7 e8;rw[Abo F7,Zw p hp',Aa]at h;generalize om p=z at h;obtain⟨z1,z2,z3,z4,z5,z6,z7⟩:=z;simp only at h;by_cases hz:Bg z7 0=true
  ·rw[Abo hz]at h;simp only[Ac9,Afp]at h;obtain⟨-, -, -, -, -, -, -,rfl, -⟩:=h;exact OutB.nil
  ·rw[Abl hz]at h;obtain⟨af,h1,h⟩:=Uk h;rw[Fu,Ft]at h;obtain⟨aw,h2,h⟩:=Uk h;simp only[Ac9,Afp]at h;obtain⟨-, -, -, -, -, -, -,rfl, -⟩:=h;exact OutB.nil
 |head F C W R N hd hpw e6 e7 e8=>
  subst e6 e7 e8;have hfn:¬(geq f 0=true):=by rw[Bb];simpa using hd.fnz
  rw[Abl hfn,Bq,Bc,Abo F7]at h;obtain⟨⟨k,l,e1⟩,h1,h⟩:=Uk h;simp only at h;by_cases hz:Bg e1 0=true
  ·rw[Abo hz]at h;simp only[Ac9,Afp]at h;obtain⟨-, -, -, -, -, -, -,rfl, -⟩:=h;exact OutB.nil
  ·rw[Abl hz]at h;obtain⟨af,h2,h⟩:=Uk h;simp only[Ac9,Afp]at h;obtain⟨-, -, -, -, -, -, -, -,rfl,rfl, -⟩:=h;exact OutB.zero
 |tab F C W R N A hd hpw ht hl ea hA=>
  subst ea;have hfn:¬(geq f 0=true):=by rw[Bb];simpa using hd.fnz
  have ht':=ht;rw[AK,Abp,Adf]at ht';have hgl:¬(geq (Ac g) 0=true):=by
   intro e;rw[Bb,Ac]at e;have hl1:=ht'.1.1;simp only[Auy,Adf]at e;omega
  have hne:g≠ []:=by intro e;subst e;simp at ht'
  rw[Abl hfn,Bq,Bc,Abl hgl]at h;by_cases hend:geq (A:Int) (Ac g)=true
  ·rw[Abo hend]at h;by_cases hm:Dw (Ac p) 4000=true
   ·rw[Abo hm]at h;simp only[Ac9,Afp]at h;exact absurd h.2.2.2.2.2.2.2.2.2.2.2.2 F7
   ·rw[Abl hm]at h;simp only[Ac9,Afp]at h;exact absurd h.2.2.2.2.2.2.2.2.2.2.2.2 F7
  ·rw[Abl hend]at h;have hlt:A<g.length:=by
    rw[Bb,Ac]at hend;simp only[Auy]at hend;omega
   obtain⟨⟨y,e1⟩,h1,h⟩:=Uk h;simp only at h;by_cases hz:Bg e1 0=true
   ·rw[Abo hz]at h;simp only[Ac9,Afp]at h;have:=h.2.2.2.2.2.2.2.2.2.2.2.2;rw[this]at hz;exact absurd hz zero
   ·rw[Abl hz]at h;have z70:e1=0:=by rw[Ao]at hz;simpa using hz
    obtain⟨m,hm,hy⟩:=Adu hd ho hp' ht hl hlt h1 z70;obtain⟨an,h2,h⟩:=Uk h;obtain⟨ah,h3,h⟩:=Uk h;obtain⟨ad,h4,h⟩:=Uk h;obtain⟨ae,h5,h⟩:=Uk h;simp only[Ac9,Afp]at h;obtain⟨-, -,rfl,rfl,rfl,rfl,rfl,rfl,rfl,rfl, -⟩:=h;intro F' C' W' R' N' A' hd' _ ha';have eqs:C'=C/\W'=W/\R'=R/\N'=N:=by
     have q1:=hd.ec.symm.trans hd'.ec;have q2:=hd.ew.symm.trans hd'.ew;have q3:=hd.er.symm.trans hd'.er;have q4:=hd.en.symm.trans hd'.en;omega
    obtain⟨rfl,rfl,rfl,rfl⟩:=eqs;have hold:=hO F C' W' R' N' A hd hne rfl;have e2:Ae (A:Int) 1=((A+1:Nat):Int):=by rw[Aj];omega
    rw[e2]at ha';obtain rfl:A'=A+1:=F0
    have hah:ah.length=x.length+y.length:=by
     unfold Df at h2 h3;split at h2
     ·cases h2;split at h3
      ·cases h3;simp
      ·cases h3
     ·cases h2
    have hpos:∀z∈Al (As R') N',0<=z:=by
     intro z hz;obtain⟨m,hm,m1,m2⟩:=Zu (La R') hd.num.2.2.2.2.1 hz;omega
    rw[Acs C' W' hpos F0 hm,hah,hy];omega
theorem lL{o p:LB}{f c w r n:Int}{g:LI}{a:Int}{x:LB}(hf:FitD o f c w r n g a x)(ho:o.length<=64)(hO:OutB f c w r n g a x){t1 t2:LB}{t3 t4 t5 t6 t7:Int}{t8:LI}{t9:Int}{t10:LB}{t12:Int}
  (h:Ag o p f c w r n g a x false 0=some (t1,t2,t3,t4,t5,t6,t7,t8,t9,t10,t11,t12, -1)):Db o p f c w r n g a x false 0=some 0:=by
 have h4:Cc o p f c w r n g a x false 0=some true:=by
  rw[Cc,Tz,h,Aa];rfl
 have hr:Kg o p f c w r n g a x false 0=some true:=by
  rw[Kg,Tw];cases hf with
  |new e1 e2 e3 e4 e5 e6 e7 e8=>
   subst e1 e2 e3 e4 e5 e6 e7 e8;rw[Abo F7,Abl F7];exact h4
  |head F C W R N hd hpw e6 e7 e8=>
   subst e6 e7 e8;have hz:¬(((geq f 0)&&((geq c 0)&&((geq w 0)&&((geq r 0)&&((geq n 0)&&true)))))=true):=by
    simp only[Abp,Bb,Auy,Az6];exact λe=>hd.fnz e.1
   have hff:geq f 1=decide (F=1):=by rw[hd.ef,Bb,Aks];simp;omega
   rw[Abl hz,hd.check,Aa,Abl F7,Dq,hff,hpw,Abl Bab,Aa,Abl F7,Np,Nl,Abo F7,Abl F7];exact h4
  |tab F C W R N A hd hpw ht hl ea hA=>
   subst ea;have hz:¬(((geq f 0)&&((geq c 0)&&((geq w 0)&&((geq r 0)&&((geq n 0)&&true)))))=true):=by
    simp only[Abp,Bb,Auy,Az6];exact λe=>hd.fnz e.1
   have hff:geq f 1=decide (F=1):=by rw[hd.ef,Bb,Aks];simp;omega
   have ht':=ht;rw[AK,Abp,Adf]at ht';have hgl:¬(geq (Ac g) 0=true):=by
    intro e;rw[Bb,Ac]at e;have hl1:=ht'.1.1;simp only[Auy,Adf]at e;omega
   have hne:g≠ []:=by intro e;subst e;simp at ht'
   have hout:=hO F C W R N A hd hne rfl;rw[Abl hz,hd.check,Aa,Abl F7,Dq,hff,hpw,Abl Bab,Aa,Abl F7,Np,Nl,Abl hgl,UN,Aa,Abo ht,Abl F7,hd.Acu,Aa];rw[Abl Bar];obtain⟨rfl,rfl,rfl,rfl,rfl,hs,hfit⟩:=hd;rw[mh hs hfit A F0,Aa,Abl Baa];exact h4
 have hO':¬(Dw (Ac o) 64=true):=by rw[Ax,Ac];simp;omega
 rw[Db,Abl hO',Abo F7,hr,Aa];rfl
theorem Ah2{o p:LB}{f c w r n:Int}(hd:HdI f c w r n F C W R N)(ho:o.length<=64)(hp:p.length<=100000){g:LI}(ht:AK g=true)(hl:g.length=(Al (As R) N).length)(hA:A<g.length){x:LB}{v:Int}{y:LB}{e:Int}
  (h:Cs o p f c w r n g (A:Int) x u v=some (y,e)) (he:e≠ -1):Cd e:=by
 have hlt2:A<(Al (As R) N).length:=F0
 have SB:=hd.num;rw[AK,Abp,Adf,OB g 100000 F0]at ht;obtain⟨ht1,g5,gs⟩:=ht;have h5:=g5 g[A] (Ao8 hA);rw[Cs,Gk,Cf hA,Aa]at h;by_cases hw:(p.length:Int)<g[A]
 ·rw[Abo (by rw[Af,Ac];simpa using hw)]at h;cases h;exact absurd rfl he
 rw[Abl (by rw[Af,Ac];simpa using hw)]at h;obtain⟨m,hm,m1,m2⟩:=Zu (La R) SB.2.2.2.2.1 (Ao8 hlt2);have hb:Cp w:=by rw[hd.ew];unfold Cp;omega
 obtain⟨xs,e',d1,d2,d3,d4⟩:=JR (bits:=w) (ch:=C) (n:=m) (t:=Yc o) (p.take g[A].toNat) hb (Vw o) SB.2.1.1 SB.2.1.2 m1 F0;have hcd:=O6 hb (Vw o) SB.2.1.1 SB.2.1.2 m1 F0 d2;rw[fE o ho,Aa]at h;simp only at h;rw[Cw,Aa,Hm,Aa]at h;simp only at h;rw[hd.Acu,Aa,Cf hlt2,Aa,Aa,hm,hd.ec]at h;rw[d2,Aa]at h;simp only at h;rw[Gn,Gf]at h;by_cases he:e'≠0
 ·rw[Abo (by rw[Ao];simpa using he)]at h;cases h;exact hcd
 ·have he0:e'=0:=by simpa using he
  obtain⟨k1,k2,k3⟩:=d3 he0;rw[Abl (by rw[Ao,he0];simp),VZ hb k2 k1,Aa]at h;cases h;exact .inl rfl
theorem Aew{f c w r n:Int}(hd:HdI f c w r n F C W R N){p:LB}(hp:p.length<=100000)(hA:A<=p.length){k:Int}{l:LI}{e:Int}(h:Dn p f c w r n (A:Int)=some (k,l,e))(he:e≠ -1):Cd e:=by
 obtain⟨_,t2,t3⟩:=yL hd [] p hp A hA 0 [] false 0;rw[t2]at h;by_cases h1:(If (p.drop A) (Al (As R) N).length).2=24
 ·rw[Abo h1]at h;cases h;exact absurd rfl he
 ·rw[Abl h1]at h;cases h;exact Ant _ (zS hd.fit)
theorem Agy{f c w r n:Int}(hd:HdI f c w r n F C W R N){o p:LB}(hp:p.length<=100000){k:Int}{l:LI}{e:Int}(h:Ew p f c w r n o=some (k,l,e))(he:e≠ -1):Cd e:=by
 rw[Ew,Im]at h;by_cases hf:geq f 2=true
 ·rw[Abo hf]at h;by_cases h8:p.length<8
  ·rw[Abo F5]at h;cases h;exact absurd rfl he
  ·have n1:¬(Ch (Ac p) 8=true):=by rw[Af,Ac];simp;omega
   rw[Abl n1]at h;obtain⟨z,hz,h⟩:=Uk h;obtain⟨y,hy,h⟩:=Uk h;by_cases hm:(z !=y)=true
   ·rw[Abo hm]at h;cases h;decide
   ·rw[Abl hm]at h;exact Aew hd hp (A:=8) F0 h he
 ·rw[Abl hf]at h;exact Aew hd hp (A:=0) F0 h he
theorem Atp(p:LB):(om p).2.2.2.2.2.2= -1\/Cd (om p).2.2.2.2.2.2:=by
 unfold om
 repeat' split
 ·exact .inl rfl
 ·exact .inr (qQ p)
 ·exact .inl rfl
 ·exact .inl rfl
 ·exact .inr (G5 _)
theorem Ard{o p:LB}{f c w r n:Int}{g:LI}{a:Int}{x:LB}{v:Int}(hf:FitD o f c w r n g a x)(ho:o.length<=64)(hp':p.length<=100000){t1 t2:LB}{t3 t4 t5 t6 t7:Int}{t8:LI}{t9:Int}{t10:LB}{t12 e:Int}
  (h:Ag o p f c w r n g a x u v=some (t1,t2,t3,t4,t5,t6,t7,t8,t9,t10,t11,t12,e)) (he:e≠ -1):Cd e:=by
 have zero:¬(Bg (0:Int) 0=true):=F7
 rw[Ag,Bo]at h;cases hf with
 |new e1 e2 e3 e4 e5 e6 e7 e8=>
  subst e1 e6 e7 e8;rw[Abo F7,Zw p hp',Aa]at h;have hcd:=Atp p;generalize om p=z at h hcd;obtain⟨z1,z2,z3,z4,z5,z6,z7⟩:=z;simp only at h hcd;by_cases hz:Bg z7 0=true
  ·rw[Abo hz]at h;simp only[Ac9,Afp]at h;obtain⟨-, -, -, -, -, -, -, -, -, -, -, -,rfl⟩:=h;exact hcd.resolve_left he
  ·rw[Abl hz]at h;obtain⟨af,h1,h⟩:=Uk h;rw[Fu,Ft,Dq]at h;obtain⟨aw,h2,h⟩:=Uk h;simp only[Ac9,Afp]at h;obtain⟨-, -, -, -, -, -, -, -, -, -, -, -,rfl⟩:=h;split at h2
   ·cases h2;decide
   ·cases h2;decide
 |head F C W R N hd hpw e6 e7 e8=>
  subst e6 e7 e8;have hfn:¬(geq f 0=true):=by rw[Bb];simpa using hd.fnz
  rw[Abl hfn,Bq,Bc,Abo F7]at h;obtain⟨⟨k,l,e1⟩,h1,h⟩:=Uk h;simp only at h;by_cases hz:Bg e1 0=true
  ·rw[Abo hz]at h;simp only[Ac9,Afp]at h;obtain⟨-, -, -, -, -, -, -, -, -, -, -, -,rfl⟩:=h;exact Agy hd hp' h1 he
  ·rw[Abl hz]at h;obtain⟨af,h2,h⟩:=Uk h;simp only[Ac9,Afp]at h;obtain⟨-, -, -, -, -, -, -, -, -, -, -, -,rfl⟩:=h;exact .inl rfl
 |tab F C W R N A hd hpw ht hl ea hA=>
  subst ea;have hfn:¬(geq f 0=true):=by rw[Bb];simpa using hd.fnz
  have ht':=ht;rw[AK,Abp,Adf]at ht';have hgl:¬(geq (Ac g) 0=true):=by
   intro e;rw[Bb,Ac]at e;have hl1:=ht'.1.1;simp only[Auy,Adf]at e;omega
  rw[Abl hfn,Bq,Bc,Abl hgl]at h;by_cases hend:geq (A:Int) (Ac g)=true
  ·rw[Abo hend]at h;by_cases hm:Dw (Ac p) 4000=true
   ·rw[Abo hm]at h;simp only[Ac9,Afp]at h;obtain⟨-, -, -, -, -, -, -, -, -, -, -, -,rfl⟩:=h;decide
   ·rw[Abl hm]at h;simp only[Ac9,Afp]at h;exact absurd h.2.2.2.2.2.2.2.2.2.2.2.2.symm he
  ·rw[Abl hend]at h;have hlt:A<g.length:=by
    rw[Bb,Ac]at hend;simp only[Auy]at hend;omega
   obtain⟨⟨y,e1⟩,h1,h⟩:=Uk h;simp only at h;by_cases hz:Bg e1 0=true
   ·rw[Abo hz]at h;simp only[Ac9,Afp]at h;obtain⟨-, -, -, -, -, -, -, -, -, -, -, -,rfl⟩:=h;exact Ah2 hd ho hp' ht hl hlt h1 he
   ·rw[Abl hz]at h;obtain⟨an,h2,h⟩:=Uk h;obtain⟨ah,h3,h⟩:=Uk h;obtain⟨ad,h4,h⟩:=Uk h;obtain⟨ae,h5,h⟩:=Uk h;simp only[Ac9,Afp]at h;obtain⟨-, -, -, -, -, -, -, -, -, -, -, -,rfl⟩:=h;exact .inl rfl
theorem Ak5{o:LB}{f c w r n:Int}{g:LI}{a:Int}{x:LB}(hf:FitD o f c w r n g a x)(hO:OutB f c w r n g a x):x.length<=12000:=by
 cases hf with
 |new e1 e2 e3 e4 e5 e6 e7 e8=>subst e8;simp
 |head F C W R N hd hpw e6 e7 e8=>subst e8;simp
 |tab F C W R N A hd hpw ht hl ea hA=>
  have hne:g≠ []:=by intro e;subst e;simp[AK]at ht
  have h:=hO F C W R N A hd hne ea;obtain⟨g1,g2,g3⟩:=QY hd.shape hd.fit;have b:=iE g1 A;have SB:=hd.num;have hw:=(L8 (W:Int)).2;have hN:N*C<=4000:=by
   have h1:=Ad9 C SB.2.2.2.2.2.1;have h2:=Awm 4000 C;omega
  have hs:((Al (As R) N).take A).sum.toNat<=N:=F0
  rw[CC]at h;have hb:((Al (As R) N).take A).sum.toNat*(C*wB (W:Int))<=4000*3:=by
   have h1:=Ad9 (C*wB (W:Int)) hs;have h2:=Av2 hN hw;rw[<-Axl N]at h1;omega
  omega
theorem qC{o x:LB}{e:Int}(ho:o.length<=64)(hx:x.length<=12000)(he:Cd e)(h0:0<e):Db o [] 0 0 0 0 0 [] 0 x false e=some 0:=by
 have hO':¬(Dw (Ac o) 64=true):=by rw[Ax,Ac];simp;omega
 have hX:Dw (Ac x) 12000=false:=by rw[Ax,Ac];simp;omega
 rw[Db,Abl hO',Abl Bag,Abo F7,hX,Abl F7,Abo Baf,Abl F7];obtain rfl|rfl|rfl|rfl|rfl|rfl|rfl|rfl:=he
 ·omega
 all_goals rfl
theorem K2:∀(k q1 q2:Nat) (o p:LB) (f c w r n:Int) (g:LI) (a:Int) (x:LB) (u:Bool) (v:Int),FitD o f c w r n g a x->o.length<=64->SzD p g a x->muD f g a<k->k<=q1->k<=q2->
  Ay q1 o p f c w r n g a x u v=Ay q2 o p f c w r n g a x u v
 |0,_,_,_,_,_,_,_,_,_,_,_,_,_,_,_,_,_,h,_,_=>by omega
 |k+1,q1,q2,o,p,f,c,w,r,n,g,a,x,u,v,hf,ho,hZ,hm,h1,h2=>by
  obtain⟨q1,rfl⟩:∃q,q1=q+1:=⟨q1-1,F0⟩;obtain⟨q2,rfl⟩:∃q,q2=q+1:=⟨q2-1,F0⟩;rw[Ay,Ay,Bp,Bp];have hS:StepR (Bd o u v q1) o p f c w r n g a x u v:=yV hf ho hZ;cases hS with
  |wait hF hT=>
   rw[hT,Aa,Aa];simp only;rw[Abo F7,Abo F7]
  |err e he hF hT=>
   rw[hT,Aa,Aa];simp only;rw[Abl Baw,Abo Baf,Abl Baw,Abo Baf]
  |next p' f' c' w' r' n' g' a' x' hF hT hf' hZ' hle hmu=>
   rw[hT,Aa,Aa];simp only;rw[Abl F7,Abl F7,Abl F7,Abl F7];exact K2 k q1 q2 o p' f' c' w' r' n' g' a' x' u v hf' ho hZ' F0 F0 F0
structure Wt (o p:LB) (f c w r n:Int) (g:LI) (a:Int) (x:LB):Prop where
 fit:FitD o f c w r n g a x
 sz:SzD p g a x
 out:OutB f c w r n g a x
 wait:Ag o p f c w r n g a x false 0=some (o,p,f,c,w,r,n,g,a,x,false,0, -1)
abbrev NM(q:Nat)(o p:LB)(f c w r n:Int)(g:LI)(a:Int)(x:LB):=Ay q o p f c w r n g a x false 0
theorem zk:∀(k q:Nat) (o p:LB) (f c w r n:Int) (g:LI) (a:Int) (x:LB),FitD o f c w r n g a x->o.length<=64->SzD p g a x->OutB f c w r n g a x->p.length<=100000->muD f g a<k->k<=q->
  (∃(t2:LB) (t3 t4 t5 t6 t7:Int) (t8:LI) (t9:Int) (t10:LB),NM q o p f c w r n g a x=some (o,t2,t3,t4,t5,t6,t7,t8,t9,t10,false,0,0)/\Wt o t2 t3 t4 t5 t6 t7 t8 t9 t10/\t2.length<=p.length/\muD t3 t8 t9<k/\
   ∀b:LB,(p++b).length<=100000->NM q o (p++b) f c w r n g a x=NM q o (t2++b) t3 t4 t5 t6 t7 t8 t9 t10)\/
  (∃(x':LB) (e:Int),0<e/\Cd e/\x'.length<=12000/\∀b:LB,(p++b).length<=100000->NM q o (p++b) f c w r n g a x=some (o,[],0,0,0,0,0,[],0,x',false,e,e))
 |0,_,_,_,_,_,_,_,_,_,_,_,_,_,_,_,_,h,_=>by omega
 |k+1,q,o,p,f,c,w,r,n,g,a,x,hf,ho,hZ,hO,hp,hm,h1=>by
  obtain⟨q,rfl⟩:∃q',q=q'+1:=⟨q-1,F0⟩;have hx:x.length<=13000000:=by have:=hZ.hx;omega
  have hS:StepR (Bd o false 0 q) o p f c w r n g a x false 0:=yV hf ho hZ;cases hS with
  |wait hF hT=>
   refine .inl ⟨p,f,c,w,r,n,g,a,x,?_,⟨hf,hZ,hO,hT⟩,An1 _,hm,λb _=>rfl⟩;rw[NM,Ay,Bp,hT,Aa];simp only;rw[Abo F7,WJ hZ.hp (by have:=hZ.hg;omega) hx,Aa]
  |err e he hF hT=>
   refine .inr ⟨x,e,he,Ard hf ho hp hT F0,Ak5 hf hO,λb hL=>?_⟩;obtain⟨s1,s2,s3,s4,s5,s6,s7,s8,s9,s10,s11,s12,hs⟩:=(eE b hf hL hT F0).2 F0;rw[NM,Ay,Bp,hs,Aa];simp only;rw[Abl Baw,Abo Baf,zK hx,Aa]
  |next p' f' c' w' r' n' g' a' x' hF hT hf' hZ' hle hmu=>
   have hp':p'.length<=100000:=F0
   rcases zk k q o p' f' c' w' r' n' g' a' x' hf' ho hZ' (Amt hf ho hZ hO hT) hp' F0 F0 with⟨t2,t3,t4,t5,t6,t7,t8,t9,t10,k1,k2,k3,k4,k5⟩|⟨x2,e,k1,k2,k3,k4⟩
   ·refine .inl ⟨t2,t3,t4,t5,t6,t7,t8,t9,t10,?_,k2,F0,F0,λb hL=>?_⟩
    ·rw[NM,Ay,Bp,hT,Aa];simp only;rw[Abl F7,Abl F7];exact k1
    ·have hs:=(eE b hf hL hT F7).1 rfl;have hL':(p'++b).length<=100000:=by rw[Abq]at hL⊢;omega
     rw[NM,Ay,Bp,hs,Aa];simp only;rw[Abl F7,Abl F7];refine(k5 b hL').trans ?_;exact K2 k q (q+1) o (t2++b) t3 t4 t5 t6 t7 t8 t9 t10 false 0 k2.fit ho ⟨by rw[Abq]at hL⊢;omega,k2.sz.hg,k2.sz.hx⟩ k4 F0 F0
   ·refine .inr ⟨x2,e,k1,k2,k3,λb hL=>?_⟩;have hs:=(eE b hf hL hT F7).1 rfl;have hL':(p'++b).length<=100000:=by rw[Abq]at hL⊢;omega
    rw[NM,Ay,Bp,hs,Aa];simp only;rw[Abl F7,Abl F7];exact k4 b hL'
abbrev Fd(o s:LB):=NM Ar o s 0 0 0 0 0 [] 0 []
inductive Bh (o s:LB):LB->Int->Int->Int->Int->Int->LI->Int->LB->Int->Prop
 |wt {p:LB} {f c w r n:Int} {g:LI} {a:Int} {x:LB}:Wt o p f c w r n g a x->p.length<=s.length-> (∀b:LB,(s++b).length<=100000->Fd o (s++b)=NM Ar o (p++b) f c w r n g a x)->Bh o s p f c w r n g a x 0
 |er {x:LB} {e:Int}:0<e->Cd e->x.length<=12000-> (∀b:LB,(s++b).length<=100000->Fd o (s++b)=some (o,[],0,0,0,0,0,[],0,x,false,e,e))->Bh o s [] 0 0 0 0 0 [] 0 x e
variable {o s p:LB} {f c w r n:Int} {g:LI} {a:Int} {x:LB} {e:Int}
theorem Wt.stop(W:Wt o p f c w r n g a x):NM Ar o p f c w r n g a x=some (o,p,f,c,w,r,n,g,a,x,false,0,0):=by
 obtain⟨q,hq⟩:∃q,Ar=q+1:=⟨Ar-1,by have:=Aq;omega⟩;have hx:x.length<=13000000:=by have:=W.sz.hx;omega
 rw[NM,hq,Ay,Bp,W.wait,Aa];simp only;rw[Abo F7,WJ W.sz.hp (by have:=W.sz.hg;omega) hx,Aa]
theorem Bh.new(ho:o.length<=64):Bh o [] [] 0 0 0 0 0 [] 0 [] 0:=by
 refine .wt ⟨.new rfl rfl rfl rfl rfl rfl rfl rfl,⟨Bab,Bab,Bab⟩,OutB.nil,?_⟩ (An1 _) λb _=>rfl;rw[Ag,Bo,Abo F7,Zw [] Bab,Aa];rfl
theorem jo(ho:o.length<=64)(W:Wt o p f c w r n g a x)(b:LB)(hp:p.length<=20000)(hb:b.length<=20000):
  Cv o p f c w r n g a x false 0 b=NM Ar o (p++b) f c w r n g a x/\Ic o p f c w r n g a x false 0 b=NM Ar o (p++b) f c w r n g a x:=by
 have hR:Ic o p f c w r n g a x false 0 b=NM Ar o (p++b) f c w r n g a x:=by
  have hx:x.length<=13000000:=by have:=W.sz.hx;omega
  have hg:g.length<=2000:=by have:=W.sz.hg;omega
  have hE:¬(Bg (0:Int) 0=true):=F7
  have hF:¬(false=true):=F7
  rw[Ic,Oz,lL W.fit ho W.out W.wait,Aa,Abl hE,WJ F0 hg hx,Aa];simp only;rw[Ou]
  repeat (first|rw[Aa]|rw[Abl hE]|rw[Abl hF])
  rw[Cr,Aa];rfl
 obtain⟨t1,t2,t3,t4,t5,t6,t7,t8,t9,t10,t11,t12,e,h1,h2,_⟩:=Awo ho W.fit W.sz b hp hb;exact⟨h1.trans (h2.symm.trans hR),hR⟩
theorem Bh.check(ho:o.length<=64)(h:Bh o s p f c w r n g a x e)(hp:p.length<=100000):Et o p f c w r n g a x false e=some 0/\Db o p f c w r n g a x false e=some 0:=by
 have key:Db o p f c w r n g a x false e=some 0/\g.length<=1000/\x.length<=13000000:=by
  cases h with
  |wt W hl hb=>exact⟨lL W.fit ho W.out W.wait,W.sz.hg,by have:=W.sz.hx;omega⟩
  |er h0 hc hx hb=>exact⟨qC ho hx hc h0,Bab,F0⟩
 obtain⟨k1,k2,k3⟩:=key;obtain⟨E,e1,e2⟩:=pN o p f c w r n g a x false e hp F0 F0;rw[k1]at e2;cases e2;exact⟨e1,k1⟩
theorem Bh.feed(ho:o.length<=64)(h:Bh o s p f c w r n g a x e)(hp:p.length<=20000)(b:LB)(hb:b.length<=20000)(hs:(s++b).length<=100000):
  ∃(p':LB) (f' c' w' r' n':Int) (g':LI) (a':Int) (x':LB) (e':Int),Cv o p f c w r n g a x false e b=some (o,p',f',c',w',r',n',g',a',x',false,e',e')/\
   Ic o p f c w r n g a x false e b=some (o,p',f',c',w',r',n',g',a',x',false,e',e')/\Bh o (s++b) p' f' c' w' r' n' g' a' x' e':=by
 have hck:=h.check ho F0;cases h with
 |wt W hl hB=>
  obtain⟨h1,h2⟩:=jo ho W b hp hb;have hpb:(p++b).length<=100000:=by rw[Abq];omega
  have hZ:SzD (p++b) g a x:=⟨hpb,W.sz.hg,W.sz.hx⟩;rcases zk 1004 Ar o (p++b) f c w r n g a x W.fit ho hZ W.out hpb (Ama hZ) Az9 with⟨t2,t3,t4,t5,t6,t7,t8,t9,t10,k1,k2,k3,k4,k5⟩|⟨x2,e,k1,k2,k3,k4⟩
  ·refine⟨t2,t3,t4,t5,t6,t7,t8,t9,t10,0,h1.trans k1,h2.trans k1, .wt k2 ?_ λb2 hL=>?_⟩
   ·rw[Abq]at k3⊢;omega
   ·rw[Aoc,hB (b++b2) (by rw[<-Aoc];exact hL),<-Aoc];refine k5 b2 ?_;rw[Abq,Abq]at hL⊢;omega
  ·have k4':=k4 [] (by simpa using hpb);rw[Asv]at k4';refine⟨_,_,_,_,_,_,_,_,_,_,h1.trans k4',h2.trans k4', .er k1 k2 k3 λb2 hL=>?_⟩;rw[Aoc,hB (b++b2) (by rw[<-Aoc];exact hL),<-Aoc];refine k4 b2 ?_;rw[Abq,Abq]at hL⊢;omega
 |er h0 hc hx hB=>
  have hne:Bg e 0=true:=by rw[Ao];simp;omega
  refine⟨_,_,_,_,_,_,_,_,_,_,?_,?_, .er h0 hc hx λb2 hL=>?_⟩
  ·rw[Cv,Sj,nU Bab Bab F0 hck.1,Abl F7,Aa];simp only;rw[Abo (show e≠0 by omega),Abo hne]
  ·rw[Ic,Oz,hck.2,Aa,Abl F7,WJ Bab Bab F0,Aa];simp only;rw[Ou,Abo hne,Aa,Abo hne]
  ·rw[Aoc];exact hB (b++b2) (by rw[<-Aoc];exact hL)
theorem Amb{v:Int}{y:LB}(hf:FitD o f c w r n g a x){t1 t2:LB}{t3 t4 t5 t6 t7:Int}{t8:LI}{t9:Int}{t10:LB}{t12:Int}
  (h:Ag o p f c w r n g a x u v=some (t1,t2,t3,t4,t5,t6,t7,t8,t9,t10,t11,t12, -1)) (hp:p.length<=100000):Ag o p f c w r n g a y u v=some (o,p,f,c,w,r,n,g,a,y,u,v, -1):=by
 have zero:¬(Bg (0:Int) 0=true):=F7
 rw[Ag,Bo]at h⊢;by_cases hz:geq f 0=true
 ·rw[Abo hz]at h⊢;obtain⟨⟨z1,z2,z3,z4,z5,z6,z7⟩,hz1,h⟩:=Uk h;rw[hz1,Aa];simp only at h⊢;by_cases h7:Bg z7 0=true
  ·rw[Abo h7]at h⊢;simp only[Ac9,Afp]at h;rw[h.2.2.2.2.2.2.2.2.2.2.2.2]
  ·rw[Abl h7]at h;obtain⟨af,h1,h⟩:=Uk h;rw[Fu,Ft,Dq]at h;obtain⟨aw,h2,h⟩:=Uk h;simp only[Ac9,Afp]at h;obtain⟨-, -, -, -, -, -, -, -, -, -, -, -,rfl⟩:=h;split at h2<;>cases h2
 ·rw[Abl hz]at h⊢;rw[Bq,Bc]at h⊢;by_cases hg:geq (Ac g) 0=true
  ·rw[Abo hg]at h⊢;obtain⟨⟨z1,z2,z3⟩,hz1,h⟩:=Uk h;rw[hz1,Aa];simp only at h⊢;by_cases h7:Bg z3 0=true
   ·rw[Abo h7]at h⊢;simp only[Ac9,Afp]at h;rw[h.2.2.2.2.2.2.2.2.2.2.2.2]
   ·rw[Abl h7]at h;obtain⟨af,h1,h⟩:=Uk h;simp only[Ac9,Afp]at h;exact absurd h.2.2.2.2.2.2.2.2.2.2.2.2 F7
  ·rw[Abl hg]at h⊢;by_cases he:geq a (Ac g)=true
   ·rw[Abo he]at h⊢;by_cases hm:Dw (Ac p) 4000=true
    ·rw[Abo hm]at h;simp only[Ac9,Afp]at h;exact absurd h.2.2.2.2.2.2.2.2.2.2.2.2 F7
    ·rw[Abl hm]
   ·rw[Abl he]at h⊢;obtain⟨⟨z1,z2⟩,hz1,h⟩:=Uk h;have hz2:Cs o p f c w r n g a y u v=some (z1,z2):=hz1;rw[hz2,Aa];simp only at h⊢;by_cases h7:Bg z2 0=true
    ·rw[Abo h7]at h⊢;simp only[Ac9,Afp]at h;rw[h.2.2.2.2.2.2.2.2.2.2.2.2]
    ·rw[Abl h7]at h;obtain⟨an,h2,h⟩:=Uk h;obtain⟨ah,h3,h⟩:=Uk h;obtain⟨ad,h4,h⟩:=Uk h;obtain⟨ae,h5,h⟩:=Uk h;simp only[Ac9,Afp]at h;exact absurd h.2.2.2.2.2.2.2.2.2.2.2.2 F7
end Go.Pl
namespace Go.Pl
open Go Go.Lv
variable{u t11:Bool}{α:Type}
section
variable {o s p:LB} {f c w r n:Int} {g:LI} {a:Int} {x:LB} {e:Int}
theorem FitD.drop(h:FitD o f c w r n g a x)(t:Nat):FitD o f c w r n g a (x.drop t):=by
 cases h with
 |new e1 e2 e3 e4 e5 e6 e7 e8=>subst e8;exact .new e1 e2 e3 e4 e5 e6 e7 Bab
 |head F C W R N hd hpw e6 e7 e8=>subst e8;exact .head F C W R N hd hpw e6 e7 Bab
 |tab F C W R N A hd hpw ht hl ea hA=>exact .tab F C W R N A hd hpw ht hl ea hA
theorem OutB.drop(h:OutB f c w r n g a x)(t:Nat):OutB f c w r n g a (x.drop t):=by
 intro F C W R N A hd hg ha;have:=h F C W R N A hd hg ha;rw[Ae7];omega
theorem Bh.L4(h:Bh o s p f c w r n g a x e):p.length<=s.length/\g.length<=1000/\x.length<=12000:=by
 cases h with
 |wt W hl hb=>exact⟨hl,W.sz.hg,Ak5 W.fit W.out⟩
 |er h0 hc hx hb=>exact⟨Bab,Bab,hx⟩
theorem Bh.mV(ho:o.length<=64)(h:Bh o s p f c w r n g a x e)(hp:p.length<=100000)(t:Nat):Et o p f c w r n g a (x.drop t) false e=some 0:=by
 have hs:=h.L4;have key:Db o p f c w r n g a (x.drop t) false e=some 0:=by
  cases h with
  |wt W hl hb=>exact lL (W.fit.drop t) ho (W.out.drop t) (Amb W.fit W.wait hp)
  |er h0 hc hx hb=>exact qC ho Bai hc h0
 obtain⟨E,e1,e2⟩:=pN o p f c w r n g a (x.drop t) false e hp F0 Bai;rw[key]at e2;cases e2;exact e1
theorem Aku(hck:Et o p f c w r n g a x u e=some 0)(hp:p.length<=20000)(hg:g.length<=2000)(hx:x.length<=12000)(m:Nat):
  Pf o p f c w r n g a x u e (m:Int)=some (o,p,f,c,w,r,n,g,a,x.drop (min m x.length),u,e,x.take (min m x.length),0):=by
 rw[Pf,hck,Aa,Abl F7,Abl Baj,N9 F0 hg F0,Aa];simp only;have hk:Ej (m:Int) (Ac x)=((min m x.length:Nat):Int):=by rw[HF,Ac];omega
 rw[hk,Cw,Aa,Hv,Cr F9,Aa,Aa,Cz,Aa];rfl
end
section
variable {o s p:LB} {f c w r n:Int} {g:LI} {a:Int} {x:LB} {e:Int}
theorem Aiy{v:Int}(hp:p.length<=20000)(h:Pr o p f c w r n g a x u v=some e):Cd e:=by
 rw[Pr]at h;split at h
 ·rw[YU p F0,Aa]at h;have hok:=OM (b:=p);simp only at h;by_cases h2:(Da p).2≠0
  ·rw[Abo (by rw[Ao];simpa using h2)]at h;cases h;exact qQ p
  ·have h3:(Da p).2=0:=by simpa using h2
   obtain⟨k1,k2,k3⟩:=hok h3;have hl:(Tc p).length<=p.length:=by rw[Tc,Ae7];omega
   rw[Abl (by rw[Ao,h3];simp),Cz,Aa,show p.drop (Da p).1.toNat=Tc p from rfl,wV _ F0,Aa]at h;cases h;exact G5 _
 ·split at h
  ·cases h;decide
  ·obtain⟨⟨z1,z2⟩,hz,h⟩:=Uk h;simp only at h;split at h<;>(cases h;decide)
theorem YM{v k:Int}(ho:o.length<=64)(hx:x.length<=12000)(hk:(u=false/\v=k/\0<k/\Cd k)\/ (u=true/\v=0/\k=36)):
  Et o [] 0 0 0 0 0 [] 0 x u v=some 0/\ (∀b,Cv o [] 0 0 0 0 0 [] 0 x u v b=some (o,[],0,0,0,0,0,[],0,x,u,v,k))/\Fz o [] 0 0 0 0 0 [] 0 x u v=some (o,[],0,0,0,0,0,[],0,x,u,v,k):=by
 have key:Db o [] 0 0 0 0 0 [] 0 x u v=some 0:=by
  rcases hk with⟨rfl,rfl,h1,h2⟩|⟨rfl,rfl,rfl⟩
  ·exact qC ho hx h2 h1
  ·have hX:Dw (Ac x) 12000=false:=by rw[Ax,Ac];simp;omega
   rw[Db,Abl Baa,Abl F7,Abo F7,hX,Abl F7,Abl F7]
 obtain⟨E,e1,e2⟩:=pN o [] 0 0 0 0 0 [] 0 x u v Bab Bab F0;rw[key]at e2;cases e2;have hv:(if v≠0 then v else if u=true then 36 else 0)=k:=by
  rcases hk with⟨rfl,rfl,h1,h2⟩|⟨rfl,rfl,rfl⟩
  ·rw[Abo F0]
  ·rfl
 have hk0:Bg k 0=true:=by
  rw[Ao];rcases hk with⟨rfl,rfl,h1,h2⟩|⟨rfl,rfl,rfl⟩
  ·simp;omega
  ·rfl
 have hb:=nU (o:=o) (p:=[]) (f:=0) (c:=0) (w:=0) (r:=0) (n:=0) (g:=[]) (a:=0) (x:=x) (u:=u) (v:=v) Bab Bab F0 e1;rw[Abl F7,hv]at hb;refine⟨e1,λb=>?_,?_⟩
 ·rw[Cv,Sj,hb,Aa];simp only;rw[Abo hk0]
 ·rw[Fz,hb,Aa];simp only;rw[Abo hk0]
end
theorem VT{l m z:List α}(h:Df l m=some z):z=l++m:=by
 rw[Df]at h;split at h
 ·exact(Azf h).symm
 ·cases h
theorem Aj2{o p:LB}{f c w r n:Int}{g:LI}{a:Int}{x:LB}{v:Int}(hf:f≠0)(hg:g≠ []){t1 t2:LB}{t3 t4 t5 t6 t7:Int}{t8:LI}{t9:Int}{t10:LB}{t12 e:Int}
  (h:Ag o p f c w r n g a x u v=some (t1,t2,t3,t4,t5,t6,t7,t8,t9,t10,t11,t12,e)):e≠0\/ (t3=f/\t8=g/\∃y,t10=x++y):=by
 rw[Ag,Bo,Abl (by rw[Bb];simpa using hf),Bq,Bc,Abl (by
  rw[Bb,Ac,Auy];intro e;exact hg (Att F0))]at h
 by_cases he:geq a (Ac g)=true
 ·rw[Abo he]at h;by_cases hm:Dw (Ac p) 4000=true
  ·rw[Abo hm]at h;simp only[Ac9,Afp]at h;left;rw[<-h.2.2.2.2.2.2.2.2.2.2.2.2];decide
  ·rw[Abl hm]at h;simp only[Ac9,Afp]at h;left;rw[<-h.2.2.2.2.2.2.2.2.2.2.2.2];decide
 ·rw[Abl he]at h;obtain⟨⟨z1,z2⟩,hz1,h⟩:=Uk h;simp only at h;by_cases h7:Bg z2 0=true
  ·rw[Abo h7]at h;simp only[Ac9,Afp]at h;left;rw[<-h.2.2.2.2.2.2.2.2.2.2.2.2];rw[Ao]at h7;simpa using h7
  ·rw[Abl h7]at h;obtain⟨an,h2,h⟩:=Uk h;obtain⟨ah,h3,h⟩:=Uk h;obtain⟨ad,h4,h⟩:=Uk h;obtain⟨ae,h5,h⟩:=Uk h;simp only[Ac9,Afp]at h;have e1:=VT h2;have e2:=VT h3;rw[Ass]at e1;right;exact⟨h.2.2.1.symm,h.2.2.2.2.2.2.2.1.symm,z1,by rw[<-h.2.2.2.2.2.2.2.2.2.1,e2,e1]⟩
theorem pM{l m r:List α}(h:Df l m=some r):l.length+m.length<=K3:=by
 rw[Df]at h;split at h
 ·assumption
 ·cases h
theorem vE{l m:List α}(h:l.length+m.length<=K3):Df l m=some (l++m):=by rw[Df,Abo h]
theorem Atj{o p:LB}{f c w r n:Int}{g:LI}{a:Int}{x:LB}{v:Int}(hf:f≠0)(hg:g≠ []){t1 t2:LB}{t3 t4 t5 t6 t7:Int}{t8:LI}{t9:Int}{t10:LB}{t12 e:Int}
  (h:Ag o p f c w r n g a x u v=some (t1,t2,t3,t4,t5,t6,t7,t8,t9,t10,t11,t12,e)):
  ∃y,t10=x++y/\∀z:LB,z.length<=x.length->Ag o p f c w r n g a z u v=some (t1,t2,t3,t4,t5,t6,t7,t8,t9,z++y,t11,t12,e):=by
 have e0:∀z:LB,Ag o p f c w r n g a z u v=Bc o p f c w r n g a z u v:=λz=>by
  rw[Ag,Bo,Abl (by rw[Bb];simpa using hf),Bq]
 have hgl:¬geq (Ac g) 0=true:=by
  rw[Bb,Ac,Auy];intro e;exact hg (Att F0)
 have stay:∀E:Int,some (o,p,f,c,w,r,n,g,a,x,u,v,E)=some (t1,t2,t3,t4,t5,t6,t7,t8,t9,t10,t11,t12,e)-> (∀z:LB,Bc o p f c w r n g a z u v=some (o,p,f,c,w,r,n,g,a,z,u,v,E))->
   ∃y,t10=x++y/\∀z:LB,z.length<=x.length->Ag o p f c w r n g a z u v=some (t1,t2,t3,t4,t5,t6,t7,t8,t9,z++y,t11,t12,e):=by
  intro E h hz;simp only[Ac9,Afp]at h;obtain⟨rfl,rfl,rfl,rfl,rfl,rfl,rfl,rfl,rfl,rfl,rfl,rfl,rfl⟩:=h;exact⟨[],(Asv _).symm,λz _=>by rw[e0,hz,Asv]⟩
 rw[e0,Bc,Abl hgl]at h;by_cases he:geq a (Ac g)=true
 ·rw[Abo he]at h;by_cases hm:Dw (Ac p) 4000=true
  ·rw[Abo hm]at h;exact stay _ h λz=>by rw[Bc,Abl hgl,Abo he,Abo hm]
  ·rw[Abl hm]at h;exact stay _ h λz=>by rw[Bc,Abl hgl,Abo he,Abl hm]
 ·rw[Abl he]at h;obtain⟨⟨z1,z2⟩,hz1,h⟩:=Uk h;have hz1':∀z:LB,Cs o p f c w r n g a z u v=some (z1,z2):=λz=>hz1;simp only at h;by_cases h7:Bg z2 0=true
  ·rw[Abo h7]at h;refine stay _ h λz=>?_;rw[Bc,Abl hgl,Abl he,hz1',Aa];simp only;rw[Abo h7]
  ·rw[Abl h7]at h;obtain⟨an,h2,h⟩:=Uk h;obtain⟨ah,h3,h⟩:=Uk h;obtain⟨ad,h4,h⟩:=Uk h;obtain⟨ae,h5,h⟩:=Uk h;simp only[Ac9,Afp]at h;have e1:=VT h2;have e2:=VT h3;have l2:=pM h2;have l3:=pM h3;rw[Ass]at e1;obtain⟨h01,h02,h03,h04,h05,h06,h07,h08,h09,h10,h11,h12,h13⟩:=h;refine⟨z1,by rw[<-h10,e2,e1],λz hz=>?_⟩;rw[e1]at l3;rw[e0,Bc,Abl hgl,Abl he,hz1',Aa];simp only;rw[Abl h7,vE (by simp at l2⊢;omega),Aa,Ass,vE F0,Aa,h4,Aa,h5,Aa,h01,h02,h03,h04,h05,h06,h07,h08,h09,h11,h12,h13]
theorem Ajl:∀(q:Nat) (o p:LB) (f c w r n:Int) (g:LI) (a:Int) (x:LB) (u:Bool) (v:Int),f≠0->g≠ []->∀(t1 t2:LB) (t3 t4 t5 t6 t7:Int) (t8:LI) (t9:Int) (t10:LB) (t11:Bool) (t12 e:Int),Ay q o p f c w r n g a x u v=some (t1,t2,t3,t4,t5,t6,t7,t8,t9,t10,t11,t12,e)->
  ∃y,t10=x++y/\∀z:LB,z.length<=x.length->Ay q o p f c w r n g a z u v=some (t1,t2,t3,t4,t5,t6,t7,t8,t9,z++y,t11,t12,e)
 |0,o,p,f,c,w,r,n,g,a,x,u,v,_,_,t1,t2,t3,t4,t5,t6,t7,t8,t9,t10,t11,t12,e,h=>by cases h
 |q+1,o,p,f,c,w,r,n,g,a,x,u,v,hf,hg,t1,t2,t3,t4,t5,t6,t7,t8,t9,t10,t11,t12,e,h=>by
  rw[Ay,Bp]at h;obtain⟨⟨z1,z2,z3,z4,z5,z6,z7,z8,z9,z10,z11,z12,zz⟩,hz,h⟩:=Uk h;obtain⟨y,hy1,hy2⟩:=Atj hf hg hz;simp only at h;by_cases h1:geq zz (-1)=true
  ·rw[Abo h1]at h;obtain⟨⟨y1,y2,y3,y4,y5,y6,y7,y8,y9,y10,y11,y12⟩,hy,h⟩:=Uk h;simp only[Ac9,Afp]at h;rw[Ky,Oh]at hy;obtain⟨a1,k1,hy⟩:=Uk hy;obtain⟨a2,k2,hy⟩:=Uk hy;rw[Ok,Oj]at hy;obtain⟨a3,k3,hy⟩:=Uk hy;simp only[Ac9,Afp]at hy;have e2:=VT k2;have l2:=pM k2;obtain⟨rfl,rfl,rfl,rfl,rfl,rfl,rfl,rfl,rfl,rfl,rfl,rfl⟩:=hy;obtain⟨rfl,rfl,rfl,rfl,rfl,rfl,rfl,rfl,rfl,rfl,rfl,rfl,rfl⟩:=h;refine⟨[],by rw[e2,Ass,Asv],λz hzl=>?_⟩;rw[Ay,Bp,hy2 z hzl,Aa];simp only;rw[Abo h1,Ky,Oh,k1,Aa,vE (by simp at l2⊢;omega),Aa,Ok,Oj,k3,Aa,Aa];simp
  ·rw[Abl h1]at h;by_cases h2:Bg zz 0=true
   ·rw[Abo h2]at h;obtain⟨⟨y1,y2,y3,y4,y5,y6,y7,y8,y9,y10,y11,y12,y13⟩,hy,h⟩:=Uk h;simp only[Ac9,Afp]at h;rw[Ma]at hy;obtain⟨⟨x1,x2,x3,x4,x5,x6,x7,x8,x9,x10,x11,x12⟩,hx,hy⟩:=Uk hy;simp only[Ac9,Afp]at hy;rw[Ux]at hx;obtain⟨a2,k2,hx⟩:=Uk hx;simp only[Ac9,Afp]at hx;have e2:=VT k2;have l2:=pM k2;obtain⟨rfl,rfl,rfl,rfl,rfl,rfl,rfl,rfl,rfl,rfl,rfl,rfl⟩:=hx;obtain⟨rfl,rfl,rfl,rfl,rfl,rfl,rfl,rfl,rfl,rfl,rfl,rfl,rfl⟩:=hy;obtain⟨rfl,rfl,rfl,rfl,rfl,rfl,rfl,rfl,rfl,rfl,rfl,rfl,rfl⟩:=h;refine⟨[],by rw[e2,Ass,Asv],λz hzl=>?_⟩;rw[Ay,Bp,hy2 z hzl,Aa];simp only;rw[Abl h1,Abo h2,Ma,Ux,vE (by simp at l2⊢;omega),Aa,Aa,Aa];simp
   ·rw[Abl h2]at h;have hz0:zz=0:=by rw[Ao]at h2;simpa using h2
    rcases Aj2 hf hg hz with h3|⟨h3,h4,y0,h5⟩
    ·exact absurd hz0 h3
    ·obtain⟨y2,h6,h7⟩:=Ajl q z1 z2 z3 z4 z5 z6 z7 z8 z9 z10 z11 z12 (by rw[h3];exact hf) (by rw[h4];exact hg) _ _ _ _ _ _ _ _ _ _ _ _ _ h;refine⟨y++y2,by rw[h6,hy1,Aoc],λz hzl=>?_⟩;rw[Ay,Bp,hy2 z hzl,Aa];simp only;rw[Abl h1,Abl h2,h7 (z++y) (by rw[hy1,Abq,Abq];omega),Aoc]
section
variable {o s p:LB} {f c w r n:Int} {g:LI} {a:Int} {x:LB} {e:Int}
theorem Wt.drop(W:Wt o p f c w r n g a x)(t:Nat):Wt o p f c w r n g a (x.drop t):=
 ⟨W.fit.drop t,⟨W.sz.hp,W.sz.hg,by have:=W.sz.hx;rw[Ae7];omega⟩,W.out.drop t,Amb W.fit W.wait W.sz.hp⟩
theorem FitD.early(h:FitD o f c w r n g a x)(hx:x≠ []):f≠0/\g≠ []:=by
 cases h with
 |new _ _ _ _ _ _ _ e8=>exact absurd e8 hx
 |head _ _ _ _ _ _ _ _ _ e8=>exact absurd e8 hx
 |tab F C W R N A hd hpw ht hl ea hA=>
  refine⟨hd.fnz,λe=>?_⟩;have h1:=hd.num;have h2:(Al (As R) N).length=0:=by rw[<-hl,e];rfl
  have h3:Al (As R) N=[]:=Att h2;have h4:(Al (As R) N).sum=(N:Int):=eP h1.2.2.2.2.1;rw[h3]at h4;simp at h4;omega
theorem Bh.Asj(ho:o.length<=64)(h:Bh o s p f c w r n g a x e)(hp:p.length<=20000)(b:LB)(hb:b.length<=20000)(hs:(s++b).length<=100000){t:Nat}(ht:t<=x.length):
  ∃(p':LB) (f' c' w' r' n':Int) (g':LI) (a':Int) (y:LB) (e':Int),Cv o p f c w r n g a (x.drop t) false e b=some (o,p',f',c',w',r',n',g',a',(x++y).drop t,false,e',e')/\
   Cv o p f c w r n g a x false e b=some (o,p',f',c',w',r',n',g',a',x++y,false,e',e')/\Bh o (s++b) p' f' c' w' r' n' g' a' (x++y) e':=by
 obtain⟨p',f',c',w',r',n',g',a',x',e',h1,h2,h3⟩:=h.feed ho hp b hb hs;have hck:=h.mV ho F0 t;have hsz:=h.L4;cases h with
 |wt W hl hB=>
  by_cases hx:x=[]
  ·subst hx;obtain rfl:t=0:=by simpa using ht
   exact⟨p',f',c',w',r',n',g',a',x',e',h1,by simpa using h1,by simpa using h3⟩
  ·obtain⟨hf,hg⟩:=W.fit.early hx;have e1:=(jo ho W b hp hb).1;have e2:=(jo ho (W.drop t) b hp hb).1;rw[e1]at h1;obtain⟨y,k1,k2⟩:=Ajl Ar o (p++b) f c w r n g a x false 0 hf hg _ _ _ _ _ _ _ _ _ _ _ _ _ h1;subst k1;refine⟨p',f',c',w',r',n',g',a',y,e',?_,by rw[e1];exact h1,h3⟩;rw[e2,Aw7 ht];exact k2 (x.drop t) Bai
 |er h0 hc hx hB=>
  obtain⟨q1,q2,q3⟩:=YM (o:=o) (x:=x) (u:=false) (v:=e) (k:=e) ho hx (.inl ⟨rfl,rfl,h0,hc⟩);obtain⟨d1,d2,d3⟩:=YM (o:=o) (x:=x.drop t) (u:=false) (v:=e) (k:=e) ho Bai (.inl ⟨rfl,rfl,h0,hc⟩);rw[q2 b]at h1;simp only[Ac9,Afp,true_and]at h1;obtain⟨rfl,rfl,rfl,rfl,rfl,rfl,rfl,rfl,rfl,rfl,_⟩:=h1;exact⟨[],0,0,0,0,0,[],0,[],e,by simpa using d2 b,by simpa using q2 b,by simpa using h3⟩
def Aw5(u:Bool)(v k:Int):Prop:=(u=false/\v=k/\0<k/\Cd k)\/ (u=true/\v=0/\k=36)
theorem Bh.Aoq(ho:o.length<=64)(h:Bh o s p f c w r n g a x e)(hp:p.length<=20000):
  ∃(u:Bool) (v k:Int),(∀t,Fz o p f c w r n g a (x.drop t) false e=some (o,[],0,0,0,0,0,[],0,x.drop t,u,v,k))/\ ((u=false/\v=k/\0<k/\Cd k/\ (e=0\/e=k))\/ (u=true/\v=0/\k=0)):=by
 have hs:=h.L4;cases h with
 |wt W hl hB=>
  obtain⟨e1,d1,d2⟩:=qd (o:=o) (p:=p) (f:=f) (c:=c) (w:=w) (r:=r) (n:=n) (a:=a) (u:=false) (v:=0) (g:=g) (x:=x) hp;have hcd:=Aiy hp d2;have go:∀t,Fz o p f c w r n g a (x.drop t) false 0=if Bg e1 0=true then some (o,[],0,0,0,0,0,[],0,x.drop t,false,e1,e1)else some (o,[],0,0,0,0,0,[],0,x.drop t,true,0,0):=by
   intro t;have hb:=nU (o:=o) (p:=p) (f:=f) (c:=c) (w:=w) (r:=r) (n:=n) (g:=g) (a:=a) (x:=x.drop t) (u:=false) (v:=0) F0 F0 Bai (Bh.mV ho (.wt W hl hB) F0 t);rw[Abl F7]at hb;rw[Fz,hb,Aa];simp only;have d1':Vq o p f c w r n g a (x.drop t) false 0=some e1:=d1;rw[Abl F7,d1',Aa];rfl
  by_cases he:Bg e1 0=true
  ·refine⟨false,e1,e1,λt=>by rw[go,Abo he], .inl ⟨rfl,rfl,?_,hcd,Bab⟩⟩;have:=hcd.nn;rw[Ao]at he;simp only[Azg]at he;omega
  ·exact⟨true,0,0,λt=>by rw[go,Abl he], .inr ⟨rfl,rfl,rfl⟩⟩
 |er h0 hc hx hB=>
  refine⟨false,e,e,λt=>?_, .inl ⟨rfl,rfl,h0,hc, .inr rfl⟩⟩;exact(YM (o:=o) (x:=x.drop t) (u:=false) (v:=e) (k:=e) ho Bai (.inl ⟨rfl,rfl,h0,hc⟩)).2.2
end
theorem Bay{p:Prop}(h:p:=by simp only[Ae7];omega):p:=h
theorem Ba4{p:Prop}(h:p:=by rw[Abq];simp;omega):p:=h
end Go.Pl
namespace Go.Pl
open Go Go.Lv
variable{o X X' inp:LB}{L i t t':Nat}{a:UInt8}
abbrev bE:=UInt8×Int×Unit
abbrev Sad:=Int×LB×Unit
structure Ud where
 s:LB
 X:LB
 p:LB
 f:Int
 c:Int
 w:Int
 r:Int
 n:Int
 g:LI
 a:Int
 u:Bool
 v:Int
inductive OkU (o:LB) (L:Nat):Ud->Prop
 |live {s X p:LB} {f c w r n:Int} {g:LI} {a e:Int}:s.length+L<=12100->Bh o s p f c w r n g a X e->OkU o L ⟨s,X,p,f,c,w,r,n,g,a,false,e⟩
 |stop {s X:LB} {u:Bool} {v k:Int}:X.length<=12000->Aw5 u v k->OkU o L ⟨s,X,[],0,0,0,0,0,[],0,u,v⟩
def Agc(o:LB)(U:Ud)(q:LB):Option (Int×Ud):=(Cv o U.p U.f U.c U.w U.r U.n U.g U.a U.X U.u U.v q).bind λ(_,p,f,c,w,r,n,g,a,x,u,v,e)=>some (e,⟨U.s++q,x,p,f,c,w,r,n,g,a,u,v⟩)
def Ao2(o:LB)(U:Ud):Option (Int×Ud):=(Fz o U.p U.f U.c U.w U.r U.n U.g U.a U.X U.u U.v).bind λ(_,p,f,c,w,r,n,g,a,x,u,v,e)=>some (e,⟨U.s,x,p,f,c,w,r,n,g,a,u,v⟩)
theorem E1(ho:o.length<=64){U:Ud}(h:OkU o L U)(q:LB)(hq:q.length<=L):
  ∃(e:Int) (U':Ud),Agc o U q=some (e,U')/\OkU o (L-q.length) U'/\ (∃y,U'.X=U.X++y)/\
   ∀t,t<=U.X.length->Cv o U.p U.f U.c U.w U.r U.n U.g U.a (U.X.drop t) U.u U.v q=some (o,U'.p,U'.f,U'.c,U'.w,U'.r,U'.n,U'.g,U'.a,U'.X.drop t,U'.u,U'.v,e):=by
 cases h with
 |live hl hB=>
  rename_i s X p f c w r n g a e;have hsz:=hB.L4;have hs:(s++q).length<=100000:=by rw[Abq];omega
  obtain⟨p',f',c',w',r',n',g',a',y,e',h1,h2,h3⟩:=hB.Asj ho F0 q F0 hs (Nat.zero_le _);refine⟨e',⟨s++q,X++y,p',f',c',w',r',n',g',a',false,e'⟩,by rw[Agc];simp only;rw[h2];rfl, .live Baq h3,⟨y,rfl⟩,λt ht=>?_⟩;obtain⟨p2,f2,c2,w2,r2,n2,g2,a2,y2,e2,k1,k2,k3⟩:=hB.Asj ho F0 q F0 hs ht;rw[h2]at k2;simp only[Ac9,Afp,true_and,List.append_cancel_left_eq]at k2;obtain⟨rfl,rfl,rfl,rfl,rfl,rfl,rfl,rfl,rfl,rfl,_⟩:=k2;exact k1
 |stop hx hk=>
  rename_i s X u v k;refine⟨k,⟨s++q,X,[],0,0,0,0,0,[],0,u,v⟩,?_, .stop hx hk,⟨[],(Asv _).symm⟩,λt ht=>?_⟩
  ·rw[Agc];simp only;rw[(YM ho hx hk).2.1 q];rfl
  ·exact(YM ho Bay hk).2.1 q
theorem eu(ho:o.length<=64){U:Ud}(h:OkU o L U):
  ∃(e:Int) (U':Ud),Ao2 o U=some (e,U')/\OkU o L U'/\U'.X=U.X/\
   ∀t,t<=U.X.length->Fz o U.p U.f U.c U.w U.r U.n U.g U.a (U.X.drop t) U.u U.v=some (o,U'.p,U'.f,U'.c,U'.w,U'.r,U'.n,U'.g,U'.a,U'.X.drop t,U'.u,U'.v,e):=by
 cases h with
 |live hl hB=>
  rename_i s X p f c w r n g a e;have hsz:=hB.L4;obtain⟨u,v,k,h1,h2⟩:=hB.Aoq ho F0;have h0:=h1 0;rw[Aze]at h0;refine⟨k,⟨s,X,[],0,0,0,0,0,[],0,u,v⟩,by rw[Ao2];simp only;rw[h0];rfl,?_,rfl,λt _=>h1 t⟩;rcases h2 with⟨k1,k2,k3,k4,_⟩|⟨k1,k2,_⟩
  ·exact .stop (k:=k) hsz.2.2 (.inl ⟨k1,k2,k3,k4⟩)
  ·exact .stop (k:=36) hsz.2.2 (.inr ⟨k1,k2,rfl⟩)
 |stop hx hk=>
  rename_i s X u v k;refine⟨k,⟨s,X,[],0,0,0,0,0,[],0,u,v⟩,?_, .stop hx hk,rfl,λt ht=>?_⟩
  ·rw[Ao2];simp only;rw[(YM ho hx hk).2.2];rfl
  ·exact(YM ho Bay hk).2.2
theorem OkU.szs{U:Ud}(h:OkU o L U):U.p.length<=12100/\U.g.length<=1000/\U.X.length<=12000:=by
 cases h with
 |live hl hB=>have:=hB.L4;exact⟨by simp only;omega,this.2.1,this.2.2⟩
 |stop hx hk=>exact⟨Bab,Bab,hx⟩
theorem M7(ho:o.length<=64){U:Ud}(h:OkU o L U)(t:Nat)(m:Nat):
  Pf o U.p U.f U.c U.w U.r U.n U.g U.a (U.X.drop t) U.u U.v (m:Int)=some (o,U.p,U.f,U.c,U.w,U.r,U.n,U.g,U.a,(U.X.drop t).drop (min m (U.X.drop t).length),U.u,U.v,(U.X.drop t).take (min m (U.X.drop t).length),0):=by
 have hs:=h.szs;refine Aku ?_ F0 F0 Bai m;cases h with
 |live hl hB=>exact hB.mV ho (by have:=hs.1;simp only at this;omega) t
 |stop hx hk=>exact(YM ho Bay hk).1
def SW(o:LB)(st:bE)(inp:LB)(U:Ud):Option (Int×Ud×LB):=
 if st.1=1 then(Agc o U (inp.take (min st.2.1.toNat inp.length))).bind λz=>some (z.1,z.2,inp.drop (min st.2.1.toNat inp.length))
 else if st.1=2 then some (0,U,inp)
 else(Ao2 o U).bind λz=>some (z.1,z.2,inp)
def Adq(o:LB):List bE->LB->Ud->Option (LI×Ud×LB)
 |[],inp,U=>some ([],U,inp)
 |st::l,inp,U=>(SW o st inp U).bind λz=>(Adq o l z.2.2 z.2.1).bind λy=>some (z.1::y.1,y.2)
def VS(st:bE):Prop:=(st.1=1\/st.1=2\/st.1=3)/\0<=st.2.1/\st.2.1<=100000
def SR(st:bE)(e:Int)(d:Sad):Prop:=d.1=e/\ (st.1=2->e=0/\ (d.2.1.length:Int)<=st.2.1)/\ (st.1≠2->d.2.1=[])
inductive SRs:List bE->LI->List Sad->Prop
 |nil:SRs [] [] []
 |cons {st e d l es ds}:SR st e d->SRs l es ds->SRs (st::l) (e::es) (d::ds)
def outs(l:List Sad):LB:=(l.map (·.2.1)).flatten
def jG(b:List bE)(i t:Nat)(X:LB)(t':Nat)(X':LB):Prop:=(i=b.length->t'=t/\X'=X)/\ (i<b.length->∀m:Int,b[b.length-1]? =some (2,m,())->20000<=m->t'=X'.length)
theorem jG.nil{b:List bE}(h:i=b.length):jG b i t X t X:=⟨λ_=>⟨rfl,rfl⟩,λh'=>absurd h' F0⟩
theorem jG.other{b:List bE}{t1:Nat}{X1:LB}(hlt:i<b.length)(h1:b[i].1≠2)(ih:jG b (i+1) t1 X1 t' X'):jG b i t X t' X':=by
 refine⟨λh=>absurd h F0,λ_ m hm h2=>?_⟩;by_cases h:i+1<b.length
 ·exact ih.2 h m hm h2
 ·rw[show b.length-1=i by omega,List.getElem?_eq_getElem hlt]at hm;exact absurd (by rw[Azf hm]) h1
theorem jG.drain{b:List bE}{m:Nat}(hlt:i<b.length)(hm:b[i].2.1=(m:Int))(hX:X.length<=20000)(ht:t<=X.length)(ih:jG b (i+1) (t+min m (X.length-t)) X t' X'):jG b i t X t' X':=by
 refine⟨λh=>absurd h F0,λ_ k hk h2=>?_⟩;by_cases h:i+1<b.length
 ·exact ih.2 h k hk h2
 ·rw[show b.length-1=i by omega,List.getElem?_eq_getElem hlt]at hk;obtain⟨e1,e2⟩:=ih.1 F0;have e3:=Azf hk;rw[e3]at hm;simp only at hm;rw[e1,e2];omega
theorem nK{o:LB}(ho:o.length<=64){b:List bE}(hb:b.length<=200)(hv:∀st∈b,VS st):∀(k i t q:Nat) (U:Ud) (inp:LB) (aa:List Sad),i+k=b.length->k<q->inp.length<=12100->OkU o inp.length U->t<=U.X.length->aa.length<=i->
  ∃(es:LI) (U':Ud) (inp':LB) (ds:List Sad) (t':Nat),Adq o (b.drop i) inp U=some (es,U',inp')/\OkU o inp'.length U'/\t'<=U'.X.length/\SRs (b.drop i) es ds/\U.X.take t++outs ds=U'.X.take t'/\
   Fg b q (i:Int) o U.f U.c U.w U.r U.n U.a (U.X.drop t) U.u U.v inp aa U.p U.g=some (o,U'.p,U'.f,U'.c,U'.w,U'.r,U'.n,U'.g,U'.a,U'.X.drop t',U'.u,U'.v,aa++ds,0)/\jG b i t U.X t' U'.X
 |k,i,t,0,U,inp,aa,_,hq,_,_,_,_=>absurd hq (Azx _)
 |0,i,t,q+1,U,inp,aa,hi,hq,hin,hU,ht,haa=>by
  refine⟨[],U,inp,[],t,by rw[List.drop_eq_nil_of_le F0];rfl,hU,ht,by rw[List.drop_eq_nil_of_le F0];exact .nil,by simp[outs],?_, .nil F0⟩;rw[Fg,Oo,Abl F5,CT,TQ,SP,TL,Asv]
 |k+1,i,t,q+1,U,inp,aa,hi,hq,hin,hU,ht,haa=>by
  have hlt:i<b.length:=F0
  obtain⟨hop,hn0,hn1⟩:=hv b[i] (Ao8 hlt);have hdrop:b.drop i=b[i]::b.drop (i+1):=(List.getElem_cons_drop hlt).symm;obtain⟨m,hm⟩:∃m:Nat,b[i].2.1=m:=⟨b[i].2.1.toNat,F0⟩;have hgi:Ae (i:Int) 1=((i+1:Nat):Int):=by rw[show(1:Int)=((1:Nat):Int)from rfl,Aj];omega
  rw[Fg,Oo,Abo F5,Cf hlt,Aa];rcases hop with h1|h1|h1
  ·
   have hg1:geq b[i].1 1=true:=by rw[h1];rfl
   have hmin:Ej b[i].2.1 (Ac inp)=((min m inp.length:Nat):Int):=by rw[hm,HF,Ac];omega
   obtain⟨e,U1,f1,f2,⟨y,f3⟩,f4⟩:=E1 ho hU (inp.take (min m inp.length)) Ban;have hl:(inp.take (min m inp.length)).length=min m inp.length:=by rw[Agw];omega
   rw[hl]at f2;have hl2:(inp.drop (min m inp.length)).length=inp.length-min m inp.length:=Ae7;rw[<-hl2]at f2;obtain⟨es,U2,Aoa,ds,t2,r1,r2,r3,r4,r5,r6,r7⟩:=nK ho hb hv k (i+1) t q U1 (inp.drop (min m inp.length)) (aa++[(e,[],())]) F0 F0 F0 f2 (by rw[f3,Abq];omega) Ba4;refine⟨e::es,U2,Aoa,(e,[],())::ds,t2,?_,r2,r3,?_,?_,?_, .other hlt (by rw[h1];decide) r7⟩
   ·rw[hdrop,Adq,SW,Abo h1,hm,Ajr,f1,Aa,Aa];simp only;rw[r1,Aa]
   ·rw[hdrop];exact .cons ⟨rfl,λh=>by rw[h1]at h;exact absurd h F7,λ_=>rfl⟩ r4
   ·rw[<-r5,f3,Ay9 ht];simp[outs]
   ·rw[Abo hg1,hmin,Cw,Ajr,Aa,f4 t ht,Aa];simp only;rw[FP,Uq,hmin,Cz,Aa,Cr F9,Aa,Fk,Us,hgi,Ajr,r6];simp
  ·
   have hg1:¬geq b[i].1 1=true:=by rw[h1];decide
   have hg2:geq b[i].1 2=true:=by rw[h1];rfl
   have hd:=M7 ho hU t m;have hXl:(U.X.drop t).length=U.X.length-t:=Ae7;obtain⟨es,U2,Aoa,ds,t2,r1,r2,r3,r4,r5,r6,r7⟩:=nK ho hb hv k (i+1) (t+min m (U.X.length-t)) q U inp (aa++[(0,(U.X.drop t).take (min m (U.X.drop t).length),())]) F0 F0 hin hU F0 Ba4;refine⟨0::es,U2,Aoa,(0,(U.X.drop t).take (min m (U.X.drop t).length),())::ds,t2,?_,r2,r3,?_,?_,?_, .drain hlt hm (by have:=hU.szs;omega) ht r7⟩
   ·rw[hdrop,Adq,SW,Abl (by rw[h1];decide),Abo h1,Aa];simp only;rw[r1,Aa]
   ·rw[hdrop];exact .cons ⟨rfl,λ_=>⟨rfl,by simp only[Agw];rw[hm];omega⟩,λh=>absurd h1 h⟩ r4
   ·rw[<-r5,hXl,List.take_add];simp[outs]
   ·rw[Abl hg1,Abo hg2,hm,hd,Aa];simp only;rw[CO,UD,Cr F9,Aa,Fk,Us,hgi];rw[hXl,List.drop_drop]at*
    rw[r6];simp
  ·
   have hg1:¬geq b[i].1 1=true:=by rw[h1];decide
   have hg2:¬geq b[i].1 2=true:=by rw[h1];decide
   have hg3:geq b[i].1 3=true:=by rw[h1];rfl
   obtain⟨e,U1,f1,f2,f3,f4⟩:=eu ho hU;obtain⟨es,U2,Aoa,ds,t2,r1,r2,r3,r4,r5,r6,r7⟩:=nK ho hb hv k (i+1) t q U1 inp (aa++[(e,[],())]) F0 F0 hin f2 (by rw[f3];exact ht) Ba4;refine⟨e::es,U2,Aoa,(e,[],())::ds,t2,?_,r2,r3,?_,?_,?_, .other hlt (by rw[h1];decide) r7⟩
   ·rw[hdrop,Adq,SW,Abl (by rw[h1];decide),Abl (by rw[h1];decide),f1,Aa,Aa];simp only;rw[r1,Aa]
   ·rw[hdrop];exact .cons ⟨rfl,λh=>by rw[h1]at h;exact absurd h F7,λ_=>rfl⟩ r4
   ·rw[<-r5,f3];simp[outs]
   ·rw[Abl hg1,Abl hg2,Abo hg3,f4 t ht,Aa];simp only;rw[DJ,TV,Cr F9,Aa,Fk,Us,hgi,r6];simp
def VS3(st:bE):Prop:=VS st/\ (st.1=3->st.2.1=0)
theorem Aux(h1:Ch a 1=false)(h2:Dw a 3=false):a=1\/a=2\/a=3:=by
 have e1:¬((a.toNat:Int)<1):=of_decide_eq_false (show decide ((a.toNat:Int)<1)=false from h1);have e2:¬((a.toNat:Int)>3):=of_decide_eq_false (show decide ((a.toNat:Int)>3)=false from h2);have:a.toNat=1\/a.toNat=2\/a.toNat=3:=F0
 rcases this with h|h|h
 ·exact .inl (UInt8.toNat_inj.1 h)
 ·exact .inr (.inl (UInt8.toNat_inj.1 h))
 ·exact .inr (.inr (UInt8.toNat_inj.1 h))
theorem Aez(l:List bE):∀(q i:Nat),Dt l q (i:Int)=some 0->l.length<=200->∀j (hj:j<l.length),i<=j->VS3 l[j]
 |0,i,h,_,_,_,_=>by cases h
 |q+1,i,h,hl,j,hj,hij=>by
  have hlt:i<l.length:=F0
  rw[Dt,Jj,Abo F5,Cf hlt,Aa]at h;split at h
  ·cases h
  ·rename_i h1;split at h
   ·cases h
   ·rename_i h2;by_cases he:j=i
    ·subst he;simp only[At9,not_or,Bool.not_eq_true,Af,Ax,Auo]at h1;obtain⟨⟨⟨k1,k2⟩,k3⟩,k4⟩:=h1;refine⟨⟨Aux k1 k2,F0,F0⟩,λh3=>?_⟩;simp only[Abp,not_and,Ao,Azg,ne_eq,Decidable.not_not]at h2;exact h2 (by rw[h3];rfl)
    ·rw[show Ae (i:Int) 1=((i+1:Nat):Int) by rw[show(1:Int)=((1:Nat):Int)from rfl,Aj];omega]at h;exact Aez l q (i+1) h hl j hj F0
theorem Auw{l:List bE}(h:Hn l=some true):l.length<=60/\∀st∈l,VS3 st:=by
 rw[Hn,Ff,Aa]at h;split at h
 ·rename_i hm;obtain⟨e,he,h⟩:=Uk h;have he0:e=0:=by
   simp only[Ac9,Bb,Auy]at h;exact h
  subst he0;simp only[Ax,ND,Ac,Apy,Axz,Bool.and_eq_false_iff,Auo]at hm;rw[Gc,Nn]at he;split at he
  ·cases he
  ·rename_i h2;rw[Ax,Ac]at h2;simp only[Adf]at h2;refine⟨F0,λst hst=>?_⟩;obtain⟨j,hj,rfl⟩:=List.mem_iff_getElem.1 hst;exact Aez l Ar 0 he F0 j hj (Nat.zero_le _)
 ·cases h
theorem Alp(l:List bE)(hl:l.length<=100000):∃k,Hn l=some k:=by
 have loop:∀(j i q:Nat),i+j=l.length->j<q->∃e,Dt l q (i:Int)=some e:=by
  intro j
  induction j with
  |zero=>
   intro i q hi hq;obtain⟨q,rfl⟩:∃q',q=q'+1:=⟨q-1,F0⟩;rw[Dt,Jj,Abl F5];exact⟨_,rfl⟩
  |succ j ih=>
   intro i q hi hq;obtain⟨q,rfl⟩:∃q',q=q'+1:=⟨q-1,F0⟩;have hlt:i<l.length:=F0
   rw[Dt,Jj,Abo F5,Cf hlt,Aa];split
   ·exact⟨_,rfl⟩
   ·split
    ·exact⟨_,rfl⟩
    ·rw[show Ae (i:Int) 1=((i+1:Nat):Int) by rw[show(1:Int)=((1:Nat):Int)from rfl,Aj];omega];exact ih (i+1) q F0 F0
 rw[Hn,Ff,Aa];split
 ·rw[Gc,Nn];split
  ·exact⟨_,rfl⟩
  ·obtain⟨e,he⟩:=loop l.length 0 Ar F0 Az9;have he':GV l 0=some e:=he;rw[he',Aa];exact⟨_,rfl⟩
 ·exact⟨_,rfl⟩
theorem Arx(l:List bE):∃k,Hn l=some k:=by
 by_cases hl:l.length<=100000
 ·exact Alp l hl
 ·rw[Hn,Ff,Aa,Abl (by simp[Ax,ND,Ac];omega)];exact⟨_,rfl⟩
theorem Ano{st:bE}(h:VS3 st):EI st.1 st.2.1=some false:=by
 obtain⟨⟨h1,h2,h3⟩,h4⟩:=h;rw[EI,ZL,aM,aX];have hr:(Lk st.2.1 0&&pV st.2.1 100000)=true:=by rw[Dz,ND];simp;omega
 rcases h1 with h1|h1|h1
 ·rw[h1,Abo F7,Zn,Abo F7,hr,Aa];rfl
 ·rw[h1,Abl F7,Zn,Abo F7,hr,Aa];rfl
 ·rw[h1,Abl F7,Zn,Abl F7,Abo F7,h4 h1,Aa];rfl
theorem Abd{l:List bE}(hl:l.length<=200)(hv:∀st∈l,VS3 st):NY l=some 0:=by
 have loop:∀(j i q:Nat),i+j=l.length->j<q->Ml l q (i:Int)=some 0:=by
  intro j
  induction j with
  |zero=>
   intro i q hi hq;obtain⟨q,rfl⟩:∃q',q=q'+1:=⟨q-1,F0⟩;rw[Ml,Xb,Abl F5];rfl
  |succ j ih=>
   intro i q hi hq;obtain⟨q,rfl⟩:∃q',q=q'+1:=⟨q-1,F0⟩;have hlt:i<l.length:=F0
   rw[Ml,Xb,Abo F5,Cf hlt,Aa,Ano (hv _ (Ao8 hlt)),Aa,HD,WQ,Abl F7,XN,VW,
    show Ae (i:Int) 1=((i+1:Nat):Int) by rw[show(1:Int)=((1:Nat):Int)from rfl,Aj];omega]
   exact ih (i+1) q F0 F0
 rw[NY,MC,Abl Baa];exact loop l.length 0 Ar F0 Az9
def U0:Ud:=⟨[],[],[],0,0,0,0,0,[],0,false,0⟩
theorem Amo(ho:o.length<=64)(hL:L<=12100):OkU o L U0:= .live (by simpa using hL) (Bh.new ho)
theorem Alu{l:List bE}(ho:o.length<=64)(hin:inp.length<=12100)(hl:l.length<=200)(hv:∀st∈l,VS3 st):
  ∃(es:LI) (U:Ud) (inp':LB) (ds:List Sad) (t:Nat),Adq o l inp U0=some (es,U,inp')/\OkU o inp'.length U/\t<=U.X.length/\SRs l es ds/\outs ds=U.X.take t/\
   Yz o inp l=some (o,U.p,U.f,U.c,U.w,U.r,U.n,U.g,U.a,U.X.drop t,U.u,U.v,ds,0)/\jG l 0 0 [] t U.X:=by
 obtain⟨es,U,inp',ds,t,h1,h2,h3,h4,h5,h6,h7⟩:=nK ho hl (λst h=>(hv st h).1) l.length 0 0 Ar U0 inp [] F0 Az9 hin (Amo ho hin) (An1 _) Bab;rw[Aze]at h1 h4;refine⟨es,U,inp',ds,t,h1,h2,h3,h4,by simpa [U0]using h5,?_,h7⟩;rw[Yz,HL,Abd hl hv,Aa,Abl F7,CA,Abl Baa,Aa];simp only;rw[Abl F7];exact h6
theorem Arb{l:List bE}(ho:o.length<=64)(hin:inp.length<=12100)(hl:l.length<=200)(hv:∀st∈l,VS3 st):
  ∃(es:LI) (U:Ud) (inp':LB) (ds:List Sad) (t:Nat),Adq o l inp U0=some (es,U,inp')/\OkU o inp'.length U/\t<=U.X.length/\SRs l es ds/\outs ds=U.X.take t/\
   Yz o inp l=some (o,U.p,U.f,U.c,U.w,U.r,U.n,U.g,U.a,U.X.drop t,U.u,U.v,ds,0):=by
 obtain⟨es,U,inp',ds,t,h1,h2,h3,h4,h5,h6,h7⟩:=Alu ho hin hl hv;exact⟨es,U,inp',ds,t,h1,h2,h3,h4,h5,h6⟩
theorem SRs.len{l:List bE}{es:LI}{ds:List Sad}(h:SRs l es ds):es.length=l.length/\ds.length=l.length:=by
 induction h with
 |nil=>exact⟨rfl,rfl⟩
 |cons _ _ ih=>exact⟨by simp[ih.1],by simp[ih.2]⟩
def PB(l:List bE):List bE:=l.filter λst=>st.1 !=2
theorem SRs.at{l:List bE}{es:LI}{ds:List Sad}(h:SRs l es ds):∀(i:Nat) (h1:i<ds.length) (h2:i<es.length),ds[i].1=es[i]:=by
 induction h with
 |nil=>intro i h1;simp at h1
 |cons hd _ ih=>
  intro i h1 h2;cases i with
  |zero=>exact hd.1
  |succ i=>exact ih i (by simpa using h1) (by simpa using h2)
theorem Ajb{α:Type}{l:List α}{x:α}{r:List α}(h:l.drop i=x::r):∃hi:i<l.length,l[i]=x/\l.drop (i+1)=r:=by
 have hi:i<l.length:=by
  apply Nat.lt_of_not_le;intro hn;rw[List.drop_eq_nil_of_le hn]at h;cases h
 rw[<-List.getElem_cons_drop hi]at h;exact⟨hi,(List.cons.inj h).1,(List.cons.inj h).2⟩
theorem fL(i:Nat)(h:i<=100000):Ae (i:Int) 1=((i+1:Nat):Int):=by rw[show(1:Int)=((1:Nat):Int)from rfl,Aj];omega
theorem Aw0:geq a 2=(a==2):=by rw[UP]
theorem Ajq{l:List bE}(hv:∀st∈l,VS3 st):∀st∈PB l,VS3 st:=λst h=>hv st (List.mem_filter.1 h).1
theorem Aij(l:List bE):(PB l).length<=l.length:=List.length_filter_le _ _
theorem OkU.chk(ho:o.length<=64){U:Ud}(h:OkU o L U)(t:Nat):Et o U.p U.f U.c U.w U.r U.n U.g U.a (U.X.drop t) U.u U.v=some 0:=by
 have hs:=h.szs;cases h with
 |live hl hB=>exact hB.mV ho (by have:=hs.1;simp only at this;omega) t
 |stop hx hk=>exact(YM ho Bay hk).1
def kpU(U:Ud):Nat:=U.p.length+8*U.g.length
theorem X0(ho:o.length<=64){U:Ud}(h:OkU o L U)(t:Nat):Vg o U.p U.f U.c U.w U.r U.n U.g U.a (U.X.drop t) U.u U.v=some ((kpU U:Int),0):=by
 have hs:=h.szs;rw[Vg,h.chk ho t,Aa,Abl F7,Ac,Ac,show Bv 8 (U.g.length:Int)=((8*U.g.length:Nat):Int) by rw[show(8:Int)=((8:Nat):Int)from rfl,Ii];omega,Aj,kpU];simp
def pX(o:LB):List bE->LB->Ud->Nat->Nat->Nat×Nat
 |[],_,_,b,f=>(b,f)
 |st::l,inp,U,b,f=>match SW o st inp U with
  |some (_,U',inp')=>pX o l inp' U' (max b (kpU U')) (max f U'.X.length)
  |none=>(b,f)
theorem Ane(ho:o.length<=64){st:bE}(hv:VS st){U:Ud}(hU:OkU o inp.length U):∃e U' inp',SW o st inp U=some (e,U',inp')/\OkU o inp'.length U'/\inp'.length<=inp.length:=by
 rw[SW];split
 ·obtain⟨e,U1,f1,f2,⟨y,f3⟩,f4⟩:=E1 ho hU (inp.take (min st.2.1.toNat inp.length)) Ban;refine⟨e,U1,_,by rw[f1,Aa],?_,by rw[Ae7];omega⟩;rw[Agw]at f2;rw[Ae7];rwa [show min (min st.2.1.toNat inp.length) inp.length=min st.2.1.toNat inp.length by omega]at f2
 ·split
  ·exact⟨0,U,inp,rfl,hU,An1 _⟩
  ·obtain⟨e,U1,f1,f2,f3,f4⟩:=eu ho hU;exact⟨e,U1,inp,by rw[f1,Aa],f2,An1 _⟩
theorem gS{o:LB}(ho:o.length<=64){b:List bE}(hb:b.length<=200)(hv:∀st∈b,VS st):∀(k i t q:Nat) (U:Ud) (inp:LB) (K F:Nat),i+k=b.length->k<q->inp.length<=12100->OkU o inp.length U->t<=U.X.length->
  ∃F':Nat,Qx b q inp (K:Int) (F:Int) (i:Int) o U.f U.c U.w U.r U.n U.a (U.X.drop t) U.u U.v U.p U.g=some (((pX o (b.drop i) inp U K F).1:Int),(F':Int),0)/\F'<= (pX o (b.drop i) inp U K F).2/\ ((∀st∈b,st.1≠2)->t=0->F'=(pX o (b.drop i) inp U K F).2)
 |k,i,t,0,U,inp,K,F,_,hq,_,_,_=>absurd hq (Azx _)
 |0,i,t,q+1,U,inp,K,F,hi,hq,hin,hU,ht=>by
  rw[List.drop_eq_nil_of_le (show b.length<=i by omega)];simp only[pX];refine⟨F,?_,An1 _,λ_ _=>rfl⟩;rw[Qx,EA,Abl F5];rfl
 |k+1,i,t,q+1,U,inp,K,F,hi,hq,hin,hU,ht=>by
  have hlt:i<b.length:=F0
  obtain⟨hop,hn0,hn1⟩:=hv b[i] (Ao8 hlt);have hdrop:b.drop i=b[i]::b.drop (i+1):=(List.getElem_cons_drop hlt).symm;obtain⟨m,hm⟩:∃m:Nat,b[i].2.1=m:=⟨b[i].2.1.toNat,F0⟩;have hmax:∀(x y:Nat),bW (x:Int) (y:Int)=((max x y:Nat):Int):=λx y=>by rw[Z2];omega
  rw[Qx,EA,Abo F5,Cf hlt,Aa,hdrop,pX];rcases hop with h1|h1|h1
  ·
   have hg1:geq b[i].1 1=true:=by rw[h1];rfl
   have hmin:Ej b[i].2.1 (Ac inp)=((min m inp.length:Nat):Int):=by rw[hm,HF,Ac];omega
   obtain⟨e,U1,f1,f2,⟨y,f3⟩,f4⟩:=E1 ho hU (inp.take (min m inp.length)) Ban;have hl:(inp.take (min m inp.length)).length=min m inp.length:=by rw[Agw];omega
   rw[hl]at f2;have hl2:(inp.drop (min m inp.length)).length=inp.length-min m inp.length:=Ae7;rw[<-hl2]at f2;have ht1:t<=U1.X.length:=by rw[f3,Abq];omega
   obtain⟨F',g1,g2,g3⟩:=gS ho hb hv k (i+1) t q U1 (inp.drop (min m inp.length)) (max K (kpU U1)) (max F (U1.X.drop t).length) F0 F0 F0 f2 ht1;have hst:SW o b[i] inp U=some (e,U1,inp.drop (min m inp.length)):=by rw[SW,Abo h1,hm,Ajr,f1,Aa]
   rw[hst];simp only;have hle:=pk_mono o (b.drop (i+1)) (inp.drop (min m inp.length)) U1 (max K (kpU U1)) (max F (U1.X.drop t).length) (max F U1.X.length) Bai;refine⟨F',?_,Azh g2 hle.2,λhnd h0=>?_⟩
   ·rw[Abo hg1,hmin,Cw,Ajr,Aa,f4 t ht,Aa];simp only;rw[Cz,Aa,Rz,Zj,X0 ho f2 t,Aa];simp only;rw[Abl F7,hmax,Ac,hmax,fL i F0,Ajr,g1,hle.1]
   ·subst h0;rw[g3 hnd rfl,Aze]
  ·
   have hg1:¬geq b[i].1 1=true:=by rw[h1];decide
   have hg2:geq b[i].1 2=true:=by rw[h1];rfl
   have hd:=M7 ho hU t m;have hXl:(U.X.drop t).length=U.X.length-t:=Ae7;rw[hXl,List.drop_drop]at hd;obtain⟨F',g1,g2,g3⟩:=gS ho hb hv k (i+1) (t+min m (U.X.length-t)) q U inp (max K (kpU U)) (max F (U.X.drop (t+min m (U.X.length-t))).length) F0 F0 hin hU F0;have hst:SW o b[i] inp U=some (0,U,inp):=by rw[SW,Abl (by rw[h1];decide),Abo h1]
   rw[hst];simp only;have hle:=pk_mono o (b.drop (i+1)) inp U (max K (kpU U)) (max F (U.X.drop (t+min m (U.X.length-t))).length) (max F U.X.length) Bai;refine⟨F',?_,Azh g2 hle.2,λhnd _=>absurd h1 (hnd _ (Ao8 hlt))⟩;rw[Abl hg1,Abo hg2,hm,hd,Aa];simp only;rw[Rz,Zj,X0 ho hU _,Aa];simp only;rw[Abl F7,hmax,Ac,hmax,fL i F0,g1,hle.1]
  ·
   have hg1:¬geq b[i].1 1=true:=by rw[h1];decide
   have hg2:¬geq b[i].1 2=true:=by rw[h1];decide
   have hg3:geq b[i].1 3=true:=by rw[h1];rfl
   obtain⟨e,U1,f1,f2,f3,f4⟩:=eu ho hU;have ht1:t<=U1.X.length:=by rw[f3];exact ht
   obtain⟨F',g1,g2,g3⟩:=gS ho hb hv k (i+1) t q U1 inp (max K (kpU U1)) (max F (U1.X.drop t).length) F0 F0 hin f2 ht1;have hst:SW o b[i] inp U=some (e,U1,inp):=by rw[SW,Abl (by rw[h1];decide),Abl (by rw[h1];decide),f1,Aa]
   rw[hst];simp only;have hle:=pk_mono o (b.drop (i+1)) inp U1 (max K (kpU U1)) (max F (U1.X.drop t).length) (max F U1.X.length) Bai;refine⟨F',?_,Azh g2 hle.2,λhnd h0=>?_⟩
   ·rw[Abl hg1,Abl hg2,Abo hg3,f4 t ht,Aa];simp only;rw[Rz,Zj,X0 ho f2 t,Aa];simp only;rw[Abl F7,hmax,Ac,hmax,fL i F0,g1,hle.1]
   ·subst h0;rw[g3 hnd rfl,Aze]
where pk_mono (o:LB):∀(l:List bE) (inp:LB) (U:Ud) (K F G:Nat),F<=G-> (pX o l inp U K F).1=(pX o l inp U K G).1/\ (pX o l inp U K F).2<= (pX o l inp U K G).2
 |[],inp,U,K,F,G,h=>⟨rfl,h⟩
 |st::l,inp,U,K,F,G,h=>by
  rw[pX,pX];split
  ·exact pk_mono o l _ _ _ _ _ F0
  ·exact⟨rfl,h⟩
theorem cu{o:LB}(ho:o.length<=64):∀{l:List bE} {inp:LB} {U:Ud} {K F:Nat},OkU o inp.length U-> (∀st∈l,VS st)->kpU U<=K->U.X.length<=F->pX o (PB l) inp U K F=pX o l inp U K F
 |[],inp,U,K,F,_,_,_,_=>rfl
 |st::l,inp,U,K,F,hU,hv,hK,hF=>by
  obtain⟨e,U',inp',h1,h2,h3⟩:=Ane ho (hv st (.head _)) hU;have hv':∀st∈l,VS st:=λx hx=>hv x (Aqg _ hx);by_cases hd:st.1=2
  ·have h4:=h1;rw[SW,Abl (by rw[hd];decide),Abo hd]at h4;cases h4;rw[show PB (st::l)=PB l by simp[PB,hd],pX,h1];simp only;rw[Nat.max_eq_left hK,Nat.max_eq_left hF];exact cu ho hU hv' hK hF
  ·rw[show PB (st::l)=st::PB l by simp[PB,hd],pX,pX,h1];simp only;exact cu ho h2 hv' F0 F0
theorem Asd(o:LB):∀(l:List bE) (inp:LB) (U:Ud) (K F:Nat),K<= (pX o l inp U K F).1
 |[],inp,U,K,F=>An1 _
 |st::l,inp,U,K,F=>by
  rw[pX];split
  ·exact Azh (Nat.le_max_left _ _) (Asd o l _ _ _ _)
  ·exact An1 _
theorem Agi(o:LB):∀(n:Nat) (l:List bE) (inp:LB) (U:Ud) (K F:Nat),(pX o (l.take n) inp U K F).1<= (pX o l inp U K F).1
 |0,l,inp,U,K,F=>by rw[Ay4];exact Asd o l inp U K F
 |n+1,[],inp,U,K,F=>An1 _
 |n+1,st::l,inp,U,K,F=>by
  rw[List.take_succ_cons,pX,pX];split
  ·exact Agi o n l _ _ _ _
  ·exact An1 _
theorem xX{l:List bE}(ho:o.length<=64)(hin:inp.length<=12100)(hl:l.length<=200)(hv:∀st∈l,VS3 st):
  ∃F':Nat,BO o inp l=some (((pX o l inp U0 0 0).1:Int),(F':Int),0)/\F'<= (pX o l inp U0 0 0).2/\ ((∀st∈l,st.1≠2)->F'=(pX o l inp U0 0 0).2):=by
 obtain⟨es,U,inp',ds,t,h1,h2,h3,h4,h5,h6⟩:=Arb ho hin hl hv;obtain⟨F',g1,g2,g3⟩:=gS ho hl (λst h=>(hv st h).1) l.length 0 0 Ar U0 inp 0 0 F0 Az9 hin (Amo ho hin) (An1 _);rw[Aze]at g1 g2 g3;refine⟨F',?_,g2,λhn=>g3 hn rfl⟩;rw[BO,QP,h6,Aa];simp only;rw[Abl F7,CA,Abl Baa,Aa];simp only;rw[Abl F7];exact g1
theorem Y0(f g:LB)(h:List bE)(hh:h.length<=200)(x y z:Int):∀(suf:List bE) (i q:Nat) (n:List bE),h.drop i=suf->i<=h.length->suf.length<q->n.length<=i->
  Dk f g h true x y z q (i:Int) n=Hh f g h true x y z (n++PB suf)
 |suf,i,0,n,_,_,hq,_=>absurd hq (Azx _)
 |[],i,q+1,n,h1,hi,hq,hn=>by
  have:h.length<=i:=List.drop_eq_nil_iff.1 h1;rw[Dk,Hg,Abl F5];simp[PB]
 |st::suf,i,q+1,n,h1,hi,hq,hn=>by
  obtain⟨hi1,e1,e2⟩:=Ajb h1;rw[Dk,Hg,Abo F5,Cf hi1,Aa,e1];by_cases hd:st.1=2
  ·rw[Abl (by rw[hd];decide),fL i F0,Y0 f g h hh x y z suf (i+1) q n e2 F0 (by simp at hq;omega) F0];simp[PB,hd]
  ·have hg:Bg st.1 2=true:=by
    have:geq st.1 2=false:=by rw[Aw0];simpa using hd
    show(!geq st.1 2)=true;rw[this];rfl
   rw[Abo hg,Aa,Cr F9,Aa,fL i F0,Y0 f g h hh x y z suf (i+1) q _ e2 F0 (by simp at hq;omega) F9];simp[PB,hd]
theorem Acw(hal:Re=some true)(k m:LB)(h:List bE):Jf k m h=some true:=by
 have main:k.length<=64->m.length<=12100->Hn h=some true->Ld k m h true=some true:=by
  intro hk hm hf;obtain⟨hl,hv⟩:=Auw hf;have hll:=Aij h;obtain⟨F,a1,a2, -⟩:=xX hk hm F0 hv;obtain⟨F2,b1, -,b3⟩:=xX hk hm (l:=PB h) F0 (Ajq hv);have hpk:pX k (PB h) m U0 0 0=pX k h m U0 0 0:=cu hk (Amo hk hm) (λst hs=>(hv st hs).1) F7 F7;have b4:=b3 λst hs=>by simpa using(List.mem_filter.1 hs).2
  rw[hpk]at b1 b4;obtain⟨F3,c1, -, -⟩:=xX hk hm (l:=h.take (h.length/2)) Ban (λst hs=>hv st (Azc hs));have c4:=Agi k (h.length/2) h m U0 0 0;rw[Ld,Lj,a1,Aa];simp only;rw[Sk];refine Axr (Y0 k m h F0 _ _ _ h 0 Ar [] rfl (Nat.zero_le _) Az9 Bab) ?_;rw[Ass,Hh,Sf,b1,Aa];simp only;have e1:Cy (Ac h) 2=((h.length/2:Nat):Int):=by rw[Ac,show(2:Int)=((2:Nat):Int)from rfl,Am4]
  rw[e1,Cw,Aa,Ajr,c1,Aa];simp only[Bb,ND,Dz];simp;omega
 rw[Jf,Li,hal,Aa];by_cases ho:k.length<=64
 ·rw[Abl Baa,EW,Aa];by_cases hc:(((Dw (Ac m) 5000)&&(Ch (Ac m) 12000))||(Dw (Ac m) 12100))=true
  ·rw[Abo hc,Abo rfl,Abo F7]
  ·rw[Abl hc];simp only[At9,not_or,Ax,Ac,Adf]at hc;obtain⟨kf,hkf⟩:=Arx h;have hkf':=hkf;rw[Hn,Ff,Aa]at hkf';rw[Ff,Aa];by_cases hM:(((Dw (Ac h) 60)&&(pV (Ac h) 200))||(Dw (Ac h) 210))=true
   ·rw[Abo hM,Abo F7]
   ·rw[Abl hM];rw[Abo (by rw[Bool.not_eq_true]at hM;rw[hM];rfl)]at hkf';obtain⟨e,he,hkf'⟩:=Uk hkf';rw[he,Aa];by_cases h0:e=0
    ·subst h0;rw[Abl F7];refine main ho F0 ?_;rw[hkf];simp only[Ac9]at hkf';rw[<-hkf'];rfl
    ·rw[Abo (by simp[Ao,h0])]
 ·rw[Abo Baa];rfl
theorem Aqr:Re=some true:=by kernel_rfl
theorem law_MemoryDrains(k m:LB)(h:List bE):Jf k m h=some true:=Acw Aqr k m h
end Go.Pl
