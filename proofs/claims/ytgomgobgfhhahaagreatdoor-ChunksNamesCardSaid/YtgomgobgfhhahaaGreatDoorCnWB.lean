/- A part of a proof (see the text that ends in Proof). No conditions. -/
import Derived.Test.YtgomgobgfhhahaaGreatDoorCnWA
import Derived.KernelRfl
set_option linter.unusedVariables false
set_option linter.unusedSimpArgs false
namespace Go.Pl
open Go Go.Lv
section
variable {f c w r n:Int} {F C W R N:Nat} (hd:HdI f c w r n F C W R N)
include hd
theorem HdI.ne0:¬(geq f 0=true):=by
 have:=hd.num;rw[Bb,Atw,hd.ef];omega
theorem E5(o p:LB)(hp:p.length<=100000)(A:Nat)(hA:A<=p.length)(a:Int)(x:LB)(u:Bool)(v:Int):
  (It o p f c w r n a u v [] x (A:Int)=Bl (decide ((Ii (p.drop A) (Aq (Ba R) N).length).2=24)))/\
  Ds p f c w r n (A:Int)=some (if(Ii (p.drop A) (Aq (Ba R) N).length).2=24 then(0,[], -1)else((A:Int)+(4*((Ii (p.drop A) (Aq (Ba R) N).length).1.length:Int)+4),(Ii (p.drop A) (Aq (Ba R) N).length).1,(Ii (p.drop A) (Aq (Ba R) N).length).2))/\
  ((Ii (p.drop A) (Aq (Ba R) N).length).2=0-> (A:Int)+(4*((Ii (p.drop A) (Aq (Ba R) N).length).1.length:Int)+4)<=p.length):=by
 have hs:=cz (p.drop A) (Aq (Ba R) N).length (by rw[Anr];omega);have hr:=Alp (p.drop A) (Aq (Ba R) N).length (by rw[Anr];omega);have hok:=xk (b:=p.drop A) (n:=(Aq (Ba R) N).length);have hlen:(Ii (p.drop A) (Aq (Ba R) N).length).1.length<=1000:=by
  unfold Ii
  repeat' split
  all_goals simp[MJ]
  all_goals omega
 have hfit:(Ii (p.drop A) (Aq (Ba R) N).length).2=0-> (A:Int)+(4*((Ii (p.drop A) (Aq (Ba R) N).length).1.length:Int)+4)<=p.length:=by
  intro h0;obtain⟨k1,k2,k3,k4,_⟩:=hok h0;rw[k1];simp only[MJ];rw[Anr]at k4;omega
 refine⟨?_,?_,hfit⟩
 ·rw[It,DB,hd.uQ,Aa];simp only;rw[Aaw (by decide),Dg,Aa,Ajk,Ac,hs,Aa];generalize Ii (p.drop A) (Aq (Ba R) N).length=z at*
  obtain⟨z1,z2⟩:=z;simp only at*
  by_cases h1:z2=24
  ·rw[Aa1 (by rw[Bb];simpa using h1),I6,Aun h1];rfl
  rw[Aaw (by rw[Bb];simpa using h1),Auj h1];by_cases h2:z2≠0
  ·rw[Aa1 (by rw[Ao];simpa using h2),Ah,Aa];simp only;rw[I6];rfl
  ·have h0:z2=0:=by simpa using h2
   have:=hfit h0;rw[Aaw (by rw[Ao,h0];simp),Ac,Aco A z1.length (by omega) (by omega),Dg,Aa,I6];rfl
 ·rw[Ds,DI,Dg,Aa,hd.Ac9,Aa,Ac,Ajk,hr,Aa];generalize Ii (p.drop A) (Aq (Ba R) N).length=z at*
  obtain⟨z1,z2⟩:=z;simp only at*
  rw[GB,FY];by_cases h1:z2=24
  ·rw[Aa1 (by rw[Bb];simpa using h1),Aa1 h1]
  ·rw[Aaw (by rw[Bb];simpa using h1),Aaw h1,Ac,Aco A z1.length (by omega) (by omega)];congr 2
theorem Aov(o p:LB)(ho:o.length<=64)(hp:p.length<=100000)(a:Int)(x:LB)(u:Bool)(v:Int):
  ∃B:Bool,Ad7 o p f c w r n [] a x u v=Bl B/\Cc o p f c w r n [] a x u v=some B:=by
 have hT:Al o p f c w r n [] a x u v=Al o p f c w r n [] a x u v:=rfl
 conv at hT=>rhs;rw[Al,Cx,Aaw hd.ne0,Cu,Cs,Aa1 (by decide),Ey,Is]
 rw[Ad7,Aaw hd.ne0,Aa1 (by decide)];have fin:∀A:Nat,A<=p.length->Al o p f c w r n [] a x u v=(Ds p f c w r n (A:Int)).bind (λ(ag,ak,w1)=>
   if(Bd w1 0)then some (o,p,f,c,w,r,n,[],a,x,u,v,w1)else(Bf p ag (Ac p)).bind λal=>some (o,al,f,c,w,r,n,ak,a,x,u,v,0))->
   ∃B:Bool,It o p f c w r n a u v [] x (A:Int)=Bl B/\Cc o p f c w r n [] a x u v=some B:=by
  intro A hA hT;obtain⟨t1,t2,t3⟩:=E5 hd o p hp A hA a x u v;have hnn:=Abi (p.drop A) (Aq (Ba R) N).length;rw[t2,Aa]at hT;rw[t1];generalize Ii (p.drop A) (Aq (Ba R) N).length=z at*
  obtain⟨z1,z2⟩:=z;simp only at*
  by_cases h1:z2=24
  ·rw[Aa1 h1]at hT;simp only at hT;rw[Aa1 (by decide)]at hT;exact⟨_,rfl,(yn hT).trans (by rw[Aun h1];rfl)⟩
  rw[Aaw h1]at hT;simp only at hT;by_cases h2:z2≠0
  ·rw[Aa1 (by rw[Ao];simpa using h2)]at hT;exact⟨_,rfl,(yn hT).trans (by rw[Auj h1,kP hnn])⟩
  ·have h0:z2=0:=by simpa using h2
   have:=t3 h0;rw[Aaw (by rw[Ao,h0];simp),Dg,Aa]at hT;exact⟨_,rfl,(yn hT).trans (by rw[Auj h1];rfl)⟩
 by_cases h2:geq f 2=true
 ·rw[Aa1 h2]at hT⊢;by_cases h8:p.length<8
  ·rw[Aa1 (by rw[Af,Ac];simp;omega)]at hT⊢;rw[Aa]at hT;simp only at hT;rw[Aa1 (by decide)]at hT;rw[I6];exact⟨_,rfl,yn hT⟩
  ·rw[Aaw (by rw[Af,Ac];simp;omega)]at hT⊢;have h8':(p.take 8).length=8:=by rw[Ae5];omega
   rw[Da,Aa,T9 o ho,Aa]at hT;rw[Vm,GZ,Da,Aa,show(8:Int).toNat=8 from rfl,Abg h8' ho,Aa];rw[show(8:Int).toNat=8 from rfl]at hT;simp only;rw[GX,GO,Aaw (by decide)];by_cases he:(p.take 8==RS (DU o).toNat 8)=true
   ·rw[Aaw (by rw[bne,he];decide)]at hT;rw[Aaw (by rw[he];decide)];exact fin 8 (by omega) hT
   ·have he':(p.take 8==RS (DU o).toNat 8)=false:=by simpa using he
    rw[Aa1 (by rw[bne,he'];decide),Aa]at hT;simp only at hT;rw[Aa1 (by decide)]at hT;rw[Aa1 (by rw[he'];decide),Ah,Aa];simp only;rw[I6];exact⟨_,rfl,yn hT⟩
 ·rw[Aaw h2]at hT⊢;exact fin 0 (by omega) hT
end
theorem Ah0{f c w r n:Int}{F C W R N:Nat}(hd:HdI f c w r n F C W R N)(o p:LB)(ho:o.length<=64)(hp:p.length<=100000)(g:LI)(hg:AR g=true)(hl:g.length=(Aq (Ba R) N).length)(A:Nat)(hA:A<=g.length)(x:LB)(hx:x.length<=14000000)(u:Bool)(v:Int):
  ∃B:Bool,Ad7 o p f c w r n g (A:Int) x u v=Bl B/\Cc o p f c w r n g (A:Int) x u v=some B:=by
 have hc:=hd.ec;subst hc;have hg':=hg;rw[AR,Abv,Aby,QF g 100000 (by omega)]at hg';obtain⟨⟨g1,g2⟩,g5,g6⟩:=hg';have hT:Al o p f (C:Int) w r n g (A:Int) x u v=Al o p f (C:Int) w r n g (A:Int) x u v:=rfl
 conv at hT=>rhs;rw[Al,Cx,Aaw hd.ne0,Cu,Cs,Aaw (by rw[Bb,Ac];simp;intro e;subst e;simp at g1)]
 rw[Ad7,Aaw hd.ne0,Aaw (by rw[Bb,Ac];simp;intro e;subst e;simp at g1)];by_cases hA2:A=g.length
 ·subst hA2;rw[Aa1 (by rw[Bb,Ac];simp)]at hT;rw[Aaw (by rw[Af,Ac];simp)];by_cases h4:4000<p.length
  ·rw[Aa1 (by rw[Ay,Ac];simp;omega)]at hT⊢;rw[Ah,Aa];simp only;exact⟨_,rfl,yn hT⟩
  ·rw[Aaw (by rw[Ay,Ac];simp;omega)]at hT⊢;rw[Uu,FF];exact⟨_,rfl,yn hT⟩
 ·have hlt:A<g.length:=by omega
  have h5:=g5 g[A] (Ar0 hlt);have hsum:=jh g5 g[A] (Ar0 hlt);rw[Aaw (by rw[Bb,Ac];simp;omega),Dm,Gf,Cw hlt,Aa]at hT;rw[Aa1 (by rw[Af,Ac];simp;omega),Cw hlt,Aa,Aa];by_cases hw:(p.length:Int)<g[A]
  ·rw[Aa1 (by rw[Af,Ac];simpa using hw)]at hT⊢;rw[Aa]at hT;simp only at hT;rw[Aa1 (by decide)]at hT;rw[Adb];exact⟨_,rfl,yn hT⟩
  rw[Aaw (by rw[Af,Ac];simpa using hw)]at hT⊢;have UQ:=hd.num;have hlt2:A<(Aq (Ba R) N).length:=by omega
  obtain⟨m,hm,m1,m2⟩:=AW (Tl R) UQ.2.2.2.2.1 (Ar0 hlt2);have hb:Ct w:=by rw[hd.ew];unfold Ct;omega
  obtain⟨xs,e,d1,d2,d3,d4⟩:=KZ (bits:=w) (ch:=C) (n:=m) (t:=FB o) (p.take g[A].toNat) hb (Wh o) UQ.2.1.1 UQ.2.1.2 m1 (by omega);have hnn:=Y2 hb (Wh o) UQ.2.1.1 UQ.2.1.2 m1 (by omega) d2;rw[U8 o ho,Aa];simp only;rw[Aaw (by decide),hd.uQ,Aa];simp only;rw[Aaw (by simp[Ao,En,Ac];omega),Uw,GL,Cw hlt2,Aa,Da,Aa,Aa,Zn,Aa];simp only;rw[hm,d1,Aa];simp only;rw[jU o ho,Aa]at hT;simp only at hT;rw[Da,Aa,Hq,Aa]at hT;simp only at hT;rw[hd.Ac9,Aa,Cw hlt2,Aa,Aa,hm]at hT;rw[d2,Aa]at hT;simp only at hT;rw[Gj,Ge]at hT;rw[GM,Uo];by_cases he:e≠0
  ·rw[Aa1 (by rw[Ao];simpa using he)]at hT⊢;rw[Aa]at hT;simp only at hT;rw[Aa1 (by rw[Ao];simpa using he)]at hT;rw[Ah,Aa];simp only;rw[Adb];exact⟨_,rfl,(yn hT).trans (by rw[kP hnn];rfl)⟩
  ·have he0:e=0:=by simpa using he
   obtain⟨k1,k2,k3⟩:=d3 he0;have hbl:=JI w xs;rw[Aaw (by rw[Ao,he0];simp)]at hT⊢;rw[aR hb k2 k1,Aa,Aa]at hT;simp only at hT;rw[Aaw (by decide),Cv (by simp;omega),Aa,Asc,Cv,Aa,Aa,Dg,Aa]at hT;rw[pP hb k2 k1,Aa];simp only;rw[Aaw (by decide),Cv,Aa,Dg,Aa,Adb];exact⟨_,rfl,yn hT⟩
theorem sw(a:LI)(b:Int)(ha:a.length<=100):∀(j i q:Nat),i+j=a.length->j<q->∃r,Br a b q (i:Int)=some r/\Je r 0=(a.drop i).any λy=>b==y
 |0,i,q+1,hi,_=>by
  refine⟨-1,?_,?_⟩
  ·rw[Br,Ed,Aaw (by rw[Af,Ac];simp;omega)];rfl
  ·rw[show i=a.length by omega,Awp];rfl
 |j+1,i,q+1,hi,hq=>by
  have hlt:i<a.length:=by omega
  obtain⟨r,h1,h2⟩:=sw a b ha j (i+1) q (by omega) (by omega);rw[Br,Ed,Aa1 (by rw[Af,Ac];simp;omega),Cw hlt,Aa,drop_cons hlt,List.any_cons];by_cases h:b=a[i]
  ·rw[Aa1 (by rw[Bb];simpa using h)];refine⟨_,rfl,?_⟩;rw[En,Aun (by omega),h];simp
  ·rw[Aaw (by rw[Bb];simpa using h),Aj];refine⟨r,h1,?_⟩;rw[h2,beq_eq_false_iff_ne.2 h,Bool.false_or]
theorem Ajv(v:Int):∃B:Bool,Px v=some B/\Wm v=some B:=by
 obtain⟨r,h1,h2⟩:=sw [4,12,16,22,24,26,38] v (by decide) 7 0 Ar rfl (by have:=As;omega);refine⟨_,?_,rfl⟩;rw[Px,Hb,Ip,He,Gz];have h1':Br [4,12,16,22,24,26,38] v Ar 0=some r:=h1;rw[h1',Aa,Aa,h2];simp only[List.drop_zero,List.any_cons,List.any_nil,Bool.or_false,Bb,Bool.or_assoc]
theorem pL(B:Bool):Bl B=some (if B=true then 0 else 8):=by
 rw[Bl,UW];cases B<;>rfl
theorem Apr(a b:LB)(f g h k m:Int)(n:LI)(o:Int)(p:LB)(u:Bool)(v:Int)(hb:b.length<=16000000)(hn:n.length<=16000000)(hp:p.length<=16000000):
  Dt a b f g h k m n o p u v=some (a,b,f,g,h,k,m,n,o,p,u,v):=by
 rw[Dt,Lc,Cv (by simp;omega),Aa,Aa,Lc,Cv (by simp;omega),Aa,Aa,Ga,Cv (by simp;omega),Aa,Aa];rfl
theorem E8(o p:LB)(f c w r n:Int)(g:LI)(a:Int)(x:LB)(u:Bool)(v:Int)(hp:p.length<=100000)(hg:g.length<=100000)(hx:x.length<=14000000):
  ∃E,Pu o p f c w r n g a x u v=some E/\Dy o p f c w r n g a x u v=some E:=by
 rw[Pu,Xz,Dy];by_cases ho:64<o.length
 ·rw[Aa1 (by rw[Ay,Ac];simp;omega),Aa1 (by rw[Ay,Ac];simp;omega)];exact⟨8,rfl,rfl⟩
 have hO:¬(Dx (Ac o) 64=true):=by rw[Ay,Ac];simp;omega
 rw[Aaw hO,Aaw hO];by_cases hw:(geq v 0&& !u)=true
 ·rw[Aa1 hw,Aa1 hw,Apr o p f c w r n g a x u v (by omega) (by omega) (by omega),Aa];simp only;rcases Ady o p f c w r n g a x u v with⟨e1,e2⟩|⟨e1,e2,hd⟩
  ·rw[e1,e2,Aa,Aa,Aaw (by decide),Aa1 (by decide),pL];exact⟨8,rfl,rfl⟩
  ·rw[e1,e2,Aa,Aa1 rfl];have key:∃B:Bool,Ad7 o p f c w r n g a x u v=Bl B/\Cc o p f c w r n g a x u v=some B:=by
    cases hd with
    |new e1 e2 e3 e4 e5 e6 e7 e8=>subst e1;exact Ah6 o p c w r n g a x u v hp
    |head F C W R N h hpw e6 e7 e8=>subst e6;exact Aov h o p (by omega) hp a x u v
    |tab F C W R N A h hpw ht hl ea hA=>subst ea;exact Ah0 h o p (by omega) hp g ht hl A hA x hx u v
   obtain⟨B,k1,k2⟩:=key;rw[k2,Aa];refine⟨if B=true then 0 else 8,k1.trans (pL B),?_⟩;cases B<;>rfl
 ·rw[Aaw hw,Aaw hw];by_cases hl:(geq (Ac p) 0&&geq (Ac g) 0)=true
  ·rw[Aa1 hl,Aa1 hl];generalize(geq f 0&&(geq c 0&&(geq w 0&&(geq r 0&&(geq n 0&&true)))))=z;by_cases hz:((z&&geq a 0)&&xZ (Ac x) 12000)=true
   ·rw[Aa1 hz];simp only[Abv,eS,Ac,Aby]at hz;obtain⟨⟨z1,z2⟩,z3⟩:=hz;have hN:¬((!(z&&geq a 0)||Dx (Ac x) 12000)=true):=by rw[z1,z2,Ay,Ac];simp;omega
    rw[Aaw hN];by_cases hv:v=0
    ·have v1:geq v 0=true:=by rw[Bb];simpa using hv
     have v2:¬(Bd v 0=true):=by rw[Ao];simpa using hv
     rw[Aa1 v1,Aaw v2,pL];exact⟨0,rfl,rfl⟩
    ·have v1:¬(geq v 0=true):=by rw[Bb];simpa using hv
     have v2:Bd v 0=true:=by rw[Ao];simpa using hv
     rw[Aaw v1,Aa1 v2];obtain⟨B,k1,k2⟩:=Ajv v;rw[k1,k2,Aa,Aa,pL,pL];cases u
     ·refine⟨if B=true then 0 else 8,by simp,?_⟩;cases B<;>rfl
     ·exact⟨8,rfl,rfl⟩
   ·rw[Aaw hz,Aa1,pL]
    ·exact⟨8,rfl,rfl⟩
    ·simp only[Abv,eS,Ac,Aby]at hz;simp only[Ash,Aqs,Ay,Ac,Aby];by_cases hz2:(z&&geq a 0)=true
     ·rw[Abv]at hz2;exact .inr (by have hq:¬((x.length:Int)<=12000):=λh=>hz ⟨hz2,h⟩;omega)
     ·exact .inl (by simpa using hz2)
  ·rw[Aaw hl,Aaw hl,Aaw (by simp),Aa1 (by simp),pL];exact⟨8,rfl,rfl⟩
def SY(bk:LB->Int->Int->Int->Int->Int->Int->LI->LB->Ap)(o:LB)(u:Bool)(v:Int):LB->Int->Int->Int->Int->Int->Int->LI->LB->Ap:=
 Hs (Mt bk o u v) (Qt bk o u v) (Ke bk o u v) (Qv bk o u v) (Ko bk o u v) (Mq bk o u v) (Qk bk o u v) (Bv bk o u v) (Xt bk o u v) o u v
structure SzD (p:LB) (g:LI) (a:Int) (x:LB):Prop where
 hp:p.length<=100000
 hg:g.length<=1000
 hx:x.length+12000*(g.length-a.toNat)<=13000000
def muD(f:Int)(g:LI)(a:Int):Nat:=if f=0 then 1003 else if g=[]then 1002 else g.length-a.toNat+1
section
variable {bk:LB->Int->Int->Int->Int->Int->Int->LI->LB->Ap} {o p:LB} {f c w r n:Int} {g:LI} {a:Int} {x:LB} {u:Bool} {v:Int}
theorem Als(hp:p.length<=100000)(hg:g.length<=1000)(hx:x.length<=13000000):Dt o p f c w r n g a x u v=some (o,p,f,c,w,r,n,g,a,x,u,v):=by
 rw[Dt,Lc,Cv (by simp;omega),Aa,Aa,Lc,Cv (by simp;omega),Aa,Aa,Ga,Cv (by simp;omega),Aa,Aa];rfl
theorem Av8(h:SzD p g a x)(e:Int):Bv bk o u v p f c w r n a true e g x=some (o,p,f,c,w,r,n,g,a,x,u,v,0):=by
 rw[Bv,IJ,Aa1 rfl,Als h.hp h.hg (by have:=h.hx;omega),Aa]
theorem Ava{e:Int}(h:e≠0):Bv bk o u v p f c w r n a false e g x=some (o,[],0,0,0,0,0,[],0,x,false,e,e):=by
 rw[Bv,IJ,Aaw (by decide),Aa1 (by rw[Ao];simpa using h)];rfl
inductive StepR (bk:LB->Int->Int->Int->Int->Int->Int->LI->LB->Ap) (o p:LB) (f c w r n:Int) (g:LI) (a:Int) (x:LB) (u:Bool) (v:Int):Prop
 |wait:SY bk o u v p f c w r n a g x=some (o,p,f,c,w,r,n,g,a,x,u,v,0)->Al o p f c w r n g a x u v=some (o,p,f,c,w,r,n,g,a,x,u,v, -1)->StepR bk o p f c w r n g a x u v
 |err (e:Int) {t1 t2:LB} {t3 t4 t5 t6 t7:Int} {t8:LI} {t9:Int} {t10:LB} {t11:Bool} {t12:Int}:0<e->SY bk o u v p f c w r n a g x=some (o,[],0,0,0,0,0,[],0,x,false,e,e)->
   Al o p f c w r n g a x u v=some (t1,t2,t3,t4,t5,t6,t7,t8,t9,t10,t11,t12,e)->StepR bk o p f c w r n g a x u v
 |next (p':LB) (f' c' w' r' n':Int) (g':LI) (a':Int) (x':LB):SY bk o u v p f c w r n a g x=bk p' f' c' w' r' n' a' g' x'->Al o p f c w r n g a x u v=some (o,p',f',c',w',r',n',g',a',x',u,v,0)->
   FitD o f' c' w' r' n' g' a' x'->SzD p' g' a' x'->p'.length<=p.length->muD f' g' a'<muD f g a->StepR bk o p f c w r n g a x u v
theorem f62{d:Bool}{e:Int}:Mt bk o u v a g x d e p f c w r n=Bv bk o u v p f c w r n a d e g x:=rfl
theorem f75{d:Bool}{e:Int}:Ke bk o u v f c w r n a x d e p g=Bv bk o u v p f c w r n a d e g x:=rfl
theorem f78{d:Bool}{e:Int}:Mq bk o u v f c w r n g d e p a x=Bv bk o u v p f c w r n a d e g x:=rfl
theorem mkW(hZ:SzD p g a x)(hF:SY bk o u v p f c w r n a g x=Bv bk o u v p f c w r n a true 0 g x)(hT:Al o p f c w r n g a x u v=some (o,p,f,c,w,r,n,g,a,x,u,v, -1)):StepR bk o p f c w r n g a x u v:=
 .wait (hF.trans (Av8 hZ 0)) hT
theorem mkE{e:Int}{p2:LB}{f2 c2 w2 r2 n2 a2:Int}{g2:LI}{t1 t2:LB}{t3 t4 t5 t6 t7:Int}{t8:LI}{t9:Int}{t10:LB}{t11:Bool}{t12:Int}(he:0<e)(hF:SY bk o u v p f c w r n a g x=Bv bk o u v p2 f2 c2 w2 r2 n2 a2 false e g2 x)
  (hT:Al o p f c w r n g a x u v=some (t1,t2,t3,t4,t5,t6,t7,t8,t9,t10,t11,t12,e)):StepR bk o p f c w r n g a x u v:= .err e he (hF.trans (Ava (by omega))) hT
theorem HdI.fnz{F C W R N:Nat}(h:HdI f c w r n F C W R N):f≠0:=by
 have:=h.num;rw[h.ef];omega
theorem Aj0(hp:p.length<=100000):StepR bk o p 0 0 0 0 0 [] 0 [] u v:=by
 have hZ:SzD p [] 0 []:=⟨hp,by simp,by simp⟩;have hT:Al o p 0 0 0 0 0 [] 0 [] u v=Al o p 0 0 0 0 0 [] 0 [] u v:=rfl
 conv at hT=>rhs;rw[Al,Cx,Aa1 (by decide),BJ p hp,Aa,rf]
 have hF:SY bk o u v p 0 0 0 0 0 0 [] []=SY bk o u v p 0 0 0 0 0 0 [] []:=rfl
 conv at hF=>rhs;rw[SY,Hs,Aa1 (by decide),SW p (by omega),Aa]
 have hfn:=T7 p;have hrn:=qy (Vu p);have hok:=aH (b:=p);simp only at hT hF;by_cases h1:(Di p).2=24
 ·rw[Aa1 h1]at hT;simp only at hT;rw[Aa1 (by decide)]at hT;rw[Aa1 (by rw[Bb];simpa using h1)]at hF;exact mkW hZ hF hT
 rw[Aaw h1]at hT;rw[Aaw (by rw[Bb];simpa using h1)]at hF;by_cases h2:(Di p).2≠0
 ·rw[Aa1 h2]at hT;simp only at hT;rw[Aa1 (by rw[Ao];simpa using h2)]at hT;rw[Aa1 (by rw[Ao];simpa using h2),Ah,Aa]at hF;exact mkE (by omega) hF hT
 have h0:(Di p).2=0:=by simpa using h2
 obtain⟨k1,k2,k3⟩:=hok h0;have hl:(Vu p).length=p.length-(Di p).1.toNat:=by rw[Vu,Anr]
 rw[Aaw h2]at hT;rw[Aaw (by rw[Ao,h0];simp),Dg,Aa,Aa,show p.drop (Di p).1.toNat=Vu p from rfl,Al4,Aa]at hF;by_cases h3:(Qs (Vu p) Q3||Qs (Vu p) Q8)=true
 ·rw[Aa1 h3]at hT hF;simp only at hT;rw[Aa1 (by decide)]at hT;exact mkW hZ hF hT
 rw[Aaw h3]at hT hF;rw[uY _ (by omega),Aa]at hF;by_cases h5:(Ep (Vu p)).2.2.2.2.2=24
 ·rw[Aa1 h5]at hT;simp only at hT;rw[Aa1 (by decide)]at hT;rw[Aa1 (by rw[Bb];simpa using h5)]at hF;exact mkW hZ hF hT
 rw[Aaw h5]at hT;rw[Aaw (by rw[Bb];simpa using h5)]at hF;simp only at hT;by_cases h6:(Ep (Vu p)).2.2.2.2.2≠0
 ·rw[Aa1 (by rw[Ao];simpa using h6)]at hT hF;rw[Ah,Aa]at hF;exact mkE (by have:=hrn;generalize(Ep (Vu p)).2.2.2.2.2=z at *;omega) (hF.trans f62) hT
 have h7:(Ep (Vu p)).2.2.2.2.2=0:=by simpa using h6
 obtain⟨r1,h22,r3,r4⟩:=yc h7;rw[Aaw (by rw[Ao,h7];simp),Dg,Aa,Hu,Hz,Ei]at hT;rw[Aaw (by rw[Ao,h7];simp),Aj,Dg,Aa,Qt,JN,Nb]at hF;simp only at hT hF;by_cases h8:((o==([]:LB)) !=geq (Ep (Vu p)).1 1)=true
 ·rw[Aa1 h8]at hT hF;rw[Aa]at hT hF;rw[Ah,Aa]at hF;simp only at hF;exact mkE (by decide) (hF.trans f62) hT
 ·rw[Aaw h8]at hT hF;rw[Aa]at hT hF;rw[Ah,Aa]at hF;have hd:HdI (Ep (Vu p)).1 (Ep (Vu p)).2.1 (Ep (Vu p)).2.2.1 (Ep (Vu p)).2.2.2.1 (Ep (Vu p)).2.2.2.2.1 (f0 (Vu p)) (f1 (Vu p)) (f2 (Vu p)) (f3 (Vu p)) (f4 (Vu p)):=by
   constructor<;>first|(rw[r1])|assumption
  refine .next _ _ _ _ _ _ [] 0 [] (by exact hF) hT (.head _ _ _ _ _ hd ?_ rfl rfl rfl) ⟨by rw[Anr];omega,by simp,by simp⟩ (by rw[Anr];omega) ?_
  ·have e:geq (Ep (Vu p)).1 1=decide (f0 (Vu p)=1):=by rw[hd.ef,Bb,Agx];simp;omega
   rw[<-e];simpa using h8
  ·rw[muD,muD,Aaw hd.fnz,Aa1 rfl,Aa1 rfl];omega
section
variable {F C W R N:Nat} (hd:HdI f c w r n F C W R N)
include hd
theorem Afy(hp:p.length<=100000)(hpw:(o==([]:LB))=decide (F=1))(A:Nat)(hA:A<=p.length)
  (hT:Al o p f c w r n [] 0 [] u v=(Ds p f c w r n (A:Int)).bind (λ(ag,ak,w1)=>if(Bd w1 0)then some (o,p,f,c,w,r,n,([]:LI),(0:Int),([]:LB),u,v,w1)else(Bf p ag (Ac p)).bind λal=>some (o,al,f,c,w,r,n,ak,(0:Int),([]:LB),u,v,(0:Int))))
  (hF:SY bk o u v p f c w r n 0 [] []=Ko bk o u v p f c w r n 0 [] [] (A:Int)):StepR bk o p f c w r n [] 0 [] u v:=by
 have hZ:SzD p [] 0 []:=⟨hp,by simp,by simp⟩;obtain⟨_,t2,t3⟩:=E5 hd o p hp A hA 0 [] u v;have hs:=cz (p.drop A) (Aq (Ba R) N).length (by rw[Anr];omega);have hnn:=Abi (p.drop A) (Aq (Ba R) N).length;have hok:=xk (b:=p.drop A) (n:=(Aq (Ba R) N).length);rw[t2,Aa]at hT;rw[Ko,JO,hd.uQ,Aa]at hF;simp only at hF;rw[Aaw (by decide),Dg,Aa,Ajk,Ac,hs,Aa]at hF;generalize hz:Ii (p.drop A) (Aq (Ba R) N).length=z at*
 obtain⟨z1,z2⟩:=z;simp only at*
 by_cases h1:z2=24
 ·rw[Aa1 h1]at hT;simp only at hT;rw[Aa1 (by decide)]at hT;rw[Aa1 (by rw[Bb];simpa using h1)]at hF;exact mkW hZ hF hT
 rw[Aaw h1]at hT;rw[Aaw (by rw[Bb];simpa using h1)]at hF;simp only at hT;by_cases h2:z2≠0
 ·rw[Aa1 (by rw[Ao];simpa using h2)]at hT hF;rw[Ah,Aa]at hF;exact mkE (by omega) hF hT
 ·have h0:z2=0:=by simpa using h2
  subst h0;have h3:=t3 rfl;obtain⟨k1,k2,k3,k4,k5,k6⟩:=hok rfl;simp only[Ajg,Ay3]at k1;have hl:z1.length=(Aq (Ba R) N).length:=by rw[k1];exact MJ _ _
  rw[<-k1]at k5 k6;rw[Aaw (by decide),Dg,Aa]at hT;rw[Aaw (by decide),Ac,Aco A z1.length (by omega) (by omega),Dg,Aa]at hF;have hne:z1≠ []:=by intro e;rw[e]at hl;simp at hl;omega
  refine .next _ _ _ _ _ _ z1 0 [] (by exact hF) hT (.tab _ _ _ _ _ 0 hd hpw ?_ hl rfl (by omega)) ⟨by rw[Anr];omega,by omega,by simp;omega⟩ (by rw[Anr];omega) ?_
  ·rw[AR,Abv,Aby,QF z1 100000 (by omega)];exact⟨by omega,k5,k6⟩
  ·rw[muD,muD,Aaw hd.fnz,Aaw hd.fnz,Aa1 rfl,Aaw hne];simp;omega
theorem Ag2(ho:o.length<=64)(hp:p.length<=100000)(hpw:(o==([]:LB))=decide (F=1)):StepR bk o p f c w r n [] 0 [] u v:=by
 have hZ:SzD p [] 0 []:=⟨hp,by simp,by simp⟩;have hT:Al o p f c w r n [] 0 [] u v=Al o p f c w r n [] 0 [] u v:=rfl
 conv at hT=>rhs;rw[Al,Cx,Aaw hd.ne0,Cu,Cs,Aa1 (by decide),Ey,Is]
 have hF:SY bk o u v p f c w r n 0 [] []=SY bk o u v p f c w r n 0 [] []:=rfl
 conv at hF=>rhs;rw[SY,Hs,Aaw hd.ne0,Aa1 (by decide)]
 by_cases h2:geq f 2=true
 ·rw[Aa1 h2]at hT hF;by_cases h8:p.length<8
  ·rw[Aa1 (by rw[Af,Ac];simp;omega)]at hT hF;rw[Aa]at hT;simp only at hT;rw[Aa1 (by decide)]at hT;exact mkW hZ hF hT
  ·rw[Aaw (by rw[Af,Ac];simp;omega)]at hT hF;have h8':(p.take 8).length=8:=by rw[Ae5];omega
   rw[Da,Aa,T9 o ho,Aa]at hT;rw[Qv,IL,Da,Aa,show(8:Int).toNat=8 from rfl,Abg h8' ho,Aa]at hF;rw[show(8:Int).toNat=8 from rfl]at hT;simp only at hF;rw[IU,JF,Aaw (by decide)]at hF;by_cases he:(p.take 8==RS (DU o).toNat 8)=true
   ·rw[Aaw (by rw[bne,he];decide)]at hT;rw[Aaw (by rw[he];decide)]at hF;exact Afy hd hp hpw 8 (by omega) hT hF
   ·have he':(p.take 8==RS (DU o).toNat 8)=false:=by simpa using he
    rw[Aa1 (by rw[bne,he'];decide),Aa]at hT;simp only at hT;rw[Aa1 (by decide)]at hT;rw[Aa1 (by rw[he'];decide),Ah,Aa]at hF;simp only at hF;exact mkE (by decide) (hF.trans f75) hT
 ·rw[Aaw h2]at hT hF;exact Afy hd hp hpw 0 (by omega) hT hF
theorem Akf(ho:o.length<=64)(hpw:(o==([]:LB))=decide (F=1))(hg:AR g=true)(hl:g.length=(Aq (Ba R) N).length)(A:Nat)(hA:A<=g.length)(hZ:SzD p g (A:Int) x):StepR bk o p f c w r n g (A:Int) x u v:=by
 have hp:=hZ.hp;have hx:=hZ.hx;have hc:=hd.ec;subst hc;have hg':=hg;rw[AR,Abv,Aby,QF g 100000 (by omega)]at hg';obtain⟨⟨g1,g2⟩,g5,g6⟩:=hg';have hgn:¬(geq (Ac g) 0=true):=by rw[Bb,Ac];simp;intro e;subst e;simp at g1
 have hT:Al o p f (C:Int) w r n g (A:Int) x u v=Al o p f (C:Int) w r n g (A:Int) x u v:=rfl
 conv at hT=>rhs;rw[Al,Cx,Aaw hd.ne0,Cu,Cs,Aaw hgn]
 have hF:SY bk o u v p f (C:Int) w r n (A:Int) g x=SY bk o u v p f (C:Int) w r n (A:Int) g x:=rfl
 conv at hF=>rhs;rw[SY,Hs,Aaw hd.ne0,Aaw hgn]
 by_cases hA2:A=g.length
 ·subst hA2;rw[Aa1 (by rw[Bb,Ac];simp)]at hT;rw[Aaw (by rw[Af,Ac];simp)]at hF;by_cases h4:4000<p.length
  ·rw[Aa1 (by rw[Ay,Ac];simp;omega)]at hT hF;rw[Ah,Aa]at hF;exact mkE (by decide) hF hT
  ·rw[Aaw (by rw[Ay,Ac];simp;omega)]at hT hF;exact mkW hZ hF hT
 ·have hlt:A<g.length:=by omega
  have h5:=g5 g[A] (Ar0 hlt);have hsum:=jh g5 g[A] (Ar0 hlt);rw[Aaw (by rw[Bb,Ac];simp;omega),Dm,Gf,Cw hlt,Aa]at hT;rw[Aa1 (by rw[Af,Ac];simp;omega),Cw hlt,Aa,Aa]at hF;by_cases hw:(p.length:Int)<g[A]
  ·rw[Aa1 (by rw[Af,Ac];simpa using hw)]at hT hF;rw[Aa]at hT;simp only at hT;rw[Aa1 (by decide)]at hT;exact mkW hZ hF hT
  rw[Aaw (by rw[Af,Ac];simpa using hw)]at hT hF;have UQ:=hd.num;have hlt2:A<(Aq (Ba R) N).length:=by omega
  obtain⟨m,hm,m1,m2⟩:=AW (Tl R) UQ.2.2.2.2.1 (Ar0 hlt2);have hb:Ct w:=by rw[hd.ew];unfold Ct;omega
  obtain⟨xs,e,d1,d2,d3,d4⟩:=KZ (bits:=w) (ch:=C) (n:=m) (t:=FB o) (p.take g[A].toNat) hb (Wh o) UQ.2.1.1 UQ.2.1.2 m1 (by omega);have hnn:=Y2 hb (Wh o) UQ.2.1.1 UQ.2.1.2 m1 (by omega) d2;rw[U8 o ho,Aa]at hF;simp only at hF;rw[Aaw (by decide),hd.uQ,Aa]at hF;simp only at hF;rw[Aaw (by simp[Ao,En,Ac];omega),Qk,JH,Cw hlt2,Aa,Da,Aa,Aa,Zn,Aa]at hF;simp only at hF;rw[hm,d1,Aa]at hF;simp only at hF;rw[jU o ho,Aa]at hT;simp only at hT;rw[Da,Aa,Hq,Aa]at hT;simp only at hT;rw[hd.Ac9,Aa,Cw hlt2,Aa,Aa,hm]at hT;rw[d2,Aa]at hT;simp only at hT;rw[Gj,Ge]at hT;rw[JS,Xm]at hF;by_cases he:e≠0
  ·rw[Aa1 (by rw[Ao];simpa using he)]at hT hF;rw[Aa]at hT;simp only at hT;rw[Aa1 (by rw[Ao];simpa using he)]at hT;rw[Ah,Aa]at hF;exact mkE (by omega) hF hT
  ·have he0:e=0:=by simpa using he
   obtain⟨k1,k2,k3⟩:=d3 he0;have hbl:=JI w xs;have ht:((A:Int)).toNat=A:=rfl;rw[ht]at hx;rw[Aaw (by rw[Ao,he0];simp)]at hT hF;rw[aR hb k2 k1,Aa,Aa]at hT;simp only at hT;rw[Aaw (by decide),Cv (by simp;omega),Aa,Asc,Cv,Aa,Aa,Dg,Aa,Aj]at hT;rw[pP hb k2 k1,Aa]at hF;simp only at hF;rw[Aaw (by decide),Cv,Aa,Dg,Aa,Aj]at hF;have e1:((A:Int)+1).toNat=A+1:=rfl;refine .next _ _ _ _ _ _ _ _ _ (by exact hF) hT (.tab _ _ _ _ _ (A+1) hd hpw hg hl rfl (by omega)) ⟨by rw[Anr];omega,hZ.hg,by rw[e1,Abz];omega⟩ (by rw[Anr];omega) ?_
   have hne:g≠ []:=by intro e;subst e;simp at g1
   rw[muD,muD,Aaw hd.fnz,Aaw hd.fnz,Aaw hne,Aaw hne,e1,ht];omega
end
theorem P8(hf:FitD o f c w r n g a x)(ho:o.length<=64)(hZ:SzD p g a x):StepR bk o p f c w r n g a x u v:=by
 cases hf with
 |new e1 e2 e3 e4 e5 e6 e7 e8=>subst e1 e2 e3 e4 e5 e6 e7 e8;exact Aj0 hZ.hp
 |head F C W R N h hpw e6 e7 e8=>subst e6 e7 e8;exact Ag2 h ho hZ.hp hpw
 |tab F C W R N A h hpw ht hl ea hA=>subst ea;exact Akf h ho hpw ht hl A hA hZ
end
abbrev Avd:=LB×LB×Int×Int×Int×Int×Int×LI×Int×LB×Bool×Int×Int
def Res(X Y:Option Avd):Prop:=∃(t1 t2:LB) (t3 t4 t5 t6 t7:Int) (t8:LI) (t9:Int) (t10:LB) (t11:Bool) (t12 e:Int),X=some (t1,t2,t3,t4,t5,t6,t7,t8,t9,t10,t11,t12,e)/\Y=some (t1,t2,t3,t4,t5,t6,t7,t8,t9,t10,t11,t12,e)/\t8.length<=2000
theorem Amk:∀(j:Nat) (b:LB) (a:Nat),(om j b a).2=0\/ (om j b a).2=38
 |0,_,_=> .inr rfl
 |j+1,b,a=>by
  rw[om];split
  ·exact .inl rfl
  ·split
   ·exact .inr rfl
   ·exact Amk j _ _
theorem Aik(b:LB):(KI b).2=0\/ (KI b).2=38:=by
 rw[KI];split
 ·exact .inr rfl
 ·exact Amk _ _ _
theorem SQ{o p:LB}{f c w r n:Int}{g:LI}{a:Int}{x:LB}{u:Bool}{v:Int}(hp:p.length<=100000)(hg:g.length<=2000)(hx:x.length<=13000000):Oz o p f c w r n g a x u v=some (o,p,f,c,w,r,n,g,a,x,u,v):=by
 rw[Oz,ND,Cv (by simp;omega),Aa,Cv (by simp;omega),Aa,LY,MY,Cv (by simp;omega),Aa];rfl
theorem Agy{o p:LB}{f c w r n:Int}{g:LI}{a:Int}{x:LB}{u:Bool}{v:Int}(hp:p.length<=100000)(hg:g.length<=2000)(hx:x.length<=13000000):Dt o p f c w r n g a x u v=some (o,p,f,c,w,r,n,g,a,x,u,v):=by
 rw[Dt,Lc,Cv (by simp;omega),Aa,Aa,Lc,Cv (by simp;omega),Aa,Aa,Ga,Cv (by simp;omega),Aa,Aa];rfl
theorem oZ{o p:LB}{f c w r n:Int}{g:LI}{a:Int}{x:LB}{u:Bool}{v e:Int}(hx:x.length<=13000000):Qh o p f c w r n g a x u v e=some (o,[],0,0,0,0,0,[],0,x,false,e,e):=by
 rw[Qh,Vj,Cv (by simp;omega),Aa];rfl
theorem Alm{p:LB}{f:Int}{g:LI}{a:Int}{x:LB}(h:SzD p g a x):muD f g a<1004:=by
 have:=h.hg;unfold muD;split
 ·omega
 ·split<;>omega
section
variable {o p:LB} {f c w r n:Int} {g:LI} {a:Int} {x:LB} {u:Bool} {v:Int} (hp:p.length<=20000) (hg:g.length<=2000) (hx:x.length<=13000000)
include hp hg hx
theorem I9{E:Int}(hE:Pu o p f c w r n g a x u v=some E):Py o p f c w r n g a x u v=if E≠0 then some ([],[],0,0,0,0,0,[],0,[],false,0,E)else some (o,p,f,c,w,r,n,g,a,x,u,v,if v≠0 then v else if u=true then 36 else 0):=by
 rw[Py,hE,Aa];by_cases h:E≠0
 ·rw[Aa1 (by rw[Ao];simpa using h),Aa1 h]
 rw[Aaw (by rw[Ao];simpa using h),Aaw h,Agy (by omega) hg (by omega)];by_cases hv:v≠0
 ·rw[Aa1 (by rw[Ao];simpa using hv),Aa1 hv,Aa]
 ·rw[Aaw (by rw[Ao];simpa using hv),Aaw hv];cases u<;>simp[Aa]
omit hg hx in
theorem su:∃e,EA o p f c w r n g a x u v=some e/\Yp o p f c w r n g a x u v=some e:=by
 rw[EA,Yp];by_cases h0:geq f 0=true
 ·rw[Aa1 h0,Aa1 h0,SW p (by omega),sU p (by omega),Aa,Aa];have hok:=aH (b:=p);simp only;by_cases h2:(Di p).2≠0
  ·rw[Aa1 (by rw[Ao];simpa using h2),Aa1 (by rw[Ao];simpa using h2)];exact⟨_,rfl,rfl⟩
  have h3:(Di p).2=0:=by simpa using h2
  obtain⟨k1,k2,k3⟩:=hok h3;have hl:(Vu p).length<=p.length:=by rw[Vu,Anr];omega
  rw[Aaw (by rw[Ao,h3];simp),Aaw (by rw[Ao,h3];simp),Dg,Aa,Aa,show p.drop (Di p).1.toNat=Vu p from rfl,uY _ (by omega),zi _ (by omega),Aa];exact⟨_,rfl,rfl⟩
 ·rw[Aaw h0,Aaw h0,Bool.or_comm];by_cases h1:(geq (Ac g) 0||Bt a (Ac g))=true
  ·rw[Aa1 h1,Aa1 h1];exact⟨_,rfl,rfl⟩
  ·rw[Aaw h1,Aaw h1,wC p (by omega),Ad2 p (by omega),Aa,Aa];simp only;refine⟨(KI p).2,rfl,?_⟩;rcases Aik p with h|h
   ·rw[Aaw (by rw[h];decide),h]
   ·rw[Aa1 (by rw[h];decide),h]
theorem zo:Res (Wd o p f c w r n g a x u v) (Yy o p f c w r n g a x u v):=by
 obtain⟨E,e1,e2⟩:=E8 o p f c w r n g a x u v (by omega) (by omega) (by omega);rw[Wd,I9 hp hg hx e1,Yy,e2,Aa];by_cases h:E≠0
 ·rw[Aa1 h,Aa,Aa1 (by rw[Ao];simpa using h)];simp only;rw[Aa1 (by rw[Ao];simpa using h)];exact⟨_,_,_,_,_,_,_,_,_,_,_,_,_,rfl,rfl,by simp⟩
 have h0:E=0:=by simpa using h
 subst h0;have hE:¬(Bd (0:Int) 0=true):=by decide
 rw[Aaw h,Aa,Aaw hE,SQ (by omega) hg (by omega),Aa];simp only;rw[Ia];by_cases hv:v≠0
 ·have hv':Bd v 0=true:=by rw[Ao];simpa using hv
  rw[Aa1 hv,Aa1 hv',Aa1 hv',Aa,Aa1 hv'];exact⟨_,_,_,_,_,_,_,_,_,_,_,_,_,rfl,rfl,hg⟩
 have hv':¬(Bd v 0=true):=by rw[Ao];simpa using hv
 rw[Aaw hv,Aaw hv'];obtain⟨e,d1,d2⟩:=su (o:=o) (f:=f) (c:=c) (w:=w) (r:=r) (n:=n) (a:=a) (u:=u) (v:=v) (g:=g) (x:=x) hp;cases u with
 |true=>
  rw[Aa1 rfl,Aa1 rfl,Aa,Aa1 (by decide),Aa1 (by decide)];exact⟨_,_,_,_,_,_,_,_,_,_,_,_,_,rfl,rfl,hg⟩
 |false=>
  rw[Aaw (by decide),Aaw (by decide),Aa,Aaw (by decide),d1,d2,Aa,Aa];by_cases he:Bd e 0=true
  ·rw[Aa1 he,Aa1 he,oZ (by omega),Aa];exact⟨_,_,_,_,_,_,_,_,_,_,_,_,_,rfl,rfl,by simp⟩
  ·rw[Aaw he,Aaw he,Vj,Cv (by simp;omega),Aa];exact⟨_,_,_,_,_,_,_,_,_,_,_,_,_,rfl,rfl,by simp⟩
end
theorem WU{α β:Type}{o:Option α}{f:α->Option β}{r:β}(h:Option.bind o f=some r):∃x,o=some x/\f x=some r:=by
 cases o with
 |none=>cases h
 |some x=>exact⟨x,rfl,h⟩
theorem Al0{α:Type}{l:List α}{i:Int}{x:α}(h:Go.Lv.Am l i=some x):x∈l:=by
 unfold Go.Lv.Am at h;split at h
 ·exact List.mem_of_getElem? h
 ·cases h
theorem C7{o p:LB}(q:LB){f c w r n:Int}{g:LI}{a:Int}{x:LB}{u:Bool}{v:Int}{y:LB}{e:Int}(hg:∀z∈g,0<=z)(h:Dm o p f c w r n g a x u v=some (y,e))(he:e≠ -1):Dm o (p++q) f c w r n g a x u v=some (y,e):=by
 rw[Dm,Gf]at h⊢;obtain⟨l,hl,h⟩:=WU h;have hl0:=hg l (Al0 hl);rw[hl,Aa];by_cases hc:(p.length:Int)<l
 ·rw[Aa1 (by rw[Af,Ac];simpa using hc)]at h;cases h;exact absurd rfl he
 ·have hc':¬(Bt (Ac (p++q)) l=true):=by rw[Af,Ac,Abz];simp;omega
  rw[Aaw (by rw[Af,Ac];simpa using hc)]at h;rw[Aaw hc',Da hl0 (by rw[Abz];omega),Lt (by omega)];rw[Da hl0]at h;simpa only[Gj,Ge]using h
theorem yx{f c w r n:Int}{F C W R N:Nat}(hd:HdI f c w r n F C W R N){p:LB}(q:LB)(hp:(p++q).length<=100000){A:Nat}(hA:A<=p.length){k:Int}{l:LI}{e:Int}(h:Ds p f c w r n (A:Int)=some (k,l,e))(he:e≠ -1):
  Ds (p++q) f c w r n (A:Int)=some (k,l,e)/\ (e=0->0<=k/\k<=p.length):=by
 have hp':p.length<=100000:=by rw[Abz]at hp;omega
 obtain⟨_,t2,t3⟩:=E5 hd [] p hp' A hA 0 [] false 0;obtain⟨_,s2,_⟩:=E5 hd [] (p++q) hp A (by rw[Abz];omega) 0 [] false 0;rw[t2]at h;rw[s2,Awo hA];by_cases h1:(Ii (p.drop A) (Aq (Ba R) N).length).2=24
 ·rw[Aa1 h1]at h;cases h;exact absurd rfl he
 ·rw[Aaw h1]at h;rw[Aio q _ h1,Aaw h1];refine⟨h,λe0=>?_⟩;cases h;have:=t3 e0;constructor
  ·omega
  ·exact this
theorem K8{f c w r n:Int}{F C W R N:Nat}(hd:HdI f c w r n F C W R N){o p:LB}(q:LB)(hp:(p++q).length<=100000){k:Int}{l:LI}{e:Int}(h:Ey p f c w r n o=some (k,l,e))(he:e≠ -1):
  Ey (p++q) f c w r n o=some (k,l,e)/\ (e=0->0<=k/\k<=p.length):=by
 rw[Ey,Is]at h⊢;by_cases hf:geq f 2=true
 ·rw[Aa1 hf]at h⊢;by_cases h8:p.length<8
  ·rw[Aa1 (by rw[Af,Ac];simp;omega)]at h;cases h;exact absurd rfl he
  ·have n1:¬(Bt (Ac p) 8=true):=by rw[Af,Ac];simp;omega
   have n2:¬(Bt (Ac (p++q)) 8=true):=by rw[Af,Ac,Abz];simp;omega
   rw[Aaw n1,Da (by decide),Aa]at h;rw[Aaw n2,Da (by decide) (by rw[Abz];omega),Aa,Lt (show(8:Int).toNat<=p.length from by simp;omega)];obtain⟨y,hy,h⟩:=WU h;rw[hy,Aa];by_cases hm:(p.take (8:Int).toNat !=y)=true
   ·rw[Aa1 hm]at h⊢;cases h;exact⟨rfl,λe=>by cases e⟩
   ·rw[Aaw hm]at h⊢;exact yx hd q hp (A:=8) (by omega) h he
 ·rw[Aaw hf]at h⊢;exact yx hd q hp (A:=0) (by omega) h he
theorem dX{p q af:LB}{n:Int}(h:Bf p n (Ac p)=some af):Bf (p++q) n (Ac (p++q))=some (af++q):=by
 unfold Bf Ac at h⊢;split at h
 ·rename_i hc;cases h;rw[Aa1 ⟨hc.1,by rw[Abz];omega,by omega⟩];simp only[Ajk,Aw3];rw[Awo (by omega)]
 ·cases h
theorem kI{o p:LB}(q:LB){f c w r n:Int}{g:LI}{a:Int}{x:LB}{u:Bool}{v:Int}(hf:FitD o f c w r n g a x)(hp:(p++q).length<=100000){t1 t2:LB}{t3 t4 t5 t6 t7:Int}{t8:LI}{t9:Int}{t10:LB}{t11:Bool}{t12 e:Int}
  (h:Al o p f c w r n g a x u v=some (t1,t2,t3,t4,t5,t6,t7,t8,t9,t10,t11,t12,e)) (he:e≠ -1):
  (e=0->Al o (p++q) f c w r n g a x u v=some (t1,t2++q,t3,t4,t5,t6,t7,t8,t9,t10,t11,t12,0))/\
  (e≠0->∃(s1 s2:LB) (s3 s4 s5 s6 s7:Int) (s8:LI) (s9:Int) (s10:LB) (s11:Bool) (s12:Int),Al o (p++q) f c w r n g a x u v=some (s1,s2,s3,s4,s5,s6,s7,s8,s9,s10,s11,s12,e)):=by
 have hp':p.length<=100000:=by rw[Abz]at hp;omega
 have zero:¬(Bd (0:Int) 0=true):=by decide
 rw[Al,Cx]at h⊢;cases hf with
 |new e1 e2 e3 e4 e5 e6 e7 e8=>
  subst e1;rw[Aa1 (by decide),BJ p hp',Aa]at h;rw[Aa1 (by decide),BJ (p++q) hp,Aa];have hst:(rf p).2.2.2.2.2.2≠ -1->rf (p++q)=rf p:=Aqx q;generalize rf p=z at h hst;obtain⟨z1,z2,z3,z4,z5,z6,z7⟩:=z;simp only at h hst;by_cases hz:Bd z7 0=true
  ·rw[Aa1 hz]at h;simp only[Ab0,Ajg]at h;obtain⟨-, -, -, -, -, -, -, -, -, -, -, -,rfl⟩:=h;rw[hst he];simp only;rw[Aa1 hz];refine⟨λe0=>?_,λ_=>⟨_,_,_,_,_,_,_,_,_,_,_,_,rfl⟩⟩;rw[e0]at hz;exact absurd hz zero
  ·rw[Aaw hz]at h;have z70:z7=0:=by rw[Ao]at hz;simpa using hz
   rw[hst (by rw[z70];decide)];simp only;rw[Aaw hz];obtain⟨af,h1,h⟩:=WU h;rw[dX h1,Aa];rw[Hu,Hz]at h⊢;obtain⟨aw,h2,h⟩:=WU h;rw[h2,Aa];simp only[Ab0,Ajg]at h;obtain⟨rfl,rfl,rfl,rfl,rfl,rfl,rfl,rfl,rfl,rfl,rfl,rfl,rfl⟩:=h;exact⟨λe0=>by rw[e0],λ_=>⟨_,_,_,_,_,_,_,_,_,_,_,_,rfl⟩⟩
 |head F C W R N hd hpw e6 e7 e8=>
  subst e6;have hfn:¬(geq f 0=true):=by rw[Bb];simpa using hd.fnz
  rw[Aaw hfn,Cu,Cs,Aa1 (by decide)]at h⊢;obtain⟨⟨k,l,e1⟩,h1,h⟩:=WU h;simp only at h;by_cases hz:Bd e1 0=true
  ·rw[Aa1 hz]at h;simp only[Ab0,Ajg]at h;obtain⟨-, -, -, -, -, -, -, -, -, -, -, -,rfl⟩:=h;rw[(K8 hd q hp h1 he).1,Aa];simp only;rw[Aa1 hz];refine⟨λe0=>?_,λ_=>⟨_,_,_,_,_,_,_,_,_,_,_,_,rfl⟩⟩;rw[e0]at hz;exact absurd hz zero
  ·rw[Aaw hz]at h;have z70:e1=0:=by rw[Ao]at hz;simpa using hz
   rw[(K8 hd q hp h1 (by rw[z70];decide)).1,Aa];simp only;rw[Aaw hz];obtain⟨af,h2,h⟩:=WU h;rw[dX h2,Aa];simp only[Ab0,Ajg]at h;obtain⟨rfl,rfl,rfl,rfl,rfl,rfl,rfl,rfl,rfl,rfl,rfl,rfl,rfl⟩:=h;exact⟨λe0=>rfl,λe0=>absurd rfl e0⟩
 |tab F C W R N A hd hpw ht hl ea hA=>
  have hfn:¬(geq f 0=true):=by rw[Bb];simpa using hd.fnz
  have ht':=ht;rw[AR,Abv,Aby]at ht';have hgl:¬(geq (Ac g) 0=true):=by
   intro e;rw[Bb,Ac]at e;have hl1:=ht'.1.1;simp only[Atw,Aby]at e;omega
  rw[Aaw hfn,Cu,Cs,Aaw hgl]at h⊢;by_cases hend:geq a (Ac g)=true
  ·rw[Aa1 hend]at h⊢;by_cases hm:Dx (Ac p) 4000=true
   ·have hm':Dx (Ac (p++q)) 4000=true:=by rw[Ay,Ac]at hm⊢;simp only[Aby]at hm⊢;rw[Abz];omega
    rw[Aa1 hm]at h;rw[Aa1 hm'];simp only[Ab0,Ajg]at h;obtain⟨-, -, -, -, -, -, -, -, -, -, -, -,rfl⟩:=h;exact⟨(λe0=>by cases e0),λ_=>⟨_,_,_,_,_,_,_,_,_,_,_,_,rfl⟩⟩
   ·rw[Aaw hm]at h;simp only[Ab0,Ajg]at h;obtain⟨-, -, -, -, -, -, -, -, -, -, -, -,rfl⟩:=h;exact absurd rfl he
  ·rw[Aaw hend]at h⊢;have hpos:∀z∈g,0<=z:=by
    have:=(QF g 100000 (by omega)).1 ht'.2;intro z hz;have:=this.1 z hz;omega
   obtain⟨⟨y,e1⟩,h1,h⟩:=WU h;simp only at h;by_cases hz:Bd e1 0=true
   ·rw[Aa1 hz]at h;simp only[Ab0,Ajg]at h;obtain⟨-, -, -, -, -, -, -, -, -, -, -, -,rfl⟩:=h;rw[C7 q hpos h1 he,Aa];simp only;rw[Aa1 hz];refine⟨λe0=>?_,λ_=>⟨_,_,_,_,_,_,_,_,_,_,_,_,rfl⟩⟩;rw[e0]at hz;exact absurd hz zero
   ·rw[Aaw hz]at h;have z70:e1=0:=by rw[Ao]at hz;simpa using hz
    rw[C7 q hpos h1 (by rw[z70];decide),Aa];simp only;rw[Aaw hz];obtain⟨an,h2,h⟩:=WU h;rw[h2,Aa];obtain⟨ah,h3,h⟩:=WU h;rw[h3,Aa];obtain⟨ad,h4,h⟩:=WU h;rw[h4,Aa];obtain⟨ae,h5,h⟩:=WU h;rw[dX h5,Aa];simp only[Ab0,Ajg]at h;obtain⟨rfl,rfl,rfl,rfl,rfl,rfl,rfl,rfl,rfl,rfl,rfl,rfl,rfl⟩:=h;exact⟨λe0=>rfl,λe0=>absurd rfl e0⟩
def Avi(o:LB)(K:Nat)(u:Bool)(v:Int)(X Y:Option Avd):Prop:=∃(t1 t2:LB) (t3 t4 t5 t6 t7:Int) (t8:LI) (t9:Int) (t10:LB) (t11:Bool) (t12 e:Int),X=some (t1,t2,t3,t4,t5,t6,t7,t8,t9,t10,t11,t12,e)/\Y=some (t1,t2,t3,t4,t5,t6,t7,t8,t9,t10,t11,t12,e)/\t10.length<=13000000/\
 (e=0->t1=o/\t2.length<=K/\FitD o t3 t4 t5 t6 t7 t8 t9 t10/\SzD t2 t8 t9 t10/\t11=u/\t12=v)
theorem K7(K:Nat):∀(k q1 q2:Nat) (o p:LB) (f c w r n:Int) (g:LI) (a:Int) (x:LB) (u:Bool) (v:Int),FitD o f c w r n g a x->o.length<=64->SzD p g a x->p.length<=K->muD f g a<k->k<=q1->k<=q2->
  Avi o K u v (Az o u v q1 p f c w r n a g x) (Bk q2 o p f c w r n g a x u v)
 |0,_,_,_,_,_,_,_,_,_,_,_,_,_,_,_,_,_,_,h,_,_=>by omega
 |k+1,q1,q2,o,p,f,c,w,r,n,g,a,x,u,v,hf,ho,hZ,hK,hm,h1,h2=>by
  obtain⟨q1,rfl⟩:∃q,q1=q+1:=⟨q1-1,by omega⟩;obtain⟨q2,rfl⟩:∃q,q2=q+1:=⟨q2-1,by omega⟩;have hx:x.length<=13000000:=by have:=hZ.hx;omega
  rw[Az,Bk,Df];have hS:StepR (Az o u v q1) o p f c w r n g a x u v:=P8 hf ho hZ;cases hS with
  |wait hF hT=>
   rw[hT,Aa];simp only;rw[Aa1 (by decide),SQ hZ.hp (by have:=hZ.hg;omega) hx,Aa];exact⟨_,_,_,_,_,_,_,_,_,_,_,_,_,hF,rfl,hx,λ_=>⟨rfl,hK,hf,hZ,rfl,rfl⟩⟩
  |err e he hF hT=>
   rw[hT,Aa];simp only;rw[Aaw (by rw[kP (by omega)];decide),Aa1 (by rw[Ao];simp;omega),oZ hx,Aa];exact⟨_,_,_,_,_,_,_,_,_,_,_,_,_,hF,rfl,hx,λh=>absurd h (by omega)⟩
  |next p' f' c' w' r' n' g' a' x' hF hT hf' hZ' hle hmu=>
   rw[hT,Aa];simp only;rw[Aaw (by decide),Aaw (by decide)];have ih:=K7 K k q1 q2 o p' f' c' w' r' n' g' a' x' u v hf' ho hZ' (by omega) (by omega) (by omega) (by omega);have hF':Hs (Mt (Az o u v q1) o u v) (Qt (Az o u v q1) o u v) (Ke (Az o u v q1) o u v) (Qv (Az o u v q1) o u v) (Ko (Az o u v q1) o u v) (Mq (Az o u v q1) o u v) (Qk (Az o u v q1) o u v) (Bv (Az o u v q1) o u v) (Xt (Az o u v q1) o u v) o u v p f c w r n a g x=Az o u v q1 p' f' c' w' r' n' a' g' x':=hF;rw[hF'];exact ih
theorem Ar9{o p:LB}{f c w r n:Int}{g:LI}{a:Int}{x:LB}(ho:o.length<=64)(hf:FitD o f c w r n g a x)(hZ:SzD p g a x)(b:LB)(hp:p.length<=20000)(hb:b.length<=20000):
  Avi o (p.length+b.length) false 0 (Ry o p f c w r n g a x false 0 b) (Gv o p f c w r n g a x false 0 b):=by
 have hx:x.length<=13000000:=by have:=hZ.hx;omega
 have hg:g.length<=2000:=by have:=hZ.hg;omega
 obtain⟨E,e1,e2⟩:=E8 o p f c w r n g a x false 0 (by omega) (by omega) (by omega);rw[Ry,Zy,I9 hp hg hx e1,Gv,Pe,e2,Aa];by_cases h:E≠0
 ·rw[Aa1 h,Aa,Aa1 (by rw[Ao];simpa using h)];simp only;rw[Aa1 (by rw[Ao];simpa using h)];exact⟨_,_,_,_,_,_,_,_,_,_,_,_,_,rfl,rfl,by simp,λh'=>absurd h' h⟩
 have h0:E=0:=by simpa using h
 subst h0;have hE:¬(Bd (0:Int) 0=true):=by decide
 rw[Aaw h,Aa,Aaw hE,SQ (by omega) hg (by omega),Aa];simp only;have hF:¬(false=true):=by decide
 rw[Ia,Aaw (show ¬((0:Int)≠0)from λh=>h rfl),Aaw hF]
 repeat (first|rw[Aa]|rw[Aaw hE]|rw[Aaw hF])
 rw[Cv];rw[Aa,Aa];have hZ':SzD (p++b) g a x:=⟨by rw[Abz];omega,hZ.hg,hZ.hx⟩;exact K7 _ 1004 Ar Ar o (p++b) f c w r n g a x false 0 hf ho hZ' (by rw[Abz];exact Al1 _) (Alm hZ') (by have:=As;omega) (by have:=As;omega)
def OutB(f c w r n:Int)(g:LI)(a:Int)(x:LB):Prop:=∀(F C W R N A:Nat),HdI f c w r n F C W R N->g≠ []->a=(A:Int)-> (x.length:Int)<=CU C W (Aq (Ba R) N) A
theorem OutB.nil{f c w r n:Int}{a:Int}{x:LB}:OutB f c w r n [] a x:=λ_ _ _ _ _ _ _ h=>absurd rfl h
theorem OutB.zero{f c w r n:Int}{g:LI}:OutB f c w r n g 0 []:=λF C W R N A h hg ha=>by
 obtain rfl:A=0:=by omega
 rw[Adr];simp
theorem Ac4{o p:LB}{f c w r n:Int}{F C W R N:Nat}(hd:HdI f c w r n F C W R N)(ho:o.length<=64)(hp:p.length<=100000){g:LI}(ht:AR g=true)(hl:g.length=(Aq (Ba R) N).length){A:Nat}(hA:A<g.length){x:LB}{u:Bool}{v:Int}{y:LB}{e:Int}
  (h:Dm o p f c w r n g (A:Int) x u v=some (y,e)) (he:e=0):∃m:Nat,(Aq (Ba R) N)[A]'(by omega)=(m:Int)/\y.length=m*C*wB (W:Int):=by
 subst he;have hlt2:A<(Aq (Ba R) N).length:=by omega
 have UQ:=hd.num;rw[AR,Abv,Aby,QF g 100000 (by omega)]at ht;obtain⟨ht1,g5,gs⟩:=ht;have h5:=g5 g[A] (Ar0 hA);rw[Dm,Gf,Cw hA,Aa]at h;by_cases hw:(p.length:Int)<g[A]
 ·rw[Aa1 (by rw[Af,Ac];simpa using hw)]at h;cases h
 rw[Aaw (by rw[Af,Ac];simpa using hw)]at h;obtain⟨m,hm,m1,m2⟩:=AW (Tl R) UQ.2.2.2.2.1 (Ar0 hlt2);have hb:Ct w:=by rw[hd.ew];unfold Ct;omega
 obtain⟨xs,e,d1,d2,d3,d4⟩:=KZ (bits:=w) (ch:=C) (n:=m) (t:=FB o) (p.take g[A].toNat) hb (Wh o) UQ.2.1.1 UQ.2.1.2 m1 (by omega);rw[jU o ho,Aa]at h;simp only at h;rw[Da,Aa,Hq,Aa]at h;simp only at h;rw[hd.Ac9,Aa,Cw hlt2,Aa,Aa,hm,hd.ec]at h;rw[d2,Aa]at h;simp only at h;rw[Gj,Ge]at h;by_cases he:e≠0
 ·rw[Aa1 (by rw[Ao];simpa using he)]at h;cases h;exact absurd rfl he
 ·have he0:e=0:=by simpa using he
  obtain⟨k1,k2,k3⟩:=d3 he0;rw[Aaw (by rw[Ao,he0];simp),aR hb k2 k1,Aa]at h;cases h;refine⟨m,hm,?_⟩;rw[UZ hb,k3,hd.ew]
theorem Aj3{o p:LB}{f c w r n:Int}{g:LI}{a:Int}{x:LB}{u:Bool}{v:Int}(hf:FitD o f c w r n g a x)(ho:o.length<=64)(hZ:SzD p g a x)(hO:OutB f c w r n g a x){t1 t2:LB}{t3 t4 t5 t6 t7:Int}{t8:LI}{t9:Int}{t10:LB}{t11:Bool}{t12:Int}
  (h:Al o p f c w r n g a x u v=some (t1,t2,t3,t4,t5,t6,t7,t8,t9,t10,t11,t12,0)):OutB t3 t4 t5 t6 t7 t8 t9 t10:=by
 have hp':=hZ.hp;have zero:¬(Bd (0:Int) 0=true):=by decide
 rw[Al,Cx]at h;cases hf with
 |new e1 e2 e3 e4 e5 e6 e7 e8=>
  subst e1 e6 e7 e8;rw[Aa1 (by decide),BJ p hp',Aa]at h;generalize rf p=z at h;obtain⟨z1,z2,z3,z4,z5,z6,z7⟩:=z;simp only at h;by_cases hz:Bd z7 0=true
  ·rw[Aa1 hz]at h;simp only[Ab0,Ajg]at h;obtain⟨-, -, -, -, -, -, -,rfl, -⟩:=h;exact OutB.nil
  ·rw[Aaw hz]at h;obtain⟨af,h1,h⟩:=WU h;rw[Hu,Hz]at h;obtain⟨aw,h2,h⟩:=WU h;simp only[Ab0,Ajg]at h;obtain⟨-, -, -, -, -, -, -,rfl, -⟩:=h;exact OutB.nil
 |head F C W R N hd hpw e6 e7 e8=>
  subst e6 e7 e8;have hfn:¬(geq f 0=true):=by rw[Bb];simpa using hd.fnz
  rw[Aaw hfn,Cu,Cs,Aa1 (by decide)]at h;obtain⟨⟨k,l,e1⟩,h1,h⟩:=WU h;simp only at h;by_cases hz:Bd e1 0=true
  ·rw[Aa1 hz]at h;simp only[Ab0,Ajg]at h;obtain⟨-, -, -, -, -, -, -,rfl, -⟩:=h;exact OutB.nil
  ·rw[Aaw hz]at h;obtain⟨af,h2,h⟩:=WU h;simp only[Ab0,Ajg]at h;obtain⟨-, -, -, -, -, -, -, -,rfl,rfl, -⟩:=h;exact OutB.zero
 |tab F C W R N A hd hpw ht hl ea hA=>
  subst ea;have hfn:¬(geq f 0=true):=by rw[Bb];simpa using hd.fnz
  have ht':=ht;rw[AR,Abv,Aby]at ht';have hgl:¬(geq (Ac g) 0=true):=by
   intro e;rw[Bb,Ac]at e;have hl1:=ht'.1.1;simp only[Atw,Aby]at e;omega
  have hne:g≠ []:=by intro e;subst e;simp at ht'
  rw[Aaw hfn,Cu,Cs,Aaw hgl]at h;by_cases hend:geq (A:Int) (Ac g)=true
  ·rw[Aa1 hend]at h;by_cases hm:Dx (Ac p) 4000=true
   ·rw[Aa1 hm]at h;simp only[Ab0,Ajg]at h;exact absurd h.2.2.2.2.2.2.2.2.2.2.2.2 (by decide)
   ·rw[Aaw hm]at h;simp only[Ab0,Ajg]at h;exact absurd h.2.2.2.2.2.2.2.2.2.2.2.2 (by decide)
  ·rw[Aaw hend]at h;have hlt:A<g.length:=by
    rw[Bb,Ac]at hend;simp only[Atw]at hend;omega
   obtain⟨⟨y,e1⟩,h1,h⟩:=WU h;simp only at h;by_cases hz:Bd e1 0=true
   ·rw[Aa1 hz]at h;simp only[Ab0,Ajg]at h;have:=h.2.2.2.2.2.2.2.2.2.2.2.2;rw[this]at hz;exact absurd hz zero
   ·rw[Aaw hz]at h;have z70:e1=0:=by rw[Ao]at hz;simpa using hz
    obtain⟨m,hm,hy⟩:=Ac4 hd ho hp' ht hl hlt h1 z70;obtain⟨an,h2,h⟩:=WU h;obtain⟨ah,h3,h⟩:=WU h;obtain⟨ad,h4,h⟩:=WU h;obtain⟨ae,h5,h⟩:=WU h;simp only[Ab0,Ajg]at h;obtain⟨-, -,rfl,rfl,rfl,rfl,rfl,rfl,rfl,rfl, -⟩:=h;intro F' C' W' R' N' A' hd' _ ha';have eqs:C'=C/\W'=W/\R'=R/\N'=N:=by
     have q1:=hd.ec.symm.trans hd'.ec;have q2:=hd.ew.symm.trans hd'.ew;have q3:=hd.er.symm.trans hd'.er;have q4:=hd.en.symm.trans hd'.en;omega
    obtain⟨rfl,rfl,rfl,rfl⟩:=eqs;have hold:=hO F C' W' R' N' A hd hne rfl;have e2:Ad (A:Int) 1=((A+1:Nat):Int):=by rw[Aj];omega
    rw[e2]at ha';obtain rfl:A'=A+1:=by omega
    have hah:ah.length=x.length+y.length:=by
     unfold De at h2 h3;split at h2
     ·cases h2;split at h3
      ·cases h3;simp
      ·cases h3
     ·cases h2
    have hpos:∀z∈Aq (Ba R') N',0<=z:=by
     intro z hz;obtain⟨m,hm,m1,m2⟩:=AW (Tl R') hd.num.2.2.2.2.1 hz;omega
    rw[Aci C' W' hpos (by omega) hm,hah,hy];omega
theorem O6{o p:LB}{f c w r n:Int}{g:LI}{a:Int}{x:LB}(hf:FitD o f c w r n g a x)(ho:o.length<=64)(hO:OutB f c w r n g a x){t1 t2:LB}{t3 t4 t5 t6 t7:Int}{t8:LI}{t9:Int}{t10:LB}{t11:Bool}{t12:Int}
  (h:Al o p f c w r n g a x false 0=some (t1,t2,t3,t4,t5,t6,t7,t8,t9,t10,t11,t12, -1)):Dy o p f c w r n g a x false 0=some 0:=by
 have h4:Cc o p f c w r n g a x false 0=some true:=by
  rw[Cc,Ue,h,Aa];rfl
 have hr:Kk o p f c w r n g a x false 0=some true:=by
  rw[Kk,Ui];cases hf with
  |new e1 e2 e3 e4 e5 e6 e7 e8=>
   subst e1 e2 e3 e4 e5 e6 e7 e8;rw[Aa1 (by decide),Aaw (by decide)];exact h4
  |head F C W R N hd hpw e6 e7 e8=>
   subst e6 e7 e8;have hz:¬(((geq f 0)&&((geq c 0)&&((geq w 0)&&((geq r 0)&&((geq n 0)&&true)))))=true):=by
    simp only[Abv,Bb,Atw,Ay3];exact λe=>hd.fnz e.1
   have hff:geq f 1=decide (F=1):=by rw[hd.ef,Bb,Agx];simp;omega
   rw[Aaw hz,hd.check,Aa,Aaw (by decide),Ei,hff,hpw,Aaw (by simp),Aa,Aaw (by decide),Nv,Nw,Aa1 (by decide),Aaw (by decide)];exact h4
  |tab F C W R N A hd hpw ht hl ea hA=>
   subst ea;have hz:¬(((geq f 0)&&((geq c 0)&&((geq w 0)&&((geq r 0)&&((geq n 0)&&true)))))=true):=by
    simp only[Abv,Bb,Atw,Ay3];exact λe=>hd.fnz e.1
   have hff:geq f 1=decide (F=1):=by rw[hd.ef,Bb,Agx];simp;omega
   have ht':=ht;rw[AR,Abv,Aby]at ht';have hgl:¬(geq (Ac g) 0=true):=by
    intro e;rw[Bb,Ac]at e;have hl1:=ht'.1.1;simp only[Atw,Aby]at e;omega
   have hne:g≠ []:=by intro e;subst e;simp at ht'
   have hout:=hO F C W R N A hd hne rfl;rw[Aaw hz,hd.check,Aa,Aaw (by decide),Ei,hff,hpw,Aaw (by simp),Aa,Aaw (by decide),Nv,Nw,Aaw hgl,XB,Aa,Aa1 ht,Aaw (by decide),hd.Ac9,Aa];rw[Aaw (by simp[Ao,Af,Ay,Ac];omega)];obtain⟨rfl,rfl,rfl,rfl,rfl,hs,hfit⟩:=hd;rw[xc hs hfit A (by omega),Aa,Aaw (by rw[Ay,Ac];simp;omega)];exact h4
 have hO':¬(Dx (Ac o) 64=true):=by rw[Ay,Ac];simp;omega
 rw[Dy,Aaw hO',Aa1 (by decide),hr,Aa];rfl
theorem Aie{o p:LB}{f c w r n:Int}{F C W R N:Nat}(hd:HdI f c w r n F C W R N)(ho:o.length<=64)(hp:p.length<=100000){g:LI}(ht:AR g=true)(hl:g.length=(Aq (Ba R) N).length){A:Nat}(hA:A<g.length){x:LB}{u:Bool}{v:Int}{y:LB}{e:Int}
  (h:Dm o p f c w r n g (A:Int) x u v=some (y,e)) (he:e≠ -1):Cd e:=by
 have hlt2:A<(Aq (Ba R) N).length:=by omega
 have UQ:=hd.num;rw[AR,Abv,Aby,QF g 100000 (by omega)]at ht;obtain⟨ht1,g5,gs⟩:=ht;have h5:=g5 g[A] (Ar0 hA);rw[Dm,Gf,Cw hA,Aa]at h;by_cases hw:(p.length:Int)<g[A]
 ·rw[Aa1 (by rw[Af,Ac];simpa using hw)]at h;cases h;exact absurd rfl he
 rw[Aaw (by rw[Af,Ac];simpa using hw)]at h;obtain⟨m,hm,m1,m2⟩:=AW (Tl R) UQ.2.2.2.2.1 (Ar0 hlt2);have hb:Ct w:=by rw[hd.ew];unfold Ct;omega
 obtain⟨xs,e',d1,d2,d3,d4⟩:=KZ (bits:=w) (ch:=C) (n:=m) (t:=FB o) (p.take g[A].toNat) hb (Wh o) UQ.2.1.1 UQ.2.1.2 m1 (by omega);have hcd:=Z8 hb (Wh o) UQ.2.1.1 UQ.2.1.2 m1 (by omega) d2;rw[jU o ho,Aa]at h;simp only at h;rw[Da,Aa,Hq,Aa]at h;simp only at h;rw[hd.Ac9,Aa,Cw hlt2,Aa,Aa,hm,hd.ec]at h;rw[d2,Aa]at h;simp only at h;rw[Gj,Ge]at h;by_cases he:e'≠0
 ·rw[Aa1 (by rw[Ao];simpa using he)]at h;cases h;exact hcd
 ·have he0:e'=0:=by simpa using he
  obtain⟨k1,k2,k3⟩:=d3 he0;rw[Aaw (by rw[Ao,he0];simp),aR hb k2 k1,Aa]at h;cases h;exact .inl rfl
theorem Aer{f c w r n:Int}{F C W R N:Nat}(hd:HdI f c w r n F C W R N){p:LB}(hp:p.length<=100000){A:Nat}(hA:A<=p.length){k:Int}{l:LI}{e:Int}(h:Ds p f c w r n (A:Int)=some (k,l,e))(he:e≠ -1):Cd e:=by
 obtain⟨_,t2,t3⟩:=E5 hd [] p hp A hA 0 [] false 0;rw[t2]at h;by_cases h1:(Ii (p.drop A) (Aq (Ba R) N).length).2=24
 ·rw[Aa1 h1]at h;cases h;exact absurd rfl he
 ·rw[Aaw h1]at h;cases h;exact Ajn _ (H4 hd.fit)
theorem Aiu{f c w r n:Int}{F C W R N:Nat}(hd:HdI f c w r n F C W R N){o p:LB}(hp:p.length<=100000){k:Int}{l:LI}{e:Int}(h:Ey p f c w r n o=some (k,l,e))(he:e≠ -1):Cd e:=by
 rw[Ey,Is]at h;by_cases hf:geq f 2=true
 ·rw[Aa1 hf]at h;by_cases h8:p.length<8
  ·rw[Aa1 (by rw[Af,Ac];simp;omega)]at h;cases h;exact absurd rfl he
  ·have n1:¬(Bt (Ac p) 8=true):=by rw[Af,Ac];simp;omega
   rw[Aaw n1]at h;obtain⟨z,hz,h⟩:=WU h;obtain⟨y,hy,h⟩:=WU h;by_cases hm:(z !=y)=true
   ·rw[Aa1 hm]at h;cases h;decide
   ·rw[Aaw hm]at h;exact Aer hd hp (A:=8) (by omega) h he
 ·rw[Aaw hf]at h;exact Aer hd hp (A:=0) (by omega) h he
theorem As7(p:LB):(rf p).2.2.2.2.2.2= -1\/Cd (rf p).2.2.2.2.2.2:=by
 unfold rf
 repeat' split
 ·exact .inl rfl
 ·exact .inr (X9 p)
 ·exact .inl rfl
 ·exact .inl rfl
 ·exact .inr (Aas _)
theorem Ao6{o p:LB}{f c w r n:Int}{g:LI}{a:Int}{x:LB}{u:Bool}{v:Int}(hf:FitD o f c w r n g a x)(ho:o.length<=64)(hp':p.length<=100000){t1 t2:LB}{t3 t4 t5 t6 t7:Int}{t8:LI}{t9:Int}{t10:LB}{t11:Bool}{t12 e:Int}
  (h:Al o p f c w r n g a x u v=some (t1,t2,t3,t4,t5,t6,t7,t8,t9,t10,t11,t12,e)) (he:e≠ -1):Cd e:=by
 have zero:¬(Bd (0:Int) 0=true):=by decide
 rw[Al,Cx]at h;cases hf with
 |new e1 e2 e3 e4 e5 e6 e7 e8=>
  subst e1 e6 e7 e8;rw[Aa1 (by decide),BJ p hp',Aa]at h;have hcd:=As7 p;generalize rf p=z at h hcd;obtain⟨z1,z2,z3,z4,z5,z6,z7⟩:=z;simp only at h hcd;by_cases hz:Bd z7 0=true
  ·rw[Aa1 hz]at h;simp only[Ab0,Ajg]at h;obtain⟨-, -, -, -, -, -, -, -, -, -, -, -,rfl⟩:=h;exact hcd.resolve_left he
  ·rw[Aaw hz]at h;obtain⟨af,h1,h⟩:=WU h;rw[Hu,Hz,Ei]at h;obtain⟨aw,h2,h⟩:=WU h;simp only[Ab0,Ajg]at h;obtain⟨-, -, -, -, -, -, -, -, -, -, -, -,rfl⟩:=h;split at h2
   ·cases h2;decide
   ·cases h2;decide
 |head F C W R N hd hpw e6 e7 e8=>
  subst e6 e7 e8;have hfn:¬(geq f 0=true):=by rw[Bb];simpa using hd.fnz
  rw[Aaw hfn,Cu,Cs,Aa1 (by decide)]at h;obtain⟨⟨k,l,e1⟩,h1,h⟩:=WU h;simp only at h;by_cases hz:Bd e1 0=true
  ·rw[Aa1 hz]at h;simp only[Ab0,Ajg]at h;obtain⟨-, -, -, -, -, -, -, -, -, -, -, -,rfl⟩:=h;exact Aiu hd hp' h1 he
  ·rw[Aaw hz]at h;obtain⟨af,h2,h⟩:=WU h;simp only[Ab0,Ajg]at h;obtain⟨-, -, -, -, -, -, -, -, -, -, -, -,rfl⟩:=h;exact .inl rfl
 |tab F C W R N A hd hpw ht hl ea hA=>
  subst ea;have hfn:¬(geq f 0=true):=by rw[Bb];simpa using hd.fnz
  have ht':=ht;rw[AR,Abv,Aby]at ht';have hgl:¬(geq (Ac g) 0=true):=by
   intro e;rw[Bb,Ac]at e;have hl1:=ht'.1.1;simp only[Atw,Aby]at e;omega
  rw[Aaw hfn,Cu,Cs,Aaw hgl]at h;by_cases hend:geq (A:Int) (Ac g)=true
  ·rw[Aa1 hend]at h;by_cases hm:Dx (Ac p) 4000=true
   ·rw[Aa1 hm]at h;simp only[Ab0,Ajg]at h;obtain⟨-, -, -, -, -, -, -, -, -, -, -, -,rfl⟩:=h;decide
   ·rw[Aaw hm]at h;simp only[Ab0,Ajg]at h;exact absurd h.2.2.2.2.2.2.2.2.2.2.2.2.symm he
  ·rw[Aaw hend]at h;have hlt:A<g.length:=by
    rw[Bb,Ac]at hend;simp only[Atw]at hend;omega
   obtain⟨⟨y,e1⟩,h1,h⟩:=WU h;simp only at h;by_cases hz:Bd e1 0=true
   ·rw[Aa1 hz]at h;simp only[Ab0,Ajg]at h;obtain⟨-, -, -, -, -, -, -, -, -, -, -, -,rfl⟩:=h;exact Aie hd ho hp' ht hl hlt h1 he
   ·rw[Aaw hz]at h;obtain⟨an,h2,h⟩:=WU h;obtain⟨ah,h3,h⟩:=WU h;obtain⟨ad,h4,h⟩:=WU h;obtain⟨ae,h5,h⟩:=WU h;simp only[Ab0,Ajg]at h;obtain⟨-, -, -, -, -, -, -, -, -, -, -, -,rfl⟩:=h;exact .inl rfl
theorem Aty{o:LB}{f c w r n:Int}{g:LI}{a:Int}{x:LB}(hf:FitD o f c w r n g a x)(hO:OutB f c w r n g a x):x.length<=12000:=by
 cases hf with
 |new e1 e2 e3 e4 e5 e6 e7 e8=>subst e8;simp
 |head F C W R N hd hpw e6 e7 e8=>subst e8;simp
 |tab F C W R N A hd hpw ht hl ea hA=>
  have hne:g≠ []:=by intro e;subst e;simp[AR]at ht
  have h:=hO F C W R N A hd hne ea;obtain⟨g1,g2,g3⟩:=SO hd.shape hd.fit;have b:=mS g1 A;have UQ:=hd.num;have hw:=(ek (W:Int)).2;have hN:N*C<=4000:=by
   have h1:=Ac1 C UQ.2.2.2.2.2.1;have h2:=Awq 4000 C;omega
  have hs:((Aq (Ba R) N).take A).sum.toNat<=N:=by omega
  rw[CU]at h;have hb:((Aq (Ba R) N).take A).sum.toNat*(C*wB (W:Int))<=4000*3:=by
   have h1:=Ac1 (C*wB (W:Int)) hs;have h2:=Aum hN hw;rw[<-Avz N]at h1;omega
  omega
theorem Ah9{o x:LB}{e:Int}(ho:o.length<=64)(hx:x.length<=12000)(he:Cd e)(h0:0<e):Dy o [] 0 0 0 0 0 [] 0 x false e=some 0:=by
 have hO':¬(Dx (Ac o) 64=true):=by rw[Ay,Ac];simp;omega
 have hX:Dx (Ac x) 12000=false:=by rw[Ay,Ac];simp;omega
 rw[Dy,Aaw hO',Aaw (by rw[Bb];simp;omega),Aa1 (by decide),hX,Aaw (by decide),Aa1 (by rw[Ao];simp;omega),Aaw (by decide)];obtain rfl|rfl|rfl|rfl|rfl|rfl|rfl|rfl:=he
 ·omega
 all_goals rfl
theorem U3:∀(k q1 q2:Nat) (o p:LB) (f c w r n:Int) (g:LI) (a:Int) (x:LB) (u:Bool) (v:Int),FitD o f c w r n g a x->o.length<=64->SzD p g a x->muD f g a<k->k<=q1->k<=q2->
  Bk q1 o p f c w r n g a x u v=Bk q2 o p f c w r n g a x u v
 |0,_,_,_,_,_,_,_,_,_,_,_,_,_,_,_,_,_,h,_,_=>by omega
 |k+1,q1,q2,o,p,f,c,w,r,n,g,a,x,u,v,hf,ho,hZ,hm,h1,h2=>by
  obtain⟨q1,rfl⟩:∃q,q1=q+1:=⟨q1-1,by omega⟩;obtain⟨q2,rfl⟩:∃q,q2=q+1:=⟨q2-1,by omega⟩;rw[Bk,Bk,Df,Df];have hS:StepR (Az o u v q1) o p f c w r n g a x u v:=P8 hf ho hZ;cases hS with
  |wait hF hT=>
   rw[hT,Aa,Aa];simp only;rw[Aa1 (by decide),Aa1 (by decide)]
  |err e he hF hT=>
   rw[hT,Aa,Aa];simp only;rw[Aaw (by rw[kP (by omega)];decide),Aa1 (by rw[Ao];simp;omega),Aaw (by rw[kP (by omega)];decide),Aa1 (by rw[Ao];simp;omega)]
  |next p' f' c' w' r' n' g' a' x' hF hT hf' hZ' hle hmu=>
   rw[hT,Aa,Aa];simp only;rw[Aaw (by decide),Aaw (by decide),Aaw (by decide),Aaw (by decide)];exact U3 k q1 q2 o p' f' c' w' r' n' g' a' x' u v hf' ho hZ' (by omega) (by omega) (by omega)
structure Wt (o p:LB) (f c w r n:Int) (g:LI) (a:Int) (x:LB):Prop where
 fit:FitD o f c w r n g a x
 sz:SzD p g a x
 out:OutB f c w r n g a x
 wait:Al o p f c w r n g a x false 0=some (o,p,f,c,w,r,n,g,a,x,false,0, -1)
abbrev OZ(q:Nat)(o p:LB)(f c w r n:Int)(g:LI)(a:Int)(x:LB):=Bk q o p f c w r n g a x false 0
theorem xg:∀(k q:Nat) (o p:LB) (f c w r n:Int) (g:LI) (a:Int) (x:LB),FitD o f c w r n g a x->o.length<=64->SzD p g a x->OutB f c w r n g a x->p.length<=100000->muD f g a<k->k<=q->
  (∃(t2:LB) (t3 t4 t5 t6 t7:Int) (t8:LI) (t9:Int) (t10:LB),OZ q o p f c w r n g a x=some (o,t2,t3,t4,t5,t6,t7,t8,t9,t10,false,0,0)/\Wt o t2 t3 t4 t5 t6 t7 t8 t9 t10/\t2.length<=p.length/\muD t3 t8 t9<k/\
   ∀b:LB,(p++b).length<=100000->OZ q o (p++b) f c w r n g a x=OZ q o (t2++b) t3 t4 t5 t6 t7 t8 t9 t10)\/
  (∃(x':LB) (e:Int),0<e/\Cd e/\x'.length<=12000/\∀b:LB,(p++b).length<=100000->OZ q o (p++b) f c w r n g a x=some (o,[],0,0,0,0,0,[],0,x',false,e,e))
 |0,_,_,_,_,_,_,_,_,_,_,_,_,_,_,_,_,h,_=>by omega
 |k+1,q,o,p,f,c,w,r,n,g,a,x,hf,ho,hZ,hO,hp,hm,h1=>by
  obtain⟨q,rfl⟩:∃q',q=q'+1:=⟨q-1,by omega⟩;have hx:x.length<=13000000:=by have:=hZ.hx;omega
  have hS:StepR (Az o false 0 q) o p f c w r n g a x false 0:=P8 hf ho hZ;cases hS with
  |wait hF hT=>
   refine .inl ⟨p,f,c,w,r,n,g,a,x,?_,⟨hf,hZ,hO,hT⟩,Al1 _,hm,λb _=>rfl⟩;rw[OZ,Bk,Df,hT,Aa];simp only;rw[Aa1 (by decide),SQ hZ.hp (by have:=hZ.hg;omega) hx,Aa]
  |err e he hF hT=>
   refine .inr ⟨x,e,he,Ao6 hf ho hp hT (by omega),Aty hf hO,λb hL=>?_⟩;obtain⟨s1,s2,s3,s4,s5,s6,s7,s8,s9,s10,s11,s12,hs⟩:=(kI b hf hL hT (by omega)).2 (by omega);rw[OZ,Bk,Df,hs,Aa];simp only;rw[Aaw (by rw[kP (by omega)];decide),Aa1 (by rw[Ao];simp;omega),oZ hx,Aa]
  |next p' f' c' w' r' n' g' a' x' hF hT hf' hZ' hle hmu=>
   have hp':p'.length<=100000:=by omega
   rcases xg k q o p' f' c' w' r' n' g' a' x' hf' ho hZ' (Aj3 hf ho hZ hO hT) hp' (by omega) (by omega)with⟨t2,t3,t4,t5,t6,t7,t8,t9,t10,k1,k2,k3,k4,k5⟩|⟨x2,e,k1,k2,k3,k4⟩
   ·refine .inl ⟨t2,t3,t4,t5,t6,t7,t8,t9,t10,?_,k2,by omega,by omega,λb hL=>?_⟩
    ·rw[OZ,Bk,Df,hT,Aa];simp only;rw[Aaw (by decide),Aaw (by decide)];exact k1
    ·have hs:=(kI b hf hL hT (by decide)).1 rfl;have hL':(p'++b).length<=100000:=by rw[Abz]at hL⊢;omega
     rw[OZ,Bk,Df,hs,Aa];simp only;rw[Aaw (by decide),Aaw (by decide)];refine(k5 b hL').trans ?_;exact U3 k q (q+1) o (t2++b) t3 t4 t5 t6 t7 t8 t9 t10 false 0 k2.fit ho ⟨by rw[Abz]at hL⊢;omega,k2.sz.hg,k2.sz.hx⟩ k4 (by omega) (by omega)
   ·refine .inr ⟨x2,e,k1,k2,k3,λb hL=>?_⟩;have hs:=(kI b hf hL hT (by decide)).1 rfl;have hL':(p'++b).length<=100000:=by rw[Abz]at hL⊢;omega
    rw[OZ,Bk,Df,hs,Aa];simp only;rw[Aaw (by decide),Aaw (by decide)];exact k4 b hL'
abbrev Fd(o s:LB):=OZ Ar o s 0 0 0 0 0 [] 0 []
inductive Bh (o s:LB):LB->Int->Int->Int->Int->Int->LI->Int->LB->Int->Prop
 |wt {p:LB} {f c w r n:Int} {g:LI} {a:Int} {x:LB}:Wt o p f c w r n g a x->p.length<=s.length-> (∀b:LB,(s++b).length<=100000->Fd o (s++b)=OZ Ar o (p++b) f c w r n g a x)->Bh o s p f c w r n g a x 0
 |er {x:LB} {e:Int}:0<e->Cd e->x.length<=12000-> (∀b:LB,(s++b).length<=100000->Fd o (s++b)=some (o,[],0,0,0,0,0,[],0,x,false,e,e))->Bh o s [] 0 0 0 0 0 [] 0 x e
variable {o s p:LB} {f c w r n:Int} {g:LI} {a:Int} {x:LB} {e:Int}
theorem Wt.stop(W:Wt o p f c w r n g a x):OZ Ar o p f c w r n g a x=some (o,p,f,c,w,r,n,g,a,x,false,0,0):=by
 obtain⟨q,hq⟩:∃q,Ar=q+1:=⟨Ar-1,by have:=As;omega⟩;have hx:x.length<=13000000:=by have:=W.sz.hx;omega
 rw[OZ,hq,Bk,Df,W.wait,Aa];simp only;rw[Aa1 (by decide),SQ W.sz.hp (by have:=W.sz.hg;omega) hx,Aa]
theorem Bh.fd(h:Bh o s p f c w r n g a x e)(hs:s.length<=100000):Fd o s=some (o,p,f,c,w,r,n,g,a,x,false,e,e):=by
 cases h with
 |wt W hl hb=>
  have:=hb [] (by simpa using hs);rw[Arq,Arq]at this;rw[this,W.stop]
 |er h0 hc hx hb=>
  have:=hb [] (by simpa using hs);rw[Arq]at this;exact this
theorem Bh.new(ho:o.length<=64):Bh o [] [] 0 0 0 0 0 [] 0 [] 0:=by
 refine .wt ⟨.new rfl rfl rfl rfl rfl rfl rfl rfl,⟨by simp,by simp,by simp⟩,OutB.nil,?_⟩ (Al1 _) λb _=>rfl;rw[Al,Cx,Aa1 (by decide),BJ [] (by simp),Aa];rfl
theorem Aoe(ho:o.length<=64)(W:Wt o p f c w r n g a x)(b:LB)(hp:p.length<=20000)(hb:b.length<=20000):
  Ry o p f c w r n g a x false 0 b=OZ Ar o (p++b) f c w r n g a x/\Gv o p f c w r n g a x false 0 b=OZ Ar o (p++b) f c w r n g a x:=by
 have hR:Gv o p f c w r n g a x false 0 b=OZ Ar o (p++b) f c w r n g a x:=by
  have hx:x.length<=13000000:=by have:=W.sz.hx;omega
  have hg:g.length<=2000:=by have:=W.sz.hg;omega
  have hE:¬(Bd (0:Int) 0=true):=by decide
  have hF:¬(false=true):=by decide
  rw[Gv,Pe,O6 W.fit ho W.out W.wait,Aa,Aaw hE,SQ (by omega) hg hx,Aa];simp only;rw[Ia]
  repeat (first|rw[Aa]|rw[Aaw hE]|rw[Aaw hF])
  rw[Cv,Aa];rfl
 obtain⟨t1,t2,t3,t4,t5,t6,t7,t8,t9,t10,t11,t12,e,h1,h2,_⟩:=Ar9 ho W.fit W.sz b hp hb;exact⟨h1.trans (h2.symm.trans hR),hR⟩
theorem Bh.check(ho:o.length<=64)(h:Bh o s p f c w r n g a x e)(hp:p.length<=100000):Pu o p f c w r n g a x false e=some 0/\Dy o p f c w r n g a x false e=some 0:=by
 have key:Dy o p f c w r n g a x false e=some 0/\g.length<=1000/\x.length<=13000000:=by
  cases h with
  |wt W hl hb=>exact⟨O6 W.fit ho W.out W.wait,W.sz.hg,by have:=W.sz.hx;omega⟩
  |er h0 hc hx hb=>exact⟨Ah9 ho hx hc h0,by simp,by omega⟩
 obtain⟨k1,k2,k3⟩:=key;obtain⟨E,e1,e2⟩:=E8 o p f c w r n g a x false e hp (by omega) (by omega);rw[k1]at e2;cases e2;exact⟨e1,k1⟩
theorem Bh.feed(ho:o.length<=64)(h:Bh o s p f c w r n g a x e)(hp:p.length<=20000)(b:LB)(hb:b.length<=20000)(hs:(s++b).length<=100000):
  ∃(p':LB) (f' c' w' r' n':Int) (g':LI) (a':Int) (x':LB) (e':Int),Ry o p f c w r n g a x false e b=some (o,p',f',c',w',r',n',g',a',x',false,e',e')/\
   Gv o p f c w r n g a x false e b=some (o,p',f',c',w',r',n',g',a',x',false,e',e')/\Bh o (s++b) p' f' c' w' r' n' g' a' x' e':=by
 have hck:=h.check ho (by omega);cases h with
 |wt W hl hB=>
  obtain⟨h1,h2⟩:=Aoe ho W b hp hb;have hpb:(p++b).length<=100000:=by rw[Abz];omega
  have hZ:SzD (p++b) g a x:=⟨hpb,W.sz.hg,W.sz.hx⟩;rcases xg 1004 Ar o (p++b) f c w r n g a x W.fit ho hZ W.out hpb (Alm hZ) (by have:=As;omega)with⟨t2,t3,t4,t5,t6,t7,t8,t9,t10,k1,k2,k3,k4,k5⟩|⟨x2,e,k1,k2,k3,k4⟩
  ·refine⟨t2,t3,t4,t5,t6,t7,t8,t9,t10,0,h1.trans k1,h2.trans k1, .wt k2 ?_ λb2 hL=>?_⟩
   ·rw[Abz]at k3⊢;omega
   ·rw[Aji,hB (b++b2) (by rw[<-Aji];exact hL),<-Aji];refine k5 b2 ?_;rw[Abz,Abz]at hL⊢;omega
  ·have k4':=k4 [] (by simpa using hpb);rw[Arq]at k4';refine⟨_,_,_,_,_,_,_,_,_,_,h1.trans k4',h2.trans k4', .er k1 k2 k3 λb2 hL=>?_⟩;rw[Aji,hB (b++b2) (by rw[<-Aji];exact hL),<-Aji];refine k4 b2 ?_;rw[Abz,Abz]at hL⊢;omega
 |er h0 hc hx hB=>
  have hne:Bd e 0=true:=by rw[Ao];simp;omega
  refine⟨_,_,_,_,_,_,_,_,_,_,?_,?_, .er h0 hc hx λb2 hL=>?_⟩
  ·rw[Ry,Zy,I9 (by simp) (by simp) (by omega) hck.1,Aaw (by decide),Aa];simp only;rw[Aa1 (show e≠0 by omega),Aa1 hne]
  ·rw[Gv,Pe,hck.2,Aa,Aaw (by decide),SQ (by simp) (by simp) (by omega),Aa];simp only;rw[Ia,Aa1 hne,Aa,Aa1 hne]
  ·rw[Aji];exact hB (b++b2) (by rw[<-Aji];exact hL)
end Go.Pl
namespace Go.Pl
open Go Go.Lv
def pcs(f g:Nat):Nat->Nat->Nat->LI
 |0,_,_=>[]
 |q+1,h,a=>if a+1=f\/g.testBit (a %64)=true then((a+1-h:Nat):Int)::pcs f g q (a+1) (a+1)else pcs f g q h (a+1)
theorem Anb(g:UInt64)(k:Nat):(Eb (Ce g k) (1:UInt64)).toNat=g.toNat/2^k %2:=by
 rw[rT,Ayw,FJ];exact Nat.and_one_is_mod _
theorem Av3(g:UInt64)(k:Nat):geq (Eb (Ce g (GI.toZ (Fl (k:Int) 64)).toNat) 1) (1:UInt64)=g.toNat.testBit (k %64):=by
 have e:(GI.toZ (Fl (k:Int) 64)).toNat=k %64:=by
  unfold Fl;rw[Auo (by omega)];simp only[GI.toZ];omega
 rw[e,tU,Nat.testBit_eq_decide_div_mod_eq];refine decide_eq_decide.2 ⟨λh=>by rw[<-Anb,h];rfl,λh=>UInt64.toNat_inj.1 (by rw[Anb,h];rfl)⟩
theorem Atc(k:Nat):Je (Fl (k:Int) 64) 0=true:=by
 unfold Fl;rw[Auo (by omega)];simp[Je,GI.toZ];omega
theorem Aa0(f:Nat)(g:UInt64):∀(q Q h a:Nat) (l:LI),q+a=f->q<Q->h<=a->f<=100000->l.length<=a->Mp (f:Int) g Q (h:Int) (a:Int) l=some (l++pcs f g.toNat q h a,0)
 |q,0,h,a,l,_,hq,_,_,_=>absurd hq (Ayf _)
 |0,Q+1,h,a,l,hf,_,_,_,_=>by
  obtain rfl:a=f:=by omega
  simp only[Mp,Xl];rw[Aaw (by simp[Bt,GI.toZ]),pcs,Arq];rfl
 |q+1,Q+1,h,a,l,hf,hq,hh,hl,hll=>by
  simp only[Mp,Xl];rw[Aa1 (by simp[Bt,GI.toZ];omega)];have e1:Ak (f:Int) 1=((f-1:Nat):Int):=by rw[Bu];omega
  have e2:Ad (a:Int) 1=((a+1:Nat):Int):=by rw[Aj];omega
  have e3:Ak ((a+1:Nat):Int) (h:Int)=((a+1-h:Nat):Int):=by rw[Bu];omega
  have e4:geq (a:Int) ((f-1:Nat):Int)=decide (a+1=f):=by
   show decide ((a:Int)=((f-1:Nat):Int))=_;exact decide_eq_decide.2 (by omega)
  rw[e1,e2,e3,e4,Cv (by simp;omega),Aa,Atc,Ar1,Aa,Av3,pcs];have ih:=λh' l'=>Aa0 f g q Q h' (a+1) l' (by omega) (by omega);by_cases h1:a+1=f
  ·rw[Aa1 (Aun h1),Aa1 (.inl h1),ih _ _ (Al1 _) hl (by simp;omega),Aji];rfl
  ·rw[Aaw (by simpa using h1)];by_cases h2:g.toNat.testBit (a %64)=true
   ·rw[Aa1 h2,Aa1 (.inr h2),ih _ _ (Al1 _) hl (by simp;omega),Aji];rfl
   ·rw[Aaw h2,Aaw (λh=>h.elim h1 h2),ih _ _ (by omega) hl (by omega)]
theorem Ain(f:Nat)(g:UInt64)(hf:f<=100000):Hc (f:Int) g=some (pcs f g.toNat f 0 0,0):=by
 unfold Hc IH JM;rw[Aaw (by simp[Bt,Dx,GI.toZ];omega)];have:=Aa0 f g f Ar 0 0 [] (by omega) (by have:=As;omega) (Al1 _) hf (Al1 _);rw[show((0:Nat):Int)=0 from rfl]at this;rw[this];rfl
theorem Afg(f:Nat):∀(q h a:Nat),(pcs f 18446744073709551615 q h a).length=q
 |0,h,a=>rfl
 |q+1,h,a=>by
  rw[pcs];have hb:(18446744073709551615:Nat).testBit (a %64)=true:=by
   rw[show(18446744073709551615:Nat)=2^64-1 from rfl,Nat.testBit_two_pow_sub_one];exact Aun (by omega)
  rw[Aa1 (.inr hb),Ars,Afg f q]
theorem Aqt:Rp=some true:=by kernel_rfl
def Uz(ns:List Nat):List Int:=List.map Int.ofNat ns
theorem IG(ns:List Nat):(Uz ns).length=ns.length:=by simp[Uz]
theorem vD{ns:List Nat}{i:Nat}(h:i<ns.length):Go.Lv.Am (Uz ns) (i:Int)=some ((ns[i]:Nat):Int):=by
 rw[Cw (by rw[IG];exact h)];simp[Uz]
def tO:List Nat->Nat|[]=>0|n::l=>n+tO l
theorem xe{ns:List Nat}{i:Nat}(h:i<ns.length):tO (ns.drop i)=ns[i]+tO (ns.drop (i+1)):=by
 rw[Ayj h];rfl
theorem zx(b:LB)(ns:List Nat)(hb:b.length<=10000)(hn:ns.length<=10000):∀(r i s q1 q2:Nat) (o p:LB) (f c w rr n:Int) (g:LI) (a:Int) (x:LB),o.length<=64->FitD o f c w rr n g a x->SzD p g a x->p.length<=s->i+r=ns.length->s+tO (ns.drop i)<=b.length->r<q1->r<q2->
  ∃R,Kc (Uz ns) q1 (b.drop s) (i:Int) o f c w rr n a x false 0 p g=some R/\Mf b (Uz ns) q2 (s:Int) (i:Int) o f c w rr n a false 0 p g x=some R
 |r,i,s,0,q2,_,_,_,_,_,_,_,_,_,_,_,_,_,_,_,_,h,_=>absurd h (Ayf _)
 |r,i,s,q1,0,_,_,_,_,_,_,_,_,_,_,_,_,_,_,_,_,_,h=>absurd h (Ayf _)
 |r,i,s,q1+1,q2+1,o,p,f,c,w,rr,n,g,a,x,ho,hf,hZ,hps,hi,hs,h1,h2=>by
  simp only[Kc,Xi,Mf,DV];have hx:x.length<=13000000:=by have:=hZ.hx;omega
  have hg:g.length<=2000:=by have:=hZ.hg;omega
  cases r with
  |zero=>
   have hN:¬(Bt (i:Int) (Ac (Uz ns))=true):=by simp[Bt,GI.toZ,Ac,IG];omega
   rw[Aaw hN,Aaw hN];obtain⟨t1,t2,t3,t4,t5,t6,t7,t8,t9,t10,t11,t12,e,d1,d2,_⟩:=zo (o:=o) (p:=p) (f:=f) (c:=c) (w:=w) (r:=rr) (n:=n) (g:=g) (a:=a) (x:=x) (u:=false) (v:=0) (by omega) hg hx;simp only[Uv,EZ,BK,BY];rw[d1,d2,Aa];exact⟨_,rfl,rfl⟩
  |succ r=>
   have hlt:i<ns.length:=by omega
   have hN:Bt (i:Int) (Ac (Uz ns))=true:=by simp[Bt,GI.toZ,Ac,IG];omega
   have hsd:=xe hlt;rw[Aa1 hN,Aa1 hN,vD hlt];simp only[Aa];have hlen:(b.drop s).length=b.length-s:=Anr;have e1:Ad (s:Int) ((ns[i]:Nat):Int)=((s+ns[i]:Nat):Int):=by rw[Aj];omega
   have c1:Bf (b.drop s) 0 ((ns[i]:Nat):Int)=some ((b.drop s).take ns[i]):=by rw[Da];simp
   have c2:Bf b (s:Int) ((s+ns[i]:Nat):Int)=some ((b.drop s).take ns[i]):=by
    rw[BB];simp only[Ajk,List.drop_take,Awv]
   rw[e1,c1,c2,Aa,Aa];have htl:((b.drop s).take ns[i]).length=ns[i]:=by rw[Ae5];omega
   obtain⟨t1,t2,t3,t4,t5,t6,t7,t8,t9,t10,t11,t12,e,d1,d2,d3,d4⟩:=Ar9 ho hf hZ ((b.drop s).take ns[i]) (by omega) (by omega);rw[d1,d2,Aa,Aa];simp only[Vq,EG,DL,EL];by_cases he:e=0
   ·obtain⟨rfl,k2,k3,k4,rfl,rfl⟩:=d4 he;have hE:¬(Bd e 0=true):=by rw[he];decide
    have e2:Ad (i:Int) 1=((i+1:Nat):Int):=by rw[Aj];omega
    have c3:Bf (b.drop s) ((ns[i]:Nat):Int) (Ac (b.drop s))=some (b.drop (s+ns[i])):=by
     rw[Dg];simp only[Ajk,List.drop_drop]
    rw[Aaw hE,Aaw hE,c3,Aa,vD hlt,Aa,e1,e2];exact zx b ns hb hn r (i+1) (s+ns[i]) q1 q2 t1 t2 t3 t4 t5 t6 t7 t8 t9 t10 ho k3 k4 (by rw[htl]at k2;omega) (by omega) (by omega) (by omega) (by omega)
   ·have hE:Bd e 0=true:=by rw[Ao];simpa using he
    rw[Aa1 hE,Aa1 hE];exact⟨_,rfl,rfl⟩
theorem Amf(o b:LB)(ns:List Nat)(hb:b.length<=10000)(hn:ns.length<=10000)(hs:tO ns<=b.length):∃R,Kt o b (Uz ns)=some R/\QA o b (Uz ns)=some R:=by
 rw[Kt,Xh,QA,EU,BL,ZS];by_cases ho:o.length<=64
 ·have hO:¬(Dx (Ac o) 64=true):=by rw[Ay,Ac];simp;omega
  rw[Aaw hO,Aa,Aa];simp only;have hE:¬(Bd (0:Int) 0=true):=by decide
  rw[Aaw hE,Aaw hE];exact zx b ns hb hn ns.length 0 0 Ar Ar o [] 0 0 0 0 0 [] 0 [] ho (.new rfl rfl rfl rfl rfl rfl rfl rfl) ⟨by simp,by simp,by simp⟩ (Al1 _) (Avk _) (by rw[List.drop_zero,Avk];exact hs) (by have:=As;omega) (by have:=As;omega)
 ·have hO:Dx (Ac o) 64=true:=by rw[Ay,Ac];simp;omega
  rw[Aa1 hO,Aa,Aa];exact⟨_,rfl,rfl⟩
def M8(at_ w len:Nat):Nat->Nat->Nat->List Nat
 |0,_,fr=>[len-fr]
 |r+1,i,fr=>if w.testBit i=true then(at_+i+1-fr)::M8 at_ w len r (i+1) (at_+i+1)else M8 at_ w len r (i+1) fr
theorem K3(at_ w len:Nat):∀(r i fr:Nat),fr<=at_+i->at_+i+r<=len->tO (M8 at_ w len r i fr)=len-fr
 |0,i,fr,h,h1=>by simp[M8,tO]
 |r+1,i,fr,h,h1=>by
  rw[M8];split
  ·rw[tO,K3 at_ w len r (i+1) _ (by omega) (by omega)];omega
  ·rw[K3 at_ w len r (i+1) _ (by omega) (by omega)]
theorem A9(at_ w len:Nat):∀(r i fr:Nat),(M8 at_ w len r i fr).length<=r+1
 |0,i,fr=>by simp[M8]
 |r+1,i,fr=>by
  rw[M8];split
  ·rw[Ars];have:=A9 at_ w len r (i+1) (at_+i+1);omega
  ·have:=A9 at_ w len r (i+1) fr;omega
theorem S0(a b:List Nat):Uz (a++b)=Uz a++Uz b:=by simp[Uz]
theorem Axf(w i:Nat)(hw:w<256)(hi:i<8):geq (Eb (yC (w:Int) (GI.toZ (i:Int)).toNat) 1) (1:Int)=w.testBit i:=by
 have h:∀w:Fin 256,∀i:Fin 8,geq (Eb (yC ((w:Nat):Int) (GI.toZ ((i:Nat):Int)).toNat) 1) (1:Int)=(w:Nat).testBit (i:Nat):=by decide +kernel
 exact h ⟨w,hw⟩ ⟨i,hi⟩
section
variable {o b:LB} {at_ n:Nat} {h:LB} {k:Int}
def Am1(bk:Int->Int->Cn)(o b:LB)(at_ n:Nat)(h:LB)(k:Int)(oth:Int)(w:Nat)(L:List Nat):Cn:=
 (Kt o b (Uz L)).bind λ(aa,ab)=>
  if(Bd ab k)then Oo bk o b (at_:Int) (n:Int) h k (w:Int) (Ad oth 1)
  else(Fy aa h).bind λac=>if(!ac)then Oo bk o b (at_:Int) (n:Int) h k (w:Int) (Ad oth 1)else Oo bk o b (at_:Int) (n:Int) h k (w:Int) oth
theorem Atd(bk:Int->Int->Cn)(oth:Int)(w:Nat)(hw:w<256)(hn:n<=8)(hl:at_+n<=b.length)(hb:b.length<=10000):∀(r i fr q:Nat) (acc:List Nat),r+i=n->fr<=at_+i->acc.length<=i->r<q->
  Ot bk o b (at_:Int) (n:Int) h k oth (w:Int) q (fr:Int) (i:Int) (Uz acc)=Am1 bk o b at_ n h k oth w (acc++M8 at_ w b.length r i fr)
 |r,i,fr,0,acc,_,_,_,hq=>absurd hq (Ayf _)
 |0,i,fr,q+1,acc,hi,hf,ha,hq=>by
  simp only[Ot,AB];rw[Aaw (by simp[Bt,GI.toZ];omega)];simp only[OF,OA];have e1:Ak (Ac b) (fr:Int)=((b.length-fr:Nat):Int):=by unfold Ac;rw[Bu];omega
  rw[e1,Cv (by rw[IG];simp;omega),Aa,Am1,M8,S0];rfl
 |r+1,i,fr,q+1,acc,hi,hf,ha,hq=>by
  simp only[Ot,AB];have e0:Je (i:Int) 0=true:=by simp[Je,GI.toZ]
  have e1:Ad (Ad (at_:Int) (i:Int)) 1=((at_+i+1:Nat):Int):=by rw[show Ad (at_:Int) (i:Int)=((at_+i:Nat):Int) by rw[Aj];omega,Aj];omega
  have e2:Ak ((at_+i+1:Nat):Int) (fr:Int)=((at_+i+1-fr:Nat):Int):=by rw[Bu];omega
  have e3:Ad (i:Int) 1=((i+1:Nat):Int):=by rw[Aj];omega
  rw[Aa1 (by simp[Bt,GI.toZ];omega),e0,Ar1,Aa,Axf w i hw (by omega),e1,e2,e3,M8];by_cases hbit:w.testBit i=true
  ·rw[Aa1 hbit,Aa1 hbit,Cv (by rw[IG];simp;omega),Aa];have e4:Uz acc++[((at_+i+1-fr:Nat):Int)]=Uz (acc++[at_+i+1-fr]):=by rw[S0];rfl
   rw[e4,Atd bk oth w hw hn hl hb r (i+1) (at_+i+1) q _ (by omega) (by omega) (by simp;omega) (by omega),Aji];rfl
  ·rw[Aaw hbit,Aaw hbit,Atd bk oth w hw hn hl hb r (i+1) fr q acc (by omega) (by omega) (by omega) (by omega)]
end
theorem Bh.len{o s p:LB}{f c w r n:Int}{g:LI}{a:Int}{x:LB}{e:Int}(h:Bh o s p f c w r n g a x e):p.length<=s.length/\g.length<=1000/\x.length<=13000000:=by
 cases h with
 |wt W hl hb=>exact⟨hl,W.sz.hg,by have:=W.sz.hx;omega⟩
 |er h0 hc hx hb=>exact⟨by simp,by simp,by omega⟩
def C0(o b:LB):Option (LB×Int):=(Fd o b).bind λ(t1,t2,t3,t4,t5,t6,t7,t8,t9,t10,t11,t12,e)=>if Bd e 0 then some (t10,e)else(Wd t1 t2 t3 t4 t5 t6 t7 t8 t9 t10 t11 t12).bind λ(_,_,_,_,_,_,_,_,_,y,_,_,k)=>some (y,k)
theorem Bh.whole{o b p:LB}{f c w r n:Int}{g:LI}{a:Int}{x:LB}{e:Int}(ho:o.length<=64)(hb:b.length<=100000){s:Nat}(h:Bh o (b.take s) p f c w r n g a x e)(h0:e≠0):C0 o b=some (x,e):=by
 cases h with
 |wt W hl hB=>exact absurd rfl h0
 |er h1 hc hx hB=>
  have:=hB (b.drop s) (by rw[Ax8];exact hb);rw[Ax8]at this;rw[C0,this,Aa];simp only;rw[Aa1 (by rw[Ao];simp;omega)]
theorem Anj(o b:LB)(ho:o.length<=64)(ns:List Nat)(hb:b.length<=10000)(hn:ns.length<=10000):∀(r i s q:Nat) (p:LB) (f c w rr n:Int) (g:LI) (a:Int) (x:LB),Bh o (b.take s) p f c w rr n g a x 0->i+r=ns.length->s+tO (ns.drop i)=b.length->r<q->
  Kc (Uz ns) q (b.drop s) (i:Int) o f c w rr n a x false 0 p g=C0 o b
 |r,i,s,0,_,_,_,_,_,_,_,_,_,_,_,_,h=>absurd h (Ayf _)
 |r,i,s,q+1,p,f,c,w,rr,n,g,a,x,hB,hi,hs,hq=>by
  have hlen:=hB.len;have hpl:p.length<=10000:=by have:=hlen.1;rw[Ae5]at this;omega
  rw[Kc,Xi];cases r with
  |zero=>
   have hN:¬(Bt (i:Int) (Ac (Uz ns))=true):=by rw[Af,Ac,IG];simp;omega
   have hd:ns.drop i=[]:=List.drop_eq_nil_of_le (by omega);rw[hd,tO,Awr]at hs;rw[hs,Aw3]at hB;rw[Aaw hN,Uv,EZ,C0,hB.fd (by omega),Aa];rfl
  |succ r=>
   have hlt:i<ns.length:=by omega
   have hN:Bt (i:Int) (Ac (Uz ns))=true:=by rw[Af,Ac,IG];simp;omega
   have hsd:=xe hlt;rw[Aa1 hN,vD hlt];simp only[Aa];have hln:(b.drop s).length=b.length-s:=Anr;have c1:Bf (b.drop s) 0 ((ns[i]:Nat):Int)=some ((b.drop s).take ns[i]):=by rw[Da];simp
   have e4:b.take s++(b.drop s).take ns[i]=b.take (s+ns[i]):=by rw[List.take_add]
   obtain⟨p2,f2,c2,w2,r2,n2,g2,a2,x2,e3,d1,_,d3⟩:=hB.feed ho (by omega) ((b.drop s).take ns[i]) (by rw[Ae5];omega) (by rw[e4,Ae5];omega);rw[e4]at d3;rw[c1,Aa,d1,Aa];simp only[Vq,EG];by_cases he:e3=0
   ·subst he;have e2:Ad (i:Int) 1=((i+1:Nat):Int):=by rw[Aj];omega
    have c3:Bf (b.drop s) ((ns[i]:Nat):Int) (Ac (b.drop s))=some (b.drop (s+ns[i])):=by
     rw[Dg];simp only[Ajk,List.drop_drop]
    rw[Aaw (by decide),c3,Aa,e2];exact Anj o b ho ns hb hn r (i+1) (s+ns[i]) q p2 f2 c2 w2 r2 n2 g2 a2 x2 d3 (by omega) (by omega) (by omega)
   ·rw[Aa1 (by rw[Ao];simpa using he),d3.whole ho (by omega) he]
theorem nu(o b:LB)(ho:o.length<=64)(ns:List Nat)(hb:b.length<=10000)(hn:ns.length<=10000)(hs:tO ns=b.length):Kt o b (Uz ns)=C0 o b:=by
 have hO:¬(Dx (Ac o) 64=true):=by rw[Ay,Ac];simp;omega
 rw[Kt,Xh,BL,Aaw hO,Aa];simp only;rw[Aaw (by decide)];exact Anj o b ho ns hb hn ns.length 0 0 Ar [] 0 0 0 0 0 [] 0 [] (by rw[Axp];exact Bh.new ho) (by omega) (by rw[List.drop_zero];omega) (by have:=As;omega)
theorem Amx(o b:LB)(hb:b.length<=10000):∃R,C0 o b=some R\/64<o.length:=by
 by_cases ho:o.length<=64
 ·obtain⟨R,h,_⟩:=Amf o b [b.length] hb (by simp) (by simp[tO]);rw[nu o b ho [b.length] hb (by simp) (by simp[tO])]at h;exact⟨R, .inl h⟩
 ·exact⟨([],0), .inr (by omega)⟩
section
variable {o b:LB} {at_ n:Nat} {h:LB} {k:Int} (ho:o.length<=64) (hA:C0 o b=some (h,k))
include ho hA
theorem cu(hn:n<=8)(hl:at_+n<=b.length)(hb:b.length<=10000):∀(r w q1:Nat),r+w=2^n->r<q1->
  On o b (at_:Int) (n:Int) h k q1 0 (w:Int)=some (0,0)
 |r,w,0,_,hq=>absurd hq (Ayf _)
 |r,w,q1+1,hr,h1=>by
  have hp:2^n<=256:=by have:2^n<=2^8:=Ac8 (by omega) hn;omega
  have esh:Du (1:Int) (GI.toZ (n:Int)).toNat=((2^n:Nat):Int):=by
   have hh:∀n:Fin 9,Du (1:Int) (GI.toZ ((n:Nat):Int)).toNat=((2^(n:Nat):Nat):Int):=by decide +kernel
   exact hh ⟨n,by omega⟩
  simp only[On,NL];rw[esh];cases r with
  |zero=>
   have hN:¬(Bt (w:Int) ((2^n:Nat):Int)=true):=by simp only[Bt,GI.toZ,Aby];omega
   rw[Aaw hN];rfl
  |succ r=>
   have hN:Bt (w:Int) ((2^n:Nat):Int)=true:=by simp only[Bt,GI.toZ,Aby];omega
   rw[Aa1 hN,OE];have hP:=Atd (o:=o) (b:=b) (at_:=at_) (n:=n) (h:=h) (k:=k) (On o b (at_:Int) (n:Int) h k q1) 0 w (by omega) hn hl hb n 0 0 Ar [] (by omega) (by omega) (by simp) (by have:=As;omega);rw[show((0:Nat):Int)=0 from rfl,show Uz []=[]from rfl,Asc]at hP;rw[hP,Am1,nu o b ho _ hb (by have:=A9 at_ w b.length n 0 0;omega) (by rw[K3 _ _ _ _ _ _ (by omega) (by omega)];omega),hA,Aa];simp only;have e1:Ad (w:Int) 1=((w+1:Nat):Int):=by rw[Aj];omega
   rw[Aaw (by rw[Ao];simp),Fy,Aa,Aaw (by simp),Oo,eJ,e1];exact cu hn hl hb r (w+1) q1 (by omega) (by omega)
end
theorem W7{o b:LB}(ho:o.length<=64){A N:Nat}(hn:N<=8)(hl:A+N<=b.length)(hb:b.length<=10000):Cz o b (A:Int) (N:Int)=some (0,0):=by
 obtain⟨⟨h,k⟩,hR|hR⟩:=Amx o b (by omega)
 ·have h1:=nu o b ho [b.length] (by omega) (by simp) (by simp[tO]);rw[hR,show Uz [b.length]=[Ac b]from rfl]at h1;have e0:Hj (Je ((N:Nat):Int) 0)=some ():=by rw[show Je ((N:Nat):Int) 0=true by simp[Je,GI.toZ]];rfl
  rw[Cz,FK,Aaw (by rw[Ay,Ac];simp;omega),BL,Aaw (by rw[Ay,Ac];simp;omega),Aa];simp only;rw[Aaw (by decide),Aaw (by simp[Af,Ay,Ac];rw[Bu];omega),h1,Aa];simp only;rw[e0,Aa,OI,show(0:Int)=((0:Nat):Int)from rfl];have:=cu ho hR (at_:=A) (n:=N) (by omega) (by omega) (by omega) (2^N) 0 Ar (by omega) (by have:2^N<=2^8:=Ac8 (by omega) (by omega);have:=As;omega);rw[show((0:Nat):Int)=0 from rfl]at this;rw[show((0:Nat):Int)=0 from rfl,this]
 ·omega
def z9:LB:=[0,0,0,0,0,0,0,0,0]
def z65:LB:=[0,0,0,0,0,0,0,0,0,0,0,0,0,0,0,0,0,0,0,0,0,0,0,0,0,0,0,0,0,0,0,0,0,0,0,0,0,0,0,0,0,0,0,0,0,0,0,0,0,0,0,0,0,0,0,0,0,0,0,0,0,0,0,0,0]
theorem Aw8:Ag 0 255 []=some true:=by kernel_rfl
theorem Axk:Ag 1 255 [1]=some true:=by kernel_rfl
theorem Axg:Ag 3 0 [3]=some true:=by kernel_rfl
theorem Axi:Ag 3 7 [1,1,1]=some true:=by kernel_rfl
theorem Axj:Ag 65 9223372036854775808 [64,1]=some true:=by kernel_rfl
theorem Aw9:Ag 64 9223372036854775808 [64]=some true:=by kernel_rfl
theorem Aw2:Kv 0 0 8000 [] [] 0=some ([],2):=by kernel_rfl
theorem Awz:Kv 1 8 8000 [] [] 0=some ([],24):=by kernel_rfl
theorem Axc:Ic z65 [] 0=some ([],2):=by kernel_rfl
theorem Avw:Ic [] [] 0=some ([],24):=by kernel_rfl
theorem Au9:Cz z65 [] 0 (-1)=some (0,2):=by kernel_rfl
theorem Av9:Cz [] z9 0 9=some (0,2):=by kernel_rfl
theorem Avt:Cz [] z9 2 8=some (0,2):=by kernel_rfl
theorem Av7:Cz [] z9 (-1) 1=some (0,2):=by kernel_rfl
theorem Auy:Cz [] z9 9223372036854775807 1=some (0,2):=by kernel_rfl
theorem Au1:Cz [] z9 1 (-1)=some (0,2):=by kernel_rfl
theorem Ajw(k:Nat)(h:k<=100001):Bf (List.replicate 100001 (0:UInt8)) 0 (k:Int)=some (List.replicate k 0):=by
 rw[Da (by omega) (by rw[Axw];omega),Ajk,List.take_replicate,Asa h]
theorem Ad1(hal:Rp=some true):Ku=some true:=by
 have e1:Hc (-1) 0=some ([],2):=rfl;have e2:Hc 100001 0=some ([],2):=rfl;have e3:=Ain 100000 18446744073709551615 (by omega);have l3:Ac (pcs 100000 (18446744073709551615:UInt64).toNat 100000 0 0)=100000:=by
  rw[Ac,show(18446744073709551615:UInt64).toNat=18446744073709551615 from rfl,Afg];rfl
 generalize pcs 100000 (18446744073709551615:UInt64).toNat 100000 0 0=K at e3 l3;have hl:Ac (List.replicate 100001 (0:UInt8))=100001:=by rw[Ac,Axw];rfl
 have e4:Kv 1 8 8000 [] (List.replicate 100001 0) 0=some ([],2):=by
  rw[Kv,II,hl,e2,Aa];rfl
 have e5:Ic [] (List.replicate 100001 0) 0=some ([],2):=by rw[Ic,hl,e2,Aa];rfl
 have e6:Cz [] (List.replicate 100001 0) 0 0=some (0,2):=by rw[Cz,FK,hl,Aa1 (by decide)]
 have c65:Bf (List.replicate 100001 (0:UInt8)) 0 65=some z65:=Ajw 65 (by omega);have c9:Bf (List.replicate 100001 (0:UInt8)) 0 9=some z9:=Ajw 9 (by omega);have w1:Cz [] z9 1 8=some (0,0):=W7 (by simp) (A:=1) (N:=8) (by omega) (by simp[z9]) (by simp[z9]);have w2:Cz [] [] 0 0=some (0,0):=W7 (by simp) (A:=0) (N:=0) (by omega) (by simp) (by simp);rw[Ku,Mk]
 try simp only[Adp]
 rw[xM,Aa,Dk (by decide),Aa,Aw8,Aa,Aa1 rfl,Axk,Aa,Aa1 rfl,Axg,Aa,Aa1 rfl,Axi,Aa,Aa1 rfl,Axj,Aa,Aa1 rfl,Aw9,Aa,Ml,Vs]
 try simp only[Adp]
 rw[show(100001:Int).toNat=100001 from rfl];generalize List.replicate 100001 (0:UInt8)=Z at*
 rw[e1,Aa];simp only;rw[e2,Aa];simp only;rw[show(100000:Int)=((100000:Nat):Int)from rfl,e3,Aa];simp only;rw[e4,Aa];simp only;rw[e5,Aa];simp only;rw[e6,Aa];simp only;rw[Aw2,Aa];simp only;rw[Awz,Aa];simp only;rw[c65,Aa,Axc,Aa];simp only;rw[Avw,Aa];simp only;rw[Aa,Au9,Aa];simp only;rw[c9,Aa,Av9,Aa];simp only;rw[Aa,Avt,Aa];simp only;rw[Aa,Av7,Aa];simp only;rw[Aa,Auy,Aa];simp only;rw[Aa,Au1,Aa];simp only;rw[Aa,w1,Aa];simp only;rw[w2,Aa];simp only;rw[l3,hal];change _=some true;kernel_rfl
theorem law_ChunksNames:Ku=some true:=Ad1 Aqt
end Go.Pl
