/- A part of a proof (see the text that ends in Proof). No conditions. -/
import Derived.Test.YtfndponlpdejaaaGreatDoorMpWA
set_option linter.unusedVariables false
set_option linter.unusedSimpArgs false
namespace Go.Pl
open Go Go.Lv
variable{α:Type}
theorem dF{p:Prop}(h:p:=by simp[Am,Ad,Ar,Ac];omega):p:=h
theorem Q9(l:List α):geq (Ac l) 0=decide (l=[]):=by
 cases l with
 |nil=>rfl
 |cons x l=>rw[Ax,Ac,E8,E0 B8,uN];omega
theorem kO(l:List α):Ec (Ac l) 0=decide (l≠ []):=by
 cases l with
 |nil=>rfl
 |cons x l=>rw[Ar,Ac,E8,L! B8];simp
inductive FitD (o:LB) (f c w r n:Int) (g:LI) (a:Int) (x:LB):Prop
 |new:f=0->c=0->w=0->r=0->n=0->g=[]->a=0->x=[]->FitD o f c w r n g a x
 |head (F C W R N:Nat):HdI f c w r n F C W R N-> (o==([]:LB))=decide (F=1)->g=[]->a=0->x=[]->FitD o f c w r n g a x
 |tab (F C W R N A:Nat):HdI f c w r n F C W R N-> (o==([]:LB))=decide (F=1)->FO g=true->g.length=(Az (Ak R) N).length->a=A->A<=g.length->FitD o f c w r n g a x
theorem Alw(f c w r n:Int)(o:LB):Vv f c w r n o=Et f c w r n o:=rfl
theorem Ae0(o p:LB)(f c w r n:Int)(g:LI)(a:Int)(x:LB)(u:Bool)(v:Int):
  (LC o p f c w r n g a x u v=some false/\Mq o p f c w r n g a x u v=some false)\/
  (LC o p f c w r n g a x u v=some true/\Mq o p f c w r n g a x u v=Dd o p f c w r n g a x u v/\FitD o f c w r n g a x):=by
 rw[LC,cH,Mq,HC];by_cases hz:f=0/\c=0/\w=0/\r=0/\n=0
 ·obtain⟨rfl,rfl,rfl,rfl,rfl⟩:=hz;rw[B6 F5,B6 F5,Q9,Q9,kO,kO];by_cases h:g=[]/\a=0/\x=[]
  ·obtain⟨rfl,rfl,rfl⟩:=h;exact .inr ⟨rfl,by rw[B! F5], .new rfl rfl rfl rfl rfl rfl rfl rfl⟩
  ·refine .inl ⟨?_,?_⟩
   ·congr 1;rw[uy];intro e;simp only[C1,B?,Ax,E3]at e;exact h ⟨e.1.1,e.1.2,e.2⟩
   ·rw[B6];simp only[HU,B?,Am,N9];by_cases e1:g=[]
    ·by_cases e2:a=0
     ·exact .inr λe3=>h ⟨e1,e2,e3⟩
     ·exact .inl (.inr e2)
    ·exact .inl (.inl e1)
 ·have hz2:¬(((geq f 0)&&((geq c 0)&&((geq w 0)&&((geq r 0)&&((geq n 0)&&true)))))=true):=by
   simp only[C1,Ax,E3,P8];exact hz
  rw[B! hz2,B! hz2];rcases Ar1 f c w r n with⟨F,C,W,R,N,h⟩|⟨e1,e2⟩
  ·rw[h.W9,h.check,Aa,Aa,Alw];simp only;rw[B! F5,B! F5,Et];have hf:geq f 1=decide (F=1):=by rw[h.ef,Ax,C?];simp;omega
   rw[hf];by_cases hp:(o==([]:LB))=decide (F=1)
   ·rw[B! (by rw[hp];simp),Aa,Aa,B! F5,B! F5,Bds,cB,Wq,Wm,Q9,Q9,kO];by_cases hg:g=[]
    ·subst hg;rw[B6 B8,B6 B8];by_cases h':a=0/\x=[]
     ·obtain⟨rfl,rfl⟩:=h';exact .inr ⟨rfl,by rw[B! F5], .head F C W R N h hp rfl rfl rfl⟩
     ·refine .inl ⟨?_,?_⟩
      ·congr 1;rw[uy];intro e;simp only[C1,B?,Ax,E3]at e;exact h' e
      ·rw[B6];simp only[HU,B?,Am,N9];by_cases e2:a=0
       ·exact .inr λe3=>h' ⟨e2,e3⟩
       ·exact .inl e2
    ·rw[B! (by simpa using hg),B! (by simpa using hg),fG,mQ,Aa,Aa];by_cases ht:FO g=true
     ·rw[B6 ht,h.UW];simp only[Aa];by_cases hl:g.length=(Az (Ak R) N).length/\0<=a/\a<=g.length
      ·obtain⟨hl,ha0,ha1⟩:=hl;obtain⟨A,rfl⟩:=G5 ha0;have hA:A<= (Az (Ak R) N).length:=F0
       rw[B! dF,B! F5,B! dF,Dt,Aa,Bdu];have hh:=h;clear hf;obtain⟨rfl,rfl,rfl,rfl,rfl,hs,hf⟩:=hh;have hlp:=vW hs hf A hA o p g (A:Int) x u v A 0 As F0 (by have:=Aq;have:=y! hf;omega);have h0:RT C W (Az (Ak R) N) 0=0:=by rw[RT,Q_,Y1];simp
       rw[h0,show((0:Nat):Int)=0 from rfl]at hlp;rw[show((A:Int)).toNat=A from rfl,hlp,Agc hs hf A hA,Aa];by_cases hx:(x.length:Int)<=RT C W (Az (Ak R) N) A
       ·refine .inr ⟨?_,?_, .tab F C W R N A h hp ht hl rfl F0⟩
        ·rw[Th,Ac,L! hx]
        ·rw[B! D!]
       ·refine .inl ⟨?_,?_⟩
        ·rw[Th,Ac,E0 hx]
        ·rw[B6 D!]
      ·refine .inl ⟨?_,?_⟩
       ·rw[B6 dF]
       ·rw[B! F5,B6 dF]
     ·refine .inl ⟨?_,?_⟩
      ·rw[B! ht,B6 (by simp[Am])]
      ·rw[B! ht,B6 F5,B6 B8]
   ·rw[B6 (by simpa using hp),Aa,Aa,B6 F5,B6 F5];exact .inl ⟨rfl,rfl⟩
  ·rw[e1,e2,Aa,Aa];simp only;rw[B6 F5,B6 F5];exact .inl ⟨rfl,rfl⟩
theorem Auo(b:LB)(n:Int):Cd (oT b n).2:=by
 unfold oT
 repeat' split
 all_goals first|decide|exact .inl rfl
theorem Ati(b:LB):(MK b).2=6\/Cd (MK b).2:=by
 unfold MK uh
 repeat' split
 all_goals first|exact .inl rfl|exact .inr (Auo _ _)|exact .inr F5
theorem Apx(b:LB):(Qd b).2=6\/Cd (Qd b).2:=by
 unfold Qd
 repeat' split
 all_goals first|exact .inl rfl|exact .inr (.inl rfl)|exact .inr F5
theorem Au2(b:LB):(Dq b).2=6\/Cd (Dq b).2:=by
 unfold Dq;split
 ·exact Ati b
 ·exact Apx b
theorem wJ(b:LB):∀(j p:Nat),p<=b.length->b.length<j+p->Cd (Dc b j p).2
 |0,p,h1,h2=>by omega
 |j+1,p,h1,h2=>by
  rw[Dc];split
  ·exact .inl rfl
  ·rename_i h6;split
   ·exact(Au2 _).resolve_left h6
   ·rename_i h0;split
    ·exact(by decide:Cd 4)
    ·have hz:Dq (b.drop p)=((Dq (b.drop p)).1,0):=by rw[ku];exact⟨rfl,by simpa using h0⟩
     obtain⟨k1,k2⟩:=xW hz;rw[D8]at k2;split
     ·exact .inl rfl
     ·exact wJ b j _ F0 F0
theorem Y7(b:LB):Cd (Eo b).2:=by
 unfold Eo RF;split
 ·exact .inl rfl
 ·exact wJ b _ _ F0 F0
theorem wo(b:LB):0<= (Eo b).2:=(Y7 b).nn
theorem m?(b:LB):Cd (Hu b).2.2.2.2.2:=by
 unfold Hu
 repeat' split
 all_goals first|decide|exact .inl rfl
theorem Ai2(b:LB):0<= (Hu b).2.2.2.2.2:=(m? b).nn
theorem Awl(b:LB){n:Nat}(h:1<=n/\n<=1000):Cd (Py b n).2:=by
 unfold Py;rw[B! (λe=>e h)]
 repeat' split
 all_goals first|decide|exact .inl rfl
theorem Aja(b:LB)(n:Nat):0<= (Py b n).2:=by
 unfold Py
 repeat' split
 all_goals simp
def ID3:LB:=[73,68,51]
def APX:LB:=[65,80,69,84,65,71,69,88]
def DE(b s:LB):Bool:=decide (b.length<s.length)&&(b==s.take b.length)
theorem zf(b s:LB):Ui b s=some (DE b s):=by
 rw[Ui,DE];by_cases h:b.length<s.length
 ·rw[B6 S1,Ac,Dt,Aa,L! h,OK];rfl
 ·rw[B! S1,E0 h];rfl
theorem Avf(b s:LB)(h:b.length<s.length):Oc s b=some (DE b s):=by
 rw[Oc,Kh,B6 vI,Ac,Dt,Aa,Aa,DE,L! h,OK,D0];congr 1;rw[C?,E3,E3];exact eq_comm
theorem zF{b s:LB}(h:¬b.length<s.length):DE b s=false:=by rw[DE,E0 h];rfl
theorem Auy(b:LB):Zl b=some (DE b ID3||DE b APX):=by
 obtain⟨q,hq⟩:∃q,As=q+3:=⟨As-3,by have:=Aq;omega⟩;have l3:Px b (q+1) 2=some false:=by rw[Px,FK,B! F5];rfl
 have l2:Px b (q+2) 1=some (DE b APX):=by
  rw[Px,FK,B6 F5,show Aj ([([73,68,51]:LB),([65,80,69,84,65,71,69,88]:LB)]:List LB) 1=some APX from rfl,Aa,show Af (1:Int) 1=2 from rfl];by_cases h:b.length<APX.length
  ·rw[B6 S1,Avf b APX h,Aa];by_cases hb:DE b APX=true
   ·rw[B6 hb,hb]
   ·rw[B! hb,l3];simpa using hb
  ·rw[B! S1,l3,zF h]
 rw[Zl,cF,Bdn,hq,Px,FK,B6 F5,show Aj ([([73,68,51]:LB),([65,80,69,84,65,71,69,88]:LB)]:List LB) 0=some ID3 from rfl,Aa,show Af (0:Int) 1=1 from rfl];by_cases h:b.length<ID3.length
 ·rw[B6 S1,Avf b ID3 h,Aa];by_cases hb:DE b ID3=true
  ·rw[B6 hb,hb];rfl
  ·rw[B! hb,l2,Bool.eq_false_iff.2 hb];rfl
 ·rw[B! S1,l2,zF h];rfl
def stS(b:LB):Int×Int×Int×Int×Int×Int×Int:=
 if(Eo b).2=24 then(0,0,0,0,0,0, -1)else if(Eo b).2≠0 then(0,0,0,0,0,0,(Eo b).2)else
 if(DE (GY b) ID3||DE (GY b) APX)=true then(0,0,0,0,0,0, -1)else
 if(Hu (GY b)).2.2.2.2.2=24 then(0,0,0,0,0,0, -1)else((Eo b).1+22,(Hu (GY b)).1,(Hu (GY b)).2.1,(Hu (GY b)).2.2.1,(Hu (GY b)).2.2.2.1,(Hu (GY b)).2.2.2.2.1,(Hu (GY b)).2.2.2.2.2)
theorem PK(b:LB)(hb:b.length<=100000):Rt b=some (stS b):=by
 rw[Rt,Acf,rO b F0,Aa,stS];have hok:=eW (b:=b);simp only;by_cases h1:(Eo b).2=24
 ·rw[B6 (by rw[Ax];simpa using h1),B6 h1]
 rw[B! (by rw[Ax];simpa using h1),B! h1];by_cases h2:(Eo b).2≠0
 ·rw[B6 (by rw[Am];simpa using h2),B6 h2]
 have h0:(Eo b).2=0:=by simpa using h2
 obtain⟨k1,k2,k3⟩:=hok h0;rw[B! (by rw[Am,h0];simp),B! h2,Dj,Aa,zf,Aa,show b.drop (Eo b).1.toNat=GY b from rfl,show([73,68,51]:LB)=ID3 from rfl,show([65,80,69,84,65,71,69,88]:LB)=APX from rfl];by_cases h3:DE (GY b) ID3=true
 ·rw[B6 h3,h3,Bool.true_or,B6 rfl]
 rw[B! h3,zf,Aa,Bool.eq_false_iff.2 h3,vG];by_cases h4:DE (GY b) APX=true
 ·rw[B6 h4,B6 h4]
 have hl:(GY b).length<=b.length:=by rw[GY,D8];omega
 rw[B! h4,B! h4,Acd,Ack,i_ _ F0,Aa];simp only;by_cases h5:(Hu (GY b)).2.2.2.2.2=24
 ·rw[B6 (by rw[Ax];simpa using h5),B6 h5]
 ·rw[B! (by rw[Ax];simpa using h5),B! h5,Ag]
theorem Uc{p q:LB}{n:Nat}(h:n<=p.length):(p++q).take n=p.take n:=by rw[XC h]
theorem O5{p q:LB}{i:Nat}(h:i<p.length):(p++q).getD i 0=p.getD i 0:=by
 rw[List.getD_eq_getElem?_getD,List.getElem?_append_left h,<-List.getD_eq_getElem?_getD]
theorem Zd{p q:LB}{a w:Nat}(h:a+w<=p.length:=by omega):part (p++q) a w=part p a w:=by rw[part,Uc h,part]
theorem As6{p q s:LB}(h:DE p s=false)(hl:p.length<s.length):(p++q).take s.length≠s:=by
 intro e;rw[DE,L! hl,OK]at h;have h1:p=s.take p.length:=by
  have:=congrArg (List.take p.length) e;rw[cP,MJ F0,Uc (D3 _),QY]at this;exact this
 rw[<-h1]at h;simp at h
theorem wN{p:LB}(q:LB)(h:(MK p).2≠24)(h6:DE p ID3=false):MK (p++q)=MK p:=by
 unfold MK at h⊢;by_cases h3:3<=p.length/\p.take 3=[73,68,51]
 ·have h3':3<= (p++q).length/\ (p++q).take 3=[73,68,51]:=⟨by rw[B9];omega,by rw[Uc h3.1];exact h3.2⟩;have n1:¬ ¬(3<=p.length/\p.take 3=[73,68,51]):=λf=>f h3;have n2:¬ ¬(3<= (p++q).length/\ (p++q).take 3=[73,68,51]):=λf=>f h3';rw[B! n1]at h;rw[B! n1,B! n2];by_cases h10:p.length<10
  ·rw[B6 h10]at h;exact absurd rfl h
  ·have h10':¬(p++q).length<10:=by rw[B9];omega
   rw[B! h10]at h;rw[B! h10,B! h10',Zd,O5 F0,O5 F0,O5 F0];split
   ·rfl
   ·rename_i hc;rw[B! hc]at h;unfold uh oT at h⊢;rw[O5 F0];generalize(mS (part p 6 4) 0).1+10+(if p.getD 5 0=16 then 10 else 0)=n at h⊢;by_cases c1:4000<n
    ·rw[B6 c1,B6 c1]
    ·rw[B! c1]at h;rw[B! c1,B! c1];by_cases c2:(p.length:Int)<n
     ·rw[B6 c2]at h;exact absurd rfl h
     ·have c2':¬((p++q).length:Int)<n:=by rw[B9];omega
      rw[B! c2,B! c2',Uc F0,Zd]
 ·rw[B6 h3,B6];rintro⟨_,h5⟩;by_cases hl:3<=p.length
  ·rw[Uc hl]at h5;exact h3 ⟨hl,h5⟩
  ·exact As6 h6 (by simp[ID3];omega) h5
theorem Ak6{p:LB}(q:LB)(h:(Qd p).2≠24)(h6:DE p APX=false):Qd (p++q)=Qd p:=by
 unfold Qd at h⊢;by_cases h3:8<=p.length/\p.take 8=J'
 ·have h3':8<= (p++q).length/\ (p++q).take 8=J':=⟨by rw[B9];omega,by rw[Uc h3.1];exact h3.2⟩;have n1:¬ ¬(8<=p.length/\p.take 8=J'):=λf=>f h3;have n2:¬ ¬(8<= (p++q).length/\ (p++q).take 8=J'):=λf=>f h3';rw[B! n1]at h;rw[B! n1,B! n2];by_cases h10:p.length<32
  ·rw[B6 h10]at h;exact absurd rfl h
  ·have h10':¬(p++q).length<32:=by rw[B9];omega
   have eb:RY (p++q)=RY p:=by rw[RY,RY,Zd,Zd]
   rw[B! h10]at h;rw[B! h10,B! h10',Zd,Zd,eb,Uc (n:=32) F0];split
   ·rfl
   ·rename_i hc;rw[B! hc]at h;by_cases c2:p.length<Hl (part p 12 4)+32
    ·rw[B6 c2]at h;exact absurd rfl h
    ·have c2':¬(p++q).length<Hl (part p 12 4)+32:=by rw[B9];omega
     rw[B! c2,B! c2',Uc F0]
 ·rw[B6 h3,B6];rintro⟨_,h5⟩;by_cases hl:8<=p.length
  ·rw[Uc hl]at h5;exact h3 ⟨hl,h5⟩
  ·exact As6 h6 (by simp[APX];omega) h5
theorem W8{p:LB}(q:LB)(h:(Dq p).2≠24)(h6:(Dq p).2=6->DE p ID3=false/\DE p APX=false):Dq (p++q)=Dq p:=by
 have uB:∀s:LB,s.length<=p.length->DE p s=false:=λs hs=>zF F0;unfold Dq at h h6⊢;by_cases hT:(MK p).2≠6
 ·rw[B6 hT]at h⊢;have h3:DE p ID3=false:=by
   refine uB _ ?_;unfold MK at hT;by_cases h3:3<=p.length/\p.take 3=[73,68,51]
   ·simp[ID3];omega
   ·rw[B6 h3]at hT;exact absurd rfl hT
  rw[wN q h h3,B6 hT]
 ·rw[B! hT]at h h6⊢;have hb:DE p ID3=false/\DE p APX=false:=by
   by_cases hA:(Qd p).2=6
   ·exact h6 hA
   ·unfold Qd at hA;by_cases h3:8<=p.length/\p.take 8=J'
    ·exact⟨uB _ (by simp[ID3];omega),uB _ (by simp[APX];omega)⟩
    ·rw[B6 h3]at hA;exact absurd rfl hA
  have hT':¬(MK (p++q)).2≠6:=by
   rw[wN q (by simp only[ne_eq,Classical.not_not]at hT;rw[hT];decide) hb.1];exact hT
  rw[B! hT',Ak6 q h hb.2]
theorem A!{p:LB}(q:LB):∀(j s j':Nat),s<=p.length->p.length-s<j->p.length+q.length-s<j'-> (Dc p j s).2≠24->
  ((Dc p j s).2=0->DE (p.drop (s+(Dc p j s).1.sum.toNat)) ID3=false/\DE (p.drop (s+(Dc p j s).1.sum.toNat)) APX=false)->Dc (p++q) j' s=Dc p j s
 |0,s,j',_,hj,_,_,_=>absurd hj (G4 _)
 |j+1,s,0,_,_,hj,_,_=>absurd hj (G4 _)
 |j+1,s,j'+1,hs,hj,hj',h,hb=>by
  have ed:(p++q).drop s=p.drop s++q:=Q? hs;rw[Dc]at h hb⊢;rw[Dc,ed];by_cases h6:(Dq (p.drop s)).2=6
  ·rw[B6 h6]at h hb⊢;have hb':=hb rfl;simp only[Y1,lE,N7]at hb';rw[W8 q (by rw[h6];decide) (λ_=>hb'),B6 h6]
  ·rw[B! h6]at h hb⊢;by_cases h0:(Dq (p.drop s)).2≠0
   ·rw[B6 h0]at h⊢;rw[W8 q h (λe=>absurd e h6),B! h6,B6 h0]
   ·rw[B! h0]at h hb⊢;have h0':(Dq (p.drop s)).2=0:=by simpa using h0
    have e1:Dq (p.drop s++q)=Dq (p.drop s):=W8 q (by rw[h0'];decide) (λe=>absurd e h6);rw[e1,B! h6,B! h0];have hok:=xW (b:=p.drop s) (n:=(Dq (p.drop s)).1) (by rw[<-h0']);rw[D8]at hok;by_cases hm:4000<(s:Int)+(Dq (p.drop s)).1
    ·rw[B6 hm,B6 hm]
    ·rw[B! hm]at h hb⊢;rw[B! hm];have hl1:s+(Dq (p.drop s)).1.toNat<=p.length:=F0
     have ih:=A! (p:=p) q j (s+(Dq (p.drop s)).1.toNat) j' hl1 F0 F0;by_cases hr:(Dc p j (s+(Dq (p.drop s)).1.toNat)).2=0
     ·rw[B6 hr]at hb⊢;have hle1:s+(Dq (p.drop s)).1.toNat<=p.length:=F0
      have hle2:s+(Dq (p.drop s)).1.toNat<=4000:=F0
      have hi:=(B2 p j (s+(Dq (p.drop s)).1.toNat) hle1 hle2 hr).1;have hsum:(0:Int)<= (Dc p j (s+(Dq (p.drop s)).1.toNat)).1.sum:=by
       have:∀l:LI,(∀x∈l,10<=x)->0<=l.sum:=by
        intro l
        induction l with
        |nil=>intro _;simp
        |cons a l ih=>intro h;rw[K1];have:=h a B8;have:=ih (λx hx=>h x (by simp[hx]));omega
       exact this _ hi
      rw[ih (by rw[hr];decide) (λ_=>by
       have:=hb rfl;simp only[K1]at this;rw[show s+((Dq (p.drop s)).1+(Dc p j (s+(Dq (p.drop s)).1.toNat)).1.sum).toNat=s+(Dq (p.drop s)).1.toNat+(Dc p j (s+(Dq (p.drop s)).1.toNat)).1.sum.toNat by omega]at this;exact this),B6 hr]
     ·rw[B! hr]at h⊢;rw[ih h (λe=>absurd e hr),B! hr]
theorem Abe{p:LB}(q:LB)(h:(Eo p).2≠24)(hb:(Eo p).2=0->DE (GY p) ID3=false/\DE (GY p) APX=false):Eo (p++q)=Eo p:=by
 have key:Dc (p++q) ((p++q).length+1) 0=Dc p (p.length+1) 0:=by
  refine A! q (p.length+1) 0 ((p++q).length+1) (S! _) F0 N0 ?_ ?_
  ·unfold Eo RF at h;by_cases h0:(Dc p (p.length+1) 0).2=0
   ·rw[h0];decide
   ·rw[B! h0]at h;exact h
  ·intro h0;have e:Eo p=(((0:Nat):Int)+(Dc p (p.length+1) 0).1.sum,0):=by unfold Eo RF;rw[B6 h0]
   have:=hb (by rw[e]);rw[GY,e]at this;simpa using this
 unfold Eo RF;rw[key]
theorem Arh{p:LB}(q:LB)(h:(Hu p).2.2.2.2.2≠24):Hu (p++q)=Hu p:=by
 unfold Hu at h⊢;by_cases h1:p.take (min 4 p.length)≠IJ.take (min 4 p.length)
 ·have h1':(p++q).take (min 4 (p++q).length)≠IJ.take (min 4 (p++q).length):=by
   intro e;have hle:min 4 p.length<=min 4 (p++q).length:=by rw[B9];omega
   have:=congrArg (List.take (min 4 p.length)) e;rw[cP,cP,MJ hle,Uc F0]at this;exact h1 this
  rw[B6 h1,B6 h1']
 ·rw[B! h1]at h;by_cases h2:p.length<22
  ·rw[B6 h2]at h;exact absurd rfl h
  ·have h2':¬(p++q).length<22:=by rw[B9];omega
   have h1':¬(p++q).take (min 4 (p++q).length)≠IJ.take (min 4 (p++q).length):=by
    rw[MJ F0]at h1⊢;rw[Uc F0];exact h1
   have e0:f0 (p++q)=f0 p:=by unfold f0;rw[Zd]
   have e1:f1 (p++q)=f1 p:=by unfold f1;rw[Zd]
   have e2:f2 (p++q)=f2 p:=by unfold f2;rw[Zd]
   have e3:f3 (p++q)=f3 p:=by unfold f3;rw[Zd]
   have e4:f4 (p++q)=f4 p:=by unfold f4;rw[Zd]
   rw[B! h1,B! h1',B! h2,B! h2',e0,e1,e2,e3,e4,Uc F0,Zd]
theorem Axr{p:LB}(q:LB)(h:(stS p).2.2.2.2.2.2≠ -1):stS (p++q)=stS p:=by
 unfold stS at h⊢;by_cases h1:(Eo p).2=24
 ·rw[B6 h1]at h;exact absurd rfl h
 rw[B! h1]at h;by_cases h2:(Eo p).2≠0
 ·rw[Abe q h1 (λe=>absurd e h2),B! h1,B6 h2,B! h1,B6 h2]
 rw[B! h2]at h;have h0:(Eo p).2=0:=by simpa using h2
 by_cases h3:(DE (GY p) ID3||DE (GY p) APX)=true
 ·rw[B6 h3]at h;exact absurd rfl h
 rw[B! h3]at h;have h3f:DE (GY p) ID3=false/\DE (GY p) APX=false:=by
  simp only[Bool.not_eq_true,XF]at h3;exact h3
 have eF:=Abe q h1 (λ_=>h3f);obtain⟨k1,k2,k3⟩:=eW h0;have eH:GY (p++q)=GY p++q:=by rw[GY,eF,GY,Q? F0]
 by_cases h5:(Hu (GY p)).2.2.2.2.2=24
 ·rw[B6 h5]at h;exact absurd rfl h
 have eR:Hu (GY p++q)=Hu (GY p):=Arh q h5;have beg:∀s:LB,DE (GY p) s=false-> (s=ID3\/s=APX)->DE (GY p++q) s=false:=by
  intro s hs hk;by_cases hl:(GY p++q).length<s.length
  ·have hp:(GY p).length<s.length:=by rw[B9]at hl;omega
   rw[DE,L! hp,OK]at hs;rw[DE,L! hl,OK];refine beq_eq_false_iff_ne.2 λe=>?_;have:=congrArg (List.take (GY p).length) e;rw[Uc (D3 _),QY,cP,MJ N0]at this;rw[<-this]at hs;simp at hs
  ·exact zF hl
 rw[eF,eH,eR,B! h1,B! h2,beg _ h3f.1 (.inl rfl),beg _ h3f.2 (.inr rfl),B! F5,B! h5,B! h1,B! h2,B! h3]
theorem Arf{p:LB}(q:LB)(n:Nat)(h:(Py p n).2≠24):Py (p++q) n=Py p n:=by
 unfold Py at h⊢;by_cases h1:1<=n/\n<=1000
 ·have n1:¬ ¬(1<=n/\n<=1000):=λf=>f h1;rw[B! n1]at h;rw[B! n1,B! n1];by_cases h2:p.length<4*n+4
  ·rw[B6 h2]at h;exact absurd rfl h
  ·have h2':¬(p++q).length<4*n+4:=by rw[B9];omega
   have et:eO (p++q) n=eO p n:=by
    unfold eO;refine Vh λi hi=>?_;rw[lB]at hi;rw[Zd]
   rw[B! h2,B! h2',Uc F0,Zd,et]
 ·rw[B6 h1,B6 h1]
def UP(g a:LB)(k p o u v:Int)(f:LI)(b:Int)(h:LB)(m:Bool)(n:Int):Option Int:=
if(geq k 0)then
(Rv a).bind λ(al,ba)=>
if(geq ba 24)then
Gi true 0
else
if(Bj ba 0)then
(Ao ba).bind λ(bx,bz)=>
Gi bx bz
else
(Bo a al (Ac a)).bind λda=>
(Zl da).bind λan=>
if an then
Gi true 0
else
(Bo a al (Ac a)).bind λdb=>
(Yi db).bind λ(ae,af,aa,ag,ab,bb)=>
if(geq bb 24)then
Gi true 0
else
if(Bj bb 0)then
(Ao bb).bind λ(dc,dd)=>
Gi dc dd
else
(
(Bo a (Af al 22) (Ac a)).bind λak=>
(
HW g ak ae af aa ag ab b m n f h))
else
if(geq (Ac f) 0)then
if(geq k 2)then
if(Cj (Ac a) 8)then
Om true 0
else
HT g a k p o u v b m n f h
else
Pg g a k p o u v b m n f h 0
else
if(Cj b (Ac f))then
(Aj f b).bind λ_=>
(Aj f b).bind λw=>
if(Cj (Ac a) w)then
Ih true 0
else
(GB g).bind λ(ap,am)=>
if(Bj am 0)then
(Ao am).bind λ(de,df)=>
Ih de df
else
(Fk k p o u v).bind λ(ad,dg)=>
if((Bj dg 0)||(Nw b (Ac ad)))then
(Ao 8).bind λ(dh,di)=>
Ih dh di
else
SO w g a k p o u v b m n ap ad f h
else
if(Ec (Ac a) 4000)then
(Ao 38).bind λ(dj,bf)=>
Ch ((dj==true)&&((geq bf 0)&&true))
else
II
theorem J3(d:Bool)(e:Int):Gi d e=Ch (d&&geq e 0):=by
 rw[Gi,Asu];cases d<;>simp
theorem ZL(d:Bool)(e:Int):Om d e=Ch (d&&geq e 0):=by
 rw[Om,Aux];cases d<;>simp
theorem pz(d:Bool)(e:Int):Ih d e=Ch (d&&geq e 0):=by
 rw[Ih,Atd];cases d<;>simp
theorem rp4{o p:LB}{f c w r n:Int}{g:LI}{a:Int}{x:LB}{u:Bool}{v:Int}{t1 t2:LB}{t3 t4 t5 t6 t7:Int}{t8:LI}{t9:Int}{t10:LB}{t11:Bool}{t12 e:Int}
  (h:Ah o p f c w r n g a x u v=some (t1,t2,t3,t4,t5,t6,t7,t8,t9,t10,t11,t12,e)):Dd o p f c w r n g a x u v=some (geq e (-1)):=by
 rw[Dd,HQ,h,Aa]
theorem rR{e:Int}(h:0<=e):geq e (-1)=false:=by rw[Ax,uN];omega
theorem Ap8(o p:LB)(c w r n:Int)(g:LI)(a:Int)(x:LB)(u:Bool)(v:Int)(hp:p.length<=100000):
  ∃B:Bool,UP o p 0 c w r n g a x u v=Ch B/\Dd o p 0 c w r n g a x u v=some B:=by
 have hT:Ah o p 0 c w r n g a x u v=Ah o p 0 c w r n g a x u v:=rfl
 conv at hT=>rhs;rw[Ah,Cb,B6 F5,PK p hp,Aa,stS]
 have hfn:=wo p;have hrn:=Ai2 (GY p);rw[UP,B6 F5,fK p F0,Aa];have hok:=eW (b:=p);simp only at hT⊢;by_cases h1:(Eo p).2=24
 ·rw[B6 h1]at hT;simp only at hT;rw[B6 F5]at hT;rw[B6 (by rw[Ax];simpa using h1),J3];exact⟨_,rfl,rp4 hT⟩
 rw[B! h1]at hT;rw[B! (by rw[Ax];simpa using h1)];by_cases h2:(Eo p).2≠0
 ·rw[B6 h2]at hT;simp only at hT;rw[B6 (by rw[Am];simpa using h2)]at hT;rw[B6 (by rw[Am];simpa using h2),Ao,Aa];simp only;rw[J3];exact⟨_,rfl,(rp4 hT).trans (by rw[rR hfn];rfl)⟩
 have h0:(Eo p).2=0:=by simpa using h2
 obtain⟨k1,k2,k3⟩:=hok h0;have hl:(GY p).length=p.length-(Eo p).1.toNat:=by rw[GY,D8]
 rw[B! h2]at hT;rw[B! (by rw[Am,h0];simp),Dj,Aa,Aa,show p.drop (Eo p).1.toNat=GY p from rfl,Auy,Aa];by_cases h3:(DE (GY p) ID3||DE (GY p) APX)=true
 ·rw[B6 h3]at hT⊢;simp only at hT;rw[B6 F5]at hT;rw[J3];exact⟨_,rfl,rp4 hT⟩
 rw[B! h3]at hT⊢;rw[ji _ F0,Aa];by_cases h5:(Hu (GY p)).2.2.2.2.2=24
 ·rw[B6 h5]at hT;simp only at hT;rw[B6 F5]at hT;rw[B6 (by rw[Ax];simpa using h5),J3];exact⟨_,rfl,rp4 hT⟩
 rw[B! h5]at hT;rw[B! (by rw[Ax];simpa using h5)];simp only at hT;by_cases h6:(Hu (GY p)).2.2.2.2.2≠0
 ·rw[B6 (by rw[Am];simpa using h6)]at hT⊢;rw[Ao,Aa];simp only;rw[J3];exact⟨_,rfl,(rp4 hT).trans (by rw[rR hrn];rfl)⟩
 have h7:(Hu (GY p)).2.2.2.2.2=0:=by simpa using h6
 have h22:=(Ais h7).2.1;rw[B! (by rw[Am,h7];simp),Dj,Aa,Gw,Jg,Et]at hT;rw[B! (by rw[Am,h7];simp),Ag,Dj,Aa,HW,Awv,Vv];simp only;by_cases h8:((o==([]:LB)) !=geq (Hu (GY p)).1 1)=true
 ·rw[B6 h8]at hT⊢;rw[Aa]at hT⊢;rw[Ao,Aa];simp only;rw[J3];exact⟨_,rfl,rp4 hT⟩
 ·rw[B! h8]at hT⊢;rw[Aa]at hT⊢;rw[Ao,Aa];simp only;rw[J3];exact⟨_,rfl,rp4 hT⟩
section
variable {f c w r n:Int} {F C W R N:Nat} (hd:HdI f c w r n F C W R N)
include hd
theorem HdI.ne0:¬(geq f 0=true):=by
 have:=hd.num;rw[Ax,E3,hd.ef];omega
theorem X!(o p:LB)(hp:p.length<=100000)(A:Nat)(hA:A<=p.length)(a:Int)(x:LB)(u:Bool)(v:Int):
  (Pg o p f c w r n a u v [] x (A:Int)=Ch (decide ((Py (p.drop A) (Az (Ak R) N).length).2=24)))/\
  Ff p f c w r n (A:Int)=some (if(Py (p.drop A) (Az (Ak R) N).length).2=24 then(0,[], -1)else((A:Int)+(4*((Py (p.drop A) (Az (Ak R) N).length).1.length:Int)+4),(Py (p.drop A) (Az (Ak R) N).length).1,(Py (p.drop A) (Az (Ak R) N).length).2))/\
  ((Py (p.drop A) (Az (Ak R) N).length).2=0-> (A:Int)+(4*((Py (p.drop A) (Az (Ak R) N).length).1.length:Int)+4)<=p.length):=by
 have hs:=Adm (p.drop A) (Az (Ak R) N).length L6;have hr:=Av1 (p.drop A) (Az (Ak R) N).length L6;have hok:=Ag1 (b:=p.drop A) (n:=(Az (Ak R) N).length);have hlen:(Py (p.drop A) (Az (Ak R) N).length).1.length<=1000:=by
  unfold Py
  repeat' split
  all_goals simp[aE]
  all_goals omega
 have hfit:(Py (p.drop A) (Az (Ak R) N).length).2=0-> (A:Int)+(4*((Py (p.drop A) (Az (Ak R) N).length).1.length:Int)+4)<=p.length:=by
  intro h0;obtain⟨k1,k2,k3,k4,_⟩:=hok h0;rw[k1];simp only[aE];rw[D8]at k4;omega
 refine⟨?_,?_,hfit⟩
 ·rw[Pg,Atl,hd.W9,Aa];simp only;rw[B! F5,Dj,Aa,D0,Ac,hs,Aa];generalize Py (p.drop A) (Az (Ak R) N).length=z at*
  obtain⟨z1,z2⟩:=z;simp only at*
  by_cases h1:z2=24
  ·rw[B6 (by rw[Ax];simpa using h1),ZL,L! h1];rfl
  rw[B! (by rw[Ax];simpa using h1),E0 h1];by_cases h2:z2≠0
  ·rw[B6 (by rw[Am];simpa using h2),Ao,Aa];simp only;rw[ZL];rfl
  ·have h0:z2=0:=by simpa using h2
   have:=hfit h0;rw[B! (by rw[Am,h0];simp),Ac,qP A z1.length F0 F0,Dj,Aa,ZL];rfl
 ·rw[Ff,Afe,Dj,Aa,hd.UW,Aa,Ac,D0,hr,Aa];generalize Py (p.drop A) (Az (Ak R) N).length=z at*
  obtain⟨z1,z2⟩:=z;simp only at*
  rw[Aer,Afb];by_cases h1:z2=24
  ·rw[B6 (by rw[Ax];simpa using h1),B6 h1]
  ·rw[B! (by rw[Ax];simpa using h1),B! h1,Ac,qP A z1.length F0 F0];congr 2
theorem Aw5(o p:LB)(ho:o.length<=64)(hp:p.length<=100000)(a:Int)(x:LB)(u:Bool)(v:Int):
  ∃B:Bool,UP o p f c w r n [] a x u v=Ch B/\Dd o p f c w r n [] a x u v=some B:=by
 have hT:Ah o p f c w r n [] a x u v=Ah o p f c w r n [] a x u v:=rfl
 conv at hT=>rhs;rw[Ah,Cb,B! hd.ne0,Cg,Be,B6 F5,Ez,Pa]
 rw[UP,B! hd.ne0,B6 F5];have fin:∀A:Nat,A<=p.length->Ah o p f c w r n [] a x u v=(Ff p f c w r n (A:Int)).bind (λ(ag,ak,w1)=>
   if(Bj w1 0)then some (o,p,f,c,w,r,n,[],a,x,u,v,w1)else(Bo p ag (Ac p)).bind λal=>some (o,al,f,c,w,r,n,ak,a,x,u,v,0))->
   ∃B:Bool,Pg o p f c w r n a u v [] x (A:Int)=Ch B/\Dd o p f c w r n [] a x u v=some B:=by
  intro A hA hT;obtain⟨t1,t2,t3⟩:=X! hd o p hp A hA a x u v;have hnn:=Aja (p.drop A) (Az (Ak R) N).length;rw[t2,Aa]at hT;rw[t1];generalize Py (p.drop A) (Az (Ak R) N).length=z at*
  obtain⟨z1,z2⟩:=z;simp only at*
  by_cases h1:z2=24
  ·rw[B6 h1]at hT;simp only at hT;rw[B6 F5]at hT;exact⟨_,rfl,(rp4 hT).trans (by rw[L! h1];rfl)⟩
  rw[B! h1]at hT;simp only at hT;by_cases h2:z2≠0
  ·rw[B6 (by rw[Am];simpa using h2)]at hT;exact⟨_,rfl,(rp4 hT).trans (by rw[E0 h1,rR hnn])⟩
  ·have h0:z2=0:=by simpa using h2
   have:=t3 h0;rw[B! (by rw[Am,h0];simp),Dj,Aa]at hT;exact⟨_,rfl,(rp4 hT).trans (by rw[E0 h1];rfl)⟩
 by_cases h2:geq f 2=true
 ·rw[B6 h2]at hT⊢;by_cases h8:p.length<8
  ·rw[B6 F2]at hT⊢;rw[Aa]at hT;simp only at hT;rw[B6 F5]at hT;rw[ZL];exact⟨_,rfl,rp4 hT⟩
  ·rw[B! F2]at hT⊢;have h8':(p.take 8).length=8:=by rw[C8];omega
   rw[Dt,Aa,W6 o ho,Aa]at hT;rw[HT,Awq,Dt,Aa,show(8:Int).toNat=8 from rfl,Ag6 h8' ho,Aa];rw[show(8:Int).toNat=8 from rfl]at hT;simp only;rw[Avz,Aud,B! F5];by_cases he:(p.take 8==DZ (MI o).toNat 8)=true
   ·rw[B! (by rw[bne,he];decide)]at hT;rw[B! (by rw[he];decide)];exact fin 8 F0 hT
   ·have he':(p.take 8==DZ (MI o).toNat 8)=false:=by simpa using he
    rw[B6 (by rw[bne,he'];decide),Aa]at hT;simp only at hT;rw[B6 F5]at hT;rw[B6 (by rw[he'];decide),Ao,Aa];simp only;rw[ZL];exact⟨_,rfl,rp4 hT⟩
 ·rw[B! h2]at hT⊢;exact fin 0 F0 hT
end
theorem Arv{f c w r n:Int}{F C W R N:Nat}(hd:HdI f c w r n F C W R N)(o p:LB)(ho:o.length<=64)(hp:p.length<=100000)(g:LI)(hg:FO g=true)(hl:g.length=(Az (Ak R) N).length)(A:Nat)(hA:A<=g.length)(x:LB)(hx:x.length<=14000000)(u:Bool)(v:Int):
  ∃B:Bool,UP o p f c w r n g (A:Int) x u v=Ch B/\Dd o p f c w r n g (A:Int) x u v=some B:=by
 have hc:=hd.ec;subst hc;have hg':=hg;rw[FO,C1,B?,OU g 100000 F0]at hg';obtain⟨⟨g1,g2⟩,g5,g6⟩:=hg';have hT:Ah o p f (C:Int) w r n g (A:Int) x u v=Ah o p f (C:Int) w r n g (A:Int) x u v:=rfl
 conv at hT=>rhs;rw[Ah,Cb,B! hd.ne0,Cg,Be,B! (by rw[Ax,Ac];simp;intro e;subst e;simp at g1)]
 rw[UP,B! hd.ne0,B! (by rw[Ax,Ac];simp;intro e;subst e;simp at g1)];by_cases hA2:A=g.length
 ·subst hA2;rw[B6 (by rw[Ax,Ac];simp)]at hT;rw[B! WE];by_cases h4:4000<p.length
  ·rw[B6 D!]at hT⊢;rw[Ao,Aa];simp only;exact⟨_,rfl,rp4 hT⟩
  ·rw[B! D!]at hT⊢;rw[II,Avo];exact⟨_,rfl,rp4 hT⟩
 ·have hlt:A<g.length:=F0
  have h5:=g5 g[A] (G8 hlt);have hsum:=X0 g5 g[A] (G8 hlt);rw[B! (by rw[Ax,Ac];simp;omega),Cw,Kn,Bl hlt,Aa]at hT;rw[B6 F2,Bl hlt,Aa,Aa];by_cases hw:(p.length:Int)<g[A]
  ·rw[B6 (by rw[Ad,Ac];simpa using hw)]at hT⊢;rw[Aa]at hT;simp only at hT;rw[B6 F5]at hT;rw[pz];exact⟨_,rfl,rp4 hT⟩
  rw[B! (by rw[Ad,Ac];simpa using hw)]at hT⊢;have jP:=hd.num;have hlt2:A<(Az (Ak R) N).length:=F0
  obtain⟨m,hm,m1,m2⟩:=XR (Hb R) jP.2.2.2.2.1 (G8 hlt2);have hb:Bq w:=by rw[hd.ew];unfold Bq;omega
  obtain⟨xs,e,d1,d2,d3,d4⟩:=kU (bits:=w) (ch:=C) (n:=m) (t:=Vz o) (p.take g[A].toNat) hb (Vw o) jP.2.1.1 jP.2.1.2 m1 F0;have hnn:=wW hb (Vw o) jP.2.1.1 jP.2.1.2 m1 F0 d2;rw[zX o ho,Aa];simp only;rw[B! F5,hd.W9,Aa];simp only;rw[B! (by simp[Am,De,Ac];omega),SO,UE,Bl hlt2,Aa,Dt,Aa,Aa,NT,Aa];simp only;rw[hm,d1,Aa];simp only;rw[pI o ho,Aa]at hT;simp only at hT;rw[Dt,Aa,Jl,Aa]at hT;simp only at hT;rw[hd.UW,Aa,Bl hlt2,Aa,Aa,hm]at hT;rw[d2,Aa]at hT;simp only at hT;rw[Kq,Jz]at hT;rw[VX,IW];by_cases he:e≠0
  ·rw[B6 (by rw[Am];simpa using he)]at hT⊢;rw[Aa]at hT;simp only at hT;rw[B6 (by rw[Am];simpa using he)]at hT;rw[Ao,Aa];simp only;rw[pz];exact⟨_,rfl,(rp4 hT).trans (by rw[rR hnn];rfl)⟩
  ·have he0:e=0:=by simpa using he
   obtain⟨k1,k2,k3⟩:=d3 he0;have hbl:=YU w xs;rw[B! (by rw[Am,he0];simp)]at hT⊢;rw[zO hb k2 k1,Aa,Aa]at hT;simp only at hT;rw[B! F5,Ay F6,Aa,I0,Ay,Aa,Aa,Dj,Aa]at hT;rw[Bcs hb k2 k1,Aa];simp only;rw[B! F5,Ay,Aa,Dj,Aa,pz];exact⟨_,rfl,rp4 hT⟩
theorem Aht(a:LI)(b:Int)(ha:a.length<=100):∀(j i q:Nat),i+j=a.length->j<q->∃r,Cr a b q (i:Int)=some r/\Nw r 0=(a.drop i).any λy=>b==y
 |0,i,q+1,hi,_=>by
  refine⟨-1,?_,?_⟩
  ·rw[Cr,Gq,B! F2];rfl
  ·rw[show i=a.length by omega,OH];rfl
 |j+1,i,q+1,hi,hq=>by
  have hlt:i<a.length:=F0
  obtain⟨r,h1,h2⟩:=Aht a b ha j (i+1) q F0 F0;rw[Cr,Gq,B6 F2,Bl hlt,Aa,drop_cons hlt,List.any_cons];by_cases h:b=a[i]
  ·rw[B6 (by rw[Ax];simpa using h)];refine⟨_,rfl,?_⟩;rw[De,L! F0,h];simp
  ·rw[B! (by rw[Ax];simpa using h),Ag];refine⟨r,h1,?_⟩;rw[h2,beq_eq_false_iff_ne.2 h,vG]
theorem Aub(v:Int):∃B:Bool,Zz v=some B/\Yt v=some B:=by
 obtain⟨r,h1,h2⟩:=Aht [4,12,16,22,24,26,38] v F5 7 0 As rfl F7;refine⟨_,?_,rfl⟩;rw[Zz,Lu,Ok,Mb,Afi];have h1':Cr [4,12,16,22,24,26,38] v As 0=some r:=h1;rw[h1',Aa,Aa,h2];simp only[RU,List.any_cons,List.any_nil,Bool.or_false,Ax,Bool.or_assoc]
theorem xR(B:Bool):Ch B=some (if B=true then 0 else 8):=by
 rw[Ch,Aws];cases B<;>rfl
theorem An9(a b:LB)(f g h k m:Int)(n:LI)(o:Int)(p:LB)(u:Bool)(v:Int)(hb:b.length<=16000000)(hn:n.length<=16000000)(hp:p.length<=16000000):
  Ew a b f g h k m n o p u v=some (a,b,f,g,h,k,m,n,o,p,u,v):=by
 rw[Ew,Lg,Ay F6,Aa,Aa,Lg,Ay F6,Aa,Aa,Jm,Ay F6,Aa,Aa];rfl
theorem jK(o p:LB)(f c w r n:Int)(g:LI)(a:Int)(x:LB)(u:Bool)(v:Int)(hp:p.length<=100000)(hg:g.length<=100000)(hx:x.length<=14000000):
  ∃E,Fo o p f c w r n g a x u v=some E/\Cu o p f c w r n g a x u v=some E:=by
 rw[Fo,CK,Cu];by_cases ho:64<o.length
 ·rw[B6 D!,B6 D!];exact⟨8,rfl,rfl⟩
 have hO:¬(Ec (Ac o) 64=true):=by rw[Ar,Ac];simp;omega
 rw[B! hO,B! hO];by_cases hw:(geq v 0&& !u)=true
 ·rw[B6 hw,B6 hw,An9 o p f c w r n g a x u v F0 F0 F0,Aa];simp only;rcases Ae0 o p f c w r n g a x u v with⟨e1,e2⟩|⟨e1,e2,hd⟩
  ·rw[e1,e2,Aa,Aa,B! F5,B6 F5,xR];exact⟨8,rfl,rfl⟩
  ·rw[e1,e2,Aa,B6 rfl];have key:∃B:Bool,UP o p f c w r n g a x u v=Ch B/\Dd o p f c w r n g a x u v=some B:=by
    cases hd with
    |new e1 e2 e3 e4 e5 e6 e7 e8=>subst e1;exact Ap8 o p c w r n g a x u v hp
    |head F C W R N h hpw e6 e7 e8=>subst e6;exact Aw5 h o p F0 hp a x u v
    |tab F C W R N A h hpw ht hl ea hA=>subst ea;exact Arv h o p F0 hp g ht hl A hA x hx u v
   obtain⟨B,k1,k2⟩:=key;rw[k2,Aa];refine⟨if B=true then 0 else 8,k1.trans (xR B),?_⟩;cases B<;>rfl
 ·rw[B! hw,B! hw];by_cases hl:(geq (Ac p) 0&&geq (Ac g) 0)=true
  ·rw[B6 hl,B6 hl];generalize(geq f 0&&(geq c 0&&(geq w 0&&(geq r 0&&(geq n 0&&true)))))=z;by_cases hz:((z&&geq a 0)&&vA (Ac x) 12000)=true
   ·rw[B6 hz];simp only[C1,Th,Ac,B?]at hz;obtain⟨⟨z1,z2⟩,z3⟩:=hz;have hN:¬((!(z&&geq a 0)||Ec (Ac x) 12000)=true):=by rw[z1,z2,Ar,Ac];simp;omega
    rw[B! hN];by_cases hv:v=0
    ·have v1:geq v 0=true:=by rw[Ax];simpa using hv
     have v2:¬(Bj v 0=true):=by rw[Am];simpa using hv
     rw[B6 v1,B! v2,xR];exact⟨0,rfl,rfl⟩
    ·have v1:¬(geq v 0=true):=by rw[Ax];simpa using hv
     have v2:Bj v 0=true:=by rw[Am];simpa using hv
     rw[B! v1,B6 v2];obtain⟨B,k1,k2⟩:=Aub v;rw[k1,k2,Aa,Aa,xR,xR];cases u
     ·refine⟨if B=true then 0 else 8,B8,?_⟩;cases B<;>rfl
     ·exact⟨8,rfl,rfl⟩
   ·rw[B! hz,B6,xR]
    ·exact⟨8,rfl,rfl⟩
    ·simp only[C1,Th,Ac,B?]at hz;simp only[HU,G6,Ar,Ac,B?];by_cases hz2:(z&&geq a 0)=true
     ·rw[C1]at hz2;exact .inr (by have hq:¬((x.length:Int)<=12000):=λh=>hz ⟨hz2,h⟩;omega)
     ·exact .inl (by simpa using hz2)
  ·rw[B! hl,B! hl,B! B8,B6 B8,xR];exact⟨8,rfl,rfl⟩
def fZ(bk:LB->Int->Int->Int->Int->Int->Int->LI->LB->Ba)(o:LB)(u:Bool)(v:Int):LB->Int->Int->Int->Int->Int->Int->LI->LB->Ba:=
 Jy (Qw bk o u v) (Vk bk o u v) (Nj bk o u v) (BQ bk o u v) (Ra bk o u v) (Qt bk o u v) (DD bk o u v) (Cp bk o u v) (CV bk o u v) o u v
structure SzD (p:LB) (g:LI) (a:Int) (x:LB):Prop where
 hp:p.length<=100000
 hg:g.length<=1000
 hx:x.length+12000*(g.length-a.toNat)<=13000000
def muD(f:Int)(g:LI)(a:Int):Nat:=if f=0 then 1003 else if g=[]then 1002 else g.length-a.toNat+1
section
variable {bk:LB->Int->Int->Int->Int->Int->Int->LI->LB->Ba} {o p:LB} {f c w r n:Int} {g:LI} {a:Int} {x:LB} {u:Bool} {v:Int}
theorem Avq(hp:p.length<=100000)(hg:g.length<=1000)(hx:x.length<=13000000):Ew o p f c w r n g a x u v=some (o,p,f,c,w,r,n,g,a,x,u,v):=by
 rw[Ew,Lg,Ay F6,Aa,Aa,Lg,Ay F6,Aa,Aa,Jm,Ay F6,Aa,Aa];rfl
theorem Bfh(h:SzD p g a x)(e:Int):Cp bk o u v p f c w r n a true e g x=some (o,p,f,c,w,r,n,g,a,x,u,v,0):=by
 rw[Cp,XN,B6 rfl,Avq h.hp h.hg (by have:=h.hx;omega),Aa]
theorem Bee{e:Int}(h:e≠0):Cp bk o u v p f c w r n a false e g x=some (o,[],0,0,0,0,0,[],0,x,false,e,e):=by
 rw[Cp,XN,B! F5,B6 (by rw[Am];simpa using h)];rfl
inductive StepR (bk:LB->Int->Int->Int->Int->Int->Int->LI->LB->Ba) (o p:LB) (f c w r n:Int) (g:LI) (a:Int) (x:LB) (u:Bool) (v:Int):Prop
 |wait:fZ bk o u v p f c w r n a g x=some (o,p,f,c,w,r,n,g,a,x,u,v,0)->Ah o p f c w r n g a x u v=some (o,p,f,c,w,r,n,g,a,x,u,v, -1)->StepR bk o p f c w r n g a x u v
 |err (e:Int) {t1 t2:LB} {t3 t4 t5 t6 t7:Int} {t8:LI} {t9:Int} {t10:LB} {t11:Bool} {t12:Int}:0<e->fZ bk o u v p f c w r n a g x=some (o,[],0,0,0,0,0,[],0,x,false,e,e)->
   Ah o p f c w r n g a x u v=some (t1,t2,t3,t4,t5,t6,t7,t8,t9,t10,t11,t12,e)->StepR bk o p f c w r n g a x u v
 |next (p':LB) (f' c' w' r' n':Int) (g':LI) (a':Int) (x':LB):fZ bk o u v p f c w r n a g x=bk p' f' c' w' r' n' a' g' x'->Ah o p f c w r n g a x u v=some (o,p',f',c',w',r',n',g',a',x',u,v,0)->
   FitD o f' c' w' r' n' g' a' x'->SzD p' g' a' x'->p'.length<=p.length->muD f' g' a'<muD f g a->StepR bk o p f c w r n g a x u v
theorem f62{d:Bool}{e:Int}:Qw bk o u v a g x d e p f c w r n=Cp bk o u v p f c w r n a d e g x:=rfl
theorem f75{d:Bool}{e:Int}:Nj bk o u v f c w r n a x d e p g=Cp bk o u v p f c w r n a d e g x:=rfl
theorem f78{d:Bool}{e:Int}:Qt bk o u v f c w r n g d e p a x=Cp bk o u v p f c w r n a d e g x:=rfl
theorem mkW(hZ:SzD p g a x)(hF:fZ bk o u v p f c w r n a g x=Cp bk o u v p f c w r n a true 0 g x)(hT:Ah o p f c w r n g a x u v=some (o,p,f,c,w,r,n,g,a,x,u,v, -1)):StepR bk o p f c w r n g a x u v:=
 .wait (hF.trans (Bfh hZ 0)) hT
theorem mkE{e:Int}{p2:LB}{f2 c2 w2 r2 n2 a2:Int}{g2:LI}{t1 t2:LB}{t3 t4 t5 t6 t7:Int}{t8:LI}{t9:Int}{t10:LB}{t11:Bool}{t12:Int}(he:0<e)(hF:fZ bk o u v p f c w r n a g x=Cp bk o u v p2 f2 c2 w2 r2 n2 a2 false e g2 x)
  (hT:Ah o p f c w r n g a x u v=some (t1,t2,t3,t4,t5,t6,t7,t8,t9,t10,t11,t12,e)):StepR bk o p f c w r n g a x u v:= .err e he (hF.trans (Bee F0)) hT
theorem HdI.fnz{F C W R N:Nat}(h:HdI f c w r n F C W R N):f≠0:=by
 have:=h.num;rw[h.ef];omega
theorem Atz(hp:p.length<=100000):StepR bk o p 0 0 0 0 0 [] 0 [] u v:=by
 have hZ:SzD p [] 0 []:=⟨hp,B8,B8⟩;have hT:Ah o p 0 0 0 0 0 [] 0 [] u v=Ah o p 0 0 0 0 0 [] 0 [] u v:=rfl
 conv at hT=>rhs;rw[Ah,Cb,B6 F5,PK p hp,Aa,stS]
 have hF:fZ bk o u v p 0 0 0 0 0 0 [] []=fZ bk o u v p 0 0 0 0 0 0 [] []:=rfl
 conv at hF=>rhs;rw[fZ,Jy,B6 F5,fK p F0,Aa]
 have hfn:=wo p;have hrn:=Ai2 (GY p);have hok:=eW (b:=p);simp only at hT hF;by_cases h1:(Eo p).2=24
 ·rw[B6 h1]at hT;simp only at hT;rw[B6 F5]at hT;rw[B6 (by rw[Ax];simpa using h1)]at hF;exact mkW hZ hF hT
 rw[B! h1]at hT;rw[B! (by rw[Ax];simpa using h1)]at hF;by_cases h2:(Eo p).2≠0
 ·rw[B6 h2]at hT;simp only at hT;rw[B6 (by rw[Am];simpa using h2)]at hT;rw[B6 (by rw[Am];simpa using h2),Ao,Aa]at hF;exact mkE F0 hF hT
 have h0:(Eo p).2=0:=by simpa using h2
 obtain⟨k1,k2,k3⟩:=hok h0;have hl:(GY p).length=p.length-(Eo p).1.toNat:=by rw[GY,D8]
 rw[B! h2]at hT;rw[B! (by rw[Am,h0];simp),Dj,Aa,Aa,show p.drop (Eo p).1.toNat=GY p from rfl,Auy,Aa]at hF;by_cases h3:(DE (GY p) ID3||DE (GY p) APX)=true
 ·rw[B6 h3]at hT hF;simp only at hT;rw[B6 F5]at hT;exact mkW hZ hF hT
 rw[B! h3]at hT hF;rw[ji _ F0,Aa]at hF;by_cases h5:(Hu (GY p)).2.2.2.2.2=24
 ·rw[B6 h5]at hT;simp only at hT;rw[B6 F5]at hT;rw[B6 (by rw[Ax];simpa using h5)]at hF;exact mkW hZ hF hT
 rw[B! h5]at hT;rw[B! (by rw[Ax];simpa using h5)]at hF;simp only at hT;by_cases h6:(Hu (GY p)).2.2.2.2.2≠0
 ·rw[B6 (by rw[Am];simpa using h6)]at hT hF;rw[Ao,Aa]at hF;exact mkE (by have:=hrn;generalize(Hu (GY p)).2.2.2.2.2=z at *;omega) (hF.trans f62) hT
 have h7:(Hu (GY p)).2.2.2.2.2=0:=by simpa using h6
 obtain⟨r1,h22,r3,r4⟩:=Ais h7;rw[B! (by rw[Am,h7];simp),Dj,Aa,Gw,Jg,Et]at hT;rw[B! (by rw[Am,h7];simp),Ag,Dj,Aa,Vk,Bb1,Vv]at hF;simp only at hT hF;by_cases h8:((o==([]:LB)) !=geq (Hu (GY p)).1 1)=true
 ·rw[B6 h8]at hT hF;rw[Aa]at hT hF;rw[Ao,Aa]at hF;simp only at hF;exact mkE F5 (hF.trans f62) hT
 ·rw[B! h8]at hT hF;rw[Aa]at hT hF;rw[Ao,Aa]at hF;have hd:HdI (Hu (GY p)).1 (Hu (GY p)).2.1 (Hu (GY p)).2.2.1 (Hu (GY p)).2.2.2.1 (Hu (GY p)).2.2.2.2.1 (f0 (GY p)) (f1 (GY p)) (f2 (GY p)) (f3 (GY p)) (f4 (GY p)):=by
   constructor<;>first|(rw[r1])|assumption
  refine .next _ _ _ _ _ _ [] 0 [] (by exact hF) hT (.head _ _ _ _ _ hd ?_ rfl rfl rfl) ⟨by rw[D8];omega,B8,B8⟩ L6 ?_
  ·have e:geq (Hu (GY p)).1 1=decide (f0 (GY p)=1):=by rw[hd.ef,Ax,C?];simp;omega
   rw[<-e];simpa using h8
  ·rw[muD,muD,B! hd.fnz,B6 rfl,B6 rfl];omega
section
variable {F C W R N:Nat} (hd:HdI f c w r n F C W R N)
include hd
theorem Aoz(hp:p.length<=100000)(hpw:(o==([]:LB))=decide (F=1))(A:Nat)(hA:A<=p.length)
  (hT:Ah o p f c w r n [] 0 [] u v=(Ff p f c w r n (A:Int)).bind (λ(ag,ak,w1)=>if(Bj w1 0)then some (o,p,f,c,w,r,n,([]:LI),(0:Int),([]:LB),u,v,w1)else(Bo p ag (Ac p)).bind λal=>some (o,al,f,c,w,r,n,ak,(0:Int),([]:LB),u,v,(0:Int))))
  (hF:fZ bk o u v p f c w r n 0 [] []=Ra bk o u v p f c w r n 0 [] [] (A:Int)):StepR bk o p f c w r n [] 0 [] u v:=by
 have hZ:SzD p [] 0 []:=⟨hp,B8,B8⟩;obtain⟨_,t2,t3⟩:=X! hd o p hp A hA 0 [] u v;have hs:=Adm (p.drop A) (Az (Ak R) N).length L6;have hnn:=Aja (p.drop A) (Az (Ak R) N).length;have hok:=Ag1 (b:=p.drop A) (n:=(Az (Ak R) N).length);rw[t2,Aa]at hT;rw[Ra,MH,hd.W9,Aa]at hF;simp only at hF;rw[B! F5,Dj,Aa,D0,Ac,hs,Aa]at hF;generalize hz:Py (p.drop A) (Az (Ak R) N).length=z at*
 obtain⟨z1,z2⟩:=z;simp only at*
 by_cases h1:z2=24
 ·rw[B6 h1]at hT;simp only at hT;rw[B6 F5]at hT;rw[B6 (by rw[Ax];simpa using h1)]at hF;exact mkW hZ hF hT
 rw[B! h1]at hT;rw[B! (by rw[Ax];simpa using h1)]at hF;simp only at hT;by_cases h2:z2≠0
 ·rw[B6 (by rw[Am];simpa using h2)]at hT hF;rw[Ao,Aa]at hF;exact mkE F0 hF hT
 ·have h0:z2=0:=by simpa using h2
  subst h0;have h3:=t3 rfl;obtain⟨k1,k2,k3,k4,k5,k6⟩:=hok rfl;simp only[C7,P8]at k1;have hl:z1.length=(Az (Ak R) N).length:=by rw[k1];exact aE _ _
  rw[<-k1]at k5 k6;rw[B! F5,Dj,Aa]at hT;rw[B! F5,Ac,qP A z1.length F0 F0,Dj,Aa]at hF;have hne:z1≠ []:=by intro e;rw[e]at hl;simp at hl;omega
  refine .next _ _ _ _ _ _ z1 0 [] (by exact hF) hT (.tab _ _ _ _ _ 0 hd hpw ?_ hl rfl F0) ⟨by rw[D8];omega,F0,by simp;omega⟩ L6 ?_
  ·rw[FO,C1,B?,OU z1 100000 F0];exact⟨F0,k5,k6⟩
  ·rw[muD,muD,B! hd.fnz,B! hd.fnz,B6 rfl,B! hne];simp;omega
theorem Aq9(ho:o.length<=64)(hp:p.length<=100000)(hpw:(o==([]:LB))=decide (F=1)):StepR bk o p f c w r n [] 0 [] u v:=by
 have hZ:SzD p [] 0 []:=⟨hp,B8,B8⟩;have hT:Ah o p f c w r n [] 0 [] u v=Ah o p f c w r n [] 0 [] u v:=rfl
 conv at hT=>rhs;rw[Ah,Cb,B! hd.ne0,Cg,Be,B6 F5,Ez,Pa]
 have hF:fZ bk o u v p f c w r n 0 [] []=fZ bk o u v p f c w r n 0 [] []:=rfl
 conv at hF=>rhs;rw[fZ,Jy,B! hd.ne0,B6 F5]
 by_cases h2:geq f 2=true
 ·rw[B6 h2]at hT hF;by_cases h8:p.length<8
  ·rw[B6 F2]at hT hF;rw[Aa]at hT;simp only at hT;rw[B6 F5]at hT;exact mkW hZ hF hT
  ·rw[B! F2]at hT hF;have h8':(p.take 8).length=8:=by rw[C8];omega
   rw[Dt,Aa,W6 o ho,Aa]at hT;rw[BQ,XT,Dt,Aa,show(8:Int).toNat=8 from rfl,Ag6 h8' ho,Aa]at hF;rw[show(8:Int).toNat=8 from rfl]at hT;simp only at hF;rw[Axj,YS,B! F5]at hF;by_cases he:(p.take 8==DZ (MI o).toNat 8)=true
   ·rw[B! (by rw[bne,he];decide)]at hT;rw[B! (by rw[he];decide)]at hF;exact Aoz hd hp hpw 8 F0 hT hF
   ·have he':(p.take 8==DZ (MI o).toNat 8)=false:=by simpa using he
    rw[B6 (by rw[bne,he'];decide),Aa]at hT;simp only at hT;rw[B6 F5]at hT;rw[B6 (by rw[he'];decide),Ao,Aa]at hF;simp only at hF;exact mkE F5 (hF.trans f75) hT
 ·rw[B! h2]at hT hF;exact Aoz hd hp hpw 0 F0 hT hF
theorem Av3(ho:o.length<=64)(hpw:(o==([]:LB))=decide (F=1))(hg:FO g=true)(hl:g.length=(Az (Ak R) N).length)(A:Nat)(hA:A<=g.length)(hZ:SzD p g (A:Int) x):StepR bk o p f c w r n g (A:Int) x u v:=by
 have hp:=hZ.hp;have hx:=hZ.hx;have hc:=hd.ec;subst hc;have hg':=hg;rw[FO,C1,B?,OU g 100000 F0]at hg';obtain⟨⟨g1,g2⟩,g5,g6⟩:=hg';have hgn:¬(geq (Ac g) 0=true):=by rw[Ax,Ac];simp;intro e;subst e;simp at g1
 have hT:Ah o p f (C:Int) w r n g (A:Int) x u v=Ah o p f (C:Int) w r n g (A:Int) x u v:=rfl
 conv at hT=>rhs;rw[Ah,Cb,B! hd.ne0,Cg,Be,B! hgn]
 have hF:fZ bk o u v p f (C:Int) w r n (A:Int) g x=fZ bk o u v p f (C:Int) w r n (A:Int) g x:=rfl
 conv at hF=>rhs;rw[fZ,Jy,B! hd.ne0,B! hgn]
 by_cases hA2:A=g.length
 ·subst hA2;rw[B6 (by rw[Ax,Ac];simp)]at hT;rw[B! WE]at hF;by_cases h4:4000<p.length
  ·rw[B6 D!]at hT hF;rw[Ao,Aa]at hF;exact mkE F5 hF hT
  ·rw[B! D!]at hT hF;exact mkW hZ hF hT
 ·have hlt:A<g.length:=F0
  have h5:=g5 g[A] (G8 hlt);have hsum:=X0 g5 g[A] (G8 hlt);rw[B! (by rw[Ax,Ac];simp;omega),Cw,Kn,Bl hlt,Aa]at hT;rw[B6 F2,Bl hlt,Aa,Aa]at hF;by_cases hw:(p.length:Int)<g[A]
  ·rw[B6 (by rw[Ad,Ac];simpa using hw)]at hT hF;rw[Aa]at hT;simp only at hT;rw[B6 F5]at hT;exact mkW hZ hF hT
  rw[B! (by rw[Ad,Ac];simpa using hw)]at hT hF;have jP:=hd.num;have hlt2:A<(Az (Ak R) N).length:=F0
  obtain⟨m,hm,m1,m2⟩:=XR (Hb R) jP.2.2.2.2.1 (G8 hlt2);have hb:Bq w:=by rw[hd.ew];unfold Bq;omega
  obtain⟨xs,e,d1,d2,d3,d4⟩:=kU (bits:=w) (ch:=C) (n:=m) (t:=Vz o) (p.take g[A].toNat) hb (Vw o) jP.2.1.1 jP.2.1.2 m1 F0;have hnn:=wW hb (Vw o) jP.2.1.1 jP.2.1.2 m1 F0 d2;rw[zX o ho,Aa]at hF;simp only at hF;rw[B! F5,hd.W9,Aa]at hF;simp only at hF;rw[B! (by simp[Am,De,Ac];omega),DD,XS,Bl hlt2,Aa,Dt,Aa,Aa,NT,Aa]at hF;simp only at hF;rw[hm,d1,Aa]at hF;simp only at hF;rw[pI o ho,Aa]at hT;simp only at hT;rw[Dt,Aa,Jl,Aa]at hT;simp only at hT;rw[hd.UW,Aa,Bl hlt2,Aa,Aa,hm]at hT;rw[d2,Aa]at hT;simp only at hT;rw[Kq,Jz]at hT;rw[YH,LW]at hF;by_cases he:e≠0
  ·rw[B6 (by rw[Am];simpa using he)]at hT hF;rw[Aa]at hT;simp only at hT;rw[B6 (by rw[Am];simpa using he)]at hT;rw[Ao,Aa]at hF;exact mkE F0 hF hT
  ·have he0:e=0:=by simpa using he
   obtain⟨k1,k2,k3⟩:=d3 he0;have hbl:=YU w xs;have ht:((A:Int)).toNat=A:=rfl;rw[ht]at hx;rw[B! (by rw[Am,he0];simp)]at hT hF;rw[zO hb k2 k1,Aa,Aa]at hT;simp only at hT;rw[B! F5,Ay F6,Aa,I0,Ay,Aa,Aa,Dj,Aa,Ag]at hT;rw[Bcs hb k2 k1,Aa]at hF;simp only at hF;rw[B! F5,Ay,Aa,Dj,Aa,Ag]at hF;have e1:((A:Int)+1).toNat=A+1:=rfl;refine .next _ _ _ _ _ _ _ _ _ (by exact hF) hT (.tab _ _ _ _ _ (A+1) hd hpw hg hl rfl F0) ⟨by rw[D8];omega,hZ.hg,by rw[e1,B9];omega⟩ L6 ?_
   have hne:g≠ []:=by intro e;subst e;simp at g1
   rw[muD,muD,B! hd.fnz,B! hd.fnz,B! hne,B! hne,e1,ht];omega
end
theorem R2(hf:FitD o f c w r n g a x)(ho:o.length<=64)(hZ:SzD p g a x):StepR bk o p f c w r n g a x u v:=by
 cases hf with
 |new e1 e2 e3 e4 e5 e6 e7 e8=>subst e1 e2 e3 e4 e5 e6 e7 e8;exact Atz hZ.hp
 |head F C W R N h hpw e6 e7 e8=>subst e6 e7 e8;exact Aq9 h ho hZ.hp hpw
 |tab F C W R N A h hpw ht hl ea hA=>subst ea;exact Av3 h ho hpw ht hl A hA hZ
end
theorem dE{p:Prop}(h:p:=by rw[rR (by omega)];decide):p:=h
abbrev ru:=LB×LB×Int×Int×Int×Int×Int×LI×Int×LB×Bool×Int×Int
def Res(X Y:Option ru):Prop:=∃(t1 t2:LB) (t3 t4 t5 t6 t7:Int) (t8:LI) (t9:Int) (t10:LB) (t11:Bool) (t12 e:Int),X=some (t1,t2,t3,t4,t5,t6,t7,t8,t9,t10,t11,t12,e)/\Y=some (t1,t2,t3,t4,t5,t6,t7,t8,t9,t10,t11,t12,e)/\t8.length<=2000
theorem Av7:∀(j:Nat) (b:LB) (a:Nat),(S? j b a).2=0\/ (S? j b a).2=38
 |0,_,_=> .inr rfl
 |j+1,b,a=>by
  rw[S?];split
  ·exact .inl rfl
  ·split
   ·exact .inr rfl
   ·exact Av7 j _ _
theorem Aql(b:LB):(lM b).2=0\/ (lM b).2=38:=by
 rw[lM];split
 ·exact .inr rfl
 ·exact Av7 _ _ _
theorem OB{o p:LB}{f c w r n:Int}{g:LI}{a:Int}{x:LB}{u:Bool}{v:Int}(hp:p.length<=100000)(hg:g.length<=2000)(hx:x.length<=13000000):Ig o p f c w r n g a x u v=some (o,p,f,c,w,r,n,g,a,x,u,v):=by
 rw[Ig,Mu,Ay F6,Aa,Ay F6,Aa,Rp,Yg,Ay F6,Aa];rfl
theorem cu{o p:LB}{f c w r n:Int}{g:LI}{a:Int}{x:LB}{u:Bool}{v:Int}(hp:p.length<=100000)(hg:g.length<=2000)(hx:x.length<=13000000):Ew o p f c w r n g a x u v=some (o,p,f,c,w,r,n,g,a,x,u,v):=by
 rw[Ew,Lg,Ay F6,Aa,Aa,Lg,Ay F6,Aa,Aa,Jm,Ay F6,Aa,Aa];rfl
theorem sC{o p:LB}{f c w r n:Int}{g:LI}{a:Int}{x:LB}{u:Bool}{v e:Int}(hx:x.length<=13000000):Lf o p f c w r n g a x u v e=some (o,[],0,0,0,0,0,[],0,x,false,e,e):=by
 rw[Lf,Ip,Ay F6,Aa];rfl
theorem yC:∀(k q1 q2:Nat) (o p:LB) (f c w r n:Int) (g:LI) (a:Int) (x:LB) (u:Bool) (v:Int),FitD o f c w r n g a x->o.length<=64->SzD p g a x->muD f g a<k->k<=q1->k<=q2->
  Res (Au o u v q1 p f c w r n a g x) (Bc q2 o p f c w r n g a x u v)
 |0,_,_,_,_,_,_,_,_,_,_,_,_,_,_,_,_,_,h,_,_=>by omega
 |k+1,q1,q2,o,p,f,c,w,r,n,g,a,x,u,v,hf,ho,hZ,hm,h1,h2=>by
  obtain⟨q1,rfl⟩:∃q,q1=q+1:=⟨q1-1,F0⟩;obtain⟨q2,rfl⟩:∃q,q2=q+1:=⟨q2-1,F0⟩;have hx:x.length<=13000000:=by have:=hZ.hx;omega
  rw[Au,Bc,Cc];have hS:StepR (Au o u v q1) o p f c w r n g a x u v:=R2 hf ho hZ;cases hS with
  |wait hF hT=>
   rw[hT,Aa];simp only;rw[B6 F5,OB hZ.hp (by have:=hZ.hg;omega) hx,Aa];exact⟨_,_,_,_,_,_,_,_,_,_,_,_,_,hF,rfl,by have:=hZ.hg;omega⟩
  |err e he hF hT=>
   rw[hT,Aa];simp only;rw[B! dE,B6 E?,sC hx,Aa];exact⟨_,_,_,_,_,_,_,_,_,_,_,_,_,hF,rfl,B8⟩
  |next p' f' c' w' r' n' g' a' x' hF hT hf' hZ' hle hmu=>
   rw[hT,Aa];simp only;rw[B! F5,B! F5];have ih:=yC k q1 q2 o p' f' c' w' r' n' g' a' x' u v hf' ho hZ' F0 F0 F0;have hF':Jy (Qw (Au o u v q1) o u v) (Vk (Au o u v q1) o u v) (Nj (Au o u v q1) o u v) (BQ (Au o u v q1) o u v) (Ra (Au o u v q1) o u v) (Qt (Au o u v q1) o u v) (DD (Au o u v q1) o u v) (Cp (Au o u v q1) o u v) (CV (Au o u v q1) o u v) o u v p f c w r n a g x=Au o u v q1 p' f' c' w' r' n' a' g' x':=hF;rw[hF'];exact ih
theorem Asn{o p:LB}{f c w r n:Int}{g:LI}{a:Int}{x:LB}{u:Bool}{v:Int}(hp:p.length<=100000)(hg:g.length<=100000)(hx:x.length<=13000000)(h:Fo o p f c w r n g a x u v=some 0):o.length<=64/\ (v=0->u=false->FitD o f c w r n g a x):=by
 rw[Fo,CK]at h;by_cases ho:64<o.length
 ·rw[B6 D!]at h;cases h
 refine⟨F0,λhv hu=>?_⟩;subst hv hu;rw[B! D!,B6 F5,An9 o p f c w r n g a x false 0 F0 F0 F0,Aa]at h;simp only at h;rcases Ae0 o p f c w r n g a x false 0 with⟨e1,e2⟩|⟨e1,e2,hd⟩
 ·rw[e1,Aa,B! F5,xR]at h;cases h
 ·exact hd
theorem Bce{o p:LB}{f c w r n:Int}{g:LI}{a:Int}{x:LB}(h:FitD o f c w r n g a x)(hp:p.length<=100000)(hx:x.length<=100000):SzD p g a x:=by
 cases h with
 |new e1 e2 e3 e4 e5 e6 e7 e8=>subst e6 e8;exact⟨hp,B8,B8⟩
 |head F C W R N h hpw e6 e7 e8=>subst e6 e8;exact⟨hp,B8,B8⟩
 |tab F C W R N A h hpw ht hl ea hA=>
  rw[FO,C1,B?]at ht;exact⟨hp,ht.1.2,F0⟩
theorem qD{p:LB}{f:Int}{g:LI}{a:Int}{x:LB}(h:SzD p g a x):muD f g a<1004:=by
 have:=h.hg;unfold muD;split
 ·omega
 ·split<;>omega
section
variable {o p:LB} {f c w r n:Int} {g:LI} {a:Int} {x:LB} {u:Bool} {v:Int} (hp:p.length<=20000) (hg:g.length<=2000) (hx:x.length<=13000000)
include hp hg hx
theorem oU{E:Int}(hE:Fo o p f c w r n g a x u v=some E):AI o p f c w r n g a x u v=if E≠0 then some ([],[],0,0,0,0,0,[],0,[],false,0,E)else some (o,p,f,c,w,r,n,g,a,x,u,v,if v≠0 then v else if u=true then 36 else 0):=by
 rw[AI,hE,Aa];by_cases h:E≠0
 ·rw[B6 (by rw[Am];simpa using h),B6 h]
 rw[B! (by rw[Am];simpa using h),B! h,cu F0 hg F0];by_cases hv:v≠0
 ·rw[B6 (by rw[Am];simpa using hv),B6 hv,Aa]
 ·rw[B! (by rw[Am];simpa using hv),B! hv];cases u<;>simp[Aa]
theorem Arw(hx2:x.length<=20000)(b:LB)(hb:b.length<=20000):Res (Ds o p f c w r n g a x u v b) (Dg o p f c w r n g a x u v b):=by
 obtain⟨E,e1,e2⟩:=jK o p f c w r n g a x u v F0 F0 F0;rw[Ds,Xt,oU hp hg hx e1,Dg,Ni,e2,Aa];by_cases h:E≠0
 ·rw[B6 h,Aa,B6 (by rw[Am];simpa using h)];simp only;rw[B6 (by rw[Am];simpa using h)];exact⟨_,_,_,_,_,_,_,_,_,_,_,_,_,rfl,rfl,B8⟩
 have h0:E=0:=by simpa using h
 subst h0;have hE:¬(Bj (0:Int) 0=true):=F5
 rw[B! h,Aa,B! hE,OB F0 hg F0,Aa];simp only;rw[Gz];obtain⟨k1,k2⟩:=Asn F0 F0 F0 e1;by_cases hv:v≠0
 ·have hv':Bj v 0=true:=by rw[Am];simpa using hv
  rw[B6 hv,B6 hv',B6 hv',Aa,B6 hv'];exact⟨_,_,_,_,_,_,_,_,_,_,_,_,_,rfl,rfl,hg⟩
 have hv0:v=0:=by simpa using hv
 have hv':¬(Bj v 0=true):=by rw[Am];simpa using hv
 rw[B! hv,B! hv'];cases u with
 |true=>
  rw[B6 rfl,B6 rfl,Aa,B6 F5,B6 F5];exact⟨_,_,_,_,_,_,_,_,_,_,_,_,_,rfl,rfl,hg⟩
 |false=>
  rw[B! F5,B! F5,Aa,B! F5,Ay,Aa,Aa];have hf:=k2 hv0 rfl;have hl:(p++b).length<=100000:=by rw[B9];omega
  have hZ:=Bce hf hl (by omega:x.length<=100000);exact yC 1004 As As o (p++b) f c w r n g a x false v hf k1 hZ (qD hZ) F7 F7
omit hg hx in
theorem Bci:∃e,JS o p f c w r n g a x u v=some e/\Po o p f c w r n g a x u v=some e:=by
 rw[JS,Po];by_cases h0:geq f 0=true
 ·rw[B6 h0,B6 h0,fK p F0,rO p F0,Aa,Aa];have hok:=eW (b:=p);simp only;by_cases h2:(Eo p).2≠0
  ·rw[B6 (by rw[Am];simpa using h2),B6 (by rw[Am];simpa using h2)];exact⟨_,rfl,rfl⟩
  have h3:(Eo p).2=0:=by simpa using h2
  obtain⟨k1,k2,k3⟩:=hok h3;have hl:(GY p).length<=p.length:=by rw[GY,D8];omega
  rw[B! (by rw[Am,h3];simp),B! (by rw[Am,h3];simp),Dj,Aa,Aa,show p.drop (Eo p).1.toNat=GY p from rfl,ji _ F0,i_ _ F0,Aa];exact⟨_,rfl,rfl⟩
 ·rw[B! h0,B! h0,Bool.or_comm];by_cases h1:(geq (Ac g) 0||Cj a (Ac g))=true
  ·rw[B6 h1,B6 h1];exact⟨_,rfl,rfl⟩
  ·rw[B! h1,B! h1,Ahh p F0,Amk p F0,Aa,Aa];simp only;refine⟨(lM p).2,rfl,?_⟩;rcases Aql p with h|h
   ·rw[B! (by rw[h];decide),h]
   ·rw[B6 (by rw[h];decide),h]
theorem Agd:Res (Fg o p f c w r n g a x u v) (Ht o p f c w r n g a x u v):=by
 obtain⟨E,e1,e2⟩:=jK o p f c w r n g a x u v F0 F0 F0;rw[Fg,oU hp hg hx e1,Ht,e2,Aa];by_cases h:E≠0
 ·rw[B6 h,Aa,B6 (by rw[Am];simpa using h)];simp only;rw[B6 (by rw[Am];simpa using h)];exact⟨_,_,_,_,_,_,_,_,_,_,_,_,_,rfl,rfl,B8⟩
 have h0:E=0:=by simpa using h
 subst h0;have hE:¬(Bj (0:Int) 0=true):=F5
 rw[B! h,Aa,B! hE,OB F0 hg F0,Aa];simp only;rw[Gz];by_cases hv:v≠0
 ·have hv':Bj v 0=true:=by rw[Am];simpa using hv
  rw[B6 hv,B6 hv',B6 hv',Aa,B6 hv'];exact⟨_,_,_,_,_,_,_,_,_,_,_,_,_,rfl,rfl,hg⟩
 have hv':¬(Bj v 0=true):=by rw[Am];simpa using hv
 rw[B! hv,B! hv'];obtain⟨e,d1,d2⟩:=Bci (o:=o) (f:=f) (c:=c) (w:=w) (r:=r) (n:=n) (a:=a) (u:=u) (v:=v) (g:=g) (x:=x) hp;cases u with
 |true=>
  rw[B6 rfl,B6 rfl,Aa,B6 F5,B6 F5];exact⟨_,_,_,_,_,_,_,_,_,_,_,_,_,rfl,rfl,hg⟩
 |false=>
  rw[B! F5,B! F5,Aa,B! F5,d1,d2,Aa,Aa];by_cases he:Bj e 0=true
  ·rw[B6 he,B6 he,sC F0,Aa];exact⟨_,_,_,_,_,_,_,_,_,_,_,_,_,rfl,rfl,B8⟩
  ·rw[B! he,B! he,Ip,Ay F6,Aa];exact⟨_,_,_,_,_,_,_,_,_,_,_,_,_,rfl,rfl,B8⟩
theorem Alm(m:Int):∃(t1 t2:LB) (t3 t4 t5 t6 t7:Int) (t8:LI) (t9:Int) (t10:LB) (t11:Bool) (t12:Int) (s:LB) (e:Int),Ny o p f c w r n g a x u v m=some (t1,t2,t3,t4,t5,t6,t7,t8,t9,t10,t11,t12,s,e)/\
  Jp o p f c w r n g a x u v m=some (t1,t2,t3,t4,t5,t6,t7,t8,t9,t10,t11,t12,s,e)/\t8.length<=2000:=by
 obtain⟨E,e1,e2⟩:=jK o p f c w r n g a x u v F0 F0 F0;rw[Ny,e1,Jp,e2,Aa,Aa];by_cases h:E≠0
 ·rw[B6 (by rw[Am];simpa using h),B6 (by rw[Am];simpa using h)];exact⟨_,_,_,_,_,_,_,_,_,_,_,_,_,_,rfl,rfl,B8⟩
 have hE:¬(Bj E 0=true):=by rw[Am];simpa using h
 rw[B! hE,B! hE];by_cases hm:Cj m 0=true
 ·rw[B6 hm,B6 hm];exact⟨_,_,_,_,_,_,_,_,_,_,_,_,_,_,rfl,rfl,B8⟩
 have hm0:0<=m:=by rw[Ad]at hm;simpa using hm
 rw[B! hm,B! hm,OB F0 hg F0,cu F0 hg F0,Aa,Aa];simp only;have hk:Du m (Ac x)=((min m.toNat x.length:Nat):Int):=by rw[Zp,Ac];omega
 rw[hk,Dt,Aa,Aa,Lg,Ay F6,Aa,Aa,Dj,Aa,Aa];exact⟨_,_,_,_,_,_,_,_,_,_,_,_,_,_,rfl,rfl,hg⟩
end
theorem JB{β:Type}{o:Option α}{f:α->Option β}{r:β}(h:Option.bind o f=some r):∃x,o=some x/\f x=some r:=by
 cases o with
 |none=>cases h
 |some x=>exact⟨x,rfl,h⟩
theorem Awn{l:List α}{i:Int}{x:α}(h:Go.Lv.Aj l i=some x):x∈l:=by
 unfold Go.Lv.Aj at h;split at h
 ·exact List.mem_of_getElem? h
 ·cases h
theorem Acb {o p:LB}(q:LB){f c w r n:Int}{g:LI}{a:Int}{x:LB}{u:Bool}{v:Int}{y:LB}{e:Int}(hg:∀z∈g,0<=z)(h:Cw o p f c w r n g a x u v=some (y,e))(he:e≠ -1):Cw o (p++q) f c w r n g a x u v=some (y,e):=by
 rw[Cw,Kn]at h⊢;obtain⟨l,hl,h⟩:=JB h;have hl0:=hg l (Awn hl);rw[hl,Aa];by_cases hc:(p.length:Int)<l
 ·rw[B6 (by rw[Ad,Ac];simpa using hc)]at h;cases h;exact absurd rfl he
 ·have hc':¬(Cj (Ac (p++q)) l=true):=by rw[Ad,Ac,B9];simp;omega
  rw[B! (by rw[Ad,Ac];simpa using hc)]at h;rw[B! hc',Dt hl0 N0,Uc F0];rw[Dt hl0]at h;simpa only[Kq,Jz]using h
theorem Ajz{f c w r n:Int}{F C W R N:Nat}(hd:HdI f c w r n F C W R N){p:LB}(q:LB)(hp:(p++q).length<=100000){A:Nat}(hA:A<=p.length){k:Int}{l:LI}{e:Int}(h:Ff p f c w r n (A:Int)=some (k,l,e))(he:e≠ -1):
  Ff (p++q) f c w r n (A:Int)=some (k,l,e)/\ (e=0->0<=k/\k<=p.length):=by
 have hp':p.length<=100000:=by rw[B9]at hp;omega
 obtain⟨_,t2,t3⟩:=X! hd [] p hp' A hA 0 [] false 0;obtain⟨_,s2,_⟩:=X! hd [] (p++q) hp A N0 0 [] false 0;rw[t2]at h;rw[s2,Q? hA];by_cases h1:(Py (p.drop A) (Az (Ak R) N).length).2=24
 ·rw[B6 h1]at h;cases h;exact absurd rfl he
 ·rw[B! h1]at h;rw[Arf q _ h1,B! h1];refine⟨h,λe0=>?_⟩;cases h;have:=t3 e0;constructor
  ·omega
  ·exact this
theorem Aa1 {f c w r n:Int}{F C W R N:Nat}(hd:HdI f c w r n F C W R N){o p:LB}(q:LB)(hp:(p++q).length<=100000){k:Int}{l:LI}{e:Int}(h:Ez p f c w r n o=some (k,l,e))(he:e≠ -1):
  Ez (p++q) f c w r n o=some (k,l,e)/\ (e=0->0<=k/\k<=p.length):=by
 rw[Ez,Pa]at h⊢;by_cases hf:geq f 2=true
 ·rw[B6 hf]at h⊢;by_cases h8:p.length<8
  ·rw[B6 F2]at h;cases h;exact absurd rfl he
  ·have n1:¬(Cj (Ac p) 8=true):=by rw[Ad,Ac];simp;omega
   have n2:¬(Cj (Ac (p++q)) 8=true):=by rw[Ad,Ac,B9];simp;omega
   rw[B! n1,Dt F5,Aa]at h;rw[B! n2,Dt F5 N0,Aa,Uc (show(8:Int).toNat<=p.length from by simp;omega)];obtain⟨y,hy,h⟩:=JB h;rw[hy,Aa];by_cases hm:(p.take (8:Int).toNat !=y)=true
   ·rw[B6 hm]at h⊢;cases h;exact⟨rfl,λe=>by cases e⟩
   ·rw[B! hm]at h⊢;exact Ajz hd q hp (A:=8) F0 h he
 ·rw[B! hf]at h⊢;exact Ajz hd q hp (A:=0) F0 h he
theorem rH{p q af:LB}{n:Int}(h:Bo p n (Ac p)=some af):Bo (p++q) n (Ac (p++q))=some (af++q):=by
 unfold Bo Ac at h⊢;split at h
 ·rename_i hc;cases h;rw[B6 ⟨hc.1,by rw[B9];omega,F0⟩];simp only[D0,QY];rw[Q? F0]
 ·cases h
theorem xB{o p:LB}(q:LB){f c w r n:Int}{g:LI}{a:Int}{x:LB}{u:Bool}{v:Int}(hf:FitD o f c w r n g a x)(hp:(p++q).length<=100000){t1 t2:LB}{t3 t4 t5 t6 t7:Int}{t8:LI}{t9:Int}{t10:LB}{t11:Bool}{t12 e:Int}
  (h:Ah o p f c w r n g a x u v=some (t1,t2,t3,t4,t5,t6,t7,t8,t9,t10,t11,t12,e)) (he:e≠ -1):
  (e=0->Ah o (p++q) f c w r n g a x u v=some (t1,t2++q,t3,t4,t5,t6,t7,t8,t9,t10,t11,t12,0))/\
  (e≠0->∃(s1 s2:LB) (s3 s4 s5 s6 s7:Int) (s8:LI) (s9:Int) (s10:LB) (s11:Bool) (s12:Int),Ah o (p++q) f c w r n g a x u v=some (s1,s2,s3,s4,s5,s6,s7,s8,s9,s10,s11,s12,e)):=by
 have hp':p.length<=100000:=by rw[B9]at hp;omega
 have zero:¬(Bj (0:Int) 0=true):=F5
 rw[Ah,Cb]at h⊢;cases hf with
 |new e1 e2 e3 e4 e5 e6 e7 e8=>
  subst e1;rw[B6 F5,PK p hp',Aa]at h;rw[B6 F5,PK (p++q) hp,Aa];have hst:(stS p).2.2.2.2.2.2≠ -1->stS (p++q)=stS p:=Axr q;generalize stS p=z at h hst;obtain⟨z1,z2,z3,z4,z5,z6,z7⟩:=z;simp only at h hst;by_cases hz:Bj z7 0=true
  ·rw[B6 hz]at h;simp only[C4,C7]at h;obtain⟨-, -, -, -, -, -, -, -, -, -, -, -,rfl⟩:=h;rw[hst he];simp only;rw[B6 hz];refine⟨λe0=>?_,λ_=>⟨_,_,_,_,_,_,_,_,_,_,_,_,rfl⟩⟩;rw[e0]at hz;exact absurd hz zero
  ·rw[B! hz]at h;have z70:z7=0:=by rw[Am]at hz;simpa using hz
   rw[hst (by rw[z70];decide)];simp only;rw[B! hz];obtain⟨af,h1,h⟩:=JB h;rw[rH h1,Aa];rw[Gw,Jg]at h⊢;obtain⟨aw,h2,h⟩:=JB h;rw[h2,Aa];simp only[C4,C7]at h;obtain⟨rfl,rfl,rfl,rfl,rfl,rfl,rfl,rfl,rfl,rfl,rfl,rfl,rfl⟩:=h;exact⟨λe0=>by rw[e0],λ_=>⟨_,_,_,_,_,_,_,_,_,_,_,_,rfl⟩⟩
 |head F C W R N hd hpw e6 e7 e8=>
  subst e6;have hfn:¬(geq f 0=true):=by rw[Ax];simpa using hd.fnz
  rw[B! hfn,Cg,Be,B6 F5]at h⊢;obtain⟨⟨k,l,e1⟩,h1,h⟩:=JB h;simp only at h;by_cases hz:Bj e1 0=true
  ·rw[B6 hz]at h;simp only[C4,C7]at h;obtain⟨-, -, -, -, -, -, -, -, -, -, -, -,rfl⟩:=h;rw[(Aa1 hd q hp h1 he).1,Aa];simp only;rw[B6 hz];refine⟨λe0=>?_,λ_=>⟨_,_,_,_,_,_,_,_,_,_,_,_,rfl⟩⟩;rw[e0]at hz;exact absurd hz zero
  ·rw[B! hz]at h;have z70:e1=0:=by rw[Am]at hz;simpa using hz
   rw[(Aa1 hd q hp h1 (by rw[z70];decide)).1,Aa];simp only;rw[B! hz];obtain⟨af,h2,h⟩:=JB h;rw[rH h2,Aa];simp only[C4,C7]at h;obtain⟨rfl,rfl,rfl,rfl,rfl,rfl,rfl,rfl,rfl,rfl,rfl,rfl,rfl⟩:=h;exact⟨λe0=>rfl,λe0=>absurd rfl e0⟩
 |tab F C W R N A hd hpw ht hl ea hA=>
  have hfn:¬(geq f 0=true):=by rw[Ax];simpa using hd.fnz
  have ht':=ht;rw[FO,C1,B?]at ht';have hgl:¬(geq (Ac g) 0=true):=by
   intro e;rw[Ax,Ac]at e;have hl1:=ht'.1.1;simp only[E3,B?]at e;omega
  rw[B! hfn,Cg,Be,B! hgl]at h⊢;by_cases hend:geq a (Ac g)=true
  ·rw[B6 hend]at h⊢;by_cases hm:Ec (Ac p) 4000=true
   ·have hm':Ec (Ac (p++q)) 4000=true:=by rw[Ar,Ac]at hm⊢;simp only[B?]at hm⊢;rw[B9];omega
    rw[B6 hm]at h;rw[B6 hm'];simp only[C4,C7]at h;obtain⟨-, -, -, -, -, -, -, -, -, -, -, -,rfl⟩:=h;exact⟨(λe0=>by cases e0),λ_=>⟨_,_,_,_,_,_,_,_,_,_,_,_,rfl⟩⟩
   ·rw[B! hm]at h;simp only[C4,C7]at h;obtain⟨-, -, -, -, -, -, -, -, -, -, -, -,rfl⟩:=h;exact absurd rfl he
  ·rw[B! hend]at h⊢;have hpos:∀z∈g,0<=z:=by
    have:=(OU g 100000 F0).1 ht'.2;intro z hz;have:=this.1 z hz;omega
   obtain⟨⟨y,e1⟩,h1,h⟩:=JB h;simp only at h;by_cases hz:Bj e1 0=true
   ·rw[B6 hz]at h;simp only[C4,C7]at h;obtain⟨-, -, -, -, -, -, -, -, -, -, -, -,rfl⟩:=h;rw[Acb q hpos h1 he,Aa];simp only;rw[B6 hz];refine⟨λe0=>?_,λ_=>⟨_,_,_,_,_,_,_,_,_,_,_,_,rfl⟩⟩;rw[e0]at hz;exact absurd hz zero
   ·rw[B! hz]at h;have z70:e1=0:=by rw[Am]at hz;simpa using hz
    rw[Acb q hpos h1 (by rw[z70];decide),Aa];simp only;rw[B! hz];obtain⟨an,h2,h⟩:=JB h;rw[h2,Aa];obtain⟨ah,h3,h⟩:=JB h;rw[h3,Aa];obtain⟨ad,h4,h⟩:=JB h;rw[h4,Aa];obtain⟨ae,h5,h⟩:=JB h;rw[rH h5,Aa];simp only[C4,C7]at h;obtain⟨rfl,rfl,rfl,rfl,rfl,rfl,rfl,rfl,rfl,rfl,rfl,rfl,rfl⟩:=h;exact⟨λe0=>rfl,λe0=>absurd rfl e0⟩
def Bfb(o:LB)(K:Nat)(u:Bool)(v:Int)(X Y:Option ru):Prop:=∃(t1 t2:LB) (t3 t4 t5 t6 t7:Int) (t8:LI) (t9:Int) (t10:LB) (t11:Bool) (t12 e:Int),X=some (t1,t2,t3,t4,t5,t6,t7,t8,t9,t10,t11,t12,e)/\Y=some (t1,t2,t3,t4,t5,t6,t7,t8,t9,t10,t11,t12,e)/\t10.length<=13000000/\
 (e=0->t1=o/\t2.length<=K/\FitD o t3 t4 t5 t6 t7 t8 t9 t10/\SzD t2 t8 t9 t10/\t11=u/\t12=v)
theorem Aal (K:Nat):∀(k q1 q2:Nat) (o p:LB) (f c w r n:Int) (g:LI) (a:Int) (x:LB) (u:Bool) (v:Int),FitD o f c w r n g a x->o.length<=64->SzD p g a x->p.length<=K->muD f g a<k->k<=q1->k<=q2->
  Bfb o K u v (Au o u v q1 p f c w r n a g x) (Bc q2 o p f c w r n g a x u v)
 |0,_,_,_,_,_,_,_,_,_,_,_,_,_,_,_,_,_,_,h,_,_=>by omega
 |k+1,q1,q2,o,p,f,c,w,r,n,g,a,x,u,v,hf,ho,hZ,hK,hm,h1,h2=>by
  obtain⟨q1,rfl⟩:∃q,q1=q+1:=⟨q1-1,F0⟩;obtain⟨q2,rfl⟩:∃q,q2=q+1:=⟨q2-1,F0⟩;have hx:x.length<=13000000:=by have:=hZ.hx;omega
  rw[Au,Bc,Cc];have hS:StepR (Au o u v q1) o p f c w r n g a x u v:=R2 hf ho hZ;cases hS with
  |wait hF hT=>
   rw[hT,Aa];simp only;rw[B6 F5,OB hZ.hp (by have:=hZ.hg;omega) hx,Aa];exact⟨_,_,_,_,_,_,_,_,_,_,_,_,_,hF,rfl,hx,λ_=>⟨rfl,hK,hf,hZ,rfl,rfl⟩⟩
  |err e he hF hT=>
   rw[hT,Aa];simp only;rw[B! dE,B6 E?,sC hx,Aa];exact⟨_,_,_,_,_,_,_,_,_,_,_,_,_,hF,rfl,hx,λh=>absurd h F0⟩
  |next p' f' c' w' r' n' g' a' x' hF hT hf' hZ' hle hmu=>
   rw[hT,Aa];simp only;rw[B! F5,B! F5];have ih:=Aal K k q1 q2 o p' f' c' w' r' n' g' a' x' u v hf' ho hZ' F0 F0 F0 F0;have hF':Jy (Qw (Au o u v q1) o u v) (Vk (Au o u v q1) o u v) (Nj (Au o u v q1) o u v) (BQ (Au o u v q1) o u v) (Ra (Au o u v q1) o u v) (Qt (Au o u v q1) o u v) (DD (Au o u v q1) o u v) (Cp (Au o u v q1) o u v) (CV (Au o u v q1) o u v) o u v p f c w r n a g x=Au o u v q1 p' f' c' w' r' n' a' g' x':=hF;rw[hF'];exact ih
theorem Be9{o p:LB}{f c w r n:Int}{g:LI}{a:Int}{x:LB}(ho:o.length<=64)(hf:FitD o f c w r n g a x)(hZ:SzD p g a x)(b:LB)(hp:p.length<=20000)(hb:b.length<=20000):
  Bfb o (p.length+b.length) false 0 (Ds o p f c w r n g a x false 0 b) (Dg o p f c w r n g a x false 0 b):=by
 have hx:x.length<=13000000:=by have:=hZ.hx;omega
 have hg:g.length<=2000:=by have:=hZ.hg;omega
 obtain⟨E,e1,e2⟩:=jK o p f c w r n g a x false 0 F0 F0 F0;rw[Ds,Xt,oU hp hg hx e1,Dg,Ni,e2,Aa];by_cases h:E≠0
 ·rw[B6 h,Aa,B6 (by rw[Am];simpa using h)];simp only;rw[B6 (by rw[Am];simpa using h)];exact⟨_,_,_,_,_,_,_,_,_,_,_,_,_,rfl,rfl,B8,λh'=>absurd h' h⟩
 have h0:E=0:=by simpa using h
 subst h0;have hE:¬(Bj (0:Int) 0=true):=F5
 rw[B! h,Aa,B! hE,OB F0 hg F0,Aa];simp only;have hF:¬(false=true):=F5
 rw[Gz,B! (show ¬((0:Int)≠0)from λh=>h rfl),B! hF]
 repeat (first|rw[Aa]|rw[B! hE]|rw[B! hF])
 rw[Ay];rw[Aa,Aa];have hZ':SzD (p++b) g a x:=⟨by rw[B9];omega,hZ.hg,hZ.hx⟩;exact Aal _ 1004 As As o (p++b) f c w r n g a x false 0 hf ho hZ' (by rw[B9];exact D3 _) (qD hZ') F7 F7
def OutB(f c w r n:Int)(g:LI)(a:Int)(x:LB):Prop:=∀(F C W R N A:Nat),HdI f c w r n F C W R N->g≠ []->a=(A:Int)-> (x.length:Int)<=RT C W (Az (Ak R) N) A
theorem OutB.nil{f c w r n:Int}{a:Int}{x:LB}:OutB f c w r n [] a x:=λ_ _ _ _ _ _ _ h=>absurd rfl h
theorem OutB.zero{f c w r n:Int}{g:LI}:OutB f c w r n g 0 []:=λF C W R N A h hg ha=>by
 obtain rfl:A=0:=F0
 rw[Alj];simp
theorem Aml{o p:LB}{f c w r n:Int}{F C W R N:Nat}(hd:HdI f c w r n F C W R N)(ho:o.length<=64)(hp:p.length<=100000){g:LI}(ht:FO g=true)(hl:g.length=(Az (Ak R) N).length){A:Nat}(hA:A<g.length){x:LB}{u:Bool}{v:Int}{y:LB}{e:Int}
  (h:Cw o p f c w r n g (A:Int) x u v=some (y,e)) (he:e=0):∃m:Nat,(Az (Ak R) N)[A]' F0=(m:Int)/\y.length=m*C*wB (W:Int):=by
 subst he;have hlt2:A<(Az (Ak R) N).length:=F0
 have jP:=hd.num;rw[FO,C1,B?,OU g 100000 F0]at ht;obtain⟨ht1,g5,gs⟩:=ht;have h5:=g5 g[A] (G8 hA);rw[Cw,Kn,Bl hA,Aa]at h;by_cases hw:(p.length:Int)<g[A]
 ·rw[B6 (by rw[Ad,Ac];simpa using hw)]at h;cases h
 rw[B! (by rw[Ad,Ac];simpa using hw)]at h;obtain⟨m,hm,m1,m2⟩:=XR (Hb R) jP.2.2.2.2.1 (G8 hlt2);have hb:Bq w:=by rw[hd.ew];unfold Bq;omega
 obtain⟨xs,e,d1,d2,d3,d4⟩:=kU (bits:=w) (ch:=C) (n:=m) (t:=Vz o) (p.take g[A].toNat) hb (Vw o) jP.2.1.1 jP.2.1.2 m1 F0;rw[pI o ho,Aa]at h;simp only at h;rw[Dt,Aa,Jl,Aa]at h;simp only at h;rw[hd.UW,Aa,Bl hlt2,Aa,Aa,hm,hd.ec]at h;rw[d2,Aa]at h;simp only at h;rw[Kq,Jz]at h;by_cases he:e≠0
 ·rw[B6 (by rw[Am];simpa using he)]at h;cases h;exact absurd rfl he
 ·have he0:e=0:=by simpa using he
  obtain⟨k1,k2,k3⟩:=d3 he0;rw[B! (by rw[Am,he0];simp),zO hb k2 k1,Aa]at h;cases h;refine⟨m,hm,?_⟩;rw[vY hb,k3,hd.ew]
theorem Avs{o p:LB}{f c w r n:Int}{g:LI}{a:Int}{x:LB}{u:Bool}{v:Int}(hf:FitD o f c w r n g a x)(ho:o.length<=64)(hZ:SzD p g a x)(hO:OutB f c w r n g a x){t1 t2:LB}{t3 t4 t5 t6 t7:Int}{t8:LI}{t9:Int}{t10:LB}{t11:Bool}{t12:Int}
  (h:Ah o p f c w r n g a x u v=some (t1,t2,t3,t4,t5,t6,t7,t8,t9,t10,t11,t12,0)):OutB t3 t4 t5 t6 t7 t8 t9 t10:=by
 have hp':=hZ.hp;have zero:¬(Bj (0:Int) 0=true):=F5
 rw[Ah,Cb]at h;cases hf with
 |new e1 e2 e3 e4 e5 e6 e7 e8=>
  subst e1 e6 e7 e8;rw[B6 F5,PK p hp',Aa]at h;generalize stS p=z at h;obtain⟨z1,z2,z3,z4,z5,z6,z7⟩:=z;simp only at h;by_cases hz:Bj z7 0=true
  ·rw[B6 hz]at h;simp only[C4,C7]at h;obtain⟨-, -, -, -, -, -, -,rfl, -⟩:=h;exact OutB.nil
  ·rw[B! hz]at h;obtain⟨af,h1,h⟩:=JB h;rw[Gw,Jg]at h;obtain⟨aw,h2,h⟩:=JB h;simp only[C4,C7]at h;obtain⟨-, -, -, -, -, -, -,rfl, -⟩:=h;exact OutB.nil
 |head F C W R N hd hpw e6 e7 e8=>
  subst e6 e7 e8;have hfn:¬(geq f 0=true):=by rw[Ax];simpa using hd.fnz
  rw[B! hfn,Cg,Be,B6 F5]at h;obtain⟨⟨k,l,e1⟩,h1,h⟩:=JB h;simp only at h;by_cases hz:Bj e1 0=true
  ·rw[B6 hz]at h;simp only[C4,C7]at h;obtain⟨-, -, -, -, -, -, -,rfl, -⟩:=h;exact OutB.nil
  ·rw[B! hz]at h;obtain⟨af,h2,h⟩:=JB h;simp only[C4,C7]at h;obtain⟨-, -, -, -, -, -, -, -,rfl,rfl, -⟩:=h;exact OutB.zero
 |tab F C W R N A hd hpw ht hl ea hA=>
  subst ea;have hfn:¬(geq f 0=true):=by rw[Ax];simpa using hd.fnz
  have ht':=ht;rw[FO,C1,B?]at ht';have hgl:¬(geq (Ac g) 0=true):=by
   intro e;rw[Ax,Ac]at e;have hl1:=ht'.1.1;simp only[E3,B?]at e;omega
  have hne:g≠ []:=by intro e;subst e;simp at ht'
  rw[B! hfn,Cg,Be,B! hgl]at h;by_cases hend:geq (A:Int) (Ac g)=true
  ·rw[B6 hend]at h;by_cases hm:Ec (Ac p) 4000=true
   ·rw[B6 hm]at h;simp only[C4,C7]at h;exact absurd h.2.2.2.2.2.2.2.2.2.2.2.2 F5
   ·rw[B! hm]at h;simp only[C4,C7]at h;exact absurd h.2.2.2.2.2.2.2.2.2.2.2.2 F5
  ·rw[B! hend]at h;have hlt:A<g.length:=by
    rw[Ax,Ac]at hend;simp only[E3]at hend;omega
   obtain⟨⟨y,e1⟩,h1,h⟩:=JB h;simp only at h;by_cases hz:Bj e1 0=true
   ·rw[B6 hz]at h;simp only[C4,C7]at h;have:=h.2.2.2.2.2.2.2.2.2.2.2.2;rw[this]at hz;exact absurd hz zero
   ·rw[B! hz]at h;have z70:e1=0:=by rw[Am]at hz;simpa using hz
    obtain⟨m,hm,hy⟩:=Aml hd ho hp' ht hl hlt h1 z70;obtain⟨an,h2,h⟩:=JB h;obtain⟨ah,h3,h⟩:=JB h;obtain⟨ad,h4,h⟩:=JB h;obtain⟨ae,h5,h⟩:=JB h;simp only[C4,C7]at h;obtain⟨-, -,rfl,rfl,rfl,rfl,rfl,rfl,rfl,rfl, -⟩:=h;intro F' C' W' R' N' A' hd' _ ha';have eqs:C'=C/\W'=W/\R'=R/\N'=N:=by
     have q1:=hd.ec.symm.trans hd'.ec;have q2:=hd.ew.symm.trans hd'.ew;have q3:=hd.er.symm.trans hd'.er;have q4:=hd.en.symm.trans hd'.en;omega
    obtain⟨rfl,rfl,rfl,rfl⟩:=eqs;have hold:=hO F C' W' R' N' A hd hne rfl;have e2:Af (A:Int) 1=((A+1:Nat):Int):=by rw[Ag];omega
    rw[e2]at ha';obtain rfl:A'=A+1:=F0
    have hah:ah.length=x.length+y.length:=by
     unfold Bt at h2 h3;split at h2
     ·cases h2;split at h3
      ·cases h3;simp
      ·cases h3
     ·cases h2
    have hpos:∀z∈Az (Ak R') N',0<=z:=by
     intro z hz;obtain⟨m,hm,m1,m2⟩:=XR (Hb R') hd.num.2.2.2.2.1 hz;omega
    rw[Alg C' W' hpos F0 hm,hah,hy];omega
theorem J7{o p:LB}{f c w r n:Int}{g:LI}{a:Int}{x:LB}(hf:FitD o f c w r n g a x)(ho:o.length<=64)(hO:OutB f c w r n g a x){t1 t2:LB}{t3 t4 t5 t6 t7:Int}{t8:LI}{t9:Int}{t10:LB}{t11:Bool}{t12:Int}
  (h:Ah o p f c w r n g a x false 0=some (t1,t2,t3,t4,t5,t6,t7,t8,t9,t10,t11,t12, -1)):Cu o p f c w r n g a x false 0=some 0:=by
 have h4:Dd o p f c w r n g a x false 0=some true:=by
  rw[Dd,HQ,h,Aa];rfl
 have hr:Mq o p f c w r n g a x false 0=some true:=by
  rw[Mq,HC];cases hf with
  |new e1 e2 e3 e4 e5 e6 e7 e8=>
   subst e1 e2 e3 e4 e5 e6 e7 e8;rw[B6 F5,B! F5];exact h4
  |head F C W R N hd hpw e6 e7 e8=>
   subst e6 e7 e8;have hz:¬(((geq f 0)&&((geq c 0)&&((geq w 0)&&((geq r 0)&&((geq n 0)&&true)))))=true):=by
    simp only[C1,Ax,E3,P8];exact λe=>hd.fnz e.1
   have hff:geq f 1=decide (F=1):=by rw[hd.ef,Ax,C?];simp;omega
   rw[B! hz,hd.check,Aa,B! F5,Et,hff,hpw,B! B8,Aa,B! F5,Wq,Wm,B6 F5,B! F5];exact h4
  |tab F C W R N A hd hpw ht hl ea hA=>
   subst ea;have hz:¬(((geq f 0)&&((geq c 0)&&((geq w 0)&&((geq r 0)&&((geq n 0)&&true)))))=true):=by
    simp only[C1,Ax,E3,P8];exact λe=>hd.fnz e.1
   have hff:geq f 1=decide (F=1):=by rw[hd.ef,Ax,C?];simp;omega
   have ht':=ht;rw[FO,C1,B?]at ht';have hgl:¬(geq (Ac g) 0=true):=by
    intro e;rw[Ax,Ac]at e;have hl1:=ht'.1.1;simp only[E3,B?]at e;omega
   have hne:g≠ []:=by intro e;subst e;simp at ht'
   have hout:=hO F C W R N A hd hne rfl;rw[B! hz,hd.check,Aa,B! F5,Et,hff,hpw,B! B8,Aa,B! F5,Wq,Wm,B! hgl,mQ,Aa,B6 ht,B! F5,hd.UW,Aa];rw[B! dF];obtain⟨rfl,rfl,rfl,rfl,rfl,hs,hfit⟩:=hd;rw[Agc hs hfit A F0,Aa,B! D!];exact h4
 have hO':¬(Ec (Ac o) 64=true):=by rw[Ar,Ac];simp;omega
 rw[Cu,B! hO',B6 F5,hr,Aa];rfl
theorem Aqt{o p:LB}{f c w r n:Int}{F C W R N:Nat}(hd:HdI f c w r n F C W R N)(ho:o.length<=64)(hp:p.length<=100000){g:LI}(ht:FO g=true)(hl:g.length=(Az (Ak R) N).length){A:Nat}(hA:A<g.length){x:LB}{u:Bool}{v:Int}{y:LB}{e:Int}
  (h:Cw o p f c w r n g (A:Int) x u v=some (y,e)) (he:e≠ -1):Cd e:=by
 have hlt2:A<(Az (Ak R) N).length:=F0
 have jP:=hd.num;rw[FO,C1,B?,OU g 100000 F0]at ht;obtain⟨ht1,g5,gs⟩:=ht;have h5:=g5 g[A] (G8 hA);rw[Cw,Kn,Bl hA,Aa]at h;by_cases hw:(p.length:Int)<g[A]
 ·rw[B6 (by rw[Ad,Ac];simpa using hw)]at h;cases h;exact absurd rfl he
 rw[B! (by rw[Ad,Ac];simpa using hw)]at h;obtain⟨m,hm,m1,m2⟩:=XR (Hb R) jP.2.2.2.2.1 (G8 hlt2);have hb:Bq w:=by rw[hd.ew];unfold Bq;omega
 obtain⟨xs,e',d1,d2,d3,d4⟩:=kU (bits:=w) (ch:=C) (n:=m) (t:=Vz o) (p.take g[A].toNat) hb (Vw o) jP.2.1.1 jP.2.1.2 m1 F0;have hcd:=yK hb (Vw o) jP.2.1.1 jP.2.1.2 m1 F0 d2;rw[pI o ho,Aa]at h;simp only at h;rw[Dt,Aa,Jl,Aa]at h;simp only at h;rw[hd.UW,Aa,Bl hlt2,Aa,Aa,hm,hd.ec]at h;rw[d2,Aa]at h;simp only at h;rw[Kq,Jz]at h;by_cases he:e'≠0
 ·rw[B6 (by rw[Am];simpa using he)]at h;cases h;exact hcd
 ·have he0:e'=0:=by simpa using he
  obtain⟨k1,k2,k3⟩:=d3 he0;rw[B! (by rw[Am,he0];simp),zO hb k2 k1,Aa]at h;cases h;exact .inl rfl
theorem Ank{f c w r n:Int}{F C W R N:Nat}(hd:HdI f c w r n F C W R N){p:LB}(hp:p.length<=100000){A:Nat}(hA:A<=p.length){k:Int}{l:LI}{e:Int}(h:Ff p f c w r n (A:Int)=some (k,l,e))(he:e≠ -1):Cd e:=by
 obtain⟨_,t2,t3⟩:=X! hd [] p hp A hA 0 [] false 0;rw[t2]at h;by_cases h1:(Py (p.drop A) (Az (Ak R) N).length).2=24
 ·rw[B6 h1]at h;cases h;exact absurd rfl he
 ·rw[B! h1]at h;cases h;exact Awl _ (y! hd.fit)
theorem Aps{f c w r n:Int}{F C W R N:Nat}(hd:HdI f c w r n F C W R N){o p:LB}(hp:p.length<=100000){k:Int}{l:LI}{e:Int}(h:Ez p f c w r n o=some (k,l,e))(he:e≠ -1):Cd e:=by
 rw[Ez,Pa]at h;by_cases hf:geq f 2=true
 ·rw[B6 hf]at h;by_cases h8:p.length<8
  ·rw[B6 F2]at h;cases h;exact absurd rfl he
  ·have n1:¬(Cj (Ac p) 8=true):=by rw[Ad,Ac];simp;omega
   rw[B! n1]at h;obtain⟨z,hz,h⟩:=JB h;obtain⟨y,hy,h⟩:=JB h;by_cases hm:(z !=y)=true
   ·rw[B6 hm]at h;cases h;decide
   ·rw[B! hm]at h;exact Ank hd hp (A:=8) F0 h he
 ·rw[B! hf]at h;exact Ank hd hp (A:=0) F0 h he
theorem Bbs(p:LB):(stS p).2.2.2.2.2.2= -1\/Cd (stS p).2.2.2.2.2.2:=by
 unfold stS
 repeat' split
 ·exact .inl rfl
 ·exact .inr (Y7 p)
 ·exact .inl rfl
 ·exact .inl rfl
 ·exact .inr (m? _)
theorem Azh{o p:LB}{f c w r n:Int}{g:LI}{a:Int}{x:LB}{u:Bool}{v:Int}(hf:FitD o f c w r n g a x)(ho:o.length<=64)(hp':p.length<=100000){t1 t2:LB}{t3 t4 t5 t6 t7:Int}{t8:LI}{t9:Int}{t10:LB}{t11:Bool}{t12 e:Int}
  (h:Ah o p f c w r n g a x u v=some (t1,t2,t3,t4,t5,t6,t7,t8,t9,t10,t11,t12,e)) (he:e≠ -1):Cd e:=by
 have zero:¬(Bj (0:Int) 0=true):=F5
 rw[Ah,Cb]at h;cases hf with
 |new e1 e2 e3 e4 e5 e6 e7 e8=>
  subst e1 e6 e7 e8;rw[B6 F5,PK p hp',Aa]at h;have hcd:=Bbs p;generalize stS p=z at h hcd;obtain⟨z1,z2,z3,z4,z5,z6,z7⟩:=z;simp only at h hcd;by_cases hz:Bj z7 0=true
  ·rw[B6 hz]at h;simp only[C4,C7]at h;obtain⟨-, -, -, -, -, -, -, -, -, -, -, -,rfl⟩:=h;exact hcd.resolve_left he
  ·rw[B! hz]at h;obtain⟨af,h1,h⟩:=JB h;rw[Gw,Jg,Et]at h;obtain⟨aw,h2,h⟩:=JB h;simp only[C4,C7]at h;obtain⟨-, -, -, -, -, -, -, -, -, -, -, -,rfl⟩:=h;split at h2
   ·cases h2;decide
   ·cases h2;decide
 |head F C W R N hd hpw e6 e7 e8=>
  subst e6 e7 e8;have hfn:¬(geq f 0=true):=by rw[Ax];simpa using hd.fnz
  rw[B! hfn,Cg,Be,B6 F5]at h;obtain⟨⟨k,l,e1⟩,h1,h⟩:=JB h;simp only at h;by_cases hz:Bj e1 0=true
  ·rw[B6 hz]at h;simp only[C4,C7]at h;obtain⟨-, -, -, -, -, -, -, -, -, -, -, -,rfl⟩:=h;exact Aps hd hp' h1 he
  ·rw[B! hz]at h;obtain⟨af,h2,h⟩:=JB h;simp only[C4,C7]at h;obtain⟨-, -, -, -, -, -, -, -, -, -, -, -,rfl⟩:=h;exact .inl rfl
 |tab F C W R N A hd hpw ht hl ea hA=>
  subst ea;have hfn:¬(geq f 0=true):=by rw[Ax];simpa using hd.fnz
  have ht':=ht;rw[FO,C1,B?]at ht';have hgl:¬(geq (Ac g) 0=true):=by
   intro e;rw[Ax,Ac]at e;have hl1:=ht'.1.1;simp only[E3,B?]at e;omega
  rw[B! hfn,Cg,Be,B! hgl]at h;by_cases hend:geq (A:Int) (Ac g)=true
  ·rw[B6 hend]at h;by_cases hm:Ec (Ac p) 4000=true
   ·rw[B6 hm]at h;simp only[C4,C7]at h;obtain⟨-, -, -, -, -, -, -, -, -, -, -, -,rfl⟩:=h;decide
   ·rw[B! hm]at h;simp only[C4,C7]at h;exact absurd h.2.2.2.2.2.2.2.2.2.2.2.2.symm he
  ·rw[B! hend]at h;have hlt:A<g.length:=by
    rw[Ax,Ac]at hend;simp only[E3]at hend;omega
   obtain⟨⟨y,e1⟩,h1,h⟩:=JB h;simp only at h;by_cases hz:Bj e1 0=true
   ·rw[B6 hz]at h;simp only[C4,C7]at h;obtain⟨-, -, -, -, -, -, -, -, -, -, -, -,rfl⟩:=h;exact Aqt hd ho hp' ht hl hlt h1 he
   ·rw[B! hz]at h;obtain⟨an,h2,h⟩:=JB h;obtain⟨ah,h3,h⟩:=JB h;obtain⟨ad,h4,h⟩:=JB h;obtain⟨ae,h5,h⟩:=JB h;simp only[C4,C7]at h;obtain⟨-, -, -, -, -, -, -, -, -, -, -, -,rfl⟩:=h;exact .inl rfl
theorem At2{o:LB}{f c w r n:Int}{g:LI}{a:Int}{x:LB}(hf:FitD o f c w r n g a x)(hO:OutB f c w r n g a x):x.length<=12000:=by
 cases hf with
 |new e1 e2 e3 e4 e5 e6 e7 e8=>subst e8;simp
 |head F C W R N hd hpw e6 e7 e8=>subst e8;simp
 |tab F C W R N A hd hpw ht hl ea hA=>
  have hne:g≠ []:=by intro e;subst e;simp[FO]at ht
  have h:=hO F C W R N A hd hne ea;obtain⟨g1,g2,g3⟩:=iH hd.shape hd.fit;have b:=zV g1 A;have jP:=hd.num;have hw:=(D5 (W:Int)).2;have hN:N*C<=4000:=by
   have h1:=C9 C jP.2.2.2.2.2.1;have h2:=SY 4000 C;omega
  have hs:((Az (Ak R) N).take A).sum.toNat<=N:=F0
  rw[RT]at h;have hb:((Az (Ak R) N).take A).sum.toNat*(C*wB (W:Int))<=4000*3:=by
   have h1:=C9 (C*wB (W:Int)) hs;have h2:=G0 hN hw;rw[<-IF N]at h1;omega
  omega
theorem X5{o x:LB}{e:Int}(ho:o.length<=64)(hx:x.length<=12000)(he:Cd e)(h0:0<e):Cu o [] 0 0 0 0 0 [] 0 x false e=some 0:=by
 have hO':¬(Ec (Ac o) 64=true):=by rw[Ar,Ac];simp;omega
 have hX:Ec (Ac x) 12000=false:=by rw[Ar,Ac];simp;omega
 rw[Cu,B! hO',B! G2,B6 F5,hX,B! F5,B6 E?,B! F5];obtain rfl|rfl|rfl|rfl|rfl|rfl|rfl|rfl:=he
 ·omega
 all_goals rfl
theorem vK:∀(k q1 q2:Nat) (o p:LB) (f c w r n:Int) (g:LI) (a:Int) (x:LB) (u:Bool) (v:Int),FitD o f c w r n g a x->o.length<=64->SzD p g a x->muD f g a<k->k<=q1->k<=q2->
  Bc q1 o p f c w r n g a x u v=Bc q2 o p f c w r n g a x u v
 |0,_,_,_,_,_,_,_,_,_,_,_,_,_,_,_,_,_,h,_,_=>by omega
 |k+1,q1,q2,o,p,f,c,w,r,n,g,a,x,u,v,hf,ho,hZ,hm,h1,h2=>by
  obtain⟨q1,rfl⟩:∃q,q1=q+1:=⟨q1-1,F0⟩;obtain⟨q2,rfl⟩:∃q,q2=q+1:=⟨q2-1,F0⟩;rw[Bc,Bc,Cc,Cc];have hS:StepR (Au o u v q1) o p f c w r n g a x u v:=R2 hf ho hZ;cases hS with
  |wait hF hT=>
   rw[hT,Aa,Aa];simp only;rw[B6 F5,B6 F5]
  |err e he hF hT=>
   rw[hT,Aa,Aa];simp only;rw[B! dE,B6 E?,B! dE,B6 E?]
  |next p' f' c' w' r' n' g' a' x' hF hT hf' hZ' hle hmu=>
   rw[hT,Aa,Aa];simp only;rw[B! F5,B! F5,B! F5,B! F5];exact vK k q1 q2 o p' f' c' w' r' n' g' a' x' u v hf' ho hZ' F0 F0 F0
structure Wt (o p:LB) (f c w r n:Int) (g:LI) (a:Int) (x:LB):Prop where
 fit:FitD o f c w r n g a x
 sz:SzD p g a x
 out:OutB f c w r n g a x
 wait:Ah o p f c w r n g a x false 0=some (o,p,f,c,w,r,n,g,a,x,false,0, -1)
abbrev dM(q:Nat)(o p:LB)(f c w r n:Int)(g:LI)(a:Int)(x:LB):=Bc q o p f c w r n g a x false 0
theorem Aig:∀(k q:Nat) (o p:LB) (f c w r n:Int) (g:LI) (a:Int) (x:LB),FitD o f c w r n g a x->o.length<=64->SzD p g a x->OutB f c w r n g a x->p.length<=100000->muD f g a<k->k<=q->
  (∃(t2:LB) (t3 t4 t5 t6 t7:Int) (t8:LI) (t9:Int) (t10:LB),dM q o p f c w r n g a x=some (o,t2,t3,t4,t5,t6,t7,t8,t9,t10,false,0,0)/\Wt o t2 t3 t4 t5 t6 t7 t8 t9 t10/\t2.length<=p.length/\muD t3 t8 t9<k/\
   ∀b:LB,(p++b).length<=100000->dM q o (p++b) f c w r n g a x=dM q o (t2++b) t3 t4 t5 t6 t7 t8 t9 t10)\/
  (∃(x':LB) (e:Int),0<e/\Cd e/\x'.length<=12000/\∀b:LB,(p++b).length<=100000->dM q o (p++b) f c w r n g a x=some (o,[],0,0,0,0,0,[],0,x',false,e,e))
 |0,_,_,_,_,_,_,_,_,_,_,_,_,_,_,_,_,h,_=>by omega
 |k+1,q,o,p,f,c,w,r,n,g,a,x,hf,ho,hZ,hO,hp,hm,h1=>by
  obtain⟨q,rfl⟩:∃q',q=q'+1:=⟨q-1,F0⟩;have hx:x.length<=13000000:=by have:=hZ.hx;omega
  have hS:StepR (Au o false 0 q) o p f c w r n g a x false 0:=R2 hf ho hZ;cases hS with
  |wait hF hT=>
   refine .inl ⟨p,f,c,w,r,n,g,a,x,?_,⟨hf,hZ,hO,hT⟩,D3 _,hm,λb _=>rfl⟩;rw[dM,Bc,Cc,hT,Aa];simp only;rw[B6 F5,OB hZ.hp (by have:=hZ.hg;omega) hx,Aa]
  |err e he hF hT=>
   refine .inr ⟨x,e,he,Azh hf ho hp hT F0,At2 hf hO,λb hL=>?_⟩;obtain⟨s1,s2,s3,s4,s5,s6,s7,s8,s9,s10,s11,s12,hs⟩:=(xB b hf hL hT F0).2 F0;rw[dM,Bc,Cc,hs,Aa];simp only;rw[B! dE,B6 E?,sC hx,Aa]
  |next p' f' c' w' r' n' g' a' x' hF hT hf' hZ' hle hmu=>
   have hp':p'.length<=100000:=F0
   rcases Aig k q o p' f' c' w' r' n' g' a' x' hf' ho hZ' (Avs hf ho hZ hO hT) hp' F0 F0 with⟨t2,t3,t4,t5,t6,t7,t8,t9,t10,k1,k2,k3,k4,k5⟩|⟨x2,e,k1,k2,k3,k4⟩
   ·refine .inl ⟨t2,t3,t4,t5,t6,t7,t8,t9,t10,?_,k2,F0,F0,λb hL=>?_⟩
    ·rw[dM,Bc,Cc,hT,Aa];simp only;rw[B! F5,B! F5];exact k1
    ·have hs:=(xB b hf hL hT F5).1 rfl;have hL':(p'++b).length<=100000:=by rw[B9]at hL⊢;omega
     rw[dM,Bc,Cc,hs,Aa];simp only;rw[B! F5,B! F5];refine(k5 b hL').trans ?_;exact vK k q (q+1) o (t2++b) t3 t4 t5 t6 t7 t8 t9 t10 false 0 k2.fit ho ⟨by rw[B9]at hL⊢;omega,k2.sz.hg,k2.sz.hx⟩ k4 F0 F0
   ·refine .inr ⟨x2,e,k1,k2,k3,λb hL=>?_⟩;have hs:=(xB b hf hL hT F5).1 rfl;have hL':(p'++b).length<=100000:=by rw[B9]at hL⊢;omega
    rw[dM,Bc,Cc,hs,Aa];simp only;rw[B! F5,B! F5];exact k4 b hL'
abbrev Fd(o s:LB):=dM As o s 0 0 0 0 0 [] 0 []
inductive Bh (o s:LB):LB->Int->Int->Int->Int->Int->LI->Int->LB->Int->Prop
 |wt {p:LB} {f c w r n:Int} {g:LI} {a:Int} {x:LB}:Wt o p f c w r n g a x->p.length<=s.length-> (∀b:LB,(s++b).length<=100000->Fd o (s++b)=dM As o (p++b) f c w r n g a x)->Bh o s p f c w r n g a x 0
 |er {x:LB} {e:Int}:0<e->Cd e->x.length<=12000-> (∀b:LB,(s++b).length<=100000->Fd o (s++b)=some (o,[],0,0,0,0,0,[],0,x,false,e,e))->Bh o s [] 0 0 0 0 0 [] 0 x e
variable {o s p:LB} {f c w r n:Int} {g:LI} {a:Int} {x:LB} {e:Int}
theorem Wt.stop(W:Wt o p f c w r n g a x):dM As o p f c w r n g a x=some (o,p,f,c,w,r,n,g,a,x,false,0,0):=by
 obtain⟨q,hq⟩:∃q,As=q+1:=⟨As-1,by have:=Aq;omega⟩;have hx:x.length<=13000000:=by have:=W.sz.hx;omega
 rw[dM,hq,Bc,Cc,W.wait,Aa];simp only;rw[B6 F5,OB W.sz.hp (by have:=W.sz.hg;omega) hx,Aa]
theorem Bh.new(ho:o.length<=64):Bh o [] [] 0 0 0 0 0 [] 0 [] 0:=by
 refine .wt ⟨.new rfl rfl rfl rfl rfl rfl rfl rfl,⟨B8,B8,B8⟩,OutB.nil,?_⟩ (D3 _) λb _=>rfl;rw[Ah,Cb,B6 F5,PK [] B8,Aa];rfl
theorem oh(ho:o.length<=64)(W:Wt o p f c w r n g a x)(b:LB)(hp:p.length<=20000)(hb:b.length<=20000):
  Ds o p f c w r n g a x false 0 b=dM As o (p++b) f c w r n g a x/\Dg o p f c w r n g a x false 0 b=dM As o (p++b) f c w r n g a x:=by
 have hR:Dg o p f c w r n g a x false 0 b=dM As o (p++b) f c w r n g a x:=by
  have hx:x.length<=13000000:=by have:=W.sz.hx;omega
  have hg:g.length<=2000:=by have:=W.sz.hg;omega
  have hE:¬(Bj (0:Int) 0=true):=F5
  have hF:¬(false=true):=F5
  rw[Dg,Ni,J7 W.fit ho W.out W.wait,Aa,B! hE,OB F0 hg hx,Aa];simp only;rw[Gz]
  repeat (first|rw[Aa]|rw[B! hE]|rw[B! hF])
  rw[Ay,Aa];rfl
 obtain⟨t1,t2,t3,t4,t5,t6,t7,t8,t9,t10,t11,t12,e,h1,h2,_⟩:=Be9 ho W.fit W.sz b hp hb;exact⟨h1.trans (h2.symm.trans hR),hR⟩
theorem Bh.check(ho:o.length<=64)(h:Bh o s p f c w r n g a x e)(hp:p.length<=100000):Fo o p f c w r n g a x false e=some 0/\Cu o p f c w r n g a x false e=some 0:=by
 have key:Cu o p f c w r n g a x false e=some 0/\g.length<=1000/\x.length<=13000000:=by
  cases h with
  |wt W hl hb=>exact⟨J7 W.fit ho W.out W.wait,W.sz.hg,by have:=W.sz.hx;omega⟩
  |er h0 hc hx hb=>exact⟨X5 ho hx hc h0,B8,F0⟩
 obtain⟨k1,k2,k3⟩:=key;obtain⟨E,e1,e2⟩:=jK o p f c w r n g a x false e hp F0 F0;rw[k1]at e2;cases e2;exact⟨e1,k1⟩
theorem Bh.feed(ho:o.length<=64)(h:Bh o s p f c w r n g a x e)(hp:p.length<=20000)(b:LB)(hb:b.length<=20000)(hs:(s++b).length<=100000):
  ∃(p':LB) (f' c' w' r' n':Int) (g':LI) (a':Int) (x':LB) (e':Int),Ds o p f c w r n g a x false e b=some (o,p',f',c',w',r',n',g',a',x',false,e',e')/\
   Dg o p f c w r n g a x false e b=some (o,p',f',c',w',r',n',g',a',x',false,e',e')/\Bh o (s++b) p' f' c' w' r' n' g' a' x' e':=by
 have hck:=h.check ho F0;cases h with
 |wt W hl hB=>
  obtain⟨h1,h2⟩:=oh ho W b hp hb;have hpb:(p++b).length<=100000:=by rw[B9];omega
  have hZ:SzD (p++b) g a x:=⟨hpb,W.sz.hg,W.sz.hx⟩;rcases Aig 1004 As o (p++b) f c w r n g a x W.fit ho hZ W.out hpb (qD hZ) F7 with⟨t2,t3,t4,t5,t6,t7,t8,t9,t10,k1,k2,k3,k4,k5⟩|⟨x2,e,k1,k2,k3,k4⟩
  ·refine⟨t2,t3,t4,t5,t6,t7,t8,t9,t10,0,h1.trans k1,h2.trans k1, .wt k2 ?_ λb2 hL=>?_⟩
   ·rw[B9]at k3⊢;omega
   ·rw[F_,hB (b++b2) (by rw[<-F_];exact hL),<-F_];refine k5 b2 ?_;rw[B9,B9]at hL⊢;omega
  ·have k4':=k4 [] (by simpa using hpb);rw[F!]at k4';refine⟨_,_,_,_,_,_,_,_,_,_,h1.trans k4',h2.trans k4', .er k1 k2 k3 λb2 hL=>?_⟩;rw[F_,hB (b++b2) (by rw[<-F_];exact hL),<-F_];refine k4 b2 ?_;rw[B9,B9]at hL⊢;omega
 |er h0 hc hx hB=>
  have hne:Bj e 0=true:=by rw[Am];simp;omega
  refine⟨_,_,_,_,_,_,_,_,_,_,?_,?_, .er h0 hc hx λb2 hL=>?_⟩
  ·rw[Ds,Xt,oU B8 B8 F0 hck.1,B! F5,Aa];simp only;rw[B6 (show e≠0 by omega),B6 hne]
  ·rw[Dg,Ni,hck.2,Aa,B! F5,OB B8 B8 F0,Aa];simp only;rw[Gz,B6 hne,Aa,B6 hne]
  ·rw[F_];exact hB (b++b2) (by rw[<-F_];exact hL)
theorem Avc{u:Bool}{v:Int}{y:LB}(hf:FitD o f c w r n g a x){t1 t2:LB}{t3 t4 t5 t6 t7:Int}{t8:LI}{t9:Int}{t10:LB}{t11:Bool}{t12:Int}
  (h:Ah o p f c w r n g a x u v=some (t1,t2,t3,t4,t5,t6,t7,t8,t9,t10,t11,t12, -1)) (hp:p.length<=100000):Ah o p f c w r n g a y u v=some (o,p,f,c,w,r,n,g,a,y,u,v, -1):=by
 have zero:¬(Bj (0:Int) 0=true):=F5
 rw[Ah,Cb]at h⊢;by_cases hz:geq f 0=true
 ·rw[B6 hz]at h⊢;obtain⟨⟨z1,z2,z3,z4,z5,z6,z7⟩,hz1,h⟩:=JB h;rw[hz1,Aa];simp only at h⊢;by_cases h7:Bj z7 0=true
  ·rw[B6 h7]at h⊢;simp only[C4,C7]at h;rw[h.2.2.2.2.2.2.2.2.2.2.2.2]
  ·rw[B! h7]at h;obtain⟨af,h1,h⟩:=JB h;rw[Gw,Jg,Et]at h;obtain⟨aw,h2,h⟩:=JB h;simp only[C4,C7]at h;obtain⟨-, -, -, -, -, -, -, -, -, -, -, -,rfl⟩:=h;split at h2<;>cases h2
 ·rw[B! hz]at h⊢;rw[Cg,Be]at h⊢;by_cases hg:geq (Ac g) 0=true
  ·rw[B6 hg]at h⊢;obtain⟨⟨z1,z2,z3⟩,hz1,h⟩:=JB h;rw[hz1,Aa];simp only at h⊢;by_cases h7:Bj z3 0=true
   ·rw[B6 h7]at h⊢;simp only[C4,C7]at h;rw[h.2.2.2.2.2.2.2.2.2.2.2.2]
   ·rw[B! h7]at h;obtain⟨af,h1,h⟩:=JB h;simp only[C4,C7]at h;exact absurd h.2.2.2.2.2.2.2.2.2.2.2.2 F5
  ·rw[B! hg]at h⊢;by_cases he:geq a (Ac g)=true
   ·rw[B6 he]at h⊢;by_cases hm:Ec (Ac p) 4000=true
    ·rw[B6 hm]at h;simp only[C4,C7]at h;exact absurd h.2.2.2.2.2.2.2.2.2.2.2.2 F5
    ·rw[B! hm]
   ·rw[B! he]at h⊢;obtain⟨⟨z1,z2⟩,hz1,h⟩:=JB h;have hz2:Cw o p f c w r n g a y u v=some (z1,z2):=hz1;rw[hz2,Aa];simp only at h⊢;by_cases h7:Bj z2 0=true
    ·rw[B6 h7]at h⊢;simp only[C4,C7]at h;rw[h.2.2.2.2.2.2.2.2.2.2.2.2]
    ·rw[B! h7]at h;obtain⟨an,h2,h⟩:=JB h;obtain⟨ah,h3,h⟩:=JB h;obtain⟨ad,h4,h⟩:=JB h;obtain⟨ae,h5,h⟩:=JB h;simp only[C4,C7]at h;exact absurd h.2.2.2.2.2.2.2.2.2.2.2.2 F5
end Go.Pl
namespace Go.Pl
open Go Go.Lv
variable{u t11:Bool}{α:Type}{b:UInt8}
section
variable {o s p:LB} {f c w r n:Int} {g:LI} {a:Int} {x:LB} {e:Int}
theorem FitD.drop(h:FitD o f c w r n g a x)(t:Nat):FitD o f c w r n g a (x.drop t):=by
 cases h with
 |new e1 e2 e3 e4 e5 e6 e7 e8=>subst e8;exact .new e1 e2 e3 e4 e5 e6 e7 B8
 |head F C W R N hd hpw e6 e7 e8=>subst e8;exact .head F C W R N hd hpw e6 e7 B8
 |tab F C W R N A hd hpw ht hl ea hA=>exact .tab F C W R N A hd hpw ht hl ea hA
theorem OutB.drop(h:OutB f c w r n g a x)(t:Nat):OutB f c w r n g a (x.drop t):=by
 intro F C W R N A hd hg ha;have:=h F C W R N A hd hg ha;rw[D8];omega
theorem Bh.WH(h:Bh o s p f c w r n g a x e):p.length<=s.length/\g.length<=1000/\x.length<=12000:=by
 cases h with
 |wt W hl hb=>exact⟨hl,W.sz.hg,At2 W.fit W.out⟩
 |er h0 hc hx hb=>exact⟨B8,B8,hx⟩
theorem Bh.N6(ho:o.length<=64)(h:Bh o s p f c w r n g a x e)(hp:p.length<=100000)(t:Nat):Fo o p f c w r n g a (x.drop t) false e=some 0:=by
 have hs:=h.WH;have key:Cu o p f c w r n g a (x.drop t) false e=some 0:=by
  cases h with
  |wt W hl hb=>exact J7 (W.fit.drop t) ho (W.out.drop t) (Avc W.fit W.wait hp)
  |er h0 hc hx hb=>exact X5 ho L6 hc h0
 obtain⟨E,e1,e2⟩:=jK o p f c w r n g a (x.drop t) false e hp F0 L6;rw[key]at e2;cases e2;exact e1
theorem Att(hck:Fo o p f c w r n g a x u e=some 0)(hp:p.length<=20000)(hg:g.length<=2000)(hx:x.length<=12000)(m:Nat):
  Ny o p f c w r n g a x u e (m:Int)=some (o,p,f,c,w,r,n,g,a,x.drop (min m x.length),u,e,x.take (min m x.length),0):=by
 rw[Ny,hck,Aa,B! F5,B! I!,cu F0 hg F0,Aa];simp only;have hk:Du (m:Int) (Ac x)=((min m x.length:Nat):Int):=by rw[Zp,Ac];omega
 rw[hk,Dt,Aa,Lg,Ay F6,Aa,Aa,Dj,Aa];rfl
end
section
variable {o s p:LB} {f c w r n:Int} {g:LI} {a:Int} {x:LB} {e:Int}
theorem Arr{v:Int}(hp:p.length<=20000)(h:Po o p f c w r n g a x u v=some e):Cd e:=by
 rw[Po]at h;split at h
 ·rw[rO p F0,Aa]at h;have hok:=eW (b:=p);simp only at h;by_cases h2:(Eo p).2≠0
  ·rw[B6 (by rw[Am];simpa using h2)]at h;cases h;exact Y7 p
  ·have h3:(Eo p).2=0:=by simpa using h2
   obtain⟨k1,k2,k3⟩:=hok h3;have hl:(GY p).length<=p.length:=by rw[GY,D8];omega
   rw[B! (by rw[Am,h3];simp),Dj,Aa,show p.drop (Eo p).1.toNat=GY p from rfl,i_ _ F0,Aa]at h;cases h;exact m? _
 ·split at h
  ·cases h;decide
  ·obtain⟨⟨z1,z2⟩,hz,h⟩:=JB h;simp only at h;split at h<;>(cases h;decide)
theorem rF{v k:Int}(ho:o.length<=64)(hx:x.length<=12000)(hk:(u=false/\v=k/\0<k/\Cd k)\/ (u=true/\v=0/\k=36)):
  Fo o [] 0 0 0 0 0 [] 0 x u v=some 0/\ (∀b,Ds o [] 0 0 0 0 0 [] 0 x u v b=some (o,[],0,0,0,0,0,[],0,x,u,v,k))/\Fg o [] 0 0 0 0 0 [] 0 x u v=some (o,[],0,0,0,0,0,[],0,x,u,v,k):=by
 have key:Cu o [] 0 0 0 0 0 [] 0 x u v=some 0:=by
  rcases hk with⟨rfl,rfl,h1,h2⟩|⟨rfl,rfl,rfl⟩
  ·exact X5 ho hx h2 h1
  ·have hX:Ec (Ac x) 12000=false:=by rw[Ar,Ac];simp;omega
   rw[Cu,B! D!,B! F5,B6 F5,hX,B! F5,B! F5]
 obtain⟨E,e1,e2⟩:=jK o [] 0 0 0 0 0 [] 0 x u v B8 B8 F0;rw[key]at e2;cases e2;have hv:(if v≠0 then v else if u=true then 36 else 0)=k:=by
  rcases hk with⟨rfl,rfl,h1,h2⟩|⟨rfl,rfl,rfl⟩
  ·rw[B6 F0]
  ·rfl
 have hk0:Bj k 0=true:=by
  rw[Am];rcases hk with⟨rfl,rfl,h1,h2⟩|⟨rfl,rfl,rfl⟩
  ·simp;omega
  ·rfl
 have hb:=oU (o:=o) (p:=[]) (f:=0) (c:=0) (w:=0) (r:=0) (n:=0) (g:=[]) (a:=0) (x:=x) (u:=u) (v:=v) B8 B8 F0 e1;rw[B! F5,hv]at hb;refine⟨e1,λb=>?_,?_⟩
 ·rw[Ds,Xt,hb,Aa];simp only;rw[B6 hk0]
 ·rw[Fg,hb,Aa];simp only;rw[B6 hk0]
end
theorem oV{l m z:List α}(h:Bt l m=some z):z=l++m:=by
 rw[Bt]at h;split at h
 ·exact(QT h).symm
 ·cases h
theorem As1{o p:LB}{f c w r n:Int}{g:LI}{a:Int}{x:LB}{v:Int}(hf:f≠0)(hg:g≠ []){t1 t2:LB}{t3 t4 t5 t6 t7:Int}{t8:LI}{t9:Int}{t10:LB}{t12 e:Int}
  (h:Ah o p f c w r n g a x u v=some (t1,t2,t3,t4,t5,t6,t7,t8,t9,t10,t11,t12,e)):e≠0\/ (t3=f/\t8=g/\∃y,t10=x++y):=by
 rw[Ah,Cb,B! (by rw[Ax];simpa using hf),Cg,Be,B! (by
  rw[Ax,Ac,E3];intro e;exact hg (Q8 F0))]at h
 by_cases he:geq a (Ac g)=true
 ·rw[B6 he]at h;by_cases hm:Ec (Ac p) 4000=true
  ·rw[B6 hm]at h;simp only[C4,C7]at h;left;rw[<-h.2.2.2.2.2.2.2.2.2.2.2.2];decide
  ·rw[B! hm]at h;simp only[C4,C7]at h;left;rw[<-h.2.2.2.2.2.2.2.2.2.2.2.2];decide
 ·rw[B! he]at h;obtain⟨⟨z1,z2⟩,hz1,h⟩:=JB h;simp only at h;by_cases h7:Bj z2 0=true
  ·rw[B6 h7]at h;simp only[C4,C7]at h;left;rw[<-h.2.2.2.2.2.2.2.2.2.2.2.2];rw[Am]at h7;simpa using h7
  ·rw[B! h7]at h;obtain⟨an,h2,h⟩:=JB h;obtain⟨ah,h3,h⟩:=JB h;obtain⟨ad,h4,h⟩:=JB h;obtain⟨ae,h5,h⟩:=JB h;simp only[C4,C7]at h;have e1:=oV h2;have e2:=oV h3;rw[I0]at e1;right;exact⟨h.2.2.1.symm,h.2.2.2.2.2.2.2.1.symm,z1,by rw[<-h.2.2.2.2.2.2.2.2.2.1,e2,e1]⟩
theorem V4{l m r:List α}(h:Bt l m=some r):l.length+m.length<=LIM:=by
 rw[Bt]at h;split at h
 ·assumption
 ·cases h
theorem D'{l m:List α}(h:l.length+m.length<=LIM):Bt l m=some (l++m):=by rw[Bt,B6 h]
theorem Bbk{o p:LB}{f c w r n:Int}{g:LI}{a:Int}{x:LB}{v:Int}(hf:f≠0)(hg:g≠ []){t1 t2:LB}{t3 t4 t5 t6 t7:Int}{t8:LI}{t9:Int}{t10:LB}{t12 e:Int}
  (h:Ah o p f c w r n g a x u v=some (t1,t2,t3,t4,t5,t6,t7,t8,t9,t10,t11,t12,e)):
  ∃y,t10=x++y/\∀z:LB,z.length<=x.length->Ah o p f c w r n g a z u v=some (t1,t2,t3,t4,t5,t6,t7,t8,t9,z++y,t11,t12,e):=by
 have e0:∀z:LB,Ah o p f c w r n g a z u v=Be o p f c w r n g a z u v:=λz=>by
  rw[Ah,Cb,B! (by rw[Ax];simpa using hf),Cg]
 have hgl:¬geq (Ac g) 0=true:=by
  rw[Ax,Ac,E3];intro e;exact hg (Q8 F0)
 have stay:∀E:Int,some (o,p,f,c,w,r,n,g,a,x,u,v,E)=some (t1,t2,t3,t4,t5,t6,t7,t8,t9,t10,t11,t12,e)-> (∀z:LB,Be o p f c w r n g a z u v=some (o,p,f,c,w,r,n,g,a,z,u,v,E))->
   ∃y,t10=x++y/\∀z:LB,z.length<=x.length->Ah o p f c w r n g a z u v=some (t1,t2,t3,t4,t5,t6,t7,t8,t9,z++y,t11,t12,e):=by
  intro E h hz;simp only[C4,C7]at h;obtain⟨rfl,rfl,rfl,rfl,rfl,rfl,rfl,rfl,rfl,rfl,rfl,rfl,rfl⟩:=h;exact⟨[],(F! _).symm,λz _=>by rw[e0,hz,F!]⟩
 rw[e0,Be,B! hgl]at h;by_cases he:geq a (Ac g)=true
 ·rw[B6 he]at h;by_cases hm:Ec (Ac p) 4000=true
  ·rw[B6 hm]at h;exact stay _ h λz=>by rw[Be,B! hgl,B6 he,B6 hm]
  ·rw[B! hm]at h;exact stay _ h λz=>by rw[Be,B! hgl,B6 he,B! hm]
 ·rw[B! he]at h;obtain⟨⟨z1,z2⟩,hz1,h⟩:=JB h;have hz1':∀z:LB,Cw o p f c w r n g a z u v=some (z1,z2):=λz=>hz1;simp only at h;by_cases h7:Bj z2 0=true
  ·rw[B6 h7]at h;refine stay _ h λz=>?_;rw[Be,B! hgl,B! he,hz1',Aa];simp only;rw[B6 h7]
  ·rw[B! h7]at h;obtain⟨an,h2,h⟩:=JB h;obtain⟨ah,h3,h⟩:=JB h;obtain⟨ad,h4,h⟩:=JB h;obtain⟨ae,h5,h⟩:=JB h;simp only[C4,C7]at h;have e1:=oV h2;have e2:=oV h3;have l2:=V4 h2;have l3:=V4 h3;rw[I0]at e1;obtain⟨h01,h02,h03,h04,h05,h06,h07,h08,h09,h10,h11,h12,h13⟩:=h;refine⟨z1,by rw[<-h10,e2,e1],λz hz=>?_⟩;rw[e1]at l3;rw[e0,Be,B! hgl,B! he,hz1',Aa];simp only;rw[B! h7,D' (by simp at l2⊢;omega),Aa,I0,D' F0,Aa,h4,Aa,h5,Aa,h01,h02,h03,h04,h05,h06,h07,h08,h09,h11,h12,h13]
theorem Asg:∀(q:Nat) (o p:LB) (f c w r n:Int) (g:LI) (a:Int) (x:LB) (u:Bool) (v:Int),f≠0->g≠ []->∀(t1 t2:LB) (t3 t4 t5 t6 t7:Int) (t8:LI) (t9:Int) (t10:LB) (t11:Bool) (t12 e:Int),Bc q o p f c w r n g a x u v=some (t1,t2,t3,t4,t5,t6,t7,t8,t9,t10,t11,t12,e)->
  ∃y,t10=x++y/\∀z:LB,z.length<=x.length->Bc q o p f c w r n g a z u v=some (t1,t2,t3,t4,t5,t6,t7,t8,t9,z++y,t11,t12,e)
 |0,o,p,f,c,w,r,n,g,a,x,u,v,_,_,t1,t2,t3,t4,t5,t6,t7,t8,t9,t10,t11,t12,e,h=>by cases h
 |q+1,o,p,f,c,w,r,n,g,a,x,u,v,hf,hg,t1,t2,t3,t4,t5,t6,t7,t8,t9,t10,t11,t12,e,h=>by
  rw[Bc,Cc]at h;obtain⟨⟨z1,z2,z3,z4,z5,z6,z7,z8,z9,z10,z11,z12,zz⟩,hz,h⟩:=JB h;obtain⟨y,hy1,hy2⟩:=Bbk hf hg hz;simp only at h;by_cases h1:geq zz (-1)=true
  ·rw[B6 h1]at h;obtain⟨⟨y1,y2,y3,y4,y5,y6,y7,y8,y9,y10,y11,y12⟩,hy,h⟩:=JB h;simp only[C4,C7]at h;rw[Ig,Mu]at hy;obtain⟨a1,k1,hy⟩:=JB hy;obtain⟨a2,k2,hy⟩:=JB hy;rw[Rp,Yg]at hy;obtain⟨a3,k3,hy⟩:=JB hy;simp only[C4,C7]at hy;have e2:=oV k2;have l2:=V4 k2;obtain⟨rfl,rfl,rfl,rfl,rfl,rfl,rfl,rfl,rfl,rfl,rfl,rfl⟩:=hy;obtain⟨rfl,rfl,rfl,rfl,rfl,rfl,rfl,rfl,rfl,rfl,rfl,rfl,rfl⟩:=h;refine⟨[],by rw[e2,I0,F!],λz hzl=>?_⟩;rw[Bc,Cc,hy2 z hzl,Aa];simp only;rw[B6 h1,Ig,Mu,k1,Aa,D' (by simp at l2⊢;omega),Aa,Rp,Yg,k3,Aa,Aa];simp
  ·rw[B! h1]at h;by_cases h2:Bj zz 0=true
   ·rw[B6 h2]at h;obtain⟨⟨y1,y2,y3,y4,y5,y6,y7,y8,y9,y10,y11,y12,y13⟩,hy,h⟩:=JB h;simp only[C4,C7]at h;rw[Lf]at hy;obtain⟨⟨x1,x2,x3,x4,x5,x6,x7,x8,x9,x10,x11,x12⟩,hx,hy⟩:=JB hy;simp only[C4,C7]at hy;rw[Ip]at hx;obtain⟨a2,k2,hx⟩:=JB hx;simp only[C4,C7]at hx;have e2:=oV k2;have l2:=V4 k2;obtain⟨rfl,rfl,rfl,rfl,rfl,rfl,rfl,rfl,rfl,rfl,rfl,rfl⟩:=hx;obtain⟨rfl,rfl,rfl,rfl,rfl,rfl,rfl,rfl,rfl,rfl,rfl,rfl,rfl⟩:=hy;obtain⟨rfl,rfl,rfl,rfl,rfl,rfl,rfl,rfl,rfl,rfl,rfl,rfl,rfl⟩:=h;refine⟨[],by rw[e2,I0,F!],λz hzl=>?_⟩;rw[Bc,Cc,hy2 z hzl,Aa];simp only;rw[B! h1,B6 h2,Lf,Ip,D' (by simp at l2⊢;omega),Aa,Aa,Aa];simp
   ·rw[B! h2]at h;have hz0:zz=0:=by rw[Am]at h2;simpa using h2
    rcases As1 hf hg hz with h3|⟨h3,h4,y0,h5⟩
    ·exact absurd hz0 h3
    ·obtain⟨y2,h6,h7⟩:=Asg q z1 z2 z3 z4 z5 z6 z7 z8 z9 z10 z11 z12 (by rw[h3];exact hf) (by rw[h4];exact hg) _ _ _ _ _ _ _ _ _ _ _ _ _ h;refine⟨y++y2,by rw[h6,hy1,F_],λz hzl=>?_⟩;rw[Bc,Cc,hy2 z hzl,Aa];simp only;rw[B! h1,B! h2,h7 (z++y) (by rw[hy1,B9,B9];omega),F_]
section
variable {o s p:LB} {f c w r n:Int} {g:LI} {a:Int} {x:LB} {e:Int}
theorem Wt.drop(W:Wt o p f c w r n g a x)(t:Nat):Wt o p f c w r n g a (x.drop t):=
 ⟨W.fit.drop t,⟨W.sz.hp,W.sz.hg,by have:=W.sz.hx;rw[D8];omega⟩,W.out.drop t,Avc W.fit W.wait W.sz.hp⟩
theorem FitD.early(h:FitD o f c w r n g a x)(hx:x≠ []):f≠0/\g≠ []:=by
 cases h with
 |new _ _ _ _ _ _ _ e8=>exact absurd e8 hx
 |head _ _ _ _ _ _ _ _ _ e8=>exact absurd e8 hx
 |tab F C W R N A hd hpw ht hl ea hA=>
  refine⟨hd.fnz,λe=>?_⟩;have h1:=hd.num;have h2:(Az (Ak R) N).length=0:=by rw[<-hl,e];rfl
  have h3:Az (Ak R) N=[]:=Q8 h2;have h4:(Az (Ak R) N).sum=(N:Int):=xH h1.2.2.2.2.1;rw[h3]at h4;simp at h4;omega
theorem Bh.Bak(ho:o.length<=64)(h:Bh o s p f c w r n g a x e)(hp:p.length<=20000)(b:LB)(hb:b.length<=20000)(hs:(s++b).length<=100000){t:Nat}(ht:t<=x.length):
  ∃(p':LB) (f' c' w' r' n':Int) (g':LI) (a':Int) (y:LB) (e':Int),Ds o p f c w r n g a (x.drop t) false e b=some (o,p',f',c',w',r',n',g',a',(x++y).drop t,false,e',e')/\
   Ds o p f c w r n g a x false e b=some (o,p',f',c',w',r',n',g',a',x++y,false,e',e')/\Bh o (s++b) p' f' c' w' r' n' g' a' (x++y) e':=by
 obtain⟨p',f',c',w',r',n',g',a',x',e',h1,h2,h3⟩:=h.feed ho hp b hb hs;have hck:=h.N6 ho F0 t;have hsz:=h.WH;cases h with
 |wt W hl hB=>
  by_cases hx:x=[]
  ·subst hx;obtain rfl:t=0:=by simpa using ht
   exact⟨p',f',c',w',r',n',g',a',x',e',h1,by simpa using h1,by simpa using h3⟩
  ·obtain⟨hf,hg⟩:=W.fit.early hx;have e1:=(oh ho W b hp hb).1;have e2:=(oh ho (W.drop t) b hp hb).1;rw[e1]at h1;obtain⟨y,k1,k2⟩:=Asg As o (p++b) f c w r n g a x false 0 hf hg _ _ _ _ _ _ _ _ _ _ _ _ _ h1;subst k1;refine⟨p',f',c',w',r',n',g',a',y,e',?_,by rw[e1];exact h1,h3⟩;rw[e2,Q? ht];exact k2 (x.drop t) L6
 |er h0 hc hx hB=>
  obtain⟨q1,q2,q3⟩:=rF (o:=o) (x:=x) (u:=false) (v:=e) (k:=e) ho hx (.inl ⟨rfl,rfl,h0,hc⟩);obtain⟨d1,d2,d3⟩:=rF (o:=o) (x:=x.drop t) (u:=false) (v:=e) (k:=e) ho L6 (.inl ⟨rfl,rfl,h0,hc⟩);rw[q2 b]at h1;simp only[C4,C7,Z3]at h1;obtain⟨rfl,rfl,rfl,rfl,rfl,rfl,rfl,rfl,rfl,rfl,_⟩:=h1;exact⟨[],0,0,0,0,0,[],0,[],e,by simpa using d2 b,by simpa using q2 b,by simpa using h3⟩
def Bfk(u:Bool)(v k:Int):Prop:=(u=false/\v=k/\0<k/\Cd k)\/ (u=true/\v=0/\k=36)
theorem Bh.Axc(ho:o.length<=64)(h:Bh o s p f c w r n g a x e)(hp:p.length<=20000):
  ∃(u:Bool) (v k:Int),(∀t,Fg o p f c w r n g a (x.drop t) false e=some (o,[],0,0,0,0,0,[],0,x.drop t,u,v,k))/\ ((u=false/\v=k/\0<k/\Cd k/\ (e=0\/e=k))\/ (u=true/\v=0/\k=0)):=by
 have hs:=h.WH;cases h with
 |wt W hl hB=>
  obtain⟨e1,d1,d2⟩:=Bci (o:=o) (p:=p) (f:=f) (c:=c) (w:=w) (r:=r) (n:=n) (a:=a) (u:=false) (v:=0) (g:=g) (x:=x) hp;have hcd:=Arr hp d2;have go:∀t,Fg o p f c w r n g a (x.drop t) false 0=if Bj e1 0=true then some (o,[],0,0,0,0,0,[],0,x.drop t,false,e1,e1)else some (o,[],0,0,0,0,0,[],0,x.drop t,true,0,0):=by
   intro t;have hb:=oU (o:=o) (p:=p) (f:=f) (c:=c) (w:=w) (r:=r) (n:=n) (g:=g) (a:=a) (x:=x.drop t) (u:=false) (v:=0) F0 F0 L6 (Bh.N6 ho (.wt W hl hB) F0 t);rw[B! F5]at hb;rw[Fg,hb,Aa];simp only;have d1':JS o p f c w r n g a (x.drop t) false 0=some e1:=d1;rw[B! F5,d1',Aa];rfl
  by_cases he:Bj e1 0=true
  ·refine⟨false,e1,e1,λt=>by rw[go,B6 he], .inl ⟨rfl,rfl,?_,hcd,B8⟩⟩;have:=hcd.nn;rw[Am]at he;simp only[N9]at he;omega
  ·exact⟨true,0,0,λt=>by rw[go,B! he], .inr ⟨rfl,rfl,rfl⟩⟩
 |er h0 hc hx hB=>
  refine⟨false,e,e,λt=>?_, .inl ⟨rfl,rfl,h0,hc, .inr rfl⟩⟩;exact(rF (o:=o) (x:=x.drop t) (u:=false) (v:=e) (k:=e) ho L6 (.inl ⟨rfl,rfl,h0,hc⟩)).2.2
end
theorem WB{p:Prop}(h:p:=by simp only[D8];omega):p:=h
theorem Z9{p:Prop}(h:p:=by rw[B9];simp;omega):p:=h
abbrev M8:=UInt8×Int×Unit
abbrev Sad:=Int×LB×Unit
structure Ud where
 s:LB
 X:LB
 p:LB
 f:Int
 c:Int
 w:Int
 r:Int
 n:Int
 g:LI
 a:Int
 u:Bool
 v:Int
inductive OkU (o:LB) (L:Nat):Ud->Prop
 |live {s X p:LB} {f c w r n:Int} {g:LI} {a e:Int}:s.length+L<=12100->Bh o s p f c w r n g a X e->OkU o L ⟨s,X,p,f,c,w,r,n,g,a,false,e⟩
 |stop {s X:LB} {u:Bool} {v k:Int}:X.length<=12000->Bfk u v k->OkU o L ⟨s,X,[],0,0,0,0,0,[],0,u,v⟩
def iS(o:LB)(U:Ud)(q:LB):Option (Int×Ud):=(Ds o U.p U.f U.c U.w U.r U.n U.g U.a U.X U.u U.v q).bind λ(_,p,f,c,w,r,n,g,a,x,u,v,e)=>some (e,⟨U.s++q,x,p,f,c,w,r,n,g,a,u,v⟩)
def jC(o:LB)(U:Ud):Option (Int×Ud):=(Fg o U.p U.f U.c U.w U.r U.n U.g U.a U.X U.u U.v).bind λ(_,p,f,c,w,r,n,g,a,x,u,v,e)=>some (e,⟨U.s,x,p,f,c,w,r,n,g,a,u,v⟩)
theorem Ajc{o:LB}(ho:o.length<=64){L:Nat}{U:Ud}(h:OkU o L U)(q:LB)(hq:q.length<=L):
  ∃(e:Int) (U':Ud),iS o U q=some (e,U')/\OkU o (L-q.length) U'/\ (∃y,U'.X=U.X++y)/\
   ∀t,t<=U.X.length->Ds o U.p U.f U.c U.w U.r U.n U.g U.a (U.X.drop t) U.u U.v q=some (o,U'.p,U'.f,U'.c,U'.w,U'.r,U'.n,U'.g,U'.a,U'.X.drop t,U'.u,U'.v,e):=by
 cases h with
 |live hl hB=>
  rename_i s X p f c w r n g a e;have hsz:=hB.WH;have hs:(s++q).length<=100000:=by rw[B9];omega
  obtain⟨p',f',c',w',r',n',g',a',y,e',h1,h2,h3⟩:=hB.Bak ho F0 q F0 hs (S! _);refine⟨e',⟨s++q,X++y,p',f',c',w',r',n',g',a',false,e'⟩,by rw[iS];simp only;rw[h2];rfl, .live N0 h3,⟨y,rfl⟩,λt ht=>?_⟩;obtain⟨p2,f2,c2,w2,r2,n2,g2,a2,y2,e2,k1,k2,k3⟩:=hB.Bak ho F0 q F0 hs ht;rw[h2]at k2;simp only[C4,C7,Z3,List.append_cancel_left_eq]at k2;obtain⟨rfl,rfl,rfl,rfl,rfl,rfl,rfl,rfl,rfl,rfl,_⟩:=k2;exact k1
 |stop hx hk=>
  rename_i s X u v k;refine⟨k,⟨s++q,X,[],0,0,0,0,0,[],0,u,v⟩,?_, .stop hx hk,⟨[],(F! _).symm⟩,λt ht=>?_⟩
  ·rw[iS];simp only;rw[(rF ho hx hk).2.1 q];rfl
  ·exact(rF ho WB hk).2.1 q
theorem Apb{o:LB}(ho:o.length<=64){L:Nat}{U:Ud}(h:OkU o L U):
  ∃(e:Int) (U':Ud),jC o U=some (e,U')/\OkU o L U'/\U'.X=U.X/\
   ∀t,t<=U.X.length->Fg o U.p U.f U.c U.w U.r U.n U.g U.a (U.X.drop t) U.u U.v=some (o,U'.p,U'.f,U'.c,U'.w,U'.r,U'.n,U'.g,U'.a,U'.X.drop t,U'.u,U'.v,e):=by
 cases h with
 |live hl hB=>
  rename_i s X p f c w r n g a e;have hsz:=hB.WH;obtain⟨u,v,k,h1,h2⟩:=hB.Axc ho F0;have h0:=h1 0;rw[RU]at h0;refine⟨k,⟨s,X,[],0,0,0,0,0,[],0,u,v⟩,by rw[jC];simp only;rw[h0];rfl,?_,rfl,λt _=>h1 t⟩;rcases h2 with⟨k1,k2,k3,k4,_⟩|⟨k1,k2,_⟩
  ·exact .stop (k:=k) hsz.2.2 (.inl ⟨k1,k2,k3,k4⟩)
  ·exact .stop (k:=36) hsz.2.2 (.inr ⟨k1,k2,rfl⟩)
 |stop hx hk=>
  rename_i s X u v k;refine⟨k,⟨s,X,[],0,0,0,0,0,[],0,u,v⟩,?_, .stop hx hk,rfl,λt ht=>?_⟩
  ·rw[jC];simp only;rw[(rF ho hx hk).2.2];rfl
  ·exact(rF ho WB hk).2.2
theorem OkU.szs{o:LB}{L:Nat}{U:Ud}(h:OkU o L U):U.p.length<=12100/\U.g.length<=1000/\U.X.length<=12000:=by
 cases h with
 |live hl hB=>have:=hB.WH;exact⟨by simp only;omega,this.2.1,this.2.2⟩
 |stop hx hk=>exact⟨B8,B8,hx⟩
theorem xI{o:LB}(ho:o.length<=64){L:Nat}{U:Ud}(h:OkU o L U)(t:Nat)(m:Nat):
  Ny o U.p U.f U.c U.w U.r U.n U.g U.a (U.X.drop t) U.u U.v (m:Int)=some (o,U.p,U.f,U.c,U.w,U.r,U.n,U.g,U.a,(U.X.drop t).drop (min m (U.X.drop t).length),U.u,U.v,(U.X.drop t).take (min m (U.X.drop t).length),0):=by
 have hs:=h.szs;refine Att ?_ F0 F0 L6 m;cases h with
 |live hl hB=>exact hB.N6 ho (by have:=hs.1;simp only at this;omega) t
 |stop hx hk=>exact(rF ho WB hk).1
def gZ(o:LB)(st:M8)(inp:LB)(U:Ud):Option (Int×Ud×LB):=
 if st.1=1 then(iS o U (inp.take (min st.2.1.toNat inp.length))).bind λz=>some (z.1,z.2,inp.drop (min st.2.1.toNat inp.length))
 else if st.1=2 then some (0,U,inp)
 else(jC o U).bind λz=>some (z.1,z.2,inp)
def V0(o:LB):List M8->LB->Ud->Option (LI×Ud×LB)
 |[],inp,U=>some ([],U,inp)
 |st::l,inp,U=>(gZ o st inp U).bind λz=>(V0 o l z.2.2 z.2.1).bind λy=>some (z.1::y.1,y.2)
def VS(st:M8):Prop:=(st.1=1\/st.1=2\/st.1=3)/\0<=st.2.1/\st.2.1<=100000
def SR(st:M8)(e:Int)(d:Sad):Prop:=d.1=e/\ (st.1=2->e=0/\ (d.2.1.length:Int)<=st.2.1)/\ (st.1≠2->d.2.1=[])
inductive SRs:List M8->LI->List Sad->Prop
 |nil:SRs [] [] []
 |cons {st e d l es ds}:SR st e d->SRs l es ds->SRs (st::l) (e::es) (d::ds)
def outs(l:List Sad):LB:=(l.map (·.2.1)).flatten
def tQ(b:List M8)(i t:Nat)(X:LB)(t':Nat)(X':LB):Prop:=(i=b.length->t'=t/\X'=X)/\ (i<b.length->∀m:Int,b[b.length-1]? =some (2,m,())->20000<=m->t'=X'.length)
theorem tQ.nil{b:List M8}{i t:Nat}{X:LB}(h:i=b.length):tQ b i t X t X:=⟨λ_=>⟨rfl,rfl⟩,λh'=>absurd h' F0⟩
theorem tQ.other{b:List M8}{i t t1 t':Nat}{X X1 X':LB}(hlt:i<b.length)(h1:b[i].1≠2)(ih:tQ b (i+1) t1 X1 t' X'):tQ b i t X t' X':=by
 refine⟨λh=>absurd h F0,λ_ m hm h2=>?_⟩;by_cases h:i+1<b.length
 ·exact ih.2 h m hm h2
 ·rw[show b.length-1=i by omega,List.getElem?_eq_getElem hlt]at hm;exact absurd (by rw[QT hm]) h1
theorem tQ.drain{b:List M8}{i t t' m:Nat}{X X':LB}(hlt:i<b.length)(hm:b[i].2.1=(m:Int))(hX:X.length<=20000)(ht:t<=X.length)(ih:tQ b (i+1) (t+min m (X.length-t)) X t' X'):tQ b i t X t' X':=by
 refine⟨λh=>absurd h F0,λ_ k hk h2=>?_⟩;by_cases h:i+1<b.length
 ·exact ih.2 h k hk h2
 ·rw[show b.length-1=i by omega,List.getElem?_eq_getElem hlt]at hk;obtain⟨e1,e2⟩:=ih.1 F0;have e3:=QT hk;rw[e3]at hm;simp only at hm;rw[e1,e2];omega
theorem P2{o:LB}(ho:o.length<=64){b:List M8}(hb:b.length<=200)(hv:∀st∈b,VS st):∀(k i t q:Nat) (U:Ud) (inp:LB) (aa:List Sad),i+k=b.length->k<q->inp.length<=12100->OkU o inp.length U->t<=U.X.length->aa.length<=i->
  ∃(es:LI) (U':Ud) (inp':LB) (ds:List Sad) (t':Nat),V0 o (b.drop i) inp U=some (es,U',inp')/\OkU o inp'.length U'/\t'<=U'.X.length/\SRs (b.drop i) es ds/\U.X.take t++outs ds=U'.X.take t'/\
   Ie b q (i:Int) o U.f U.c U.w U.r U.n U.a (U.X.drop t) U.u U.v inp aa U.p U.g=some (o,U'.p,U'.f,U'.c,U'.w,U'.r,U'.n,U'.g,U'.a,U'.X.drop t',U'.u,U'.v,aa++ds,0)/\tQ b i t U.X t' U'.X
 |k,i,t,0,U,inp,aa,_,hq,_,_,_,_=>absurd hq (G4 _)
 |0,i,t,q+1,U,inp,aa,hi,hq,hin,hU,ht,haa=>by
  refine⟨[],U,inp,[],t,by rw[List.drop_eq_nil_of_le F0];rfl,hU,ht,by rw[List.drop_eq_nil_of_le F0];exact .nil,by simp[outs],?_, .nil F0⟩;rw[Ie,Yu,B! F2,SN,Awb,Au8,Avp,F!]
 |k+1,i,t,q+1,U,inp,aa,hi,hq,hin,hU,ht,haa=>by
  have hlt:i<b.length:=F0
  obtain⟨hop,hn0,hn1⟩:=hv b[i] (G8 hlt);have hdrop:b.drop i=b[i]::b.drop (i+1):=(List.getElem_cons_drop hlt).symm;obtain⟨m,hm⟩:∃m:Nat,b[i].2.1=m:=⟨b[i].2.1.toNat,F0⟩;have hgi:Af (i:Int) 1=((i+1:Nat):Int):=by rw[show(1:Int)=((1:Nat):Int)from rfl,Ag];omega
  rw[Ie,Yu,B6 F2,Bl hlt,Aa];rcases hop with h1|h1|h1
  ·
   have hg1:geq b[i].1 1=true:=by rw[h1];rfl
   have hmin:Du b[i].2.1 (Ac inp)=((min m inp.length:Nat):Int):=by rw[hm,Zp,Ac];omega
   obtain⟨e,U1,f1,f2,⟨y,f3⟩,f4⟩:=Ajc ho hU (inp.take (min m inp.length)) T6;have hl:(inp.take (min m inp.length)).length=min m inp.length:=by rw[C8];omega
   rw[hl]at f2;have hl2:(inp.drop (min m inp.length)).length=inp.length-min m inp.length:=D8;rw[<-hl2]at f2;obtain⟨es,U2,Q7,ds,t2,r1,r2,r3,r4,r5,r6,r7⟩:=P2 ho hb hv k (i+1) t q U1 (inp.drop (min m inp.length)) (aa++[(e,[],())]) F0 F0 F0 f2 (by rw[f3,B9];omega) Z9;refine⟨e::es,U2,Q7,(e,[],())::ds,t2,?_,r2,r3,?_,?_,?_, .other hlt (by rw[h1];decide) r7⟩
   ·rw[hdrop,V0,gZ,B6 h1,hm,D0,f1,Aa,Aa];simp only;rw[r1,Aa]
   ·rw[hdrop];exact .cons ⟨rfl,λh=>by rw[h1]at h;exact absurd h F5,λ_=>rfl⟩ r4
   ·rw[<-r5,f3,XC ht];simp[outs]
   ·rw[B6 hg1,hmin,Dt,D0,Aa,f4 t ht,Aa];simp only;rw[VW,IH,hmin,Dj,Aa,Ay F6,Aa,Iq,IL,hgi,D0,r6];simp
  ·
   have hg1:¬geq b[i].1 1=true:=by rw[h1];decide
   have hg2:geq b[i].1 2=true:=by rw[h1];rfl
   have hd:=xI ho hU t m;have hXl:(U.X.drop t).length=U.X.length-t:=D8;obtain⟨es,U2,Q7,ds,t2,r1,r2,r3,r4,r5,r6,r7⟩:=P2 ho hb hv k (i+1) (t+min m (U.X.length-t)) q U inp (aa++[(0,(U.X.drop t).take (min m (U.X.drop t).length),())]) F0 F0 hin hU F0 Z9;refine⟨0::es,U2,Q7,(0,(U.X.drop t).take (min m (U.X.drop t).length),())::ds,t2,?_,r2,r3,?_,?_,?_, .drain hlt hm (by have:=hU.szs;omega) ht r7⟩
   ·rw[hdrop,V0,gZ,B! (by rw[h1];decide),B6 h1,Aa];simp only;rw[r1,Aa]
   ·rw[hdrop];exact .cons ⟨rfl,λ_=>⟨rfl,by simp only[C8];rw[hm];omega⟩,λh=>absurd h1 h⟩ r4
   ·rw[<-r5,hXl,vH];simp[outs]
   ·rw[B! hg1,B6 hg2,hm,hd,Aa];simp only;rw[SG,Awx,Ay F6,Aa,Iq,IL,hgi];rw[hXl,RS]at*
    rw[r6];simp
  ·
   have hg1:¬geq b[i].1 1=true:=by rw[h1];decide
   have hg2:¬geq b[i].1 2=true:=by rw[h1];decide
   have hg3:geq b[i].1 3=true:=by rw[h1];rfl
   obtain⟨e,U1,f1,f2,f3,f4⟩:=Apb ho hU;obtain⟨es,U2,Q7,ds,t2,r1,r2,r3,r4,r5,r6,r7⟩:=P2 ho hb hv k (i+1) t q U1 inp (aa++[(e,[],())]) F0 F0 hin f2 (by rw[f3];exact ht) Z9;refine⟨e::es,U2,Q7,(e,[],())::ds,t2,?_,r2,r3,?_,?_,?_, .other hlt (by rw[h1];decide) r7⟩
   ·rw[hdrop,V0,gZ,B! (by rw[h1];decide),B! (by rw[h1];decide),f1,Aa,Aa];simp only;rw[r1,Aa]
   ·rw[hdrop];exact .cons ⟨rfl,λh=>by rw[h1]at h;exact absurd h F5,λ_=>rfl⟩ r4
   ·rw[<-r5,f3];simp[outs]
   ·rw[B! hg1,B! hg2,B6 hg3,f4 t ht,Aa];simp only;rw[TJ,Awr,Ay F6,Aa,Iq,IL,hgi,r6];simp
def VS3(st:M8):Prop:=VS st/\ (st.1=3->st.2.1=0)
theorem Awh{st:M8}(h:VS3 st):CQ st.1 st.2.1=some false:=by
 obtain⟨⟨h1,h2,h3⟩,h4⟩:=h;rw[CQ,eL,bI,bV];have hr:(Nw st.2.1 0&&vA st.2.1 100000)=true:=by rw[De,Th];simp;omega
 rcases h1 with h1|h1|h1
 ·rw[h1,B6 F5,Xq,B6 F5,hr,Aa];rfl
 ·rw[h1,B! F5,Xq,B6 F5,hr,Aa];rfl
 ·rw[h1,B! F5,Xq,B! F5,B6 F5,h4 h1,Aa];rfl
theorem Bh6{l:List M8}(hl:l.length<=200)(hv:∀st∈l,VS3 st):Ri l=some 0:=by
 have loop:∀(j i q:Nat),i+j=l.length->j<q->Fc l q (i:Int)=some 0:=by
  intro j
  induction j with
  |zero=>
   intro i q hi hq;obtain⟨q,rfl⟩:∃q',q=q'+1:=⟨q-1,F0⟩;rw[Fc,Vp,B! F2];rfl
  |succ j ih=>
   intro i q hi hq;obtain⟨q,rfl⟩:∃q',q=q'+1:=⟨q-1,F0⟩;have hlt:i<l.length:=F0
   rw[Fc,Vp,B6 F2,Bl hlt,Aa,Awh (hv _ (G8 hlt)),Aa,KZ,YQ,B! F5,YV,YI,
    show Af (i:Int) 1=((i+1:Nat):Int) by rw[show(1:Int)=((1:Nat):Int)from rfl,Ag];omega]
   exact ih (i+1) q F0 F0
 rw[Ri,Xs,B! D!];exact loop l.length 0 As F0 F7
def U0:Ud:=⟨[],[],[],0,0,0,0,0,[],0,false,0⟩
theorem qj{o:LB}(ho:o.length<=64){L:Nat}(hL:L<=12100):OkU o L U0:= .live (by simpa using hL) (Bh.new ho)
theorem Auv{o inp:LB}{l:List M8}(ho:o.length<=64)(hin:inp.length<=12100)(hl:l.length<=200)(hv:∀st∈l,VS3 st):
  ∃(es:LI) (U:Ud) (inp':LB) (ds:List Sad) (t:Nat),V0 o l inp U0=some (es,U,inp')/\OkU o inp'.length U/\t<=U.X.length/\SRs l es ds/\outs ds=U.X.take t/\
   Zw o inp l=some (o,U.p,U.f,U.c,U.w,U.r,U.n,U.g,U.a,U.X.drop t,U.u,U.v,ds,0)/\tQ l 0 0 [] t U.X:=by
 obtain⟨es,U,inp',ds,t,h1,h2,h3,h4,h5,h6,h7⟩:=P2 ho hl (λst h=>(hv st h).1) l.length 0 0 As U0 inp [] F0 F7 hin (qj ho hin) (D3 _) B8;rw[RU]at h1 h4;refine⟨es,U,inp',ds,t,h1,h2,h3,h4,by simpa [U0]using h5,?_,h7⟩;rw[Zw,CB,Bh6 hl hv,Aa,B! F5,RO,B! D!,Aa];simp only;rw[B! F5];exact h6
theorem Azg{o inp:LB}{l:List M8}(ho:o.length<=64)(hin:inp.length<=12100)(hl:l.length<=200)(hv:∀st∈l,VS3 st):
  ∃(es:LI) (U:Ud) (inp':LB) (ds:List Sad) (t:Nat),V0 o l inp U0=some (es,U,inp')/\OkU o inp'.length U/\t<=U.X.length/\SRs l es ds/\outs ds=U.X.take t/\
   Zw o inp l=some (o,U.p,U.f,U.c,U.w,U.r,U.n,U.g,U.a,U.X.drop t,U.u,U.v,ds,0):=by
 obtain⟨es,U,inp',ds,t,h1,h2,h3,h4,h5,h6,h7⟩:=Auv ho hin hl hv;exact⟨es,U,inp',ds,t,h1,h2,h3,h4,h5,h6⟩
theorem SRs.len{l:List M8}{es:LI}{ds:List Sad}(h:SRs l es ds):es.length=l.length/\ds.length=l.length:=by
 induction h with
 |nil=>exact⟨rfl,rfl⟩
 |cons _ _ ih=>exact⟨by simp[ih.1],by simp[ih.2]⟩
theorem SRs.at{l:List M8}{es:LI}{ds:List Sad}(h:SRs l es ds):∀(i:Nat) (h1:i<ds.length) (h2:i<es.length),ds[i].1=es[i]:=by
 induction h with
 |nil=>intro i h1;simp at h1
 |cons hd _ ih=>
  intro i h1 h2;cases i with
  |zero=>exact hd.1
  |succ i=>exact ih i (by simpa using h1) (by simpa using h2)
theorem Za(i:Nat)(h:i<=100000):Af (i:Int) 1=((i+1:Nat):Int):=by rw[show(1:Int)=((1:Nat):Int)from rfl,Ag];omega
theorem iw{t z:LB}{i:Nat}(h:i<t.length):Xc (t++z) i=Xc t i:=by
 rw[Xc,Xc,List.getD_eq_getElem?_getD,List.getD_eq_getElem?_getD,List.getElem?_append_left h]
theorem A9(t:LB)(a i:Nat):Xc (t.drop a) i=Xc t (a+i):=by
 rw[Xc,Xc,List.getD_eq_getElem?_getD,List.getD_eq_getElem?_getD,List.getElem?_drop]
theorem Ba6{w:Nat}(hw:Bq (w:Int)){t z:LB}{a:Nat}(h:a+wB (w:Int)<=t.length):sx (wB (w:Int)) (t++z) a=sx (wB (w:Int)) t a:=by
 rcases hw with hw|hw|hw
 ·rw[hw]at h⊢;have e:wB 8=1:=rfl;rw[e]at h⊢;rw[sx,sx,B6 rfl,B6 rfl,iw F0]
 ·rw[hw]at h⊢;have e:wB 16=2:=rfl;rw[e]at h⊢;rw[sx2,sx2,iw F0,iw F0]
 ·rw[hw]at h⊢;have e:wB 24=3:=rfl;rw[e]at h⊢;rw[sx3,sx3,iw F0,iw F0,iw F0]
theorem Aze{w:Nat}(hw:Bq (w:Int))(t:LB)(a b:Nat):sx (wB (w:Int)) (t.drop a) b=sx (wB (w:Int)) t (a+b):=by
 rcases hw with hw|hw|hw
 ·rw[hw,show wB 8=1 from rfl,sx,sx,B6 rfl,B6 rfl,A9]
 ·rw[hw,show wB 16=2 from rfl,sx2,sx2,A9,A9];rfl
 ·rw[hw,show wB 24=3 from rfl,sx3,sx3,A9,A9,A9];rfl
theorem An1{w:Nat}(hw:Bq (w:Int)){t z:LB}{m:Nat}(h:m*wB (w:Int)<=t.length):pB (wB (w:Int)) m (t++z)=pB (wB (w:Int)) m t:=by
 rw[pB,pB];apply Vh;intro x hx;have hx:=List.mem_range.1 hx;have h2:(x+1)*wB (w:Int)<=m*wB (w:Int):=C9 _ hx;rw[C6,HV]at h2;rw[Ba6 hw F0]
theorem Ax5{w:Nat}(hw:Bq (w:Int))(t:LB)(m j:Nat):pB (wB (w:Int)) (m+j) t=pB (wB (w:Int)) m t++pB (wB (w:Int)) j (t.drop (m*wB (w:Int))):=by
 rw[pB,pB,pB,List.range_add,QZ,k_];congr 1;apply Vh;intro x hx
 show Int32.ofInt (sx (wB (w:Int)) t ((m+x)*wB (w:Int)))=_;rw[Aze hw,C6]
theorem Bbo{w:Nat}(hw:Bq (w:Int))(t:LB)(a:Nat): -(hB (w:Int))<=sx (wB (w:Int)) t a/\sx (wB (w:Int)) t a<hB (w:Int):=by
 have b0:=pV t a;have b1:=pV t (a+1);have b2:=pV t (a+2);rcases hw with hw|hw|hw
 ·rw[hw,show wB 8=1 from rfl,show hB 8=128 from rfl,sx,B6 rfl];omega
 ·rw[hw,show wB 16=2 from rfl,show hB 16=32768 from rfl,sx2];split<;>omega
 ·rw[hw,show wB 24=3 from rfl,show hB 24=8388608 from rfl,sx3];split<;>omega
theorem mW{w:Nat}(hw:Bq (w:Int))(m:Nat)(t:LB):inR (w:Int) (pB (wB (w:Int)) m t):=by
 intro x hx;rw[pB,dC]at hx;obtain⟨k,_,rfl⟩:=hx;have h:=Bbo hw t (k*wB (w:Int));have hh:=XU (w:Int);rw[yA F0 F0];exact h
theorem zU(c L:Nat):∀(k:Nat) (x y:LX),k*(L*c)<=x.length->Ky c (x++y) (List.replicate k (L:Int))=Ky c x (List.replicate k (L:Int))
 |0,x,y,_=>rfl
 |k+1,x,y,h=>by
  rw[C6,HV]at h;rw[QR,Ky,Ky,D0,XC F0,Q? F0,zU c L k _ y L6]
theorem X8(c:Nat):∀(l m:LI) (x:LX),(∀z∈l,0<=z)->Ky c x (l++m)=Ky c x l++Ky c (x.drop (l.sum.toNat*c)) m
 |[],m,x,_=>by simp[Ky]
 |z::l,m,x,h=>by
  have hz:=h z M9;have hl:0<=l.sum:=fS λy hy=>h y (J_ _ hy);rw[RK,Ky,Ky,X8 c l m _ (λy hy=>h y (J_ _ hy)),RK,RS,K1,show(z+l.sum).toNat=z.toNat+l.sum.toNat by omega,C6]
theorem As3(k L:Nat):∀z∈List.replicate k (L:Int),0<=z:=λz hz=>by rw[(List.mem_replicate.1 hz).2];omega
theorem o? (k L c:Nat):(List.replicate k (L:Int)).sum.toNat*c=k*(L*c):=by rw[nA,D0,IF]
theorem Ak3(c L k:Nat)(x:LX)(h:x.length=(k+1)*(L*c)):Ky c x (List.replicate (k+1) (L:Int))=Ky c x (List.replicate k (L:Int))++[x.drop (k*(L*c))]:=by
 rw[List.replicate_succ',X8 c _ _ _ (As3 k L),o?,Ky,Ky,D0,H? (by rw[D8,h,C6];omega)]
theorem dG{p:Prop}(h:p:=by rw[De,Ac];simp;omega):p:=h
theorem UG{p:Prop}(h:p:=by rw[C6,HV];omega):p:=h
structure EncOk (c w r:Nat) (p:LB):Prop where
 ch:1<=c/\c<=6
 bits:Bq (w:Int)
 rate:1<=r/\r<=1048576
 pass:p.length<=64
def B7(c w:Nat):Nat:=c*wB (w:Int)
def nE(c w:Nat)(t:LB):Nat:=t.length/B7 c w
def XE(c w:Nat)(t:LB):LX:=pB (wB (w:Int)) (nE c w t*c) t
def RE(c w:Nat)(t:LB):LB:=t.drop (nE c w t*B7 c w)
def kE(c w r:Nat)(t:LB):Nat:=nE c w t/Ak r
def SE(c w r:Nat)(t:LB):LX:=(XE c w t).drop (kE c w r t*(Ak r*c))
def FE(c w r:Nat)(p t:LB):List LB:=(Ky c (XE c w t) (List.replicate (kE c w r t) (Ak r:Int))).map (SV (w:Int) c (Vz p))
def Qg(c r n:Nat):Prop:=n*c<=4000/\ (n=0\/ (n-1)/Ak r+1<=1000)
instance(c r n:Nat):Decidable (Qg c r n):=by unfold Qg;exact inferInstance
theorem Qg.mono{c r n m:Nat}(h:Qg c r n)(hm:m<=n):Qg c r m:=by
 obtain⟨h1,h2⟩:=h;have h3:=C9 c hm;have h4:(m-1)/Ak r<= (n-1)/Ak r:=b? F0;refine⟨F0,?_⟩;omega
section
variable {c w r:Nat} {p:LB} (h:EncOk c w r p) (t:LB)
include h
theorem sN:1<=B7 c w/\B7 c w<=18:=by
 have h1:=D5 (w:Int);have h2:=h.ch;have h3:=R4 (show 0<c by omega) (show 0<wB (w:Int) by omega);have h4:c*wB (w:Int)<=6*3:=G0 h2.2 h1.2;unfold B7;omega
theorem An5:BY (c:Int) (w:Int)=some (B7 c w:Int):=by
 have h2:=h.ch;have hw3:w=8\/w=16\/w=24:=by have:=h.bits;unfold Bq at this;omega
 rcases hw3 with rfl|rfl|rfl
 ·show some (Bs (Bn (c:Int) (8:Int)) 8)=_;rw[Ea,show(c:Int)*8=((c*8:Nat):Int) by omega,show(8:Int)=((8:Nat):Int)from rfl,AF,B7,show wB ((8:Nat):Int)=1 from rfl];congr 2;omega
 ·show some (Bs (Bn (c:Int) (16:Int)) 8)=_;rw[Ea,show(c:Int)*16=((c*16:Nat):Int) by omega,show(8:Int)=((8:Nat):Int)from rfl,AF,B7,show wB ((16:Nat):Int)=2 from rfl];congr 2;omega
 ·show some (Bs (Bn (c:Int) (24:Int)) 8)=_;rw[Ea,show(c:Int)*24=((c*24:Nat):Int) by omega,show(8:Int)=((8:Nat):Int)from rfl,AF,B7,show wB ((24:Nat):Int)=3 from rfl];congr 2;omega
theorem P0:t.length=nE c w t*B7 c w+(RE c w t).length/\ (RE c w t).length<B7 c w:=by
 have hs:=sN h;have h1:=RQ t.length (B7 c w);have h2:=IV t.length (show 0<B7 c w by omega);rw[E!]at h1;have e:(RE c w t).length=t.length-nE c w t*B7 c w:=by rw[RE,D8]
 have e2:nE c w t*B7 c w=t.length/B7 c w*B7 c w:=rfl;omega
omit h in
theorem sM:(XE c w t).length=nE c w t*c:=zP _ _ _
theorem kg:inR (w:Int) (XE c w t):=mW h.bits _ _
theorem qg:nE c w t=kE c w r t*Ak r+nE c w t %Ak r/\nE c w t %Ak r<Ak r:=by
 have _:=h;have hp:=Hb r;have h1:=RQ (nE c w t) (Ak r);rw[E!]at h1;exact⟨h1.symm,IV _ F0⟩
theorem bQ:(SE c w r t).length=nE c w t %Ak r*c:=by
 have h1:=(qg h t).1;rw[SE,D8,sM]
 conv=>lhs;rw[h1]
 rw[C6,<-IF,VH]
omit h in
theorem mR:(FE c w r p t).length=kE c w r t:=by rw[FE,jv,tD,JN]
theorem qd(b:UInt8)(hl:(RE c w t).length+1<B7 c w):nE c w (t++[b])=nE c w t/\XE c w (t++[b])=XE c w t/\RE c w (t++[b])=RE c w t++[b]:=by
 have h1:=P0 h t;have hs:=sN h;have hn:nE c w (t++[b])=nE c w t:=by
  rw[nE,B9,RG];exact TV F0 UG
 refine⟨hn,?_,?_⟩
 ·rw[XE,hn,XE];exact An1 h.bits (by
   have e:nE c w t*c*wB (w:Int)=nE c w t*B7 c w:=by rw[B7,IF]
   rw[e];omega)
 ·rw[RE,hn,RE,Q? F0]
theorem qc(b:UInt8)(hl:¬(RE c w t).length+1<B7 c w):(RE c w t).length+1=B7 c w/\nE c w (t++[b])=nE c w t+1/\XE c w (t++[b])=XE c w t++pB (wB (w:Int)) c (RE c w t++[b])/\RE c w (t++[b])=[]:=by
 have h1:=P0 h t;have hs:=sN h;have hn:nE c w (t++[b])=nE c w t+1:=by
  rw[nE,B9,RG];exact TV UG (by rw[C6,C6,HV];omega)
 have e:nE c w t*c*wB (w:Int)=nE c w t*B7 c w:=by rw[B7,IF]
 refine⟨F0,hn,?_,?_⟩
 ·rw[XE,hn,C6,HV,Ax5 h.bits,An1 h.bits (by rw[e];omega),e,Q? F0];rfl
 ·rw[RE,hn,TN];rw[B9,RG,C6,HV];omega
theorem f_:kE c w r t*(Ak r*c)<= (XE c w t).length:=by
 have h1:=(qg h t).1;rw[sM]
 conv=>rhs;rw[h1]
 rw[C6,<-IF];omega
theorem Baa(hl:(RE c w t).length+1<B7 c w):kE c w r (t++[b])=kE c w r t/\SE c w r (t++[b])=SE c w r t/\FE c w r p (t++[b])=FE c w r p t:=by
 obtain⟨h1,h2,h3⟩:=qd h t b hl;have hk:kE c w r (t++[b])=kE c w r t:=by rw[kE,h1,kE]
 exact⟨hk,by rw[SE,hk,h2,SE],by rw[FE,hk,h2,FE]⟩
theorem Bao(hl:¬(RE c w t).length+1<B7 c w):
  ((SE c w r t++pB (wB (w:Int)) c (RE c w t++[b])).length<Ak r*c->kE c w r (t++[b])=kE c w r t/\SE c w r (t++[b])=SE c w r t++pB (wB (w:Int)) c (RE c w t++[b])/\FE c w r p (t++[b])=FE c w r p t)/\
  (¬(SE c w r t++pB (wB (w:Int)) c (RE c w t++[b])).length<Ak r*c-> (SE c w r t++pB (wB (w:Int)) c (RE c w t++[b])).length=Ak r*c/\kE c w r (t++[b])=kE c w r t+1/\SE c w r (t++[b])=[]/\FE c w r p (t++[b])=FE c w r p t++[SV (w:Int) c (Vz p) (SE c w r t++pB (wB (w:Int)) c (RE c w t++[b]))]):=by
 obtain⟨_,h1,h2,h3⟩:=qc h t b hl;obtain⟨d1,d2⟩:=qg h t;have hsl:=bQ h t;have hc:=h.ch;have hp:=Hb r;have hdk:=f_ h t;have hlen:(SE c w r t++pB (wB (w:Int)) c (RE c w t++[b])).length=(nE c w t %Ak r+1)*c:=by rw[B9,hsl,zP,C6,HV]
 rw[hlen];constructor
 ·intro hlt;have hlt2:nE c w t %Ak r+1<Ak r:=Nat.lt_of_mul_lt_mul_right hlt;have hk:kE c w r (t++[b])=kE c w r t:=by
   rw[kE,h1];exact TV F0 UG
  refine⟨hk,?_,?_⟩
  ·rw[SE,hk,h2,Q? hdk,SE]
  ·rw[FE,hk,h2,zU c (Ak r) _ _ _ hdk,FE]
 ·intro hge;have Bjh:Ak r<=nE c w t %Ak r+1:=by
   refine Nat.le_of_not_lt λhh=>hge ?_;exact uK hh hc.1
  have heq:nE c w t %Ak r+1=Ak r:=F0
  have hk:kE c w r (t++[b])=kE c w r t+1:=by
   rw[kE,h1];exact TV UG (by rw[C6,C6,HV];omega)
  have hXl:(XE c w (t++[b])).length=(kE c w r t+1)*(Ak r*c):=by
   rw[sM,h1,<-IF];congr 1;rw[C6,HV];omega
  refine⟨by rw[heq],hk,?_,?_⟩
  ·rw[SE,hk,<-hXl,OH]
  ·rw[FE,hk,Ak3 c (Ak r) _ _ hXl,QZ,h2,zU c (Ak r) _ _ _ hdk,Q? hdk,FE];rfl
theorem Y? (hR:Qg c r (nE c w t)):∀f∈FE c w r p t,5<=f.length/\f.length<= (81*(Ak r*c)+7)/8+4:=by
 intro f hf;obtain⟨y,hy,rfl⟩:=List.mem_map.1 hf;have hx:(XE c w t).take (kE c w r t*(Ak r*c))++(XE c w t).drop (kE c w r t*(Ak r*c))=XE c w t:=QQ _ _;have hdk:=f_ h t;have hpr:=zU c (Ak r) (kE c w r t) ((XE c w t).take (kE c w r t*(Ak r*c))) ((XE c w t).drop (kE c w r t*(Ak r*c))) T6;rw[hx]at hpr;rw[hpr]at hy;have hp:=Hb r;obtain⟨k,hk,hk2⟩:=uU hy;have hl1:∀z∈List.replicate (kE c w r t) (Ak r:Int),1<=z:=λz hz=>by rw[(List.mem_replicate.1 hz).2];omega
 have hlx:((XE c w t).take (kE c w r t*(Ak r*c))).length=(List.replicate (kE c w r t) (Ak r:Int)).sum.toNat*c:=by rw[o?,C8];omega
 have hg:=Ami c h.ch.1 _ _ hl1 hlx k (by rw[tD]at hk;exact hk) hk;rw[hk2,List.getElem_replicate,D0]at hg;obtain⟨a1,a2,_,_⟩:=I2 c h.ch.1 _ _ hl1 hlx y hy;have hle:y.length<=4000:=by
  have:=hR.1;have h2:((XE c w t).take (kE c w r t*(Ak r*c))).length<= (XE c w t).length:=by rw[C8];omega
  rw[sM]at h2;omega
 have h5:=Ahr (w:Int) c (Vz p) y a1 hle;have he:=ZP c (It (w:Int) c (Vz p) y) y.length;refine⟨h5.1,?_⟩;rw[SV,B9,Dk,SM,BW,<-hg];omega
omit h in
theorem xg(b:List LB)(f a M:Int)(hM:Af (Bs (Af (Bn (Bn 81 f) a) 7) 8) 4=M)(hb:b.length<=100000)(hm:∀y∈b,5<=y.length/\ (y.length:Int)<=M):∀(j i q:Nat),i+j=b.length->j<q->Gc b f a q (i:Int)=some true
 |j,i,0,_,h=>absurd h (G4 _)
 |0,i,q+1,hi,_=>by
  rw[Gc,Pq,B! F2];rfl
 |j+1,i,q+1,hi,hq=>by
  have ih:=xg b f a M hM hb hm j (i+1) q F0 F0;have hy:=hm b[i] (G8 _);have hi1:Af (i:Int) 1=((i+1:Nat):Int):=by rw[Ag];omega
  rw[Gc,Pq,B6 F2,Bl,Aa,AK,NJ,hM,B! lS,MY,NB,hi1];exact ih
theorem Z2:Zy (c:Int) (w:Int) (r:Int) p=some ((Ak r:Int),true):=by
 have hp:=h.pass;rw[Zy,eS h.rate.1 h.rate.2,Aa];simp only;rw[Au3 h.bits h.ch.1 h.ch.2,Aa];simp[Ax,Th,Ac];omega
theorem jq(hR:Qg c r (nE c w t))(p' m' n':LB)(u:Bool)(v k o:Int):Zr (c:Int) k o p' m' (SE c w r t) (FE c w r p t) n' u v (Ak r:Int)=some (nE c w t:Int):=by
 have hc:=h.ch;obtain⟨d1,d2⟩:=qg h t;have hsl:=bQ h t;have hlt:=KE h.rate.2;have hn:nE c w t<=4000:=by
  have:=hR.1;have:nE c w t*1<=nE c w t*c:=OL _ hc.1;omega
 have e1:Bn (Ac (FE c w r p t)) (Ak r:Int)=((kE c w r t*Ak r:Nat):Int):=by
  rw[Ac,mR,Ea K? K?,<-M!]
 have e2:Bs (Ac (SE c w r t)) (c:Int)=((nE c w t %Ak r:Nat):Int):=by
  rw[Ac,hsl,AF (by
   have:nE c w t %Ak r*c<=nE c w t*c:=C9 _ (O1 _ _);have:=hR.1;omega),cT _ F0]
 rw[Zr,Bz E?,Aa,e1,e2,Ag];congr 1;omega
theorem Z0(hR:Qg c r (nE c w t)):Nx (c:Int) (w:Int) (r:Int) p (RE c w t) (SE c w r t) (FE c w r p t) [] false 0=some 0:=by
 have hc:=h.ch;have hw:=h.bits;obtain⟨d1,d2⟩:=qg h t;have hsl:=bQ h t;have htl:=P0 h t;have hlt:=KE h.rate.2;have hp:=Hb r;have hfl:=mR (c:=c) (w:=w) (r:=r) (p:=p) t;have hn4:=hR.1;have hmod:nE c w t %Ak r*c<=nE c w t*c:=C9 _ (O1 _ _);have hn:nE c w t<=4000:=by
  have:nE c w t*1<=nE c w t*c:=OL _ hc.1;omega
 have hfr:kE c w r t+(if 0<nE c w t %Ak r then 1 else 0)<=1000:=by
  rcases hR.2 with h0|h0
  ·have:kE c w r t=0:=by rw[kE,h0];exact U? _
   rw[h0,Nat.zero_mod,this];decide
  ·generalize hq:Ak r=L at*
   have hk:kE c w r t=nE c w t/L:=by rw[kE,hq]
   by_cases hz:0<nE c w t %L
   ·rw[B6 hz];have:(nE c w t-1)/L=kE c w r t:=TV F0 UG;omega
   ·rw[B! hz];by_cases hk0:kE c w r t=0
    ·omega
    ·obtain⟨k',hk'⟩:∃k',kE c w r t=k'+1:=⟨kE c w r t-1,F0⟩;rw[hk',C6,HV]at d1;have:(nE c w t-1)/L=k':=TV F0 UG;omega
 have hcnt:=jq h t hR p (RE c w t) [] false 0 (w:Int) (r:Int);have hin:inR (w:Int) (SE c w r t):=λv hv=>kg h t v (TO hv);have hwc:DI (w:Int) (SE c w r t)=some 0:=by rw[iF hw _ F0,jr hw F0 hin]
 have hroom:∀k:Int,k<=1000->Zj (c:Int) (w:Int) (r:Int) p (RE c w t) (SE c w r t) (FE c w r p t) [] false 0 k (nE c w t:Int)=some true:=by
  intro k hk;rw[Zj,Ea K? K?,<-M!];simp[Th];omega
 have hLc:Ak r*c<=1100000*6:=G0 F0 hc.2;have hM:Af (Bs (Af (Bn (Bn 81 (Ak r:Int)) (c:Int)) 7) 8) 4=(((81*(Ak r*c)+7)/8+4:Nat):Int):=by
  have e1:Bn 81 (Ak r:Int)=((81*Ak r:Nat):Int):=by rw[Ea];omega
  have e2:Bn ((81*Ak r:Nat):Int) (c:Int)=((81*(Ak r*c):Nat):Int):=by
   rw[Ea (by rw[<-M!,IF];omega) (by rw[<-M!,IF];omega),<-M!,IF]
  rw[e1,e2,Ag (a:=((81*(Ak r*c):Nat):Int)) (b:=7) F0 F0,show((81*(Ak r*c):Nat):Int)+7=((81*(Ak r*c)+7:Nat):Int) by omega,show(8:Int)=((8:Nat):Int)from rfl,AF,Ag];omega
 have hloop:=xg (FE c w r p t) (Ak r:Int) (c:Int) _ hM F0 (λy hy=>by
  have:=Y? h t hR y hy;omega) (FE c w r p t).length 0 As F0 F7
 have Bf2:Xr (c:Int) (w:Int) (r:Int) p (RE c w t) (SE c w r t) (FE c w r p t) [] false 0 (Ak r:Int)=some true:=by
  have uD:Bs (Ac (SE c w r t)) (c:Int)=((nE c w t %Ak r:Nat):Int):=by
   rw[Ac,hsl,AF,cT _ F0]
  have Bhh:Gx (Ac (SE c w r t)) (c:Int)=0:=by rw[Ac,hsl,GF,NR];rfl
  have hkk:kE c w r t<=1000:=by split at hfr<;>omega
  rw[Xr,DR,B! F5,An5 h,Aa,B! dG,Bz E?,Aa,Bhh,B! F5,Aa,uD,B! (by simp[De,Ar,Ac,hfl];omega),AO,AS,hwc,Aa,B! F5];by_cases hz:0<nE c w t %Ak r
  ·rw[B6 hz]at hfr;have hpos:=R4 hz (show 0<c by omega);rw[B6 D!,Ty,Tw,hcnt,Aa,Ac,hfl,Ag,hroom _ F0,Aa,B! F5,AW,Tt,AM];exact hloop
  ·have h0:nE c w t %Ak r=0:=F0
   rw[h0,RW]at hsl;rw[B! (by rw[Ar,Ac];simp only[B?];omega),Ty,Tw,hcnt,Aa,Ac,hfl,hroom _ F0,Aa,B! F5,AW,Tt,AM];exact hloop
 rw[Nx,Z2 h,Aa];simp only;rw[B! F5,B! F5,B! F5,Bf2,Aa,B! F5]
end
theorem Z7{p:Prop}(h:p:=by rw[Ad,Ac];simp only[B?];omega):p:=h
theorem lQ{p:Prop}(h:p:=by rw[Ad,Ac,B9,RG];simp;omega):p:=h
theorem Aag(a:List LB)(ha:∀y∈a,y.length<=17179869184)(w:List LB)(hw:w.length=a.length)(ha2:a.length<=100000)(b f g:Int)(h:LB)(k:Bool)(m:Int)(n:LB)(o:LX)(p:LB):∀(j i q:Nat),i+j=a.length->j<q->Xw w a b f g h k m n o p q (i:Int) a=some (b,f,g,h,n,o,a,p,k,m)
 |j,i,0,_,h=>absurd h (G4 _)
 |0,i,q+1,hi,_=>by
  have hc:dJ w a=a:=by rw[dJ,hw,QY,TN F0,F!]
  rw[Xw,PC,hc,B! F2];rfl
 |j+1,i,q+1,hi,hq=>by
  have ih:=Aag a ha w hw ha2 b f g h k m n o p j (i+1) q F0 F0;have hc:dJ w a=a:=by rw[dJ,hw,QY,TN F0,F!]
  have hi1:Af (i:Int) 1=((i+1:Nat):Int):=by rw[Ag];omega
  have hy:=ha a[i] (G8 _);rw[Xw,PC,hc,B6 F2,Bl,Aa,Aa,By,Ay (by simpa using hy),Aa,Aa,Aa,I0,Zv _ F0,Aa,uQ,hi1];exact ih
theorem R? {a:List LB}(ha:∀y∈a,y.length<=17179869184)(ha2:a.length<=100000)(b f g:Int)(h:LB){x:LB}{s:LX}{z:LB}(hx:x.length<=17179869184)(hs:s.length<=17179869184)(hz:z.length<=17179869184)(k:Bool)(m:Int):UM b f g h x s a z k m=some (b,f,g,h,x,s,a,z,k,m):=by
 have hl:=Aag a ha (List.replicate a.length []) (by rw[JN]) ha2 b f g h k m x s z a.length 0 As F0 F7;have hc:dJ (List.replicate a.length []) a=a:=by rw[dJ,JN,QY,TN (by rw[JN];omega),F!]
 rw[UM,bM,By,Ay (by simpa using hx),Aa,Aa,Dx,Ay (by simpa using hs),Aa,Aa,By,Ay (by simpa using hz),Aa,Aa,Bdp,bZ,yF O4 O4,Aa,Bz T8,Aa];simp only[I0,Ac,D0,hc];exact hl
section
variable {c w r:Nat} {p:LB} (h:EncOk c w r p)
include h
theorem wP(t:LB)(hR:Qg c r (nE c w t)):AB (c:Int) (w:Int) (r:Int) p (RE c w t) (SE c w r t) (FE c w r p t) [] false 0=some ((c:Int),(w:Int),(r:Int),p,RE c w t,SE c w r t,FE c w r p t,[],false,0,(Ak r:Int),0):=by
 have h1:=P0 h t;have hs:=sN h;have hsl:=bQ h t;have hfl:=mR (c:=c) (w:=w) (r:=r) (p:=p) t;have hn4:=hR.1;have hmod:nE c w t %Ak r*c<=nE c w t*c:=C9 _ (O1 _ _);have hn:nE c w t<=4000:=by
  have:nE c w t*1<=nE c w t*c:=OL _ h.ch.1;omega
 have hk:kE c w r t<=nE c w t:=G9 _ _;have hlt:=KE h.rate.2;have hLc:Ak r*c<=1100000*6:=G0 F0 h.ch.2;have htw:=R? (a:=FE c w r p t) (λy hy=>by have:=Y? h t hR y hy;omega) F0 (c:Int) (w:Int) (r:Int) p (x:=RE c w t) (s:=SE c w r t) (z:=[]) F0 F0 B8 false 0;rw[AB,XM,Z0 h t hR,Aa,B! F5,eS h.rate.1 h.rate.2,Aa];simp only;rw[B! F5,B! F5,DF,BO,htw,Aa]
abbrev Bgc:=Int×Int×Int×LB×LB×LX×(List LB)×LB×Bool×Int×Int
def J4(c w r:Nat)(p t:LB):Bgc:=if Qg c r (nE c w t)then((c:Int),(w:Int),(r:Int),p,RE c w t,SE c w r t,FE c w r p t,[],false,0,0)else((c:Int),(w:Int),(r:Int),p,[],[],[],[],false,18,18)
theorem Ab2(t b:LB)(hb:b.length<=1000000):∀(j u q:Nat) (T:LB),u+j=b.length->j<q->T=t++b.take u->Qg c r (nE c w T)->Mz (B7 c w:Int) b (c:Int) (w:Int) (r:Int) p false 0 (Ak r:Int) [] q (u:Int) (RE c w T) (SE c w r T) (FE c w r p T)=some (J4 c w r p (t++b))
 |j,u,0,T,_,h,_,_=>absurd h (G4 _)
 |0,u,q+1,T,hu,_,hT,hR=>by
  rw[H? F0]at hT;rw[Mz,MC,B! F2,YT,Az7,J4,<-hT,B6 hR]
 |j+1,u,q+1,T,hu,hq,hT,hR=>by
  have hc:=h.ch;have hs:=sN h;have hu1:Af (u:Int) 1=((u+1:Nat):Int):=by rw[Ag];omega
  have hT':T++[b[u]' F0]=t++b.take (u+1):=by rw[hT,Ho F0,F_]
  have hpre:(T++[b[u]' F0]).length<= (t++b).length:=by rw[hT',B9,B9,C8];omega
  have hmono:nE c w (T++[b[u]' F0])<=nE c w (t++b):=b? hpre;have hgd:Aj b (u:Int)=some (b[u]' F0):=Bl;generalize b[u]' F0=d at hT' hpre hmono hgd⊢;have ih:=Ab2 t b hb j (u+1) q (T++[d]) F0 F0 hT';have htl:=P0 h T;have hsl:=bQ h T;have hfl:=mR (c:=c) (w:=w) (r:=r) (p:=p) T;have hn4:=hR.1;have hmod:nE c w T %Ak r*c<=nE c w T*c:=C9 _ (O1 _ _);have hn:nE c w T<=4000:=by
   have:nE c w T*1<=nE c w T*c:=OL _ hc.1;omega
  have hk:kE c w r T<=nE c w T:=G9 _ _;have hlt:=KE h.rate.2;rw[Mz,MC,B6 F2,hgd,Aa,Ay F6,Aa];by_cases hlt1:(RE c w T).length+1<B7 c w
  ·obtain⟨m1,m2,m3⟩:=qd h T d hlt1;obtain⟨g1,g2,g3⟩:=Baa h T (b:=d) hlt1;rw[m1,m3,g2,g3]at ih;rw[B6 lQ,Vi,LH,hu1];exact ih hR
  ·obtain⟨m0,m1,m2,m3⟩:=qc h T d hlt1;obtain⟨g1,g2⟩:=Bao h T (b:=d) hlt1;have hcnt:=jq h T hR p (RE c w T++[d]) [] false 0 (w:Int) (r:Int);have hroom:Zj (c:Int) (w:Int) (r:Int) p (RE c w T++[d]) (SE c w r T) (FE c w r p T) [] false 0 (Af (Ac (FE c w r p T)) 1) (Af (nE c w T:Int) 1)=some (decide ((kE c w r T:Int)+1<=1000)&&decide ((((nE c w T+1)*c:Nat):Int)<=4000)):=by
    have hle:(nE c w T+1)*c<=4001*6:=G0 F0 hc.2;rw[Zj,Ac,hfl,Ag,Ag,show(nE c w T:Int)+1=((nE c w T+1:Nat):Int) by omega,Ea K? K?,<-M!,Th,Th]
   rw[B! lQ,hcnt,Aa,hroom,Aa];by_cases hok:kE c w r T+1<=1000/\ (nE c w T+1)*c<=4000
   ·have hR':Qg c r (nE c w (T++[d])):=by rw[m1];exact⟨hok.2, .inr (by rw[cR];exact hok.1)⟩
    have ih:=ih hR';have uE:=Adp (RE c w T++[d]) h.bits (m:=c) (by rw[B9,RG,m0];rfl) F0;have hLc:Ak r*c<=1100000*6:=G0 F0 hc.2;have hmul:Bn (Ak r:Int) (c:Int)=((Ak r*c:Nat):Int):=by rw[Ea K? K?,<-M!]
    rw[B! (by rw[L! (show(kE c w r T:Int)+1<=1000 by omega),L! (show(((nE c w T+1)*c:Nat):Int)<=4000 by omega)];decide),XY,Az8,uE,Aa];simp only;rw[B! F5,Ay (by rw[zP];omega),Aa,hmul];by_cases hfull:(SE c w r T++pB (wB (w:Int)) c (RE c w T++[d])).length<Ak r*c
    ·obtain⟨k1,k2,k3⟩:=g1 hfull;rw[m3,k2,k3]at ih;rw[B6 Z7,Np,LJ,B! F5,Vi,LH,hu1];exact ih
    ·obtain⟨k0,k1,k2,k3⟩:=g2 hfull;rw[m3,k2,k3]at ih;have hXl:Ak r*c<=4000:=by
      have e:=hR'.1;have hlen:(XE c w (T++[d])).length=nE c w (T++[d])*c:=sM (T++[d]);have hdk:=f_ (r:=r) h (T++[d]);rw[k1,C6,HV]at hdk;omega
     have hin:inR (w:Int) (SE c w r T++pB (wB (w:Int)) c (RE c w T++[d])):=by
      intro v hv;rw[d!]at hv;rcases hv with hv|hv
      ·exact kg h T v (TO hv)
      ·exact mW h.bits _ _ v hv
     have hLp:=R4 (Hb r) hc.1;have henc:=Ac6 (t:=Vz p) (x:=SE c w r T++pB (wB (w:Int)) c (RE c w T++[d])) h.bits (Vw p) hc.1 hc.2 F0 F0 (by rw[k0];exact NR _ _) hin;rw[B! Z7,zX p h.pass,Aa];simp only;rw[B! F5,henc,Aa];simp only;rw[B! F5,Ay F6,Aa,Aza,Baz,Np,LJ,B! F5,Vi,LH,hu1];exact ih
   ·have hno:¬Qg c r (nE c w (t++b)):=by
     intro hh;have:=hh.mono hmono;rw[m1]at this;obtain⟨z1,z2⟩:=this;apply hok;rw[cR]at z2;have hkE:kE c w r T=nE c w T/Ak r:=rfl;omega
    rw[B6 (by
     rw[G6,Bool.and_eq_false_iff,N2,N2];omega),Np,LJ,B6 F5,EX,Aa,J4,B! hno]
theorem Ajy(t b:LB)(hb:b.length<=1000000)(hR:Qg c r (nE c w t)):Fx (c:Int) (w:Int) (r:Int) p (RE c w t) (SE c w r t) (FE c w r p t) [] false 0 b=some (J4 c w r p (t++b)):=by
 have hl:=Ab2 h t b hb b.length 0 As t F0 F7 B8 hR;rw[Fx,PF,wP h t hR,Aa];simp only;rw[B! F5,An5 h,Aa,Bav];exact hl
theorem Ao3:KJ (c:Int) (w:Int) (r:Int) p=some ((c:Int),(w:Int),(r:Int),p,RE c w [],SE c w r [],FE c w r p [],[],false,0,0):=by
 have h0:nE c w []=0:=U? _;have hk:kE c w r []=0:=by rw[kE,h0];exact U? _
 rw[KJ,Z2 h,Aa];simp only;rw[B! F5,RE,SE,FE,XE,hk,h0];simp[pB,Ky]
omit h in
theorem xw(c r:Nat):Qg c r 0:=⟨F0, .inl rfl⟩
end
theorem Af6 (l:List LB)(hf:l.flatten.length<=1000000)(hl:l.length<=1000000)(v:LB)(hfin:Ir l (l.flatten.length:Int)=some v):∀(j i q:Nat),i+j=l.length->j<q->Dh l q (((l.take i).flatten.length:Nat):Int) (i:Int)=some v
 |j,i,0,_,h=>absurd h (G4 _)
 |0,i,q+1,hi,_=>by
  rw[Dh,Es,B! F2,H? F0];exact hfin
 |j+1,i,q+1,hi,hq=>by
  have ih:=Af6 l hf hl v hfin j (i+1) q F0 F0;have hi1:Af (i:Int) 1=((i+1:Nat):Int):=by rw[Ag];omega
  have hsn:(l.take (i+1)).flatten=(l.take i).flatten++l[i]:=by rw[Ho F0,TZ];simp
  have hsp:l.flatten=(l.take (i+1)).flatten++(l.drop (i+1)).flatten:=by rw[<-TZ,QQ]
  have hle:((l.take i).flatten).length+(l[i]).length<=1000000:=by
   rw[hsp,B9,hsn,B9]at hf;omega
  have hadd:Af (((l.take i).flatten.length:Nat):Int) (Ac l[i])=(((l.take (i+1)).flatten.length:Nat):Int):=by
   rw[Ac,Ag,hsn,B9];omega
  rw[Dh,Es,B6 F2,Bl,Aa,hadd,B! (by rw[Ad];simp only[B?];omega),hi1];exact ih
theorem Akr(l:List LB)(hf:l.flatten.length<=1000000)(hl:l.length<=1000000):∀(j i q:Nat),i+j=l.length->j<q->Da l q (i:Int) (l.take i).flatten=some l.flatten
 |j,i,0,_,h=>absurd h (G4 _)
 |0,i,q+1,hi,_=>by
  rw[Da,Ei,B! F2,H? F0];rfl
 |j+1,i,q+1,hi,hq=>by
  have ih:=Akr l hf hl j (i+1) q F0 F0;have hi1:Af (i:Int) 1=((i+1:Nat):Int):=by rw[Ag];omega
  have hsn:(l.take (i+1)).flatten=(l.take i).flatten++l[i]:=by rw[Ho F0,TZ];simp
  have hsp:l.flatten=(l.take (i+1)).flatten++(l.drop (i+1)).flatten:=by rw[<-TZ,QQ]
  have hle:((l.take i).flatten).length+(l[i]).length<=1000000:=by
   rw[hsp,B9,hsn,B9]at hf;omega
  rw[Da,Ei,B6 F2,Bl,Aa,Ay,Aa,hi1,<-hsn];exact ih
theorem Al8(l:List LB)(hf:l.flatten.length<=1000000)(hl:l.length<=1000000):Gg l=some l.flatten:=by
 have h3:Io l []=some l.flatten:=by
  rw[Io,Ns,Nq];exact Akr l hf hl l.length 0 As F0 F7
 have h11:Ir l (l.flatten.length:Int)=some l.flatten:=by
  have z:Ap (0:Int) 0=0:=F5
  rw[Ir,Nt,B! (by rw[Ad];simp only[B?];omega),Vc,Nu,z,Ca,Int.sub_zero];by_cases hp:0<l.flatten.length
  ·rw[B6 (by rw[Ar];simp only[B?];omega),show pE (0:Int) 0 0=some ()from rfl,Aa,yF,Aa,Ay (by simp only[T5,JN];omega),Aa];rw[show pE (Ac ([]++List.replicate ((l.flatten.length:Nat):Int).toNat (0:UInt8))) 0 0=some () by rw[pE,Bz];simp[Ac],Aa];simp only[jS,Int.sub_self,lE,Q_];exact h3
  ·rw[B! (by rw[Ar];simp only[B?];omega)];exact h3
 have:=Af6 l hf hl _ h11 l.length 0 As F0 F7;exact this
theorem Akj{p:LB}(hp:p.length<=64):ZK p=some ((NU p:Int),0):=by
 rw[ZK,B! D!,NU];by_cases h:p=[]
 ·rw[B6 (by rw[Ax,Ac,h];rfl),B6 h];rfl
 ·have:p.length≠0:=λe=>h (Q8 e);rw[B! (by rw[Ax,Ac,E3];omega),B! h];rfl
theorem Aa5 (a:List LB)(ha:a.length<=100000)(f g h:Int)(b k:LB)(m:LX)(n:LB)(o:Bool)(p:Int)(u v:LB)(hfin:FM f g h b k m a n o p u (Mp a)=some (v,0)):∀(j i q:Nat),i+j=a.length->j<q->Xu a f g h b k m n o p u q (i:Int) (Mp (a.take i))=some (v,0)
 |j,i,0,_,h=>absurd h (G4 _)
 |0,i,q+1,hi,_=>by
  rw[Xu,OT,B! F2,H? F0];exact hfin
 |j+1,i,q+1,hi,hq=>by
  have ih:=Aa5 a ha f g h b k m n o p u v hfin j (i+1) q F0 F0;have hi1:Af (i:Int) 1=((i+1:Nat):Int):=by rw[Ag];omega
  have hll:(Mp (a.take i)).length=i:=by rw[JU,C8];omega
  have hsn:Mp (a.take i)++[Ac a[i]]=Mp (a.take (i+1)):=by rw[Ho F0,Mp,Mp,QZ];rfl
  rw[Xu,OT,B6 F2,Bl,Aa,Ay F6,Aa,hsn,hi1];exact ih
theorem Aif{c w r n:Nat}{x:LX}(h:ClipOk c w r n x){p:LB}(hp:p.length<=64)(k:LB)(m:LX)(n':LB)(o:Bool)(e:Int):eN (c:Int) (w:Int) (r:Int) p k m (dW c w r n x p) n' o e (n:Int)=some (cS c w r n x p,0):=by
 have hn:=ZR h p;have hl:=yg h p;have hlen:=X4 (c:=c) (w:=w) (r:=r) (n:=n) (x:=x) p;have hdl:=mL p;have hfin:FM (c:Int) (w:Int) (r:Int) p k m (dW c w r n x p) n' o e (SQ (NU p) c w r n++P5 p) (Mp (dW c w r n x p))=some (cS c w r n x p,0):=by
  have hh:=V7 (NU p) c w r n;have ht:=X? (Mp (dW c w r n x p));have hll:=JU (dW c w r n x p);rw[FM,OS,Aj2,B6 (Ag0 h p),Aa];simp only;rw[B! F5,Ay N0,Aa,Al8 _ F0 F0,Aa,Ay (by rw[B9,B9];omega),Aa];simp[cS]
 have hlp:=Aa5 (dW c w r n x p) F0 (c:Int) (w:Int) (r:Int) p k m n' o e (SQ (NU p) c w r n++P5 p) _ hfin (dW c w r n x p).length 0 As F0 F7;rw[eN,bG,Akj hp,Aa];simp only;rw[B! F5,Afd (h.shape _ (Aij p)) h.fit,Aa];simp only;rw[B! F5];by_cases h0:p=[]
 ·have e2:P5 p=[]:=by rw[P5,B6 h0]
  rw[e2,F!]at hlp;rw[B! (by simp[h0]),bE,PD];exact hlp
 ·have e2:P5 p=DZ (MI p).toNat 8:=by rw[P5,B! h0]
  rw[e2]at hlp;rw[B6 (by simpa using h0),xA p hp,Aa];simp only;rw[B! F5,Ay (by rw[V7,Dk];omega),Aa,bE,PD];exact hlp
section
variable {c w r:Nat} {p:LB} (h:EncOk c w r p) (t:LB) (hR:Qg c r (nE c w t))
include h hR
theorem e? (h1:1<=nE c w t):ClipOk c w r (nE c w t) (XE c w t):=by
 have hc:=h.ch;refine⟨hc,h.bits,h.rate,⟨h1,?_⟩,sM t,?_,kg h t⟩
 ·rw[Nat.le_div_iff_mul_le F0];exact hR.1
 ·rcases hR.2 with h0|h0
  ·omega
  ·exact h0
omit hR in
theorem Aa0(h1:1<=nE c w t):dW c w r (nE c w t) (XE c w t) p=FE c w r p t++(if SE c w r t=[]then []else [SV (w:Int) c (Vz p) (SE c w r t)]):=by
 have hc:=h.ch;have hp:=Hb r;obtain⟨d1,d2⟩:=qg h t;have hsl:=bQ h t;have key:UX c r (nE c w t) (XE c w t)=Ky c (XE c w t) (List.replicate (kE c w r t) (Ak r:Int))++(if SE c w r t=[]then []else [SE c w r t]):=by
  by_cases hz:nE c w t %Ak r=0
  ·have hS:SE c w r t=[]:=Q8 (by rw[hsl,hz,RW]);rw[B6 hS,F!,UX];congr 1;rw[hz,N7]at d1;have hk1:1<=kE c w r t:=by
    rcases W2 (kE c w r t)with h0|h0
    ·rw[h0,RW]at d1;omega
    ·exact h0
   obtain⟨k',hk'⟩:∃k',kE c w r t=k'+1:=⟨kE c w r t-1,F0⟩;have hd:(nE c w t-1)/Ak r=k':=by
    rw[hk',C6,HV]at d1;exact TV F0 UG
   rw[Az,hd,hk',List.replicate_succ'];congr 2;rw[hk',C6,HV]at d1;omega
  ·have hS:SE c w r t≠ []:=by
    intro e;have:=congrArg List.length e;rw[hsl,T5]at this;rcases Nat.mul_eq_zero.1 this with h0|h0<;>omega
   have hd:(nE c w t-1)/Ak r=kE c w r t:=TV F0 UG;have hdk:=f_ (r:=r) h t;rw[B! hS,UX,Az,hd,X8 c _ _ _ (As3 _ _),o?,Ky,Ky,D0];congr 2;rw[H?]
   ·rfl
   ·rw[D8,sM,<-IF,<-RR];exact D3 _
 rw[dW,key,QZ,FE];congr 1;split<;>rfl
theorem Ao9 :Hm (c:Int) (w:Int) (r:Int) p (RE c w t) (SE c w r t) (FE c w r p t) [] false 0=
  some (if RE c w t≠ []\/nE c w t=0 then((c:Int),(w:Int),(r:Int),p,[],[],[],[],false,24,24)else((c:Int),(w:Int),(r:Int),p,[],[],[],cS c w r (nE c w t) (XE c w t) p,true,0,0)):=by
 have hc:=h.ch;have hsl:=bQ h t;have hfl:=mR (c:=c) (w:=w) (r:=r) (p:=p) t;have hn4:=hR.1;have hmod:nE c w t %Ak r*c<=nE c w t*c:=C9 _ (O1 _ _);have hn:nE c w t<=4000:=by
  have:nE c w t*1<=nE c w t*c:=OL _ hc.1;omega
 have hk:kE c w r t<=nE c w t:=G9 _ _;rw[Hm,VL,wP h t hR,Aa];simp only;rw[B! F5,jq h t hR,Aa];by_cases hbad:RE c w t≠ []\/nE c w t=0
 ·have hcond:((Ec (Ac (RE c w t)) 0)||(geq (nE c w t:Int) 0))=true:=by
   rcases hbad with h0|h0
   ·have:RE c w t≠ []:=h0;have hl:0<(RE c w t).length:=List.length_pos_iff.2 this;rw[Ar,Ac,HU];left;simpa using hl
   ·rw[h0];simp[Ax]
  rw[B6 hbad,B6 hcond,EX,Aa]
 ·have hR0:RE c w t=[]:=by
   by_cases h0:RE c w t=[]
   ·exact h0
   ·exact absurd (.inl h0) hbad
  have hn1:1<=nE c w t:=by
   rcases W2 (nE c w t)with h0|h0
   ·exact absurd (.inr h0) hbad
   ·exact h0
  have hcl:=e? h t hR hn1;have hfr:=Aa0 h t hn1;have hcond:¬(((Ec (Ac (RE c w t)) 0)||(geq (nE c w t:Int) 0))=true):=by rw[hR0];simp[Ar,Ax,Ac];omega
  rw[B! hbad,B! hcond];by_cases hS:SE c w r t=[]
  ·rw[B6 hS,F!]at hfr;have hf:=Aif hcl h.pass (RE c w t) (SE c w r t) [] false 0;rw[hfr]at hf;rw[B! (by rw[hS];decide),IK,TE,hf,Aa];simp only;rw[B! F5]
  ·rw[B! hS]at hfr;have hl:0<(SE c w r t).length:=List.length_pos_iff.2 hS;have hin:inR (w:Int) (SE c w r t):=λv hv=>kg h t v (TO hv);have henc:=Ac6 (t:=Vz p) (x:=SE c w r t) h.bits (Vw p) hc.1 hc.2 F0 F0 (by rw[hsl];exact NR _ _) hin;have hf:=Aif hcl h.pass (RE c w t) [] [] false 0;rw[hfr]at hf;rw[B6 (by rw[Ar,Ac];simpa using hl),zX p h.pass,Aa];simp only;rw[B! F5,henc,Aa];simp only;rw[B! F5,Ay F6,Aa,Av2,Auf,B! F5,IK,TE,hf,Aa];simp only;rw[B! F5]
end
structure Brst (b x:LB):Prop where
 len:x.length=b.length
 win:∃k W:Nat,0<W/\W<2^32/\Hl b^^^Hl x=2^k*W
theorem Brst.ne{b x:LB}(h:Brst b x):b≠x:=by
 obtain⟨_,k,W,h1,h2,h3⟩:=h;intro e;rw[e,Nat.xor_self]at h3;have:=R4 (Nat.two_pow_pos k) h1;omega
inductive Pl (S D A:Int) (G:Nat->Int) (l:LI) (a:Int):UInt8->Int->Int->Prop
 |t:a<S->Pl S D A G l a 1 0 0
 |h:S<=a->a<S+22->Pl S D A G l a 2 0 0
 |d:S+22<=a->a<D->Pl S D A G l a 3 0 0
 |s:S+22<=a->D<=a->a<A->Pl S D A G l a 4 0 0
 |f (i:Nat):S+22<=a->D<=a->A<=a->i<l.length->A+(l.take i).sum<=a->a<A+(l.take (i+1)).sum->Pl S D A G l a 5 i (G i)
 |b:S+22<=a->D<=a->A<=a->A+l.sum<=a->Pl S D A G l a 6 0 0
theorem ClipOk.enc{c w r n:Nat}{x:LX}(h:ClipOk c w r n x){p:LB}(hp:p.length<=64):EncOk c w r p:=⟨h.ch,h.bits,h.rate,hp⟩
theorem Bh.len{o s p:LB}{f c w r n:Int}{g:LI}{a:Int}{x:LB}{e:Int}(h:Bh o s p f c w r n g a x e):p.length<=s.length/\g.length<=1000/\x.length<=13000000:=by
 cases h with
 |wt W hl hb=>exact⟨hl,W.sz.hg,by have:=W.sz.hx;omega⟩
 |er h0 hc hx hb=>exact⟨B8,B8,F0⟩
theorem lV{p:Prop}(h:p:=by simp[Am,Ar,Ac];omega):p:=h
theorem Aj6(C W R:Int)(p:LB):Dw C W R p=some 2\/ (∃c w r:Nat,C=(c:Int)/\W=(w:Int)/\R=(r:Int)/\EncOk c w r p/\Dw C W R p=some 0):=by
 have key:∀(m h:Int),Fe R=some (m,h)-> (h≠0\/Cv C W=some 2\/64<p.length)-> (∃k,Cv C W=some k)->Dw C W R p=some 2:=by
  intro m h h1 h2 ⟨k,hk⟩;rw[Dw,h1,Aa];simp only;rw[hk,Aa,B6];rcases h2 with h2|h2|h2
  ·have:Bj h 0=true:=by rw[Am];simpa using h2
   rw[this];simp
  ·rw[hk]at h2;have:=QT h2;subst this;simp[Am]
  ·have:Ec (Ac p) 64=true:=by rw[Ar,Ac];simp;omega
   rw[this];simp
 have hlong:∃m h,Fe R=some (m,h)/\ (h≠0↔ ¬(1<=R/\R<=1048576)):=by
  by_cases hR:1<=R/\R<=1048576
  ·obtain⟨r,rfl⟩:=G5 (show 0<=R by omega);exact⟨_,0,pH F0 F0,by simp;omega⟩
  ·rw[Fe,B6 H7];exact⟨0,2,rfl,by simp;omega⟩
 have Bhi:(Cv C W=some 2)\/ (1<=C/\C<=6/\Bq W/\Cv C W=some 0):=by
  rw[Cv];by_cases hC:((Cj C 1)||(Ec C 6))=true
  ·rw[B6 hC];exact .inl rfl
  ·rw[B! hC];simp only[HU,not_or,Ar,Ad,B?]at hC;by_cases hb:Bq W
   ·have hh:=XU W;rw[oS hb,Aa,B! G2];exact .inr ⟨F0,F0,hb,rfl⟩
   ·rw[(Aun hb).1,Aa,B6 F5];exact .inl rfl
 obtain⟨m,hh,hl1,hl2⟩:=hlong;rcases Bhi with h1|⟨h1,h2,h3,h4⟩
 ·exact .inl (key m hh hl1 (.inr (.inl h1)) ⟨2,h1⟩)
 ·by_cases hR:1<=R/\R<=1048576
  ·by_cases hp:64<p.length
   ·exact .inl (key m hh hl1 (.inr (.inr hp)) ⟨0,h4⟩)
   ·have hh0:hh=0:=by
     refine uL λhn=>?_;exact(hl2.1 hn) hR
    obtain⟨c,rfl⟩:=G5 (show 0<=C by omega);obtain⟨r,rfl⟩:=G5 (show 0<=R by omega);have hw:∃w:Nat,W=(w:Int):=by
     rcases h3 with rfl|rfl|rfl
     ·exact⟨8,rfl⟩
     ·exact⟨16,rfl⟩
     ·exact⟨24,rfl⟩
    obtain⟨w,rfl⟩:=hw;refine .inr ⟨c,w,r,rfl,rfl,rfl,⟨F0,h3,F0,F0⟩,?_⟩;rw[Dw,hl1,Aa];simp only;rw[h4,Aa,hh0,B! lV]
  ·exact .inl (key m hh hl1 (.inl (hl2.2 hR)) ⟨0,h4⟩)
structure Ue where
 m:LB
 s:LX
 fr:List LB
 X:LB
 u:Bool
 v:Int
def iT(X:LB)(u:Bool)(v k:Int):Prop:=(X=[]/\u=false/\ (v=18\/v=24)/\k=v)\/ (u=true/\v=0/\k=36)
theorem iT.drop{X:LB}{v k:Int}(h:iT X u v k)(t:Nat):iT (X.drop t) u v k:=by
 rcases h with⟨h1,h2⟩|h
 ·exact .inl ⟨by rw[h1];simp,h2⟩
 ·exact .inr h
theorem iT.ne{X:LB}{v k:Int}(h:iT X u v k):Bj k 0=true:=by
 rcases h with⟨_,_,h1|h1,h2⟩|⟨_,_,h2⟩
 ·rw[h2,h1];decide
 ·rw[h2,h1];decide
 ·rw[h2];decide
inductive OkE (c w r:Nat) (p:LB) (L:Nat):Ue->Prop
 |live {t:LB}:t.length+L<=600->Qg c r (nE c w t)->OkE c w r p L ⟨RE c w t,SE c w r t,FE c w r p t,[],false,0⟩
 |stop {X:LB} {u:Bool} {v k:Int}:X.length<=20000->iT X u v k->OkE c w r p L ⟨[],[],[],X,u,v⟩
section
variable {c w r:Nat} {p:LB} (h:EncOk c w r p)
include h
theorem X2{X:LB}{v k:Int}(hX:X.length<=20000)(hs:iT X u v k):Nx (c:Int) (w:Int) (r:Int) p [] [] [] X u v=some 0:=by
 rw[Nx,Z2 h,Aa];simp only;rw[B! F5];rcases hs with⟨rfl,rfl,h1|h1,_⟩|⟨rfl,rfl,_⟩
 ·subst h1;rw[B6 F5,B! F5]
 ·subst h1;rw[B6 F5,B! F5]
 ·rw[B! F5,B6 (by trivial),B!];have:vA (Ac X) 100000=true:=by rw[Th,Ac];simp;omega
  rw[this];decide
theorem Be3{X:LB}{v k:Int}(hX:X.length<=20000)(hs:iT X u v k):AB (c:Int) (w:Int) (r:Int) p [] [] [] X u v=some ((c:Int),(w:Int),(r:Int),p,[],[],[],X,u,v,(Ak r:Int),k):=by
 have htw:=R? (a:=[]) (λy hy=>by simp at hy) B8 (c:Int) (w:Int) (r:Int) p (x:=[]) (s:=[]) (z:=X) B8 B8 F0 u v;rw[AB,XM,X2 h hX hs,Aa,B! F5,eS h.rate.1 h.rate.2,Aa];simp only;rcases hs with⟨h0,h2,h1|h1,h3⟩|⟨h2,h1,h3⟩
 ·rw[h1]at htw⊢;rw[B6 F5,DF,BO,htw,Aa,h3,h1]
 ·rw[h1]at htw⊢;rw[B6 F5,DF,BO,htw,Aa,h3,h1]
 ·rw[h1,h2]at htw⊢;rw[B! F5,B6 rfl,DF,BO,htw,Aa,h3]
theorem rD{X:LB}{v k:Int}(hX:X.length<=20000)(hs:iT X u v k)(b:LB):Fx (c:Int) (w:Int) (r:Int) p [] [] [] X u v b=some ((c:Int),(w:Int),(r:Int),p,[],[],[],X,u,v,k):=by
 rw[Fx,PF,Be3 h hX hs,Aa];simp only;rw[B6 hs.ne]
theorem zI{X:LB}{v k:Int}(hX:X.length<=20000)(hs:iT X u v k):Hm (c:Int) (w:Int) (r:Int) p [] [] [] X u v=some ((c:Int),(w:Int),(r:Int),p,[],[],[],X,u,v,k):=by
 rw[Hm,VL,Be3 h hX hs,Aa];simp only;rw[B6 hs.ne]
def eV(c w r:Nat)(p t:LB):Ue:=if Qg c r (nE c w t)then⟨RE c w t,SE c w r t,FE c w r p t,[],false,0⟩else⟨[],[],[],[],false,18⟩
def fiE(c w r:Nat)(p t:LB):Ue:=if Qg c r (nE c w t)then(if RE c w t≠ []\/nE c w t=0 then⟨[],[],[],[],false,24⟩else⟨[],[],[],cS c w r (nE c w t) (XE c w t) p,true,0⟩)else⟨[],[],[],[],false,18⟩
omit h in
theorem pU{t:LB}{L:Nat}(ht:t.length+L<=600):OkE c w r p L (eV c w r p t):=by
 rw[eV];split
 ·rename_i hR;exact .live ht hR
 ·exact .stop (k:=18) B8 (.inl ⟨rfl,rfl, .inl rfl,rfl⟩)
theorem qb(t:LB):nE c w t*c<=t.length:=by
 have h1:=P0 h t;have h2:nE c w t*c<=nE c w t*B7 c w:=by
  rw[B7];refine OL _ ?_;have:=sN h;rw[B7]at this;rcases W2 (wB (w:Int))with h0|h0
  ·rw[h0]at this;omega
  ·exact VO _ h0
 omega
theorem Avj{t:LB}(ht:t.length<=600)(hR:Qg c r (nE c w t))(h1:1<=nE c w t):(cS c w r (nE c w t) (XE c w t) p).length<=20000:=by
 have hcl:=e? h t hR h1;have e1:=Ajt hcl p;have e2:=(ZR hcl p).2;have e3:=sM (c:=c) (w:=w) t;have e4:=qb h t;omega
theorem Atm{t:LB}(ht:t.length<=600):∃(X:LB) (u:Bool) (v k:Int),fiE c w r p t=⟨[],[],[],X,u,v⟩/\X.length<=20000/\iT X u v k:=by
 rw[fiE];split
 ·rename_i hR;split
  ·exact⟨_,_,_,24,rfl,B8, .inl ⟨rfl,rfl, .inr rfl,rfl⟩⟩
  ·rename_i hb;have h1:1<=nE c w t:=by
    rcases W2 (nE c w t)with h0|h0
    ·exact absurd (.inr h0) hb
    ·exact h0
   exact⟨_,_,_,36,rfl,Avj h ht hR h1, .inr ⟨rfl,rfl,rfl⟩⟩
 ·exact⟨_,_,_,18,rfl,B8, .inl ⟨rfl,rfl, .inl rfl,rfl⟩⟩
theorem Aw1(t b:LB)(hb:b.length<=1000000):∃e:Int,Fx (c:Int) (w:Int) (r:Int) p (eV c w r p t).m (eV c w r p t).s (eV c w r p t).fr (eV c w r p t).X (eV c w r p t).u (eV c w r p t).v b=some ((c:Int),(w:Int),(r:Int),p,(eV c w r p (t++b)).m,(eV c w r p (t++b)).s,(eV c w r p (t++b)).fr,(eV c w r p (t++b)).X,(eV c w r p (t++b)).u,(eV c w r p (t++b)).v,e):=by
 have hmono:nE c w t<=nE c w (t++b):=b? N0;by_cases hR:Qg c r (nE c w t)
 ·have h1:=Ajy h t b hb hR;have e1:eV c w r p t=⟨RE c w t,SE c w r t,FE c w r p t,[],false,0⟩:=by rw[eV,B6 hR]
  rw[e1];simp only;rw[h1,J4];by_cases hR2:Qg c r (nE c w (t++b))
  ·rw[B6 hR2,eV,B6 hR2];exact⟨_,rfl⟩
  ·rw[B! hR2,eV,B! hR2];exact⟨_,rfl⟩
 ·have hR2:¬Qg c r (nE c w (t++b)):=λhh=>hR (hh.mono hmono);have e1:eV c w r p t=⟨[],[],[],[],false,18⟩:=by rw[eV,B! hR]
  have e2:eV c w r p (t++b)=⟨[],[],[],[],false,18⟩:=by rw[eV,B! hR2]
  rw[e1,e2];exact⟨18,rD h B8 (.inl ⟨rfl,rfl, .inl rfl,rfl⟩) b⟩
theorem Bcm(t:LB):∃e:Int,Hm (c:Int) (w:Int) (r:Int) p (eV c w r p t).m (eV c w r p t).s (eV c w r p t).fr (eV c w r p t).X (eV c w r p t).u (eV c w r p t).v=some ((c:Int),(w:Int),(r:Int),p,(fiE c w r p t).m,(fiE c w r p t).s,(fiE c w r p t).fr,(fiE c w r p t).X,(fiE c w r p t).u,(fiE c w r p t).v,e):=by
 by_cases hR:Qg c r (nE c w t)
 ·have e1:eV c w r p t=⟨RE c w t,SE c w r t,FE c w r p t,[],false,0⟩:=by rw[eV,B6 hR]
  rw[e1];simp only;rw[Ao9 h t hR,fiE,B6 hR];by_cases hb:RE c w t≠ []\/nE c w t=0
  ·rw[B6 hb,B6 hb];exact⟨_,rfl⟩
  ·rw[B! hb,B! hb];exact⟨_,rfl⟩
 ·have e1:eV c w r p t=⟨[],[],[],[],false,18⟩:=by rw[eV,B! hR]
  have e2:fiE c w r p t=⟨[],[],[],[],false,18⟩:=by rw[fiE,B! hR]
  rw[e1,e2];exact⟨18,zI h B8 (.inl ⟨rfl,rfl, .inl rfl,rfl⟩)⟩
def gS(c w r:Nat)(p:LB)(U:Ue)(q:LB):Option (Int×Ue):=(Fx (c:Int) (w:Int) (r:Int) p U.m U.s U.fr U.X U.u U.v q).bind λ(_,_,_,_,m,s,f,x,u,v,e)=>some (e,⟨m,s,f,x,u,v⟩)
def jR(c w r:Nat)(p:LB)(U:Ue):Option (Int×Ue):=(Hm (c:Int) (w:Int) (r:Int) p U.m U.s U.fr U.X U.u U.v).bind λ(_,_,_,_,m,s,f,x,u,v,e)=>some (e,⟨m,s,f,x,u,v⟩)
theorem Af9{L:Nat}{U:Ue}(hU:OkE c w r p L U)(q:LB)(hq:q.length<=L):
  ∃(e:Int) (U':Ue),gS c w r p U q=some (e,U')/\OkE c w r p (L-q.length) U'/\U'.X=U.X/\
   ∀t,t<=U.X.length->Fx (c:Int) (w:Int) (r:Int) p U.m U.s U.fr (U.X.drop t) U.u U.v q=some ((c:Int),(w:Int),(r:Int),p,U'.m,U'.s,U'.fr,U'.X.drop t,U'.u,U'.v,e):=by
 cases hU with
 |live hl hR=>
  rename_i t;obtain⟨e,h1⟩:=Aw1 h t q F0;have e1:eV c w r p t=⟨RE c w t,SE c w r t,FE c w r p t,[],false,0⟩:=by rw[eV,B6 hR]
  have hx:(eV c w r p (t++q)).X=[]:=by rw[eV];split<;>rfl
  rw[e1]at h1;simp only at h1;refine⟨e,eV c w r p (t++q),by rw[gS];simp only;rw[h1];rfl,pU N0,hx,λn hn=>?_⟩;simp only[List.drop_nil];rw[h1,hx,List.drop_nil]
 |stop hx hs=>
  rename_i X u v k;refine⟨k,⟨[],[],[],X,u,v⟩,?_, .stop hx hs,rfl,λn hn=>?_⟩
  ·rw[gS];simp only;rw[rD h hx hs q];rfl
  ·exact rD h WB (hs.drop n) q
theorem Anb{L:Nat}{U:Ue}(hU:OkE c w r p L U):
  ∃(e:Int) (U':Ue),jR c w r p U=some (e,U')/\OkE c w r p L U'/\ (∃y,U'.X=U.X++y)/\
   ∀t,t<=U.X.length->Hm (c:Int) (w:Int) (r:Int) p U.m U.s U.fr (U.X.drop t) U.u U.v=some ((c:Int),(w:Int),(r:Int),p,U'.m,U'.s,U'.fr,U'.X.drop t,U'.u,U'.v,e):=by
 cases hU with
 |live hl hR=>
  rename_i t;obtain⟨e,h1⟩:=Bcm h t;obtain⟨X,u,v,k,f1,f2,f3⟩:=Atm h (t:=t) F0;have e1:eV c w r p t=⟨RE c w t,SE c w r t,FE c w r p t,[],false,0⟩:=by rw[eV,B6 hR]
  rw[e1,f1]at h1;simp only at h1;refine⟨e,⟨[],[],[],X,u,v⟩,by rw[jR];simp only;rw[h1];rfl, .stop f2 f3,⟨X,rfl⟩,λn hn=>?_⟩;simp only[T5]at hn;obtain rfl:n=0:=F0
  simp only[RU];exact h1
 |stop hx hs=>
  rename_i X u v k;refine⟨k,⟨[],[],[],X,u,v⟩,?_, .stop hx hs,⟨[],(F! _).symm⟩,λn hn=>?_⟩
  ·rw[jR];simp only;rw[zI h hx hs];rfl
  ·exact zI h WB (hs.drop n)
theorem OkE.szs{L:Nat}{U:Ue}(hU:OkE c w r p L U):U.m.length<=20000/\U.s.length<=20000/\U.fr.length<=4000/\U.X.length<=20000/\ (∀y∈U.fr,y.length<=17179869184)/\∀t,Nx (c:Int) (w:Int) (r:Int) p U.m U.s U.fr (U.X.drop t) U.u U.v=some 0:=by
 cases hU with
 |live hl hR=>
  rename_i t;have h1:=P0 h t;have hsl:=bQ h t;have hfl:=mR (c:=c) (w:=w) (r:=r) (p:=p) t;have hs:=sN h;have hmod:nE c w t %Ak r*c<=nE c w t*c:=C9 _ (O1 _ _);have hn:=qb h t;have hk:kE c w r t<=nE c w t:=G9 _ _;have hlt:=KE h.rate.2;have hnn:nE c w t<=nE c w t*c:=VO _ h.ch.1;have hLc:Ak r*c<=1100000*6:=G0 F0 h.ch.2;exact⟨by simp only;omega,by simp only;omega,by simp only;omega,B8,λy hy=>by have:=Y? h t hR y hy;omega,λn=>by simp only[List.drop_nil];exact Z0 h t hR⟩
 |stop hx hs=>
  refine⟨B8,B8,B8,hx,λy hy=>by simp at hy,λn=>?_⟩;exact X2 h WB (hs.drop n)
theorem x_{L:Nat}{U:Ue}(hU:OkE c w r p L U)(t:Nat)(m:Nat):
  Zt (c:Int) (w:Int) (r:Int) p U.m U.s U.fr (U.X.drop t) U.u U.v (m:Int)=some ((c:Int),(w:Int),(r:Int),p,U.m,U.s,U.fr,(U.X.drop t).drop (min m (U.X.drop t).length),U.u,U.v,(U.X.drop t).take (min m (U.X.drop t).length),0):=by
 obtain⟨s1,s2,s3,s4,s5,s6⟩:=hU.szs h;have hl:(U.X.drop t).length<=20000:=by rw[D8];omega
 have htw:=R? (a:=U.fr) s5 F0 (c:Int) (w:Int) (r:Int) p (x:=U.m) (s:=U.s) (z:=U.X.drop t) F0 F0 F0 U.u U.v;have hm:Du (m:Int) (Ac (U.X.drop t))=((min m (U.X.drop t).length:Nat):Int):=by rw[Zp,Ac];omega
 rw[Zt,s6 t,Aa,B! F5,B! I!,htw,Aa];simp only;rw[hm,Dt,Aa,D0,By,Ay (by rw[T5,C8];omega),Aa,Aa,Dj,Aa,D0,I0]
end
section
variable {c w r:Nat} {p:LB} (h:EncOk c w r p)
include h
def iO(c w r:Nat)(p:LB)(st:M8)(inp:LB)(U:Ue):Option (Int×Ue×LB):=
 if st.1=1 then(gS c w r p U (inp.take (min st.2.1.toNat inp.length))).bind λz=>some (z.1,z.2,inp.drop (min st.2.1.toNat inp.length))
 else if st.1=2 then some (0,U,inp)
 else(jR c w r p U).bind λz=>some (z.1,z.2,inp)
def XA(c w r:Nat)(p:LB):List M8->LB->Ue->Option (LI×Ue×LB)
 |[],inp,U=>some ([],U,inp)
 |st::l,inp,U=>(iO c w r p st inp U).bind λz=>(XA c w r p l z.2.2 z.2.1).bind λy=>some (z.1::y.1,y.2)
theorem A7{b:List M8}(hb:b.length<=200)(hv:∀st∈b,VS st):∀(k i t q:Nat) (U:Ue) (inp:LB) (aa:List Sad),i+k=b.length->k<q->inp.length<=600->OkE c w r p inp.length U->t<=U.X.length->aa.length<=i->
  ∃(es:LI) (U':Ue) (inp':LB) (ds:List Sad) (t':Nat),XA c w r p (b.drop i) inp U=some (es,U',inp')/\OkE c w r p inp'.length U'/\t'<=U'.X.length/\SRs (b.drop i) es ds/\U.X.take t++outs ds=U'.X.take t'/\
   Il b q (i:Int) (c:Int) (w:Int) (r:Int) p (U.X.drop t) U.u U.v inp aa U.m U.s U.fr=some ((c:Int),(w:Int),(r:Int),p,U'.m,U'.s,U'.fr,U'.X.drop t',U'.u,U'.v,aa++ds,0)/\tQ b i t U.X t' U'.X
 |k,i,t,0,U,inp,aa,_,hq,_,_,_,_=>absurd hq (G4 _)
 |0,i,t,q+1,U,inp,aa,hi,hq,hin,hU,ht,haa=>by
  refine⟨[],U,inp,[],t,by rw[List.drop_eq_nil_of_le F0];rfl,hU,ht,by rw[List.drop_eq_nil_of_le F0];exact .nil,by simp[outs],?_, .nil F0⟩;rw[Il,Yp,B! F2,VN,Awy,Awu,Avk,F!]
 |k+1,i,t,q+1,U,inp,aa,hi,hq,hin,hU,ht,haa=>by
  have hlt:i<b.length:=F0
  obtain⟨hop,hn0,hn1⟩:=hv b[i] (G8 hlt);have hdrop:b.drop i=b[i]::b.drop (i+1):=(List.getElem_cons_drop hlt).symm;obtain⟨m,hm⟩:∃m:Nat,b[i].2.1=m:=⟨b[i].2.1.toNat,F0⟩;have hgi:Af (i:Int) 1=((i+1:Nat):Int):=by rw[show(1:Int)=((1:Nat):Int)from rfl,Ag];omega
  rw[Il,Yp,B6 F2,Bl hlt,Aa];rcases hop with h1|h1|h1
  ·
   have hg1:geq b[i].1 1=true:=by rw[h1];rfl
   have hmin:Du b[i].2.1 (Ac inp)=((min m inp.length:Nat):Int):=by rw[hm,Zp,Ac];omega
   obtain⟨e,U1,f1,f2,f3,f4⟩:=Af9 h hU (inp.take (min m inp.length)) T6;have hl:(inp.take (min m inp.length)).length=min m inp.length:=by rw[C8];omega
   rw[hl]at f2;have hl2:(inp.drop (min m inp.length)).length=inp.length-min m inp.length:=D8;rw[<-hl2]at f2;obtain⟨es,U2,Q7,ds,t2,r1,r2,r3,r4,r5,r6,r7⟩:=A7 hb hv k (i+1) t q U1 (inp.drop (min m inp.length)) (aa++[(e,[],())]) F0 F0 F0 f2 (by rw[f3];omega) Z9;refine⟨e::es,U2,Q7,(e,[],())::ds,t2,?_,r2,r3,?_,?_,?_, .other hlt (by rw[h1];decide) r7⟩
   ·rw[hdrop,XA,iO,B6 h1,hm,D0,f1,Aa,Aa];simp only;rw[r1,Aa]
   ·rw[hdrop];exact .cons ⟨rfl,λh=>by rw[h1]at h;exact absurd h F5,λ_=>rfl⟩ r4
   ·rw[<-r5,f3];simp[outs]
   ·rw[B6 hg1,hmin,Dt,D0,Aa,f4 t ht,Aa];simp only;rw[TQ,ID,hmin,Dj,Aa,Ay F6,Aa,Ik,IE,hgi,D0,r6];simp
  ·
   have hg1:¬geq b[i].1 1=true:=by rw[h1];decide
   have hg2:geq b[i].1 2=true:=by rw[h1];rfl
   have hd:=x_ h hU t m;have hXl:(U.X.drop t).length=U.X.length-t:=D8;obtain⟨es,U2,Q7,ds,t2,r1,r2,r3,r4,r5,r6,r7⟩:=A7 hb hv k (i+1) (t+min m (U.X.length-t)) q U inp (aa++[(0,(U.X.drop t).take (min m (U.X.drop t).length),())]) F0 F0 hin hU F0 Z9;refine⟨0::es,U2,Q7,(0,(U.X.drop t).take (min m (U.X.drop t).length),())::ds,t2,?_,r2,r3,?_,?_,?_, .drain hlt hm (by have:=hU.szs h;omega) ht r7⟩
   ·rw[hdrop,XA,iO,B! (by rw[h1];decide),B6 h1,Aa];simp only;rw[r1,Aa]
   ·rw[hdrop];exact .cons ⟨rfl,λ_=>⟨rfl,by simp only[C8];rw[hm];omega⟩,λh=>absurd h1 h⟩ r4
   ·rw[<-r5,hXl,vH];simp[outs]
   ·rw[B! hg1,B6 hg2,hm,hd,Aa];simp only;rw[VM,Avw,Ay F6,Aa,Ik,IE,hgi];rw[hXl,RS]at*
    rw[r6];simp
  ·
   have hg1:¬geq b[i].1 1=true:=by rw[h1];decide
   have hg2:¬geq b[i].1 2=true:=by rw[h1];decide
   have hg3:geq b[i].1 3=true:=by rw[h1];rfl
   obtain⟨e,U1,f1,f2,⟨y,f3⟩,f4⟩:=Anb h hU;obtain⟨es,U2,Q7,ds,t2,r1,r2,r3,r4,r5,r6,r7⟩:=A7 hb hv k (i+1) t q U1 inp (aa++[(e,[],())]) F0 F0 hin f2 (by rw[f3,B9];omega) Z9;refine⟨e::es,U2,Q7,(e,[],())::ds,t2,?_,r2,r3,?_,?_,?_, .other hlt (by rw[h1];decide) r7⟩
   ·rw[hdrop,XA,iO,B! (by rw[h1];decide),B! (by rw[h1];decide),f1,Aa,Aa];simp only;rw[r1,Aa]
   ·rw[hdrop];exact .cons ⟨rfl,λh=>by rw[h1]at h;exact absurd h F5,λ_=>rfl⟩ r4
   ·rw[<-r5,f3,XC ht];simp[outs]
   ·rw[B! hg1,B! hg2,B6 hg3,f4 t ht,Aa];simp only;rw[UR,Aut,Ay F6,Aa,Ik,IE,hgi,r6];simp
theorem Ayk{inp:LB}{l:List M8}(hin:inp.length<=600)(hl:l.length<=200)(hv:∀st∈l,VS3 st):
  ∃(es:LI) (U:Ue) (inp':LB) (ds:List Sad) (t:Nat),XA c w r p l inp (eV c w r p [])=some (es,U,inp')/\OkE c w r p inp'.length U/\t<=U.X.length/\SRs l es ds/\outs ds=U.X.take t/\
   FT (c:Int) (w:Int) (r:Int) p inp l=some ((c:Int),(w:Int),(r:Int),p,U.m,U.s,U.fr,U.X.drop t,U.u,U.v,ds,0)/\tQ l 0 0 [] t U.X:=by
 have e0:nE c w []=0:=by rw[nE];exact U? _
 have hR:Qg c r (nE c w []):=by rw[e0];exact xw c r
 have e1:eV c w r p []=⟨RE c w [],SE c w r [],FE c w r p [],[],false,0⟩:=by rw[eV,B6 hR]
 obtain⟨es,U,inp',ds,t,h1,h2,h3,h4,h5,h6,h7⟩:=A7 h hl (λst h=>(hv st h).1) l.length 0 0 As (eV c w r p []) inp [] F0 F7 hin (pU (by simpa using hin)) (S! _) B8;rw[RU]at h1 h4;refine⟨es,U,inp',ds,t,h1,h2,h3,h4,by simpa using h5,?_,by rw[e1]at h7;exact h7⟩;rw[FT,CX,Bh6 hl hv,Aa,B! F5,Ao3 h,Aa];simp only;rw[B! F5];rw[e1]at h6;exact h6
end
def cdE(m:LB)(s:LX)(fr:List LB)(X:LB):Nat:=m.length+4*s.length+X.length+fr.flatten.length
theorem vg(fr:List LB)(i:Nat)(h:i<fr.length):(fr.take (i+1)).flatten.length=(fr.take i).flatten.length+fr[i].length:=by
 rw[<-List.take_append_getElem h,TZ,B9];simp
theorem Abf(fr:List LB)(i:Nat):(fr.take i).flatten.length<=fr.flatten.length:=by
 have:=congrArg (λl:List LB=>l.flatten.length) (QQ i fr);simp only[TZ,B9]at this;omega
theorem Ass(C W R:Int)(p m:LB)(s:LX)(fr:List LB)(X:LB)(u:Bool)(v:Int)(hm:m.length<=100000)(hs:s.length<=100000)(hf:fr.length<=100000)(hfl:fr.flatten.length<=1000000)(hX:X.length<=100000):dR C W R p m s fr X u v=some (cdE m s fr X:Int):=by
 have loop:∀(j i q:Nat),i+j=fr.length->j<q->Xp fr q ((m.length+4*s.length+X.length+(fr.take i).flatten.length:Nat):Int) (i:Int)=some (cdE m s fr X:Int):=by
  intro j
  induction j with
  |zero=>
   intro i q hi hq;obtain⟨q,rfl⟩:∃q',q=q'+1:=⟨q-1,F0⟩;rw[Xp,OY,B! F2,H? F0];rfl
  |succ j ih=>
   intro i q hi hq;obtain⟨q,rfl⟩:∃q',q=q'+1:=⟨q-1,F0⟩;have hlt:i<fr.length:=F0
   have e1:=vg fr i hlt;have e2:=Abf fr (i+1);rw[Xp,OY,B6 F2,Bl hlt,Aa,Za i F0,Ac,Ag,<-QW,show m.length+4*s.length+X.length+(fr.take i).flatten.length+fr[i].length=m.length+4*s.length+X.length+(fr.take (i+1)).flatten.length by omega];exact ih (i+1) q F0 F0
 have e0:Af (Af (Ac m) (Bn 4 (Ac s))) (Ac X)=((m.length+4*s.length+X.length+(fr.take 0).flatten.length:Nat):Int):=by
  have e1:Bn 4 (s.length:Int)=((4*s.length:Nat):Int):=by rw[show(4:Int)=((4:Nat):Int)from rfl,Ea];omega
  rw[Ac,Ac,Ac,e1,Ag (a:=(m.length:Int)) F0 F0,<-QW,Ag,<-QW];simp
 rw[dR,bX,e0];exact loop fr.length 0 As F0 F7
theorem Azd(fr:List LB)(K:Nat)(h:∀y∈fr,y.length<=K):fr.flatten.length<=fr.length*K:=by
 induction fr with
 |nil=>simp
 |cons y fr ih=>
  have h1:=h y (.head _);have h2:=ih λz hz=>h z (J_ _ hz);rw[U!,B9,E8,C6,HV];omega
section
variable {c w r:Nat} {p:LB} (h:EncOk c w r p)
include h
theorem Aw7{t:LB}(ht:t.length<=600)(hR:Qg c r (nE c w t)):(FE c w r p t).flatten.length<=1000000:=by
 have hn:=qb h t;obtain⟨d1,d2⟩:=qg (r:=r) h t;have e1:=mR (c:=c) (w:=w) (r:=r) (p:=p) t;have e2:=Azd (FE c w r p t) ((81*(Ak r*c)+7)/8+4) λy hy=>(Y? h t hR y hy).2;rw[e1]at e2;have e3:kE c w r t*(Ak r*c)<=600:=by
  have:kE c w r t*(Ak r*c)<=nE c w t*c:=by rw[<-IF];exact C9 _ F0
  omega
 have hk:kE c w r t<=600:=by
  have hp:=Hb r;have h1:kE c w r t*1<=kE c w r t*(Ak r*c):=OL _ (R4 hp h.ch.1);omega
 have e4:kE c w r t*((81*(Ak r*c)+7)/8+4)<=kE c w r t*(81*(Ak r*c)+7+4):=OL _ F0;have e5:kE c w r t*(81*(Ak r*c)+7+4)=81*(kE c w r t*(Ak r*c))+11*kE c w r t:=by
  generalize Ak r*c=z;rw[show 81*z+7+4=81*z+11 by omega,XJ,uo,E! _ 11]
 omega
end
theorem OkU.chk{o:LB}(ho:o.length<=64){L:Nat}{U:Ud}(h:OkU o L U)(t:Nat):Fo o U.p U.f U.c U.w U.r U.n U.g U.a (U.X.drop t) U.u U.v=some 0:=by
 have hs:=h.szs;cases h with
 |live hl hB=>exact hB.N6 ho (by have:=hs.1;simp only at this;omega) t
 |stop hx hk=>exact(rF ho WB hk).1
def kpU(U:Ud):Nat:=U.p.length+8*U.g.length
theorem Ayo{o:LB}(ho:o.length<=64){L:Nat}{U:Ud}(h:OkU o L U)(t:Nat):SL o U.p U.f U.c U.w U.r U.n U.g U.a (U.X.drop t) U.u U.v=some ((kpU U:Int),0):=by
 have hs:=h.szs;rw[SL,h.chk ho t,Aa,B! F5,Ac,Ac,show Bn 8 (U.g.length:Int)=((8*U.g.length:Nat):Int) by rw[show(8:Int)=((8:Nat):Int)from rfl,Ea];omega,Ag,kpU];simp
def RD(f:Nat->Int32)(ch:Nat):LX:=(List.range ch).map λi=>mxV f ch i
theorem pC(f:Nat->Int32)(ch:Nat):(RD f ch).length=ch:=by simp[RD]
theorem H_(f:Nat->Int32){ch i:Nat}(h:i<ch):(RD f ch).getD i 0=mxV f ch i:=by
 rw[If (by rw[pC];exact h)];simp[RD]
theorem Alf(a b:Int32):Cf (Ap (Ae a:Int) (Bs (Ae b:Int) (2:Int)))=some (a-Bs b (2:Int32)):=by
 have:=EW a;have hb:=EW b;have hd: -2147483648<=b.toInt.tdiv 2/\b.toInt.tdiv 2<=2147483648:=by
  rw[cW,show Int.sign 2=1 from rfl];by_cases h:0<=b.toInt\/2∣b.toInt
  ·rw[B6 h];omega
  ·rw[B! h];omega
 have e:Bs b (2:Int32)=Int32.ofInt (b.toInt.tdiv 2):=rfl;rw[Fq,Fq,YC,Dp F0 F0,Ca,S8,jy,N5,e]
theorem Awz (seg:LX)(ch:Nat)(h1:1<=ch)(h6:ch<=6)(hs:seg.length=ch):∀(j i q:Nat),i+j=ch->j<q->
  Lp seg q (i:Int) ((RD (λi=>seg.getD i 0) ch).take i)=some (RD (λi=>seg.getD i 0) ch)
 |j,i,0,_,h=>absurd h (G4 _)
 |0,i,q+1,hi,_=>by
  have hlen:=pC (λi=>seg.getD i 0) ch;rw[Lp,Xa,B! F2,H? F0];rfl
 |j+1,i,q+1,hi,hq=>by
  have hlen:=pC (λi=>seg.getD i 0) ch;have hg:=H_ (λi=>seg.getD i 0) (show i<ch by omega);have ih:=Awz seg ch h1 h6 hs j (i+1) q F0 F0;rw[Ho F0,<-If F0,hg]at ih;have htl:((RD (λi=>seg.getD i 0) ch).take i).length=i:=by rw[C8];omega
  have e3:Af (i:Int) 1=((i+1:Nat):Int):=by rw[Ag];omega
  have e1:Ap (Ac seg) 1=((ch-1:Nat):Int):=by rw[Ac,hs,Ca];omega
  rw[Lp,Xa,B6 F2];by_cases hc:ch=1
  ·have hv:mxV (λi=>seg.getD i 0) ch i=seg.getD i 0:=by
    rw[mxV,B! F0,B! F0,show ch-1=i by omega]
   have h0:Aj seg 0=some (seg.getD i 0):=by
    have:=D_ (l:=seg) (k:=i) F0;rw[show(i:Int)=0 by omega]at this;exact this
   rw[hv]at ih;rw[B6 (by rw[Ax,Ac,hs,hc];rfl),h0,Aa,Ay (by rw[htl];simp;omega),Aa,e3];exact ih
  ·rw[B! (by rw[Ax,Ac,hs];simp;omega),e1];by_cases hl:i+1<ch
   ·have hv:mxV (λi=>seg.getD i 0) ch i=seg.getD (i+1) 0-seg.getD i 0:=by rw[mxV,B6 hl]
    rw[hv]at ih;rw[B6 F9,e3,D_ F0,Aa,D_ F0,Aa,U5,Aa,Ay (by rw[htl];simp;omega),Aa];exact ih
   ·have hv:mxV (λi=>seg.getD i 0) ch i=seg.getD (ch-1) 0-Bs (seg.getD (ch-1) 0-seg.getD (ch-2) 0) (2:Int32):=by rw[mxV,B! hl,B6 F0]
    rw[hv]at ih;have e4:Ap (i:Int) 1=((i-1:Nat):Int):=by rw[Ca];omega
    have hp:((RD (λi=>seg.getD i 0) ch).take i).getD (i-1) 0=seg.getD (ch-1) 0-seg.getD (ch-2) 0:=by
     rw[If F0,U7,<-If F0,H_ _ F0,mxV,B6 F0,show i-1+1=ch-1 by omega,show i-1=ch-2 by omega]
    rw[B! F9,e4,D_ F0,Aa,D_ F0,Aa,Aa,hp,Alf,Aa,Ay (by rw[htl];simp;omega),Aa,e3,show seg.getD i 0=seg.getD (ch-1) 0 by rw[show i=ch-1 by omega]];exact ih
theorem Auw(seg:LX)(ch:Nat)(h1:1<=ch)(h6:ch<=6)(hs:seg.length=ch):PR seg=some (RD (λi=>seg.getD i 0) ch):=
 Awz seg ch h1 h6 hs ch 0 As F0 F7
theorem Aan(ch:Nat)(m:LX)(h1:1<=ch)(h6:ch<=6)(hm:m.length %ch=0)(hl2:m.length<=4000):∀(j at' q:Nat),at' %ch=0->at'<=m.length->m.length-at'<=j->j<q->
  Uf (ch:Int) m q (at':Int) ((mx ch m).take at')=some (mx ch m,0)
 |j,at',0,_,_,_,h=>absurd h (G4 _)
 |j,at',q+1,ha,hle,hj,hq=>by
  have hlen:=bJ ch m;rw[Uf,NL];by_cases h:at'<m.length
  ·have hb:=S9 ha hm h;have e4:Af (at':Int) (ch:Int)=((at'+ch:Nat):Int):=by rw[Ag];omega
   have hrest:=Aan ch m h1 h6 hm hl2 (j-1) (at'+ch) q (by rw[U6,ha]) hb F0 F0;have hseg:((m.take (at'+ch)).drop at').length=ch:=by simp;omega
   have htl:((mx ch m).take at').length=at':=by simp[hlen];omega
   rw[B6 F2,e4,TF,Aa,show((at'+ch:Nat):Int).toNat=at'+ch from rfl,show(at':Int).toNat=at' from rfl,Auw _ ch h1 h6 hseg,Aa,Ay (by rw[htl,pC];omega),Aa];have e:(mx ch m).take at'++RD (λi=>((m.take (at'+ch)).drop at').getD i 0) ch=(mx ch m).take (at'+ch):=by
    apply M? (by rw[B9,htl,pC,C8,hlen];omega);intro k k1 k2;rw[C8,hlen]at k2;rw[List.getElem_append,U7];by_cases hk:k<at'
    ·rw[dif_pos (by rw[htl];exact hk),U7]
    ·rw[dif_neg (by rw[htl];exact hk)];have hu:=ZW ch m ha (show k-at'<ch by omega) F0;rw[show at'+(k-at')=k by omega,If F0]at hu;have hf:∀i,i<ch-> ((m.take (at'+ch)).drop at').getD i 0=m.getD (at'+i) 0:=by
      intro i hi;rw[If F0,If F0];simp
     have hx:mxV (λi=>((m.take (at'+ch)).drop at').getD i 0) ch (k-at')=mxV (λi=>m.getD (at'+i) 0) ch (k-at'):=by
      unfold mxV;split
      ·simp only;rw[hf _ F0,hf _ F0]
      ·split
       ·simp only;rw[hf _ F0,hf _ F0]
       ·simp only;rw[hf _ F0]
     have hy:=H_ (λi=>((m.take (at'+ch)).drop at').getD i 0) (show k-at'<ch by omega);rw[If (by rw[pC];omega)]at hy;rw[hu,<-hx,<-hy];congr 1;rw[htl]
   rw[e];exact hrest
  ·rw[B! F2,H? F0];rfl
theorem Auu(ch:Nat)(m:LX)(h1:1<=ch)(h6:ch<=6)(hm:m.length %ch=0)(hl2:m.length<=4000):LZ (ch:Int) m=some (mx ch m,0):=by
 have h:=Aan ch m h1 h6 hm hl2 m.length 0 As B8 F0 F0 F7;rw[LZ,MQ,Aog ch m h1 h6 hm hl2,Aa,B! D7];exact h
theorem Bbp{s:Int}{t p:LX}(h:OkF s t p)(x:Int32):IM s t p x=some (x-gF s t p,s,oq t p (x-gF s t p),x::p.take 15):=by
 rw[IM,Anc h,Aa,U5,Aa,Bf3 h,Aa];simp only;rw[yw h.2.2,Aa]
theorem Bcg{bits:Int}(h:Bq bits){t p:LX}(hF:OkF (sB bits) t p)(last x:Int32):
  Zf bits last (sB bits) t p x=some (J2 bits (last,t,p) x,bits,x,sB bits,oq t p (J2 bits (last,t,p) x),(x-gs (shB bits) last)::p.take 15):=by
 have hb:Kz bits last (sB bits) t p=some (Ae (gs (shB bits) last):Int):=by
  rw[Kz];obtain rfl|rfl|rfl:=h
  ·rw[B6 Q0,eZ 4 (.inl rfl),Aa];rfl
  ·rw[B! R5,eZ 5 (.inr rfl),Aa];rfl
  ·rw[B! R5,eZ 5 (.inr rfl),Aa];rfl
 rw[Zf,hb,Aa,U5,Aa,Bbp hF,Aa];rfl
theorem Axk(a:Int32):IY a=some (yH a):=by
 have h:=EW a;have e1:Nw a 0=decide (0<=a.toInt):=rfl;rw[IY,yH];by_cases h0:0<=a.toInt
 ·have e2:Bn 2 (Ae a:UInt32)=UInt32.ofNat (2*a.toInt.toNat):=by
   have e3:(Ae a:UInt32)=UInt32.ofNat a.toInt.toNat:=by
    show UInt32.ofNat (a.toInt %4294967296).toNat=_;rw[jf h0 F0]
   rw[e3,Ajj,UInt32.ofNat_mul];rfl
  rw[B6 (by rw[e1];simpa using h0),e2,B6 h0]
 ·have e2:Ap (Bn (-2:Int) (Ae a:Int)) 1=((2*(-a.toInt-1).toNat+1:Nat):Int):=by
   rw[Fq,Ea,Ca];omega
  rw[B! (by rw[e1];simpa using h0),e2,ko,B! h0]
def jU(p:Nat->Bool)(a:LU):LU:=(List.range a.length).map λk=>if p k=true then a.getD k 0 else 0
theorem OE(p:Nat->Bool)(a:LU):(jU p a).length=a.length:=by simp[jU]
theorem I4{p r:Nat->Bool}{a:LU}(h:∀k,k<a.length->p k=r k):jU p a=jU r a:=by
 apply M? (by rw[OE,OE]);intro k h1 h2;rw[OE]at h1;simp only[jU,RM,RI,h k h1]
theorem Au9{p:Nat->Bool}{a:LU}{i:Nat}(h:i<a.length):Rn (jU p a) (i:Int) (a.getD i 0)=some (jU (λk=>p k||decide (k=i)) a):=by
 rw[Zv _ (by rw[OE];exact h)];congr 1;apply M? (by rw[P4,OE,OE]);intro k h1 h2;rw[W?];simp only[jU,RM,RI];by_cases hk:i=k
 ·subst hk;rw[B6 rfl,B6 B8]
 ·rw[B! hk];have:(p k||decide (k=i))=p k:=by rw[E0 (λe=>hk e.symm),Bool.or_false]
  rw[this]
theorem Ava{p:Nat->Bool}{a:LU}(h:∀k,k<a.length->p k=true):jU p a=a:=by
 apply M? (by rw[OE]);intro k h1 h2;simp only[jU,RM,RI];rw[B6 (h k h2),List.getD_eq_getElem?_getD,List.getElem?_eq_getElem h2];rfl
theorem Aro{p:Nat->Bool}{a:LU}(h:∀k,k<a.length->p k=false):jU p a=List.replicate a.length 0:=by
 apply M? (by rw[OE,JN]);intro k h1 h2;rw[OE]at h1;simp only[jU,RM,RI,List.getElem_replicate];rw[B! (by rw[h k h1];decide)]
def chan(ch c:Nat)(l:LX):LX:=(List.range (l.length/ch)).map λm=>l.getD (c+m*ch) 0
theorem O3(ch c:Nat)(l:LX):(chan ch c l).length=l.length/ch:=by simp[chan]
theorem Air{ch c m:Nat}{l:LX}(h:m<l.length/ch):(chan ch c l).getD m 0=l.getD (c+m*ch) 0:=by
 rw[If (by rw[O3];exact h)];simp[chan]
theorem Ao0{ch c m n:Nat}(hc:c<ch)(h:m<n):c+m*ch<n*ch:=by
 have:(m+1)*ch<=n*ch:=C9 ch h;rw[C6,HV]at this;omega
theorem Al1(ch c:Nat)(l:LX)(hc:c<ch)(h6:ch<=6)(hm:l.length %ch=0)(hl:l.length<=4000):Yq l (c:Int) (ch:Int)=some (chan ch c l):=by
 have hdm:l.length=l.length/ch*ch:=by have:=RQ l.length ch;rw[E!]at this;omega
 have hcl:=O3 ch c l;have hN:l.length/ch<=l.length:=G9 _ _;have loop:∀(j m q:Nat),m+j=l.length/ch->j<q->Iy l (ch:Int) q ((c+m*ch:Nat):Int) ((chan ch c l).take m)=some (chan ch c l):=by
  intro j
  induction j with
  |zero=>
   intro m q hi hq;obtain⟨q,rfl⟩:∃q',q=q'+1:=⟨q-1,F0⟩;rw[show m=l.length/ch by omega];rw[Iy,Sj,B! Z7,H? F0];rfl
  |succ j ih=>
   intro m q hi hq;obtain⟨q,rfl⟩:∃q',q=q'+1:=⟨q-1,F0⟩;have hin:=Ao0 hc (show m<l.length/ch by omega);have hg:=Air (ch:=ch) (c:=c) (l:=l) (show m<l.length/ch by omega);have h2:=ih (m+1) q F0 F0;rw[Ho F0,<-If F0,hg]at h2;have e:Af ((c+m*ch:Nat):Int) (ch:Int)=((c+(m+1)*ch:Nat):Int):=by
    rw[C6,HV];generalize m*ch=z at hin⊢;rw[Ag];omega
   rw[Iy,Sj,B6 Z7,D_ F0,Aa,Ay F6,Aa,e];exact h2
 have h0:=loop (l.length/ch) 0 As F0 F7;rw[RW,N7]at h0;rw[Yq,CP];exact h0
section
variable {bits:Int} {ch:Nat} {t x:LX} (hb:Bq bits) (ht:t.length=16) (h1:1<=ch) (h6:ch<=6) (hx4:x.length<=4000) (hm:x.length %ch=0)
include hb ht h1 h6 hx4 hm
theorem Bgk(bk:Int->LU->Option LU)(c:Nat)(hc:c<ch):∀(j m q:Nat),m+j=x.length/ch->j<q->
  Kf bk (ch:Int) bits t (mx ch x) (c:Int) (chan ch c (mx ch x)) q (m:Int) (jU (λk=>decide (k %ch<c\/ (k %ch=c/\k<c+m*ch))) (It bits ch t x)) bits (cst bits ch t (It bits ch t x) c (c+m*ch)).1 (sB bits) (cst bits ch t (It bits ch t x) c (c+m*ch)).2.1 (cst bits ch t (It bits ch t x) c (c+m*ch)).2.2=
   bk ((c+1:Nat):Int) (jU (λk=>decide (k %ch<c+1)) (It bits ch t x))
 |j,m,0,_,h=>absurd h (G4 _)
 |0,m,q+1,hi,_=>by
  have hVl:=fT bits ch t x;have hml:=bJ ch x;have hcl:=O3 ch c (mx ch x);have hdm:x.length=x.length/ch*ch:=by have:=RQ x.length ch;rw[E!]at this;omega
  rw[hml]at hcl;rw[Kf,Pd,B! Z7,EE,Ady,Ag];have zC:jU (λk=>decide (k %ch<c\/ (k %ch=c/\k<c+m*ch))) (It bits ch t x)=jU (λk=>decide (k %ch<c+1)) (It bits ch t x):=by
   apply I4;intro k hk;rw[show m=x.length/ch by omega,<-hdm];rw[C?];simp only[B?];omega
  rw[zC];rfl
 |j+1,m,q+1,hi,hq=>by
  have hVl:=fT bits ch t x;have hml:=bJ ch x;have hcl:=O3 ch c (mx ch x);rw[hml]at hcl;have hdm:x.length=x.length/ch*ch:=by have:=RQ x.length ch;rw[E!]at this;omega
  have hin:=Ao0 hc (show m<x.length/ch by omega);have hNd:x.length/ch<=x.length:=G9 _ _;rw[<-hdm]at hin;have hg:=Air (ch:=ch) (c:=c) (l:=mx ch x) (m:=m) (by rw[hml];omega);have ih:=Bgk bk c hc j (m+1) q F0 F0;have hmul:(m+1)*ch=m*ch+ch:=by rw[C6,HV]
  have hmod:(c+m*ch) %ch=c:=by rw[Nat.add_mul_mod_self_right,C3 hc]
  rw[hmul,<-H0]at ih;have hidx:Af (c:Int) (Bn (m:Int) (ch:Int))=((c+m*ch:Nat):Int):=by
   rw[Ea K? K?,<-M!,Ag];omega
  generalize hI:c+m*ch=i at*
  have hok:=z? bits ch ht (It bits ch t x) c i;have hV:=Ag9 (bits:=bits) (ch:=ch) (t:=t) (x:=x) (i:=i) F0;rw[hmod]at hV;have hst:=Bcg hb hok (cst bits ch t (It bits ch t x) c i).1 ((mx ch x).getD i 0);have H2:cst bits ch t (It bits ch t x) c (i+ch)=R8 bits (cst bits ch t (It bits ch t x) c i) (cQ ((It bits ch t x).getD i 0)):=Ahb ch c i _ _ hmod hc;rw[hV,Auh]at H2;have hset:=Au9 (p:=λk=>decide (k %ch<c\/ (k %ch=c/\k<i))) (a:=It bits ch t x) (i:=i) F0;have zC:jU (λk=>decide (k %ch<c\/ (k %ch=c/\k<i))||decide (k=i)) (It bits ch t x)=jU (λk=>decide (k %ch<c\/ (k %ch=c/\k<i+ch))) (It bits ch t x):=by
   apply I4;intro k _;rw[C?];simp only[HU,B?];constructor
   ·rintro((h1|h1)|h1)
    ·exact .inl h1
    ·exact .inr ⟨h1.1,F0⟩
    ·subst h1;exact .inr ⟨hmod,F0⟩
   ·rintro(h1|⟨h1,h2⟩)
    ·exact .inl (.inl h1)
    ·by_cases h3:k<i
     ·exact .inl (.inr ⟨h1,h3⟩)
     ·refine .inr ?_;have h4:(i+(k-i)) %ch=i %ch:=by rw[show i+(k-i)=k by omega,h1,hmod]
      have h5:=jd h4;rw[VH,C3 F0]at h5;omega
  rw[zC]at hset;rw[H2]at ih;have hz:(R8 bits (cst bits ch t (It bits ch t x) c i) (J2 bits (cst bits ch t (It bits ch t x) c i) ((mx ch x).getD i 0)))=((mx ch x).getD i 0,oq (cst bits ch t (It bits ch t x) c i).2.1 (cst bits ch t (It bits ch t x) c i).2.2 (J2 bits (cst bits ch t (It bits ch t x) c i) ((mx ch x).getD i 0)),((mx ch x).getD i 0-gs (shB bits) (cst bits ch t (It bits ch t x) c i).1)::(cst bits ch t (It bits ch t x) c i).2.2.take 15):=by
   rw[R8,xG,J2,lD]
  rw[hz]at ih;obtain⟨y0,hy0⟩:∃y,Aj (jU (λk=>decide (k %ch<c\/ (k %ch=c/\k<i))) (It bits ch t x)) (i:Int)=some y:=⟨_,jA (by rw[OE];omega)⟩;rw[Kf,Pd,B6 Z7,D_ F0,Aa,Aa,hg];refine D9 (congrArg (λo=>Option.bind o _) hst) ?_;rw[Aa];simp only;rw[EB,Adx,Axk,Aa,hidx];refine D9 (congrArg (λo=>Option.bind o _) hy0) ?_;rw[Aa];rw[hV]at hset;refine D9 (congrArg (λo=>Option.bind o _) hset) ?_;rw[Aa,Ag];exact ih
theorem Bc8:∀(j c q:Nat),c+j=ch->j<q->
  Hj (ch:Int) bits t (mx ch x) q (c:Int) (jU (λk=>decide (k %ch<c)) (It bits ch t x))=some (It bits ch t x)
 |j,c,0,_,h=>absurd h (G4 _)
 |0,c,q+1,hc,_=>by
  rw[Hj,Ut,B! F9,Ava (λk hk=>by have:=IV k (show 0<ch by omega);simp;omega)];rfl
 |j+1,c,q+1,hc,hq=>by
  have hml:=bJ ch x;have ih:=Bc8 j (c+1) q F0 F0;have hin:=Bgk hb ht h1 h6 hx4 hm (Hj (ch:Int) bits t (mx ch x) q) c F0 (x.length/ch) 0 As F0 (by have:=Aq;have:=G9 x.length ch;omega);rw[RW,N7]at hin;have h0:cst bits ch t (It bits ch t x) c c=(0,t,List.replicate 16 0):=oR ch c _ _ c (D3 _) F0;rw[h0]at hin;have zC:jU (λk=>decide (k %ch<c\/ (k %ch=c/\k<c))) (It bits ch t x)=jU (λk=>decide (k %ch<c)) (It bits ch t x):=by
   apply I4;intro k hk;have:=O1 k ch;rw[C?];simp only[B?];omega
  rw[zC]at hin;rw[Hj,Ut,B6 F9,Baw hb,Aa];simp only;rw[Al1 ch c (mx ch x) F0 h6 (by rw[hml];exact hm) F0,Aa,EO];exact D9 hin ih
theorem Apv:EP (ch:Int) bits t x=some (It bits ch t x):=by
 have hVl:=fT bits ch t x;have h:=Bc8 hb ht h1 h6 hx4 hm ch 0 As F0 F7;rw[Aro (λk _=>by simp),hVl]at h;rw[EP,HJ,Auu ch x h1 h6 hm hx4,Aa];simp only;rw[Ac,yF,Aa,Bz T8,Aa,D0,Ae6];exact h
end
theorem om{p:LB}{m:Nat}{b:Bool}{c:List Bool}(h:At p m (b::c))(hm:m<=400000):Dv (Mx p 0 m) (m:Int) (if b=true then 1 else 0)=some (Mx p 0 (m+1),((m+1:Nat):Int)):=by
 have h0:=h.cons.1;have:=N4 p 0 m hm;rw[L8,h0]at this;cases b<;>exact this
theorem K9{p:LB}{m n:Nat}(hm:m+n<=300000)(hn:n<=63):Pp (Mx p 0 m) (m:Int) (Re p m n) (n:Int)=some (Mx p 0 (m+n),((m+n:Nat):Int)):=by
 have loop:∀(j i q:Nat),i+j=n->j<q->Kj (n:Int) q (Re p (m+i) j) (i:Int) ((m+i:Nat):Int) (Mx p 0 (m+i))=some (Mx p 0 (m+n),((m+n:Nat):Int)):=by
  intro j
  induction j with
  |zero=>
   intro i q hi hq;obtain⟨q,rfl⟩:∃q',q=q'+1:=⟨q-1,F0⟩;obtain rfl:i=n:=F0
   rw[Kj,Uz,B! I!];rfl
  |succ j ih=>
   intro i q hi hq;obtain⟨q,rfl⟩:∃q',q=q'+1:=⟨q-1,F0⟩;have hg:(Re p (m+i) (j+1)).toNat=Ge p (m+i)+2*Ck p (m+i+1) j:=by rw[CY _ _ _ F0,Ck]
   have hlt:=FN p (m+i);have e1:(Ae (FP (Re p (m+i) (j+1)) (2:UInt64)):Int)=((Ge p (m+i):Nat):Int):=by
    have e:(FP (Re p (m+i) (j+1)) (2:UInt64)).toNat=Ge p (m+i):=by
     rw[O9,cV,hg];show _ %2=_;omega
    rw[B4 (by rw[e];omega),e]
   have e2:Bs (Re p (m+i) (j+1)) (2:UInt64)=Re p (m+i+1) j:=by
    apply UInt64.toNat_inj.1;rw[yE,W7,hg,CY _ _ _ F0];show _/2=_;omega
   have ha:=N4 p 0 (m+i) F0;rw[L8]at ha;rw[Kj,Uz,B6 F9,e1,ha,Aa];simp only;rw[e2,Ag];exact ih (i+1) q F0 F0
 exact loop n 0 As F0 F7
theorem Bcr{q i:Nat}(h:i<q):tb (List.replicate q true) i=1:=by
 rw[tb,B6];rw[List.getD_eq_getElem?_getD,List.getElem?_eq_getElem (by simpa using h)];simp
theorem xT{p:LB}{m n:Nat}(hn:n<=48)(hm:m+48<=300000)(h:At p m (List.replicate n true++(if n=48 then []else [false]))):XV (Mx p 0 m) (m:Int) (n:Int)=some (Mx p 0 (m+min (n+1) 48),((m+min (n+1) 48:Nat):Int)):=by
 have loop:∀(j i q:Nat),i+j=n->j<q->Pj (n:Int) q (i:Int) ((m+i:Nat):Int) (Mx p 0 (m+i))=some (Mx p 0 (m+min (n+1) 48),((m+min (n+1) 48:Nat):Int)):=by
  intro j
  induction j with
  |zero=>
   intro i q hi hq;obtain⟨q,rfl⟩:∃q',q=q'+1:=⟨q-1,F0⟩;obtain rfl:i=n:=F0
   rw[Pj,AR,B! I!,NN,Amb];by_cases h48:i=48
   ·rw[B! F9,show m+min (i+1) 48=m+i by omega]
   ·have h2:=h.right;rw[B! h48,JN]at h2;have ha:=om h2 F0;rw[B! F5]at ha;rw[B6 F9,ha,Aa,show m+min (i+1) 48=m+i+1 by omega]
  |succ j ih=>
   intro i q hi hq;obtain⟨q,rfl⟩:∃q',q=q'+1:=⟨q-1,F0⟩;have hb:Ge p (m+i)=1:=by
    rw[h i (by rw[B9,JN];omega),An7 (by rw[JN];omega),Bcr F0]
   have ha:=N4 p 0 (m+i) F0;rw[L8,hb]at ha;rw[Pj,AR,B6 F9,show(1:Int)=((1:Nat):Int)from rfl,ha,Aa];simp only;rw[Ag];exact ih (i+1) q F0 F0
 exact loop n 0 As F0 F7
theorem Atr{p:LB}{m l:Nat}{v:UInt32}(hl:l<=24)(hm:m+81<=300000)(h:At p m (fY l v.toNat)):
  Qz (Mx p 0 m) (m:Int) v (l:Int)=some (Mx p 0 (m+(fY l v.toNat).length),((m+(fY l v.toNat).length:Nat):Int)):=by
 have hvl:=v.toNat_lt;have hpos:0<2^l:=MP F0;rw[Qz,Anl v l hl,Aa];rw[fY]at h⊢;by_cases h48:48<=v.toNat/2^l
 ·rw[B6 h48]at h⊢;obtain⟨h1,h2⟩:=h.cat;rw[JN]at h2;have hval:=XZ p 32 (m+48) v.toNat h2;rw[C3 F0]at hval;have hu:=xT (p:=p) (m:=m) (n:=48) (D3 _) F0 (by rw[B6 rfl,F!];exact h1);rw[show min 48 (v.toNat/2^l)=48 by omega,hu,Aa];simp only;rw[B6 F5,Dn,qU (x:=UInt64.ofNat v.toNat) (p:=p) (m:=m+48) (n:=32) F0 (by rw[IC F0,hval]),show(32:Int)=((32:Nat):Int)from rfl,show m+min (48+1) 48=m+48 by omega,K9 F0 F0,Aa,B9,JN,BI,H0]
 ·rw[B! h48]at h⊢;generalize hq:v.toNat/2^l=q at*
  obtain⟨h1,h2⟩:=h.cat;rw[JN]at h2;obtain⟨h3,h4⟩:=h2.cons;have hval:=XZ p l (m+q+1) (v.toNat %2^l) h4;rw[dD]at hval;have hqa:At p m (List.replicate q true++[false]):=by
   have:List.replicate q true++(false::oE (v.toNat %2^l) l)=(List.replicate q true++[false])++oE (v.toNat %2^l) l:=by simp
   rw[this]at h;exact h.left
  have hu:=xT (p:=p) (m:=m) (n:=q) F0 F0 (by rw[B! F0];exact hqa);have hp2:=dV (show l<=63 by omega);have hrest:FP (Ae v:UInt64) (UInt64.ofNat (2^l))=Re p (m+q+1) l:=by
   apply qU F0;rw[O9,cV,hp2,Dn,IC F0,hval]
  rw[show min 48 q=q by omega,hu,Aa];simp only;rw[B! G2,UK l F0,Aa,Bz (by rw[YZ];simp only[N9,ne_eq,<-T3,hp2];simp),Aa,hrest,show m+min (q+1) 48=m+q+1 by omega,K9 F0 F0,Aa,B9,JN,E8,BI,show m+q+1+l=m+(q+(l+1)) by omega]
theorem Aue{k l:Nat}{s t:UInt64}(hk:k<=24)(hl:l<=24)(v:UInt32):Jw [] 0 (k:Int) (l:Int) s t v=some (Gn (Uj k l v),((Uj k l v).length:Int)):=by
 have hvl:=v.toNat_lt;have hlen:=eU v hk hl;have hAt:At (Gn (Uj k l v)) 0 (Uj k l v):=λi _=>by rw[L8,LD]
 have hfin:Mx (Gn (Uj k l v)) 0 (Uj k l v).length=Gn (Uj k l v):=by rw[xE _ (D3 _),QY]
 have h0:Mx (Gn (Uj k l v)) 0 0=[]:=rfl;have key:∀(p:LB),p=Gn (Uj k l v)->Jw (Mx p 0 0) ((0:Nat):Int) (k:Int) (l:Int) s t v=some (Mx p 0 (Uj k l v).length,((Uj k l v).length:Int)):=by
  intro p hp;rw[<-hp]at hAt;rw[Uj]at hAt⊢;rw[Jw,AU,At3 k l s t hk v,Aa];by_cases hs:v.toNat<2^k
  ·rw[B6 hs]at hAt⊢;have ha:=om hAt F0;rw[B! F5]at ha;obtain⟨_,hc⟩:=hAt.cons;have hval:=XZ p k (0+1) v.toNat hc;rw[C3 hs]at hval;rw[B6 (by simpa using hs),ha,Aa];simp only;rw[Dn,qU (x:=UInt64.ofNat v.toNat) (p:=p) (m:=0+1) (n:=k) F0 (by rw[IC F0,hval]),K9 F0 F0,Aa,E8,BI,show 0+1+k=k+1 by omega]
  ·rw[B! hs]at hAt⊢;have ha:=om hAt F0;rw[B6 rfl]at ha;obtain⟨_,hc⟩:=hAt.cons;have hleft:(gX k v).toNat=v.toNat-2^k:=by rw[gX,G3];exact C3 (QS (lP _ _) F0)
   rw[<-hleft]at hc;have hr:=Atr (v:=gX k v) hl F0 hc;rw[B! (by simpa using hs),MV,AX,ha,Aa];simp only;rw[left_eq k l s t hk v hs,Aa,hr,Aa,hleft,E8,show 0+1+(fY l (v.toNat-2^k)).length=(fY l (v.toNat-2^k)).length+1 by omega]
 have:=key _ rfl;rw[hfin,h0]at this;exact this
def lg(ch:Nat)(V:LU):List DuL:=(List.range V.length).map λi=>toI (now ch (V.take i))
theorem u? (ch:Nat)(V:LU):(lg ch V).length=V.length:=by simp[lg]
theorem W!{ch:Nat}{V:LU}{i:Nat}(h:i<V.length):(lg ch V)[i]'(by rw[u?];exact h)=toI (now ch (V.take i)):=by simp[lg]
theorem Arp(ch:Nat)(h1:1<=ch)(h6:ch<=6)(V:LU)(hV:V.length<=4000):AT (ch:Int) V=some (lg ch V):=by
 have hlen:=u? ch V;have loop:∀(j i q:Nat),i+j=V.length->j<q->Ki (ch:Int) V q (i:Int) ((lg ch V).take i)=some (lg ch V):=by
  intro j
  induction j with
  |zero=>
   intro i q hi hq;obtain⟨q,rfl⟩:∃q',q=q'+1:=⟨q-1,F0⟩;rw[Ki,Vb,B! F2,H? F0];rfl
  |succ j ih=>
   intro i q hi hq;obtain⟨q,rfl⟩:∃q',q=q'+1:=⟨q-1,F0⟩;have hg:=W! (ch:=ch) (V:=V) (i:=i) F0;have h2:=ih (i+1) q F0 F0;rw[Ho F0,hg]at h2;have htl:((lg ch V).take i).length=i:=by rw[C8];omega
   have hVi:(V.take i).length=i:=by rw[C8];omega
   rw[Ki,Vb,B6 F2];by_cases hc:i<ch
   ·have hn:now ch (V.take i)=r? :=by
     rw[now,hVi,C3 hc];exact zy ch _ i i (D3 _) hc
    rw[hn]at h2;rw[B6 F9,Jf,Aa];simp only;rw[Ay (by rw[htl];simp;omega),Aa,Ag];exact h2
   ·have e1:Ap (i:Int) (ch:Int)=((i-ch:Nat):Int):=by rw[Ca];omega
    have hVj:(V.take (i-ch)).length=i-ch:=by rw[C8];omega
    have hga:Aj ((lg ch V).take i) ((i-ch:Nat):Int)=some (toI (now ch (V.take (i-ch)))):=by
     rw[Bl,U7,W! F0]
    have hsplit:V.take i=V.take (i-ch)++(V.drop (i-ch)).take ch:=by
     rw[<-vH,show i-ch+ch=i by omega]
    have hmod:(i-ch) %ch=i %ch:=by rw[<-U6 (i-ch) ch,show i-ch+ch=i by omega]
    have hgd:(V.take i).getD (i-ch) 0=V.getD (i-ch) 0:=by
     rw[List.getD_eq_getElem?_getD,List.getD_eq_getElem?_getD,List.getElem?_take,B6 F0]
    have hn:now ch (V.take i)=nxt (now ch (V.take (i-ch))) (V.getD (i-ch) 0):=by
     have hst:=Ahz ch (V.take i) (i %ch) (i-ch) hmod (IV _ F0);rw[show i-ch+ch=i by omega,hgd]at hst;have hap:sA ch (V.take i) (i %ch) (i-ch)=sA ch (V.take (i-ch)) (i %ch) (i-ch):=by
      rw[hsplit];exact oH ch _ _ _ _ F0
     rw[now,now,hVi,hVj,hst,hap,hmod]
    rw[hn]at h2;have hle:=Adg (rS ch (V.take (i-ch)) ((V.take (i-ch)).length %ch) (V.take (i-ch)).length) (V.getD (i-ch) 0);rw[B! F9,e1,hga,Aa,jA F0,Aa,Aa];refine D9 (congrArg (λo=>Option.bind o _) hle) ?_;rw[Aa];simp only;rw[Ay (by rw[htl];simp;omega),Aa,Ag];exact h2
 rw[AT,FA];exact loop V.length 0 As F0 F7
theorem shZ{k:Nat}(hk:k<64):(GI.toZ (Ae (k:Int):UInt64)).toNat=k:=by
 rw[Xv,Oy,D0,IC F0]
theorem Bgi{k:Nat}(hk:k<8):Ed (1:UInt8) k=UInt8.ofNat (2^k):=by
 have:∀k,k<8->Ed (1:UInt8) k=UInt8.ofNat (2^k):=F5
 exact this k hk
theorem Bgn(a:UInt8)(k:Nat):geq (FP (Cx a k) (2:UInt8)) (1:UInt8)=decide (a.toNat/2^k %2=1):=by
 rw[TW,Aop,C?];simp only[E3,<-uY,uV,B?,C_];rfl
theorem yt(E code:List Bool)(hE:E.length+code.length<=330000)(bk:Int->Int->LB->Option LB)(V:LU)(B:List DuL)(a:Int):∀(j o q:Nat),o+j=code.length->j<q->
  Fh bk V B a (code.length:Int) (Gn code) q ((E.length+o:Nat):Int) (o:Int) (Mx (Gn (E++code)) 0 (E.length+o))=bk ((E.length+code.length:Nat):Int) (Af a 1) (Gn (E++code))
 |j,o,0,_,h=>absurd h (G4 _)
 |0,o,q+1,ho,_=>by
  obtain rfl:o=code.length:=F0
  rw[Fh,Uw,B! I!,DQ,Ael,xE _ N0,H? N0]
 |j+1,o,q+1,ho,hq=>by
  generalize hP:Gn (E++code)=P;have hPo:Ge P (E.length+o)=Ge (Gn code) o:=by rw[<-hP,LD,LD,mU]
  have ih:=yt E code hE bk V B a j (o+1) q F0 F0;rw[hP,<-H0]at ih;generalize hn:E.length+o=n at*
  have hq8:Bs (n:Int) 8=((n/8:Nat):Int):=by rw[show(8:Int)=((8:Nat):Int)from rfl,AF]
  have hr8:Gx (n:Int) 8=((n %8:Nat):Int):=by rw[show(8:Int)=((8:Nat):Int)from rfl,GF]
  have hqo:Bs (o:Int) 8=((o/8:Nat):Int):=by rw[show(8:Int)=((8:Nat):Int)from rfl,AF]
  have hro:Gx (o:Int) 8=((o %8:Nat):Int):=by rw[show(8:Int)=((8:Nat):Int)from rfl,GF]
  have hroom:Fh bk V B a (code.length:Int) (Gn code) (q+1) (n:Int) (o:Int) (Mx P 0 n)=Uu (Fh bk V B a (code.length:Int) (Gn code) q) V a B (code.length:Int) (Gn code) (n:Int) (o:Int) (room P 0 n):=by
   rw[Fh,Uw,B6 F9,hr8,room];by_cases h0:n %8=0
   ·rw[B6 (by rw[Ax,h0];rfl),Ay dH,Aa,B6 h0]
   ·rw[B! G2,B! h0]
  have hcl:=BW code;have hgm:Aj (Gn code) ((o/8:Nat):Int)=some ((Gn code).getD (o/8) 0):=by
   rw[Bl,List.getD_eq_getElem?_getD,List.getElem?_eq_getElem F0];rfl
  have hg:Aj (room P 0 n) ((n/8:Nat):Int)=some (UInt8.ofNat (Ck P (0+8*(n/8)) (n %8))):=by
   rw[Bl UD,eY]
  have hlt:=zA P (0+8*(n/8)) (n %8+1) F0;have hsn:=oP P (0+8*(n/8)) (n %8);rw[show 0+8*(n/8)+n %8=n by omega]at hsn;have hrs:=yO P 0 n 1 F0 F0;have hbit:geq (FP (Cx ((Gn code).getD (o/8) 0) (o %8)) (2:UInt8)) (1:UInt8)=decide (Ge P n=1):=by
   rw[Bgn,hPo,Ge]
  rw[hroom,Uu,Ae7,hqo,hro,hq8,hr8,hgm,Aa,Aa,shZ F0,shZ F0,hbit];have hbl:=FN P n;by_cases hone:Ge P n=1
  ·have hnew:Af (UInt8.ofNat (Ck P (0+8*(n/8)) (n %8))) (Ed (1:UInt8) (n %8))=UInt8.ofNat (Ck P (0+8*(n/8)) (n %8+1)):=by
    rw[Bgi F0,Ao5,hsn,hone,lL,UInt8.ofNat_add]
   rw[B6 (by simpa using hone),hg,Aa,Aa,Aa,hnew,Zv _ UD,Aa,hrs,Ag,Ag];exact ih
  ·have hz:Ge P n=0:=F0
   have hsn:Ck P (0+8*(n/8)) (n %8+1)=Ck P (0+8*(n/8)) (n %8):=by rw[hsn,hz];simp
   have hsame:room P 0 n=Mx P 0 (n+1):=by
    rw[<-hrs,hsn,<-eY,uQ]
   rw[B! (by simpa using hone),hsame,Ag,Ag];exact ih
theorem Azt(ch:Nat)(h1:1<=ch)(h6:ch<=6)(V:LU)(hV:V.length<=4000):∀(j i q:Nat),i+j=V.length->j<q->
  He V (lg ch V) q ((RZ ch V i).length:Int) (i:Int) (Gn (RZ ch V i))=some (Gn (RZ ch V V.length)++DZ (Fw (Gn (RZ ch V V.length))).toNat 4)
 |j,i,0,_,h=>absurd h (G4 _)
 |0,i,q+1,hi,_=>by
  obtain rfl:i=V.length:=F0
  have hel:=ZP ch V V.length;have hpl:=BW (RZ ch V V.length);rw[He,Oj,B! WE,DX,Aev,yU _ F0,Aa]
 |j+1,i,q+1,hi,hq=>by
  have hlen:=u? ch V;have hno:=dY ch (V.take i);have hdl:=eU (V.getD i 0) hno.1 hno.2;have hel:=ZP ch V i;have ih:=Azt ch h1 h6 V hV j (i+1) q F0 F0;have hgs:Aj (lg ch V) (i:Int)=some (toI (now ch (V.take i))):=by rw[Bl,W! F0]
  have hda:=Aue (s:=(now ch (V.take i)).2.2.1) (t:=(now ch (V.take i)).2.2.2) hno.1 hno.2 (V.getD i 0);have hpc:=yt (RZ ch V i) (Uj (now ch (V.take i)).1 (now ch (V.take i)).2.1 (V.getD i 0)) F0 (He V (lg ch V) q) V (lg ch V) (i:Int) (Uj (now ch (V.take i)).1 (now ch (V.take i)).2.1 (V.getD i 0)).length 0 As F0 F7;rw[N7,xE _ N0,uf]at hpc;rw[He,Oj,B6 F2];refine D9 (congrArg (λo=>Option.bind o _) hgs) ?_;rw[Aa,jA F0,Aa];refine D9 (congrArg (λo=>Option.bind o _) hgs) ?_;rw[Aa];refine D9 (congrArg (λo=>Option.bind o _) hda) ?_;rw[Aa];simp only;rw[Adz,FD,EH];refine D9 hpc ?_;rw[Ag];rw[RZ,B9]at ih;exact ih
theorem Ae1{bits:Int}{ch:Nat}{t x:LX}(hb:Bq bits)(ht:t.length=16)(h1:1<=ch)(h6:ch<=6)(hx1:1<=x.length)(hx4:x.length<=4000)(hm:x.length %ch=0)(hr:inR bits x):Ul (ch:Int) bits t x=some (SV bits ch t x,0):=by
 have hVl:=fT bits ch t x;have hh:=XU bits;have hck:Cv (ch:Int) bits=some 0:=by
  rw[Cv,B! H7,oS hb,Aa,B! G2]
 have M7:Wc (ch:Int) bits x=some 0:=by
  rw[Wc,hck,Aa,B! F5,jr hb hx4 hr,Aa,B! F5,B! F2,Bz E?,Aa,Ac,GF,hm,B! F5]
 have hlp:=Azt ch h1 h6 (It bits ch t x) F0 x.length 0 As F0 F7;rw[Ul,M7,Aa,B! F5,Apv hb ht h1 h6 hx4 hm,Aa,PO,GO,Arp ch h1 h6 _ F0,Aa,Aet];have e1:Gn []=[]:=rfl;rw[show RZ ch (It bits ch t x) 0=[]from rfl,e1,T5,show((0:Nat):Int)=0 from rfl]at hlp;rw[hlp];rw[Aa,SV,SM,hVl]
theorem Bmo{p:Prop}(h:p:=by simp only[Am,De,Ac,HU,N9,B?];omega):p:=h
theorem WM(a b:Nat)(h:a*b<=9223372036854775807):Bn (a:Int) (b:Int)=((a*b:Nat):Int):=by
 rw[Ea K? K?,<-M!]
theorem WQ(a b:Nat)(h:a+b<=9223372036854775807):Af (a:Int) (b:Int)=((a+b:Nat):Int):=by
 rw[Ag,<-QW]
theorem Aym{bits:Int}(h:¬Bq bits):Gt bits=some 0:=by
 have h8:¬bits=8:=λe=>h (.inl e);have h16:¬bits=16:=λe=>h (.inr (.inl e));have h24:¬bits=24:=λe=>h (.inr (.inr e));rw[Gt,B! (by rw[Ax];simpa using h8),B! (by rw[Ax];simpa using h16),B! (by rw[Ax];simpa using h24)]
instance Bgb(bits:Int):Decidable (Bq bits):=by unfold Bq;infer_instance
def shS(c w:Int):Bool:=decide ((1<=c/\c<=6)/\Bq w)
theorem Asy(c w:Int):Nz c w=some (if shS c w=true then 0 else 2):=by
 rw[Nz];by_cases hw:Bq w
 ·rw[G! hw,Aa];simp only;by_cases hc:1<=c/\c<=6
  ·rw[B! lU,shS,L! ⟨hc,hw⟩,B6 rfl]
  ·rw[B6 lU,shS,E0 (λh=>hc h.1),B! F5]
 ·rw[Asq hw,Aa];simp only;rw[B6 (by simp[Am]),shS,E0 (λh=>hw h.2),B! F5]
theorem qS(c w:Int):Cv c w=some (if shS c w=true then 0 else 2):=by
 rw[Cv];by_cases hc:1<=c/\c<=6
 ·rw[B! H7];by_cases hw:Bq w
  ·have:=(XU w).1;rw[oS hw,Aa,B! G2,shS,L! ⟨hc,hw⟩,B6 rfl]
  ·rw[Aym hw,Aa,B6 F5,shS,E0 (λh=>hw h.2),B! F5]
 ·rw[B6 H7,shS,E0 (λh=>hc h.1),B! F5]
def pF(r:Int):Bool:=decide (1<=r/\r<=1048576)
def V8(r:Int):Int:=if pF r=true then(Ak r.toNat:Int)else 0
theorem Anh(r:Int):Un r=some (V8 r,if pF r=true then 0 else 2):=by
 by_cases h:1<=r/\r<=1048576
 ·obtain⟨R,rfl⟩:=G5 (show 0<=r by omega);rw[eS F0 F0,V8,pF,L! h];rfl
 ·rw[Un,B6 H7,V8,pF,E0 h];rfl
theorem nS(r:Int):Fe r=some (V8 r,if pF r=true then 0 else 2):=by
 by_cases h:1<=r/\r<=1048576
 ·obtain⟨R,rfl⟩:=G5 (show 0<=r by omega);have e:Bs (Bn (R:Int) 256) 245=((R*256/245:Nat):Int):=by
   rw[Ea,show(R:Int)*256=((R*256:Nat):Int) by omega];exact AF
  rw[Fe,B! H7,e,V8,pF,L! h,B6 rfl,B6 rfl,Ak,show(R:Int).toNat=R from rfl,E! 256 R];by_cases h0:R*256/245=0
  ·rw[B6 G2];congr 2;omega
  ·rw[B! G2];congr 2;omega
 ·rw[Fe,B6 H7,V8,pF,E0 h];rfl
def fdB(C w:Int)(c L:Nat)(rest:LB)(l:LX)(fr:List LB)(out:LB):Bool:=
 decide (out=[]/\rest.length<c*wB w/\l.length %c=0/\l.length/c<L/\fr.length<=1000/\Bd w l=some 0/\fr.length+(if l=[]then 0 else 1)<=1000/\ (fr.length*L+l.length/c)*c<=4000/\
  ∀x∈fr,5<=x.length/\x.length<= (81*L*c+7)/8+4)
section
variable {w:Int} {c L:Nat} (hw:Bq w) (hc:1<=c/\c<=6) (hL:1<=L/\L<=1100000)
include hw hc hL
omit hw in
theorem Aoq:Af (Bs (Af (Bn (Bn 81 (L:Int)) (c:Int)) 7) 8) 4=(((81*L*c+7)/8+4:Nat):Int):=by
 have h1:81*L*c<=81*1100000*6:=G0 F0 hc.2;rw[show(81:Int)=((81:Nat):Int)from rfl,WM 81 L F0,WM (81*L) c F0,show(7:Int)=((7:Nat):Int)from rfl,WQ (81*L*c) 7 F0,show(8:Int)=((8:Nat):Int)from rfl,AF,show(4:Int)=((4:Nat):Int)from rfl,WQ _ 4 F0]
omit hw in
theorem Ans(fr:List LB)(hf:fr.length<=2000):∀(j i q:Nat),i+j=fr.length->j<q->Gc fr (L:Int) (c:Int) q (i:Int)=some (decide (∀x∈fr.drop i,5<=x.length/\x.length<= (81*L*c+7)/8+4))
 |0,i,q+1,hi,_=>by
  rw[Gc,Pq,B! F2,show i=fr.length by omega,OH];rfl
 |j+1,i,q+1,hi,hq=>by
  have hlt:i<fr.length:=F0
  have ih:=Ans fr hf j (i+1) q F0 F0;rw[Gc,Pq,B6 F2,Bl hlt,Aa,AK,NJ,Aoq hc hL,drop_cons hlt];generalize(81*L*c+7)/8+4=K at*
  by_cases h:5<=fr[i].length/\fr[i].length<=K
  ·rw[B! lS,MY,NB,Ag];refine ih.trans ?_;congr 1;rw[C?,B?,B?,List.forall_mem_cons];exact⟨λhh=>⟨h,hh⟩,λhh=>hh.2⟩
  ·rw[B6 lS,NK,Ama,Ams,Amr];have e:Nw (i:Int) 0=true:=by rw[De];simp
   rw[e,E0 (λhh=>h (hh _ M9))];rfl
omit hw in
theorem Avy(C:Int)(fr:List LB)(hf:fr.length<=2000)(f2:Int)(o k:LB)(b:LX)(m:LB)(p:Bool)(u:Int):∀(j i q:Nat),i+j=fr.length->j<q->Hn (L:Int) (c:Int) C f2 o k b fr m p u q (i:Int)=some (decide (∀x∈fr.drop i,5<=x.length/\x.length<= (81*L*c+7)/8+4))
 |0,i,q+1,hi,_=>by
  rw[Hn,Rm,B! F2,show i=fr.length by omega,OH];rfl
 |j+1,i,q+1,hi,hq=>by
  have hlt:i<fr.length:=F0
  have ih:=Avy C fr hf f2 o k b m p u j (i+1) q F0 F0;rw[Hn,Rm,B6 F2,Bl hlt,Aa,Aa,Aoq hc hL,drop_cons hlt];generalize(81*L*c+7)/8+4=K at*
  by_cases h5:5<=fr[i].length
  ·rw[B! (by simp[Ad,Ac];omega)];by_cases h:fr[i].length<=K
   ·rw[B! (by simp[Ar,Ac];omega),Ag];refine ih.trans ?_;congr 1;rw[C?,B?,B?,List.forall_mem_cons];exact⟨λhh=>⟨⟨h5,h⟩,hh⟩,λhh=>hh.2⟩
   ·rw[B6 (by simp[Ar,Ac];omega),E0 (λhh=>h (hh _ M9).2)]
  ·rw[B6 (by simp[Ad,Ac];omega),E0 (λhh=>h5 (hh _ M9).1)]
theorem Aq0(R:Int)(p rest:LB)(l:LX)(fr:List LB)(out:LB)(u:Bool)(v:Int)(h1:l.length<=4000)(h2:fr.length<=2000):
  Xr (c:Int) w R p rest l fr out u v (L:Int)=some (fdB w w c L rest l fr out):=by
 have hok:Mt (Bj (c:Int) 0)=some ():=Bz E?;have hgs:Bs (Ac l) (c:Int)=((l.length/c:Nat):Int):=by rw[Ac];exact AF
 have him:Gx (Ac l) (c:Int)=((l.length %c:Nat):Int):=by rw[Ac];exact GF _ _
 have hmo:BY (c:Int) w=some ((c*wB w:Nat):Int):=by
  rw[BY];obtain⟨W,rfl⟩:∃W:Nat,w=W:=by
   rcases hw with h|h|h<;>exact⟨_,h⟩
  rw[e! hc.2 hw]
 rw[Xr,DR];simp only[hok,hgs,him,hmo,Aa];by_cases c1:out=[]
 ·rw[B! (by subst c1;decide)];by_cases c2:rest.length<c*wB w
  ·rw[B! dG];by_cases c3:l.length %c=0
   ·rw[B! (by rw[Am,c3];decide)];by_cases c4:l.length/c<L/\fr.length<=1000
    ·rw[B! (by simp[De,Ar,Ac];omega),AO,AS,iF hw l h1];obtain⟨e,he⟩:=M5 hw l h1;rw[he,Aa];by_cases c5:e=0
     ·subst c5;rw[B! F5];have hlc:l.length/c<=4000:=XK (G9 _ _) h1;have hGL:fr.length*L<=2000*1100000:=G0 h2 hL.2;have Bjl:(fr.length*L+l.length/c)*c<= (2000*1100000+4000)*6:=G0 F0 hc.2;have key:∀M:Nat,M<=3000->Ty (L:Int) (c:Int) w R p rest l fr out u v (M:Int)=some (decide (M<=1000/\ (fr.length*L+l.length/c)*c<=4000/\∀x∈fr,5<=x.length/\x.length<= (81*L*c+7)/8+4)):=by
       intro M hM;rw[Ty,Tw,Zr,hok,Aa,Aa,Zj,Aa,hgs,Ac,WM fr.length L F0,WQ _ _ F0,WM _ c F0];by_cases c6:M<=1000/\ (fr.length*L+l.length/c)*c<=4000
       ·rw[B! (by simp only[Th,G6,Bool.and_eq_false_iff,N2];omega),AW,Tt,AM];refine(Ans hc hL fr h2 fr.length 0 As F0 F7).trans ?_;rw[RU];congr 1;rw[C?,B?,B?];exact⟨λh=>⟨c6.1,c6.2,h⟩,λh=>h.2.2⟩
       ·rw[B6 (by simp only[Th,G6,Bool.and_eq_false_iff,N2];omega),E0 (λh=>c6 ⟨h.1,h.2.1⟩)]
      have fin:∀M:Nat,M=fr.length+(if l=[]then 0 else 1)->some (decide (M<=1000/\ (fr.length*L+l.length/c)*c<=4000/\∀x∈fr,5<=x.length/\x.length<= (81*L*c+7)/8+4))=some (fdB w w c L rest l fr out):=by
       intro M hM;congr 1;rw[fdB,C?,B?,B?,hM];exact⟨λh=>⟨c1,c2,c3,c4.1,c4.2,he,h⟩,λh=>h.2.2.2.2.2.2⟩
      by_cases c0:l=[]
      ·rw[B! (by subst c0;decide),Ac,key fr.length F0];exact fin _ (by rw[B6 c0];rfl)
      ·rw[B6 (by rw[kO];simpa using c0),Ac,Ag,show((fr.length:Int)+1)=((fr.length+1:Nat):Int) by omega,key (fr.length+1) F0];exact fin _ (by rw[B! c0])
     ·rw[B6 (by rw[Am];simpa using c5),fdB,E0 (λh=>c5 (by have:=h.2.2.2.2.2.1;rw[he]at this;exact QT this))]
    ·rw[B6 (by simp[De,Ar,Ac];omega),fdB,E0 (λh=>c4 ⟨h.2.2.2.1,h.2.2.2.2.1⟩)]
   ·rw[B6 E?,B6 B8,fdB,E0 (λh=>c3 h.2.2.1)]
  ·rw[B6 dG,B6 trivial,B6 B8,fdB,E0 (λh=>c2 h.2.1)]
 ·rw[B6 (by rw[kO];simpa using c1),B6 trivial,B6 trivial,B6 B8,fdB,E0 (λh=>c1 h.1)]
theorem As0(R:Int)(hR:V8 R=L)(p rest:LB)(l:LX)(fr:List LB)(out:LB)(u:Bool)(v:Int)(h1:l.length<=4000)(h2:fr.length<=2000):
  Xz (c:Int) w R p rest l fr out u v=some (fdB w w c L rest l fr out):=by
 have hok:Mt (Bj (c:Int) 0)=some ():=Bz E?;have hgs:Bs (Ac l) (c:Int)=((l.length/c:Nat):Int):=by rw[Ac];exact AF
 have him:Gx (Ac l) (c:Int)=((l.length %c:Nat):Int):=by rw[Ac];exact GF _ _
 have hmo:Gb (c:Int) w=some ((c*wB w:Nat):Int):=by
  rw[Gb];obtain⟨W,rfl⟩:∃W:Nat,w=W:=by
   rcases hw with h|h|h<;>exact⟨_,h⟩
  rw[e! hc.2 hw]
 have hlg:Lh (c:Int) w R p rest l fr out u v=some (L:Int):=by rw[Lh,nS,Aa,hR]
 have hLc:L*c<=1100000*6:=G0 hL.2 hc.2;have hlm:Bn (L:Int) (c:Int)=((L*c:Nat):Int):=WM L c F0;obtain⟨e,he⟩:=M5 hw l h1;rw[Xz,CR];simp only[hlg,hok,him,hmo,hlm,he,Aa];by_cases c1:out=[]
 ·rw[B! (by subst c1;decide)];by_cases c2:rest.length<c*wB w
  ·rw[B! dG];by_cases c3:l.length %c=0/\l.length/c<L
   ·have c34:l.length<L*c:=(uR F0).1 c3.2;rw[B! Bmo];by_cases c5:e=0/\fr.length<=1000
    ·obtain⟨c5,c4⟩:=c5;subst c5;rw[B! lV,BM,BJ];have hlc:l.length/c<=4000:=XK (G9 _ _) h1;have hGL:fr.length*L<=2000*1100000:=G0 h2 hL.2;have key:∀M:Nat,M<=3000->CD (L:Int) (c:Int) w R p rest l fr out u v (M:Int)=some (decide (M<=1000/\ (fr.length*L+l.length/c)*c<=4000/\∀x∈fr,5<=x.length/\x.length<= (81*L*c+7)/8+4)):=by
      intro M hM;have e4:Bs 4000 (c:Int)=((4000/c:Nat):Int):=AF (a:=4000) F5;rw[CD,BS,Eu,hok,Aa,hlg,Aa,Aa,hgs,Ac,WM fr.length L F0,WQ _ _ F0,Ti,hok,Aa,e4];have hdiv:(fr.length*L+l.length/c<=4000/c)↔(fr.length*L+l.length/c)*c<=4000:=Nat.le_div_iff_mul_le F0;by_cases c6:M<=1000
      ·rw[B6 Z?,Aa];by_cases c7:(fr.length*L+l.length/c)*c<=4000
       ·have c8:=hdiv.2 c7;rw[B! (by simp only[Th,G6,N2];omega),Acg,CI,Abq];refine(Avy hc hL w fr h2 R p rest l out u v fr.length 0 As F0 F7).trans ?_;rw[RU];congr 1;rw[C?,B?,B?];exact⟨λh=>⟨c6,c7,h⟩,λh=>h.2.2⟩
       ·have c8:¬(fr.length*L+l.length/c<=4000/c):=λh=>c7 (hdiv.1 h);rw[B6 (by simp only[Th,G6,N2];omega),E0 (λh=>c7 h.2.1)]
      ·rw[B! Z?,Aa,B6 F5,E0 (λh=>c6 h.1)]
     have fin:∀M:Nat,M=fr.length+(if l=[]then 0 else 1)->some (decide (M<=1000/\ (fr.length*L+l.length/c)*c<=4000/\∀x∈fr,5<=x.length/\x.length<= (81*L*c+7)/8+4))=some (fdB w w c L rest l fr out):=by
      intro M hM;congr 1;rw[fdB,C?,B?,B?,hM];exact⟨λh=>⟨c1,c2,c3.1,c3.2,c4,he,h⟩,λh=>h.2.2.2.2.2.2⟩
     by_cases c0:l=[]
     ·rw[B! (by subst c0;decide),Ac,key fr.length F0];exact fin _ (by rw[B6 c0];rfl)
     ·rw[B6 (by rw[kO];simpa using c0),Ac,Ag,show((fr.length:Int)+1)=((fr.length+1:Nat):Int) by omega,key (fr.length+1) F0];exact fin _ (by rw[B! c0])
    ·rw[B6 lV,fdB,E0 (λh=>c5 ⟨by have:=h.2.2.2.2.2.1;rw[he]at this;exact QT this,h.2.2.2.2.1⟩)]
   ·have c34:l.length %c≠0\/L*c<=l.length:=by
     by_cases h0:l.length %c=0
     ·exact .inr (by have:=mt (uR (show 0<c by omega) (x:=l.length) (y:=L)).2 (λh=>c3 ⟨h0,h⟩);omega)
     ·exact .inl h0
    rw[B6 Bmo,B6 B8,fdB,E0 (λh=>c3 ⟨h.2.2.1,h.2.2.2.1⟩)]
  ·rw[B6 dG,B6 B8,B6 B8,fdB,E0 (λh=>c2 h.2.1)]
 ·rw[B6 (by rw[kO];simpa using c1),B6 trivial,B6 B8,B6 B8,fdB,E0 (λh=>c1 h.1)]
end
theorem empty_eq(b:LB)(f:LX)(g:List LB)(hb:b.length<=100000)(hf:f.length<=100000)(hg:g.length<=100000):geq (Af (Af (Ac b) (Ac f)) (Ac g)) 0=((geq (Ac b) 0&&geq (Ac f) 0)&&geq (Ac g) 0):=by
 rw[Ac,Ac,Ac,WQ _ _ F0,WQ _ _ F0];simp only[Ax];rw[C?];simp only[C1,E3];omega
theorem w?(m n o:Int)(p b:LB)(f:LX)(g:List LB)(h:LB)(k:Bool)(a:Int)(hb:b.length<=100000)(hf:f.length<=4000)(hg:g.length<=2000)(hh:h.length<=1000000):
  ∃E,Nx m n o p b f g h k a=some E/\Hc m n o p b f g h k a=some E:=by
 rw[Nx,Zy,Anh,Aa,Hc,Dw,nS,Aa];simp only;rw[Asy,qS,Aa,Aa,Aa];simp only;by_cases hR:shS m n=true/\pF o=true/\p.length<=64
 ·obtain⟨h1,h2,h3⟩:=hR;have hp1:vA (Ac p) 64=true:=by rw[Th,Ac];simp;omega
  have hp2:Ec (Ac p) 64=false:=by rw[Ar,Ac];simp;omega
  have hx:(if((Bj (0:Int) 0||Bj (0:Int) 0)||false)=true then some (2:Int)else some 0)=some 0:=rfl;have hy:¬(Bj (0:Int) 0=true):=F5
  rw[B6 h1,B6 h2,hp1,hp2,B! F5,hx,Aa,B! hy];by_cases ha:Bj a 0=true
  ·rw[B6 ha,B6 ha,empty_eq b f g F0 F0 F0];generalize((geq (Ac b) 0&&geq (Ac f) 0)&&geq (Ac g) 0)=z;have e1:geq (Ac h) 0=decide (h=[]):=Q9 h;have e2:Ec (Ac h) 0=decide (h≠ []):=kO h;rw[e1,e2];by_cases hq:(((((geq a 18)||(geq a 24))&&(!k))&&z)&&decide (h=[]))=true
   ·rw[B! (by rw[hq];decide),B!]
    ·exact⟨0,rfl,rfl⟩
    ·simp only[C1,HU,G6,B?,Ax,Am,N9,E3]at hq⊢;simp[hq];omega
   ·rw[B6 (by rw[Bool.eq_false_iff.2 hq];rfl),B6]
    ·exact⟨8,rfl,rfl⟩
    ·simp only[C1,HU,G6,B?,Ax,Am,N9,E3]at hq⊢;by_cases e3:h=[]
     ·by_cases e4:z=true
      ·by_cases e5:k=true
       ·exact .inl (.inl (.inr e5))
       ·exact .inl (.inl (.inl (by
         simp only[Bool.not_eq_true]at e5;simp[e3,e4,e5]at hq;omega)))
      ·exact .inl (.inr (by simpa using e4))
     ·exact .inr e3
  ·rw[B! ha,B! ha];cases k with
   |true=>
    rw[B6 rfl,B6 rfl,empty_eq b f g F0 F0 F0];generalize((geq (Ac b) 0&&geq (Ac f) 0)&&geq (Ac g) 0)=z;by_cases hq:(z&&vA (Ac h) 100000)=true
    ·rw[B! (by rw[hq];decide),B!]
     ·exact⟨0,rfl,rfl⟩
     ·simp only[C1,Th,B?,Ac]at hq;simp[hq.1,Ar,Ac];omega
    ·rw[B6 (by rw[Bool.eq_false_iff.2 hq];rfl),B6]
     ·exact⟨8,rfl,rfl⟩
     ·cases z with
      |false=>rfl
      |true=>
       simp[Th,Ac]at hq;simp[Ar,Ac];omega
   |false=>
    rw[B! F5,B! F5];have hs1:=h1;have hs2:=h2;rw[shS,B?]at hs1;rw[pF,B?]at hs2;obtain⟨C,rfl⟩:=G5 (show 0<=m by omega);have hLo:V8 o=((Ak o.toNat:Nat):Int):=by rw[V8,B6 h2]
    have hL:1<=Ak o.toNat/\Ak o.toNat<=1100000:=⟨Hb _,KE F0⟩;rw[hLo,Aq0 hs1.2 F0 hL o p b f g h false a hf hg,As0 hs1.2 F0 hL o hLo p b f g h false a hf hg,Aa];generalize fdB n n C (Ak o.toNat) b f g h=B;cases B
    ·exact⟨8,rfl,rfl⟩
    ·exact⟨0,rfl,rfl⟩
 ·have h8:(((geq (if shS m n=true then(0:Int)else 2) 0&&geq (if pF o=true then(0:Int)else 2) 0)&&vA (Ac p) 64))=false:=by
   rw[uy];intro e;simp only[C1,Th,B?,Ac]at e;refine hR ⟨?_,?_,F0⟩
   ·cases hq:shS m n with
    |true=>rfl
    |false=>rw[hq]at e;exact absurd e.1.1 F5
   ·cases hq:pF o with
    |true=>rfl
    |false=>rw[hq]at e;exact absurd e.1.2 F5
  rw[h8];refine⟨8,rfl,?_⟩;rw[B6,Aa,B6 F5]
  ·simp only[HU,Ar,B?,Ac];cases hq:shS m n with
   |false=>exact .inl (.inl F5)
   |true=>
    cases hq2:pF o with
    |false=>exact .inl (.inr F5)
    |true=>exact .inr (by have:¬p.length<=64:=λh=>hR ⟨hq,hq2,h⟩;omega)
theorem lR{p:Prop}(h:p:=by simp only[B9,Dk];omega):p:=h
theorem rI{n w:Nat}(hn:n<2^64)(hw:w<=1000):Bf (Ae (n:Int):UInt64) (w:Int)=some (DZ n w):=by
 rw[Xv,sI _ w hw,IC hn]
theorem Bey{a:LB}(ha:a.length<=10000000):∃k,Js a=some k/\Bf (Ae k:UInt64) 4=some (DZ (Fw a).toNat 4):=by
 have hlt:=(Fw a).toNat_lt;refine⟨Fw a,gP a F0,?_⟩;rw[Dn,show(4:Int)=((4:Nat):Int)from rfl,sI _ 4 F0,IC F0]
theorem Bgs{f c w r n:Nat}(hf:f<2^64)(hc:c<2^64)(hw:w<2^64)(hr:r<2^64)(hn:n<2^64):EY (f:Int) (c:Int) (w:Int) (r:Int) (n:Int)=some (SQ f c w r n):=by
 have w2:∀{m:Nat},m<2^64->Bf (Ae (m:Int):UInt64) 2=some (DZ m 2):=λh=>rI (w:=2) h F0;have w4:∀{m:Nat},m<2^64->Bf (Ae (m:Int):UInt64) 4=some (DZ m 4):=λh=>rI (w:=4) h F0;obtain⟨k,k1,k2⟩:=Bey (a:=Q1 f c w r n) (by rw[xQ];omega);have e0:([(84:UInt8),(84:UInt8),(65:UInt8),(49:UInt8)]:LB)=IJ:=rfl;have hm:IJ.length=4:=rfl;rw[EY,e0,w2 hf,Aa,Ay dL,Aa,w2 hc,Aa,Ay lR,Aa,w2 hw,Aa,Ay lR,Aa,w4 hr,Aa,Ay lR,Aa,w4 hn,Aa,Ay lR,Aa];change (Js (Q1 f c w r n)).bind _=_;rw[k1,Aa,k2,Aa];change (Bt (Q1 f c w r n) _).bind _=_;rw[Ay (by rw[xQ,Dk];omega),Aa];rfl
theorem Bd8(l:LI)(hl:l.length<=1000)(h5:∀x∈l,0<=x/\x<=100000):QM l=some (T9 l):=by
 have loop:∀(j i q:Nat),i+j=l.length->j<q->Lt l q (i:Int) (N3 (l.take i))=some (T9 l):=by
  intro j
  induction j with
  |zero=>
   intro i q hi hq;obtain⟨q,rfl⟩:∃q',q=q'+1:=⟨q-1,F0⟩;obtain⟨k,k1,k2⟩:=Bey (a:=N3 l) (by rw[fF];omega);rw[Lt,Wy,B! F2,H? F0,HM,Afw,k1,Aa,k2,Aa,Ay (by rw[fF,Dk];omega),Aa];rfl
  |succ j ih=>
   intro i q hi hq;obtain⟨q,rfl⟩:∃q',q=q'+1:=⟨q-1,F0⟩;have ih:=ih (i+1) q F0 F0;obtain⟨x5,x6⟩:=h5 l[i] (G8 _);obtain⟨v,hv⟩:=G5 (show 0<=l[i] by omega);rw[Ho F0,xK,hv,D0]at ih;have w4:Bf (Ae (v:Int):UInt64) 4=some (DZ v 4):=rI (w:=4) F0 F0;rw[Lt,Wy,B6 F2,Bl,Aa,hv,w4,Aa,Ay (by rw[fF,Dk,C8];omega),Aa,Ag];exact ih
 exact loop l.length 0 As F0 F7
theorem ZM{a:List LB}(ha:∀y∈a,y.length<=17179869184)(ha2:a.length<=100000)(b f g:Int)(h:LB){x:LB}{s:LX}{z:LB}(hx:x.length<=17179869184)(hs:s.length<=17179869184)(hz:z.length<=17179869184)(k:Bool)(m:Int):Sf b f g h x s a z k m=some (b,f,g,h,x,s,a,z,k,m):=by
 have loop:∀(j i q:Nat),i+j=a.length->j<q->Na b f g h a k m x s z q (i:Int) (a.take i)=some (b,f,g,h,x,s,a,z,k,m):=by
  intro j
  induction j with
  |zero=>
   intro i q hi hq;obtain⟨q,rfl⟩:∃q',q=q'+1:=⟨q-1,F0⟩;rw[Na,Zb,B! F2,H? F0];rfl
  |succ j ih=>
   intro i q hi hq;obtain⟨q,rfl⟩:∃q',q=q'+1:=⟨q-1,F0⟩;have ih:=ih (i+1) q F0 F0;rw[Ho F0]at ih;have h1:=ha a[i] (G8 _);rw[Na,Zb,B6 F2,Bl,Aa,Ay F6,Aa,I0,Ay F6,Aa,Ag];exact ih
 have h0:=loop a.length 0 As F0 F7;rw[Sf,JR,Ay F6,Aa,Ay F6,Aa,Ay F6,Aa];exact h0
theorem Ayx(p:LB):Ps p=some (NU p:Int):=by
 rw[Ps,NU];by_cases h0:p=[]
 ·rw[B6 h0,B6 (by simpa using h0)];rfl
 ·rw[B! h0,B! (by simpa using h0)];rfl
theorem Bad{c w r n:Nat}{x:LX}(hcl:ClipOk c w r n x){p:LB}(hp:p.length<=64)(k:LB)(ab:LX):Akq (c:Int) (w:Int) (r:Int) p k [] false 0 (NU p:Int) (n:Int) ab (dW c w r n x p)=some (cS c w r n x p):=by
 have hfn:=ZR hcl p;have hle:=yg hcl p;have hlen:=X4 (c:=c) (w:=w) (r:=r) (n:=n) (x:=x) p;have h5:=Aj0 hcl p;have Bhj:=Aij p;have hll:=JU (dW c w r n x p);have hnn:=Az4 (dW c w r n x p);have hsh:(NU p=1\/NU p=2)/\ (1<=c/\c<=6)/\ (w=8\/w=16\/w=24)/\ (1<=r/\r<=1048576)/\1<=n:=by simpa only[Oe,B?]using hcl.shape _ Bhj
 have Bfp:=hcl.le;have htb:=Ag0 hcl p;have h6:∀z∈Mp (dW c w r n x p),0<=z/\z<=100000:=by
  simp only[FO,C1,B?]at htb;obtain⟨⟨_,_⟩,h3⟩:=htb;have h4:=(OU _ 100000 F0).1 h3;have h6:=X0 h4.1;exact λz hz=>⟨hnn z hz,by have:=h6 z hz;omega⟩
 have hh:=V7 (NU p) c w r n;have ht:=X? (Mp (dW c w r n x p));have hdl:=mL p;have hfin:Xb (c:Int) (w:Int) (r:Int) p k ab [] false 0 (NU p:Int) (n:Int) (Mp (dW c w r n x p)) (dW c w r n x p).flatten (dW c w r n x p)=some (cS c w r n x p):=by
  rw[Xb,Afo,Bgs F0 F0 F0 F0 F0,Aa];by_cases h0:p=[]
  ·have e2:P5 p=[]:=by rw[P5,B6 h0]
   rw[e2,T5]at hdl;rw[B! (by simp[h0]),GL,GR,Bd8 _ F0 h6,Aa,Ay,Aa,Ay N0,Aa,cS,e2];simp
  ·have e2:P5 p=DZ (MI p).toNat 8:=by rw[P5,B! h0]
   rw[e2,Dk]at hdl;rw[B6 (by simpa using h0),W6 p hp,Aa,Ay dL,Aa,GL,GR,Bd8 _ F0 h6,Aa,Ay (by rw[B9,Dk];omega),Aa,Ay (by rw[B9,B9,Dk];omega),Aa,cS,e2];simp
 have loop:∀(j i q:Nat),i+j=(dW c w r n x p).length->j<q->Nn (c:Int) (w:Int) (r:Int) p k ab [] false 0 (NU p:Int) (n:Int) (dW c w r n x p) q (i:Int) (Mp ((dW c w r n x p).take i)) ((dW c w r n x p).take i).flatten=some (cS c w r n x p):=by
  intro j
  induction j with
  |zero=>
   intro i q hi hq;obtain⟨q,rfl⟩:∃q',q=q'+1:=⟨q-1,F0⟩;rw[Nn,Yz,B! F2,H? F0];exact hfin
  |succ j ih=>
   intro i q hi hq;obtain⟨q,rfl⟩:∃q',q=q'+1:=⟨q-1,F0⟩;have ih:=ih (i+1) q F0 F0;have hlt:i<(dW c w r n x p).length:=F0
   have hll:(Mp ((dW c w r n x p).take i)).length=i:=by rw[JU,C8];omega
   have hsn:Mp ((dW c w r n x p).take i)++[Ac (dW c w r n x p)[i]]=Mp ((dW c w r n x p).take (i+1)):=by rw[Ho F0,Mp,Mp,QZ];rfl
   have hsf:((dW c w r n x p).take i).flatten++(dW c w r n x p)[i]=((dW c w r n x p).take (i+1)).flatten:=by rw[Ho F0,TZ];simp
   have hfl:((dW c w r n x p).take (i+1)).flatten.length<= (dW c w r n x p).flatten.length:=by
    have:=congrArg (λl:List LB=>l.flatten.length) (QQ (i+1) (dW c w r n x p));simp only[TZ,B9]at this;omega
   have hfa:=congrArg List.length hsf;rw[B9]at hfa;rw[Nn,Yz,B6 F2,Bl hlt,Aa,Aa,Ay F6,Aa,Aa,Aa,Ay,Aa,hsn,hsf,Ag];exact ih
 exact loop (dW c w r n x p).length 0 As F0 F7
section
variable {c w r:Nat} {p:LB} (h:EncOk c w r p)
include h
theorem Z_{t:LB}(hR:Qg c r (nE c w t)):(RE c w t).length<=18/\ (SE c w r t).length<=4000/\ (FE c w r p t).length<=1001/\ (∀y∈FE c w r p t,y.length<=17179869184)/\nE c w t<=4000:=by
 have h1:=P0 h t;have hs:=sN h;have hsl:=bQ (r:=r) h t;have hfl:=mR (c:=c) (w:=w) (r:=r) (p:=p) t;have hn4:=hR.1;have hmod:nE c w t %Ak r*c<=nE c w t*c:=C9 _ (O1 _ _);have hlt:=KE h.rate.2;have hLc:Ak r*c<=1100000*6:=G0 F0 h.ch.2;have hn:nE c w t<=4000:=by
  have:nE c w t*1<=nE c w t*c:=OL _ h.ch.1;omega
 have hk:kE c w r t<=1001:=by
  rcases hR.2 with h0|h0
  ·rw[kE,h0,U?];omega
  ·rw[kE];have h2:nE c w t/Ak r<= (nE c w t-1+Ak r)/Ak r:=b? (by have:=Hb r;omega);rw[uw _ (Hb r)]at h2;omega
 exact⟨F0,F0,F0,λy hy=>by have:=Y? h t hR y hy;omega,hn⟩
theorem q?{t:LB}(hR:Qg c r (nE c w t)):Hc (c:Int) (w:Int) (r:Int) p (RE c w t) (SE c w r t) (FE c w r p t) [] false 0=some 0:=by
 obtain⟨s1,s2,s3,s4,s5⟩:=Z_ h hR;obtain⟨E,e1,e2⟩:=w? (c:Int) (w:Int) (r:Int) p (RE c w t) (SE c w r t) (FE c w r p t) [] false 0 F0 F0 F0 B8;rw[Z0 h t hR]at e1;rw[e2,<-e1]
theorem Baf(m:LB)(n:LX)(o:List LB)(x:LB)(u:Bool)(v:Int):Lh (c:Int) (w:Int) (r:Int) p m n o x u v=some (Ak r:Int):=by
 rw[Lh,pH h.rate.1 h.rate.2,Aa]
theorem ou{t:LB}(hR:Qg c r (nE c w t))(m x:LB)(u:Bool)(v:Int):Eu (c:Int) (w:Int) (r:Int) p m (SE c w r t) (FE c w r p t) x u v=some (nE c w t:Int):=by
 obtain⟨s1,s2,s3,s4,s5⟩:=Z_ h hR;have hc:=h.ch;obtain⟨d1,d2⟩:=qg (r:=r) h t;have hsl:=bQ (r:=r) h t;have hfl:=mR (c:=c) (w:=w) (r:=r) (p:=p) t;have uD:Bs (Ac (SE c w r t)) (c:Int)=((nE c w t %Ak r:Nat):Int):=by
  rw[Ac,hsl,AF,cT _ F0]
 rw[Eu,Bz E?,Aa,Baf h,Aa,uD,Ac,hfl,Ea K? K?,<-M!,Ag,<-QW,<-d1]
theorem Amf(T:LB)(d:UInt8)(hR:Qg c r (nE c w T)):Sa (c:Int) (w:Int) (r:Int) p (RE c w T) (SE c w r T) (FE c w r p T) [] false 0 d=some (J4 c w r p (T++[d])):=by
 obtain⟨s1,s2,s3,s4,s5⟩:=Z_ h hR;have hc:=h.ch;have hs:=sN h;have htl:=P0 h T;have hsl:=bQ (r:=r) h T;have hfl:=mR (c:=c) (w:=w) (r:=r) (p:=p) T;have hlt:=KE h.rate.2;have hmo:Gb (c:Int) (w:Int)=some (B7 c w:Int):=by rw[Gb,e! hc.2 h.bits];rfl
 rw[Sa,Ach,Ay F6,Aa,hmo,Aa];by_cases hlt1:(RE c w T).length+1<B7 c w
 ·obtain⟨m1,m2,m3⟩:=qd h T d hlt1;obtain⟨g1,g2,g3⟩:=Baa h T (b:=d) (r:=r) (p:=p) hlt1;rw[B6 lQ,J4,m1,B6 hR,m3,g2,g3]
 ·obtain⟨m0,m1,m2,m3⟩:=qc h T d hlt1;obtain⟨g1,g2⟩:=Bao h T (b:=d) (r:=r) (p:=p) hlt1;have hq4:Bs (4000:Int) (c:Int)=((4000/c:Nat):Int):=by rw[show(4000:Int)=((4000:Nat):Int)from rfl,AF]
  have hdiv:nE c w T+1<=4000/c↔(nE c w T+1)*c<=4000:=Nat.le_div_iff_mul_le hc.1;have hfits:Ti (c:Int) (w:Int) (r:Int) p (RE c w T++[d]) (SE c w r T) (FE c w r p T) [] false 0 (Af (Ac (FE c w r p T)) 1) (Af (nE c w T:Int) 1)=some (decide (kE c w r T+1<=1000/\ (nE c w T+1)*c<=4000)):=by
   rw[Ti,Ac,hfl,Ag,Ag,hq4];by_cases h1:kE c w r T+1<=1000
   ·rw[B6 Z?,Bz E?,Aa,Th];congr 1;rw[vE];omega
   ·rw[B! Z?,E0 (λe=>h1 e.1)]
  rw[B! lQ,ou h hR,Aa,hfits,Aa];by_cases hok:kE c w r T+1<=1000/\ (nE c w T+1)*c<=4000
  ·have hR':Qg c r (nE c w (T++[d])):=by rw[m1];exact⟨hok.2, .inr (by rw[cR];exact hok.1)⟩
   have uE:=Af3 (RE c w T++[d]) h.bits (m:=c) (by rw[B9,RG,m0];rfl) F0;have hLc:Ak r*c<=1100000*6:=G0 F0 hc.2;have hmul:Bn (Ak r:Int) (c:Int)=((Ak r*c:Nat):Int):=by rw[Ea K? K?,<-M!]
   rw[L! hok,B! F5,Ad0,Acu,uE,Aa];simp only;rw[Ay (by rw[zP];omega),Aa,Baf h,Aa,hmul];by_cases hfull:(SE c w r T++pB (wB (w:Int)) c (RE c w T++[d])).length<Ak r*c
   ·obtain⟨k1,k2,k3⟩:=g1 hfull;rw[B! (by rw[Ax,Ac];simp only[E3];omega),J4,B6 hR',m3,k2,k3]
   ·obtain⟨k0,k1,k2,k3⟩:=g2 hfull;have hXl:Ak r*c<=4000:=by
     have e:=hR'.1;have hlen:(XE c w (T++[d])).length=nE c w (T++[d])*c:=sM (T++[d]);have hdk:=f_ (r:=r) h (T++[d]);rw[k1,C6,HV]at hdk;omega
    have hin:inR (w:Int) (SE c w r T++pB (wB (w:Int)) c (RE c w T++[d])):=by
     intro v hv;rw[d!]at hv;rcases hv with hv|hv
     ·exact kg h T v (TO hv)
     ·exact mW h.bits _ _ v hv
    have hLp:=R4 (Hb r) hc.1;have henc:=Ae1 (t:=Vz p) (x:=SE c w r T++pB (wB (w:Int)) c (RE c w T++[d])) h.bits (Vw p) hc.1 hc.2 F0 F0 (by rw[k0];exact NR _ _) hin;rw[B6 (by rw[Ax,Ac];simp only[E3];omega),QB,pI p h.pass,Aa];simp only;rw[henc,Aa];simp only;rw[Ay F6,Aa,Aa,J4,B6 hR',m3,k2,k3]
  ·have hno:¬Qg c r (nE c w (T++[d])):=by
    intro hh;rw[m1]at hh;obtain⟨z1,z2⟩:=hh;apply hok;rw[cR]at z2;have hkE:kE c w r T=nE c w T/Ak r:=rfl;omega
   rw[E0 hok,B6 F5,Kw,Aa,J4,B! hno]
theorem Beu(t b:LB)(hb:b.length<=1000000)(hR:Qg c r (nE c w t)):Gl (c:Int) (w:Int) (r:Int) p (RE c w t) (SE c w r t) (FE c w r p t) [] false 0 b=some (J4 c w r p (t++b)):=by
 obtain⟨s1,s2,s3,s4,s5⟩:=Z_ h hR;have loop:∀(j u q:Nat) (T:LB),u+j=b.length->j<q->T=t++b.take u->Qg c r (nE c w T)->Nb b q (u:Int) (c:Int) (w:Int) (r:Int) p false 0 (RE c w T) (SE c w r T) (FE c w r p T) []=some (J4 c w r p (t++b)):=by
  intro j
  induction j with
  |zero=>
   intro u q T hu hq hT hR;obtain⟨q,rfl⟩:∃q',q=q'+1:=⟨q-1,F0⟩;rw[H? F0]at hT;rw[Nb,Ro,B! F2,HI,Aj3,J4,<-hT,B6 hR]
  |succ j ih=>
   intro u q T hu hq hT hR;obtain⟨q,rfl⟩:∃q',q=q'+1:=⟨q-1,F0⟩;have hT':T++[b[u]' F0]=t++b.take (u+1):=by rw[hT,Ho F0,F_]
   have hmono:nE c w (T++[b[u]' F0])<=nE c w (t++b):=b? (by rw[hT',B9,B9,C8];omega);have hbf:=Amf h T (b[u]' F0) hR;rw[Nb,Ro,B6 F2,Bl,Aa,hbf,J4];by_cases hok:Qg c r (nE c w (T++[b[u]' F0]))
   ·rw[B6 hok,Aa];simp only;rw[Zk,KC,B! F5,Ag];exact ih (u+1) q _ F0 F0 hT' hok
   ·rw[B! hok,Aa];simp only;rw[Zk,KC,B6 F5,J4,B! (λhh=>hok (hh.mono hmono))]
 have hl:=loop b.length 0 As t F0 F7 B8 hR;rw[Gl,Yr,q? h hR,Aa,B! F5,ZM s4 F0 _ _ _ _ F0 F0 B8,Aa];simp only;rw[Jk,B! F5,B! F5,Aa,B! F5];exact hl
theorem Be0:Qo (c:Int) (w:Int) (r:Int) p=some ((c:Int),(w:Int),(r:Int),p,RE c w [],SE c w r [],FE c w r p [],[],false,0,0):=by
 have h0:nE c w []=0:=U? _;have hk:kE c w r []=0:=by rw[kE,h0];exact U? _
 have M7:Dw (c:Int) (w:Int) (r:Int) p=some 0:=by
  rw[Dw,pH h.rate.1 h.rate.2,Aa];simp only;have hsh:shS (c:Int) (w:Int)=true:=by rw[shS,B?];exact⟨by have:=h.ch;omega,h.bits⟩
  rw[qS,Aa,hsh,B6 rfl,B! (by have:=h.pass;simp[Am,Ar,Ac];omega)]
 rw[Qo,M7,Aa,B! F5,RE,SE,FE,XE,hk,h0];simp[pB,Ky]
theorem Azq(t:LB)(hR:Qg c r (nE c w t)):Fa (c:Int) (w:Int) (r:Int) p (RE c w t) (SE c w r t) (FE c w r p t) [] false 0=
  some (if RE c w t≠ []\/nE c w t=0 then((c:Int),(w:Int),(r:Int),p,[],[],[],[],false,24,24)else((c:Int),(w:Int),(r:Int),p,[],[],[],cS c w r (nE c w t) (XE c w t) p,true,0,0)):=by
 obtain⟨s1,s2,s3,s4,s5⟩:=Z_ h hR;have hc:=h.ch;have hsl:=bQ (r:=r) h t;rw[Fa,Uv,q? h hR,Aa,B! F5,ZM s4 F0 _ _ _ _ F0 F0 B8,Aa];simp only;rw[Jk,B! F5,B! F5,Aa,B! F5];by_cases hr0:RE c w t=[]
 case neg=>
  have hl:0<(RE c w t).length:=List.length_pos_iff.2 hr0;rw[B6 (by rw[Ar,Ac];simpa using hl),Kw,Aa,B6 (.inl hr0)]
 rw[B! (by rw[hr0];decide),ou h hR,Aa];by_cases hn0:nE c w t=0
 ·rw[B6 (by rw[Ax,hn0];rfl),Kw,Aa,B6 (.inr hn0)]
 have hn1:1<=nE c w t:=F0
 have hcl:=e? h t hR hn1;have hfr:=Aa0 h t (r:=r) (p:=p) hn1;rw[B! G2,B! (λe=>by rcases e with e|e;exact e hr0;exact hn0 e),EV,Ve,Tk,Xy,Ayx,Aa,ou h hR,Aa,Akb,JP];by_cases hS:SE c w r t=[]
 ·rw[B6 hS,F!]at hfr;rw[B! (by rw[hS];decide),<-hfr,Bad hcl h.pass,Aa]
 ·rw[B! hS]at hfr;have hl:0<(SE c w r t).length:=List.length_pos_iff.2 hS;have hin:inR (w:Int) (SE c w r t):=λv hv=>kg h t v (TO hv);have henc:=Ae1 (t:=Vz p) (x:=SE c w r t) h.bits (Vw p) hc.1 hc.2 F0 F0 (by rw[hsl];exact NR _ _) hin;rw[B6 (by rw[Ar,Ac];simpa using hl),pI p h.pass,Aa];simp only;rw[henc,Aa];simp only;rw[Ay F6,Aa,<-hfr,Bad hcl h.pass,Aa]
end
def R!(a:UInt8)(n:Int):Bool:=if a=1\/a=2 then decide (0<=n/\n<=100000)else if a=3 then decide (n=0)else false
theorem Ayl{st:M8}:R! st.1 st.2.1=true↔VS3 st:=by
 rw[R!,VS3,VS];constructor
 ·intro h;split at h
  ·rename_i h1;have:=O_ h;refine⟨⟨by rcases h1 with h|h;exact .inl h;exact .inr (.inl h),this.1,this.2⟩,λh3=>?_⟩;rcases h1 with h|h<;>rw[h]at h3<;>exact absurd h3 F5
  ·split at h
   ·rename_i h3;have:=O_ h;exact⟨⟨.inr (.inr h3),F0,F0⟩,λ_=>this⟩
   ·cases h
 ·rintro⟨⟨h1,h2,h3⟩,h4⟩;rcases h1 with h|h|h
  ·rw[B6 (.inl h)];exact L! ⟨h2,h3⟩
  ·rw[B6 (.inr h)];exact L! ⟨h2,h3⟩
  ·rw[B! (by rw[h];decide),B6 h];exact L! (h4 h)
theorem Apr(a:UInt8)(n:Int):CQ a n=some (!R! a n):=by
 have hr:(Nw n 0&&vA n 100000)=decide (0<=n/\n<=100000):=by rw[De,Th,C?];simp
 have key:∀f:Bool,Xq a n f=some (if f=true then decide (0<=n/\n<=100000)else if a=3 then decide (n=0)else false):=by
  intro f;rw[Xq,hr];cases f with
  |true=>rfl
  |false=>
   simp only[L_,H5];rw[TW,Ax];by_cases h3:a=3
   ·rw[B6 (by simp[h3]),B6 h3];rfl
   ·rw[B! (by simpa using h3),B! h3]
 rw[CQ,eL,bI,bV,R!];by_cases h1:a=1
 ·rw[B6 (by rw[h1];rfl),key,Aa,h1];rfl
 ·rw[B! (by rw[TW];simpa using h1),key,Aa];by_cases h2:a=2
  ·rw[h2];rfl
  ·have:¬geq a 2=true:=by rw[TW];simpa using h2
   rw[B! this,B! (show ¬(a=1\/a=2)from λh=>by rcases h with h|h;exact h1 h;exact h2 h)]
theorem Azl(a:UInt8)(n:Int):(((((Cj a 1)||(Ec a 3))||(Cj n 0))||(Ec n 100000))=true\/ ((geq a 3)&&(Bj n 0))=true)↔R! a n=false:=by
 have e1:Cj a (1:UInt8)=decide ((a.toNat:Int)<1):=rfl;have e2:Ec a (3:UInt8)=decide ((a.toNat:Int)>3):=rfl;have u:∀k:UInt8,a=k↔a.toNat=k.toNat:=λk=>UInt8.toNat_inj.symm;have t1:(1:UInt8).toNat=1:=rfl;have t2:(2:UInt8).toNat=2:=rfl;have t3:(3:UInt8).toNat=3:=rfl;rw[R!,e1,e2,Ad,Ar,TW,Am];simp only[u,t1,t2,t3,HU,C1,B?,E3,N9];by_cases h:a.toNat=1\/a.toNat=2
 ·rw[B6 h,N2];omega
 ·rw[B! h];by_cases h3:a.toNat=3
  ·rw[B6 h3,N2];omega
  ·rw[B! h3];simp only[iff_true];omega
theorem Age(l:List M8)(hl:l.length<=100000):(Ri l=some 0/\Jq l=some 0/\l.length<=200/\∀st∈l,VS3 st)\/ (∃e:Int,e≠0/\Ri l=some e/\Jq l=some e):=by
 by_cases h200:200<l.length
 ·right;refine⟨4,F5,?_,?_⟩
  ·rw[Ri,Xs,B6 D!]
  ·rw[Jq,Qh,B6 D!]
 have loop:∀(j i q1 q2:Nat),i+j=l.length->j<q1->j<q2-> (Fc l q1 (i:Int)=some 0/\Ex l q2 (i:Int)=some 0/\∀k (hk:k<l.length),i<=k->VS3 l[k])\/ (Fc l q1 (i:Int)=some 2/\Ex l q2 (i:Int)=some 2):=by
  intro j
  induction j with
  |zero=>
   intro i q1 q2 hi h1 h2;obtain⟨q1,rfl⟩:∃q',q1=q'+1:=⟨q1-1,F0⟩;obtain⟨q2,rfl⟩:∃q',q2=q'+1:=⟨q2-1,F0⟩;left;refine⟨?_,?_,λk hk hik=>absurd hk F0⟩
   ·rw[Fc,Vp,B! F2];rfl
   ·rw[Ex,Wk,B! F2];rfl
  |succ j ih=>
   intro i q1 q2 hi h1 h2;obtain⟨q1,rfl⟩:∃q',q1=q'+1:=⟨q1-1,F0⟩;obtain⟨q2,rfl⟩:∃q',q2=q'+1:=⟨q2-1,F0⟩;have hlt:i<l.length:=F0
   have hrb:=Azl l[i].1 l[i].2.1;have hP:Fc l (q1+1) (i:Int)=if R! l[i].1 l[i].2.1=true then Fc l q1 ((i+1:Nat):Int)else some 2:=by
    rw[Fc,Vp,B6 F2,Bl hlt,Aa,Apr,Aa,KZ,YQ];cases R! l[i].1 l[i].2.1 with
    |false=>rfl
    |true=>rw[B! F5,B6 rfl,YV,YI,Za i F0]
   have hQ:Ex l (q2+1) (i:Int)=if R! l[i].1 l[i].2.1=true then Ex l q2 ((i+1:Nat):Int)else some 2:=by
    rw[Ex,Wk,B6 F2,Bl hlt,Aa];cases hb:R! l[i].1 l[i].2.1 with
    |false=>
     rw[B! (show ¬false=true by decide)];rcases hrb.2 hb with h|h
     ·rw[B6 h]
     ·by_cases h':((((Cj l[i].1 1)||(Ec l[i].1 3))||(Cj l[i].2.1 0))||(Ec l[i].2.1 100000))=true
      ·rw[B6 h']
      ·rw[B! h',B6 h]
    |true=>
     have hn1:¬((((Cj l[i].1 1)||(Ec l[i].1 3))||(Cj l[i].2.1 0))||(Ec l[i].2.1 100000))=true:=λh=>by
      have:=hrb.1 (.inl h);rw[hb]at this;cases this
     have hn2:¬((geq l[i].1 3)&&(Bj l[i].2.1 0))=true:=λh=>by
      have:=hrb.1 (.inr h);rw[hb]at this;cases this
     rw[B! hn1,B! hn2,Za i F0,B6 rfl]
   rw[hP,hQ];by_cases hb:R! l[i].1 l[i].2.1=true
   ·rw[B6 hb,B6 hb];rcases ih (i+1) q1 q2 F0 F0 F0 with⟨k1,k2,k3⟩|⟨k1,k2⟩
    ·refine .inl ⟨k1,k2,λk hk hik=>?_⟩;by_cases he:k=i
     ·subst he;exact Ayl.1 hb
     ·exact k3 k hk F0
    ·exact .inr ⟨k1,k2⟩
   ·rw[B! hb,B! hb];exact .inr ⟨rfl,rfl⟩
 have hF:=Aq;rcases loop l.length 0 As As F0 F0 F0 with⟨k1,k2,k3⟩|⟨k1,k2⟩
 ·refine .inl ⟨?_,?_,F0,λst hst=>?_⟩
  ·rw[Ri,Xs,B! D!];exact k1
  ·rw[Jq,Qh,B! D!];exact k2
  ·obtain⟨j,hj,rfl⟩:=List.mem_iff_getElem.1 hst;exact k3 j hj (S! _)
 ·refine .inr ⟨2,F5,?_,?_⟩
  ·rw[Ri,Xs,B! D!];exact k1
  ·rw[Jq,Qh,B! D!];exact k2
theorem Res.eq{X Y:Option ru}(h:Res X Y):Y=X:=by
 obtain⟨_,_,_,_,_,_,_,_,_,_,_,_,_,h1,h2,_⟩:=h;rw[h1,h2]
theorem S7{inp:LB}{m s:Nat}(hin:inp.length<=20000)(hs:s<=inp.length)(hm:m<=100000):
  Af (s:Int) (Du (m:Int) (Ap (Ac inp) (s:Int)))=((s+min m (inp.length-s):Nat):Int)/\Bo inp (s:Int) ((s+min m (inp.length-s):Nat):Int)=some ((inp.drop s).take (min m (inp.length-s)))/\Mk inp (s:Int) (m:Int)=some ((inp.drop s).take (min m (inp.length-s)),((s+min m (inp.length-s):Nat):Int)):=by
 have e0:Ap (Ac inp) (s:Int)=((inp.length-s:Nat):Int):=by rw[Ac,Ca];omega
 have e1:Af (s:Int) (Du (m:Int) (Ap (Ac inp) (s:Int)))=((s+min m (inp.length-s):Nat):Int):=by
  rw[e0,Zp,show min (m:Int) ((inp.length-s:Nat):Int)=((min m (inp.length-s):Nat):Int) by omega,Ag];omega
 have e2:Bo inp (s:Int) ((s+min m (inp.length-s):Nat):Int)=some ((inp.drop s).take (min m (inp.length-s))):=by
  rw[TF,D0,D0,List.drop_take];congr 2;omega
 refine⟨e1,e2,?_⟩;rw[Mk];simp only[e1,e2,Aa]
section
variable {o:LB} (ho:o.length<=64)
include ho
theorem Ahu{L:Nat}{U:Ud}(h:OkU o L U)(q:LB)(hq:q.length<=L)(hL:L<=12100):
  ∃(e:Int) (U':Ud),OkU o (L-q.length) U'/\U.X.length<=U'.X.length/\∀t,t<=U.X.length->Ds o U.p U.f U.c U.w U.r U.n U.g U.a (U.X.drop t) U.u U.v q=some (o,U'.p,U'.f,U'.c,U'.w,U'.r,U'.n,U'.g,U'.a,U'.X.drop t,U'.u,U'.v,e)/\Dg o U.p U.f U.c U.w U.r U.n U.g U.a (U.X.drop t) U.u U.v q=some (o,U'.p,U'.f,U'.c,U'.w,U'.r,U'.n,U'.g,U'.a,U'.X.drop t,U'.u,U'.v,e):=by
 obtain⟨e,U1,f1,f2,⟨y,f3⟩,f4⟩:=Ajc ho h q hq;have hs:=h.szs;refine⟨e,U1,f2,by rw[f3,B9];omega,λt ht=>⟨f4 t ht,?_⟩⟩;have:=(Arw (o:=o) (p:=U.p) (f:=U.f) (c:=U.c) (w:=U.w) (r:=U.r) (n:=U.n) (g:=U.g) (a:=U.a) (x:=U.X.drop t) (u:=U.u) (v:=U.v) F0 F0 L6 L6 q F0).eq;rw[this];exact f4 t ht
theorem Aol{L:Nat}{U:Ud}(h:OkU o L U):
  ∃(e:Int) (U':Ud),OkU o L U'/\U'.X=U.X/\∀t,t<=U.X.length->Fg o U.p U.f U.c U.w U.r U.n U.g U.a (U.X.drop t) U.u U.v=some (o,U'.p,U'.f,U'.c,U'.w,U'.r,U'.n,U'.g,U'.a,U'.X.drop t,U'.u,U'.v,e)/\Ht o U.p U.f U.c U.w U.r U.n U.g U.a (U.X.drop t) U.u U.v=some (o,U'.p,U'.f,U'.c,U'.w,U'.r,U'.n,U'.g,U'.a,U'.X.drop t,U'.u,U'.v,e):=by
 obtain⟨e,U1,f1,f2,f3,f4⟩:=Apb ho h;have hs:=h.szs;refine⟨e,U1,f2,f3,λt ht=>⟨f4 t ht,?_⟩⟩;have:=(Agd (o:=o) (p:=U.p) (f:=U.f) (c:=U.c) (w:=U.w) (r:=U.r) (n:=U.n) (g:=U.g) (a:=U.a) (x:=U.X.drop t) (u:=U.u) (v:=U.v) F0 F0 L6).eq;rw[this];exact f4 t ht
theorem za{L:Nat}{U:Ud}(h:OkU o L U)(t m:Nat):
  Ny o U.p U.f U.c U.w U.r U.n U.g U.a (U.X.drop t) U.u U.v (m:Int)=some (o,U.p,U.f,U.c,U.w,U.r,U.n,U.g,U.a,U.X.drop (t+min m (U.X.length-t)),U.u,U.v,(U.X.drop t).take (min m (U.X.drop t).length),0)/\Jp o U.p U.f U.c U.w U.r U.n U.g U.a (U.X.drop t) U.u U.v (m:Int)=some (o,U.p,U.f,U.c,U.w,U.r,U.n,U.g,U.a,U.X.drop (t+min m (U.X.length-t)),U.u,U.v,(U.X.drop t).take (min m (U.X.drop t).length),0):=by
 have hs:=h.szs;have hd:=xI ho h t m;have hXl:(U.X.drop t).length=U.X.length-t:=D8;rw[show(U.X.drop t).drop (min m (U.X.drop t).length)=U.X.drop (t+min m (U.X.length-t)) by rw[hXl,RS]]at hd;refine⟨hd,?_⟩;obtain⟨_,_,_,_,_,_,_,_,_,_,_,_,_,_,h1,h2,_⟩:=Alm (o:=o) (p:=U.p) (f:=U.f) (c:=U.c) (w:=U.w) (r:=U.r) (n:=U.n) (g:=U.g) (a:=U.a) (x:=U.X.drop t) (u:=U.u) (v:=U.v) F0 F0 L6 (m:Int);rw[h2,<-h1];exact hd
theorem lJ{inp:LB}(hin:inp.length<=12100){b:List M8}(hb:b.length<=200)(hv:∀st∈b,VS st):∀(k i t q s:Nat) (U:Ud) (aa:List Sad),i+k=b.length->k<q->s<=inp.length->OkU o (inp.length-s) U->t<=U.X.length->aa.length<=i->
  ∃(t1 t2:LB) (t3 t4 t5 t6 t7:Int) (t8:LI) (t9:Int) (t10:LB) (t11:Bool) (t12:Int) (t13:List Sad),Ke inp b q (s:Int) (i:Int) o U.f U.c U.w U.r U.n U.a (U.X.drop t) U.u U.v aa U.p U.g=some (t1,t2,t3,t4,t5,t6,t7,t8,t9,t10,t11,t12,t13,0)
 |k,i,t,0,s,U,aa,_,hq,_,_,_,_=>absurd hq (G4 _)
 |0,i,t,q+1,s,U,aa,hi,hq,hs,hU,ht,haa=>by
  rw[Ke,Pb,B! F2,CG,Ad4];exact⟨_,_,_,_,_,_,_,_,_,_,_,_,_,rfl⟩
 |k+1,i,t,q+1,s,U,aa,hi,hq,hs,hU,ht,haa=>by
  have hlt:i<b.length:=F0
  obtain⟨hop,hn0,hn1⟩:=hv b[i] (G8 hlt);obtain⟨m,hm⟩:∃m:Nat,b[i].2.1=m:=⟨b[i].2.1.toNat,F0⟩;obtain⟨p1,p2,p3⟩:=S7 (inp:=inp) (m:=m) (s:=s) F0 hs F0;rw[Ke,Pb,B6 F2,Bl hlt,Aa];have hl2:(inp.drop s).length=inp.length-s:=D8;rcases hop with h1|h1|h1
  ·have hql:((inp.drop s).take (min m (inp.length-s))).length=min m (inp.length-s):=by rw[C8];omega
   obtain⟨e,U1,f2,f3,f4⟩:=Ahu ho hU ((inp.drop s).take (min m (inp.length-s))) F0 F0;rw[hql]at f2;rw[B6 (by rw[h1];rfl),Aa,hm,p3,Aa];simp only;rw[(f4 t ht).2,Aa];simp only;rw[Nl,Tc,Ay F6,Aa,Za i F0];exact lJ hin hb hv k (i+1) t q _ U1 _ F0 F0 F0 (by rw[show inp.length-(s+min m (inp.length-s))=inp.length-s-min m (inp.length-s) by omega];exact f2) F0 F6
  ·rw[B! (by rw[h1];decide),B6 (by rw[h1];rfl),Aa,hm,(za ho hU t m).2,Aa];simp only;rw[Nl,Tc,Ay F6,Aa,Za i F0];exact lJ hin hb hv k (i+1) _ q s U _ F0 F0 hs hU F0 F6
  ·obtain⟨e,U1,f2,f3,f4⟩:=Aol ho hU;rw[B! (by rw[h1];decide),B! (by rw[h1];decide),B6 (by rw[h1];rfl),(f4 t ht).2,Aa];simp only;rw[Nl,Tc,Ay F6,Aa,Za i F0];exact lJ hin hb hv k (i+1) t q s U1 _ F0 F0 hs f2 (by rw[f3];exact ht) F6
omit ho in
theorem Be7{L:Nat}{U:Ud}(h:OkU o L U)(x:LB):Rk o U.p U.f U.c U.w U.r U.n U.g U.a x U.u U.v=some (kpU U:Int):=by
 have hs:=h.szs;rw[Rk,Ac,Ac,show Bn 8 (U.g.length:Int)=((8*U.g.length:Nat):Int) by rw[show(8:Int)=((8:Nat):Int)from rfl,Ea];omega,Ag,kpU];simp
theorem zG{inp:LB}(hin:inp.length<=12100){b:List M8}(hb:b.length<=200)(hv:∀st∈b,VS st):∀(k i t q1 q2 s:Nat) (U:Ud) (K F:Nat),i+k=b.length->k<q1->k<q2->s<=inp.length->OkU o (inp.length-s) U->t<=U.X.length->
  ∃K' F':Int,Md b q1 (inp.drop s) (K:Int) (F:Int) (i:Int) o U.f U.c U.w U.r U.n U.a (U.X.drop t) U.u U.v U.p U.g=some (K',F',0)/\En inp b q2 (K:Int) (F:Int) (s:Int) (i:Int) o U.f U.c U.w U.r U.n U.a (U.X.drop t) U.u U.v U.p U.g=some (K',F',0)
 |k,i,t,0,q2,s,U,K,F,_,hq,_,_,_,_=>absurd hq (G4 _)
 |k,i,t,q1+1,0,s,U,K,F,_,_,hq,_,_,_=>absurd hq (G4 _)
 |0,i,t,q1+1,q2+1,s,U,K,F,hi,hq1,hq2,hs,hU,ht=>by
  refine⟨K,F,?_,?_⟩
  ·rw[Md,CF,B! F2];rfl
  ·rw[En,Ji,B! F2];rfl
 |k+1,i,t,q1+1,q2+1,s,U,K,F,hi,hq1,hq2,hs,hU,ht=>by
  have hlt:i<b.length:=F0
  obtain⟨hop,hn0,hn1⟩:=hv b[i] (G8 hlt);obtain⟨m,hm⟩:∃m:Nat,b[i].2.1=m:=⟨b[i].2.1.toNat,F0⟩;obtain⟨p1,p2,p3⟩:=S7 (inp:=inp) (m:=m) (s:=s) F0 hs F0;have hl2:(inp.drop s).length=inp.length-s:=D8;have hmax:∀(x y:Nat),jQ (x:Int) (y:Int)=((max x y:Nat):Int):=λx y=>by rw[jw];omega
  have hP:∀{L:Nat} {U1:Ud} (h1:OkU o L U1) (t1:Nat) (VG:LB),OO (Md b q1) b (K:Int) (F:Int) (i:Int) VG o U1.f U1.c U1.w U1.r U1.n U1.a (U1.X.drop t1) U1.u U1.v U1.p U1.g=Md b q1 VG ((max K (kpU U1):Nat):Int) ((max F (U1.X.drop t1).length:Nat):Int) ((i+1:Nat):Int) o U1.f U1.c U1.w U1.r U1.n U1.a (U1.X.drop t1) U1.u U1.v U1.p U1.g:=by
   intro L U1 h1 t1 VG;rw[OO,Bd9,Ayo ho h1 t1,Aa];simp only;rw[B! F5,hmax,Ac,hmax,Za i F0]
  have hR:∀{L:Nat} {U1:Ud} (h1:OkU o L U1) (t1:Nat) (s1:Int),Wn (En inp b q2) inp b (K:Int) (F:Int) (i:Int) s1 o U1.f U1.c U1.w U1.r U1.n U1.a (U1.X.drop t1) U1.u U1.v U1.p U1.g=En inp b q2 ((max K (kpU U1):Nat):Int) ((max F (U1.X.drop t1).length:Nat):Int) s1 ((i+1:Nat):Int) o U1.f U1.c U1.w U1.r U1.n U1.a (U1.X.drop t1) U1.u U1.v U1.p U1.g:=by
   intro L U1 h1 t1 s1;rw[Wn,Ago,Be7 h1,Aa,hmax,Ac,hmax,Za i F0]
  rcases hop with h1|h1|h1
  ·have hql:((inp.drop s).take (min m (inp.length-s))).length=min m (inp.length-s):=by rw[C8];omega
   have hmin:Du (m:Int) (Ac (inp.drop s))=((min m (inp.length-s):Nat):Int):=by rw[Zp,Ac,hl2];omega
   obtain⟨e,U1,f2,f3,f4⟩:=Ahu ho hU ((inp.drop s).take (min m (inp.length-s))) F0 F0;rw[hql]at f2;obtain⟨K',F',g1,g2⟩:=zG hin hb hv k (i+1) t q1 q2 (s+min m (inp.length-s)) U1 (max K (kpU U1)) (max F (U1.X.drop t).length) F0 F0 F0 F0 (by rw[show inp.length-(s+min m (inp.length-s))=inp.length-s-min m (inp.length-s) by omega];exact f2) F0;refine⟨K',F',?_,?_⟩
   ·rw[Md,CF,B6 F2,Bl hlt,Aa,B6 (by rw[h1];rfl),hm,hmin,Dt,D0,Aa,(f4 t ht).1,Aa];simp only;rw[Dj,Aa,D0,RS,hP f2];exact g1
   ·rw[En,Ji,B6 F2,Bl hlt,Aa,B6 (by rw[h1];rfl),Aa,hm,p1,p2,Aa,(f4 t ht).2,Aa];simp only;rw[hR f2];exact g2
  ·have hd:=za ho hU t m;obtain⟨K',F',g1,g2⟩:=zG hin hb hv k (i+1) (t+min m (U.X.length-t)) q1 q2 s U (max K (kpU U)) (max F (U.X.drop (t+min m (U.X.length-t))).length) F0 F0 F0 hs hU F0;refine⟨K',F',?_,?_⟩
   ·rw[Md,CF,B6 F2,Bl hlt,Aa,B! (by rw[h1];decide),B6 (by rw[h1];rfl),hm,hd.1,Aa];simp only;rw[hP hU];exact g1
   ·rw[En,Ji,B6 F2,Bl hlt,Aa,B! (by rw[h1];decide),B6 (by rw[h1];rfl),Aa,hm,hd.2,Aa];simp only;rw[hR hU];exact g2
  ·obtain⟨e,U1,f2,f3,f4⟩:=Aol ho hU;obtain⟨K',F',g1,g2⟩:=zG hin hb hv k (i+1) t q1 q2 s U1 (max K (kpU U1)) (max F (U1.X.drop t).length) F0 F0 F0 hs f2 (by rw[f3];exact ht);refine⟨K',F',?_,?_⟩
   ·rw[Md,CF,B6 F2,Bl hlt,Aa,B! (by rw[h1];decide),B! (by rw[h1];decide),B6 (by rw[h1];rfl),(f4 t ht).1,Aa];simp only;rw[hP f2];exact g1
   ·rw[En,Ji,B6 F2,Bl hlt,Aa,B! (by rw[h1];decide),B! (by rw[h1];decide),B6 (by rw[h1];rfl),(f4 t ht).2,Aa];simp only;rw[hR f2];exact g2
end
theorem Amn{o inp:LB}{l:List M8}(hin:inp.length<=12100)(hl:l.length<=100000):∃(K F E:Int),RC o inp l=some (K,F,E)/\Td o inp l=some (K,F,E):=by
 rcases Age l hl with⟨c1,c2,c3,c4⟩|⟨e,he,c1,c2⟩
 ·by_cases ho:o.length<=64
  ·obtain⟨es,U,inp',ds,t,r1,r2,r3,r4,r5,r6⟩:=Azg ho hin c3 c4;have hv1:∀st∈l,VS st:=λst hs=>(c4 st hs).1;obtain⟨t1,t2,t3,t4,t5,t6,t7,t8,t9,t10,t11,t12,t13,hrd⟩:=lJ ho hin c3 hv1 l.length 0 0 As 0 U0 [] F0 F7 (S! _) (qj ho F0) (D3 _) B8;obtain⟨K,F,h1,h2⟩:=zG ho hin c3 hv1 l.length 0 0 As As 0 U0 0 0 F0 F7 F7 (S! _) (qj ho F0) (D3 _);refine⟨K,F,0,?_,?_⟩
   ·rw[RC,KI,r6,Aa];simp only;rw[B! F5,RO,B! D!,Aa];simp only;rw[B! F5];exact h1
   ·have hD:Pn o inp l=some (t1,t2,t3,t4,t5,t6,t7,t8,t9,t10,t11,t12,t13,0):=by
     rw[Pn,On,c2,Aa,B! F5,Vo,B! D!,Aa];simp only;rw[B! F5];exact hrd
    rw[Td,Rr,hD,Aa];simp only;rw[B! F5,Vo,B! D!,Aa];exact h2
  ·refine⟨0,0,2,?_,?_⟩
   ·rw[RC,KI,Zw,CB,c1,Aa,B! F5,RO,B6 D!,Aa];simp only;rw[B6 F5,Aa];simp only;rw[B6 F5]
   ·rw[Td,Rr,Pn,On,c2,Aa,B! F5,Vo,B6 D!,Aa];simp only;rw[B6 F5,Aa];simp only;rw[B6 F5]
 ·refine⟨0,0,e,?_,?_⟩
  ·rw[RC,KI,Zw,CB,c1,Aa,B6 (by rw[Am];simpa using he),Aa];simp only;rw[B6 (by rw[Am];simpa using he)]
  ·rw[Td,Rr,Pn,On,c2,Aa,B6 (by rw[Am];simpa using he),Aa];simp only;rw[B6 (by rw[Am];simpa using he)]
theorem Ay3{C W R:Int}{p:LB}(h0:Dw C W R p=some 2):Qo C W R p=some (0,0,0,[],[],[],[],[],false,0,2)/\KJ C W R p=some (0,0,0,[],[],[],[],[],false,0,2):=by
 refine⟨by rw[Qo,h0,Aa,B6 F5],?_⟩;rw[Dw,nS,Aa]at h0;simp only at h0;rw[qS,Aa]at h0;rw[KJ,Zy,Anh,Aa];simp only;rw[Asy,Aa,Aa];simp only;rw[B6];by_cases h1:shS C W=true
 ·by_cases h2:pF R=true
  ·by_cases h3:p.length<=64
   ·rw[B6 h1,B6 h2,B! lV]at h0;exact absurd (QT h0) F5
   ·rw[B6 h1,B6 h2];simp[Ax,Th,Ac];omega
  ·rw[B! h2];simp[Ax]
 ·rw[B! h1];simp[Ax]
section
variable {c w r:Nat} {p:LB} (h:EncOk c w r p)
include h
theorem yN{X:LB}{v k:Int}(hX:X.length<=20000)(hs:iT X u v k):Hc (c:Int) (w:Int) (r:Int) p [] [] [] X u v=some 0:=by
 obtain⟨E,e1,e2⟩:=w? (c:Int) (w:Int) (r:Int) p [] [] [] X u v B8 B8 B8 F0;rw[X2 h hX hs]at e1;rw[e2,<-e1]
omit h in
theorem yj{X:LB}{v k:Int}(C W R:Int)(m:LB)(s:LX)(f:List LB)(hs:iT X u v k):Jk C W R p m s f X u v=some k:=by
 rw[Jk];rcases hs with⟨_,_,h1|h1,h2⟩|⟨h1,h2,h3⟩
 ·rw[h2,h1,B6 F5]
 ·rw[h2,h1,B6 F5]
 ·rw[h2,B! F5,h1,B6 rfl,h3]
theorem Akt{X:LB}{v k:Int}(hX:X.length<=20000)(hs:iT X u v k)(b:LB):Gl (c:Int) (w:Int) (r:Int) p [] [] [] X u v b=some ((c:Int),(w:Int),(r:Int),p,[],[],[],X,u,v,k):=by
 rw[Gl,Yr,yN h hX hs,Aa,B! F5,ZM (a:=[]) (λy hy=>by simp at hy) B8 _ _ _ _ B8 B8 F0,Aa];simp only;rw[yj _ _ _ _ _ _ hs,Aa,B6 hs.ne]
theorem Arc{X:LB}{v k:Int}(hX:X.length<=20000)(hs:iT X u v k):Fa (c:Int) (w:Int) (r:Int) p [] [] [] X u v=some ((c:Int),(w:Int),(r:Int),p,[],[],[],X,u,v,k):=by
 rw[Fa,Uv,yN h hX hs,Aa,B! F5,ZM (a:=[]) (λy hy=>by simp at hy) B8 _ _ _ _ B8 B8 F0,Aa];simp only;rw[yj _ _ _ _ _ _ hs,Aa,B6 hs.ne]
theorem yL{L:Nat}{U:Ue}(hU:OkE c w r p L U)(q:LB)(hq:q.length<=L):
  ∃(e:Int) (U':Ue),OkE c w r p (L-q.length) U'/\U'.X=U.X/\∀t,t<=U.X.length->Fx (c:Int) (w:Int) (r:Int) p U.m U.s U.fr (U.X.drop t) U.u U.v q=some ((c:Int),(w:Int),(r:Int),p,U'.m,U'.s,U'.fr,U'.X.drop t,U'.u,U'.v,e)/\Gl (c:Int) (w:Int) (r:Int) p U.m U.s U.fr (U.X.drop t) U.u U.v q=some ((c:Int),(w:Int),(r:Int),p,U'.m,U'.s,U'.fr,U'.X.drop t,U'.u,U'.v,e):=by
 obtain⟨e,U1,f1,f2,f3,f4⟩:=Af9 h hU q hq;refine⟨e,U1,f2,f3,λt ht=>⟨f4 t ht,?_⟩⟩;rw[<-f4 t ht];cases hU with
 |live hl hR=>
  simp only[List.drop_nil];rw[Beu h _ q F0 hR,Ajy h _ q F0 hR]
 |stop hx hs=>
  have hd:(List.drop t _:LB).length<=20000:=XK (by rw[D8];exact lP _ _) hx;rw[Akt h hd (hs.drop t),rD h hd (hs.drop t)]
theorem Agp{L:Nat}{U:Ue}(hU:OkE c w r p L U):
  ∃(e:Int) (U':Ue),OkE c w r p L U'/\U.X.length<=U'.X.length/\∀t,t<=U.X.length->Hm (c:Int) (w:Int) (r:Int) p U.m U.s U.fr (U.X.drop t) U.u U.v=some ((c:Int),(w:Int),(r:Int),p,U'.m,U'.s,U'.fr,U'.X.drop t,U'.u,U'.v,e)/\Fa (c:Int) (w:Int) (r:Int) p U.m U.s U.fr (U.X.drop t) U.u U.v=some ((c:Int),(w:Int),(r:Int),p,U'.m,U'.s,U'.fr,U'.X.drop t,U'.u,U'.v,e):=by
 obtain⟨e,U1,f1,f2,⟨y,f3⟩,f4⟩:=Anb h hU;refine⟨e,U1,f2,by rw[f3,B9];omega,λt ht=>⟨f4 t ht,?_⟩⟩;rw[<-f4 t ht];cases hU with
 |live hl hR=>
  simp only[List.drop_nil];rw[Azq h _ hR,Ao9 h _ hR]
 |stop hx hs=>
  have hd:(List.drop t _:LB).length<=20000:=XK (by rw[D8];exact lP _ _) hx;rw[Arc h hd (hs.drop t),zI h hd (hs.drop t)]
theorem Afl {L:Nat}{U:Ue}(hU:OkE c w r p L U)(t m:Nat):
  Zt (c:Int) (w:Int) (r:Int) p U.m U.s U.fr (U.X.drop t) U.u U.v (m:Int)=some ((c:Int),(w:Int),(r:Int),p,U.m,U.s,U.fr,U.X.drop (t+min m (U.X.length-t)),U.u,U.v,(U.X.drop t).take (min m (U.X.drop t).length),0)/\
  Mo (c:Int) (w:Int) (r:Int) p U.m U.s U.fr (U.X.drop t) U.u U.v (m:Int)=some ((c:Int),(w:Int),(r:Int),p,U.m,U.s,U.fr,U.X.drop (t+min m (U.X.length-t)),U.u,U.v,(U.X.drop t).take (min m (U.X.drop t).length),0):=by
 have hd:=x_ h hU t m;have hXl:(U.X.drop t).length=U.X.length-t:=D8;have e1:(U.X.drop t).drop (min m (U.X.drop t).length)=U.X.drop (t+min m (U.X.length-t)):=by rw[hXl,RS]
 rw[e1]at hd;refine⟨hd,?_⟩;obtain⟨s1,s2,s3,s4,s5,s6⟩:=hU.szs h;have hl:(U.X.drop t).length<=20000:=by rw[D8];omega
 have hck:Hc (c:Int) (w:Int) (r:Int) p U.m U.s U.fr (U.X.drop t) U.u U.v=some 0:=by
  cases hU with
  |live hl hR=>simp only[List.drop_nil];exact q? h hR
  |stop hx hs=>exact yN h hl (hs.drop t)
 have hm:Du (m:Int) (Ac (U.X.drop t))=((min m (U.X.drop t).length:Nat):Int):=by rw[Zp,Ac];omega
 rw[Mo,hck,Aa,B! F5,B! I!,ZM s5 F0 _ _ _ _ F0 F0 F0,Aa];simp only;rw[hm,Dt,Aa,D0,Dj,Aa,D0,e1]
theorem OkE.flat{L:Nat}{U:Ue}(hU:OkE c w r p L U):U.fr.flatten.length<=1000000:=by
 cases hU with
 |live hl hR=>exact Aw7 h F0 hR
 |stop hx hs=>simp
theorem kB{inp:LB}(hin:inp.length<=600){b:List M8}(hb:b.length<=200)(hv:∀st∈b,VS st):∀(k i t q s:Nat) (U:Ue) (aa:List Sad),i+k=b.length->k<q->s<=inp.length->OkE c w r p (inp.length-s) U->t<=U.X.length->aa.length<=i->
  ∃(t1 t2 t3:Int) (t4 t5:LB) (t6:LX) (t7:List LB) (t8:LB) (t9:Bool) (t10:Int) (t11:List Sad),Kg inp b q (s:Int) (i:Int) (c:Int) (w:Int) (r:Int) p (U.X.drop t) U.u U.v aa U.m U.s U.fr=some (t1,t2,t3,t4,t5,t6,t7,t8,t9,t10,t11,0)
 |k,i,t,0,s,U,aa,_,hq,_,_,_,_=>absurd hq (G4 _)
 |0,i,t,q+1,s,U,aa,hi,hq,hs,hU,ht,haa=>by
  rw[Kg,Oq,B! F2,BT,Acz];exact⟨_,_,_,_,_,_,_,_,_,_,_,rfl⟩
 |k+1,i,t,q+1,s,U,aa,hi,hq,hs,hU,ht,haa=>by
  have hlt:i<b.length:=F0
  obtain⟨hop,hn0,hn1⟩:=hv b[i] (G8 hlt);obtain⟨m,hm⟩:∃m:Nat,b[i].2.1=m:=⟨b[i].2.1.toNat,F0⟩;obtain⟨p1,p2,p3⟩:=S7 (inp:=inp) (m:=m) (s:=s) F0 hs F0;rw[Kg,Oq,B6 F2,Bl hlt,Aa];have hl2:(inp.drop s).length=inp.length-s:=D8;rcases hop with h1|h1|h1
  ·have hql:((inp.drop s).take (min m (inp.length-s))).length=min m (inp.length-s):=by rw[C8];omega
   obtain⟨e,U1,f2,f3,f4⟩:=yL h hU ((inp.drop s).take (min m (inp.length-s))) F0;rw[hql]at f2;rw[B6 (by rw[h1];rfl),Aa,hm,p3,Aa];simp only;rw[(f4 t ht).2,Aa];simp only;rw[Mw,Sy,Ay F6,Aa,Za i F0];exact kB hin hb hv k (i+1) t q _ U1 _ F0 F0 F0 (by rw[show inp.length-(s+min m (inp.length-s))=inp.length-s-min m (inp.length-s) by omega];exact f2) (by rw[f3];exact ht) F6
  ·rw[B! (by rw[h1];decide),B6 (by rw[h1];rfl),Aa,hm,(Afl h hU t m).2,Aa];simp only;rw[Mw,Sy,Ay F6,Aa,Za i F0];exact kB hin hb hv k (i+1) _ q s U _ F0 F0 hs hU F0 F6
  ·obtain⟨e,U1,f2,f3,f4⟩:=Agp h hU;rw[B! (by rw[h1];decide),B! (by rw[h1];decide),B6 (by rw[h1];rfl),(f4 t ht).2,Aa];simp only;rw[Mw,Sy,Ay F6,Aa,Za i F0];exact kB hin hb hv k (i+1) t q s U1 _ F0 F0 hs f2 F0 F6
omit h in
theorem Arb(C W R:Int)(q m:LB)(s:LX)(fr:List LB)(X:LB)(u:Bool)(v:Int)(hm:m.length<=100000)(hs:s.length<=100000)(hf:fr.length<=100000)(hfl:fr.flatten.length<=1000000)(hX:X.length<=100000):Rh C W R q m s fr X u v=some (cdE m s fr X:Int):=by
 have loop:∀(j i q':Nat),i+j=fr.length->j<q'->Fp C W R q m s fr X u v q' ((m.length+4*s.length+X.length+(fr.take i).flatten.length:Nat):Int) (i:Int)=some (cdE m s fr X:Int):=by
  intro j
  induction j with
  |zero=>
   intro i q' hi hq;obtain⟨q',rfl⟩:∃z,q'=z+1:=⟨q'-1,F0⟩;rw[Fp,Nr,B! F2,H? F0];rfl
  |succ j ih=>
   intro i q' hi hq;obtain⟨q',rfl⟩:∃z,q'=z+1:=⟨q'-1,F0⟩;have hlt:i<fr.length:=F0
   have e1:=vg fr i hlt;have e2:=Abf fr (i+1);rw[Fp,Nr,B6 F2,Bl hlt,Aa,Za i F0,Ac,Ag,<-QW,show m.length+4*s.length+X.length+(fr.take i).flatten.length+fr[i].length=m.length+4*s.length+X.length+(fr.take (i+1)).flatten.length by omega];exact ih (i+1) q' F0 F0
 have e0:Af (Af (Ac m) (Bn 4 (Ac s))) (Ac X)=((m.length+4*s.length+X.length+(fr.take 0).flatten.length:Nat):Int):=by
  have e1:Bn 4 (s.length:Int)=((4*s.length:Nat):Int):=by rw[show(4:Int)=((4:Nat):Int)from rfl,Ea];omega
  rw[Ac,Ac,Ac,e1,Ag (a:=(m.length:Int)) F0 F0,<-QW,Ag,<-QW];simp
 rw[Rh,Va,e0];exact loop fr.length 0 As F0 F7
theorem tI{inp:LB}(hin:inp.length<=600){b:List M8}(hb:b.length<=200)(hv:∀st∈b,VS st):∀(k i t q1 q2 s:Nat) (U:Ue) (K:Nat),i+k=b.length->k<q1->k<q2->s<=inp.length->OkE c w r p (inp.length-s) U->t<=U.X.length->
  ∃K':Int,Jt b q1 (inp.drop s) (K:Int) (i:Int) (c:Int) (w:Int) (r:Int) p (U.X.drop t) U.u U.v U.m U.s U.fr=some (K',0)/\Ef inp b q2 (K:Int) (s:Int) (i:Int) (c:Int) (w:Int) (r:Int) p (U.X.drop t) U.u U.v U.m U.s U.fr=some (K',0)
 |k,i,t,0,q2,s,U,K,_,hq,_,_,_,_=>absurd hq (G4 _)
 |k,i,t,q1+1,0,s,U,K,_,_,hq,_,_,_=>absurd hq (G4 _)
 |0,i,t,q1+1,q2+1,s,U,K,hi,hq1,hq2,hs,hU,ht=>by
  refine⟨K,?_,?_⟩
  ·rw[Jt,Xo,B! F2];rfl
  ·rw[Ef,Ib,B! F2];rfl
 |k+1,i,t,q1+1,q2+1,s,U,K,hi,hq1,hq2,hs,hU,ht=>by
  have hlt:i<b.length:=F0
  obtain⟨hop,hn0,hn1⟩:=hv b[i] (G8 hlt);obtain⟨m,hm⟩:∃m:Nat,b[i].2.1=m:=⟨b[i].2.1.toNat,F0⟩;obtain⟨p1,p2,p3⟩:=S7 (inp:=inp) (m:=m) (s:=s) F0 hs F0;have hl2:(inp.drop s).length=inp.length-s:=D8;have hmax:∀(x y:Nat),jQ (x:Int) (y:Int)=((max x y:Nat):Int):=λx y=>by rw[jw];omega
  have hP:∀{L:Nat} {U1:Ue} (h1:OkE c w r p L U1) (t1:Nat) (VG:LB),MB (Jt b q1) b (K:Int) (i:Int) VG (c:Int) (w:Int) (r:Int) p (U1.X.drop t1) U1.u U1.v U1.m U1.s U1.fr=Jt b q1 VG ((max K (cdE U1.m U1.s U1.fr (U1.X.drop t1)):Nat):Int) ((i+1:Nat):Int) (c:Int) (w:Int) (r:Int) p (U1.X.drop t1) U1.u U1.v U1.m U1.s U1.fr:=by
   intro L U1 h1 t1 VG;obtain⟨s1,s2,s3,s4,s5,s6⟩:=h1.szs h;have s7:=h1.flat h;rw[MB,Ayt,Ass _ _ _ _ _ _ _ _ _ _ F0 F0 F0 s7 L6,Aa,hmax,Za i F0]
  have hR:∀{L:Nat} {U1:Ue} (h1:OkE c w r p L U1) (t1:Nat) (s1:Int),Uy (Ef inp b q2) inp b (K:Int) (i:Int) s1 (c:Int) (w:Int) (r:Int) p (U1.X.drop t1) U1.u U1.v U1.m U1.s U1.fr=Ef inp b q2 ((max K (cdE U1.m U1.s U1.fr (U1.X.drop t1)):Nat):Int) s1 ((i+1:Nat):Int) (c:Int) (w:Int) (r:Int) p (U1.X.drop t1) U1.u U1.v U1.m U1.s U1.fr:=by
   intro L U1 h1 t1 s0;obtain⟨s1,s2,s3,s4,s5,s6⟩:=h1.szs h;have s7:=h1.flat h;rw[Uy,Aeo,Arb _ _ _ _ _ _ _ _ _ _ F0 F0 F0 s7 L6,Aa,hmax,Za i F0]
  rcases hop with h1|h1|h1
  ·have hql:((inp.drop s).take (min m (inp.length-s))).length=min m (inp.length-s):=by rw[C8];omega
   have hmin:Du (m:Int) (Ac (inp.drop s))=((min m (inp.length-s):Nat):Int):=by rw[Zp,Ac,hl2];omega
   obtain⟨e,U1,f2,f3,f4⟩:=yL h hU ((inp.drop s).take (min m (inp.length-s))) F0;rw[hql]at f2;obtain⟨K',g1,g2⟩:=tI hin hb hv k (i+1) t q1 q2 (s+min m (inp.length-s)) U1 (max K (cdE U1.m U1.s U1.fr (U1.X.drop t))) F0 F0 F0 F0 (by rw[show inp.length-(s+min m (inp.length-s))=inp.length-s-min m (inp.length-s) by omega];exact f2) (by rw[f3];exact ht);refine⟨K',?_,?_⟩
   ·rw[Jt,Xo,B6 F2,Bl hlt,Aa,B6 (by rw[h1];rfl),hm,hmin,Dt,D0,Aa,(f4 t ht).1,Aa];simp only;rw[Dj,Aa,D0,RS,hP f2];exact g1
   ·rw[Ef,Ib,B6 F2,Bl hlt,Aa,B6 (by rw[h1];rfl),Aa,hm,p1,p2,Aa,(f4 t ht).2,Aa];simp only;rw[hR f2];exact g2
  ·have hd:=Afl h hU t m;obtain⟨K',g1,g2⟩:=tI hin hb hv k (i+1) (t+min m (U.X.length-t)) q1 q2 s U (max K (cdE U.m U.s U.fr (U.X.drop (t+min m (U.X.length-t))))) F0 F0 F0 hs hU F0;refine⟨K',?_,?_⟩
   ·rw[Jt,Xo,B6 F2,Bl hlt,Aa,B! (by rw[h1];decide),B6 (by rw[h1];rfl),hm,hd.1,Aa];simp only;rw[hP hU];exact g1
   ·rw[Ef,Ib,B6 F2,Bl hlt,Aa,B! (by rw[h1];decide),B6 (by rw[h1];rfl),Aa,hm,hd.2,Aa];simp only;rw[hR hU];exact g2
  ·obtain⟨e,U1,f2,f3,f4⟩:=Agp h hU;obtain⟨K',g1,g2⟩:=tI hin hb hv k (i+1) t q1 q2 s U1 (max K (cdE U1.m U1.s U1.fr (U1.X.drop t))) F0 F0 F0 hs f2 F0;refine⟨K',?_,?_⟩
   ·rw[Jt,Xo,B6 F2,Bl hlt,Aa,B! (by rw[h1];decide),B! (by rw[h1];decide),B6 (by rw[h1];rfl),(f4 t ht).1,Aa];simp only;rw[hP f2];exact g1
   ·rw[Ef,Ib,B6 F2,Bl hlt,Aa,B! (by rw[h1];decide),B! (by rw[h1];decide),B6 (by rw[h1];rfl),(f4 t ht).2,Aa];simp only;rw[hR f2];exact g2
end
theorem Ags{C W R:Int}{p inp:LB}{l:List M8}(hin:inp.length<=600)(hl:l.length<=100000):∃(K E:Int),LN C W R p inp l=some (K,E)/\Qr C W R p inp l=some (K,E):=by
 rcases Age l hl with⟨c1,c2,c3,c4⟩|⟨e,he,c1,c2⟩
 ·rcases Aj6 C W R p with h0|⟨c,w,r,rfl,rfl,rfl,h,h0⟩
  ·obtain⟨n1,n2⟩:=Ay3 h0;refine⟨0,2,?_,?_⟩
   ·rw[LN,FQ,FT,CX,c1,Aa,B! F5,n2,Aa];simp only;rw[B6 F5,Aa];simp only;rw[B6 F5]
   ·rw[Qr,Qn,Pw,Ou,c2,Aa,B! F5,n1,Aa];simp only;rw[B6 F5,Aa];simp only;rw[B6 F5]
  ·have hv1:∀st∈l,VS st:=λst hs=>(c4 st hs).1;have e0:nE c w []=0:=by rw[nE];exact U? _
   have hR0:Qg c r (nE c w []):=by rw[e0];exact xw c r
   have e1:eV c w r p []=⟨RE c w [],SE c w r [],FE c w r p [],[],false,0⟩:=by rw[eV,B6 hR0]
   obtain⟨es,U,inp',ds,t,r1,r2,r3,r4,r5,r6,_⟩:=Ayk h hin c3 c4;have hok:OkE c w r p (inp.length-0) (eV c w r p []):=pU (by simpa using hin);obtain⟨t1,t2,t3,t4,t5,t6,t7,t8,t9,t10,t11,hre⟩:=kB h hin c3 hv1 l.length 0 0 As 0 (eV c w r p []) [] F0 F7 (S! _) hok (S! _) B8;obtain⟨K,h1,h2⟩:=tI h hin c3 hv1 l.length 0 0 As As 0 (eV c w r p []) 0 F0 F7 F7 (S! _) hok (S! _);rw[e1]at hre h1 h2;refine⟨K,0,?_,?_⟩
   ·rw[LN,FQ,r6,Aa];simp only;rw[B! F5,Ao3 h,Aa];simp only;rw[B! F5];exact h1
   ·have hE:Pw (c:Int) (w:Int) (r:Int) p inp l=some (t1,t2,t3,t4,t5,t6,t7,t8,t9,t10,t11,0):=by
     rw[Pw,Ou,c2,Aa,B! F5,Be0 h,Aa];simp only;rw[B! F5];exact hre
    rw[Qr,Qn,hE,Aa];simp only;rw[B! F5,Be0 h,Aa];exact h2
 ·refine⟨0,e,?_,?_⟩
  ·rw[LN,FQ,FT,CX,c1,Aa,B6 (by rw[Am];simpa using he),Aa];simp only;rw[B6 (by rw[Am];simpa using he)]
  ·rw[Qr,Qn,Pw,Ou,c2,Aa,B6 (by rw[Am];simpa using he),Aa];simp only;rw[B6 (by rw[Am];simpa using he)]
theorem law_MemoryPeaks(C W R:Int)(p b:LB)(l:List M8):Zs C W R p b l=some true:=by
 rw[Zs,Ab9];by_cases hc:((Ec (Ac p) 100)||(Ec (Ac b) 600))=true
 ·rw[B6 hc]
 rw[B! hc,SI,Aa];simp only[HU,not_or,Ar,Ac,B?]at hc;by_cases hm:(((Ec (Ac l) 60)&&(vA (Ac l) 200))||(Ec (Ac l) 210))=true
 ·rw[B6 hm]
 rw[B! hm];simp only[HU,C1,not_or,not_and,Ar,Th,Ac,B?]at hm;obtain⟨K,F,E,h1,h2⟩:=Amn (o:=p) (inp:=b) (l:=l) F0 F0;obtain⟨K2,E2,h3,h4⟩:=Ags (C:=C) (W:=W) (R:=R) (p:=p) (inp:=b) (l:=l) F0 F0;rw[Aba,Ab5,h1,Aa];simp only;rw[h2,Aa];simp only;rw[h3,Aa];simp only;rw[h4,Aa];simp[Ax]
end Go.Pl
