/- A part of the proof of a statement of this seat (see the text that ends in Proof): LwClip, LwPts, LwTrc, LwPd, LwDt, LwDu, LwAll, LwEc3, LwEc4, LwEb1, LwEb2, LwEb3, LwEb4, LwA41, LwPv, LwPk, LwEf1, LwEf2, LwEf3, LwEf4, LwEf5, LwEf6, LwPn1, LwPn2, LwPn3, LwPn4, LwNn, LwHdI, LwFit, LwFitC, LwStart, LwStb, LwChk, LwChkT, LwChkF, LwPc, LwTake, LwGre, LwSteps, LwStb2, LwFed, LwOut, LwErr, LwCat, LwJoin, LwPp, LwPt, LwPe2, LwEf7, LwEf8, LwA44, LwUndo, LwEg1, LwDp, LwEg2, LwEg3, LwOs, LwA42, LwOo. No conditions of its own. -/
import Derived.Test.YtgomgobgfhhahaaGreatDoorObWA
import Derived.Test.YtgomgobgfhhahaaGreatDoorObPA
import Derived.KernelRfl
set_option linter.unusedVariables false
set_option linter.unusedSimpArgs false
namespace Go.Pl
open Go Go.Lv
abbrev C5:=Int×Int×Int×List Int32×Int
def lI(e:Int):C5:=(0,0,0,[],e)
theorem pJ{rL p:List UInt8}(hs:rL.length=8)(hp:p.length<=64):Pc rL p=some (rL==Ry (Lg p).toNat 8,0):=by
 rw[Pc,qE p hp,Aa];simp only;rw[Aac (by rw[Aj,Aj,Ac,Ac,Ce,hs];simp),Ig,Aa]
theorem Bc0(b p:List UInt8)(m c w h o q n g y ab:Int)(k v:List Int){e:Int}(he:e≠0):Ug b p m c w h o q n g k e y ab v=some (lI e):=by
 rw[Ug,ZV,Aau (by rw[Aj];simpa using he)];rfl
theorem Ab5(b p:List UInt8)(m c w h o q n g y ab:Int)(k:List Int){e:Int}(he:e≠0):AL b p m c w h o q n g y ab k e=some (lI e):=by
 rw[AL,YT,Aau (by rw[Aj];simpa using he)];rfl
theorem Aw9(b p:List UInt8)(m c w h o q n g y ab:Int)(k:List Int):AL b p m c w h o q n g y ab k 0=KB b p m c w h o q n g y ab k:=by
 rw[AL,YT,Aac (by rw[Aj];simp)]
def cX(X:Nat->List Int32)(E:Nat->Int)(be:Int):Nat->Nat->List Int32->List Int32×Int
 |0,_,acc=>if be≠0 then([],38)else(acc,0)
 |j+1,k,acc=>if E k≠0 then([],E k)else cX X E be j (k+1) (acc++X k)
def RW(c w r:Nat)(y:List Int32×Int):C5:=if y.2≠0 then lI y.2 else((c:Int),(w:Int),(r:Int),y.1,0)
def rY(b p:List UInt8)(f c w r n A:Nat)(l:List Int):C5:=
 RW c w r (cX (λk=>smF w (Jb b p f c w r n A l k)) (λk=>(Jb b p f c w r n A l k).2) (XH b A l) l.length 0 [])
section
variable {b p:List UInt8} {f c w r n A:Nat} {l:List Int} (o:Opn b p f c w r n A l)
include o
theorem Ahw(a1 a2 a3 a4:Int):∀(j k q:Nat) (acc:List Int32),k+j=l.length->j<q-> (k=l.length-> (A:Int)+l.sum<=b.length)->acc.length<=4000*k->
  Zu b l (f:Int) (c:Int) (w:Int) (r:Int) (n:Int) a1 a2 a3 (A:Int) a4 (Js p) (Al (Ak r) n) q ((A:Int)+(l.take k).sum) (k:Int) acc=
   some (RW c w r (cX (λk=>smF w (Jb b p f c w r n A l k)) (λk=>(Jb b p f c w r n A l k).2) (XH b A l) j k acc))
 |0,k,q+1,acc,hk,_,hfit,_=>by
  have hA:=o.at';have Ao8:=o.file;have hs1:=o.some1;have hsum:=o.sum;have b1:=Ia o.five l.length;have hf:=hfit (by omega);obtain rfl:k=l.length:=by omega
  rw[Awj]at b1⊢;rw[Zu,XI,Aac (by rw[Ae,Ac];simp),oV,pV,Bs (by omega) (by omega),Aa,Aat _ (by rw[Ajb];omega),Aa,cX,XH];generalize Nt (b.drop ((A:Int)+l.sum).toNat)=v;obtain⟨v1,v2⟩:=v;simp only;by_cases hv:v2≠0
  ·rw[Aau hv,Aau (by rw[Aj];simpa using hv),RW,Aau (by simp)];rfl
  ·rw[Aac hv,Aac (by rw[Aj];simpa using hv),RW,Aac (by simp)]
 |j+1,k,q+1,acc,hk,hq,hfit,hacc=>by
  have hA:=o.at';have Ao8:=o.file;have hs1:=o.some1;have hsum:=o.sum;have b1:=Ia o.five k;have b2:=Ia o.five (k+1);have hkl:k<l.length:=by omega
  have e2:=Jv hkl;have h5:=o.five l[k] (Ami _);obtain⟨m,x,s,e,g⟩:=BJ o k hkl;obtain⟨hc,hw,hr,hn,_⟩:=Nh o.shape;have hl:=g.lens hw;rw[Zu,XI,Aau (by rw[Ae,Ac];simp;omega),Bq hkl,Aa,Aa,Ah (a:=(A:Int)+(l.take k).sum) (by omega) (by omega),Blt,<-e2,Ac,cX,g.eq];simp only;rcases g.way with⟨h1,h2⟩|⟨h1,h2,_⟩
  ·rw[Aau (by rw[Ae,Abk];omega),Aau (by rw[h2];simp),h2,RW,Aau (by simp)];rfl
  ·rw[Aac (by rw[Ae,Abk];omega),g.mom];simp only[Aa];rw[Uk (by omega) (by omega) (by omega),Aa,show(b.take ((A:Int)+(l.take (k+1)).sum).toNat).drop ((A:Int)+(l.take k).sum).toNat=Abj b A l k from rfl,h2,Aa];simp only;rw[pK,pU];by_cases he:e≠0
   ·rw[Aau (by rw[Aj];simpa using he),Aau he,RW,Aau he];rfl
   ·have he0:e=0:=by simpa using he
    have Ao9:=(g.some' he0).2.2.2.2;rw[Aac (by rw[Aj];simpa using he),Aac he,g.vN hw,Bi (by omega),Aa,Ah (a:=(A:Int)+(l.take k).sum) (by omega) (by omega),Blt,<-e2,Ah (by omega) (by omega)];exact Ahw a1 a2 a3 a4 j (k+1) q (acc++x) (by omega) (by omega) (λh=>by rw[h,Awj]at Ao9;exact Ao9) (by rw[Aav];omega)
theorem sR:∀(j k q:Nat) (acc:List Int32),k+j=l.length->j<q-> (k=l.length-> (A:Int)+l.sum<=b.length)->acc.length<=4000*k->
  Nc b (f:Int) (c:Int) (w:Int) (r:Int) (n:Int) l (Al (Ak r) n) (Js p) q ((A:Int)+(l.take k).sum) (k:Int) acc=
   some (RW c w r (cX (λk=>smF w (Jb b p f c w r n A l k)) (λk=>(Jb b p f c w r n A l k).2) (XH b A l) j k acc))
 |0,k,q+1,acc,hk,_,hfit,_=>by
  have hA:=o.at';have Ao8:=o.file;have hs1:=o.some1;have hsum:=o.sum;have b1:=Ia o.five l.length;have hf:=hfit (by omega);obtain rfl:k=l.length:=by omega
  rw[Awj]at b1⊢;rw[Nc,Zj,Aac (by rw[Ae,Ac];simp),MS,MJ,Bs (by omega) (by omega),Aa,tW _ (by rw[Ajb];omega),Aa,cX,XH];generalize Nt (b.drop ((A:Int)+l.sum).toNat)=v;obtain⟨v1,v2⟩:=v;simp only;by_cases hv:v2≠0
  ·rw[Aau hv,Aau (by rw[Aj];simpa using hv),RW,Aau (by simp)];rfl
  ·rw[Aac hv,Aac (by rw[Aj];simpa using hv),RW,Aac (by simp)]
 |j+1,k,q+1,acc,hk,hq,hfit,hacc=>by
  have hA:=o.at';have Ao8:=o.file;have hs1:=o.some1;have hsum:=o.sum;have b1:=Ia o.five k;have b2:=Ia o.five (k+1);have hkl:k<l.length:=by omega
  have e2:=Jv hkl;have h5:=o.five l[k] (Ami _);obtain⟨m,x,s,e,g⟩:=BJ o k hkl;obtain⟨hc,hw,hr,hn,_⟩:=Nh o.shape;have hl:=g.lens hw;rw[Nc,Zj,Aau (by rw[Ae,Ac];simp;omega),Bq hkl,Aa,Aa,Ac,Bu (by omega) (by omega),cX,g.eq];simp only;rcases g.way with⟨h1,h2⟩|⟨h1,_,h2⟩
  ·rw[Aau (by rw[Ae,Abk];omega),Aau (by rw[h2];simp),h2,RW,Aau (by simp)];rfl
  ·rw[Aac (by rw[Ae,Abk];omega),g.mom];simp only[Aa];rw[Ah (a:=(A:Int)+(l.take k).sum) (by omega) (by omega),Blt,<-e2,Uk (by omega) (by omega) (by omega),Aa,show(b.take ((A:Int)+(l.take (k+1)).sum).toNat).drop ((A:Int)+(l.take k).sum).toNat=Abj b A l k from rfl,h2,Aa];simp only;rw[NA,MY];by_cases he:e≠0
   ·rw[Aau (by rw[Aj];simpa using he),Aau he,RW,Aau he];rfl
   ·have he0:e=0:=by simpa using he
    have Ao9:=(g.some' he0).2.2.2.2;rw[Aac (by rw[Aj];simpa using he),Aac he,g.vN hw,Bi (by omega),Aa,Bq hkl,Aa,Aa,Ah (a:=(A:Int)+(l.take k).sum) (by omega) (by omega),Blt,<-e2,Ah (by omega) (by omega)];exact sR j (k+1) q (acc++x) (by omega) (by omega) (λh=>by rw[h,Awj]at Ao9;exact Ao9) (by rw[Aav];omega)
end
theorem Ahq(l:List Int)(b p:List UInt8)(m c w h o q n g:Int)(k:List Int)(hl:l.length<=1000)(h5:∀x∈l,5<=x)(A:Int)(hA:0<=A)(hb:A+l.sum<=1000000):∀(j i z:Nat),i+j=l.length->j<z->Zi l b p m c w h o q n g k z (i:Int) (A+(l.take i).sum)=XZ b p l m c w h o q n g (A+l.sum) k
 |0,i,z+1,hi,_=>by
  rw[Zi,ZC,Aac (by rw[Ae,Ac];simp;omega),show i=l.length by omega,Awj]
 |j+1,i,z+1,hi,hz=>by
  have hlt:i<l.length:=by omega
  have b1:=Ia h5 i;have b2:=Ia h5 (i+1);have e:=Jv hlt;have ih:=Ahq l b p m c w h o q n g k hl h5 A hA hb j (i+1) z (by omega) (by omega);rw[e,<-Blt]at ih;rw[Zi,ZC,Aau (by rw[Ae,Ac];simp;omega),Bq hlt,Aa,Aa,Ah (by omega) (by omega),Ah (by omega) (by omega)];exact ih
theorem Aqz(b p:List UInt8)(hb:b.length<=100100)(hp:p.length<=64):
  (∃e:Int,e≠0/\Cc b p=some (HA e)/\Ny b p=some (lI e)/\Ka b p=some (lI e))\/
  (∃f c w r n T:Nat,∃q d:Int,T<=b.length/\b.length<=100000/\Fi f c w r n=true/\Wq c r n=true/\
   Cc b p=Ql b (f:Int) (c:Int) (w:Int) (r:Int) (n:Int) (T:Int)/\
   Ny b p=KB b p (f:Int) (c:Int) (w:Int) (r:Int) (n:Int) q d (T:Int) 0 0 (Al (Ak r) n)/\
   Ka b p=(EY b (T:Int) (f:Int) (c:Int) (w:Int) (r:Int) (n:Int)).bind λ(h,ae)=>if Bc ae 0=true then some (lI ae)else(Fw (r:Int) (n:Int)).bind λp2=>(Nr p).bind λ(u,ap)=>SF b (f:Int) (c:Int) (w:Int) (r:Int) (n:Int) h p2 u (Ad (T:Int) (Ad (Bj 4 (Ac h)) 4)) 0 []):=by
 have hO:Cc b p=Cc b p:=rfl;have hV:Ny b p=Ny b p:=rfl;have hR:Ka b p=Ka b p:=rfl
 conv at hO=>rhs;rw[Cc,Nf,Aac (by rw[Aq,Ac];simp;omega)]
 conv at hV=>rhs;rw[Ny,sO,Aac (by rw[Aq,Ac];simp;omega),Aap]
 conv at hR=>rhs;rw[Ka,QF,Aac (by rw[Aq,Ac];simp;omega),YP]
 by_cases h1:100000<b.length
 ·rw[Aau (by rw[Aq,Ac];simp;omega)]at hO hV hR;refine .inl ⟨4,by omega,hO,?_,?_⟩
  ·rw[hV,Aa];rfl
  ·rw[hR,Aa];rfl
 rw[Aac (by rw[Aq,Ac];simp;omega)]at hO hV hR;rw[Io b (by omega),Aa]at hO hV;rw[BC b (by omega),Aa]at hR;by_cases h2:(Bm b).2=0
 ·obtain⟨p0,p1,p2⟩:=BN h2;have hc:=Bs (l:=b) p0 p1;simp only[h2]at hO hV hR;rw[Aac (by rw[Aj];simp),hc,Aa,show b.drop (Bm b).1.toNat=Ih b from rfl]at hO hV hR;rw[Xd _ (by simp[Ih];omega),Aa]at hO hV;rw[fJ _ (by simp[Ih];omega),Aa]at hR;by_cases h3:(Ej (Ih b)).2.2.2.2.2=0
  ·obtain⟨g1,g2,g3,g4⟩:=pR h3;have hlen:(Ih b).length=b.length-(Bm b).1.toNat:=by simp[Ih]
   generalize hF:(Bm b).1.toNat=F at*
   have hF':(Bm b).1=(F:Int):=by omega
   rw[g1,hF']at hO hV hR;simp only at hO hV hR;generalize f0 (Ih b)=f at*
   generalize f1 (Ih b)=c at*
   generalize f2 (Ih b)=w at*
   generalize f3 (Ih b)=r at*
   generalize f4 (Ih b)=n at*
   have t22:Ad (F:Int) 22=((F+22:Nat):Int):=by rw[Ah (by omega) (by omega)];omega
   have t30:Ad ((F+22:Nat):Int) 8=((F+30:Nat):Int):=by rw[Ah (by omega) (by omega)];omega
   have Bjm:f=1\/f=2:=by simp only[Fi,Abk]at g3;omega
   rw[Aac (by rw[Aj];simp),t22,t30]at hO;rw[Aac (by rw[Aj];simp),pG g3 g4,Aa,t22,t30]at hV;rw[Aa]at hR;simp only at hV hR;rw[Aac (by rw[Aj];simp),t22,VN,t30]at hR;by_cases LZ:((p==([]:List UInt8)) !=(geq (f:Int) (1:Int)))=true
   ·rw[Aau LZ]at hO hR;refine .inl ⟨26,by omega,hO,?_,?_⟩
    ·rw[hV];by_cases h5:f=2
     ·rw[Aau (by rw[Ar,h5];rfl),Aa];simp only;rw[Aac (by rw[Aj];simp),Aau LZ,Ab5 _ _ _ _ _ _ _ _ _ _ _ _ _ (by omega)]
     ·rw[Aac (by rw[Ar];simp;omega),Aa];simp only;rw[Aac (by rw[Aj];simp),Aau LZ,Ab5 _ _ _ _ _ _ _ _ _ _ _ _ _ (by omega)]
    ·rw[hR,Aa];rfl
   ·rw[Aac LZ]at hO hR;have hpf:(p=[]↔f=1):=by
     rw[Ar]at LZ;have h5:(p==([]:List UInt8))=((f:Int)==1):=by simpa using LZ
     have h6:(p==([]:List UInt8))=true↔((f:Int)==1)=true:=by rw[h5]
     rw[Atu,Atu]at h6;rw[h6];omega
    by_cases h5:f=2
    ·have Awm:p≠ []:=λe=>by have:=hpf.1 e;omega
     rw[Aau (by rw[Ar,h5];rfl),Aa]at hV;simp only at hV;rw[Aac (by rw[Aj];simp),Aac LZ,Aac (by rw[Ar];simp;omega)]at hV;rw[Aau (by simpa using Awm)]at hO;rw[Aac (by simpa using Awm)]at hR;by_cases h6:b.length<F+30
     ·rw[Aau (by rw[Ae,Ac];simp;omega)]at hO hV hR;refine .inl ⟨24,by omega,hO,?_,?_⟩
      ·rw[hV,Ab5 _ _ _ _ _ _ _ _ _ _ _ _ _ (by omega)]
      ·rw[hR,Aa];rfl
     ·have hseg:((b.take (F+30)).drop (F+22)).length=8:=by simp;omega
      rw[Aac (by rw[Ae,Ac];simp;omega),Uk (by omega) (by omega) (by omega),Aa,show((F+30:Nat):Int).toNat=F+30 from rfl,show((F+22:Nat):Int).toNat=F+22 from rfl]at hO hV hR;rw[pJ hseg hp,Aa]at hO hV;rw[fZ p hp,Aa]at hR;simp only at hO hV;rw[Aac (by rw[Aj];simp)]at hO;generalize(b.take (F+30)).drop (F+22)=rL at*
      by_cases h7:rL=Ry (Lg p).toNat 8
      ·rw[Aac (by simp[h7])]at hO hV;rw[Aac (by simp[h7]),Aa]at hR;simp only at hR;rw[Aac (by rw[Aj];simp)]at hR;rw[Aw9]at hV;exact .inr ⟨f,c,w,r,n,F+30,(F:Int),((F+22:Nat):Int),by omega,by omega,g3,g4,hO,hV,hR⟩
      ·rw[Aau (by simpa using h7)]at hO hV;rw[Aau (by simpa using h7)]at hR;refine .inl ⟨26,by omega,hO,?_,?_⟩
       ·rw[hV,Ab5 _ _ _ _ _ _ _ _ _ _ _ _ _ (by omega)]
       ·rw[hR,Aa];rfl
    ·have hpe:p=[]:=hpf.2 (by omega);rw[Aac (by rw[Ar];simp;omega),Aa]at hV;simp only at hV;rw[Aac (by rw[Aj];simp),Aac LZ,Aau (by rw[Ar];simp;omega),Aw9]at hV;rw[Aac (by rw[hpe];simp)]at hO;rw[Aau (by rw[hpe];rfl),Aa]at hR;simp only at hR;rw[Aac (by rw[Aj];simp)]at hR;exact .inr ⟨f,c,w,r,n,F+22,(F:Int),((F+22:Nat):Int),by omega,by omega,g3,g4,hO,hV,hR⟩
  ·generalize Ej (Ih b)=v at*
   obtain⟨v1,v2,v3,v4,v5,v6⟩:=v;simp only at h3 hO hV hR;rw[Aau (by rw[Aj];simpa using h3)]at hO hV;refine .inl ⟨v6,h3,hO,?_,?_⟩
   ·rw[hV,Aa];simp only;rw[Aau (by rw[Aj];simpa using h3)];rfl
   ·rw[hR,Aa];simp only;rw[Aau (by rw[Aj];simpa using h3)];rfl
 ·generalize Bm b=v at*
  obtain⟨v,e⟩:=v;simp only at h2 hO hV hR;rw[Aau (by rw[Aj];simpa using h2)]at hO hV hR;refine .inl ⟨e,h2,hO,?_,?_⟩
  ·rw[hV,Aa];simp only;rw[Aau (by rw[Aj];simpa using h2)];rfl
  ·rw[hR,Aa];simp only;rw[Aau (by rw[Aj];simpa using h2)];rfl
theorem rA(b p:List UInt8)(hb:b.length<=100100)(hp:p.length<=64):
  (∃e:Int,e≠0/\Cc b p=some (HA e)/\Ff b p=some (HA e)/\Ny b p=some (lI e)/\Ka b p=some (lI e))\/
  (∃f c w r n A l,Opn b p f c w r n A l/\Ny b p=some (rY b p f c w r n A l)/\Ka b p=some (rY b p f c w r n A l)):=by
 have Be8:∀{e e2:Int},HA e=HA e2->e=e2:=λh=>by simpa [HA]using h
 rcases Aqz b p hb hp with⟨e,he,h1,h2,h3⟩|⟨f,c,w,r,n,T,q,d,hT,Ao8,g3,g4,hO,hV,hR⟩
 ·rcases vE b p hb hp with⟨e',he',k1,k2⟩|⟨f,c,w,r,n,A,l,o⟩
  ·rw[h1]at k1;have:=Be8 (Atf k1);subst this;exact .inl ⟨e,he,h1,k2,h2,h3⟩
  ·have:=o.prog;rw[h1]at this;have:=Atf this;simp only[HA,Agm]at this;exact absurd this.2.2.2.2.2.2.2 he
 ·obtain⟨hc,hw,hr,hn,_⟩:=Nh g3;have hfit:n<=4000/c:=by simp only[Wq,Abk]at g4;exact g4.1
  have hn4:n<=4000:=by have:=Arh 4000 c;omega
  rw[rG g3 g4 b hb T hT]at hO;have hcut:=Bs (l:=b) (a:=(T:Int)) (by omega) (by omega);rw[Agr]at hcut;have hdl:(b.drop T).length<=100100:=by simp;omega
  rw[KB,mL,Aac (by rw[Ae,Ac];simp;omega),hcut,Aa,Ac,rI _ _ hdl,Aa]at hV;rw[EY,hcut,Aa,gP hr.2 hn hn4,Aa,Ac,Ac7 _ _ hdl,Aa,Aa]at hR;by_cases h:(Ek (b.drop T) (Al (Ak r) n).length).2≠0
  ·rw[Aau h]at hO;generalize Ek (b.drop T) (Al (Ak r) n).length=v at*
   obtain⟨v1,v2⟩:=v;simp only at h hO hV hR;rcases vE b p hb hp with⟨e',he',k1,k2⟩|⟨f,c,w,r,n,A,l,o⟩
   ·rw[hO]at k1;have:=Be8 (Atf k1);subst this;refine .inl ⟨_,h,hO,k2,?_,?_⟩
    ·rw[hV,XJ,ZA,Aau (by rw[Aj];simpa using h),Bc0 _ _ _ _ _ _ _ _ _ _ _ _ _ _ h]
    ·rw[hR,Aau (by rw[Aj];simpa using h)]
   ·have:=o.prog;rw[hO]at this;have:=Atf this;simp only[HA,Agm]at this;exact absurd this.2.2.2.2.2.2.2 h
  ·have h0:(Ek (b.drop T) (Al (Ak r) n).length).2=0:=by simpa using h
   rw[Aac h]at hO;generalize hsv:Ek (b.drop T) (Al (Ak r) n).length=v at*
   obtain⟨v1,v2⟩:=v;simp only at h0 hO hV hR;subst h0;rcases vE b p hb hp with⟨e',he',k1,k2⟩|⟨f',c',w',r',n',A,l,o⟩
   ·rw[hO]at k1;have:=Atf k1;simp only[HA,Agm]at this;exact absurd this.2.2.2.2.2.2.2.symm he'
   ·have hp2:=o.prog;rw[hO]at hp2;have hp3:=Atf hp2;simp only[Agm]at hp3;obtain⟨i1,i2,i3,i4,i5,i6,i7,_⟩:=hp3;obtain rfl:f=f':=by omega
    obtain rfl:c=c':=by omega
    obtain rfl:w=w':=by omega
    obtain rfl:r=r':=by omega
    obtain rfl:n=n':=by omega
    subst i7;have hlen:=o.len;have hs1:=o.some1;have hsum:=o.sum;have hA:=o.at';have hAT:(A:Int)=(T:Int)+4*(v1.length:Int)+4:=by omega
    have a1:Bj 4 (v1.length:Int)=4*(v1.length:Int):=Fh (by omega) (by omega);have eV:Ad (Ad (T:Int) (Bj 4 (Ac v1))) 4=(A:Int):=by
     rw[Ac,a1,Ah (a:=(T:Int)) (by omega) (by omega),Ah (by omega) (by omega)];omega
    have eR:Ad (T:Int) (Ad (Bj 4 (Ac v1)) 4)=(A:Int):=by
     rw[Ac,a1,Ah (a:=4*(v1.length:Int)) (by omega) (by omega),Ah (by omega) (by omega)];omega
    have hlv:=Ahw o q d (T:Int) ((A:Int)+v1.sum) v1.length 0 Ax [] (by omega) (by have:=As;omega) (by omega) (by simp);have hlr:=sR o v1.length 0 Ax [] (by omega) (by have:=As;omega) (by omega) (by simp);rw[Bgs,Bk2,Int.add_zero]at hlv hlr;refine .inr ⟨f,c,w,r,n,A,v1,o,?_,?_⟩
    ·have hs:=Ahq v1 b p (f:Int) (c:Int) (w:Int) (r:Int) (n:Int) q d (T:Int) (Al (Ak r) n) hs1.2 o.five (A:Int) (by omega) (by omega) v1.length 0 Ax (by omega) (by have:=As;omega);rw[Bgs,Bk2,Int.add_zero]at hs;rw[hV,XJ,ZA,Aac (by rw[Aj];simp),pQ,eV];refine Bhp hs ?_;rw[XZ,mQ,eV,Ug,ZV,Aac (by rw[Aj];simp),gN p o.pass,Aa];exact hlv
    ·rw[hR,Aac (by rw[Aj];simp),Aa,SM p o.pass,Aa,eR];exact hlr
def zE(b:List UInt8):List Int:=Al (Ak (f3 (Ih b))) (f4 (Ih b))
theorem Aqw{ch:Nat}{bits:Int}(hb:Bk bits)(h1:1<=ch)(h6:ch<=6):Gc (ch:Int) bits=some 0:=by
 have hr:∃x y,Sc bits=some (x,y,0):=⟨_,_,Afk hb⟩;obtain⟨x,y,hr⟩:=hr;rw[Gc,hr,Aa];simp only;rw[Aac (by simp[Aj,Ae,Aq];omega)]
abbrev P6':=Int×Int×Int×List Int32×List Int×Int
def Aye(e:Int):P6':=(0,0,0,[],[],e)
theorem Aal(l:List Int32)(hl:l.length<=4000000):∀(j i q:Nat),i+j=l.length->j<q->Jh l l q (i:Int)=some true
 |0,i,q+1,hi,_=>by
  rw[Jh,Rs,Aac (by rw[Ae,Ac];simp;omega)];rfl
 |j+1,i,q+1,hi,hq=>by
  rw[Jh,Rs,Aau (by rw[Ae,Ac];simp;omega),Bq (by omega),Aa,Aa,Aac (by rw[Bca];simp),Ah (by omega) (by omega)];exact Aal l hl j (i+1) q (by omega) (by omega)
theorem Bfx(l:List Int32)(hl:l.length<=4000000):Zb l l=some true:=by
 rw[Zb,Zy,Aac (by rw[Aj];simp)];exact Aal l hl l.length 0 Ax (by omega) (by have:=As;omega)
theorem Bgh(a b c:Int)(l:List Int32)(hl:l.length<=4000000):Sj a b c l a b c l=some true:=by
 have e:∀a:Int,geq a a=true:=λa=>by rw[Ar];simp
 rw[Sj,e,e,e,Aau (by decide),Bfx l hl,Aa]
theorem Agc{c r n:Nat}(h:Wq c r n=true):1<= (Al (Ak r) n).length/\ (Al (Ak r) n).length<=1000:=by
 simp only[Wq,Abk]at h;rw[SW];exact⟨Nat.le_add_left _ _,h.2⟩
theorem Aje(g:Nat):∀K:Nat,(List.replicate K (g:Int)).sum=((K*g:Nat):Int)
 |0=>by simp
 |K+1=>by
  rw[Bgj,Bdp,Aje g K,Bld];omega
theorem oW{g n:Nat}(hn:1<=n):(Al g n).sum=(n:Int):=by
 have h:=Be7 (n-1) g;rw[Al,List.sum_append,Aje];simp only[Bdp,Bk2];omega
theorem Ak0:∀{l:List Int},(∀x∈l,0<=x)->0<=l.sum
 |[],_=>by simp
 |x::l,h=>by
  have h1:=h x Awp;have h2:=Ak0 (l:=l) λy hy=>h y (Aoh _ hy);rw[Bdp];omega
theorem jI{l:List Int}(h:∀x∈l,0<=x)(i:Nat):0<= (l.take i).sum/\ (l.take i).sum<=l.sum:=by
 have h1:=Ak0 (l:=l.take i) λx hx=>h x (Bli hx);have h2:=Ak0 (l:=l.drop i) λx hx=>h x (Bjr hx);have:=Aix l i;omega
def GJ(c w:Nat)(fr:List Int)(k:Nat):Int:=(((fr.take k).sum.toNat*(c*wB (w:Int)):Nat):Int)
section
variable {f c w r n:Nat} (h1:Fi f c w r n=true) (h2:Wq c r n=true)
include h1 h2
theorem ON:(∀x∈Al (Ak r) n,0<=x)/\ (Al (Ak r) n).sum=(n:Int)/\n<=4000:=by
 obtain⟨hc,hw,hr,hn,_⟩:=Nh h1;have hfit:n<=4000/c:=by simp only[Wq,Abk]at h2;exact h2.1
 have hn4:n<=4000:=by have:=Arh 4000 c;omega
 refine⟨λx hx=>?_,oW hn,hn4⟩;obtain⟨m,rfl,_⟩:=Wo (Ex r) hn hx;omega
end
section
variable {b p:List UInt8} {f c w r n A:Nat} {l:List Int} (o:Opn b p f c w r n A l)
include o
theorem Aw7(h:(rY b p f c w r n A l).2.2.2.2=0):(A:Int)+l.sum<=b.length:=by
 have hs1:=o.some1;have key:∀(j k:Nat) (acc:List Int32),k+j=l.length->1<=j-> (cX (λk=>smF w (Jb b p f c w r n A l k)) (λk=>(Jb b p f c w r n A l k).2) (XH b A l) j k acc).2=0-> (A:Int)+l.sum<=b.length:=by
  intro j
  induction j with
  |zero=>intro k acc _ h;omega
  |succ j ih=>
   intro k acc hk _ h;obtain⟨m,x,s,e,g⟩:=BJ o k (by omega);rw[cX]at h;by_cases he:(Jb b p f c w r n A l k).2≠0
   ·rw[Aau he]at h;exact absurd h he
   ·rw[Aac he]at h;by_cases hj:j=0
    ·rw[g.eq]at he;have:=(g.some' (by simpa using he)).2.2.2.2;rw[show k+1=l.length by omega,Awj]at this;exact this
    ·exact ih (k+1) _ (by omega) (by omega) h
 rw[rY,RW]at h;refine key l.length 0 [] (by omega) hs1.1 ?_;split at h
 ·simpa [lI]using h
 ·rename_i h2;simpa using h2
end
theorem Apy(C W:Nat)(fr:List Int):GJ C W fr 0=0:=by rw[GJ,Bgs,Bk2];simp
theorem Aq0(C W:Nat){fr:List Int}(hp:∀z∈fr,0<=z){A m:Nat}(hA:A<fr.length)(hm:fr[A]=(m:Int)):GJ C W fr (A+1)=GJ C W fr A+((m*C*wB (W:Int):Nat):Int):=by
 have hs:0<= (fr.take A).sum:=by
  have:∀l:List Int,(∀z∈l,0<=z)->0<=l.sum:=by
   intro l
   induction l with
   |nil=>intro _;simp
   |cons a l ih=>intro h;rw[Bdp];have:=h a (by simp);have:=ih (λz hz=>h z (by simp[hz]));omega
  exact this _ λz hz=>hp z (Bli hz)
 have e:(fr.take (A+1)).sum=(fr.take A).sum+m:=by rw[Md hA,List.sum_append,Bdp,Bk2,hm];omega
 rw[GJ,GJ,e];have:((fr.take A).sum+(m:Int)).toNat=(fr.take A).sum.toNat+m:=by omega
 rw[this,Alg,Awr m];omega
theorem fP{bits:Int}(h:Bk bits){l:List Int32}(hl:l.length<=4000)(hr:inR bits l):Ay bits l=some 0:=by
 have hh:=PJ bits;have key:∀(j i q:Nat),i+j=l.length->j<q->Az l (hB bits) q (i:Int)=some 0:=by
  intro j
  induction j with
  |zero=>
   intro i q hi hq;obtain⟨q,rfl⟩:∃k,q=k+1:=⟨q-1,by omega⟩;rw[Az,Cu,Aac (by rw[Ae,Ac];simp;omega)];rfl
  |succ j ih=>
   intro i q hi hq;obtain⟨q,rfl⟩:∃k,q=k+1:=⟨q-1,by omega⟩;have hx:=hr l[i] (Ami (by omega));rw[Az,Cu,Aau (by rw[Ae,Ac];simp;omega),Bq (by omega),Aa,Aa,Ge,Akb,Df (by omega) (by omega),Ah (by omega) (by omega),Ae,Ea,Aac (by simp;omega),Aac (by simp;omega)];exact ih (i+1) q (by omega) (by omega)
 rw[Ay,Dn,ZZ h,Aa,Aac (by rw[Ar];simp;omega),Aac (by rw[Aq,Ac];simp;omega)];exact key l.length 0 Ax (by omega) (by have:=As;omega)
theorem Ari(bits:Int)(a b:List Int32):Dk bits (a++b)=Dk bits a++Dk bits b:=by unfold Dk;rw[List.flatMap_append]
def Vv{α:Type}(G:Nat->List α):Nat->Nat->List α
 |0,_=>[]
 |j+1,k=>G k++Vv G j (k+1)
theorem Aot{α:Type}(G:Nat->List α):∀(i j k:Nat),Vv G (i+j) k=Vv G i k++Vv G j (k+i)
 |0,j,k=>by simp[Vv]
 |i+1,j,k=>by
  rw[show i+1+j=(i+j)+1 by omega,Vv,Vv,Aot G i j (k+1),Agd,show k+1+i=k+(i+1) by omega]
theorem Ait{α:Type}(G:Nat->List α)(i k:Nat):Vv G (i+1) k=Vv G i k++G (k+i):=by
 rw[Aot G i 1 k];simp[Vv]
theorem Aeg(w:Nat)(G:Nat->List UInt8×Int)(be:Int):∀(j k:Nat) (acc:List UInt8) (Bhg:List Int32),(lF G be j k acc).2=(cX (λk=>smF w (G k)) (λk=>(G k).2) be j k Bhg).2
 |0,k,acc,Bhg=>by
  rw[lF,cX];split<;>rfl
 |j+1,k,acc,Bhg=>by
  rw[lF,cX];split
  ·rfl
  ·exact Aeg w G be j (k+1) _ _
theorem wN(X:Nat->List Int32)(E:Nat->Int)(be:Int):∀(j k:Nat) (acc:List Int32),(cX X E be j k acc).2=0->be=0/\ (∀i,k<=i->i<k+j->E i=0)/\ (cX X E be j k acc).1=acc++Vv X j k
 |0,k,acc,h=>by
  rw[cX]at h⊢;by_cases hb:be≠0
  ·rw[Aau hb]at h;cases h
  ·rw[Aac hb];exact⟨by simpa using hb,λi h1 h2=>by omega,by simp[Vv]⟩
 |j+1,k,acc,h=>by
  rw[cX]at h⊢;by_cases hb:E k≠0
  ·rw[Aau hb]at h;exact absurd h hb
  ·rw[Aac hb]at h⊢;obtain⟨h1,h2,h3⟩:=wN X E be j (k+1) _ h;refine⟨h1,λi i1 i2=>?_,?_⟩
   ·by_cases hi:i=k
    ·subst hi;simpa using hb
    ·exact h2 i (by omega) (by omega)
   ·rw[h3,Vv,Agd]
theorem zS(G:Nat->List UInt8×Int):∀(j k:Nat) (acc:List UInt8),(∀i,k<=i->i<k+j-> (G i).2=0)->lF G 0 j k acc=(acc++Vv (λi=>(G i).1) j k,0)
 |0,k,acc,h=>by
  rw[lF,Aac (by simp),Vv];simp
 |j+1,k,acc,h=>by
  rw[lF,Aac (by rw[h k (by omega) (by omega)];simp),zS G j (k+1) _ λi h1 h2=>h i (by omega) (by omega),Vv,Agd]
section
variable {b p:List UInt8} {f c w r n A:Nat} {l:List Int} (o:Opn b p f c w r n A l) (hE:∀i,i<l.length-> (Jb b p f c w r n A l i).2=0)
include o hE
theorem Akn(i:Nat)(hi:i<l.length):∃m:Nat,Ap (Al (Ak r) n) (i:Int)=some (m:Int)/\1<=m/\ (Jb b p f c w r n A l i).1=Dk (w:Int) (smF w (Jb b p f c w r n A l i))/\ (smF w (Jb b p f c w r n A l i)).length=m*c/\inR (w:Int) (smF w (Jb b p f c w r n A l i)):=by
 have hw:=(Nh o.shape).2.1;obtain⟨m,x,s,e,g⟩:=BJ o i hi;have h0:=hE i hi;have hsm:=g.vN hw;have hl:=g.lens hw;rw[g.eq]at h0⊢;rw[hsm];obtain⟨h1,h2,h3,_⟩:=g.some' h0;exact⟨m,g.mom,g.pos.1,h1,h2,eX hw (by omega) h3⟩
theorem yM:∀(j k:Nat),k+j<=l.length->Dk (w:Int) (Vv (λi=>smF w (Jb b p f c w r n A l i)) j k)=Vv (λi=>(Jb b p f c w r n A l i).1) j k
 |0,k,_=>rfl
 |j+1,k,h=>by
  obtain⟨m,_,_,h1,_⟩:=Akn o hE k (by omega);rw[Vv,Vv,Ari,yM j (k+1) (by omega),<-h1]
theorem Ak5:∀(j k:Nat),k+j<=l.length->inR (w:Int) (Vv (λi=>smF w (Jb b p f c w r n A l i)) j k)
 |0,k,_=>λx hx=>by simp[Vv]at hx
 |j+1,k,h=>by
  obtain⟨m,_,_,_,_,h1⟩:=Akn o hE k (by omega);intro x hx;rw[Vv,List.mem_append]at hx;rcases hx with hx|hx
  ·exact h1 x hx
  ·exact Ak5 j (k+1) (by omega) x hx
theorem Asd:∀(j:Nat),j<=l.length-> (Vv (λi=>smF w (Jb b p f c w r n A l i)) j 0).length=((Al (Ak r) n).take j).sum.toNat*c
 |0,_=>by simp[Vv]
 |j+1,h=>by
  obtain⟨m,h0,_,_,h1,_⟩:=Akn o hE j (by omega);have hlen:=o.len;have hlt:j<(Al (Ak r) n).length:=by omega
  rw[Bq hlt]at h0;have h0':=Atf h0;obtain⟨g1,g2,g3⟩:=ON o.shape o.fit;have b:=jI g1 j;rw[Ait,Aav,Asd j (by omega),Ay1,h1,Jv hlt,h0'];rw[show(((Al (Ak r) n).take j).sum+(m:Int)).toNat=((Al (Ak r) n).take j).sum.toNat+m by omega,Alg]
theorem Ahk:(Vv (λi=>smF w (Jb b p f c w r n A l i)) l.length 0).length=n*c:=by
 have hn:=(Nh o.shape).2.2.2.1;rw[Asd o hE l.length (Am4 _),o.len,Awj,oW hn];simp
theorem Av9:Le (w:Int) (Vv (λi=>smF w (Jb b p f c w r n A l i)) l.length 0)=some (Vv (λi=>(Jb b p f c w r n A l i).1) l.length 0,0):=by
 have hw:=(Nh o.shape).2.1;have hfit:n<=4000/c:=by have:=o.fit;simp only[Wq,Abk]at this;exact this.1
 have hN:n*c<=4000:=by
  have h1:=Adg c hfit;have h2:=Be7 4000 c;omega
 have ht:=Ahk o hE;rw[aQ hw (by omega) (fP hw (by omega) (Ak5 o hE l.length 0 (by omega))),yM o hE l.length 0 (by omega)]
end
def Nd(bits:Int)(ch:Nat)(t x:List Int32):List UInt32:=evl bits ch t (mx ch x) x.length
def WA(bits:Int)(ch:Nat)(t x:List Int32):List UInt8:=Mr (Ta ch (Nd bits ch t x) x.length)
def Rm(bits:Int)(ch:Nat)(t x:List Int32):List UInt8:=WA bits ch t x++Ry (En (WA bits ch t x)).toNat 4
theorem Aox(bits:Int)(ch:Nat)(t x:List Int32)(h0:1<=x.length)(h4:x.length<=4000):1<= (WA bits ch t x).length/\ (WA bits ch t x).length<=40501:=by
 have h:=eG ch (Nd bits ch t x) x.length;obtain⟨k,hk⟩:∃k,x.length=k+1:=⟨x.length-1,by omega⟩;have h1:1<= (Ta ch (Nd bits ch t x) x.length).length:=by
  rw[hk,Ta,Aav];have hn:=Ajv ch ((Nd bits ch t x).take k);have:=gM ((Nd bits ch t x).getD k 0) hn.1 hn.2;omega
 rw[WA,Xc];omega
theorem xL(bits:Int)(ch:Nat)(t x:List Int32)(h0:1<=x.length)(h4:x.length<=4000):5<= (Rm bits ch t x).length/\ (Rm bits ch t x).length<=40505:=by
 have:=Aox bits ch t x h0 h4;rw[Rm,Aav,Ce];omega
theorem Av8(bits:Int)(ch:Nat)(t x:List Int32)(h0:1<=x.length)(h4:x.length<=4000):Vj (Rm bits ch t x)=0/\ (Rm bits ch t x).take ((Rm bits ch t x).length-4)=WA bits ch t x:=by
 have h:=xL bits ch t x h0 h4;have hl:(Rm bits ch t x).length-4=(WA bits ch t x).length:=by rw[Rm,Aav,Ce];omega
 have h1:(Rm bits ch t x).take ((Rm bits ch t x).length-4)=WA bits ch t x:=by rw[hl,Rm,List.take_left]
 have h2:(Rm bits ch t x).drop ((Rm bits ch t x).length-4)=Ry (En (WA bits ch t x)).toNat 4:=by rw[hl,Rm,Bj4]
 have hlt:=(En (WA bits ch t x)).toNat_lt;refine⟨?_,h1⟩;rw[Vj,Aac (by omega),Aac (by omega),h1,h2,Yh,Abl (by omega),Aac (by simp)]
theorem Aqs{bits:Int}{ch n:Nat}{t x:List Int32}(hb:Bk bits)(ht:t.length=16)(h1:1<=ch)(h6:ch<=6)(n1:1<=n)(n2:n<=4000/ch)(hx:x.length=n*ch)(hr:inR bits x):
  Jy (ch:Int) bits t (n:Int) (Rm bits ch t x)=some (x,0)/\Dg (ch:Int) bits t (n:Int) (Rm bits ch t x)=some (x,0):=by
 have hn:n*ch<=4000:=by
  have:=Adg ch n2;have h2:=Be7 4000 ch;omega
 have hq4:=Abz h1 h6;have hx1:1<=x.length:=by rw[hx];exact Bl5 n1 h1
 have key:Dg (ch:Int) bits t (n:Int) (Rm bits ch t x)=some (x,0):=by
  generalize 4000/ch=mm at*
  have hh:=PJ bits;have Ago:Ec (ch:Int) bits (n:Int)=some 0:=by
   rw[Ec,Dr,Aac (by simp[Ae,Aq];omega),ZZ hb,Aa,Aac (by rw[Ar];simp;omega),Aa,Aac (by simp[Aj,Ae];omega),Bl (by rw[Aj];simp;omega),Aa,hq4,Aac (by rw[Aq];simp;omega)]
  have hlen:=xL bits ch t x hx1 (by omega);obtain⟨hs,htk⟩:=Av8 bits ch t x hx1 (by omega);have hpl:=Aox bits ch t x hx1 (by omega);have e4:Ao (Ac (Rm bits ch t x)) 4=(((Rm bits ch t x).length-4:Nat):Int):=by rw[Ac,Bu (by omega) (by omega)];omega
  have hVl:(Nd bits ch t x).length=x.length:=qU _ _ _ _ _;have hEl:=Xc (Ta ch (Nd bits ch t x) x.length);have hvb:=Ai3 ch (Nd bits ch t x) (8*(WA bits ch t x).length) (by rw[hVl,WA,hEl];omega) (n*ch) 0 (by omega);rw[hVl]at hvb;have hread:=Aj2 (N:=8*(WA bits ch t x).length) (p:=WA bits ch t x) rfl (by omega) h1 h6 hn;have hvb':Ws ch (WA bits ch t x) (8*(WA bits ch t x).length) (n*ch) 0 []=(Nd bits ch t x,(Ta ch (Nd bits ch t x) x.length).length,0):=hvb;have hz:Cf (WA bits ch t x) (Ta ch (Nd bits ch t x) x.length).length (8*(WA bits ch t x).length-(Ta ch (Nd bits ch t x) x.length).length)=0:=by
   apply yY;intro k _;rw[WA,FV,Akw (by omega)]
  have Bnc:¬7<8*(WA bits ch t x).length-(Ta ch (Nd bits ch t x) x.length).length:=by rw[WA,hEl];omega
  rw[hvb']at hread;simp only at hread;rw[Aac (by decide),Aac (by rw[hz];simp;omega)]at hread;have hm:(Nd bits ch t x).length %ch=0:=by rw[hVl,hx];exact Bga n ch
  have Bjn:=Aiw (v:=Nd bits ch t x) hb ht h1 h6 (by omega) hm;have hsm:vN bits ch t (Nd bits ch t x)=mx ch x:=by
   have:=Bbj bits ch t (mx ch x);rw[aP]at this;exact this
  rw[hsm,Bgm h1 (by rw[hx];exact Bga n ch)]at Bjn;rw[Dg,Ox,Ago,Aa,Aac (by rw[Aj];simp),uI,Aa,hs,Aac (by decide),e4,Dl (by omega) (by omega),Aa,Agr,htk,hread,Aa];simp only;rw[Hr,Ht,Aac (by decide),Bjn,Aa,Tv,fP hb (by omega) hr,Aa,Aac (by decide)];rfl
 obtain⟨l,e,d1,d2,_,_⟩:=FT (Rm bits ch t x) hb ht h1 h6 n1 n2;rw[key]at d2;cases d2;exact⟨d1,key⟩
theorem Al3(p:List UInt8)(b0:UInt64)(a0:Int):∀(j m q:Nat),m+j<=300000->j<=64->j<q->
  Rw b0 a0 q (Qy p m j) (j:Int) (m:Int) (Rt p 0 m)=some (Rt p 0 (m+j),((m+j:Nat):Int),0)
 |0,m,q+1,_,_,_=>by
  rw[Rw,WE,Aac (by rw[Aq];simp),iJ,xN];rfl
 |j+1,m,q+1,hm,hj,hq=>by
  have hroom:Rw b0 a0 (q+1) (Qy p m (j+1)) ((j+1:Nat):Int) (m:Int) (Rt p 0 m)=VU (Rw b0 a0 q) b0 a0 (Qy p m (j+1)) ((j+1:Nat):Int) (m:Int) (room p 0 m):=by
   rw[Rw,WE,Aau (by rw[Aq];simp),Aa3 m (by omega),room];by_cases h0:m %8=0
   ·rw[Aau (by rw[Ar,h0];rfl),Bi (by rw[Kt];simp;omega),Aa,Aau h0]
   ·rw[Aac (by rw[Ar];simp;omega),Aac h0]
  have hl:Ao (Ac (room p 0 m)) 1=((m/8:Nat):Int):=by
   rw[Ac,Pz,Bu (by omega) (by omega)];omega
  have e2:Fo ((j+1:Nat):Int) (Ao (8:Int) ((m %8:Nat):Int))=((min (j+1) (8-m %8):Nat):Int):=by
   rw[OY,Bu (by omega) (by omega)];omega
  rw[hroom,VU,iB,Aa3 m (by omega),e2,hl];generalize hT:min (j+1) (8-m %8)=T;have hT1:1<=T:=by omega
  have hT8:m %8+T<=8:=by omega
  have hg:Ap (room p 0 m) ((m/8:Nat):Int)=some (UInt8.ofNat (Cf p (0+8*(m/8)) (m %8))):=by
   rw[Bq (by rw[Pz];omega),qO]
  have z1:(GI.toZ ((m %8:Nat):Int)).toNat=m %8:=rfl;have z2:(GI.toZ ((T:Nat):Int)).toNat=T:=rfl;have hlt:=wU p (0+8*(m/8)) (m %8+T) (by omega);have hadd:=QJ p (m %8) T (0+8*(m/8));rw[show 0+8*(m/8)+m %8=m by omega]at hadd;have hbyte:(Af (Fe (Qy p m (j+1)) (Ao (Dt (1:UInt64) T) (1:UInt64))):UInt8)=UInt8.ofNat (Cf p m T):=by
   rw[ZQ,Biw _ (by omega),Amm p m (j+1) T (by omega) hj]
  have hnew:uJ (UInt8.ofNat (Cf p (0+8*(m/8)) (m %8))) (Dt (UInt8.ofNat (Cf p m T)) (m %8))=UInt8.ofNat (Cf p (0+8*(m/8)) (m %8+T)):=by
   rw[or8 (Qv _ _ _) (by rw[Ao6];omega) (by omega),hadd,Ao6 (2^(m %8))]
  rw[hg,z1,z2,hbyte];simp only[Aa];rw[Bl (by rw[Ea];simp),Aa,Bl (by rw[Ea];simp;omega),Aa,hnew,Wf _ (by rw[Pz];omega),Aa,xF p 0 m T hT1 hT8,iG,wT,Aa3 m (by omega),e2,hT,Bl (by rw[Ea];simp),Aa,z2,Ao2 p m (j+1) T (by omega) hj,Bu (by omega) (by omega),Ah (by omega) (by omega)];have ih:=Al3 p b0 a0 (j+1-T) (m+T) q (by omega) (by omega) (by omega);rw[show m+T+(j+1-T)=m+(j+1) by omega]at ih;rw[<-ih,show((j+1:Nat):Int)-((T:Nat):Int)=((j+1-T:Nat):Int) by omega,show(m:Int)+((T:Nat):Int)=((m+T:Nat):Int) by omega]
theorem put_eq(p:List UInt8)(m j:Nat)(hm:m+j<=300000)(hj:j<=63):YC (Rt p 0 m) (m:Int) (Qy p m j) (j:Int)=some (Rt p 0 (m+j),((m+j:Nat):Int),0):=by
 have hz:Bc (Ck (Qy p m j) (GI.toZ (j:Int)).toNat) 0=false:=by
  have:Ck (Qy p m j) j=0:=by
   apply UInt64.toNat_inj.1;rw[LM,AF p m j (by omega),Bhr (Qv p j m)];rfl
  rw[show(GI.toZ (j:Int)).toNat=j from rfl,this];rfl
 have hl:=Kt p 0 m;have htw:eP (Rt p 0 m) (m:Int)=some (Rt p 0 m,(m:Int)):=by
  rw[eP,Ca,Bi (by simp;omega),Aa,Aa];rfl
 rw[YC,nO,AT (vC p 0 m (by omega)),Aa,Aac (by decide),Aac (by simp[Ae,Aq];omega),Aau (by rw[Ae];simp;omega),Bl (by rw[Ea];simp),Aa,hz,Aac (by decide),Ah (by omega) (by omega),Aac (by rw[Aq];simp;omega),htw,Aa];exact Al3 p _ _ j m Ax hm (by omega) (by have:=As;omega)
theorem At.cat{p:List UInt8}{a:Nat}{c d:List Bool}(h:At p a (c++d)):At p a c/\At p (a+c.length) d:=⟨h.left,h.right⟩
theorem Ano(p:List UInt8):∀(q a:Nat),At p a (List.replicate q true)->Cf p a q+1=2^q
 |0,a,_=>by rw[Cf]
 |q+1,a,h=>by
  rw[Bgj]at h;obtain⟨h0,h1⟩:=h.cons;have:=Ano p q (a+1) h1;rw[Cf,h0,Awk,Aau rfl];omega
theorem zT{x:UInt64}{p:List UInt8}{m n:Nat}(hn:n<=63)(h:x.toNat=Cf p m n):x=Qy p m n:=by
 apply UInt64.toNat_inj.1;rw[h,AF p m n (by omega)]
theorem aV{n:Nat}(h:n<2^64):(UInt64.ofNat n).toNat=n:=by rw[Akr];exact Abl h
theorem Aid{p:List UInt8}{m q:Nat}(hq:q<=48)(hm:m+48<=300000)(h:At p m (List.replicate q true++(if q=48 then []else [false]))):
  bH (Rt p 0 m) (m:Int) (q:Int)=some (Rt p 0 (m+min (q+1) 48),((m+min (q+1) 48:Nat):Int),0):=by
 have h1:=h.left;have hv:=Ano p q m h1;have Bnd:2^q<=2^48:=Agq (by omega) hq;have hval:Cf p m (min (q+1) 48)+1=2^q:=by
  by_cases h48:q=48
  ·subst h48;exact hv
  ·rw[Aac h48]at h;have h2:=h.right;rw[Apd]at h2;have h0:=h2.cons.1;rw[show min (q+1) 48=q+1 by omega,qD,h0];simpa using hv
 have hx:(Ao (Dt (1:UInt64) q) (1:UInt64)).toNat=Cf p m (min (q+1) 48):=by
  have e1:(Dt (1:UInt64) q).toNat=2^q:=by rw[ZG];show 1*2^q %_=_;rw[Bex];exact Abl (by omega)
  have hpos:0<2^q:=Bjl (by omega);rw[xP,UInt64.toNat_sub_of_le _ _ (by rw[UInt64.le_iff_toNat_le,e1];exact hpos),e1]
  show 2^q-1=_;omega
 rw[bH,AT (vC p 0 m (by omega)),Aa,Aac (by decide),kB,Aac (by simp[Ae,Aq];omega),Aa];simp only;have e2:Fo (Ad (q:Int) 1) 48=((min (q+1) 48:Nat):Int):=by rw[OY,Ah (by omega) (by omega)];omega
 rw[Aac (by decide),Bl (by rw[Ea];simp),Aa,e2,show(GI.toZ (q:Int)).toNat=q from rfl,zT (by omega) hx,put_eq p m _ (by omega) (by omega),Aa]
theorem Ays{p:List UInt8}{m l:Nat}{v:UInt32}(hl:l<=24)(hm:m+81<=300000)(h:At p m (ZL l v.toNat)):
  jM (Rt p 0 m) (m:Int) v (l:Int)=some (Rt p 0 (m+(ZL l v.toNat).length),((m+(ZL l v.toNat).length:Nat):Int),0):=by
 have hvl:=v.toNat_lt;have hz:(GI.toZ (l:Int)).toNat=l:=rfl;have hlp:2^l<=2^24:=Agq (by omega) hl;have hpos:0<2^l:=Bjl (by omega);have Bk3:AY v (l:Int)=some (decide (48<=v.toNat/2^l)):=by
  rw[AY,Bl (by rw[Ea];simp),Aa,hz,As5,RG];rfl
 rw[jM,dN,AT (vC p 0 m (by omega)),Aa,Aac (by decide),Aac (by simp[Ae,Aq];omega),Bl (by rw[Ea];simp),Aa,Aa,Bk3,Aa];rw[ZL]at h⊢;by_cases h48:48<=v.toNat/2^l
 ·rw[Aau h48]at h⊢;obtain⟨h1,h2⟩:=h.cat;rw[Apd]at h2;have hval:=PF p 32 (m+48) v.toNat h2;rw[Abl (by omega)]at hval;have hu:=Aid (p:=p) (m:=m) (q:=48) (Am4 _) (by omega) (by rw[Aau rfl,Apl];exact h1);rw[Aau (by simpa using h48),PW,dS,show(48:Int)=((48:Nat):Int)from rfl,hu,Aa];simp only;rw[Aac (by decide),Dx,zT (x:=UInt64.ofNat v.toNat) (p:=p) (m:=m+48) (n:=32) (by omega) (by rw[aV (by omega),hval]),show(32:Int)=((32:Nat):Int)from rfl,show m+min (48+1) 48=m+48 by omega,put_eq p (m+48) 32 (by omega) (by omega),Aa,Aav,Apd,Ui,Awq]
 ·rw[Aac h48]at h⊢;generalize hq:v.toNat/2^l=q at*
  obtain⟨h1,h2⟩:=h.cat;rw[Apd]at h2;obtain⟨h3,h4⟩:=h2.cons;have hval:=PF p l (m+q+1) (v.toNat %2^l) h4;rw[Nat.mod_mod]at hval;have hqa:At p m (List.replicate q true++[false]):=by
   have:List.replicate q true++(false::kL (v.toNat %2^l) l)=(List.replicate q true++[false])++kL (v.toNat %2^l) l:=by simp
   rw[this]at h;exact h.left
  have hu:=Aid (p:=p) (m:=m) (q:=q) (by omega) (by omega) (by rw[Aac (by omega)];exact hqa);have hgq:(Af (Ck v l):Int)=(q:Int):=by rw[Afc,RG,hq]
  have hrest:(Af (Fe v (Ao (Dt (1:UInt32) l) 1)):UInt64)=Qy p (m+q+1) l:=by
   apply zT (by omega);have e1:(Dt (1:UInt32) l).toNat=2^l:=by rw[mJ];show 1*2^l %_=_;rw[Bex];exact Abl (by omega)
   have e2:(Ao (Dt (1:UInt32) l) (1:UInt32)).toNat=2^l-1:=by
    rw[Afd,UInt32.toNat_sub_of_le _ _ (by rw[UInt32.le_iff_toNat_le,e1];exact hpos),e1];rfl
   have e3:(Fe v (Ao (Dt (1:UInt32) l) 1)).toNat=v.toNat %2^l:=by
    rw[Aef,UInt32.toNat_and,e2,Bjs]
   rw[Dx,aV (by rw[e3];have:=Bhn v.toNat hpos;omega),e3,hval]
  rw[Aac (by simpa using h48),PW,dS,hz,hgq,hu,Aa];simp only;rw[Aac (by decide),hrest,show m+min (q+1) 48=m+q+1 by omega,put_eq p (m+q+1) l (by omega) (by omega),Aa,Aav,Apd,Alj,Ui,show m+q+1+l=m+(q+(l+1)) by omega]
theorem Axx{k l:Nat}{s t:UInt64}(h:okD k l s t)(v:UInt32):kA [] 0 (k:Int) (l:Int) s t v=
  some (Mr (Tm k l v),((Tm k l v).length:Int),((kS k (Ze s (n64 v)):Nat):Int),((lK l t k v:Nat):Int),Ze s (n64 v),lT t k v,0):=by
 obtain⟨h1,h2,h3,h4⟩:=h;have hvl:=v.toNat_lt;have hAt:At (Mr (Tm k l v)) 0 (Tm k l v):=λi hi=>by rw[Ay1,FV]
 have hlen:=gM v h1 h2;have hfull:Rt (Mr (Tm k l v)) 0 (Tm k l v).length=Mr (Tm k l v):=by
  apply Aly (by rw[Kt,Xc]);intro i hi;rw[wM,Ay1,FV];by_cases hlt:i<(Tm k l v).length
  ·rw[Aau hlt]
  ·rw[Aac hlt,Akw (by omega)]
 generalize hP:Mr (Tm k l v)=P at*
 have h0:Rt P 0 0=[]:=rfl;have Bjo:∀(x:Int) (y:UInt64) (aj ai:Int),DF v (k:Int) s ai P x y=some (P,ai,((kS k (Ze s (n64 v)):Nat):Int),x,Ze s (n64 v),y,0):=by
  intro x y aj ai;rw[DF,dH,Dx,fL,Asi k h1];rw[dL,dE,XV,HX,Dx,fL];rfl
 have hp7:∀ai:Int,PZ v (k:Int) (l:Int) s t 0 ai P=some (P,ai,((kS k (Ze s (n64 v)):Nat):Int),((lK l t k v:Nat):Int),Ze s (n64 v),lT t k v,0):=by
  intro ai;rw[PZ,cP,Aac (by decide),Adr k l s t h1,Aa];by_cases hv:v.toNat<2^k
  ·rw[Aau hv];simp only;rw[Aac (by rw[Ar];simp),Bjo _ _ 0,lK,Aau hv,lT,Aau hv]
  ·rw[Aac hv];simp only;rw[Aau (by rw[Ar];rfl),Dx,fL,Asi l h2 _ (λx=>DF v (k:Int) s ai P x (Ze t (UInt64.ofNat (kV k v).toNat))),Bjo _ _ 0,lK,Aac hv,lT,Aac hv];rfl
 rw[kA,cN,show Ki [] 0=some 0 from rfl,Aa,Aac (by decide),Axi ⟨h1,h2,h3,h4⟩,Aa,Aac (by decide),dK,dB,Adr k l s t h1,Aa];have hput:=put_eq P 0 1 (by omega) (by omega);rw[h0,Ay1,show((0:Nat):Int)=0 from rfl,show((1:Nat):Int)=1 from rfl]at hput;by_cases hv:v.toNat<2^k
 ·have hc:Tm k l v=false::kL v.toNat k:=by rw[Tm,Aau hv]
  rw[hc]at hAt hfull;obtain⟨b0,b1⟩:=hAt.cons;have hval:=PF P k 1 v.toNat b1;rw[Abl hv]at hval;have hz:(Af (0:Int):UInt64)=Qy P 0 1:=zT (by omega) (by rw[vY,b0];rfl);rw[Aau hv];simp only;rw[hz,hput,Aa];simp only;rw[Aau (by decide),Dx,zT (x:=UInt64.ofNat v.toNat) (p:=P) (m:=1) (n:=k) (by omega) (by rw[aV (by omega),hval]),show(1:Int)=((1:Nat):Int)from rfl,put_eq P 1 k (by omega) (by omega),Aa];simp only;rw[Alj,Ui,Bk0 k 1]at hfull;rw[hfull,hp7,hc,Alj,Ui,Bk0 k 1]
 ·have hc:Tm k l v=true::ZL l (v.toNat-2^k):=by rw[Tm,Aac hv]
  rw[hc]at hAt hfull;obtain⟨b0,b1⟩:=hAt.cons;have hsub:=Nat.sub_le v.toNat (2^k);have hlv:(kV k v).toNat=v.toNat-2^k:=by rw[kV,bW (by omega)]
  have hz:(Af (1:Int):UInt64)=Qy P 0 1:=zT (by omega) (by rw[vY,b0];rfl);have hr:=Ays (p:=P) (m:=1) (l:=l) (v:=kV k v) h2 (by omega) (by rw[hlv];exact b1);rw[hlv,show((1:Nat):Int)=1 from rfl]at hr;rw[Aac hv];simp only;rw[hz,hput,Aa];simp only;rw[Aac (by decide),Aau (by decide),hr,Aa];simp only;rw[Alj,Bk0 _ 1]at hfull;rw[hfull,hp7,hc,Alj,Bk0 _ 1]
section
variable (ch:Nat) (x:List Int32)
theorem aW{at' i:Nat}(ha:at' %ch=0)(hi:i<ch)(h:at'+i<x.length):(mx ch x).getD (at'+i) 0=mxV (λi=>x.getD (at'+i) 0) ch i:=by
 have hb:(at'+i) %ch=i:=by rw[Nat.add_mod,ha,Ay1,Nat.mod_mod,Abl hi]
 rw[Ayt h,hb,show at'+i-i=at' by omega]
theorem Amp(bk:Int->List Int32->Option (List Int32×Int))(at':Nat)(h1:1<=ch)(h6:ch<=6)(hm:at' %ch=0)(hl:at'+ch<=x.length)(hl2:x.length<=4000):∀(j i q:Nat),i+j=ch-1->j<q->
  GB bk (ch:Int) (at':Int) q (i:Int) (jY (λk=>decide (k<at'+i)) (mx ch x) x)=bk ((at'+ch:Nat):Int) (jY (λk=>decide (k<at'+ch)) (mx ch x) x)
 |j,i,0,_,h=>absurd h (Bfn _)
 |0,i,q+1,hi,_=>by
  have hlen:=aP ch x;have e1:Ao (Ad (at':Int) (ch:Int)-(at':Int)) 1=((ch-1:Nat):Int):=by rw[Ah (by omega) (by omega),Bu (by omega) (by omega)];omega
  have e2:Ad (at':Int) (ch:Int)-(at':Int)=(ch:Int):=by rw[Ah (by omega) (by omega)];omega
  have e4:Ad (at':Int) (ch:Int)=((at'+ch:Nat):Int):=by rw[Ah (by omega) (by omega)];omega
  rw[GB,cA,e1,Aac (by rw[Ae];simp;omega),oD,pX,e1,e2];obtain rfl:i=ch-1:=by omega
  by_cases h2:1<ch
  ·have e3:Ao ((ch-1:Nat):Int) 1=((ch-2:Nat):Int):=by rw[Bu (by omega) (by omega)];omega
   have hv:Ao (x.getD (at'+(ch-1)) 0) (Bw ((mx ch x).getD (at'+(ch-2)) 0) 2)=(mx ch x).getD (at'+(ch-1)) 0:=by
    rw[aW ch x hm (by omega) (by omega),aW ch x hm (by omega) (by omega),mxV,mxV,Aau (by omega),Aac (by omega),Aau h2,XY,show ch-2+1=ch-1 by omega]
   rw[Aau (by rw[Aq];simp;omega),sF (by omega),Aa,e3,sF (by omega),Aa,
    show(at':Int)+((ch-1:Nat):Int)=((at'+(ch-1):Nat):Int) by omega,show(at':Int)+((ch-2:Nat):Int)=((at'+(ch-2):Nat):Int) by omega,
    DN (by omega),Aa,DN (by omega),Aa,Aa,Aac (by simp),Aau (by simp;omega),hv,iD (by omega),Aa,bJ,mY,e4]
   congr 1;apply Xb;intro k _;rw[Alf];simp;omega
  ·obtain rfl:ch=1:=by omega
   have hlast:x.getD at' 0=(mx 1 x).getD at' 0:=by
    have:=aW 1 x (i:=0) hm (by omega) (by omega);rw[Bhl]at this;rw[this,mxV,Aac (by omega),Aac (by omega)];rfl
   rw[Aac (by rw[Aq];simp),bJ,mY,e4];congr 1;apply Bee (by rw[PR,PR]);intro k g1 g2;rw[Vh,Vh];by_cases hk:k<at'
   ·rw[Aau (by simp;omega),Aau (by simp;omega)]
   ·by_cases hk2:k=at'
    ·subst hk2;rw[Aac (by simp),Aau (by simp)];exact hlast
    ·rw[Aac (by simp;omega),Aac (by simp;omega)]
 |j+1,i,q+1,hi,hq=>by
  have hlen:=aP ch x;have e1:Ao (Ad (at':Int) (ch:Int)-(at':Int)) 1=((ch-1:Nat):Int):=by rw[Ah (by omega) (by omega),Bu (by omega) (by omega)];omega
  have e2:Ad (at':Int) (ch:Int)-(at':Int)=(ch:Int):=by rw[Ah (by omega) (by omega)];omega
  have e3:Ad (i:Int) 1=((i+1:Nat):Int):=by rw[Ah (by omega) (by omega)];omega
  have hv:Ao (x.getD (at'+(i+1)) 0) (x.getD (at'+i) 0)=(mx ch x).getD (at'+i) 0:=by
   rw[aW ch x hm (by omega) (by omega),mxV,Aau (by omega),XY]
  rw[GB,cA,e1,Aau (by rw[Ae];simp;omega),e2,e3,sF (by omega),Aa,sF (by omega),Aa,
   show(at':Int)+((i+1:Nat):Int)=((at'+(i+1):Nat):Int) by omega,show(at':Int)+(i:Int)=((at'+i:Nat):Int) by omega,
   DN (by omega),Aa,DN (by omega),Aa,Aa,Aac (by simp),Aac (by simp),hv,iD (by omega),Aa]
  have ih:=Amp bk at' h1 h6 hm hl hl2 j (i+1) q (by omega) (by omega);rw[<-ih];congr 1;apply Xb;intro k _;rw[Alf];simp;omega
theorem Aa8(h1:1<=ch)(h6:ch<=6)(hm:x.length %ch=0)(hl2:x.length<=4000):∀(j at' q:Nat),at' %ch=0->at'<=x.length->x.length-at'<=j->j<q->
  GV (ch:Int) q (at':Int) (jY (λk=>decide (k<at')) (mx ch x) x)=some (mx ch x,0)
 |j,at',0,_,_,_,h=>absurd h (Bfn _)
 |j,at',q+1,ha,hle,hj,hq=>by
  have hlen:=aP ch x;have hl:Ac (jY (λk=>decide (k<at')) (mx ch x) x)=(x.length:Int):=by rw[Ac,PR,hlen]
  rw[GV,oU,hl];by_cases h:at'<x.length
  ·have hb:=wA ha hm h;obtain⟨j,rfl⟩:∃k,j=k+1:=⟨j-1,by omega⟩;have e4:Ad (at':Int) (ch:Int)=((at'+ch:Nat):Int):=by rw[Ah (by omega) (by omega)];omega
   have hi:=Amp ch x (GV (ch:Int) q) at' h1 h6 ha hb hl2 (ch-1) 0 Ax (by omega) (by have:=As;omega);have hrest:=Aa8 h1 h6 hm hl2 j (at'+ch) q (by rw[Blm,ha]) hb (by omega) (by omega);rw[Bhl]at hi;rw[Aau (by rw[Ae];simp;omega),show fN (x.length:Int) (at':Int) (Ad (at':Int) (ch:Int))=some () by rw[e4,fN,sF];omega,Aa];exact Bhp hi hrest
  ·rw[Aac (by rw[Ae];simp;omega),qV (λk hk=>by simp;omega)];rfl
theorem Aur(h1:1<=ch)(h6:ch<=6)(hm:x.length %ch=0)(hl2:x.length<=4000):Abv (ch:Int) x=some (mx ch x,0):=by
 have hlen:=aP ch x;have h:=Aa8 ch x h1 h6 hm hl2 x.length 0 Ax (by simp) (by omega) (by omega) (by have:=As;omega);rw[Abv,tF,Aos ch x h1 h6 hm hl2,Aa,Aac (by rw[Aj];simp),Di,Bi (by simp;omega),Aa,Aa,Apc,oP];rw[mT hlen.symm (λk _=>by simp)]at h;exact h
end
theorem Aws(a:Int32):qY a=some (oL a):=by
 have h:=CG a;have hc:(Af a:UInt32)=UInt32.ofNat (a.toInt %4294967296).toNat:=rfl;have hs:(Ck a (GI.toZ (31:UInt64)).toNat)=if 0<=a.toInt then(0:Int32)else -1:=by
  have e:Ck a 31=Int32.ofInt (a.toInt.fdiv (2^31)):=rfl;rw[show(GI.toZ (31:UInt64)).toNat=31 from rfl,e];by_cases h0:0<=a.toInt
  ·rw[Aau h0,show a.toInt.fdiv (2^31)=0 by rw[As3 _ (by decide)];omega];rfl
  ·rw[Aac h0,show a.toInt.fdiv (2^31)= -1 by rw[As3 _ (by decide)];omega];rfl
 rw[qY,hs,hc,oL];congr 1;have hsh:(Dt (UInt32.ofNat (a.toInt %4294967296).toNat) (GI.toZ (1:UInt64)).toNat).toNat=2*(a.toInt %4294967296).toNat %4294967296:=by
  rw[show(GI.toZ (1:UInt64)).toNat=1 from rfl,mJ,Ali,Abl (show(a.toInt %4294967296).toNat<2^32 by omega)];omega
 by_cases h0:0<=a.toInt
 ·rw[Aau h0,Aau h0,show(Af (0:Int32):UInt32)=0 from rfl];apply UInt32.toNat_inj.1;rw[show∀z:UInt32,AH z (0:UInt32)=z^^^0 from λz=>by rw[gE],Blv,hsh,Ali,Abl (show 2*a.toInt.toNat<2^32 by omega)]
  show _^^^0=_;rw[Nat.xor_zero];omega
 ·rw[Aac h0,Aac h0,show(Af (-1:Int32):UInt32)=4294967295 from rfl];apply UInt32.toNat_inj.1;rw[show∀z:UInt32,AH z (4294967295:UInt32)=z^^^4294967295 from λz=>by rw[gE],Blv,hsh,Ali,Abl (show 2*(-a.toInt-1).toNat+1<2^32 by omega)]
  show _^^^4294967295=_;have key:∀n:Nat,n<4294967296->n^^^4294967295=4294967295-n:=by
   intro n hn;have:=BitVec.toNat_not (x:=BitVec.ofNat 32 n);rw[<-BitVec.xor_allOnes,BitVec.toNat_xor,BitVec.toNat_ofNat,Abl (by omega)]at this;simpa using this
  rw[key _ (by omega)];omega
theorem Ayz{bits:Int}(h:Bk bits){t p:List Int32}(hF:OkF (sB bits) t p)(last x:Int32):
  Xf bits last (sB bits) t p x=some (Abp bits (last,t,p) x,bits,x,sB bits,lrn t p (Abp bits (last,t,p) x),(x-gs (shB bits) last)::p.take 15,0):=by
 rw[Xf,Ad5 h,Aa,Aac (by rw[Aj];simp),Bad h,Aa];simp only;rw[XY,bK,Alp hF,Aa];simp only;rw[Aac (by rw[Aj];simp),XY,ZH,Amz hF,Aa];simp only;rw[Asw (s:=sB bits) (t:=lrn t p _) (p:=p) ⟨hF.1,HT _ _ _,hF.2.2⟩,Aa,Aa];rfl
theorem Afr(bits:Int)(ch:Nat)(t x:List Int32):(Nd bits ch t x).length=x.length:=qU _ _ _ _ _
theorem Ay2{bits:Int}{ch:Nat}{t x:List Int32}{i:Nat}(h:i<x.length):(Nd bits ch t x).getD i 0=oL (Abp bits (cst bits ch t (Nd bits ch t x) (i %ch) i) ((mx ch x).getD i 0)):=by
 obtain⟨w,hw⟩:=Akp bits ch t (mx ch x) (x.length-(i+1)) (i+1);rw[show i+1+(x.length-(i+1))=x.length by omega,evl,Agd]at hw;have hli:=qU bits ch t (mx ch x) i;have hw':Nd bits ch t x=_:=hw;have hg:(Nd bits ch t x).getD i 0=oL (Abp bits (cst bits ch t (evl bits ch t (mx ch x) i) (i %ch) i) ((mx ch x).getD i 0)):=by
  rw[hw',List.getD_eq_getElem?_getD,List.getElem?_append_right (by omega),hli,Nat.sub_self];rfl
 have hc:cst bits ch t (Nd bits ch t x) (i %ch) i=cst bits ch t (evl bits ch t (mx ch x) i) (i %ch) i:=by rw[hw',Ata _ _ _ _ _ _ _ (by omega)]
 rw[hg,hc]
section
variable {bits:Int} {ch:Nat} {t x:List Int32} (hb:Bk bits) (ht:t.length=16) (h1:1<=ch) (h6:ch<=6) (hx1:1<=x.length) (hx4:x.length<=4000) (hm:x.length %ch=0)
include hb ht h1 h6 hx1 hx4 hm
omit ht in
theorem Bf3(hr:inR bits x):PT (ch:Int) bits x=some 0:=by
 rw[PT,Aqw hb h1 h6,Aa,Aac (by decide),aD hb x hx4,fP hb hx4 hr,Aa,Aac (by decide),Aac (by rw[Ar,Ac,Atu];omega),Bl (by rw[Aj];simp;omega),Aa,Ac,NP,hm,Aac (by decide)]
omit hm in
theorem Ag4:∀(j i q:Nat),i+j=x.length->j<q->
  Mn (mx ch x) (ch:Int) bits q (i:Int) (cts bits ch t (Nd bits ch t x) i) ((Nd bits ch t x).take i)=some (Nd bits ch t x,0)
 |j,i,0,_,h=>absurd h (Bfn _)
 |0,i,q+1,hi,_=>by
  have hl:=aP ch x;have hV:=Afr bits ch t x;rw[Mn,Vz,Aac (by rw[Ae,Ac];simp;omega),Ao5 (by omega)];rfl
 |j+1,i,q+1,hi,hq=>by
  have hl:=aP ch x;have hV:=Afr bits ch t x;have hc:i %ch<6:=Apb (Bhn _ (by omega)) h6;have hok:=Aks bits ch ht (Nd bits ch t x) (i %ch) i;have hs:=Aso (bits:=bits) (ch:=ch) (t:=t) (v:=Nd bits ch t x) (i:=i) hc rfl;have hg:=Ay2 (bits:=bits) (ch:=ch) (t:=t) (x:=x) (i:=i) (by omega);have ih:=Ag4 j (i+1) q (by omega) (by omega);have htk:(Nd bits ch t x).take i++[(Nd bits ch t x).getD i 0]=(Nd bits ch t x).take (i+1):=by
   have:(Nd bits ch t x).getD i 0=(Nd bits ch t x)[i]'(by omega):=by rw[List.getD_eq_getElem?_getD,List.getElem?_eq_getElem (by omega)];rfl
   rw[this,Md (by omega)]
  have hfw:=Ayz hb hok (cst bits ch t (Nd bits ch t x) (i %ch) i).1 ((mx ch x).getD i 0);rw[Mn,Vz,Aau (by rw[Ae,Ac];simp;omega),g32 (by omega),Aa,Aa,Bl (by rw[Aj];simp;omega),Aa,NP,Atk hc,Aa,Aa];refine Bhp (congrArg (λo=>Option.bind o _) hfw) ?_;rw[Aa];simp only;rw[Aac (by decide)];have hst:((bits,(mx ch x).getD i 0,(sB bits,lrn (cst bits ch t (Nd bits ch t x) (i %ch) i).2.1 (cst bits ch t (Nd bits ch t x) (i %ch) i).2.2 (Abp bits (cst bits ch t (Nd bits ch t x) (i %ch) i) ((mx ch x).getD i 0)),((mx ch x).getD i 0-gs (shB bits) (cst bits ch t (Nd bits ch t x) (i %ch) i).1)::(cst bits ch t (Nd bits ch t x) (i %ch) i).2.2.take 15,()),()):CL)=toC bits (Ahg bits (cst bits ch t (Nd bits ch t x) (i %ch) i) (XM ((Nd bits ch t x).getD i 0))):=by
   rw[hg,Baa,toC,Ahg,Aio];simp only;rw[Abp,bI]
  refine Bhp (congrArg (λo=>Option.bind o _) ((congrArg (λz=>Oe (cts bits ch t (Nd bits ch t x) i) ((i %ch:Nat):Int) z) hst).trans hs)) ?_;rw[Aa,Aws,Aa];have hg2:oL (Abp bits ((cst bits ch t (Nd bits ch t x) (i %ch) i).1,(cst bits ch t (Nd bits ch t x) (i %ch) i).2.1,(cst bits ch t (Nd bits ch t x) (i %ch) i).2.2) ((mx ch x).getD i 0))=(Nd bits ch t x).getD i 0:=hg.symm;rw[hg2,Bi (by rw[Ag1];simp;omega),Aa,htk,Ah (by omega) (by omega)];exact ih
theorem Apq(hr:inR bits x):HY (ch:Int) bits t x=some (Nd bits ch t x,0):=by
 have hl:=aP ch x;have h:=Ag4 hb ht h1 h6 hx1 hx4 x.length 0 Ax (by omega) (by have:=As;omega);have e:Ax=(Ax-7)+1+1+1+1+1+1+1:=by have:=As;omega
 have hs:Yv (ch:Int) bits t (mx ch x) 0 (List.replicate 6 ((0:Int),(0:Int32),((0:Int),(List.replicate 16 (0:Int32)),(List.replicate 16 (0:Int32)),()),()))=JV (ch:Int) bits (mx ch x) (cts bits ch t (Nd bits ch t x) 0):=by
  rw[Yv,e];obtain rfl|rfl|rfl:=hb<;>rfl
 rw[HY,HL,Bf3 hb h1 h6 hx1 hx4 hm hr,Aa,Aac (by decide),Aur ch x h1 h6 hm hx4,Aa];simp only;rw[Aac (by decide)];refine Bhp hs ?_;exact h
end
theorem Apx(ch:Nat):HS=some (sts ch []):=by
 have e:Ax=(Ax-7)+1+1+1+1+1+1+1:=by have:=As;omega
 rw[HS,JE,JQ,e];rfl
theorem Anv(c:List Bool){n:Nat}(h:n<=c.length):Rt (Mr c) 0 n=Mr (c.take n):=by
 have hl:(c.take n).length=n:=by rw[Ag1];omega
 apply Aly (by rw[Kt,Xc,hl]);intro i hi;rw[wM,Ay1,FV,FV];by_cases hlt:i<n
 ·rw[Aau hlt,tb,tb,List.getD_eq_getElem?_getD,List.getD_eq_getElem?_getD,List.getElem?_take,Aau hlt]
 ·rw[Aac hlt,Akw (by omega)]
theorem Bg3(a:UInt8){k:Nat}(hk:k<8):Fe (Ck a k) (1:UInt8)=UInt8.ofNat (a.toNat/2^k %2):=by
 apply UInt8.toNat_inj.1;rw[Asp,UInt8.toNat_and,Ajm,Aol]
 show _&&&1=_;rw[Nat.and_one_is_mod];generalize a.toNat/2^k=X;omega
theorem Ana(E code:List Bool)(hE:E.length+code.length<=330000)(bk:Int->List (Int×Int×UInt64×UInt64×Unit)->Int->List UInt8->Bz)(V:List UInt32)(b f g:Int)(k:List (Int×Int×UInt64×UInt64×Unit)):∀(j o q:Nat),o+j=code.length->j<q->
  Hb bk V b f (code.length:Int) g k (Mr code) q (o:Int) ((E.length+o:Nat):Int) (Rt (Mr (E++code)) 0 (E.length+o))=bk (Ad g 1) k ((E.length+code.length:Nat):Int) (Mr (E++code))
 |j,o,0,_,h=>absurd h (Bfn _)
 |0,o,q+1,ho,_=>by
  obtain rfl:o=code.length:=by omega
  rw[Hb,Wn,Aac (by rw[Ae];simp),EO,aL,Anv _ (by rw[Aav];omega),Ao5 (by rw[Aav];omega)]
 |j+1,o,q+1,ho,hq=>by
  generalize hP:Mr (E++code)=P;have hPo:Ho P (E.length+o)=Ho (Mr code) o:=by rw[<-hP,FV,FV,Aj0]
  have ih:=Ana E code hE bk V b f g k j (o+1) q (by omega) (by omega);rw[hP,<-Awq]at ih;generalize hn:E.length+o=n at*
  have hq8:Bw (n:Int) 8=((n/8:Nat):Int):=by rw[show(8:Int)=((8:Nat):Int)from rfl,TY (by omega)]
  have hr8:Gw (n:Int) 8=((n %8:Nat):Int):=by rw[show(8:Int)=((8:Nat):Int)from rfl,NP]
  have hqo:Bw (o:Int) 8=((o/8:Nat):Int):=by rw[show(8:Int)=((8:Nat):Int)from rfl,TY (by omega)]
  have hro:Gw (o:Int) 8=((o %8:Nat):Int):=by rw[show(8:Int)=((8:Nat):Int)from rfl,NP]
  have hroom:Hb bk V b f (code.length:Int) g k (Mr code) (q+1) (o:Int) (n:Int) (Rt P 0 n)=Wa (Hb bk V b f (code.length:Int) g k (Mr code) q) (code.length:Int) V g b f k (Mr code) (o:Int) (n:Int) (room P 0 n):=by
   rw[Hb,Wn,Aau (by rw[Ae];simp;omega),hr8,room];by_cases h0:n %8=0
   ·rw[Aau (by rw[Ar,h0];rfl),Bi (by rw[Kt];simp;omega),Aa,Aau h0]
   ·rw[Aac (by rw[Ar];simp;omega),Aac h0]
  have hcl:=Xc code;have hgm:Ap (Mr code) ((o/8:Nat):Int)=some ((Mr code).getD (o/8) 0):=by
   rw[Bq (by omega),List.getD_eq_getElem?_getD,List.getElem?_eq_getElem (by omega)];rfl
  have hg:Ap (room P 0 n) ((n/8:Nat):Int)=some (UInt8.ofNat (Cf P (0+8*(n/8)) (n %8))):=by
   rw[Bq (by rw[Pz];omega),qO]
  have hbit:Fe (Ck ((Mr code).getD (o/8) 0) (o %8)) (1:UInt8)=UInt8.ofNat (Ho P n):=by
   rw[Bg3 _ (by omega),hPo,Ho]
  have hlt:=wU P (0+8*(n/8)) (n %8+1) (by omega);have hsn:=qD P (0+8*(n/8)) (n %8);rw[show 0+8*(n/8)+n %8=n by omega]at hsn;have hnew:uJ (UInt8.ofNat (Cf P (0+8*(n/8)) (n %8))) (Dt (UInt8.ofNat (Ho P n)) (n %8))=UInt8.ofNat (Cf P (0+8*(n/8)) (n %8+1)):=by
   rw[or8 (Qv _ _ _) (by rw[Ao6];omega) (by omega),hsn,Ao6 (2^(n %8))]
  rw[hroom,Wa,ES,hqo,hro,hq8,hr8,hgm,Aa,Aa,Bl (by rw[Ea];simp;omega),Aa,hg,Aa,Bl (by rw[Ea];simp;omega),Aa,Aa,Aa,
   show(GI.toZ ((o %8:Nat):Int)).toNat=o %8 from rfl,show(GI.toZ ((n %8:Nat):Int)).toNat=n %8 from rfl,hbit,hnew,Wf _ (by rw[Pz];omega),Aa,xF P 0 n 1 (by omega) (by omega),EH,XQ,Ah (by omega) (by omega),Ah (by omega) (by omega)]
  exact ih
theorem Bka(l m:List UInt8)(h:l.length+m.length<=1000000):Fj [l,m]=some (l++m):=by
 have hF:Ax=(Ax-3)+1+1+1:=by have:=As;omega
 rw[Fj,Qm,Qd];have g0:Ap [l,m] (0:Int)=some l:=rfl;have g1:Ap [l,m] (1:Int)=some m:=rfl;have l2:Ac [l,m]=2:=rfl;have h3:Ew [l,m] []=some (l++m):=by
  rw[Ew,Jo,Jn,hF,Cs,Dv,l2,Aau (by decide),g0,Aa,Bi (by simp;omega),Aa,Apc,show Ad (0:Int) 1=1 by decide,
   Cs,Dv,l2,Aau (by decide),g1,Aa,Bi (by omega),Aa,show Ad (1:Int) 1=2 by decide,Cs,Dv,l2,Aac (by decide)]
  rfl
 rw[hF,Cw,Eb,l2,Aau (by decide),g0,Aa,Ah (by unfold Ac;omega) (by unfold Ac;omega),Aac (by rw[Ae,Ac];simp),show Ad (0:Int) 1=1 by decide,
  Cw,Eb,l2,Aau (by decide),g1,Aa,Ah (by unfold Ac;omega) (by unfold Ac;omega),Aac (by rw[Ae,Ac,Ac];simp;omega),show Ad (1:Int) 1=2 by decide,
  Cw,Eb,l2,Aac (by decide),Ey,Jq,Aac (by rw[Ae,Ac,Ac];simp;omega),Jp,Jr]
 have z:Ao (0:Int) 0=0:=by decide
 have n0:(0:Int)+Ac l+Ac m=((l.length+m.length:Nat):Int):=by simp[Ac]
 rw[z,n0,Bu (by omega) (by omega),Int.sub_zero];by_cases hp:0<l.length+m.length
 ·rw[Aau (by rw[Aq];simp;omega),show fN (0:Int) 0 0=some ()from rfl,Aa,rZ (by omega) (by omega),Aa,Bi (by simp;omega),Aa];rw[show fN (Ac ([]++List.replicate ((l.length+m.length:Nat):Int).toNat (0:UInt8))) 0 0=some () by rw[fN,Bl];simp[Ac];omega,Aa];simp only[XT,Int.sub_self,Blz,Bgs];exact h3
 ·rw[Aac (by rw[Aq];simp;omega)];exact h3
theorem An6(bits:Int)(ch:Nat)(h1:1<=ch)(h6:ch<=6)(V:List UInt32)(hV:V.length<=4000):∀(j i q:Nat),i+j=V.length->j<q->
  Jc V (ch:Int) bits q (i:Int) (sts ch (V.take i)) ((Ta ch V i).length:Int) (Mr (Ta ch V i))=some (Mr (Ta ch V V.length)++Ry (En (Mr (Ta ch V V.length))).toNat 4,0)
 |j,i,0,_,h=>absurd h (Bfn _)
 |0,i,q+1,hi,_=>by
  obtain rfl:i=V.length:=by omega
  have hel:=eG ch V V.length;have hpl:=Xc (Ta ch V V.length);have hlt:=(En (Mr (Ta ch V V.length))).toNat_lt;rw[Jc,Vu,Aac (by rw[Ae,Ac];simp),EI,ZK,xV _ (by omega),Aa];simp only;have e64:(UInt64.ofNat (En (Mr (Ta ch V V.length))).toNat).toNat=(En (Mr (Ta ch V V.length))).toNat:=aV (by omega);rw[Aac (by decide),Dx,show(4:Int)=((4:Nat):Int)from rfl,XP _ 4 (by omega) (by omega) (by rw[e64];omega),Aa];simp only;rw[Aac (by decide),e64,Bka _ _ (by rw[Ce];omega),Aa]
 |j+1,i,q+1,hi,hq=>by
  have hc:i %ch<6:=Apb (Bhn _ (by omega)) h6;have hvl:(V.take i).length=i:=by rw[Ag1];omega
  have hel:=eG ch V i;have hk:=Ajv ch (V.take i);have hcl:=gM (V.getD i 0) hk.1 hk.2;have ih:=An6 bits ch h1 h6 V hV j (i+1) q (by omega) (by omega);have hvi:V.getD i 0=V[i]'(by omega):=by rw[List.getD_eq_getElem?_getD,List.getElem?_eq_getElem (by omega)];rfl
  have htk:V.take i++[V.getD i 0]=V.take (i+1):=by rw[hvi,Md (by omega)]
  have hst:=Akg (ch:=ch) (v:=V.take i) hc;have hset:=Atm (ch:=ch) (v:=V.take i) (V.getD i 0) hc (by rw[hvl]);have Bk4:lL ch (V.take i) (i %ch) (V.take i).length=now ch (V.take i):=Bd0 (by rw[hvl]);rw[Bk4]at hst hset;rw[htk]at hset;have hdp:=Axx (k:=(now ch (V.take i)).1) (l:=(now ch (V.take i)).2.1) (s:=(now ch (V.take i)).2.2.1) (t:=(now ch (V.take i)).2.2.2) (oC ch (V.take i) _ _) (V.getD i 0);have hpc:=Ana (Ta ch V i) (Tm (now ch (V.take i)).1 (now ch (V.take i)).2.1 (V.getD i 0)) (by omega) (Jc V (ch:Int) bits q) V (ch:Int) bits (i:Int) (sts ch (V.take (i+1))) (Tm (now ch (V.take i)).1 (now ch (V.take i)).2.1 (V.getD i 0)).length 0 Ax (by omega) (by have:=As;omega);rw[show(Ta ch V i).length+0=(Ta ch V i).length from rfl,Anv _ (by rw[Aav];omega),List.take_left,show((0:Nat):Int)=0 from rfl]at hpc;rw[Jc,Vu,Aau (by rw[Ae,Ac];simp;omega),wZ (by omega),Aa,Aa,Bl (by rw[Aj];simp;omega),Aa,NP,hst,Aa,Aa];refine Bhp (congrArg (λo=>Option.bind o _) hdp) ?_;rw[Aa];simp only;rw[Aac (by decide),Aa,Aa];refine Bhp (congrArg (λo=>Option.bind o _) hset) ?_;rw[Aa];refine Bhp hpc ?_;rw[Ah (by omega) (by omega)];rw[Ta,Aav]at ih;exact ih
theorem vH{bits:Int}{ch:Nat}{t x:List Int32}(hb:Bk bits)(ht:t.length=16)(h1:1<=ch)(h6:ch<=6)(hx1:1<=x.length)(hx4:x.length<=4000)(hm:x.length %ch=0)(hr:inR bits x):
  AK (ch:Int) bits t x=some (Rm bits ch t x,0):=by
 have hV:=Afr bits ch t x;have h:=An6 bits ch h1 h6 (Nd bits ch t x) (by omega) (Nd bits ch t x).length 0 Ax (by omega) (by have:=As;omega);have e0:Mr (Ta ch (Nd bits ch t x) 0)=[]:=by simp[Ta,Mr]
 have e1:((Ta ch (Nd bits ch t x) 0).length:Int)=0:=rfl;rw[e0,e1,Bgs,hV,show((0:Nat):Int)=0 from rfl]at h;rw[AK,IU,Apq hb ht h1 h6 hx1 hx4 hm hr,Aa];simp only;rw[Aac (by decide),Apx ch,Aa,Rm,WA,FA];exact h
theorem Bgq{r:Nat}(h1:1<=r)(h:r<=1048576):Rz (r:Int)=some ((Ak r:Int),0):=by
 have hv:=Acf h;have e:Bj (r:Int) 256=Bj 256 (r:Int):=by rw[Fh (by omega) (by omega),Fh (by omega) (by omega)];omega
 rw[Rz,Aac (by simp[Ae,Aq];omega),e];have hq:0<=Bw (Bj 256 (r:Int)) 245:=by
  have e2:Bj 256 (r:Int)=((256*r:Nat):Int):=by rw[Fh (by omega) (by omega)];omega
  rw[e2,show(245:Int)=((245:Nat):Int)from rfl,TY (by omega)];omega
 rw[Akx]at hv;by_cases hz:Bw (Bj 256 (r:Int)) 245=0
 ·rw[Aau (by rw[Ar];simpa using hz)];rw[hz]at hv;have:(1:Int)=(Ak r:Int):=by omega
  rw[this]
 ·rw[Aac (by rw[Ar];simpa using hz)];have:Bw (Bj 256 (r:Int)) 245=(Ak r:Int):=by omega
  rw[this]
structure ClipOk (c w r n:Nat) (x:List Int32):Prop where
 ch:1<=c/\c<=6
 bits:Bk (w:Int)
 rate:1<=r/\r<=1048576
 cnt:1<=n/\n<=4000/c
 len:x.length=n*c
 fr:(n-1)/Ak r+1<=1000
 rng:inR (w:Int) x
theorem ClipOk.le{c w r n:Nat}{x:List Int32}(h:ClipOk c w r n x):n<=4000/\n*c<=4000/\1<=x.length/\x.length<=4000:=by
 have h1:=Adg c h.cnt.2;have h2:=Be7 4000 c;have h3:=Arh 4000 c;have h4:=Bl5 h.cnt.1 h.ch.1;have h5:=h.len;have:=h.cnt;omega
theorem ClipOk.w3{c w r n:Nat}{x:List Int32}(h:ClipOk c w r n x):w=8\/w=16\/w=24:=by
 have:=h.bits;unfold Bk at this;omega
theorem ClipOk.shape{c w r n:Nat}{x:List Int32}(h:ClipOk c w r n x)(f:Nat)(hf:f=1\/f=2):Fi f c w r n=true:=by
 have:=h.w3;have:=h.ch;have:=h.rate;have:=h.cnt;simp only[Fi,Abk];omega
theorem ClipOk.fit{c w r n:Nat}{x:List Int32}(h:ClipOk c w r n x):Wq c r n=true:=by
 have:=h.cnt;have:=h.fr;simp only[Wq,Abk];omega
theorem Bh7{bits:Int}(h:Bk bits){l:List Int32}(hl:l.length<=4000):Ay bits l=some 0\/Ay bits l=some 16:=by
 have hh:=PJ bits;have key:∀(j i q:Nat),i+j=l.length->j<q->Az l (hB bits) q (i:Int)=some 0\/Az l (hB bits) q (i:Int)=some 16:=by
  intro j
  induction j with
  |zero=>
   intro i q hi hq;obtain⟨q,rfl⟩:∃q',q=q'+1:=⟨q-1,by omega⟩;rw[Az,Cu,Aac (by rw[Ae,Ac];simp;omega)];exact .inl rfl
  |succ j ih=>
   intro i q hi hq;obtain⟨q,rfl⟩:∃q',q=q'+1:=⟨q-1,by omega⟩;have ih:=ih (i+1) q (by omega) (by omega);have hi1:Ad (i:Int) 1=((i+1:Nat):Int):=by rw[Ah (by omega) (by omega)];omega
   rw[Az,Cu,Aau (by rw[Ae,Ac];simp;omega),Bq (by omega),Aa,Aa,hi1];split
   ·exact .inr rfl
   ·split
    ·exact .inr rfl
    ·exact ih
 have hk:=key l.length 0 Ax (by omega) (by have:=As;omega);rw[Ay,Dn,ZZ h,Aa,Aac (by rw[Ar];simp;omega),Aac (by rw[Aq,Ac];simp;omega)];exact hk
theorem uU{bits:Int}(h:¬Bk bits):Kr bits=some 0/\Sc bits=some (0,0,2):=by
 unfold Bk at h;constructor
 ·rw[Kr,Aac (by rw[Ar,Atu];omega),Aac (by rw[Ar,Atu];omega),Aac (by rw[Ar,Atu];omega)]
 ·have e:(geq bits 24)=false:=by rw[Ar,Blu];omega
  rw[Sc,ZD,Aac (by rw[Ar,Atu];omega),Aac (by rw[Ar,Atu];omega),e,aA,oA,Aac (by decide)]
theorem yK{r:Nat}(h:r<=1048576):∀(j n q:Nat) (acc:List Int),n<=4000->n<=j->j<q->acc.length+n<=10000->
  Lc (Ak r:Int) q (n:Int) acc=some (if 1000<(acc++(if n=0 then []else Al (Ak r) n)).length then([],4)else(acc++(if n=0 then []else Al (Ak r) n),0))
 |j,n,0,acc,_,_,h,_=>absurd h (Bfn _)
 |j,n,q+1,acc,hn,hj,hq,ha=>by
  have hp:=Ex r;by_cases h0:n=0
  ·subst h0;rw[Aau rfl,Apl,Lc,To,Aac (by rw[Aq];simp),BW,UP,Aq,Ac];by_cases hk:1000<acc.length
   ·rw[Aau hk,Aau (by simp;omega)]
   ·rw[Aac hk,Aac (by simp;omega)]
  ·obtain⟨j,rfl⟩:∃j',j=j'+1:=⟨j-1,by omega⟩;rw[Lc,To,Aau (by rw[Aq];simp;omega),Bi (by simp;omega),Aa,OY];by_cases hs:n<=Ak r
   ·rw[show min (n:Int) (Ak r:Int)=(n:Int) by omega,Bu (by omega) (by omega),Int.sub_self];have ih:=yK h j 0 q (acc++[(n:Int)]) (by omega) (by omega) (by omega) (by simp;omega);rw[Aau rfl,Apl]at ih;rw[Aac h0,sQ hs (by omega)];exact ih
   ·rw[show min (n:Int) (Ak r:Int)=(Ak r:Int) by omega,Bu (by omega) (by omega),show(n:Int)-(Ak r:Int)=((n-Ak r:Nat):Int) by omega];have e:acc++Al (Ak r) n=(acc++[(Ak r:Int)])++Al (Ak r) (n-Ak r):=by rw[Aah hp (show Ak r<n by omega)];simp
    have ih:=yK h j (n-Ak r) q (acc++[(Ak r:Int)]) (by omega) (by omega) (by omega) (by simp;omega);rw[Aac (show ¬n-Ak r=0 by omega),<-e]at ih;rw[Aac h0];exact ih
theorem Ap4(C W R:Int)(x:List Int32)(hlen:x.length<4611686018427387904):(Dq C W R x=some 8/\Kl C W R x=some 8)\/
  (∃c w r n:Nat,C=(c:Int)/\W=(w:Int)/\R=(r:Int)/\ClipOk c w r n x/\Dq C W R x=some 0/\Kl C W R x=some 0):=by
 have Agp:∀e:Int,e≠0->Cx C W x=some e->Dq C W R x=some 8:=by
  intro e he h;rw[Dq,Iv,Aa];simp only;rw[h,Aa,Aau (by rw[Aj];simpa using he)]
 by_cases hC:C<1
 ·refine .inl ⟨Agp 2 (by decide) ?_,?_⟩
  ·rw[Cx,Dr,Aau (by simp[Ae,Aq];omega),Aa,Aau (by decide)]
  ·rw[Kl,Aau (by rw[Ae];simpa using hC)]
 obtain⟨c,rfl⟩:=Alh (show 0<=C by omega);have hc1:1<=c:=by omega
 have hq:Bw (Ac x) (c:Int)=((x.length/c:Nat):Int):=by rw[Ac,TY (by omega)]
 have hr0:Gw (Ac x) (c:Int)=((x.length %c:Nat):Int):=by rw[Ac,NP]
 have Aye:(∀m:Nat,x.length=m*c->PC (c:Int) W R x (m:Int)=some 8)->Kl (c:Int) W R x=some 8:=by
  intro h;rw[Kl,Aac (by rw[Ae];simpa using hC),Bl (by rw[Aj];simp;omega),Aa,hr0];by_cases hm:x.length %c=0
  ·have hx:x.length=x.length/c*c:=by have:=Bj5 x.length c;rw[hm,Ao6]at this;omega
   rw[hm,Aac (by decide),Aa,hq,h _ hx,Aa,Aau (by decide)]
  ·rw[Aau (by rw[Aj];simp;omega)]
 by_cases h6:6<c
 ·refine .inl ⟨Agp 2 (by decide) ?_,Aye λm hm=>?_⟩
  ·rw[Cx,Dr,Aau (by simp[Ae,Aq];omega),Aa,Aau (by decide)]
  ·rw[PC,YX,Aa];simp only;have:Gc (c:Int) W=some 2:=by
    rw[Gc];by_cases hb:Bk W
    ·rw[Afk hb,Aa];simp only;rw[Aau (by simp[Aj,Ae,Aq];omega)]
    ·rw[(uU hb).2,Aa];simp only;rw[Aau (by simp[Aj])]
   rw[this,Aa,Aau (by simp[Aj])]
 by_cases hb:Bk W
 rotate_left
 ·refine .inl ⟨Agp 2 (by decide) ?_,Aye λm hm=>?_⟩
  ·rw[Cx,Dr,Aac (by simp[Ae,Aq];omega),(uU hb).1,Aa,Aau (by decide),Aa,Aau (by decide)]
  ·rw[PC,YX,Aa];simp only;have:Gc (c:Int) W=some 2:=by
    rw[Gc,(uU hb).2,Aa];simp only;rw[Aau (by simp[Aj])]
   rw[this,Aa,Aau (by simp[Aj])]
 have hhB:=PJ W;have e20:Dr (c:Int) W=some 0:=by
  rw[Dr,Aac (by simp[Ae,Aq];omega),ZZ hb,Aa,Aac (by rw[Ar];simp;omega)]
 have hq4:=Abz hc1 (show c<=6 by omega);have ecf:=Aqw hb hc1 (show c<=6 by omega);have Atv:∀m:Nat,PC (c:Int) W R x (m:Int)=if m<1\/4000/c<m then some 8 else Option.bind (Jw R (m:Int)) λy=>if(Bc y.2 0)=true then some 8 else some 0:=by
  intro m;rw[PC,YX,Aa];simp only;rw[ecf,Aa];by_cases hm:m<1
  ·rw[Aau (by simp[Aj,Ae];omega),Aau (.inl hm)]
  ·rw[Aac (by simp[Aj,Ae];omega),Bl (by rw[Aj];simp;omega),Aa,hq4];by_cases hm2:4000/c<m
   ·rw[Aau (by rw[Aq,Abk,gt_iff_lt,Int.ofNat_lt];exact hm2),Aau (.inr hm2)]
   ·rw[Aac (by rw[Aq,Abk,gt_iff_lt,Int.ofNat_lt];exact hm2),Aac (by omega)]
 by_cases hx4:4000<x.length
 ·refine .inl ⟨Agp 4 (by decide) ?_,Aye λm hm=>?_⟩
  ·have:Ay W x=some 4:=by
    rw[Ay,Dn,ZZ hb,Aa,Aac (by rw[Ar];simp;omega),Aau (by rw[Aq,Ac];simp;omega)]
   rw[Cx,e20,Aa,Aac (by decide),this,Aa,Aau (by decide),Aa]
  ·rw[Atv,Aau];refine .inr ?_;rw[Nat.div_lt_iff_lt_mul (by omega)];omega
 have hx4:x.length<=4000:=by omega
 have hsame:=aD hb x hx4;rcases Bh7 hb hx4 with h18|h18
 rotate_left
 ·refine .inl ⟨Agp 16 (by decide) ?_,?_⟩
  ·rw[Cx,e20,Aa,Aac (by decide),h18,Aa,Aau (by decide),Aa]
  ·rw[Kl,Aac (by rw[Ae];simpa using hC),Bl (by rw[Aj];simp;omega),Aa,hr0];by_cases hm:x.length %c=0
   ·rw[hm,Aac (by decide),Aa,hq,Atv];split
    ·rw[Aa,Aau (by decide)]
    ·rename_i hh;by_cases hR:1<=R/\R<=1048576
     ·obtain⟨r,rfl⟩:=Alh (show 0<=R by omega);have hd:=Arh x.length c;rw[jB (by omega) (by omega) (by omega) (by omega),Aa];split
      ·rw[Aau (by decide),Aa,Aau (by decide)]
      ·rw[Aac (by simp[Aj]),Aa,Aac (by decide),hsame,h18,Aa,Aau (by decide)]
     ·rw[Jw,Ot,Aau (by simp[Ae,Aq];omega),Aa];simp only;rw[Aau (by decide),Aa];simp only;rw[Aau (by decide),Aa,Aau (by decide)]
   ·rw[Aau (by rw[Aj];simp;omega)]
 by_cases hx1:x.length<1
 ·refine .inl ⟨Agp 2 (by decide) ?_,Aye λm hm=>?_⟩
  ·rw[Cx,e20,Aa,Aac (by decide),h18,Aa,Aac (by decide),Aau (by rw[Ae,Ac];simp;omega)]
  ·have h0:m*c=0:=by omega
   have:m=0:=by rcases Nat.mul_eq_zero.1 h0 with h|h<;>omega
   rw[Atv,Aau (.inl (by omega))]
 have hA:x.length %c=0->Cx (c:Int) W x=some 0:=by
  intro hm;rw[Cx,e20,Aa,Aac (by decide),h18,Aa,Aac (by decide),Aac (by rw[Ae,Ac];simp;omega),Bl (by rw[Aj];simp;omega),Aa,hr0,hm,Aac (by decide)]
 by_cases hm:x.length %c=0
 rotate_left
 ·refine .inl ⟨Agp 2 (by decide) ?_,?_⟩
  ·rw[Cx,e20,Aa,Aac (by decide),h18,Aa,Aac (by decide),Aac (by rw[Ae,Ac];simp;omega),Bl (by rw[Aj];simp;omega),Aa,hr0,Aau (by rw[Aq];simp;omega)]
  ·rw[Kl,Aac (by rw[Ae];simpa using hC),Bl (by rw[Aj];simp;omega),Aa,hr0,Aau (by rw[Aj];simp;omega)]
 have hxn:x.length=x.length/c*c:=by have:=Bj5 x.length c;rw[hm,Ao6]at this;omega
 generalize hN:x.length/c=n at*
 have hn1:1<=n:=by
  by_cases h0:n=0
  ·rw[h0]at hxn;omega
  ·omega
 have hn4:n<=4000/c:=by rw[<-hN];exact Nat.div_le_div_right hx4
 have hn4':n<=4000:=Nat.le_trans hn4 (Arh _ _);have e21:Ec (c:Int) W (n:Int)=some 0:=by
  rw[Ec,e20,Aa,Aac (by simp[Aj,Ae];omega),Bl (by rw[Aj];simp;omega),Aa,hq4,Aac (by rw[Aq,Abk,gt_iff_lt,Int.ofNat_lt];omega)]
 have Ba6:∀z e:Int,Mj R (n:Int)=some (z,e)->Dq (c:Int) W R x=some (if e=0 then 0 else 8):=by
  intro z e hz;rw[Dq,Iv,Aa];simp only;rw[hA hm,Aa,Aac (by decide),Bl (by rw[Aj];simp;omega),Aa,hq,IJ,Iv,Aa];simp only;rw[e21,Aa,Aac (by decide),hz,Aa,Aa,Ar];by_cases he:e=0
  ·subst he;rfl
  ·rw[Aac he,Aau (by simpa using he)]
 have Ai9:Kl (c:Int) W R x=Option.bind (Option.bind (Jw R (n:Int)) λy=>if(Bc y.2 0)=true then some 8 else some 0) λg=>if(Bc g 0)=true then some g else some 0:=by
  rw[Kl,Aac (by rw[Ae];simpa using hC),Bl (by rw[Aj];simp;omega),Aa,hr0,hm,Aac (by decide),Aa,hq,Atv,Aac (by omega),hsame,h18];rfl
 by_cases hR:1<=R/\R<=1048576
 rotate_left
 ·refine .inl ⟨?_,?_⟩
  ·refine Ba6 0 2 ?_;rw[Mj,AV,Ua,Rz,Aau (by simp[Ae,Aq];omega),Aa];simp only;rw[Aau (by simp[Aj]),Aa];rfl
  ·rw[Ai9,Jw,Ot,Aau (by simp[Ae,Aq];omega),Aa];simp only;rw[Aau (by decide),Aa];simp only;rw[Aau (by decide),Aa,Aau (by decide)]
 obtain⟨r,rfl⟩:=Alh (show 0<=R by omega);have hl:=yK (r:=r) (by omega) n n Ax [] hn4' (Am4 _) (by have:=As;omega) (by simp;omega);rw[Aac (show ¬n=0 by omega),Apc,SW]at hl;have hcount:∃z:Int,Mj (r:Int) (n:Int)=some (z,if 1000<(n-1)/Ak r+1 then 4 else 0):=by
  rw[Mj,AV,Ua,Bgq (by omega) (by omega),Aa];simp only;rw[Aac (by simp[Aj,Ae,Aq];omega),CJ,hl,Aa];split<;>exact⟨_,rfl⟩
 obtain⟨z,hz⟩:=hcount;have h24:=Ba6 z _ hz;rw[jB (by omega) (by omega) hn1 hn4',Aa]at Ai9;by_cases hk:1000<(n-1)/Ak r+1
 ·rw[Aau hk]at h24 Ai9;exact .inl ⟨h24,Ai9⟩
 ·rw[Aac hk]at h24 Ai9;have hw:∃w:Nat,W=(w:Int):=by
   rcases hb with rfl|rfl|rfl
   ·exact⟨8,rfl⟩
   ·exact⟨16,rfl⟩
   ·exact⟨24,rfl⟩
  obtain⟨w,rfl⟩:=hw;exact .inr ⟨c,w,r,n,rfl,rfl,rfl,⟨⟨hc1,by omega⟩,hb,by omega,⟨hn1,hn4⟩,hxn,by omega,eX hb hx4 h18⟩,h24,Ai9⟩
theorem Auy(C W R:Int){x:List Int32}(h:4000<x.length):Dq C W R x=some 8:=by
 have key:∃e:Int,e≠0/\Cx C W x=some e:=by
  rw[Cx,Dr];by_cases h1:((Cv C 1)||(Eh C 6))=true
  ·rw[Aau h1,Aa,Aau (by decide)];exact⟨2,by decide,rfl⟩
  ·rw[Aac h1];by_cases hb:Bk W
   ·have hh:=PJ W;have h18:Ay W x=some 4:=by
     rw[Ay,Dn,ZZ hb,Aa,Aac (by rw[Ar];simp;omega),Aau (by rw[Aq,Ac];simp;omega)]
    rw[ZZ hb,Aa,Aac (by rw[Ar];simp;omega),Aa,Aac (by decide),h18,Aa,Aau (by decide),Aa];exact⟨4,by decide,rfl⟩
   ·rw[(uU hb).1,Aa,Aau (by decide),Aa,Aau (by decide)];exact⟨2,by decide,rfl⟩
 obtain⟨e,he,h1⟩:=key;rw[Dq,Iv,Aa];simp only;rw[h1,Aa,Aau (by rw[Aj];simpa using he)]
theorem Ann(C W R:Int)(x:List Int32):(Dq C W R x=some 8/\ (x.length<4611686018427387904->Kl C W R x=some 8))\/
  (∃c w r n:Nat,C=(c:Int)/\W=(w:Int)/\R=(r:Int)/\ClipOk c w r n x/\Dq C W R x=some 0/\Kl C W R x=some 0):=by
 by_cases hx:x.length<4611686018427387904
 ·rcases Ap4 C W R x hx with⟨h1,h2⟩|h
  ·exact .inl ⟨h1,λ_=>h2⟩
  ·exact .inr h
 ·exact .inl ⟨Auy C W R (by omega),λh=>absurd h hx⟩
def yB(f c w r n:Nat):List UInt8:=Ph++Ry f 2++Ry c 2++Ry w 2++Ry r 4++Ry n 4
def AD(f c w r n:Nat):List UInt8:=yB f c w r n++Ry (En (yB f c w r n)).toNat 4
theorem eY(f c w r n:Nat):(yB f c w r n).length=18:=by simp only[yB,Ph,Aav,Ce];rfl
theorem HI(f c w r n:Nat):(AD f c w r n).length=22:=by rw[AD,Aav,eY,Ce]
theorem Af4(b f g h k:Int)(m v w q:Nat)(a:List UInt8)(hm:m<5)(hv:Ap ([b,f,g,h,k]:List Int) (m:Int)=some (v:Int))(hw:Ap ([2,2,2,4,4]:List Int) (m:Int)=some (w:Int))(h1:1<=w)(h8:w<=8)(hlt:v<256^w)(h64:v<18446744073709551616)(ha:a.length<=100):
  Nv b f g h k (q+1) (m:Int) a=Nv b f g h k q ((m+1:Nat):Int) (a++Ry v w):=by
 have e64:(UInt64.ofNat v).toNat=v:=aV (by omega);have hi1:Ad (m:Int) 1=((m+1:Nat):Int):=by rw[Ah (by omega) (by omega)];omega
 rw[Nv,DR,Aau (by rw[Ae];simp;omega),hv,Aa,hw,Aa,Xg,XP _ w h1 h8 (by rw[e64];exact hlt),Aa];simp only;rw[Bi (by rw[Ce];omega),Aa,hi1,e64]
theorem Akv{f c w r n:Nat}(h1:Fi f c w r n=true)(h2:Wq c r n=true):WI (f:Int) (c:Int) (w:Int) (r:Int) (n:Int)=some (AD f c w r n,0):=by
 have hs:(f=1\/f=2)/\ (1<=c/\c<=6)/\ (w=8\/w=16\/w=24)/\ (1<=r/\r<=1048576)/\1<=n:=by simpa only[Fi,Abk]using h1
 have hn:n<=4000:=by
  simp only[Wq,Abk]at h2;have:=Arh 4000 c;omega
 have hck:Pd (f:Int) (c:Int) (w:Int) (r:Int) (n:Int)=some 0:=by
  rw[Pd,aY,Aa,h1,Aac (by decide),qP h1,Aa,h2,Aac (by decide)]
 have hF:Ax=(Ax-6)+1+1+1+1+1+1:=by have:=As;omega
 have hlt:=(En (yB f c w r n)).toNat_lt;have e64:(UInt64.ofNat (En (yB f c w r n)).toNat).toNat=(En (yB f c w r n)).toNat:=aV (by omega);have hfin:EE (yB f c w r n)=some (AD f c w r n,0):=by
  rw[EE,kW,xV _ (by rw[eY];omega),Aa];simp only;rw[Dx,show(4:Int)=((4:Nat):Int)from rfl,XP _ 4 (by omega) (by omega) (by rw[e64];omega),Aa];simp only;rw[Bi (by rw[eY,Ce];omega),Aa,e64];rfl
 rw[WI,TX,hck,Aa,Aac (by decide),UA,hF];have s0:=Af4 (f:Int) (c:Int) (w:Int) (r:Int) (n:Int) 0 f 2 ((Ax-6)+1+1+1+1+1) Ph (by omega) rfl rfl (by omega) (by omega) (by omega) (by omega) (by decide);have s1:=Af4 (f:Int) (c:Int) (w:Int) (r:Int) (n:Int) 1 c 2 ((Ax-6)+1+1+1+1) (Ph++Ry f 2) (by omega) rfl rfl (by omega) (by omega) (by omega) (by omega) (by simp[Ce,Ph]);have s2:=Af4 (f:Int) (c:Int) (w:Int) (r:Int) (n:Int) 2 w 2 ((Ax-6)+1+1+1) (Ph++Ry f 2++Ry c 2) (by omega) rfl rfl (by omega) (by omega) (by omega) (by omega) (by simp[Ce,Ph]);have s3:=Af4 (f:Int) (c:Int) (w:Int) (r:Int) (n:Int) 3 r 4 ((Ax-6)+1+1) (Ph++Ry f 2++Ry c 2++Ry w 2) (by omega) rfl rfl (by omega) (by omega) (by omega) (by omega) (by simp[Ce,Ph]);have s4:=Af4 (f:Int) (c:Int) (w:Int) (r:Int) (n:Int) 4 n 4 ((Ax-6)+1) (Ph++Ry f 2++Ry c 2++Ry w 2++Ry r 4) (by omega) rfl rfl (by omega) (by omega) (by omega) (by omega) (by simp[Ce,Ph]);refine s0.trans (s1.trans (s2.trans (s3.trans (s4.trans ?_))));rw[Nv,DR,Aac (by decide)];exact hfin
def aS(l:List Int):List UInt8:=l.flatMap λx=>Ry x.toNat 4
def kG(l:List Int):List UInt8:=aS l++Ry (En (aS l)).toNat 4
theorem RY(l:List Int):(aS l).length=4*l.length:=by
 induction l with
 |nil=>rfl
 |cons x l ih=>rw[aS,List.flatMap_cons,Aav,Ce,show(l.flatMap λx=>Ry x.toNat 4)=aS l from rfl,ih,Alj];omega
theorem nM(l:List Int):(kG l).length=4*l.length+4:=by rw[kG,Aav,RY,Ce]
theorem Ava(l:List Int)(x:Int):aS (l++[x])=aS l++Ry x.toNat 4:=by simp[aS]
theorem Aaq(l:List Int)(hl:l.length<=1000)(h5:∀x∈l,5<=x/\x<=100000):∀(j i q:Nat),i+j=l.length->j<q->Uo l q (i:Int) (aS (l.take i))=some (kG l,0)
 |j,i,0,_,h=>absurd h (Bfn _)
 |0,i,q+1,hi,_=>by
  have hlt:=(En (aS l)).toNat_lt;have e64:(UInt64.ofNat (En (aS l)).toNat).toNat=(En (aS l)).toNat:=aV (by omega);rw[Uo,IC,Aac (by rw[Ae,Ac];simp;omega),Ao5 (by omega),TK,TS,xV _ (by rw[RY];omega),Aa];simp only;rw[Dx,show(4:Int)=((4:Nat):Int)from rfl,XP _ 4 (by omega) (by omega) (by rw[e64];omega),Aa];simp only;rw[Bi (by rw[RY,Ce];omega),Aa,e64];rfl
 |j+1,i,q+1,hi,hq=>by
  have ih:=Aaq l hl h5 j (i+1) q (by omega) (by omega);obtain⟨x5,x6⟩:=h5 l[i] (Ami _);obtain⟨v,hv⟩:=Alh (show 0<=l[i] by omega);have e64:(UInt64.ofNat v).toNat=v:=aV (by omega);have hi1:Ad (i:Int) 1=((i+1:Nat):Int):=by rw[Ah (by omega) (by omega)];omega
  rw[Uo,IC,Aau (by rw[Ae,Ac];simp;omega),Bq (by omega),Aa,hv,Xg,show(4:Int)=((4:Nat):Int)from rfl,XP _ 4 (by omega) (by omega) (by rw[e64];omega),Aa];simp only;rw[Bi (by rw[RY,Ce,Ag1];omega),Aa,TD,lE,hi1,e64];rw[Md (by omega),Ava,hv,Agr]at ih;exact ih
theorem Ans(l:List Int):RD l=some (if Vb l=true then(kG l,0)else([],8)):=by
 rw[RD,ZM,ZP,Aa];by_cases h:Vb l=true
 ·rw[Aau h,Aau h,Aac (by decide)];simp only[Vb,Abt,Abk]at h;obtain⟨⟨h1,h2⟩,h3⟩:=h;have h4:=(DO l 100000 (by omega)).1 h3;have h6:=yP h4.1;have hl:=Aaq l h2 (λx hx=>⟨h4.1 x hx,by have:=h6 x hx;omega⟩) l.length 0 Ax (by omega) (by have:=As;omega);exact hl
 ·rw[Aac h,Aac h,Aau (by decide)]
def Ip(c:Nat):List Int32->List Int->List (List Int32)
 |_,[]=>[]
 |x,m::l=>x.take (m.toNat*c)::Ip c (x.drop (m.toNat*c)) l
theorem YY(c:Nat):∀(l:List Int) (x:List Int32),(Ip c x l).length=l.length
 |[],x=>rfl
 |m::l,x=>by rw[Ip,Alj,Alj,YY c l]
theorem Abf(c:Nat):∀(l:List Int) (x:List Int32),(∀m∈l,0<=m)->x.length=l.sum.toNat*c-> (Ip c x l).flatten=x
 |[],x,_,h=>by
  have:x=[]:=Bdq (by simpa using h);rw[this];rfl
 |m::l,x,h0,h=>by
  have hm:=h0 m Awp;have hl:0<=l.sum:=by
   have:∀l:List Int,(∀m∈l,0<=m)->0<=l.sum:=by
    intro l
    induction l with
    |nil=>intro _;simp
    |cons a l ih=>intro h;have:=ih (λm hm=>h m (Aoh _ hm));have:=h a Awp;rw[Bdp];omega
   exact this l λm hm=>h0 m (Aoh _ hm)
  rw[Bdp,show(m+l.sum).toNat=m.toNat+l.sum.toNat by omega,Alg]at h;have ih:=Abf c l (x.drop (m.toNat*c)) (λm hm=>h0 m (Aoh _ hm)) (by rw[Ajb];omega);rw[Ip,Bjy,ih,Bf0]
theorem jP(c:Nat)(h1:1<=c):∀(l:List Int) (x:List Int32),(∀m∈l,1<=m)->x.length=l.sum.toNat*c->∀y∈Ip c x l,1<=y.length/\y.length<=x.length/\y.length %c=0/\∀v∈y,v∈x
 |[],x,_,_=>λy hy=>by simp[Ip]at hy
 |m::l,x,hm,hx=>by
  have hm1:=hm m Awp;have hl:0<=l.sum:=by
   have:∀l:List Int,(∀m∈l,1<=m)->0<=l.sum:=by
    intro l
    induction l with
    |nil=>intro _;simp
    |cons a l ih=>intro h;have:=ih (λm hm=>h m (Aoh _ hm));have:=h a Awp;rw[Bdp];omega
   exact this l λm hm'=>hm m (Aoh _ hm')
  rw[Bdp,show(m+l.sum).toNat=m.toNat+l.sum.toNat by omega,Alg]at hx;have hpos:1<=m.toNat*c:=Bl5 (by omega) h1;intro y hy;rw[Ip,List.mem_cons]at hy;rcases hy with rfl|hy
  ·have hlen:(x.take (m.toNat*c)).length=m.toNat*c:=by rw[Ag1];omega
   rw[hlen];exact⟨hpos,by omega,Bga _ _,λv hv=>Bli hv⟩
  ·obtain⟨a1,a2,a3,a4⟩:=jP c h1 l (x.drop (m.toNat*c)) (λm hm'=>hm m (Aoh _ hm')) (by rw[Ajb];omega) y hy;rw[Ajb]at a2;exact⟨a1,by omega,a3,λv hv=>Bjr (a4 v hv)⟩
theorem Aec(bits:Int)(ch:Nat)(t x:List Int32)(h0:1<=x.length)(h4:x.length<=4000):5<= (Rm bits ch t x).length/\ (Rm bits ch t x).length<=15*x.length:=by
 have h5:=xL bits ch t x h0 h4;have h:=eG ch (Nd bits ch t x) x.length;refine⟨h5.1,?_⟩;rw[Rm,Aav,Ce,WA,Xc];omega
def Dp(fs:List LB):List Int:=fs.map λf=>(f.length:Int)
theorem Pv(fs:List LB):(Dp fs).length=fs.length:=by rw[Dp,List.length_map]
theorem OX:∀fs:List LB,(Dp fs).sum=(fs.flatten.length:Int)
 |[]=>rfl
 |f::fs=>by rw[Dp,Bh3,Bdp,Bjy,Aav,show(fs.map λf=>(f.length:Int))=Dp fs from rfl,OX fs];omega
theorem Bav(bits:Int)(ch:Nat)(t:List Int32):∀ys:List (List Int32),(∀y∈ys,1<=y.length/\y.length<=4000)-> ((ys.map (Rm bits ch t)).flatten).length<=15*ys.flatten.length
 |[],_=>by simp
 |y::ys,h=>by
  have ih:=Bav bits ch t ys λy hy=>h y (Aoh _ hy);obtain⟨h1,h4⟩:=h y Awp;have:=(Aec bits ch t y h1 h4).2;rw[Bh3,Bjy,Bjy,Aav,Aav];omega
def Ln(p:LB):Nat:=if p=[]then 1 else 2
def GX(p:LB):LB:=if p=[]then []else Ry (Lg p).toNat 8
theorem Aeh(p:LB):Ln p=1\/Ln p=2:=by unfold Ln;split<;>simp
theorem aG(p:LB):(GX p).length=if Ln p=2 then 8 else 0:=by
 unfold GX Ln;by_cases h:p=[]
 ·rw[Aau h,Aau h];rfl
 ·rw[Aac h,Aac h,Ce];rfl
def gK(c r n:Nat)(x:List Int32):List (List Int32):=Ip c x (Al (Ak r) n)
def NL(c w r n:Nat)(x:List Int32)(p:LB):List LB:=(gK c r n x).map (Rm (w:Int) c (Js p))
def Qz(c w r n:Nat)(x:List Int32)(p:LB):LB:=AD (Ln p) c w r n++(GX p++(kG (Dp (NL c w r n x p))++(NL c w r n x p).flatten))
theorem RV{g n:Nat}(hg:1<=g)(h1:1<=n):∀m∈Al g n,1<=m:=by
 intro m hm;rw[Al,List.mem_append,List.mem_replicate,List.mem_singleton]at hm;have h:=Be7 (n-1) g;rcases hm with⟨_,rfl⟩|rfl
 ·omega
 ·omega
section
variable {c w r n:Nat} {x:List Int32} (h:ClipOk c w r n x)
include h
theorem ClipOk.sum:(Al (Ak r) n).sum=(n:Int):=oW h.cnt.1
omit h in
theorem Alr:(gK c r n x).length=(Al (Ak r) n).length:=YY _ _ _
theorem Ahj:(gK c r n x).flatten=x:=by
 refine Abf _ _ _ (λm hm=>?_) ?_
 ·have:=RV (Ex r) h.cnt.1 m hm;omega
 ·rw[h.sum,h.len,Agr]
theorem nS:∀y∈gK c r n x,1<=y.length/\y.length<=4000/\y.length %c=0/\inR (w:Int) y:=by
 intro y hy;obtain⟨a1,a2,a3,a4⟩:=jP c h.ch.1 _ _ (RV (Ex r) h.cnt.1) (by rw[h.sum,h.len,Agr]) y hy;have:=h.le;exact⟨a1,by omega,a3,λv hv=>h.rng v (a4 v hv)⟩
omit h in
theorem xS(p:LB):(NL c w r n x p).length=(Al (Ak r) n).length:=by rw[NL,List.length_map];exact YY _ _ _
theorem Awy(p:LB):1<= (NL c w r n x p).length/\ (NL c w r n x p).length<=1000:=by
 rw[xS,SW];exact⟨Nat.le_add_left _ _,h.fr⟩
theorem Anp(p:LB):((NL c w r n x p).flatten).length<=15*x.length:=by
 have:=Bav (w:Int) c (Js p) (gK c r n x) λy hy=>⟨(nS h y hy).1,(nS h y hy).2.1⟩;rw[Ahj h]at this;exact this
theorem Axm(p:LB):∀f∈NL c w r n x p,5<=f.length:=by
 intro f hf;rw[NL,List.mem_map]at hf;obtain⟨y,hy,rfl⟩:=hf;exact(Aec _ _ _ _ (nS h y hy).1 (nS h y hy).2.1).1
theorem Aoc(p:LB):Vb (Dp (NL c w r n x p))=true:=by
 have h1:=Awy h p;have h2:=Anp h p;have h3:=h.le;simp only[Vb,Abt,Abk];rw[DO _ _ (by omega),Pv,OX];refine⟨by omega,λz hz=>?_,by omega⟩;rw[Dp,List.mem_map]at hz;obtain⟨f,hf,rfl⟩:=hz;have:=Axm h p f hf;omega
omit h in
theorem Ahb(p:LB):(Qz c w r n x p).length=22+(if Ln p=2 then 8 else 0)+(4*(NL c w r n x p).length+4)+(NL c w r n x p).flatten.length:=by
 rw[Qz,Aav,Aav,Aav,HI,aG,nM,Pv];omega
theorem Ani(p:LB):(Qz c w r n x p).length<=34+4*(NL c w r n x p).length+15*x.length:=by
 have h1:=Ahb (c:=c) (w:=w) (r:=r) (n:=n) (x:=x) p;have h2:=Anp h p;split at h1<;>omega
theorem Ah0(p:LB):(Qz c w r n x p).length<=64034:=by
 have:=Ani h p;have:=Awy h p;have:=h.le;omega
omit h in
end
theorem KN{a m z:LB}{i k:Nat}(hi:a.length=i)(hk:m.length=k):part (a++(m++z)) i k=m:=by
 subst hi hk;rw[part,List.take_append,Ao5 (by omega),List.drop_left',Bhd,Be4 (Am4 _),Awj];rfl
theorem GD(f c w r n:Nat)(z:LB):AD f c w r n++z=Ph++(Ry f 2++(Ry c 2++(Ry w 2++(Ry r 4++(Ry n 4++(Ry (En (yB f c w r n)).toNat 4++z)))))):=by
 simp only[AD,yB,Agd]
theorem xX{f c w r n:Nat}(h1:Fi f c w r n=true)(h2:Wq c r n=true)(z:LB):Ej (AD f c w r n++z)=((f:Int),(c:Int),(w:Int),(r:Int),(n:Int),0):=by
 have hs:(f=1\/f=2)/\ (1<=c/\c<=6)/\ (w=8\/w=16\/w=24)/\ (1<=r/\r<=1048576)/\1<=n:=by simpa only[Fi,Abk]using h1
 have hn:n<=4000:=by
  simp only[Wq,Abk]at h2;have:=Arh 4000 c;omega
 have hlen:22<= (AD f c w r n++z).length:=by rw[Aav,HI];omega
 have m4:min 4 (AD f c w r n++z).length=4:=by omega
 have e4:(AD f c w r n++z).take 4=Ph:=by rw[GD];rfl
 have e18:(AD f c w r n++z).take 18=yB f c w r n:=by
  rw[AD,Agd,Be4 (by rw[eY];omega),Ao5 (by rw[eY];omega)]
 have hlt:=(En (yB f c w r n)).toNat_lt;have p18:part (AD f c w r n++z) 18 4=Ry (En (yB f c w r n)).toNat 4:=by
  rw[AD,Agd];exact KN (eY _ _ _ _ _) (Ce _ _)
 have q0:f0 (AD f c w r n++z)=f:=by
  rw[f0,GD,KN (a:=Ph) (i:=4) (k:=2) rfl (Ce _ _),Yh];omega
 have q1:f1 (AD f c w r n++z)=c:=by
  rw[f1,GD,<-Agd,KN (by simp[Ph,Ce]) (Ce _ _),Yh];omega
 have q2:f2 (AD f c w r n++z)=w:=by
  rw[f2,GD,<-Agd,<-Agd,KN (by simp[Ph,Ce]) (Ce _ _),Yh];omega
 have q3:f3 (AD f c w r n++z)=r:=by
  rw[f3,GD,<-Agd,<-Agd,<-Agd,KN (by simp[Ph,Ce]) (Ce _ _),Yh];omega
 have q4:f4 (AD f c w r n++z)=n:=by
  rw[f4,GD,<-Agd,<-Agd,<-Agd,<-Agd,KN (by simp[Ph,Ce]) (Ce _ _),Yh];omega
 have h:=rs6 (b:=AD f c w r n++z) (by rw[m4,e4];rfl) (by omega) (by rw[e18,p18,Yh];omega) (by rw[q0,q1,q2,q3,q4];exact h1) (by rw[q1,q3,q4];exact h2);rw[q0,q1,q2,q3,q4]at h;exact h
theorem Azi(l:List Int)(z:LB){i:Nat}(hi:i<l.length):part (aS l++z) (4*i) 4=Ry (l[i]).toNat 4:=by
 have hs:aS l=aS (l.take i)++(Ry (l[i]).toNat 4++aS (l.drop (i+1))):=by
  conv=>lhs;rw[<-Bf0 i l,drop_cons hi]
  rw[aS,aS,aS,List.flatMap_append,List.flatMap_cons]
 rw[hs,Agd,Agd];exact KN (by rw[RY,Ag1];omega) (Ce _ _)
theorem Av2{l:List Int}(ht:Vb l=true)(z:LB):Ek (kG l++z) l.length=(l,0):=by
 have h:=ht;simp only[Vb,Abt,Abk]at h;obtain⟨hn,h3⟩:=h;have h4:=(DO l 100000 (by omega)).1 h3;have h6:=yP h4.1;have hlt:=(En (aS l)).toNat_lt;have e1:(kG l++z).take (4*l.length)=aS l:=by
  rw[kG,Agd,Be4 (by rw[RY];omega),Ao5 (by rw[RY];omega)]
 have e2:part (kG l++z) (4*l.length) 4=Ry (En (aS l)).toNat 4:=by
  rw[kG,Agd];exact KN (RY _) (Ce _ _)
 have e3:RU (kG l++z) l.length=l:=by
  apply Bee
  ·rw[Va]
  ·intro i h1 h2;have hx:=h4.1 l[i] (Ami _);have hy:=h6 l[i] (Ami _);simp only[RU,Bkd,Bj9];rw[kG,Agd,Azi l _ h2,Yh];omega
 rw[ss4 hn (by rw[Aav,nM];omega) (by rw[e1,e2,Yh];omega),e3,Aau ht]
theorem Axg{b p:LB}{f c w r n T:Nat}{l:List Int}{z:LB}(hp:p.length<=64)(hf:f=Ln p)(h1:Fi f c w r n=true)(h2:Wq c r n=true)(hT:Bm b=((T:Int),0))(hb:b.length<=100000)(hd:b.drop T=AD f c w r n++(GX p++(kG l++z)))
  (hl:l.length=(Al (Ak r) n).length) (ht:Vb l=true):Opn b p f c w r n (T+22+(if f=2 then 8 else 0)+4*l.length+4) l:=by
 have hlen:=congrArg List.length hd;rw[Ajb,Aav,Aav,Aav,HI,aG,nM,<-hf]at hlen;have Bk5:l.length<=1000/\1<=l.length:=by
  have h:=ht;simp only[Vb,Abt,Abk]at h;omega
 have hread:Ej (b.drop T)=((f:Int),(c:Int),(w:Int),(r:Int),(n:Int),0):=by rw[hd];exact xX h1 h2 _
 have t22:Ad (T:Int) 22=((T+22:Nat):Int):=by rw[Ah (by omega) (by omega)];omega
 have t30:Ad ((T+22:Nat):Int) 8=((T+30:Nat):Int):=by rw[Ah (by omega) (by omega)];omega
 have d22:b.drop (T+22)=GX p++(kG l++z):=by
  rw[<-Bhv,hd,<-HI f c w r n,Bj4]
 have dA:b.drop (T+22+(if f=2 then 8 else 0))=kG l++z:=by
  rw[<-Bhv,d22,hf,<-aG p,Bj4]
 have hend:∀A:Nat,A<=b.length->A=T+22+(if f=2 then 8 else 0)->Cc b p=Ql b (f:Int) (c:Int) (w:Int) (r:Int) (n:Int) (A:Int)->Cc b p=some ((f:Int),(c:Int),(w:Int),(r:Int),(n:Int),((A+4*l.length+4:Nat):Int),l,0):=by
  intro A hA hA2 e;rw[e,rG h1 h2 b (by omega) A hA,hA2,dA,<-hl,Av2 ht,Aac (by simp)]
 have hprog:Cc b p=some ((f:Int),(c:Int),(w:Int),(r:Int),(n:Int),((T+22+(if f=2 then 8 else 0)+4*l.length+4:Nat):Int),l,0):=by
  refine hend (T+22+(if f=2 then 8 else 0)) (by omega) rfl ?_;rw[Cc,Nf,Aac (by rw[Aq,Ac];simp;omega),Aac (by rw[Aq,Ac];simp;omega),Io b (by omega),hT,Aa];simp only;rw[Aac (by decide),Bs (by omega) (by omega),Aa,Agr,Xd _ (by rw[Ajb];omega),Aa,hread];simp only;rw[Aac (by decide)];by_cases h0:p=[]
  ·have e1:f=1:=by rw[hf,Ln,Aau h0]
   rw[Aac (by rw[h0,e1];decide),Aac (by rw[h0];decide),t22,e1];rfl
  ·have e1:f=2:=by rw[hf,Ln,Aac h0]
   have hne:(p !=([]:LB))=true:=by simpa using h0
   have hne2:(p==([]:LB))=false:=by simpa using h0
   have hdg:GX p=Ry (Lg p).toNat 8:=by rw[GX,Aac h0]
   have hseg:(b.take (T+30)).drop (T+22)=Ry (Lg p).toNat 8:=by
    rw[Bl8,show T+30-(T+22)=8 by omega,d22,hdg,Be4 (by rw[Ce];omega),Ao5 (by rw[Ce];omega)]
   rw[e1,Aau rfl]at hlen;rw[Aac (by rw[hne2,e1];decide),Aau hne,t22,t30,Aac (by rw[Ae,Ac];simp;omega),Uk (by omega) (by omega) (by omega),Aa,Agr,Agr,hseg,pJ (Ce _ _) hp,Aa];simp only;rw[Aac (by decide),Aac (by simp),e1];rfl
 rcases vE b p (by omega) hp with⟨e,he,h,_⟩|⟨f',c',w',r',n',A',l',o⟩
 ·rw[hprog]at h;have:=congrArg (λo=>(o.getD (HA 0)).2.2.2.2.2.2.2) h;simp only[Option.getD_some,HA]at this;exact absurd this.symm he
 ·have h:=o.prog;rw[hprog]at h;simp only[Ab3,Agm]at h;obtain⟨i1,i2,i3,i4,i5,i6,i7,_⟩:=h;have j1:f=f':=by omega
  have j2:c=c':=by omega
  have j3:w=w':=by omega
  have j4:r=r':=by omega
  have j5:n=n':=by omega
  have j6:=Int.ofNat.inj i6;subst j1 j2 j3 j4 j5 i7;rw[j6];exact o
theorem Aas{b:LB}(h:b.take 4=Ph):Bm b=(0,0):=by
 have h4:4<=b.length:=by
  have:=congrArg List.length h;rw[Ag1]at this;simp only[Ph,Alj,Bl6]at this;omega
 have h3:b.take 3≠ [73,68,51]:=by
  intro e;have:(b.take 4).take 3=[73,68,51]:=by rw[Bly];exact e
  rw[h]at this;exact absurd this (by decide)
 have h8:b.take 8≠APE:=by
  intro e;have:(b.take 8).take 4=Ph:=by rw[Bly];exact h
  rw[e]at this;exact absurd this (by decide)
 have hs:Db b=(0,6):=by
  have h1:Yq b=(0,6):=by rw[Yq,Aau (by intro hh;exact h3 hh.2)]
  rw[Db,h1,Aac (by decide),fa1 (by intro hh;exact h8 hh.2)]
 rw[Bm,Aea,Cp,Bl0,hs];rfl
theorem mR:∀{l:List Int},(∀x∈l,0<=x)->∀k,0<= (l.take k).sum
 |[],_,k=>by simp
 |x::l,h,0=>by simp
 |x::l,h,k+1=>by
  have:=mR (l:=l) (λy hy=>h y (Aoh _ hy)) k;have:=h x Awp;rw[List.take_succ_cons,Bdp];omega
theorem zM(fs:List LB)(k:Nat):(Dp fs).take k=Dp (fs.take k):=by rw[Dp,Dp,List.map_take]
theorem Bgt{b z:LB}{A:Nat}{fs:List LB}(hd:b.drop A=fs.flatten++z){k:Nat}(hk:k<fs.length):Abj b A (Dp fs) k=fs[k]:=by
 have e0:fs.flatten=(fs.take k).flatten++(fs[k]++(fs.drop (k+1)).flatten):=by
  conv=>lhs;rw[<-Bf0 k fs,drop_cons hk]
  rw[Bky,Bjy]
 have s1:((Dp fs).take k).sum=((fs.take k).flatten.length:Int):=by rw[zM,OX]
 have s2:((Dp fs).take (k+1)).sum=((fs.take k).flatten.length+fs[k].length:Nat):=by rw[zM,OX,Md hk,Bky];simp
 rw[Abj,s1,s2,show((A:Int)+((fs.take k).flatten.length+fs[k].length:Nat)).toNat=A+((fs.take k).flatten.length+fs[k].length) by omega,show((A:Int)+((fs.take k).flatten.length:Int)).toNat=A+(fs.take k).flatten.length by omega,
  Bl8,<-Bhv,hd,e0,Agd,Bj4,Nat.add_sub_add_left,Bhd,Agd,List.take_left]
theorem Au0{b z:LB}{A:Nat}{fs:List LB}(hd:b.drop A=fs.flatten++z)(hA:A<=b.length)(k:Nat):(A:Int)+((Dp fs).take k).sum<=b.length:=by
 have h:=congrArg List.length hd;rw[Ajb,Aav]at h;have h2:(fs.take k).flatten.length<=fs.flatten.length:=by
  conv=>rhs;rw[<-Bf0 k fs,Bky,Aav]
  omega
 rw[zM,OX];omega
theorem Aua{b z:LB}{A:Nat}{fs:List LB}(hd:b.drop A=fs.flatten++z):XH b A (Dp fs)=(Nt z).2:=by
 rw[XH,OX,show((A:Int)+(fs.flatten.length:Int)).toNat=A+fs.flatten.length by omega,<-Bhv,hd,Bj4]
theorem Apn:Nt []=(0,0):=rfl
section
variable {b p:List UInt8} {f c w r n A:Nat} {fs:List LB} {z:LB} (o:Opn b p f c w r n A (Dp fs)) (hd:b.drop A=fs.flatten++z)
include o hd
theorem Bfz{k:Nat}(hk:k<fs.length){y:List Int32}{e:Int}{m:Nat}(hm:Ap (Al (Ak r) n) (k:Int)=some (m:Int))(hdec:Jy (c:Int) (w:Int) (Js p) (m:Int) fs[k]=some (y,e)):
  (Jb b p f c w r n A (Dp fs) k).2=e/\ (e=0->Jb b p f c w r n A (Dp fs) k=(Dk (w:Int) y,0)/\smF w (Jb b p f c w r n A (Dp fs) k)=y):=by
 have hkl:k<(Dp fs).length:=by rw[Pv];exact hk
 obtain⟨m',x',s',e',g⟩:=BJ o k hkl;have hin:=Au0 hd o.at' (k+1);have hmm:m'=m:=by
  have:=g.mom;rw[hm]at this;have:=Atf this;omega
 subst hmm;rcases g.way with⟨h1,_⟩|⟨_,h2,_⟩
 ·omega
 ·rw[Bgt hd hk,hdec]at h2;simp only[Ab3,Agm]at h2;obtain⟨rfl,rfl⟩:=h2;refine⟨by rw[g.eq],λhe=>?_⟩;have:=g.vN (Nh o.shape).2.1;obtain⟨h3,_⟩:=g.some' he;rw[g.eq,this,h3,he];exact⟨rfl,rfl⟩
end
theorem tK(c:Nat)(h1:1<=c):∀(l:List Int) (x:List Int32),(∀m∈l,1<=m)->x.length=l.sum.toNat*c->∀(k:Nat) (hk:k<l.length) (hk':k<(Ip c x l).length),(Ip c x l)[k].length=l[k].toNat*c
 |[],x,_,_=>λk hk=>absurd hk (Bfn _)
 |m::l,x,hm,hx=>by
  have hm1:=hm m Awp;have hl:0<=l.sum:=by
   have:=mR (l:=l) (λy hy=>by have:=hm y (Aoh _ hy);omega) l.length;rw[Awj]at this;exact this
  rw[Bdp,show(m+l.sum).toNat=m.toNat+l.sum.toNat by omega,Alg]at hx;intro k hk hk';cases k with
  |zero=>simp only[Ip,List.getElem_cons_zero,Ag1];omega
  |succ k=>
   simp only[Ip,List.getElem_cons_succ];exact tK c h1 l (x.drop (m.toNat*c)) (λm hm'=>hm m (Aoh _ hm')) (by rw[Ajb];omega) k (by simpa using hk) _
structure FileOf (c w r n:Nat) (x:List Int32) (p:LB) (T:Nat) (fs:List LB) (z b:LB):Prop where
 clip:ClipOk c w r n x
 pass:p.length<=64
 front:Bm b=((T:Int),0)
 le:b.length<=100000
 lens:Dp fs=Dp (NL c w r n x p)
 form:b.drop T=AD (Ln p) c w r n++(GX p++(kG (Dp (NL c w r n x p))++(fs.flatten++z)))
def xC(T:Nat)(p:LB)(K:Nat):Nat:=T+22+(if Ln p=2 then 8 else 0)+4*K+4
section
variable {c w r n:Nat} {x:List Int32} {p:LB} {T:Nat} {fs:List LB} {z b:LB} (h:FileOf c w r n x p T fs z b)
include h
theorem FileOf.cnt:fs.length=(NL c w r n x p).length:=by
 have:=congrArg List.length h.lens;rw[Pv,Pv]at this;exact this
theorem FileOf.Gs:Opn b p (Ln p) c w r n (xC T p fs.length) (Dp fs):=by
 have hc:=h.clip;have hl:(Dp fs).length=(Al (Ak r) n).length:=by rw[Pv,h.cnt];exact xS p
 have ht:Vb (Dp fs)=true:=by rw[h.lens];exact Aoc hc p
 have hd:=h.form;rw[<-h.lens]at hd;have:=Axg (z:=fs.flatten++z) h.pass rfl (hc.shape _ (Aeh p)) hc.fit h.front h.le hd hl ht;rw[Pv]at this;exact this
theorem FileOf.Bei:b.drop (xC T p fs.length)=fs.flatten++z:=by
 have hd:=h.form;rw[<-h.lens]at hd;have e:xC T p fs.length=T+(22+((if Ln p=2 then 8 else 0)+(4*fs.length+4))):=by unfold xC;omega
 have e2:4*fs.length+4=(kG (Dp fs)).length:=by rw[nM,Pv]
 rw[e,<-Bhv,hd,<-Bhv]
 conv=>lhs;rw[<-HI (Ln p) c w r n,Bj4,<-Bhv,<-aG p,Bj4,e2,Bj4]
theorem FileOf.mom{k:Nat}(hk:k<fs.length):∃(m:Nat) (hk':k<(gK c r n x).length),Ap (Al (Ak r) n) (k:Int)=some (m:Int)/\1<=m/\m<=4000/c/\ ((gK c r n x)[k]).length=m*c/\inR (w:Int) (gK c r n x)[k]/\ (NL c w r n x p)[k]'(by rw[<-h.cnt];exact hk)=Rm (w:Int) c (Js p) (gK c r n x)[k]:=by
 have hc:=h.clip;have hlen:fs.length=(Al (Ak r) n).length:=by rw[h.cnt];exact xS p
 have hkf:k<(Al (Ak r) n).length:=by omega
 have hk':k<(gK c r n x).length:=by rw[Alr];exact hkf
 have hm1:=RV (Ex r) hc.cnt.1 _ (Ami hkf);obtain⟨m,hm⟩:=Alh (show 0<= (Al (Ak r) n)[k] by omega);have hg:=tK c hc.ch.1 _ x (RV (Ex r) hc.cnt.1) (by rw[hc.sum,hc.len,Agr]) k hkf hk';rw[hm,Agr]at hg;have hmem:=nS hc _ (Ami hk');have hx:=jP c hc.ch.1 _ x (RV (Ex r) hc.cnt.1) (by rw[hc.sum,hc.len,Agr]) _ (Ami hk');have hg':((gK c r n x)[k]).length=m*c:=hg;refine⟨m,hk',by rw[Bq hkf,hm],by omega,?_,hg',hmem.2.2.2,?_⟩
 ·have h1:=hx.2.1;have h2:m*c<=n*c:=by rw[<-hg',<-hc.len];exact h1
  have h3:m<=n:=Nat.le_of_mul_le_mul_right h2 hc.ch.1;exact Nat.le_trans h3 hc.cnt.2
 ·simp only[NL,Bkd]
theorem FileOf.Bj8{k:Nat}(hk:k<fs.length)(he:fs[k]=(NL c w r n x p)[k]'(by rw[<-h.cnt];exact hk)):
  Jb b p (Ln p) c w r n (xC T p fs.length) (Dp fs) k=(Dk (w:Int) ((gK c r n x).getD k []),0)/\smF w (Jb b p (Ln p) c w r n (xC T p fs.length) (Dp fs) k)=(gK c r n x).getD k []:=by
 have hc:=h.clip;obtain⟨m,hk',h1,h2,h3,h4,h5,h6⟩:=h.mom hk;have hd:=(Aqs hc.bits (Mg p) hc.ch.1 hc.ch.2 h2 h3 h4 h5).1;have hg:=Bfz h.Gs h.Bei hk h1 (by rw[he,h6];exact hd);have e:(gK c r n x).getD k []=(gK c r n x)[k]:=by rw[List.getD_eq_getElem?_getD,List.getElem?_eq_getElem hk'];rfl
 rw[e];exact hg.2 rfl
theorem FileOf.beh:XH b (xC T p fs.length) (Dp fs)=(Nt z).2:=Aua h.Bei
end
theorem Av7{c w r n:Nat}{x:List Int32}(h:ClipOk c w r n x){p:LB}(hp:p.length<=64):FileOf c w r n x p 0 (NL c w r n x p) [] (Qz c w r n x p):=by
 refine⟨h,hp,Aas ?_,by have:=Ah0 h p;omega,rfl,by rw[Apl];rfl⟩;rw[Qz,GD];rfl
theorem Ae1:∀(ys:List (List Int32)) (G:Nat->List Int32) (k:Nat),(∀i,i<ys.length->G (k+i)=ys.getD i [])->Vv G ys.length k=ys.flatten
 |[],G,k,_=>rfl
 |y::ys,G,k,h=>by
  have h0:=h 0 (by simp);have ih:=Ae1 ys G (k+1) (λi hi=>by have:=h (i+1) (by simp;omega);rw[show k+1+i=k+(i+1) by omega,this];simp);rw[Alj,Vv,ih,Bjy,show k=k+0 from rfl,h0];rfl
theorem Al6{l:List Int}(h:∀x∈l,0<=x){i j:Nat}(hij:i<=j):(l.take i).sum<= (l.take j).sum:=by
 obtain⟨d,rfl⟩:=Blq hij;rw[List.take_add,List.sum_append];have:=mR (l:=l.drop i) (λx hx=>h x (Bjr hx)) d;omega
theorem zA{t z:LB}{i:Nat}(h:i<t.length):Tl (t++z) i=Tl t i:=by
 rw[Tl,Tl,List.getD_eq_getElem?_getD,List.getD_eq_getElem?_getD,List.getElem?_append_left h]
theorem rB(t:LB)(a i:Nat):Tl (t.drop a) i=Tl t (a+i):=by
 rw[Tl,Tl,List.getD_eq_getElem?_getD,List.getD_eq_getElem?_getD,List.getElem?_drop]
theorem Bgu{w:Nat}(hw:Bk (w:Int)){t z:LB}{a:Nat}(h:a+wB (w:Int)<=t.length):sx (wB (w:Int)) (t++z) a=sx (wB (w:Int)) t a:=by
 rcases hw with hw|hw|hw
 ·rw[hw]at h⊢;have e:wB 8=1:=rfl;rw[e]at h⊢;rw[sx,sx,Aau rfl,Aau rfl,zA (by omega)]
 ·rw[hw]at h⊢;have e:wB 16=2:=rfl;rw[e]at h⊢;rw[sx2,sx2,zA (by omega),zA (by omega)]
 ·rw[hw]at h⊢;have e:wB 24=3:=rfl;rw[e]at h⊢;rw[sx3,sx3,zA (by omega),zA (by omega),zA (by omega)]
theorem Bbf{w:Nat}(hw:Bk (w:Int))(t:LB)(a b:Nat):sx (wB (w:Int)) (t.drop a) b=sx (wB (w:Int)) t (a+b):=by
 rcases hw with hw|hw|hw
 ·rw[hw,show wB 8=1 from rfl,sx,sx,Aau rfl,Aau rfl,rB]
 ·rw[hw,show wB 16=2 from rfl,sx2,sx2,rB,rB];rfl
 ·rw[hw,show wB 24=3 from rfl,sx3,sx3,rB,rB,rB];rfl
theorem Asf{w:Nat}(hw:Bk (w:Int)){t z:LB}{m:Nat}(h:m*wB (w:Int)<=t.length):mH (wB (w:Int)) m (t++z)=mH (wB (w:Int)) m t:=by
 rw[mH,mH];apply Bkp;intro x hx;have hx:=List.mem_range.1 hx;have h2:(x+1)*wB (w:Int)<=m*wB (w:Int):=Adg _ hx;rw[Alg,Bex]at h2;rw[Bgu hw (by omega)]
theorem Bch{w:Nat}(hw:Bk (w:Int))(t:LB)(m j:Nat):mH (wB (w:Int)) (m+j) t=mH (wB (w:Int)) m t++mH (wB (w:Int)) j (t.drop (m*wB (w:Int))):=by
 rw[mH,mH,mH,List.range_add,Ble,List.map_map];congr 1;apply Bkp;intro x hx
 show Int32.ofInt (sx (wB (w:Int)) t ((m+x)*wB (w:Int)))=_;rw[Bbf hw,Alg]
theorem Bgf{w:Nat}(hw:Bk (w:Int))(t:LB)(a:Nat): -(hB (w:Int))<=sx (wB (w:Int)) t a/\sx (wB (w:Int)) t a<hB (w:Int):=by
 have b0:=wV t a;have b1:=wV t (a+1);have b2:=wV t (a+2);rcases hw with hw|hw|hw
 ·rw[hw,show wB 8=1 from rfl,show hB 8=128 from rfl,sx,Aau rfl];omega
 ·rw[hw,show wB 16=2 from rfl,show hB 16=32768 from rfl,sx2];split<;>omega
 ·rw[hw,show wB 24=3 from rfl,show hB 24=8388608 from rfl,sx3];split<;>omega
theorem Atg{w:Nat}(hw:Bk (w:Int))(m:Nat)(t:LB):inR (w:Int) (mH (wB (w:Int)) m t):=by
 intro x hx;rw[mH,List.mem_map]at hx;obtain⟨k,_,rfl⟩:=hx;have h:=Bgf hw t (k*wB (w:Int));have hh:=PJ (w:Int);rw[pY (by omega) (by omega)];exact h
theorem rK(c L:Nat):∀(k:Nat) (x y:List Int32),k*(L*c)<=x.length->Ip c (x++y) (List.replicate k (L:Int))=Ip c x (List.replicate k (L:Int))
 |0,x,y,_=>rfl
 |k+1,x,y,h=>by
  rw[Alg,Bex]at h;rw[Bgj,Ip,Ip,Agr,Be4 (by omega),Awo (by omega),rK c L k _ y (by rw[Ajb];omega)]
theorem yQ(c:Nat):∀(l m:List Int) (x:List Int32),(∀z∈l,0<=z)->Ip c x (l++m)=Ip c x l++Ip c (x.drop (l.sum.toNat*c)) m
 |[],m,x,_=>by simp[Ip]
 |z::l,m,x,h=>by
  have hz:=h z Awp;have hl:0<=l.sum:=Ak0 λy hy=>h y (Aoh _ hy);rw[Bi1,Ip,Ip,yQ c l m _ (λy hy=>h y (Aoh _ hy)),Bi1,Bhv,Bdp,show(z+l.sum).toNat=z.toNat+l.sum.toNat by omega,Alg]
theorem Axt(k L:Nat):∀z∈List.replicate k (L:Int),0<=z:=λz hz=>by rw[(List.mem_replicate.1 hz).2];omega
theorem Afz(k L c:Nat):(List.replicate k (L:Int)).sum.toNat*c=k*(L*c):=by rw[Aje,Agr,Awr]
theorem Ap0(c L k:Nat)(x:List Int32)(h:x.length=(k+1)*(L*c)):Ip c x (List.replicate (k+1) (L:Int))=Ip c x (List.replicate k (L:Int))++[x.drop (k*(L*c))]:=by
 rw[List.replicate_succ',yQ c _ _ _ (Axt k L),Afz,Ip,Ip,Agr,Ao5 (by rw[Ajb,h,Alg];omega)]
structure EncOk (c w r:Nat) (p:LB):Prop where
 ch:1<=c/\c<=6
 bits:Bk (w:Int)
 rate:1<=r/\r<=1048576
 pass:p.length<=64
def uS(c w:Nat):Nat:=c*wB (w:Int)
def nE(c w:Nat)(t:LB):Nat:=t.length/uS c w
def XE(c w:Nat)(t:LB):LX:=mH (wB (w:Int)) (nE c w t*c) t
def RE(c w:Nat)(t:LB):LB:=t.drop (nE c w t*uS c w)
def kE(c w r:Nat)(t:LB):Nat:=nE c w t/Ak r
def SE(c w r:Nat)(t:LB):LX:=(XE c w t).drop (kE c w r t*(Ak r*c))
def FE(c w r:Nat)(p t:LB):List LB:=(Ip c (XE c w t) (List.replicate (kE c w r t) (Ak r:Int))).map (Rm (w:Int) c (Js p))
def RF(c r n:Nat):Prop:=n*c<=4000/\ (n=0\/ (n-1)/Ak r+1<=1000)
instance(c r n:Nat):Decidable (RF c r n):=by unfold RF;exact inferInstance
theorem RF.mono{c r n m:Nat}(h:RF c r n)(hm:m<=n):RF c r m:=by
 obtain⟨h1,h2⟩:=h;have h3:=Adg c hm;have h4:(m-1)/Ak r<= (n-1)/Ak r:=Nat.div_le_div_right (by omega);refine⟨by omega,?_⟩;omega
section
variable {c w r:Nat} {p:LB} (h:EncOk c w r p) (t:LB)
include h
theorem zF:1<=uS c w/\uS c w<=18:=by
 have h1:=Aa5 (w:Int);have h2:=h.ch;have h3:=Bl5 (show 0<c by omega) (show 0<wB (w:Int) by omega);have h4:c*wB (w:Int)<=6*3:=Bem h2.2 h1.2;unfold uS;omega
theorem Asa:JM (c:Int) (w:Int)=some (uS c w:Int):=by
 have h2:=h.ch;have hw3:w=8\/w=16\/w=24:=by have:=h.bits;unfold Bk at this;omega
 rcases hw3 with rfl|rfl|rfl
 ·show some (Bw (Bj (c:Int) (8:Int)) 8)=_;rw[Fh (by omega) (by omega),show(c:Int)*8=((c*8:Nat):Int) by omega,show(8:Int)=((8:Nat):Int)from rfl,TY (by omega),uS,show wB ((8:Nat):Int)=1 from rfl];congr 2;omega
 ·show some (Bw (Bj (c:Int) (16:Int)) 8)=_;rw[Fh (by omega) (by omega),show(c:Int)*16=((c*16:Nat):Int) by omega,show(8:Int)=((8:Nat):Int)from rfl,TY (by omega),uS,show wB ((16:Nat):Int)=2 from rfl];congr 2;omega
 ·show some (Bw (Bj (c:Int) (24:Int)) 8)=_;rw[Fh (by omega) (by omega),show(c:Int)*24=((c*24:Nat):Int) by omega,show(8:Int)=((8:Nat):Int)from rfl,TY (by omega),uS,show wB ((24:Nat):Int)=3 from rfl];congr 2;omega
theorem Aoe:t.length=nE c w t*uS c w+(RE c w t).length/\ (RE c w t).length<uS c w:=by
 have hs:=zF h;have h1:=Bj5 t.length (uS c w);have h2:=Bhn t.length (show 0<uS c w by omega);rw[Ao6]at h1;have e:(RE c w t).length=t.length-nE c w t*uS c w:=by rw[RE,Ajb]
 have e2:nE c w t*uS c w=t.length/uS c w*uS c w:=rfl;omega
omit h in
theorem tX:(XE c w t).length=nE c w t*c:=uW _ _ _
theorem Ajc:inR (w:Int) (XE c w t):=Atg h.bits _ _
theorem Ahy:nE c w t=kE c w r t*Ak r+nE c w t %Ak r/\nE c w t %Ak r<Ak r:=by
 have _:=h;have hp:=Ex r;have h1:=Bj5 (nE c w t) (Ak r);rw[Ao6]at h1;exact⟨h1.symm,Bhn _ (by omega)⟩
theorem tV:(SE c w r t).length=nE c w t %Ak r*c:=by
 have h1:=(Ahy h t).1;rw[SE,Ajb,tX]
 conv=>lhs;rw[h1]
 rw[Alg,<-Awr,Bhd]
omit h in
theorem Acv:(FE c w r p t).length=kE c w r t:=by rw[FE,List.length_map,YY,Apd]
theorem Bef(b:UInt8)(hl:(RE c w t).length+1<uS c w):nE c w (t++[b])=nE c w t/\XE c w (t++[b])=XE c w t/\RE c w (t++[b])=RE c w t++[b]:=by
 have h1:=Aoe h t;have hs:=zF h;have hn:nE c w (t++[b])=nE c w t:=by
  rw[nE,Aav,Bhf];exact Bjw (by omega) (by rw[Alg,Bex];omega)
 refine⟨hn,?_,?_⟩
 ·rw[XE,hn,XE];exact Asf h.bits (by
   have e:nE c w t*c*wB (w:Int)=nE c w t*uS c w:=by rw[uS,Awr]
   rw[e];omega)
 ·rw[RE,hn,RE,Awo (by omega)]
theorem Bey(b:UInt8)(hl:¬(RE c w t).length+1<uS c w):(RE c w t).length+1=uS c w/\nE c w (t++[b])=nE c w t+1/\XE c w (t++[b])=XE c w t++mH (wB (w:Int)) c (RE c w t++[b])/\RE c w (t++[b])=[]:=by
 have h1:=Aoe h t;have hs:=zF h;have hn:nE c w (t++[b])=nE c w t+1:=by
  rw[nE,Aav,Bhf];exact Bjw (by rw[Alg,Bex];omega) (by rw[Alg,Alg,Bex];omega)
 have e:nE c w t*c*wB (w:Int)=nE c w t*uS c w:=by rw[uS,Awr]
 refine⟨by omega,hn,?_,?_⟩
 ·rw[XE,hn,Alg,Bex,Bch h.bits,Asf h.bits (by rw[e];omega),e,Awo (by omega)];rfl
 ·rw[RE,hn,Bh1];rw[Aav,Bhf,Alg,Bex];omega
theorem Ajs:kE c w r t*(Ak r*c)<= (XE c w t).length:=by
 have h1:=(Ahy h t).1;rw[tX]
 conv=>rhs;rw[h1]
 rw[Alg,<-Awr];omega
theorem Big{b:UInt8}(hl:(RE c w t).length+1<uS c w):kE c w r (t++[b])=kE c w r t/\SE c w r (t++[b])=SE c w r t/\FE c w r p (t++[b])=FE c w r p t:=by
 obtain⟨h1,h2,h3⟩:=Bef h t b hl;have hk:kE c w r (t++[b])=kE c w r t:=by rw[kE,h1,kE]
 exact⟨hk,by rw[SE,hk,h2,SE],by rw[FE,hk,h2,FE]⟩
theorem Bhx{b:UInt8}(hl:¬(RE c w t).length+1<uS c w):
  ((SE c w r t++mH (wB (w:Int)) c (RE c w t++[b])).length<Ak r*c->kE c w r (t++[b])=kE c w r t/\SE c w r (t++[b])=SE c w r t++mH (wB (w:Int)) c (RE c w t++[b])/\FE c w r p (t++[b])=FE c w r p t)/\
  (¬(SE c w r t++mH (wB (w:Int)) c (RE c w t++[b])).length<Ak r*c-> (SE c w r t++mH (wB (w:Int)) c (RE c w t++[b])).length=Ak r*c/\kE c w r (t++[b])=kE c w r t+1/\SE c w r (t++[b])=[]/\FE c w r p (t++[b])=FE c w r p t++[Rm (w:Int) c (Js p) (SE c w r t++mH (wB (w:Int)) c (RE c w t++[b]))]):=by
 obtain⟨_,h1,h2,h3⟩:=Bey h t b hl;obtain⟨d1,d2⟩:=Ahy h t;have hsl:=tV h t;have hc:=h.ch;have hp:=Ex r;have hdk:=Ajs h t;have hlen:(SE c w r t++mH (wB (w:Int)) c (RE c w t++[b])).length=(nE c w t %Ak r+1)*c:=by rw[Aav,hsl,uW,Alg,Bex]
 rw[hlen];constructor
 ·intro hlt;have hlt2:nE c w t %Ak r+1<Ak r:=Nat.lt_of_mul_lt_mul_right hlt;have hk:kE c w r (t++[b])=kE c w r t:=by
   rw[kE,h1];exact Bjw (by omega) (by rw[Alg,Bex];omega)
  refine⟨hk,?_,?_⟩
  ·rw[SE,hk,h2,Awo hdk,SE]
  ·rw[FE,hk,h2,rK c (Ak r) _ _ _ hdk,FE]
 ·intro hge;have Bnj:Ak r<=nE c w t %Ak r+1:=by
   refine Nat.le_of_not_lt λhh=>hge ?_;exact Nat.mul_lt_mul_of_pos_right hh hc.1
  have heq:nE c w t %Ak r+1=Ak r:=by omega
  have hk:kE c w r (t++[b])=kE c w r t+1:=by
   rw[kE,h1];exact Bjw (by rw[Alg,Bex];omega) (by rw[Alg,Alg,Bex];omega)
  have hXl:(XE c w (t++[b])).length=(kE c w r t+1)*(Ak r*c):=by
   rw[tX,h1,<-Awr];congr 1;rw[Alg,Bex];omega
  refine⟨by rw[heq],hk,?_,?_⟩
  ·rw[SE,hk,<-hXl,Bje]
  ·rw[FE,hk,Ap0 c (Ak r) _ _ hXl,Ble,h2,rK c (Ak r) _ _ _ hdk,Awo hdk,FE];rfl
theorem Bat(hR:RF c r (nE c w t)):∀f∈FE c w r p t,5<=f.length/\f.length<= (81*(Ak r*c)+7)/8+4:=by
 intro f hf;obtain⟨y,hy,rfl⟩:=List.mem_map.1 hf;have hx:(XE c w t).take (kE c w r t*(Ak r*c))++(XE c w t).drop (kE c w r t*(Ak r*c))=XE c w t:=Bf0 _ _;have hdk:=Ajs h t;have hpr:=rK c (Ak r) (kE c w r t) ((XE c w t).take (kE c w r t*(Ak r*c))) ((XE c w t).drop (kE c w r t*(Ak r*c))) (by rw[Ag1];omega);rw[hx]at hpr;rw[hpr]at hy;have hp:=Ex r;obtain⟨k,hk,hk2⟩:=List.getElem_of_mem hy;have hl1:∀z∈List.replicate (kE c w r t) (Ak r:Int),1<=z:=λz hz=>by rw[(List.mem_replicate.1 hz).2];omega
 have hlx:((XE c w t).take (kE c w r t*(Ak r*c))).length=(List.replicate (kE c w r t) (Ak r:Int)).sum.toNat*c:=by rw[Afz,Ag1];omega
 have hg:=tK c h.ch.1 _ _ hl1 hlx k (by rw[YY]at hk;exact hk) hk;rw[hk2,List.getElem_replicate,Agr]at hg;obtain⟨a1,a2,_,_⟩:=jP c h.ch.1 _ _ hl1 hlx y hy;have hle:y.length<=4000:=by
  have:=hR.1;have h2:((XE c w t).take (kE c w r t*(Ak r*c))).length<= (XE c w t).length:=by rw[Ag1];omega
  rw[tX]at h2;omega
 have h5:=xL (w:Int) c (Js p) y a1 hle;have he:=eG c (Nd (w:Int) c (Js p) y) y.length;refine⟨h5.1,?_⟩;rw[Rm,Aav,Ce,WA,Xc,<-hg];omega
omit h in
theorem Aib(b:List LB)(f a M:Int)(hM:Ad (Bw (Ad (Bj (Bj 81 f) a) 7) 8) 4=M)(hb:b.length<=100000)(hm:∀y∈b,5<=y.length/\ (y.length:Int)<=M):∀(j i q:Nat),i+j=b.length->j<q->La b f a q (i:Int)=some true
 |j,i,0,_,h=>absurd h (Bfn _)
 |0,i,q+1,hi,_=>by
  rw[La,Tz,Aac (by rw[Ae,Ac];simp;omega)];rfl
 |j+1,i,q+1,hi,hq=>by
  have ih:=Aib b f a M hM hb hm j (i+1) q (by omega) (by omega);have hy:=hm b[i] (Ami _);have hi1:Ad (i:Int) 1=((i+1:Nat):Int):=by rw[Ah (by omega) (by omega)];omega
  rw[La,Tz,Aau (by rw[Ae,Ac];simp;omega),Bq (by omega),Aa,CN,CF,hM,Aac (by simp[Ae,Aq,Ac];omega),BT,VO,hi1];exact ih
theorem Ahh:DB (c:Int) (w:Int) (r:Int) p=some ((Ak r:Int),true):=by
 have hp:=h.pass;rw[DB,qL h.rate.1 h.rate.2,Aa];simp only;rw[Aqw h.bits h.ch.1 h.ch.2,Aa];simp[Ar,US,Ac];omega
theorem yL(hR:RF c r (nE c w t))(p' m' n':LB)(u:Bool)(v k o:Int):Xk (c:Int) k o p' m' (SE c w r t) (FE c w r p t) n' u v (Ak r:Int)=some (nE c w t:Int):=by
 have hc:=h.ch;obtain⟨d1,d2⟩:=Ahy h t;have hsl:=tV h t;have hlt:=YR h.rate.2;have hn:nE c w t<=4000:=by
  have:=hR.1;have:nE c w t*1<=nE c w t*c:=Bir _ hc.1;omega
 have e1:Bj (Ac (FE c w r p t)) (Ak r:Int)=((kE c w r t*Ak r:Nat):Int):=by
  rw[Ac,Acv,Fh (by rw[<-Apa];omega) (by rw[<-Apa];omega),<-Apa]
 have e2:Bw (Ac (SE c w r t)) (c:Int)=((nE c w t %Ak r:Nat):Int):=by
  rw[Ac,hsl,TY (by
   have:nE c w t %Ak r*c<=nE c w t*c:=Adg _ (Bln _ _);have:=hR.1;omega),Bl2 _ (by omega)]
 rw[Xk,Bl (by rw[Aj];simp;omega),Aa,e1,e2,Ah (by omega) (by omega)];congr 1;omega
theorem Aty(hR:RF c r (nE c w t)):PU (c:Int) (w:Int) (r:Int) p (RE c w t) (SE c w r t) (FE c w r p t) [] false 0=some 0:=by
 have hc:=h.ch;have hw:=h.bits;obtain⟨d1,d2⟩:=Ahy h t;have hsl:=tV h t;have htl:=Aoe h t;have hlt:=YR h.rate.2;have hp:=Ex r;have hfl:=Acv (c:=c) (w:=w) (r:=r) (p:=p) t;have hn4:=hR.1;have hmod:nE c w t %Ak r*c<=nE c w t*c:=Adg _ (Bln _ _);have hn:nE c w t<=4000:=by
  have:nE c w t*1<=nE c w t*c:=Bir _ hc.1;omega
 have hfr:kE c w r t+(if 0<nE c w t %Ak r then 1 else 0)<=1000:=by
  rcases hR.2 with h0|h0
  ·have:kE c w r t=0:=by rw[kE,h0];exact Nat.zero_div _
   rw[h0,Nat.zero_mod,this];decide
  ·generalize hq:Ak r=L at*
   have hk:kE c w r t=nE c w t/L:=by rw[kE,hq]
   by_cases hz:0<nE c w t %L
   ·rw[Aau hz];have:(nE c w t-1)/L=kE c w r t:=Bjw (by omega) (by rw[Alg,Bex];omega);omega
   ·rw[Aac hz];by_cases hk0:kE c w r t=0
    ·omega
    ·obtain⟨k',hk'⟩:∃k',kE c w r t=k'+1:=⟨kE c w r t-1,by omega⟩;rw[hk',Alg,Bex]at d1;have:(nE c w t-1)/L=k':=Bjw (by omega) (by rw[Alg,Bex];omega);omega
 have hcnt:=yL h t hR p (RE c w t) [] false 0 (w:Int) (r:Int);have hin:inR (w:Int) (SE c w r t):=λv hv=>Ajc h t v (Bjr hv);have hwc:Sm (w:Int) (SE c w r t)=some 0:=by rw[aD hw _ (by omega),fP hw (by omega) hin]
 have hroom:∀k:Int,k<=1000->Wd (c:Int) (w:Int) (r:Int) p (RE c w t) (SE c w r t) (FE c w r p t) [] false 0 k (nE c w t:Int)=some true:=by
  intro k hk;rw[Wd,Fh (by rw[<-Apa];omega) (by rw[<-Apa];omega),<-Apa];simp[US];omega
 have hLc:Ak r*c<=1100000*6:=Bem (by omega) hc.2;have hM:Ad (Bw (Ad (Bj (Bj 81 (Ak r:Int)) (c:Int)) 7) 8) 4=(((81*(Ak r*c)+7)/8+4:Nat):Int):=by
  have e1:Bj 81 (Ak r:Int)=((81*Ak r:Nat):Int):=by rw[Fh (by omega) (by omega)];omega
  have e2:Bj ((81*Ak r:Nat):Int) (c:Int)=((81*(Ak r*c):Nat):Int):=by
   rw[Fh (by rw[<-Apa,Awr];omega) (by rw[<-Apa,Awr];omega),<-Apa,Awr]
  rw[e1,e2,Ah (a:=((81*(Ak r*c):Nat):Int)) (b:=7) (by omega) (by omega),show((81*(Ak r*c):Nat):Int)+7=((81*(Ak r*c)+7:Nat):Int) by omega,show(8:Int)=((8:Nat):Int)from rfl,TY (by omega),Ah (by omega) (by omega)];omega
 have hloop:=Aib (FE c w r p t) (Ak r:Int) (c:Int) _ hM (by omega) (λy hy=>by
  have:=Bat h t hR y hy;omega) (FE c w r p t).length 0 Ax (by omega) (by have:=As;omega)
 have Bjp:DV (c:Int) (w:Int) (r:Int) p (RE c w t) (SE c w r t) (FE c w r p t) [] false 0 (Ak r:Int)=some true:=by
  have Bk7:Bw (Ac (SE c w r t)) (c:Int)=((nE c w t %Ak r:Nat):Int):=by
   rw[Ac,hsl,TY (by omega),Bl2 _ (by omega)]
  have Bk8:Gw (Ac (SE c w r t)) (c:Int)=0:=by rw[Ac,hsl,NP,Bga];rfl
  have hkk:kE c w r t<=1000:=by split at hfr<;>omega
  rw[DV,FJ,Aac (by decide),Asa h,Aa,Aac (by rw[Ea,Ac];simp;omega),Bl (by rw[Aj];simp;omega),Aa,Bk8,Aac (by decide),Aa,Bk7,Aac (by simp[Ea,Aq,Ac,hfl];omega),BS,CU,hwc,Aa,Aac (by decide)];by_cases hz:0<nE c w t %Ak r
  ·rw[Aau hz]at hfr;have hpos:=Bl5 hz (show 0<c by omega);rw[Aau (by rw[Aq,Ac];simp;omega),Tt,Tp,hcnt,Aa,Ac,hfl,Ah (by omega) (by omega),hroom _ (by omega),Aa,Aac (by decide),Tq,Ud,Ty];exact hloop
  ·have h0:nE c w t %Ak r=0:=by omega
   rw[h0,Bma]at hsl;rw[Aac (by rw[Aq,Ac];simp only[Abk];omega),Tt,Tp,hcnt,Aa,Ac,hfl,hroom _ (by omega),Aa,Aac (by decide),Tq,Ud,Ty];exact hloop
 rw[PU,Ahh h,Aa];simp only;rw[Aac (by decide),Aac (by decide),Aac (by decide),Bjp,Aa,Aac (by decide)]
end
theorem sJ(a:List LB)(ha:∀y∈a,y.length<=17179869184)(w:List LB)(hw:w.length=a.length)(ha2:a.length<=100000)(b f g:Int)(h:LB)(k:Bool)(m:Int)(n:LB)(o:LX)(p:LB):∀(j i q:Nat),i+j=a.length->j<q->Rp w a b f g h k m n o p q (i:Int) a=some (b,f,g,h,n,o,a,p,k,m)
 |j,i,0,_,h=>absurd h (Bfn _)
 |0,i,q+1,hi,_=>by
  have hc:UQ w a=a:=by rw[UQ,hw,Awj,Bh1 (by omega),Apl]
  rw[Rp,DU,hc,Aac (by rw[Ae,Ac];simp;omega)];rfl
 |j+1,i,q+1,hi,hq=>by
  have ih:=sJ a ha w hw ha2 b f g h k m n o p j (i+1) q (by omega) (by omega);have hc:UQ w a=a:=by rw[UQ,hw,Awj,Bh1 (by omega),Apl]
  have hi1:Ad (i:Int) 1=((i+1:Nat):Int):=by rw[Ah (by omega) (by omega)];omega
  have hy:=ha a[i] (Ami _);rw[Rp,DU,hc,Aau (by rw[Ae,Ac];simp;omega),Bq (by omega),Aa,Aa,Ca,Bi (by simpa using hy),Aa,Aa,Aa,Apc,Wf _ (by omega),Aa,List.set_getElem_self,hi1];exact ih
theorem Axk{a:List LB}(ha:∀y∈a,y.length<=17179869184)(ha2:a.length<=100000)(b f g:Int)(h:LB){x:LB}{s:LX}{z:LB}(hx:x.length<=17179869184)(hs:s.length<=17179869184)(hz:z.length<=17179869184)(k:Bool)(m:Int):VQ b f g h x s a z k m=some (b,f,g,h,x,s,a,z,k,m):=by
 have hl:=sJ a ha (List.replicate a.length []) (by rw[Apd]) ha2 b f g h k m x s z a.length 0 Ax (by omega) (by have:=As;omega);have hc:UQ (List.replicate a.length []) a=a:=by rw[UQ,Apd,Awj,Bh1 (by rw[Apd];omega),Apl]
 rw[VQ,TL,Ca,Bi (by simpa using hx),Aa,Aa,Di,Bi (by simpa using hs),Aa,Aa,Ca,Bi (by simpa using hz),Aa,Aa,TQ,TH,rZ (by unfold Ac;omega) (by unfold Ac;omega),Aa,Bl (by rw[Ar];simp),Aa];simp only[Apc,Ac,Agr,hc];exact hl
section
variable {c w r:Nat} {p:LB} (h:EncOk c w r p)
include h
theorem Ai4(t:LB)(hR:RF c r (nE c w t)):DD (c:Int) (w:Int) (r:Int) p (RE c w t) (SE c w r t) (FE c w r p t) [] false 0=some ((c:Int),(w:Int),(r:Int),p,RE c w t,SE c w r t,FE c w r p t,[],false,0,(Ak r:Int),0):=by
 have h1:=Aoe h t;have hs:=zF h;have hsl:=tV h t;have hfl:=Acv (c:=c) (w:=w) (r:=r) (p:=p) t;have hn4:=hR.1;have hmod:nE c w t %Ak r*c<=nE c w t*c:=Adg _ (Bln _ _);have hn:nE c w t<=4000:=by
  have:nE c w t*1<=nE c w t*c:=Bir _ h.ch.1;omega
 have hk:kE c w r t<=nE c w t:=Arh _ _;have hlt:=YR h.rate.2;have hLc:Ak r*c<=1100000*6:=Bem (by omega) h.ch.2;have htw:=Axk (a:=FE c w r p t) (λy hy=>by have:=Bat h t hR y hy;omega) (by omega) (c:Int) (w:Int) (r:Int) p (x:=RE c w t) (s:=SE c w r t) (z:=[]) (by omega) (by omega) (by simp) false 0;rw[DD,NQ,Aty h t hR,Aa,Aac (by decide),qL h.rate.1 h.rate.2,Aa];simp only;rw[Aac (by decide),Aac (by decide),NU,eO,htw,Aa]
abbrev Bj6:=Int×Int×Int×LB×LB×LX×(List LB)×LB×Bool×Int×Int
def Ayg(c w r:Nat)(p t:LB):Bj6:=if RF c r (nE c w t)then((c:Int),(w:Int),(r:Int),p,RE c w t,SE c w r t,FE c w r p t,[],false,0,0)else((c:Int),(w:Int),(r:Int),p,[],[],[],[],false,18,18)
theorem sX(t b:LB)(hb:b.length<=1000000):∀(j u q:Nat) (T:LB),u+j=b.length->j<q->T=t++b.take u->RF c r (nE c w T)->Je (uS c w:Int) b (c:Int) (w:Int) (r:Int) p false 0 (Ak r:Int) [] q (u:Int) (RE c w T) (SE c w r T) (FE c w r p T)=some (Ayg c w r p (t++b))
 |j,u,0,T,_,h,_,_=>absurd h (Bfn _)
 |0,u,q+1,T,hu,_,hT,hR=>by
  rw[Ao5 (by omega)]at hT;rw[Je,BK,Aac (by rw[Ae,Ac];simp;omega),OB,fQ,Ayg,<-hT,Aau hR]
 |j+1,u,q+1,T,hu,hq,hT,hR=>by
  have hc:=h.ch;have hs:=zF h;have hu1:Ad (u:Int) 1=((u+1:Nat):Int):=by rw[Ah (by omega) (by omega)];omega
  have hT':T++[b[u]'(by omega)]=t++b.take (u+1):=by rw[hT,Md (by omega),Agd]
  have hpre:(T++[b[u]'(by omega)]).length<= (t++b).length:=by rw[hT',Aav,Aav,Ag1];omega
  have hmono:nE c w (T++[b[u]'(by omega)])<=nE c w (t++b):=Nat.div_le_div_right hpre;have hgd:Ap b (u:Int)=some (b[u]'(by omega)):=Bq (by omega);generalize b[u]'(by omega)=d at hT' hpre hmono hgd⊢;have ih:=sX t b hb j (u+1) q (T++[d]) (by omega) (by omega) hT';have htl:=Aoe h T;have hsl:=tV h T;have hfl:=Acv (c:=c) (w:=w) (r:=r) (p:=p) T;have hn4:=hR.1;have hmod:nE c w T %Ak r*c<=nE c w T*c:=Adg _ (Bln _ _);have hn:nE c w T<=4000:=by
   have:nE c w T*1<=nE c w T*c:=Bir _ hc.1;omega
  have hk:kE c w r T<=nE c w T:=Arh _ _;have hlt:=YR h.rate.2;rw[Je,BK,Aau (by rw[Ae,Ac];simp;omega),hgd,Aa,Bi (by simp;omega),Aa];by_cases hlt1:(RE c w T).length+1<uS c w
  ·obtain⟨m1,m2,m3⟩:=Bef h T d hlt1;obtain⟨g1,g2,g3⟩:=Big h T (b:=d) hlt1;rw[m1,m3,g2,g3]at ih;rw[Aau (by rw[Ae,Ac,Aav,Bhf];simp;omega),Pp,BH,hu1];exact ih hR
  ·obtain⟨m0,m1,m2,m3⟩:=Bey h T d hlt1;obtain⟨g1,g2⟩:=Bhx h T (b:=d) hlt1;have hcnt:=yL h T hR p (RE c w T++[d]) [] false 0 (w:Int) (r:Int);have hroom:Wd (c:Int) (w:Int) (r:Int) p (RE c w T++[d]) (SE c w r T) (FE c w r p T) [] false 0 (Ad (Ac (FE c w r p T)) 1) (Ad (nE c w T:Int) 1)=some (decide ((kE c w r T:Int)+1<=1000)&&decide ((((nE c w T+1)*c:Nat):Int)<=4000)):=by
    have hle:(nE c w T+1)*c<=4001*6:=Bem (by omega) hc.2;rw[Wd,Ac,hfl,Ah (by omega) (by omega),Ah (by omega) (by omega),show(nE c w T:Int)+1=((nE c w T+1:Nat):Int) by omega,Fh (by rw[<-Apa];omega) (by rw[<-Apa];omega),<-Apa,US,US]
   rw[Aac (by rw[Ae,Ac,Aav,Bhf];simp;omega),hcnt,Aa,hroom,Aa];by_cases hok:kE c w r T+1<=1000/\ (nE c w T+1)*c<=4000
   ·have hR':RF c r (nE c w (T++[d])):=by rw[m1];exact⟨hok.2, .inr (by rw[Nat.add_sub_cancel];exact hok.1)⟩
    have ih:=ih hR';have Bk9:=xE (RE c w T++[d]) h.bits (m:=c) (by rw[Aav,Bhf,m0];rfl) (by omega);have hLc:Ak r*c<=1100000*6:=Bem (by omega) hc.2;have hmul:Bj (Ak r:Int) (c:Int)=((Ak r*c:Nat):Int):=by rw[Fh (by rw[<-Apa];omega) (by rw[<-Apa];omega),<-Apa]
    rw[Aac (by rw[Bhq (show(kE c w r T:Int)+1<=1000 by omega),Bhq (show(((nE c w T+1)*c:Nat):Int)<=4000 by omega)];decide),PG,OP,Bk9,Aa];simp only;rw[Aac (by decide),Bi (by rw[uW];omega),Aa,hmul];by_cases hfull:(SE c w r T++mH (wB (w:Int)) c (RE c w T++[d])).length<Ak r*c
    ·obtain⟨k1,k2,k3⟩:=g1 hfull;rw[m3,k2,k3]at ih;rw[Aau (by rw[Ae,Ac];simp only[Abk];omega),Jj,Uq,Aac (by decide),Pp,BH,hu1];exact ih
    ·obtain⟨k0,k1,k2,k3⟩:=g2 hfull;rw[m3,k2,k3]at ih;have hXl:Ak r*c<=4000:=by
      have e:=hR'.1;have hlen:(XE c w (T++[d])).length=nE c w (T++[d])*c:=tX (T++[d]);have hdk:=Ajs (r:=r) h (T++[d]);rw[k1,Alg,Bex]at hdk;omega
     have hin:inR (w:Int) (SE c w r T++mH (wB (w:Int)) c (RE c w T++[d])):=by
      intro v hv;rw[List.mem_append]at hv;rcases hv with hv|hv
      ·exact Ajc h T v (Bjr hv)
      ·exact Atg h.bits _ _ v hv
     have hLp:=Bl5 (Ex r) hc.1;have henc:=vH (t:=Js p) (x:=SE c w r T++mH (wB (w:Int)) c (RE c w T++[d])) h.bits (Mg p) hc.1 hc.2 (by omega) (by omega) (by rw[k0];exact Bga _ _) hin;rw[Aac (by rw[Ae,Ac];simp only[Abk];omega),gN p h.pass,Aa];simp only;rw[Aac (by decide),henc,Aa];simp only;rw[Aac (by decide),Bi (by simp;omega),Aa,OA,NZ,Jj,Uq,Aac (by decide),Pp,BH,hu1];exact ih
   ·have hno:¬RF c r (nE c w (t++b)):=by
     intro hh;have:=hh.mono hmono;rw[m1]at this;obtain⟨z1,z2⟩:=this;apply hok;rw[Nat.add_sub_cancel]at z2;have hkE:kE c w r T=nE c w T/Ak r:=rfl;omega
    rw[Aau (by
     rw[Awn,Bool.and_eq_false_iff,Ba8,Ba8];omega),Jj,Uq,Aau (by decide),Wm,Aa,Ayg,Aac hno]
theorem Bau(t b:LB)(hb:b.length<=1000000)(hR:RF c r (nE c w t)):VY (c:Int) (w:Int) (r:Int) p (RE c w t) (SE c w r t) (FE c w r p t) [] false 0 b=some (Ayg c w r p (t++b)):=by
 have hl:=sX h t b hb b.length 0 Ax t (by omega) (by have:=As;omega) (by simp) hR;rw[VY,TZ,Ai4 h t hR,Aa];simp only;rw[Aac (by decide),Asa h,Aa,NT];exact hl
theorem Bcv:bD (c:Int) (w:Int) (r:Int) p=some ((c:Int),(w:Int),(r:Int),p,RE c w [],SE c w r [],FE c w r p [],[],false,0,0):=by
 have h0:nE c w []=0:=Nat.zero_div _;have hk:kE c w r []=0:=by rw[kE,h0];exact Nat.zero_div _
 rw[bD,Ahh h,Aa];simp only;rw[Aac (by decide),RE,SE,FE,XE,hk,h0];simp[mH,Ip]
omit h in
theorem Awb(c r:Nat):RF c r 0:=⟨by omega, .inl rfl⟩
end
theorem Af9(l:List LB)(hf:l.flatten.length<=1000000)(hl:l.length<=1000000)(v:LB)(hfin:Ey l (l.flatten.length:Int)=some v):∀(j i q:Nat),i+j=l.length->j<q->Cw l q (((l.take i).flatten.length:Nat):Int) (i:Int)=some v
 |j,i,0,_,h=>absurd h (Bfn _)
 |0,i,q+1,hi,_=>by
  rw[Cw,Eb,Aac (by rw[Ae,Ac];simp;omega),Ao5 (by omega)];exact hfin
 |j+1,i,q+1,hi,hq=>by
  have ih:=Af9 l hf hl v hfin j (i+1) q (by omega) (by omega);have hi1:Ad (i:Int) 1=((i+1:Nat):Int):=by rw[Ah (by omega) (by omega)];omega
  have hsn:(l.take (i+1)).flatten=(l.take i).flatten++l[i]:=by rw[Md (by omega),Bky];simp
  have hsp:l.flatten=(l.take (i+1)).flatten++(l.drop (i+1)).flatten:=by rw[<-Bky,Bf0]
  have hle:((l.take i).flatten).length+(l[i]).length<=1000000:=by
   rw[hsp,Aav,hsn,Aav]at hf;omega
  have hadd:Ad (((l.take i).flatten.length:Nat):Int) (Ac l[i])=(((l.take (i+1)).flatten.length:Nat):Int):=by
   rw[Ac,Ah (by omega) (by omega),hsn,Aav];omega
  rw[Cw,Eb,Aau (by rw[Ae,Ac];simp;omega),Bq (by omega),Aa,hadd,Aac (by rw[Ae];simp only[Abk];omega),hi1];exact ih
theorem Adf(l:List LB)(hf:l.flatten.length<=1000000)(hl:l.length<=1000000):∀(j i q:Nat),i+j=l.length->j<q->Cs l q (i:Int) (l.take i).flatten=some l.flatten
 |j,i,0,_,h=>absurd h (Bfn _)
 |0,i,q+1,hi,_=>by
  rw[Cs,Dv,Aac (by rw[Ae,Ac];simp;omega),Ao5 (by omega)];rfl
 |j+1,i,q+1,hi,hq=>by
  have ih:=Adf l hf hl j (i+1) q (by omega) (by omega);have hi1:Ad (i:Int) 1=((i+1:Nat):Int):=by rw[Ah (by omega) (by omega)];omega
  have hsn:(l.take (i+1)).flatten=(l.take i).flatten++l[i]:=by rw[Md (by omega),Bky];simp
  have hsp:l.flatten=(l.take (i+1)).flatten++(l.drop (i+1)).flatten:=by rw[<-Bky,Bf0]
  have hle:((l.take i).flatten).length+(l[i]).length<=1000000:=by
   rw[hsp,Aav,hsn,Aav]at hf;omega
  rw[Cs,Dv,Aau (by rw[Ae,Ac];simp;omega),Bq (by omega),Aa,Bi (by omega),Aa,hi1,<-hsn];exact ih
theorem Apw(l:List LB)(hf:l.flatten.length<=1000000)(hl:l.length<=1000000):Fj l=some l.flatten:=by
 have h3:Ew l []=some l.flatten:=by
  rw[Ew,Jo,Jn];exact Adf l hf hl l.length 0 Ax (by omega) (by have:=As;omega)
 have h11:Ey l (l.flatten.length:Int)=some l.flatten:=by
  have z:Ao (0:Int) 0=0:=by decide
  rw[Ey,Jq,Aac (by rw[Ae];simp only[Abk];omega),Jp,Jr,z,Bu (by omega) (by omega),Int.sub_zero];by_cases hp:0<l.flatten.length
  ·rw[Aau (by rw[Aq];simp only[Abk];omega),show fN (0:Int) 0 0=some ()from rfl,Aa,rZ (by omega) (by omega),Aa,Bi (by simp only[Bl6,Apd];omega),Aa];rw[show fN (Ac ([]++List.replicate ((l.flatten.length:Nat):Int).toNat (0:UInt8))) 0 0=some () by rw[fN,Bl];simp[Ac],Aa];simp only[XT,Int.sub_self,Blz,Bgs];exact h3
  ·rw[Aac (by rw[Aq];simp only[Abk];omega)];exact h3
 have:=Af9 l hf hl _ h11 l.length 0 Ax (by omega) (by have:=As;omega);exact this
theorem Aqb{p:LB}(hp:p.length<=64):PQ p=some ((Ln p:Int),0):=by
 rw[PQ,Aac (by rw[Aq,Ac];simp;omega),Ln];by_cases h:p=[]
 ·rw[Aau (by rw[Ar,Ac,h];rfl),Aau h];rfl
 ·have:p.length≠0:=λe=>h (Bdq e);rw[Aac (by rw[Ar,Ac,Atu];omega),Aac h];rfl
theorem Afi(a:List LB)(ha:a.length<=100000)(f g h:Int)(b k:LB)(m:LX)(n:LB)(o:Bool)(p:Int)(u v:LB)(hfin:Wu f g h b k m a n o p u (Dp a)=some (v,0)):∀(j i q:Nat),i+j=a.length->j<q->Rn a f g h b k m n o p u q (i:Int) (Dp (a.take i))=some (v,0)
 |j,i,0,_,h=>absurd h (Bfn _)
 |0,i,q+1,hi,_=>by
  rw[Rn,DT,Aac (by rw[Ae,Ac];simp;omega),Ao5 (by omega)];exact hfin
 |j+1,i,q+1,hi,hq=>by
  have ih:=Afi a ha f g h b k m n o p u v hfin j (i+1) q (by omega) (by omega);have hi1:Ad (i:Int) 1=((i+1:Nat):Int):=by rw[Ah (by omega) (by omega)];omega
  have hll:(Dp (a.take i)).length=i:=by rw[Pv,Ag1];omega
  have hsn:Dp (a.take i)++[Ac a[i]]=Dp (a.take (i+1)):=by rw[Md (by omega),Dp,Dp,Ble];rfl
  rw[Rn,DT,Aau (by rw[Ae,Ac];simp;omega),Bq (by omega),Aa,Bi (by simp;omega),Aa,hsn,hi1];exact ih
theorem Al1{c w r n:Nat}{x:List Int32}(h:ClipOk c w r n x){p:LB}(hp:p.length<=64)(k:LB)(m:LX)(n':LB)(o:Bool)(e:Int):VT (c:Int) (w:Int) (r:Int) p k m (NL c w r n x p) n' o e (n:Int)=some (Qz c w r n x p,0):=by
 have hn:=Awy h p;have hl:=Ah0 h p;have hlen:=Ahb (c:=c) (w:=w) (r:=r) (n:=n) (x:=x) p;have hdl:=aG p;have hfin:Wu (c:Int) (w:Int) (r:Int) p k m (NL c w r n x p) n' o e (AD (Ln p) c w r n++GX p) (Dp (NL c w r n x p))=some (Qz c w r n x p,0):=by
  have hh:=HI (Ln p) c w r n;have ht:=nM (Dp (NL c w r n x p));have hll:=Pv (NL c w r n x p);rw[Wu,EF,Ans,Aau (Aoc h p),Aa];simp only;rw[Aac (by decide),Bi (by rw[Aav];omega),Aa,Apw _ (by omega) (by omega),Aa,Bi (by rw[Aav,Aav];omega),Aa];simp[Qz]
 have hlp:=Afi (NL c w r n x p) (by omega) (c:Int) (w:Int) (r:Int) p k m n' o e (AD (Ln p) c w r n++GX p) _ hfin (NL c w r n x p).length 0 Ax (by omega) (by have:=As;omega);rw[VT,TN,Aqb hp,Aa];simp only;rw[Aac (by decide),Akv (h.shape _ (Aeh p)) h.fit,Aa];simp only;rw[Aac (by decide)];by_cases h0:p=[]
 ·have e2:GX p=[]:=by rw[GX,Aau h0]
  rw[e2,Apl]at hlp;rw[Aac (by simp[h0]),DP,DW];exact hlp
 ·have e2:GX p=Ry (Lg p).toNat 8:=by rw[GX,Aac h0]
  rw[e2]at hlp;rw[Aau (by simpa using h0),qE p hp,Aa];simp only;rw[Aac (by decide),Bi (by rw[HI,Ce];omega),Aa,DP,DW];exact hlp
section
variable {c w r:Nat} {p:LB} (h:EncOk c w r p) (t:LB) (hR:RF c r (nE c w t))
include h hR
theorem Bac(h1:1<=nE c w t):ClipOk c w r (nE c w t) (XE c w t):=by
 have hc:=h.ch;refine⟨hc,h.bits,h.rate,⟨h1,?_⟩,tX t,?_,Ajc h t⟩
 ·rw[Nat.le_div_iff_mul_le (by omega)];exact hR.1
 ·rcases hR.2 with h0|h0
  ·omega
  ·exact h0
omit hR in
theorem Apm(h1:1<=nE c w t):NL c w r (nE c w t) (XE c w t) p=FE c w r p t++(if SE c w r t=[]then []else [Rm (w:Int) c (Js p) (SE c w r t)]):=by
 have hc:=h.ch;have hp:=Ex r;obtain⟨d1,d2⟩:=Ahy h t;have hsl:=tV h t;have key:gK c r (nE c w t) (XE c w t)=Ip c (XE c w t) (List.replicate (kE c w r t) (Ak r:Int))++(if SE c w r t=[]then []else [SE c w r t]):=by
  by_cases hz:nE c w t %Ak r=0
  ·have hS:SE c w r t=[]:=Bdq (by rw[hsl,hz,Bma]);rw[Aau hS,Apl,gK];congr 1;rw[hz,Bhl]at d1;have hk1:1<=kE c w r t:=by
    rcases Bl1 (kE c w r t)with h0|h0
    ·rw[h0,Bma]at d1;omega
    ·exact h0
   obtain⟨k',hk'⟩:∃k',kE c w r t=k'+1:=⟨kE c w r t-1,by omega⟩;have hd:(nE c w t-1)/Ak r=k':=by
    rw[hk',Alg,Bex]at d1;exact Bjw (by omega) (by rw[Alg,Bex];omega)
   rw[Al,hd,hk',List.replicate_succ'];congr 2;rw[hk',Alg,Bex]at d1;omega
  ·have hS:SE c w r t≠ []:=by
    intro e;have:=congrArg List.length e;rw[hsl,Bl6]at this;rcases Nat.mul_eq_zero.1 this with h0|h0<;>omega
   have hd:(nE c w t-1)/Ak r=kE c w r t:=Bjw (by omega) (by rw[Alg,Bex];omega);have hdk:=Ajs (r:=r) h t;rw[Aac hS,gK,Al,hd,yQ c _ _ _ (Axt _ _),Afz,Ip,Ip,Agr];congr 2;rw[Ao5]
   ·rfl
   ·rw[Ajb,tX,<-Awr,<-Bl3];exact Am4 _
 rw[NL,key,Ble,FE];congr 1;split<;>rfl
theorem Aqf:IY (c:Int) (w:Int) (r:Int) p (RE c w t) (SE c w r t) (FE c w r p t) [] false 0=
  some (if RE c w t≠ []\/nE c w t=0 then((c:Int),(w:Int),(r:Int),p,[],[],[],[],false,24,24)else((c:Int),(w:Int),(r:Int),p,[],[],[],Qz c w r (nE c w t) (XE c w t) p,true,0,0)):=by
 have hc:=h.ch;have hsl:=tV h t;have hfl:=Acv (c:=c) (w:=w) (r:=r) (p:=p) t;have hn4:=hR.1;have hmod:nE c w t %Ak r*c<=nE c w t*c:=Adg _ (Bln _ _);have hn:nE c w t<=4000:=by
  have:nE c w t*1<=nE c w t*c:=Bir _ hc.1;omega
 have hk:kE c w r t<=nE c w t:=Arh _ _;rw[IY,JZ,Ai4 h t hR,Aa];simp only;rw[Aac (by decide),yL h t hR,Aa];by_cases hbad:RE c w t≠ []\/nE c w t=0
 ·have hcond:((Eh (Ac (RE c w t)) 0)||(geq (nE c w t:Int) 0))=true:=by
   rcases hbad with h0|h0
   ·have:RE c w t≠ []:=h0;have hl:0<(RE c w t).length:=List.length_pos_iff.2 this;rw[Aq,Ac,Ba0];left;simpa using hl
   ·rw[h0];simp[Ar]
  rw[Aau hbad,Aau hcond,Wm,Aa]
 ·have hR0:RE c w t=[]:=by
   by_cases h0:RE c w t=[]
   ·exact h0
   ·exact absurd (.inl h0) hbad
  have hn1:1<=nE c w t:=by
   rcases Bl1 (nE c w t)with h0|h0
   ·exact absurd (.inr h0) hbad
   ·exact h0
  have hcl:=Bac h t hR hn1;have hfr:=Apm h t hn1;have hcond:¬(((Eh (Ac (RE c w t)) 0)||(geq (nE c w t:Int) 0))=true):=by rw[hR0];simp[Aq,Ar,Ac];omega
  rw[Aac hbad,Aac hcond];by_cases hS:SE c w r t=[]
  ·rw[Aau hS,Apl]at hfr;have hf:=Al1 hcl h.pass (RE c w t) (SE c w r t) [] false 0;rw[hfr]at hf;rw[Aac (by rw[hS];decide),Rv,LN,hf,Aa];simp only;rw[Aac (by decide)]
  ·rw[Aac hS]at hfr;have hl:0<(SE c w r t).length:=List.length_pos_iff.2 hS;have hin:inR (w:Int) (SE c w r t):=λv hv=>Ajc h t v (Bjr hv);have henc:=vH (t:=Js p) (x:=SE c w r t) h.bits (Mg p) hc.1 hc.2 (by omega) (by omega) (by rw[hsl];exact Bga _ _) hin;have hf:=Al1 hcl h.pass (RE c w t) [] [] false 0;rw[hfr]at hf;rw[Aau (by rw[Aq,Ac];simpa using hl),gN p h.pass,Aa];simp only;rw[Aac (by decide),henc,Aa];simp only;rw[Aac (by decide),Bi (by simp;omega),Aa,HW,JT,Aac (by decide),Rv,LN,hf,Aa];simp only;rw[Aac (by decide)]
end
def Cd(e:Int):Prop:=e=0\/e=4\/e=12\/e=16\/e=22\/e=24\/e=26\/e=38
instance(e:Int):Decidable (Cd e):=by unfold Cd;infer_instance
theorem Cd.nn{e:Int}(h:Cd e):0<=e:=by unfold Cd at h;omega
theorem Bf9(p:List UInt8)(N a k:Nat):Cd (YS p N a k).2.2:=by
 unfold YS
 repeat' split
 all_goals first|decide|exact .inl rfl
theorem Bfh(p:List UInt8)(N a k l:Nat):Cd (dW p N a k l).2.2:=by
 have h:=Bf9 p N (a+1) l;unfold dW
 repeat' split
 all_goals first|exact h|decide|exact .inl rfl
theorem Asr(ch:Nat)(p:List UInt8)(N:Nat):∀(j a:Nat) (out:List UInt32),Cd (Ws ch p N j a out).2.2
 |0,a,out=>by rw[Ws];exact .inl rfl
 |j+1,a,out=>by
  rw[Ws];split
  ·exact Bfh ..
  ·exact Asr ch p N j _ _
theorem Ay8(b:List UInt8):Cd (Vj b):=by
 unfold Vj
 repeat' split
 all_goals first|decide|exact .inl rfl
theorem Ahm(a:List Int32)(b:Int):∀(q:Nat) (i e:Int),Az a b q i=some e->Cd e
 |0,_,_,h=>by rw[Az]at h;cases h
 |q+1,i,e,h=>by
  rw[Az,Cu]at h;split at h
  ·cases hg:Ap a i with
   |none=>rw[hg]at h;cases h
   |some g=>
    rw[hg,Aa]at h;split at h
    ·cases h;decide
    ·rw[Aa]at h;split at h
     ·cases h;decide
     ·exact Ahm a b q _ e h
  ·cases h;decide
theorem Aq4{bits:Int}{a:List Int32}{e:Int}(hb:Bk bits)(h:Ay bits a=some e):Cd e:=by
 rw[Ay,Dn]at h;rw[ZZ hb,Aa,Aac (by have:=PJ bits;rw[Ar];simp;omega)]at h;split at h
 ·cases h;decide
 ·exact Ahm a _ _ _ e h
theorem Aii{bits:Int}{ch n:Nat}{t:List Int32}{b:List UInt8}(hb:Bk bits)(ht:t.length=16)(h1:1<=ch)(h6:ch<=6)(n1:1<=n)(n2:n<=4000/ch){l:List Int32}{e:Int}
  (h:Dg (ch:Int) bits t (n:Int) b=some (l,e)):Cd e:=by
 have hn:n*ch<=4000:=by
  have:=Adg ch n2;have h2:=Be7 4000 ch;omega
 have hq4:=Abz h1 h6;generalize 4000/ch=mm at*
 have hh:=PJ bits;have Ago:Ec (ch:Int) bits (n:Int)=some 0:=by
  rw[Ec,Dr,Aac (by simp[Ae,Aq];omega),ZZ hb,Aa,Aac (by rw[Ar];simp;omega),Aa,Aac (by simp[Aj,Ae];omega),Bl (by rw[Aj];simp;omega),Aa,hq4,Aac (by rw[Aq];simp;omega)]
 rw[Dg,Ox,Ago,Aa,Aac (by rw[Aj];simp),uI,Aa]at h;by_cases hs:Vj b≠0
 ·rw[Aau (by rw[Aj];simpa using hs)]at h;simp only[Aa]at h;cases h;exact Ay8 b
 have hs0:Vj b=0:=by simpa using hs
 have hlen:=Amv hs0;have e4:Ao (Ac b) 4=((b.length-4:Nat):Int):=by rw[Ac,Bu (by omega) (by omega)];omega
 rw[Aac (by rw[Aj,hs0];simp),e4,Dl (by omega) (by omega),Aa,show((b.length-4:Nat):Int).toNat=b.length-4 from rfl]at h;have hpl:(b.take (b.length-4)).length=b.length-4:=by simp
 generalize b.take (b.length-4)=p at*
 have hr:=Aj2 (N:=8*p.length) (p:=p) rfl (by omega) h1 h6 hn;have hV:=Asr ch p (8*p.length) (n*ch) 0 [];have hat:=Ace (ch:=ch) (p:=p) (N:=8*p.length) (n*ch) 0 [] (by omega);rw[hr,Aa]at h;generalize Ws ch p (8*p.length) (n*ch) 0 []=V at*
 obtain⟨v,at',er⟩:=V;simp only at*
 by_cases he:er≠0
 ·rw[Aau he]at h;simp only at h;rw[Hr,Ht,Aau (by rw[Aj];simpa using he)]at h;cases h;exact hV
 have he0:er=0:=by simpa using he
 have hvl:=hat.2.2 he0;simp only[Bl6,Ay1]at hvl;rw[Aac he]at h;simp only at h;rw[Hr,Ht]at h;split at h
 ·cases h;decide
 ·rw[Aac (by decide)]at h;have hm:v.length %ch=0:=by rw[hvl];exact Bga n ch
  obtain⟨l',e',g1,g2,g3,g4,g5⟩:=vA (v:=v) hb ht h1 h6 (by omega) hm;rw[g1,Aa,g2,Aa]at h;have:=Aq4 hb g4;by_cases hl:e'≠0
  ·rw[Aau hl]at h;cases h;exact this
  ·rw[Aac hl]at h;cases h;decide
theorem rC{bits:Int}{ch n:Nat}{t:List Int32}{b:List UInt8}(hb:Bk bits)(ht:t.length=16)(h1:1<=ch)(h6:ch<=6)(n1:1<=n)(n2:n<=4000/ch){l:List Int32}{e:Int}
  (h:Dg (ch:Int) bits t (n:Int) b=some (l,e)):0<=e:=(Aii hb ht h1 h6 n1 n2 h).nn
def shI(f c w r n:Int):Bool:=decide ((f=1\/f=2)/\ (1<=c/\c<=6)/\ (w=8\/w=16\/w=24)/\ (1<=r/\r<=1048576)/\1<=n)
theorem Azq(f c w r n:Int):So f c w r n=some (shI f c w r n):=by
 have e2:Po f c w r n=some (decide ((f=1\/f=2)/\ (1<=c/\c<=6)/\ (1<=r/\r<=1048576)/\1<=n)):=by
  rw[Po,PH];congr 1;rw[Alf];simp only[Ar,Aq,US,Abt,Ba0,Atu,Abk];omega
 have g:∀k:Int,geq w k=decide (w=k):=λk=>by rw[Ar,Alf];simp
 rw[So,BF,e2,g,g,g,shI];by_cases h8:w=8
 ·subst h8;simp
 ·by_cases h16:w=16
  ·subst h16;simp
  ·by_cases h24:w=24
   ·subst h24;simp
   ·simp[h8,h16,h24]
theorem Bbz(f c w r n:Int):Ky f c w r n=some (shI f c w r n):=by
 rw[Ky,shI];simp only[Ar,Ea,US,Abt,Ba0,Atu,Abk,Blg];split
 ·rename_i h;congr 1;rw[Alf];simp only[Abt,Ba0,Atu,Abk];omega
 ·rename_i h;congr 1;symm;rw[Ba8];omega
structure HdI (f c w r n:Int) (F C W R N:Nat):Prop where
 ef:f=F
 ec:c=C
 ew:w=W
 er:r=R
 en:n=N
 shape:Fi F C W R N=true
 fit:Wq C R N=true
theorem Atw(f c w r n:Int):(∃F C W R N:Nat,HdI f c w r n F C W R N)\/ (Mh f c w r n=some 8/\Dw f c w r n=some ([],8)):=by
 by_cases h:shI f c w r n=true
 ·have h':=h;simp only[shI,Abk]at h';obtain⟨F,rfl⟩:=Alh (show 0<=f by omega);obtain⟨C,rfl⟩:=Alh (show 0<=c by omega);obtain⟨W,rfl⟩:=Alh (show 0<=w by omega);obtain⟨R,rfl⟩:=Alh (show 0<=r by omega);obtain⟨N,rfl⟩:=Alh (show 0<=n by omega);have hs:Fi F C W R N=true:=by simp only[Fi,Abk];omega
  by_cases hf:Wq C R N=true
  ·exact .inl ⟨F,C,W,R,N,rfl,rfl,rfl,rfl,rfl,hs,hf⟩
  ·have hf':Wq C R N=false:=by simpa using hf
   refine .inr ⟨?_,?_⟩
   ·rw[Mh,tT,Aa,hs,Aac (by simp),Aeu hs,Aa,hf'];rfl
   ·rw[Dw,Pd,aY,Aa,hs,Aac (by simp),qP hs,Aa,hf'];rfl
 ·have h':shI f c w r n=false:=by simpa using h
  refine .inr ⟨?_,?_⟩
  ·rw[Mh,Bbz,Aa,h'];rfl
  ·rw[Dw,Pd,Azq,Aa,h'];rfl
theorem HdI.check{f c w r n:Int}{F C W R N:Nat}(h:HdI f c w r n F C W R N):Mh f c w r n=some 0:=by
 obtain⟨rfl,rfl,rfl,rfl,rfl,hs,hf⟩:=h;rw[Mh,tT,Aa,hs,Aac (by simp),Aeu hs,Aa,hf];rfl
theorem HdI.zE{f c w r n:Int}{F C W R N:Nat}(h:HdI f c w r n F C W R N):Dw f c w r n=some (Al (Ak R) N,0):=by
 obtain⟨rfl,rfl,rfl,rfl,rfl,hs,hf⟩:=h;exact pG hs hf
theorem HdI.num{f c w r n:Int}{F C W R N:Nat}(h:HdI f c w r n F C W R N):(F=1\/F=2)/\ (1<=C/\C<=6)/\ (W=8\/W=16\/W=24)/\ (1<=R/\R<=1048576)/\1<=N/\N<=4000/C/\N<=4000/\ (N-1)/Ak R+1<=1000:=by
 obtain⟨rfl,rfl,rfl,rfl,rfl,hs,hf⟩:=h;simp only[Fi,Abk]at hs;simp only[Wq,Abk]at hf;have hd:4000/C<=4000:=Arh _ _;omega
theorem HdI.Akc{f c w r n:Int}{F C W R N:Nat}(h:HdI f c w r n F C W R N):Hh f c w r n=some (Al (Ak R) N):=by
 have hn:=h.num;obtain⟨rfl,rfl,rfl,rfl,rfl,hs,hf⟩:=h;rw[Hh,gP (by omega) (by omega) (by omega)];rfl
section
variable {f c w r n:Nat} (h1:Fi f c w r n=true) (h2:Wq c r n=true)
include h1 h2
theorem Aht(k:Nat)(hk:k<= (Al (Ak r) n).length):∀(j i q:Nat),i+j=k->j<q->Ng (k:Int) (f:Int) (c:Int) (w:Int) (r:Int) (n:Int) (Al (Ak r) n) q (((Al (Ak r) n).take i).sum) (i:Int)=some (GJ c w (Al (Ak r) n) k)
 |0,i,q+1,hi,_=>by
  obtain⟨hc,hw,hr,hn,_⟩:=Nh h1;obtain⟨g1,g2,g3⟩:=ON h1 h2;have b:=jI g1 i;obtain rfl:i=k:=by omega
  have hb:((Al (Ak r) n).take i).sum.toNat*(c*wB (w:Int))<=4000*(6*3):=Bem (by omega) (Bem hc.2 (Aa5 (w:Int)).2);rw[Ng,AP,Aac (by rw[Ae];simp),RJ,SY,Fy,Aa];simp only;rw[UW,Bgb hc.2 hw,Aa,GJ];have e:((Al (Ak r) n).take i).sum=((((Al (Ak r) n).take i).sum.toNat:Nat):Int):=by omega
  rw[e,Fh (by rw[<-Apa];omega) (by rw[<-Apa];omega),<-Apa];rfl
 |j+1,i,q+1,hi,hq=>by
  obtain⟨g1,g2,g3⟩:=ON h1 h2;have hK:=Agc h2;have hlt:i<(Al (Ak r) n).length:=by omega
  have b1:=jI g1 i;have b2:=jI g1 (i+1);have e:=Jv hlt;have ih:=Aht k hk j (i+1) q (by omega) (by omega);rw[e]at ih;rw[Ng,AP,Aau (by rw[Ae];simp;omega),Bq hlt,Aa,Aa,Ah (by omega) (by omega),Ah (by omega) (by omega)];exact ih
theorem Aoa(k:Nat)(hk:k<= (Al (Ak r) n).length):Yo (f:Int) (c:Int) (w:Int) (r:Int) (n:Int) (k:Int)=some (GJ c w (Al (Ak r) n) k):=by
 have hK:=Agc h2;obtain⟨g1,g2,g3⟩:=ON h1 h2;obtain⟨hc,hw,hr,hn,_⟩:=Nh h1;have h:=Aht h1 h2 k hk k 0 Ax (by omega) (by have:=As;omega);rw[Bgs,Bk2]at h;rw[Yo,RL,Hh,gP hr.2 hn g3,Aa,Aa];exact h
theorem Aqc{i:Nat}(hlt:i<(Al (Ak r) n).length):Ad (GJ c w (Al (Ak r) n) i) (Bw (Bj (Bj ((Al (Ak r) n)[i]) (c:Int)) (w:Int)) 8)=GJ c w (Al (Ak r) n) (i+1):=by
 obtain⟨hc,hw,hr,hn,_⟩:=Nh h1;obtain⟨g1,g2,g3⟩:=ON h1 h2;have b1:=jI g1 i;have b2:=jI g1 (i+1);have e:=Jv hlt;have h0:=g1 _ (Ami hlt);have e2:(Al (Ak r) n)[i]=(((Al (Ak r) n)[i].toNat:Nat):Int):=by omega
 have hb:((Al (Ak r) n).take (i+1)).sum.toNat*(c*wB (w:Int))<=4000*(6*3):=Bem (by omega) (Bem hc.2 (Aa5 (w:Int)).2);rw[e2,Bg2 (by omega) hc.2 hw,GJ,GJ];have e3:((Al (Ak r) n).take (i+1)).sum.toNat=((Al (Ak r) n).take i).sum.toNat+(Al (Ak r) n)[i].toNat:=by omega
 rw[e3,Alg]at hb⊢;rw[Ah (by omega) (by omega)];omega
theorem Ahv(a:Nat)(ha:a<= (Al (Ak r) n).length)(o p:LB)(m:LI)(a':Int)(N:LB)(u:Bool)(v:Int):∀(j i q:Nat),i+j=a->j<q->
  Ro ((Al (Ak r) n).take a) o p (f:Int) (c:Int) (w:Int) (r:Int) (n:Int) m a' N u v q (GJ c w (Al (Ak r) n) i) (i:Int)=some (gle (Ac N) (GJ c w (Al (Ak r) n) a))
 |0,i,q+1,hi,_=>by
  obtain rfl:i=a:=by omega
  rw[Ro,EC,Aac (by rw[Ae,Ac,Ag1];simp;omega),UD,kP]
 |j+1,i,q+1,hi,hq=>by
  have hK:=Agc h2;have hlt:i<(Al (Ak r) n).length:=by omega
  have hlt2:i<((Al (Ak r) n).take a).length:=by rw[Ag1];omega
  have ih:=Ahv a ha o p m a' N u v j (i+1) q (by omega) (by omega);rw[Ro,EC,Aau (by rw[Ae,Ac];simp;omega),Bq hlt2,Aa,List.getElem_take,Aqc h1 h2 hlt,Ah (by omega) (by omega)];exact ih
end
theorem Ab8{α:Type}(l:List α):geq (Ac l) 0=decide (l=[]):=by
 cases l with
 |nil=>rfl
 |cons x l=>rw[Ar,Ac,Alj,Bfl (by simp),Blu];omega
theorem Akq{α:Type}(l:List α):Eh (Ac l) 0=decide (l≠ []):=by
 cases l with
 |nil=>rfl
 |cons x l=>rw[Aq,Ac,Alj,Bhq (by simp)];simp
inductive FitD (o:LB) (f c w r n:Int) (g:LI) (a:Int) (x:LB):Prop
 |new:f=0->c=0->w=0->r=0->n=0->g=[]->a=0->x=[]->FitD o f c w r n g a x
 |head (F C W R N:Nat):HdI f c w r n F C W R N-> (o==([]:LB))=decide (F=1)->g=[]->a=0->x=[]->FitD o f c w r n g a x
 |tab (F C W R N A:Nat):HdI f c w r n F C W R N-> (o==([]:LB))=decide (F=1)->Vb g=true->g.length=(Al (Ak R) N).length->a=A->A<=g.length->FitD o f c w r n g a x
theorem Ap5(f c w r n:Int)(o:LB):Qj f c w r n o=Eu f c w r n o:=rfl
theorem Aq6(o p:LB)(f c w r n:Int)(g:LI)(a:Int)(x:LB)(u:Bool)(v:Int):
  (AS o p f c w r n g a x u v=some false/\Mf o p f c w r n g a x u v=some false)\/
  (AS o p f c w r n g a x u v=some true/\Mf o p f c w r n g a x u v=Ct o p f c w r n g a x u v/\FitD o f c w r n g a x):=by
 rw[AS,UI,Mf,Xv];by_cases hz:f=0/\c=0/\w=0/\r=0/\n=0
 ·obtain⟨rfl,rfl,rfl,rfl,rfl⟩:=hz;rw[Aau (by decide),Aau (by decide),Ab8,Ab8,Akq,Akq];by_cases h:g=[]/\a=0/\x=[]
  ·obtain⟨rfl,rfl,rfl⟩:=h;exact .inr ⟨rfl,by rw[Aac (by decide)], .new rfl rfl rfl rfl rfl rfl rfl rfl⟩
  ·refine .inl ⟨?_,?_⟩
   ·congr 1;rw[Bool.eq_false_iff];intro e;simp only[Abt,Abk,Ar,Atu]at e;exact h ⟨e.1.1,e.1.2,e.2⟩
   ·rw[Aau];simp only[Ba0,Abk,Aj,Blo];by_cases e1:g=[]
    ·by_cases e2:a=0
     ·exact .inr λe3=>h ⟨e1,e2,e3⟩
     ·exact .inl (.inr e2)
    ·exact .inl (.inl e1)
 ·have hz2:¬(((geq f 0)&&((geq c 0)&&((geq w 0)&&((geq r 0)&&((geq n 0)&&true)))))=true):=by
   simp only[Abt,Ar,Atu,Bl9];exact hz
  rw[Aac hz2,Aac hz2];rcases Atw f c w r n with⟨F,C,W,R,N,h⟩|⟨e1,e2⟩
  ·rw[h.zE,h.check,Aa,Aa,Ap5];simp only;rw[Aac (by decide),Aac (by decide),Eu];have hf:geq f 1=decide (F=1):=by rw[h.ef,Ar,Alf];simp;omega
   rw[hf];by_cases hp:(o==([]:LB))=decide (F=1)
   ·rw[Aac (by rw[hp];simp),Aa,Aa,Aac (by decide),Aac (by decide),UE,TA,Qp,Qt,Ab8,Ab8,Akq];by_cases hg:g=[]
    ·subst hg;rw[Aau (by simp),Aau (by simp)];by_cases h':a=0/\x=[]
     ·obtain⟨rfl,rfl⟩:=h';exact .inr ⟨rfl,by rw[Aac (by decide)], .head F C W R N h hp rfl rfl rfl⟩
     ·refine .inl ⟨?_,?_⟩
      ·congr 1;rw[Bool.eq_false_iff];intro e;simp only[Abt,Abk,Ar,Atu]at e;exact h' e
      ·rw[Aau];simp only[Ba0,Abk,Aj,Blo];by_cases e2:a=0
       ·exact .inr λe3=>h' ⟨e2,e3⟩
       ·exact .inl e2
    ·rw[Aac (by simpa using hg),Aac (by simpa using hg),ZP,cU,Aa,Aa];by_cases ht:Vb g=true
     ·rw[Aau ht,h.Akc];simp only[Aa];by_cases hl:g.length=(Al (Ak R) N).length/\0<=a/\a<=g.length
      ·obtain⟨hl,ha0,ha1⟩:=hl;obtain⟨A,rfl⟩:=Alh ha0;have hA:A<= (Al (Ak R) N).length:=by omega
       rw[Aac (by simp[Aj,Ae,Aq,Ac];omega),Aac (by decide),Aac (by simp[Aj,Ae,Aq,Ac];omega),Dl (by omega) (by omega),Aa,TE];have hh:=h;clear hf;obtain⟨rfl,rfl,rfl,rfl,rfl,hs,hf⟩:=hh;have hlp:=Ahv hs hf A hA o p g (A:Int) x u v A 0 Ax (by omega) (by have:=As;have:=Agc hf;omega);have h0:GJ C W (Al (Ak R) N) 0=0:=by rw[GJ,Bgs,Bk2];simp
       rw[h0,show((0:Nat):Int)=0 from rfl]at hlp;rw[show((A:Int)).toNat=A from rfl,hlp,Aoa hs hf A hA,Aa];by_cases hx:(x.length:Int)<=GJ C W (Al (Ak R) N) A
       ·refine .inr ⟨?_,?_, .tab F C W R N A h hp ht hl rfl (by omega)⟩
        ·rw[US,Ac,Bhq hx]
        ·rw[Aac (by rw[Aq,Ac];simp;omega)]
       ·refine .inl ⟨?_,?_⟩
        ·rw[US,Ac,Bfl hx]
        ·rw[Aau (by rw[Aq,Ac];simp;omega)]
      ·refine .inl ⟨?_,?_⟩
       ·rw[Aau (by simp[Aj,Ae,Aq,Ac];omega)]
       ·rw[Aac (by decide),Aau (by simp[Aj,Ae,Aq,Ac];omega)]
     ·refine .inl ⟨?_,?_⟩
      ·rw[Aac ht,Aau (by simp[Aj])]
      ·rw[Aac ht,Aau (by decide),Aau (by simp)]
   ·rw[Aau (by simpa using hp),Aa,Aa,Aau (by decide),Aau (by decide)];exact .inl ⟨rfl,rfl⟩
  ·rw[e1,e2,Aa,Aa];simp only;rw[Aau (by decide),Aau (by decide)];exact .inl ⟨rfl,rfl⟩
theorem Azn(b:List UInt8)(n:Int):Cd (gB b n).2:=by
 unfold gB
 repeat' split
 all_goals first|decide|exact .inl rfl
theorem Axa(b:List UInt8):(Yq b).2=6\/Cd (Yq b).2:=by
 unfold Yq Aa0
 repeat' split
 all_goals first|exact .inl rfl|exact .inr (Azn _ _)|exact .inr (by decide)
theorem Au2(b:List UInt8):(Li b).2=6\/Cd (Li b).2:=by
 unfold Li
 repeat' split
 all_goals first|exact .inl rfl|exact .inr (.inl rfl)|exact .inr (by decide)
theorem Az3(b:List UInt8):(Db b).2=6\/Cd (Db b).2:=by
 unfold Db;split
 ·exact Axa b
 ·exact Au2 b
theorem Aij(b:List UInt8):∀(j p:Nat),p<=b.length->b.length<j+p->Cd (Cp b j p).2
 |0,p,h1,h2=>by omega
 |j+1,p,h1,h2=>by
  rw[Cp];split
  ·exact .inl rfl
  ·rename_i h6;split
   ·exact(Az3 _).resolve_left h6
   ·rename_i h0;split
    ·exact(by decide:Cd 4)
    ·have hz:Db (b.drop p)=((Db (b.drop p)).1,0):=by rw[Prod.ext_iff];exact⟨rfl,by simpa using h0⟩
     obtain⟨k1,k2⟩:=oJ hz;rw[Ajb]at k2;split
     ·exact .inl rfl
     ·exact Aij b j _ (by omega) (by omega)
theorem zR(b:List UInt8):Cd (Bm b).2:=by
 unfold Bm Aea;split
 ·exact .inl rfl
 ·exact Aij b _ _ (by omega) (by omega)
theorem xU(b:List UInt8):0<= (Bm b).2:=(zR b).nn
theorem Adl(b:List UInt8):Cd (Ej b).2.2.2.2.2:=by
 unfold Ej
 repeat' split
 all_goals first|decide|exact .inl rfl
theorem Adm(b:List UInt8):0<= (Ej b).2.2.2.2.2:=(Adl b).nn
theorem Ayy(b:List UInt8){n:Nat}(h:1<=n/\n<=1000):Cd (Ek b n).2:=by
 unfold Ek;rw[Aac (λe=>e h)]
 repeat' split
 all_goals first|decide|exact .inl rfl
theorem Ac2(b:List UInt8)(n:Nat):0<= (Ek b n).2:=by
 unfold Ek
 repeat' split
 all_goals simp
def ID3:List UInt8:=[73,68,51]
def APX:List UInt8:=[65,80,69,84,65,71,69,88]
def Pf(b s:List UInt8):Bool:=decide (b.length<s.length)&&(b==s.take b.length)
theorem Ahc(b s:List UInt8):Ub b s=some (Pf b s):=by
 rw[Ub,Pf];by_cases h:b.length<s.length
 ·rw[Aau (by rw[Ae,Ac,Ac];simp;omega),Ac,Dl (by omega) (by omega),Aa,Bhq h,Bjv];rfl
 ·rw[Aac (by rw[Ae,Ac,Ac];simp;omega),Bfl h];rfl
theorem Axp(b s:List UInt8)(h:b.length<s.length):Kg s b=some (Pf b s):=by
 rw[Kg,Hp,Aau (by rw[Ea,Ac,Ac];simp;omega),Ac,Dl (by omega) (by omega),Aa,Aa,Pf,Bhq h,Bjv,Agr];congr 1;rw[Alf,Atu,Atu];exact eq_comm
theorem qQ{b s:List UInt8}(h:¬b.length<s.length):Pf b s=false:=by rw[Pf,Bfl h];rfl
theorem Axw(b:List UInt8):Rr b=some (Pf b ID3||Pf b APX):=by
 obtain⟨q,hq⟩:∃q,Ax=q+3:=⟨Ax-3,by have:=As;omega⟩;have l3:Lf b (q+1) 2=some false:=by rw[Lf,Wv,Aac (by decide)];rfl
 have l2:Lf b (q+2) 1=some (Pf b APX):=by
  rw[Lf,Wv,Aau (by decide),show Ap ([([73,68,51]:LB),([65,80,69,84,65,71,69,88]:LB)]:List LB) 1=some APX from rfl,Aa,show Ad (1:Int) 1=2 from rfl];by_cases h:b.length<APX.length
  ·rw[Aau (by rw[Ae,Ac,Ac];simp;omega),Axp b APX h,Aa];by_cases hb:Pf b APX=true
   ·rw[Aau hb,hb]
   ·rw[Aac hb,l3];simpa using hb
  ·rw[Aac (by rw[Ae,Ac,Ac];simp;omega),l3,qQ h]
 rw[Rr,UB,TI,hq,Lf,Wv,Aau (by decide),show Ap ([([73,68,51]:LB),([65,80,69,84,65,71,69,88]:LB)]:List LB) 0=some ID3 from rfl,Aa,show Ad (0:Int) 1=1 from rfl];by_cases h:b.length<ID3.length
 ·rw[Aau (by rw[Ae,Ac,Ac];simp;omega),Axp b ID3 h,Aa];by_cases hb:Pf b ID3=true
  ·rw[Aau hb,hb];rfl
  ·rw[Aac hb,l2,Bool.eq_false_iff.2 hb];rfl
 ·rw[Aac (by rw[Ae,Ac,Ac];simp;omega),l2,qQ h];rfl
def stS(b:List UInt8):Int×Int×Int×Int×Int×Int×Int:=
 if(Bm b).2=24 then(0,0,0,0,0,0, -1)else if(Bm b).2≠0 then(0,0,0,0,0,0,(Bm b).2)else
 if(Pf (Ih b) ID3||Pf (Ih b) APX)=true then(0,0,0,0,0,0, -1)else
 if(Ej (Ih b)).2.2.2.2.2=24 then(0,0,0,0,0,0, -1)else((Bm b).1+22,(Ej (Ih b)).1,(Ej (Ih b)).2.1,(Ej (Ih b)).2.2.1,(Ej (Ih b)).2.2.2.1,(Ej (Ih b)).2.2.2.2.1,(Ej (Ih b)).2.2.2.2.2)
theorem Zr(b:List UInt8)(hb:b.length<=100000):AE b=some (stS b):=by
 rw[AE,GU,BC b (by omega),Aa,stS];have hok:=BN (b:=b);simp only;by_cases h1:(Bm b).2=24
 ·rw[Aau (by rw[Ar];simpa using h1),Aau h1]
 rw[Aac (by rw[Ar];simpa using h1),Aac h1];by_cases h2:(Bm b).2≠0
 ·rw[Aau (by rw[Aj];simpa using h2),Aau h2]
 have h0:(Bm b).2=0:=by simpa using h2
 obtain⟨k1,k2,k3⟩:=hok h0;rw[Aac (by rw[Aj,h0];simp),Aac h2,Bs (by omega) (by omega),Aa,Ahc,Aa,show b.drop (Bm b).1.toNat=Ih b from rfl,show([73,68,51]:LB)=ID3 from rfl,show([65,80,69,84,65,71,69,88]:LB)=APX from rfl];by_cases h3:Pf (Ih b) ID3=true
 ·rw[Aau h3,h3,Bool.true_or,Aau rfl]
 rw[Aac h3,Ahc,Aa,Bool.eq_false_iff.2 h3,Bool.false_or];by_cases h4:Pf (Ih b) APX=true
 ·rw[Aau h4,Aau h4]
 have hl:(Ih b).length<=b.length:=by rw[Ih,Ajb];omega
 rw[Aac h4,Aac h4,GN,FM,fJ _ (by omega),Aa];simp only;by_cases h5:(Ej (Ih b)).2.2.2.2.2=24
 ·rw[Aau (by rw[Ar];simpa using h5),Aau h5]
 ·rw[Aac (by rw[Ar];simpa using h5),Aac h5,Ah (by omega) (by omega)]
theorem Oo{p q:LB}{n:Nat}(h:n<=p.length):(p++q).take n=p.take n:=by rw[Be4 h]
theorem xR{p q:LB}{i:Nat}(h:i<p.length):(p++q).getD i 0=p.getD i 0:=by
 rw[List.getD_eq_getElem?_getD,List.getElem?_append_left h,<-List.getD_eq_getElem?_getD]
theorem Ru{p q:LB}{a w:Nat}(h:a+w<=p.length):part (p++q) a w=part p a w:=by rw[part,Oo h,part]
theorem Ayw{p q s:LB}(h:Pf p s=false)(hl:p.length<s.length):(p++q).take s.length≠s:=by
 intro e;rw[Pf,Bhq hl,Bjv]at h;have h1:p=s.take p.length:=by
  have:=congrArg (List.take p.length) e;rw[Bly,Bev (by omega),Oo (Am4 _),Awj]at this;exact this
 rw[<-h1]at h;simp at h
theorem Ah1{p:LB}(q:LB)(h:(Yq p).2≠24)(h6:Pf p ID3=false):Yq (p++q)=Yq p:=by
 unfold Yq at h⊢;by_cases h3:3<=p.length/\p.take 3=[73,68,51]
 ·have h3':3<= (p++q).length/\ (p++q).take 3=[73,68,51]:=⟨by rw[Aav];omega,by rw[Oo h3.1];exact h3.2⟩;have n1:¬ ¬(3<=p.length/\p.take 3=[73,68,51]):=λf=>f h3;have n2:¬ ¬(3<= (p++q).length/\ (p++q).take 3=[73,68,51]):=λf=>f h3';rw[Aac n1]at h;rw[Aac n1,Aac n2];by_cases h10:p.length<10
  ·rw[Aau h10]at h;exact absurd rfl h
  ·have h10':¬(p++q).length<10:=by rw[Aav];omega
   rw[Aac h10]at h;rw[Aac h10,Aac h10',Ru (by omega),xR (by omega),xR (by omega),xR (by omega)];split
   ·rfl
   ·rename_i hc;rw[Aac hc]at h;unfold Aa0 gB at h⊢;rw[xR (by omega)];generalize(cT (part p 6 4) 0).1+10+(if p.getD 5 0=16 then 10 else 0)=n at h⊢;by_cases c1:4000<n
    ·rw[Aau c1,Aau c1]
    ·rw[Aac c1]at h;rw[Aac c1,Aac c1];by_cases c2:(p.length:Int)<n
     ·rw[Aau c2]at h;exact absurd rfl h
     ·have c2':¬((p++q).length:Int)<n:=by rw[Aav];omega
      rw[Aac c2,Aac c2',Oo (by omega),Ru (by omega)]
 ·rw[Aau h3,Aau];rintro⟨_,h5⟩;by_cases hl:3<=p.length
  ·rw[Oo hl]at h5;exact h3 ⟨hl,h5⟩
  ·exact Ayw h6 (by simp[ID3];omega) h5
theorem Ap7{p:LB}(q:LB)(h:(Li p).2≠24)(h6:Pf p APX=false):Li (p++q)=Li p:=by
 unfold Li at h⊢;by_cases h3:8<=p.length/\p.take 8=APE
 ·have h3':8<= (p++q).length/\ (p++q).take 8=APE:=⟨by rw[Aav];omega,by rw[Oo h3.1];exact h3.2⟩;have n1:¬ ¬(8<=p.length/\p.take 8=APE):=λf=>f h3;have n2:¬ ¬(8<= (p++q).length/\ (p++q).take 8=APE):=λf=>f h3';rw[Aac n1]at h;rw[Aac n1,Aac n2];by_cases h10:p.length<32
  ·rw[Aau h10]at h;exact absurd rfl h
  ·have h10':¬(p++q).length<32:=by rw[Aav];omega
   have eb:GZ (p++q)=GZ p:=by rw[GZ,GZ,Ru (by omega),Ru (by omega)]
   rw[Aac h10]at h;rw[Aac h10,Aac h10',Ru (by omega),Ru (by omega),eb,Oo (n:=32) (by omega)];split
   ·rfl
   ·rename_i hc;rw[Aac hc]at h;by_cases c2:p.length<Fz (part p 12 4)+32
    ·rw[Aau c2]at h;exact absurd rfl h
    ·have c2':¬(p++q).length<Fz (part p 12 4)+32:=by rw[Aav];omega
     rw[Aac c2,Aac c2',Oo (by omega)]
 ·rw[Aau h3,Aau];rintro⟨_,h5⟩;by_cases hl:8<=p.length
  ·rw[Oo hl]at h5;exact h3 ⟨hl,h5⟩
  ·exact Ayw h6 (by simp[APX];omega) h5
theorem zK{p:LB}(q:LB)(h:(Db p).2≠24)(h6:(Db p).2=6->Pf p ID3=false/\Pf p APX=false):Db (p++q)=Db p:=by
 have Bhh:∀s:LB,s.length<=p.length->Pf p s=false:=λs hs=>qQ (by omega);unfold Db at h h6⊢;by_cases hT:(Yq p).2≠6
 ·rw[Aau hT]at h⊢;have h3:Pf p ID3=false:=by
   refine Bhh _ ?_;unfold Yq at hT;by_cases h3:3<=p.length/\p.take 3=[73,68,51]
   ·simp[ID3];omega
   ·rw[Aau h3]at hT;exact absurd rfl hT
  rw[Ah1 q h h3,Aau hT]
 ·rw[Aac hT]at h h6⊢;have hb:Pf p ID3=false/\Pf p APX=false:=by
   by_cases hA:(Li p).2=6
   ·exact h6 hA
   ·unfold Li at hA;by_cases h3:8<=p.length/\p.take 8=APE
    ·exact⟨Bhh _ (by simp[ID3];omega),Bhh _ (by simp[APX];omega)⟩
    ·rw[Aau h3]at hA;exact absurd rfl hA
  have hT':¬(Yq (p++q)).2≠6:=by
   rw[Ah1 q (by simp only[ne_eq,Classical.not_not]at hT;rw[hT];decide) hb.1];exact hT
  rw[Aac hT',Ap7 q h hb.2]
theorem Ae2{p:LB}(q:LB):∀(j s j':Nat),s<=p.length->p.length-s<j->p.length+q.length-s<j'-> (Cp p j s).2≠24->
  ((Cp p j s).2=0->Pf (p.drop (s+(Cp p j s).1.sum.toNat)) ID3=false/\Pf (p.drop (s+(Cp p j s).1.sum.toNat)) APX=false)->Cp (p++q) j' s=Cp p j s
 |0,s,j',_,hj,_,_,_=>absurd hj (Bfn _)
 |j+1,s,0,_,_,hj,_,_=>absurd hj (Bfn _)
 |j+1,s,j'+1,hs,hj,hj',h,hb=>by
  have ed:(p++q).drop s=p.drop s++q:=Awo hs;rw[Cp]at h hb⊢;rw[Cp,ed];by_cases h6:(Db (p.drop s)).2=6
  ·rw[Aau h6]at h hb⊢;have hb':=hb rfl;simp only[Bk2,Blz,Bhl]at hb';rw[zK q (by rw[h6];decide) (λ_=>hb'),Aau h6]
  ·rw[Aac h6]at h hb⊢;by_cases h0:(Db (p.drop s)).2≠0
   ·rw[Aau h0]at h⊢;rw[zK q h (λe=>absurd e h6),Aac h6,Aau h0]
   ·rw[Aac h0]at h hb⊢;have h0':(Db (p.drop s)).2=0:=by simpa using h0
    have e1:Db (p.drop s++q)=Db (p.drop s):=zK q (by rw[h0'];decide) (λe=>absurd e h6);rw[e1,Aac h6,Aac h0];have hok:=oJ (b:=p.drop s) (n:=(Db (p.drop s)).1) (by rw[<-h0']);rw[Ajb]at hok;by_cases hm:4000<(s:Int)+(Db (p.drop s)).1
    ·rw[Aau hm,Aau hm]
    ·rw[Aac hm]at h hb⊢;rw[Aac hm];have hl1:s+(Db (p.drop s)).1.toNat<=p.length:=by omega
     have ih:=Ae2 (p:=p) q j (s+(Db (p.drop s)).1.toNat) j' hl1 (by omega) (by omega);by_cases hr:(Cp p j (s+(Db (p.drop s)).1.toNat)).2=0
     ·rw[Aau hr]at hb⊢;have hle1:s+(Db (p.drop s)).1.toNat<=p.length:=by omega
      have hle2:s+(Db (p.drop s)).1.toNat<=4000:=by omega
      have hi:=(rH p j (s+(Db (p.drop s)).1.toNat) hle1 hle2 hr).1;have hsum:(0:Int)<= (Cp p j (s+(Db (p.drop s)).1.toNat)).1.sum:=by
       have:∀l:List Int,(∀x∈l,10<=x)->0<=l.sum:=by
        intro l
        induction l with
        |nil=>intro _;simp
        |cons a l ih=>intro h;rw[Bdp];have:=h a (by simp);have:=ih (λx hx=>h x (by simp[hx]));omega
       exact this _ hi
      rw[ih (by rw[hr];decide) (λ_=>by
       have:=hb rfl;simp only[Bdp]at this;rw[show s+((Db (p.drop s)).1+(Cp p j (s+(Db (p.drop s)).1.toNat)).1.sum).toNat=s+(Db (p.drop s)).1.toNat+(Cp p j (s+(Db (p.drop s)).1.toNat)).1.sum.toNat by omega]at this;exact this),Aau hr]
     ·rw[Aac hr]at h⊢;rw[ih h (λe=>absurd e hr),Aac hr]
theorem Ael{p:LB}(q:LB)(h:(Bm p).2≠24)(hb:(Bm p).2=0->Pf (Ih p) ID3=false/\Pf (Ih p) APX=false):Bm (p++q)=Bm p:=by
 have key:Cp (p++q) ((p++q).length+1) 0=Cp p (p.length+1) 0:=by
  refine Ae2 q (p.length+1) 0 ((p++q).length+1) (Nat.zero_le _) (by omega) (by rw[Aav];omega) ?_ ?_
  ·unfold Bm Aea at h;by_cases h0:(Cp p (p.length+1) 0).2=0
   ·rw[h0];decide
   ·rw[Aac h0]at h;exact h
  ·intro h0;have e:Bm p=(((0:Nat):Int)+(Cp p (p.length+1) 0).1.sum,0):=by unfold Bm Aea;rw[Aau h0]
   have:=hb (by rw[e]);rw[Ih,e]at this;simpa using this
 unfold Bm Aea;rw[key]
theorem Avs{p:LB}(q:LB)(h:(Ej p).2.2.2.2.2≠24):Ej (p++q)=Ej p:=by
 unfold Ej at h⊢;by_cases h1:p.take (min 4 p.length)≠Ph.take (min 4 p.length)
 ·have h1':(p++q).take (min 4 (p++q).length)≠Ph.take (min 4 (p++q).length):=by
   intro e;have hle:min 4 p.length<=min 4 (p++q).length:=by rw[Aav];omega
   have:=congrArg (List.take (min 4 p.length)) e;rw[Bly,Bly,Bev hle,Oo (by omega)]at this;exact h1 this
  rw[Aau h1,Aau h1']
 ·rw[Aac h1]at h;by_cases h2:p.length<22
  ·rw[Aau h2]at h;exact absurd rfl h
  ·have h2':¬(p++q).length<22:=by rw[Aav];omega
   have h1':¬(p++q).take (min 4 (p++q).length)≠Ph.take (min 4 (p++q).length):=by
    rw[Bev (by omega)]at h1⊢;rw[Oo (by omega)];exact h1
   have e0:f0 (p++q)=f0 p:=by unfold f0;rw[Ru (by omega)]
   have e1:f1 (p++q)=f1 p:=by unfold f1;rw[Ru (by omega)]
   have e2:f2 (p++q)=f2 p:=by unfold f2;rw[Ru (by omega)]
   have e3:f3 (p++q)=f3 p:=by unfold f3;rw[Ru (by omega)]
   have e4:f4 (p++q)=f4 p:=by unfold f4;rw[Ru (by omega)]
   rw[Aac h1,Aac h1',Aac h2,Aac h2',e0,e1,e2,e3,e4,Oo (by omega),Ru (by omega)]
theorem Bbv{p:LB}(q:LB)(h:(stS p).2.2.2.2.2.2≠ -1):stS (p++q)=stS p:=by
 unfold stS at h⊢;by_cases h1:(Bm p).2=24
 ·rw[Aau h1]at h;exact absurd rfl h
 rw[Aac h1]at h;by_cases h2:(Bm p).2≠0
 ·rw[Ael q h1 (λe=>absurd e h2),Aac h1,Aau h2,Aac h1,Aau h2]
 rw[Aac h2]at h;have h0:(Bm p).2=0:=by simpa using h2
 by_cases h3:(Pf (Ih p) ID3||Pf (Ih p) APX)=true
 ·rw[Aau h3]at h;exact absurd rfl h
 rw[Aac h3]at h;have h3f:Pf (Ih p) ID3=false/\Pf (Ih p) APX=false:=by
  simp only[Bool.not_eq_true,Blh]at h3;exact h3
 have eF:=Ael q h1 (λ_=>h3f);obtain⟨k1,k2,k3⟩:=BN h0;have eH:Ih (p++q)=Ih p++q:=by rw[Ih,eF,Ih,Awo (by omega)]
 by_cases h5:(Ej (Ih p)).2.2.2.2.2=24
 ·rw[Aau h5]at h;exact absurd rfl h
 have eR:Ej (Ih p++q)=Ej (Ih p):=Avs q h5;have beg:∀s:LB,Pf (Ih p) s=false-> (s=ID3\/s=APX)->Pf (Ih p++q) s=false:=by
  intro s hs hk;by_cases hl:(Ih p++q).length<s.length
  ·have hp:(Ih p).length<s.length:=by rw[Aav]at hl;omega
   rw[Pf,Bhq hp,Bjv]at hs;rw[Pf,Bhq hl,Bjv];refine beq_eq_false_iff_ne.2 λe=>?_;have:=congrArg (List.take (Ih p).length) e;rw[Oo (Am4 _),Awj,Bly,Bev (by rw[Aav];omega)]at this;rw[<-this]at hs;simp at hs
  ·exact qQ hl
 rw[eF,eH,eR,Aac h1,Aac h2,beg _ h3f.1 (.inl rfl),beg _ h3f.2 (.inr rfl),Aac (by decide),Aac h5,Aac h1,Aac h2,Aac h3]
theorem Avz{p:LB}(q:LB)(n:Nat)(h:(Ek p n).2≠24):Ek (p++q) n=Ek p n:=by
 unfold Ek at h⊢;by_cases h1:1<=n/\n<=1000
 ·have n1:¬ ¬(1<=n/\n<=1000):=λf=>f h1;rw[Aac n1]at h;rw[Aac n1,Aac n1];by_cases h2:p.length<4*n+4
  ·rw[Aau h2]at h;exact absurd rfl h
  ·have h2':¬(p++q).length<4*n+4:=by rw[Aav];omega
   have et:RU (p++q) n=RU p n:=by
    unfold RU;refine Bkp λi hi=>?_;rw[List.mem_range]at hi;rw[Ru (by omega)]
   rw[Aac h2,Aac h2',Oo (by omega),Ru (by omega),et]
 ·rw[Aau h1,Aau h1]
def Apj(g a:LB)(k p o u v:Int)(f:LI)(b:Int)(h:LB)(m:Bool)(n:Int):Option Int:=
if(geq k 0)then
(If a).bind λ(al,ba)=>
if(geq ba 24)then
Fk true 0
else
if(Bc ba 0)then
(Am ba).bind λ(bx,bz)=>
Fk bx bz
else
(Br a al (Ac a)).bind λda=>
(Rr da).bind λan=>
if an then
Fk true 0
else
(Br a al (Ac a)).bind λdb=>
(Lh db).bind λ(ae,af,aa,ag,ab,bb)=>
if(geq bb 24)then
Fk true 0
else
if(Bc bb 0)then
(Am bb).bind λ(dc,dd)=>
Fk dc dd
else
(
(Br a (Ad al 22) (Ac a)).bind λak=>
(
Yi g ak ae af aa ag ab b m n f h))
else
if(geq (Ac f) 0)then
if(geq k 2)then
if(Cv (Ac a) 8)then
Ks true 0
else
Yl g a k p o u v b m n f h
else
Kb g a k p o u v b m n f h 0
else
if(Cv b (Ac f))then
(Ap f b).bind λ_=>
(Ap f b).bind λw=>
if(Cv (Ac a) w)then
Ie true 0
else
(Uf g).bind λ(ap,am)=>
if(Bc am 0)then
(Am am).bind λ(de,df)=>
Ie de df
else
(Dw k p o u v).bind λ(ad,dg)=>
if((Bc dg 0)||(Nk b (Ac ad)))then
(Am 8).bind λ(dh,di)=>
Ie dh di
else
Yn w g a k p o u v b m n ap ad f h
else
if(Eh (Ac a) 4000)then
(Am 38).bind λ(dj,bf)=>
By ((dj==true)&&((geq bf 0)&&true))
else
Ys
theorem uF(d:Bool)(e:Int):Fk d e=By (d&&geq e 0):=by
 rw[Fk,KH];cases d<;>simp
theorem Ad1(d:Bool)(e:Int):Ks d e=By (d&&geq e 0):=by
 rw[Ks,KW];cases d<;>simp
theorem Arc(d:Bool)(e:Int):Ie d e=By (d&&geq e 0):=by
 rw[Ie,LH];cases d<;>simp
theorem rp4{o p:LB}{f c w r n:Int}{g:LI}{a:Int}{x:LB}{u:Bool}{v:Int}{t1 t2:LB}{t3 t4 t5 t6 t7:Int}{t8:LI}{t9:Int}{t10:LB}{t11:Bool}{t12 e:Int}
  (h:Ag o p f c w r n g a x u v=some (t1,t2,t3,t4,t5,t6,t7,t8,t9,t10,t11,t12,e)):Ct o p f c w r n g a x u v=some (geq e (-1)):=by
 rw[Ct,Xp,h,Aa]
theorem iF{e:Int}(h:0<=e):geq e (-1)=false:=by rw[Ar,Blu];omega
theorem At6(o p:LB)(c w r n:Int)(g:LI)(a:Int)(x:LB)(u:Bool)(v:Int)(hp:p.length<=100000):
  ∃B:Bool,Apj o p 0 c w r n g a x u v=By B/\Ct o p 0 c w r n g a x u v=some B:=by
 have hT:Ag o p 0 c w r n g a x u v=Ag o p 0 c w r n g a x u v:=rfl
 conv at hT=>rhs;rw[Ag,Bo,Aau (by decide),Zr p hp,Aa,stS]
 have hfn:=xU p;have hrn:=Adm (Ih p);rw[Apj,Aau (by decide),Io p (by omega),Aa];have hok:=BN (b:=p);simp only at hT⊢;by_cases h1:(Bm p).2=24
 ·rw[Aau h1]at hT;simp only at hT;rw[Aau (by decide)]at hT;rw[Aau (by rw[Ar];simpa using h1),uF];exact⟨_,rfl,rp4 hT⟩
 rw[Aac h1]at hT;rw[Aac (by rw[Ar];simpa using h1)];by_cases h2:(Bm p).2≠0
 ·rw[Aau h2]at hT;simp only at hT;rw[Aau (by rw[Aj];simpa using h2)]at hT;rw[Aau (by rw[Aj];simpa using h2),Am,Aa];simp only;rw[uF];exact⟨_,rfl,(rp4 hT).trans (by rw[iF hfn];rfl)⟩
 have h0:(Bm p).2=0:=by simpa using h2
 obtain⟨k1,k2,k3⟩:=hok h0;have hl:(Ih p).length=p.length-(Bm p).1.toNat:=by rw[Ih,Ajb]
 rw[Aac h2]at hT;rw[Aac (by rw[Aj,h0];simp),Bs (by omega) (by omega),Aa,Aa,show p.drop (Bm p).1.toNat=Ih p from rfl,Axw,Aa];by_cases h3:(Pf (Ih p) ID3||Pf (Ih p) APX)=true
 ·rw[Aau h3]at hT⊢;simp only at hT;rw[Aau (by decide)]at hT;rw[uF];exact⟨_,rfl,rp4 hT⟩
 rw[Aac h3]at hT⊢;rw[Xd _ (by omega),Aa];by_cases h5:(Ej (Ih p)).2.2.2.2.2=24
 ·rw[Aau h5]at hT;simp only at hT;rw[Aau (by decide)]at hT;rw[Aau (by rw[Ar];simpa using h5),uF];exact⟨_,rfl,rp4 hT⟩
 rw[Aac h5]at hT;rw[Aac (by rw[Ar];simpa using h5)];simp only at hT;by_cases h6:(Ej (Ih p)).2.2.2.2.2≠0
 ·rw[Aau (by rw[Aj];simpa using h6)]at hT⊢;rw[Am,Aa];simp only;rw[uF];exact⟨_,rfl,(rp4 hT).trans (by rw[iF hrn];rfl)⟩
 have h7:(Ej (Ih p)).2.2.2.2.2=0:=by simpa using h6
 have h22:=(pR h7).2.1;rw[Aac (by rw[Aj,h7];simp),Bs (by omega) (by omega),Aa,Hg,Hj,Eu]at hT;rw[Aac (by rw[Aj,h7];simp),Ah (by omega) (by omega),Bs (by omega) (by omega),Aa,Yi,HO,Qj];simp only;by_cases h8:((o==([]:LB)) !=geq (Ej (Ih p)).1 1)=true
 ·rw[Aau h8]at hT⊢;rw[Aa]at hT⊢;rw[Am,Aa];simp only;rw[uF];exact⟨_,rfl,rp4 hT⟩
 ·rw[Aac h8]at hT⊢;rw[Aa]at hT⊢;rw[Am,Aa];simp only;rw[uF];exact⟨_,rfl,rp4 hT⟩
section
variable {f c w r n:Int} {F C W R N:Nat} (hd:HdI f c w r n F C W R N)
include hd
theorem HdI.ne0:¬(geq f 0=true):=by
 have:=hd.num;rw[Ar,Atu,hd.ef];omega
theorem zC(o p:LB)(hp:p.length<=100000)(A:Nat)(hA:A<=p.length)(a:Int)(x:LB)(u:Bool)(v:Int):
  (Kb o p f c w r n a u v [] x (A:Int)=By (decide ((Ek (p.drop A) (Al (Ak R) N).length).2=24)))/\
  Du p f c w r n (A:Int)=some (if(Ek (p.drop A) (Al (Ak R) N).length).2=24 then(0,[], -1)else((A:Int)+(4*((Ek (p.drop A) (Al (Ak R) N).length).1.length:Int)+4),(Ek (p.drop A) (Al (Ak R) N).length).1,(Ek (p.drop A) (Al (Ak R) N).length).2))/\
  ((Ek (p.drop A) (Al (Ak R) N).length).2=0-> (A:Int)+(4*((Ek (p.drop A) (Al (Ak R) N).length).1.length:Int)+4)<=p.length):=by
 have hs:=rI (p.drop A) (Al (Ak R) N).length (by rw[Ajb];omega);have hr:=Ac7 (p.drop A) (Al (Ak R) N).length (by rw[Ajb];omega);have hok:=gJ (b:=p.drop A) (n:=(Al (Ak R) N).length);have hlen:(Ek (p.drop A) (Al (Ak R) N).length).1.length<=1000:=by
  unfold Ek
  repeat' split
  all_goals simp[Va]
  all_goals omega
 have hfit:(Ek (p.drop A) (Al (Ak R) N).length).2=0-> (A:Int)+(4*((Ek (p.drop A) (Al (Ak R) N).length).1.length:Int)+4)<=p.length:=by
  intro h0;obtain⟨k1,k2,k3,k4,_⟩:=hok h0;rw[k1];simp only[Va];rw[Ajb]at k4;omega
 refine⟨?_,?_,hfit⟩
 ·rw[Kb,IB,hd.zE,Aa];simp only;rw[Aac (by decide),Bs (by omega) (by omega),Aa,Agr,Ac,hs,Aa];generalize Ek (p.drop A) (Al (Ak R) N).length=z at*
  obtain⟨z1,z2⟩:=z;simp only at*
  by_cases h1:z2=24
  ·rw[Aau (by rw[Ar];simpa using h1),Ad1,Bhq h1];rfl
  rw[Aac (by rw[Ar];simpa using h1),Bfl h1];by_cases h2:z2≠0
  ·rw[Aau (by rw[Aj];simpa using h2),Am,Aa];simp only;rw[Ad1];rfl
  ·have h0:z2=0:=by simpa using h2
   have:=hfit h0;rw[Aac (by rw[Aj,h0];simp),Ac,Af8 A z1.length (by omega) (by omega),Bs (by omega) (by omega),Aa,Ad1];rfl
 ·rw[Du,IA,Bs (by omega) (by omega),Aa,hd.Akc,Aa,Ac,Agr,hr,Aa];generalize Ek (p.drop A) (Al (Ak R) N).length=z at*
  obtain⟨z1,z2⟩:=z;simp only at*
  rw[KM,JJ];by_cases h1:z2=24
  ·rw[Aau (by rw[Ar];simpa using h1),Aau h1]
  ·rw[Aac (by rw[Ar];simpa using h1),Aac h1,Ac,Af8 A z1.length (by omega) (by omega)];congr 2
theorem Bct(o p:LB)(ho:o.length<=64)(hp:p.length<=100000)(a:Int)(x:LB)(u:Bool)(v:Int):
  ∃B:Bool,Apj o p f c w r n [] a x u v=By B/\Ct o p f c w r n [] a x u v=some B:=by
 have hT:Ag o p f c w r n [] a x u v=Ag o p f c w r n [] a x u v:=rfl
 conv at hT=>rhs;rw[Ag,Bo,Aac hd.ne0,Bv,Bt,Aau (by decide),Fg,Hq]
 rw[Apj,Aac hd.ne0,Aau (by decide)];have fin:∀A:Nat,A<=p.length->Ag o p f c w r n [] a x u v=(Du p f c w r n (A:Int)).bind (λ(ag,ak,w1)=>
   if(Bc w1 0)then some (o,p,f,c,w,r,n,[],a,x,u,v,w1)else(Br p ag (Ac p)).bind λal=>some (o,al,f,c,w,r,n,ak,a,x,u,v,0))->
   ∃B:Bool,Kb o p f c w r n a u v [] x (A:Int)=By B/\Ct o p f c w r n [] a x u v=some B:=by
  intro A hA hT;obtain⟨t1,t2,t3⟩:=zC hd o p hp A hA a x u v;have hnn:=Ac2 (p.drop A) (Al (Ak R) N).length;rw[t2,Aa]at hT;rw[t1];generalize Ek (p.drop A) (Al (Ak R) N).length=z at*
  obtain⟨z1,z2⟩:=z;simp only at*
  by_cases h1:z2=24
  ·rw[Aau h1]at hT;simp only at hT;rw[Aau (by decide)]at hT;exact⟨_,rfl,(rp4 hT).trans (by rw[Bhq h1];rfl)⟩
  rw[Aac h1]at hT;simp only at hT;by_cases h2:z2≠0
  ·rw[Aau (by rw[Aj];simpa using h2)]at hT;exact⟨_,rfl,(rp4 hT).trans (by rw[Bfl h1,iF hnn])⟩
  ·have h0:z2=0:=by simpa using h2
   have:=t3 h0;rw[Aac (by rw[Aj,h0];simp),Bs (by omega) (by omega),Aa]at hT;exact⟨_,rfl,(rp4 hT).trans (by rw[Bfl h1];rfl)⟩
 by_cases h2:geq f 2=true
 ·rw[Aau h2]at hT⊢;by_cases h8:p.length<8
  ·rw[Aau (by rw[Ae,Ac];simp;omega)]at hT⊢;rw[Aa]at hT;simp only at hT;rw[Aau (by decide)]at hT;rw[Ad1];exact⟨_,rfl,rp4 hT⟩
  ·rw[Aac (by rw[Ae,Ac];simp;omega)]at hT⊢;have h8':(p.take 8).length=8:=by rw[Ag1];omega
   rw[Dl (by omega) (by omega),Aa,fZ o ho,Aa]at hT;rw[Yl,HN,Dl (by omega) (by omega),Aa,show(8:Int).toNat=8 from rfl,pJ h8' ho,Aa];rw[show(8:Int).toNat=8 from rfl]at hT;simp only;rw[IF,IE,Aac (by decide)];by_cases he:(p.take 8==Ry (Lg o).toNat 8)=true
   ·rw[Aac (by rw[bne,he];decide)]at hT;rw[Aac (by rw[he];decide)];exact fin 8 (by omega) hT
   ·have he':(p.take 8==Ry (Lg o).toNat 8)=false:=by simpa using he
    rw[Aau (by rw[bne,he'];decide),Aa]at hT;simp only at hT;rw[Aau (by decide)]at hT;rw[Aau (by rw[he'];decide),Am,Aa];simp only;rw[Ad1];exact⟨_,rfl,rp4 hT⟩
 ·rw[Aac h2]at hT⊢;exact fin 0 (by omega) hT
end
theorem Av1{f c w r n:Int}{F C W R N:Nat}(hd:HdI f c w r n F C W R N)(o p:LB)(ho:o.length<=64)(hp:p.length<=100000)(g:LI)(hg:Vb g=true)(hl:g.length=(Al (Ak R) N).length)(A:Nat)(hA:A<=g.length)(x:LB)(hx:x.length<=14000000)(u:Bool)(v:Int):
  ∃B:Bool,Apj o p f c w r n g (A:Int) x u v=By B/\Ct o p f c w r n g (A:Int) x u v=some B:=by
 have hc:=hd.ec;subst hc;have hg':=hg;rw[Vb,Abt,Abk,DO g 100000 (by omega)]at hg';obtain⟨⟨g1,g2⟩,g5,g6⟩:=hg';have hT:Ag o p f (C:Int) w r n g (A:Int) x u v=Ag o p f (C:Int) w r n g (A:Int) x u v:=rfl
 conv at hT=>rhs;rw[Ag,Bo,Aac hd.ne0,Bv,Bt,Aac (by rw[Ar,Ac];simp;intro e;subst e;simp at g1)]
 rw[Apj,Aac hd.ne0,Aac (by rw[Ar,Ac];simp;intro e;subst e;simp at g1)];by_cases hA2:A=g.length
 ·subst hA2;rw[Aau (by rw[Ar,Ac];simp)]at hT;rw[Aac (by rw[Ae,Ac];simp)];by_cases h4:4000<p.length
  ·rw[Aau (by rw[Aq,Ac];simp;omega)]at hT⊢;rw[Am,Aa];simp only;exact⟨_,rfl,rp4 hT⟩
  ·rw[Aac (by rw[Aq,Ac];simp;omega)]at hT⊢;rw[Ys,LV];exact⟨_,rfl,rp4 hT⟩
 ·have hlt:A<g.length:=by omega
  have h5:=g5 g[A] (Ami hlt);have hsum:=yP g5 g[A] (Ami hlt);rw[Aac (by rw[Ar,Ac];simp;omega),Dh,Em,Bq hlt,Aa]at hT;rw[Aau (by rw[Ae,Ac];simp;omega),Bq hlt,Aa,Aa];by_cases hw:(p.length:Int)<g[A]
  ·rw[Aau (by rw[Ae,Ac];simpa using hw)]at hT⊢;rw[Aa]at hT;simp only at hT;rw[Aau (by decide)]at hT;rw[Arc];exact⟨_,rfl,rp4 hT⟩
  rw[Aac (by rw[Ae,Ac];simpa using hw)]at hT⊢;have DM:=hd.num;have hlt2:A<(Al (Ak R) N).length:=by omega
  obtain⟨m,hm,m1,m2⟩:=Wo (Ex R) DM.2.2.2.2.1 (Ami hlt2);have hb:Bk w:=by rw[hd.ew];unfold Bk;omega
  obtain⟨xs,e,d1,d2,d3,d4⟩:=FT (bits:=w) (ch:=C) (n:=m) (t:=Js o) (p.take g[A].toNat) hb (Mg o) DM.2.1.1 DM.2.1.2 m1 (by omega);have hnn:=rC hb (Mg o) DM.2.1.1 DM.2.1.2 m1 (by omega) d2;rw[gN o ho,Aa];simp only;rw[Aac (by decide),hd.zE,Aa];simp only;rw[Aac (by simp[Aj,Ea,Ac];omega),Yn,KP,Bq hlt2,Aa,Dl (by omega) (by omega),Aa,Aa,CY,Aa];simp only;rw[hm,d1,Aa];simp only;rw[SM o ho,Aa]at hT;simp only at hT;rw[Dl (by omega) (by omega),Aa,Fy,Aa]at hT;simp only at hT;rw[hd.Akc,Aa,Bq hlt2,Aa,Aa,hm]at hT;rw[d2,Aa]at hT;simp only at hT;rw[Eo,Es]at hT;rw[JI,Zc];by_cases he:e≠0
  ·rw[Aau (by rw[Aj];simpa using he)]at hT⊢;rw[Aa]at hT;simp only at hT;rw[Aau (by rw[Aj];simpa using he)]at hT;rw[Am,Aa];simp only;rw[Arc];exact⟨_,rfl,(rp4 hT).trans (by rw[iF hnn];rfl)⟩
  ·have he0:e=0:=by simpa using he
   obtain⟨k1,k2,k3⟩:=d3 he0;have hbl:=FC w xs;rw[Aac (by rw[Aj,he0];simp)]at hT⊢;rw[OD hb k2 k1,Aa,Aa]at hT;simp only at hT;rw[Aac (by decide),Bi (by simp;omega),Aa,Apc,Bi (by omega),Aa,Aa,Bs (by omega) (by omega),Aa]at hT;rw[aQ hb k2 k1,Aa];simp only;rw[Aac (by decide),Bi (by omega),Aa,Bs (by omega) (by omega),Aa,Arc];exact⟨_,rfl,rp4 hT⟩
theorem An2(a:LI)(b:Int)(ha:a.length<=100):∀(j i q:Nat),i+j=a.length->j<q->∃r,Ci a b q (i:Int)=some r/\Nk r 0=(a.drop i).any λy=>b==y
 |0,i,q+1,hi,_=>by
  refine⟨-1,?_,?_⟩
  ·rw[Ci,Fl,Aac (by rw[Ae,Ac];simp;omega)];rfl
  ·rw[show i=a.length by omega,Bje];rfl
 |j+1,i,q+1,hi,hq=>by
  have hlt:i<a.length:=by omega
  obtain⟨r,h1,h2⟩:=An2 a b ha j (i+1) q (by omega) (by omega);rw[Ci,Fl,Aau (by rw[Ae,Ac];simp;omega),Bq hlt,Aa,drop_cons hlt,List.any_cons];by_cases h:b=a[i]
  ·rw[Aau (by rw[Ar];simpa using h)];refine⟨_,rfl,?_⟩;rw[Ea,Bhq (by omega),h];simp
  ·rw[Aac (by rw[Ar];simpa using h),Ah (by omega) (by omega)];refine⟨r,h1,?_⟩;rw[h2,beq_eq_false_iff_ne.2 h,Bool.false_or]
theorem Axh(v:Int):∃B:Bool,Ti v=some B/\AQ v=some B:=by
 obtain⟨r,h1,h2⟩:=An2 [4,12,16,22,24,26,38] v (by decide) 7 0 Ax rfl (by have:=As;omega);refine⟨_,?_,rfl⟩;rw[Ti,Im,Kv,Iq,Ii];have h1':Ci [4,12,16,22,24,26,38] v Ax 0=some r:=h1;rw[h1',Aa,Aa,h2];simp only[Bl0,List.any_cons,List.any_nil,Bool.or_false,Ar,Bool.or_assoc]
theorem uD(B:Bool):By B=some (if B=true then 0 else 8):=by
 rw[By,bV];cases B<;>rfl
theorem Bbb(a b:LB)(f g h k m:Int)(n:LI)(o:Int)(p:LB)(u:Bool)(v:Int)(hb:b.length<=16000000)(hn:n.length<=16000000)(hp:p.length<=16000000):
  Ep a b f g h k m n o p u v=some (a,b,f,g,h,k,m,n,o,p,u,v):=by
 rw[Ep,Mz,Bi (by simp;omega),Aa,Aa,Mz,Bi (by simp;omega),Aa,Aa,Ha,Bi (by simp;omega),Aa,Aa];rfl
theorem Afn(o p:LB)(f c w r n:Int)(g:LI)(a:Int)(x:LB)(u:Bool)(v:Int)(hp:p.length<=100000)(hg:g.length<=100000)(hx:x.length<=14000000):
  ∃E,Pg o p f c w r n g a x u v=some E/\Ed o p f c w r n g a x u v=some E:=by
 rw[Pg,BM,Ed];by_cases ho:64<o.length
 ·rw[Aau (by rw[Aq,Ac];simp;omega),Aau (by rw[Aq,Ac];simp;omega)];exact⟨8,rfl,rfl⟩
 have hO:¬(Eh (Ac o) 64=true):=by rw[Aq,Ac];simp;omega
 rw[Aac hO,Aac hO];by_cases hw:(geq v 0&& !u)=true
 ·rw[Aau hw,Aau hw,Bbb o p f c w r n g a x u v (by omega) (by omega) (by omega),Aa];simp only;rcases Aq6 o p f c w r n g a x u v with⟨e1,e2⟩|⟨e1,e2,hd⟩
  ·rw[e1,e2,Aa,Aa,Aac (by decide),Aau (by decide),uD];exact⟨8,rfl,rfl⟩
  ·rw[e1,e2,Aa,Aau rfl];have key:∃B:Bool,Apj o p f c w r n g a x u v=By B/\Ct o p f c w r n g a x u v=some B:=by
    cases hd with
    |new e1 e2 e3 e4 e5 e6 e7 e8=>subst e1;exact At6 o p c w r n g a x u v hp
    |head F C W R N h hpw e6 e7 e8=>subst e6;exact Bct h o p (by omega) hp a x u v
    |tab F C W R N A h hpw ht hl ea hA=>subst ea;exact Av1 h o p (by omega) hp g ht hl A hA x hx u v
   obtain⟨B,k1,k2⟩:=key;rw[k2,Aa];refine⟨if B=true then 0 else 8,k1.trans (uD B),?_⟩;cases B<;>rfl
 ·rw[Aac hw,Aac hw];by_cases hl:(geq (Ac p) 0&&geq (Ac g) 0)=true
  ·rw[Aau hl,Aau hl];generalize(geq f 0&&(geq c 0&&(geq w 0&&(geq r 0&&(geq n 0&&true)))))=z;by_cases hz:((z&&geq a 0)&&gle (Ac x) 12000)=true
   ·rw[Aau hz];simp only[Abt,US,Ac,Abk]at hz;obtain⟨⟨z1,z2⟩,z3⟩:=hz;have hN:¬((!(z&&geq a 0)||Eh (Ac x) 12000)=true):=by rw[z1,z2,Aq,Ac];simp;omega
    rw[Aac hN];by_cases hv:v=0
    ·have v1:geq v 0=true:=by rw[Ar];simpa using hv
     have v2:¬(Bc v 0=true):=by rw[Aj];simpa using hv
     rw[Aau v1,Aac v2,uD];exact⟨0,rfl,rfl⟩
    ·have v1:¬(geq v 0=true):=by rw[Ar];simpa using hv
     have v2:Bc v 0=true:=by rw[Aj];simpa using hv
     rw[Aac v1,Aau v2];obtain⟨B,k1,k2⟩:=Axh v;rw[k1,k2,Aa,Aa,uD,uD];cases u
     ·refine⟨if B=true then 0 else 8,by simp,?_⟩;cases B<;>rfl
     ·exact⟨8,rfl,rfl⟩
   ·rw[Aac hz,Aau,uD]
    ·exact⟨8,rfl,rfl⟩
    ·simp only[Abt,US,Ac,Abk]at hz;simp only[Ba0,Awn,Aq,Ac,Abk];by_cases hz2:(z&&geq a 0)=true
     ·rw[Abt]at hz2;exact .inr (by have hq:¬((x.length:Int)<=12000):=λh=>hz ⟨hz2,h⟩;omega)
     ·exact .inl (by simpa using hz2)
  ·rw[Aac hl,Aac hl,Aac (by simp),Aau (by simp),uD];exact⟨8,rfl,rfl⟩
def YB(bk:LB->Int->Int->Int->Int->Int->Int->LI->LB->Au)(o:LB)(u:Bool)(v:Int):LB->Int->Int->Int->Int->Int->Int->LI->LB->Au:=
 Jm (Pn bk o u v) (Ux bk o u v) (Ml bk o u v) (Ur bk o u v) (Mm bk o u v) (Pm bk o u v) (Up bk o u v) (Cl bk o u v) (AZ bk o u v) o u v
structure SzD (p:LB) (g:LI) (a:Int) (x:LB):Prop where
 hp:p.length<=100000
 hg:g.length<=1000
 hx:x.length+12000*(g.length-a.toNat)<=13000000
def muD(f:Int)(g:LI)(a:Int):Nat:=if f=0 then 1003 else if g=[]then 1002 else g.length-a.toNat+1
section
variable {bk:LB->Int->Int->Int->Int->Int->Int->LI->LB->Au} {o p:LB} {f c w r n:Int} {g:LI} {a:Int} {x:LB} {u:Bool} {v:Int}
theorem Bar(hp:p.length<=100000)(hg:g.length<=1000)(hx:x.length<=13000000):Ep o p f c w r n g a x u v=some (o,p,f,c,w,r,n,g,a,x,u,v):=by
 rw[Ep,Mz,Bi (by simp;omega),Aa,Aa,Mz,Bi (by simp;omega),Aa,Aa,Ha,Bi (by simp;omega),Aa,Aa];rfl
theorem Bio(h:SzD p g a x)(e:Int):Cl bk o u v p f c w r n a true e g x=some (o,p,f,c,w,r,n,g,a,x,u,v,0):=by
 rw[Cl,OM,Aau rfl,Bar h.hp h.hg (by have:=h.hx;omega),Aa]
theorem Biu{e:Int}(h:e≠0):Cl bk o u v p f c w r n a false e g x=some (o,[],0,0,0,0,0,[],0,x,false,e,e):=by
 rw[Cl,OM,Aac (by decide),Aau (by rw[Aj];simpa using h)];rfl
inductive StepR (bk:LB->Int->Int->Int->Int->Int->Int->LI->LB->Au) (o p:LB) (f c w r n:Int) (g:LI) (a:Int) (x:LB) (u:Bool) (v:Int):Prop
 |wait:YB bk o u v p f c w r n a g x=some (o,p,f,c,w,r,n,g,a,x,u,v,0)->Ag o p f c w r n g a x u v=some (o,p,f,c,w,r,n,g,a,x,u,v, -1)->StepR bk o p f c w r n g a x u v
 |err (e:Int) {t1 t2:LB} {t3 t4 t5 t6 t7:Int} {t8:LI} {t9:Int} {t10:LB} {t11:Bool} {t12:Int}:0<e->YB bk o u v p f c w r n a g x=some (o,[],0,0,0,0,0,[],0,x,false,e,e)->
   Ag o p f c w r n g a x u v=some (t1,t2,t3,t4,t5,t6,t7,t8,t9,t10,t11,t12,e)->StepR bk o p f c w r n g a x u v
 |next (p':LB) (f' c' w' r' n':Int) (g':LI) (a':Int) (x':LB):YB bk o u v p f c w r n a g x=bk p' f' c' w' r' n' a' g' x'->Ag o p f c w r n g a x u v=some (o,p',f',c',w',r',n',g',a',x',u,v,0)->
   FitD o f' c' w' r' n' g' a' x'->SzD p' g' a' x'->p'.length<=p.length->muD f' g' a'<muD f g a->StepR bk o p f c w r n g a x u v
theorem f62{d:Bool}{e:Int}:Pn bk o u v a g x d e p f c w r n=Cl bk o u v p f c w r n a d e g x:=rfl
theorem f75{d:Bool}{e:Int}:Ml bk o u v f c w r n a x d e p g=Cl bk o u v p f c w r n a d e g x:=rfl
theorem f78{d:Bool}{e:Int}:Pm bk o u v f c w r n g d e p a x=Cl bk o u v p f c w r n a d e g x:=rfl
theorem mkW(hZ:SzD p g a x)(hF:YB bk o u v p f c w r n a g x=Cl bk o u v p f c w r n a true 0 g x)(hT:Ag o p f c w r n g a x u v=some (o,p,f,c,w,r,n,g,a,x,u,v, -1)):StepR bk o p f c w r n g a x u v:=
 .wait (hF.trans (Bio hZ 0)) hT
theorem mkE{e:Int}{p2:LB}{f2 c2 w2 r2 n2 a2:Int}{g2:LI}{t1 t2:LB}{t3 t4 t5 t6 t7:Int}{t8:LI}{t9:Int}{t10:LB}{t11:Bool}{t12:Int}(he:0<e)(hF:YB bk o u v p f c w r n a g x=Cl bk o u v p2 f2 c2 w2 r2 n2 a2 false e g2 x)
  (hT:Ag o p f c w r n g a x u v=some (t1,t2,t3,t4,t5,t6,t7,t8,t9,t10,t11,t12,e)):StepR bk o p f c w r n g a x u v:= .err e he (hF.trans (Biu (by omega))) hT
theorem HdI.fnz{F C W R N:Nat}(h:HdI f c w r n F C W R N):f≠0:=by
 have:=h.num;rw[h.ef];omega
theorem Ay3(hp:p.length<=100000):StepR bk o p 0 0 0 0 0 [] 0 [] u v:=by
 have hZ:SzD p [] 0 []:=⟨hp,by simp,by simp⟩;have hT:Ag o p 0 0 0 0 0 [] 0 [] u v=Ag o p 0 0 0 0 0 [] 0 [] u v:=rfl
 conv at hT=>rhs;rw[Ag,Bo,Aau (by decide),Zr p hp,Aa,stS]
 have hF:YB bk o u v p 0 0 0 0 0 0 [] []=YB bk o u v p 0 0 0 0 0 0 [] []:=rfl
 conv at hF=>rhs;rw[YB,Jm,Aau (by decide),Io p (by omega),Aa]
 have hfn:=xU p;have hrn:=Adm (Ih p);have hok:=BN (b:=p);simp only at hT hF;by_cases h1:(Bm p).2=24
 ·rw[Aau h1]at hT;simp only at hT;rw[Aau (by decide)]at hT;rw[Aau (by rw[Ar];simpa using h1)]at hF;exact mkW hZ hF hT
 rw[Aac h1]at hT;rw[Aac (by rw[Ar];simpa using h1)]at hF;by_cases h2:(Bm p).2≠0
 ·rw[Aau h2]at hT;simp only at hT;rw[Aau (by rw[Aj];simpa using h2)]at hT;rw[Aau (by rw[Aj];simpa using h2),Am,Aa]at hF;exact mkE (by omega) hF hT
 have h0:(Bm p).2=0:=by simpa using h2
 obtain⟨k1,k2,k3⟩:=hok h0;have hl:(Ih p).length=p.length-(Bm p).1.toNat:=by rw[Ih,Ajb]
 rw[Aac h2]at hT;rw[Aac (by rw[Aj,h0];simp),Bs (by omega) (by omega),Aa,Aa,show p.drop (Bm p).1.toNat=Ih p from rfl,Axw,Aa]at hF;by_cases h3:(Pf (Ih p) ID3||Pf (Ih p) APX)=true
 ·rw[Aau h3]at hT hF;simp only at hT;rw[Aau (by decide)]at hT;exact mkW hZ hF hT
 rw[Aac h3]at hT hF;rw[Xd _ (by omega),Aa]at hF;by_cases h5:(Ej (Ih p)).2.2.2.2.2=24
 ·rw[Aau h5]at hT;simp only at hT;rw[Aau (by decide)]at hT;rw[Aau (by rw[Ar];simpa using h5)]at hF;exact mkW hZ hF hT
 rw[Aac h5]at hT;rw[Aac (by rw[Ar];simpa using h5)]at hF;simp only at hT;by_cases h6:(Ej (Ih p)).2.2.2.2.2≠0
 ·rw[Aau (by rw[Aj];simpa using h6)]at hT hF;rw[Am,Aa]at hF;exact mkE (by have:=hrn;generalize(Ej (Ih p)).2.2.2.2.2=z at *;omega) (hF.trans f62) hT
 have h7:(Ej (Ih p)).2.2.2.2.2=0:=by simpa using h6
 obtain⟨r1,h22,r3,r4⟩:=pR h7;rw[Aac (by rw[Aj,h7];simp),Bs (by omega) (by omega),Aa,Hg,Hj,Eu]at hT;rw[Aac (by rw[Aj,h7];simp),Ah (by omega) (by omega),Bs (by omega) (by omega),Aa,Ux,OT,Qj]at hF;simp only at hT hF;by_cases h8:((o==([]:LB)) !=geq (Ej (Ih p)).1 1)=true
 ·rw[Aau h8]at hT hF;rw[Aa]at hT hF;rw[Am,Aa]at hF;simp only at hF;exact mkE (by decide) (hF.trans f62) hT
 ·rw[Aac h8]at hT hF;rw[Aa]at hT hF;rw[Am,Aa]at hF;have hd:HdI (Ej (Ih p)).1 (Ej (Ih p)).2.1 (Ej (Ih p)).2.2.1 (Ej (Ih p)).2.2.2.1 (Ej (Ih p)).2.2.2.2.1 (f0 (Ih p)) (f1 (Ih p)) (f2 (Ih p)) (f3 (Ih p)) (f4 (Ih p)):=by
   constructor<;>first|(rw[r1])|assumption
  refine .next _ _ _ _ _ _ [] 0 [] (by exact hF) hT (.head _ _ _ _ _ hd ?_ rfl rfl rfl) ⟨by rw[Ajb];omega,by simp,by simp⟩ (by rw[Ajb];omega) ?_
  ·have e:geq (Ej (Ih p)).1 1=decide (f0 (Ih p)=1):=by rw[hd.ef,Ar,Alf];simp;omega
   rw[<-e];simpa using h8
  ·rw[muD,muD,Aac hd.fnz,Aau rfl,Aau rfl];omega
section
variable {F C W R N:Nat} (hd:HdI f c w r n F C W R N)
include hd
theorem Ar4(hp:p.length<=100000)(hpw:(o==([]:LB))=decide (F=1))(A:Nat)(hA:A<=p.length)
  (hT:Ag o p f c w r n [] 0 [] u v=(Du p f c w r n (A:Int)).bind (λ(ag,ak,w1)=>if(Bc w1 0)then some (o,p,f,c,w,r,n,([]:LI),(0:Int),([]:LB),u,v,w1)else(Br p ag (Ac p)).bind λal=>some (o,al,f,c,w,r,n,ak,(0:Int),([]:LB),u,v,(0:Int))))
  (hF:YB bk o u v p f c w r n 0 [] []=Mm bk o u v p f c w r n 0 [] [] (A:Int)):StepR bk o p f c w r n [] 0 [] u v:=by
 have hZ:SzD p [] 0 []:=⟨hp,by simp,by simp⟩;obtain⟨_,t2,t3⟩:=zC hd o p hp A hA 0 [] u v;have hs:=rI (p.drop A) (Al (Ak R) N).length (by rw[Ajb];omega);have hnn:=Ac2 (p.drop A) (Al (Ak R) N).length;have hok:=gJ (b:=p.drop A) (n:=(Al (Ak R) N).length);rw[t2,Aa]at hT;rw[Mm,PB,hd.zE,Aa]at hF;simp only at hF;rw[Aac (by decide),Bs (by omega) (by omega),Aa,Agr,Ac,hs,Aa]at hF;generalize hz:Ek (p.drop A) (Al (Ak R) N).length=z at*
 obtain⟨z1,z2⟩:=z;simp only at*
 by_cases h1:z2=24
 ·rw[Aau h1]at hT;simp only at hT;rw[Aau (by decide)]at hT;rw[Aau (by rw[Ar];simpa using h1)]at hF;exact mkW hZ hF hT
 rw[Aac h1]at hT;rw[Aac (by rw[Ar];simpa using h1)]at hF;simp only at hT;by_cases h2:z2≠0
 ·rw[Aau (by rw[Aj];simpa using h2)]at hT hF;rw[Am,Aa]at hF;exact mkE (by omega) hF hT
 ·have h0:z2=0:=by simpa using h2
  subst h0;have h3:=t3 rfl;obtain⟨k1,k2,k3,k4,k5,k6⟩:=hok rfl;simp only[Agm,Bl9]at k1;have hl:z1.length=(Al (Ak R) N).length:=by rw[k1];exact Va _ _
  rw[<-k1]at k5 k6;rw[Aac (by decide),Bs (by omega) (by omega),Aa]at hT;rw[Aac (by decide),Ac,Af8 A z1.length (by omega) (by omega),Bs (by omega) (by omega),Aa]at hF;have hne:z1≠ []:=by intro e;rw[e]at hl;simp at hl;omega
  refine .next _ _ _ _ _ _ z1 0 [] (by exact hF) hT (.tab _ _ _ _ _ 0 hd hpw ?_ hl rfl (by omega)) ⟨by rw[Ajb];omega,by omega,by simp;omega⟩ (by rw[Ajb];omega) ?_
  ·rw[Vb,Abt,Abk,DO z1 100000 (by omega)];exact⟨by omega,k5,k6⟩
  ·rw[muD,muD,Aac hd.fnz,Aac hd.fnz,Aau rfl,Aac hne];simp;omega
theorem Av4(ho:o.length<=64)(hp:p.length<=100000)(hpw:(o==([]:LB))=decide (F=1)):StepR bk o p f c w r n [] 0 [] u v:=by
 have hZ:SzD p [] 0 []:=⟨hp,by simp,by simp⟩;have hT:Ag o p f c w r n [] 0 [] u v=Ag o p f c w r n [] 0 [] u v:=rfl
 conv at hT=>rhs;rw[Ag,Bo,Aac hd.ne0,Bv,Bt,Aau (by decide),Fg,Hq]
 have hF:YB bk o u v p f c w r n 0 [] []=YB bk o u v p f c w r n 0 [] []:=rfl
 conv at hF=>rhs;rw[YB,Jm,Aac hd.ne0,Aau (by decide)]
 by_cases h2:geq f 2=true
 ·rw[Aau h2]at hT hF;by_cases h8:p.length<8
  ·rw[Aau (by rw[Ae,Ac];simp;omega)]at hT hF;rw[Aa]at hT;simp only at hT;rw[Aau (by decide)]at hT;exact mkW hZ hF hT
  ·rw[Aac (by rw[Ae,Ac];simp;omega)]at hT hF;have h8':(p.take 8).length=8:=by rw[Ag1];omega
   rw[Dl (by omega) (by omega),Aa,fZ o ho,Aa]at hT;rw[Ur,NV,Dl (by omega) (by omega),Aa,show(8:Int).toNat=8 from rfl,pJ h8' ho,Aa]at hF;rw[show(8:Int).toNat=8 from rfl]at hT;simp only at hF;rw[NW,NJ,Aac (by decide)]at hF;by_cases he:(p.take 8==Ry (Lg o).toNat 8)=true
   ·rw[Aac (by rw[bne,he];decide)]at hT;rw[Aac (by rw[he];decide)]at hF;exact Ar4 hd hp hpw 8 (by omega) hT hF
   ·have he':(p.take 8==Ry (Lg o).toNat 8)=false:=by simpa using he
    rw[Aau (by rw[bne,he'];decide),Aa]at hT;simp only at hT;rw[Aau (by decide)]at hT;rw[Aau (by rw[he'];decide),Am,Aa]at hF;simp only at hF;exact mkE (by decide) (hF.trans f75) hT
 ·rw[Aac h2]at hT hF;exact Ar4 hd hp hpw 0 (by omega) hT hF
theorem Azd(ho:o.length<=64)(hpw:(o==([]:LB))=decide (F=1))(hg:Vb g=true)(hl:g.length=(Al (Ak R) N).length)(A:Nat)(hA:A<=g.length)(hZ:SzD p g (A:Int) x):StepR bk o p f c w r n g (A:Int) x u v:=by
 have hp:=hZ.hp;have hx:=hZ.hx;have hc:=hd.ec;subst hc;have hg':=hg;rw[Vb,Abt,Abk,DO g 100000 (by omega)]at hg';obtain⟨⟨g1,g2⟩,g5,g6⟩:=hg';have hgn:¬(geq (Ac g) 0=true):=by rw[Ar,Ac];simp;intro e;subst e;simp at g1
 have hT:Ag o p f (C:Int) w r n g (A:Int) x u v=Ag o p f (C:Int) w r n g (A:Int) x u v:=rfl
 conv at hT=>rhs;rw[Ag,Bo,Aac hd.ne0,Bv,Bt,Aac hgn]
 have hF:YB bk o u v p f (C:Int) w r n (A:Int) g x=YB bk o u v p f (C:Int) w r n (A:Int) g x:=rfl
 conv at hF=>rhs;rw[YB,Jm,Aac hd.ne0,Aac hgn]
 by_cases hA2:A=g.length
 ·subst hA2;rw[Aau (by rw[Ar,Ac];simp)]at hT;rw[Aac (by rw[Ae,Ac];simp)]at hF;by_cases h4:4000<p.length
  ·rw[Aau (by rw[Aq,Ac];simp;omega)]at hT hF;rw[Am,Aa]at hF;exact mkE (by decide) hF hT
  ·rw[Aac (by rw[Aq,Ac];simp;omega)]at hT hF;exact mkW hZ hF hT
 ·have hlt:A<g.length:=by omega
  have h5:=g5 g[A] (Ami hlt);have hsum:=yP g5 g[A] (Ami hlt);rw[Aac (by rw[Ar,Ac];simp;omega),Dh,Em,Bq hlt,Aa]at hT;rw[Aau (by rw[Ae,Ac];simp;omega),Bq hlt,Aa,Aa]at hF;by_cases hw:(p.length:Int)<g[A]
  ·rw[Aau (by rw[Ae,Ac];simpa using hw)]at hT hF;rw[Aa]at hT;simp only at hT;rw[Aau (by decide)]at hT;exact mkW hZ hF hT
  rw[Aac (by rw[Ae,Ac];simpa using hw)]at hT hF;have DM:=hd.num;have hlt2:A<(Al (Ak R) N).length:=by omega
  obtain⟨m,hm,m1,m2⟩:=Wo (Ex R) DM.2.2.2.2.1 (Ami hlt2);have hb:Bk w:=by rw[hd.ew];unfold Bk;omega
  obtain⟨xs,e,d1,d2,d3,d4⟩:=FT (bits:=w) (ch:=C) (n:=m) (t:=Js o) (p.take g[A].toNat) hb (Mg o) DM.2.1.1 DM.2.1.2 m1 (by omega);have hnn:=rC hb (Mg o) DM.2.1.1 DM.2.1.2 m1 (by omega) d2;rw[gN o ho,Aa]at hF;simp only at hF;rw[Aac (by decide),hd.zE,Aa]at hF;simp only at hF;rw[Aac (by simp[Aj,Ea,Ac];omega),Up,OZ,Bq hlt2,Aa,Dl (by omega) (by omega),Aa,Aa,CY,Aa]at hF;simp only at hF;rw[hm,d1,Aa]at hF;simp only at hF;rw[SM o ho,Aa]at hT;simp only at hT;rw[Dl (by omega) (by omega),Aa,Fy,Aa]at hT;simp only at hT;rw[hd.Akc,Aa,Bq hlt2,Aa,Aa,hm]at hT;rw[d2,Aa]at hT;simp only at hT;rw[Eo,Es]at hT;rw[PD,BO]at hF;by_cases he:e≠0
  ·rw[Aau (by rw[Aj];simpa using he)]at hT hF;rw[Aa]at hT;simp only at hT;rw[Aau (by rw[Aj];simpa using he)]at hT;rw[Am,Aa]at hF;exact mkE (by omega) hF hT
  ·have he0:e=0:=by simpa using he
   obtain⟨k1,k2,k3⟩:=d3 he0;have hbl:=FC w xs;have ht:((A:Int)).toNat=A:=rfl;rw[ht]at hx;rw[Aac (by rw[Aj,he0];simp)]at hT hF;rw[OD hb k2 k1,Aa,Aa]at hT;simp only at hT;rw[Aac (by decide),Bi (by simp;omega),Aa,Apc,Bi (by omega),Aa,Aa,Bs (by omega) (by omega),Aa,Ah (by omega) (by omega)]at hT;rw[aQ hb k2 k1,Aa]at hF;simp only at hF;rw[Aac (by decide),Bi (by omega),Aa,Bs (by omega) (by omega),Aa,Ah (by omega) (by omega)]at hF;have e1:((A:Int)+1).toNat=A+1:=rfl;refine .next _ _ _ _ _ _ _ _ _ (by exact hF) hT (.tab _ _ _ _ _ (A+1) hd hpw hg hl rfl (by omega)) ⟨by rw[Ajb];omega,hZ.hg,by rw[e1,Aav];omega⟩ (by rw[Ajb];omega) ?_
   have hne:g≠ []:=by intro e;subst e;simp at g1
   rw[muD,muD,Aac hd.fnz,Aac hd.fnz,Aac hne,Aac hne,e1,ht];omega
end
theorem Aff(hf:FitD o f c w r n g a x)(ho:o.length<=64)(hZ:SzD p g a x):StepR bk o p f c w r n g a x u v:=by
 cases hf with
 |new e1 e2 e3 e4 e5 e6 e7 e8=>subst e1 e2 e3 e4 e5 e6 e7 e8;exact Ay3 hZ.hp
 |head F C W R N h hpw e6 e7 e8=>subst e6 e7 e8;exact Av4 h ho hZ.hp hpw
 |tab F C W R N A h hpw ht hl ea hA=>subst ea;exact Azd h ho hpw ht hl A hA hZ
end
abbrev Bh2:=LB×LB×Int×Int×Int×Int×Int×LI×Int×LB×Bool×Int×Int
theorem Azk:∀(j:Nat) (b:LB) (a:Nat),(Aka j b a).2=0\/ (Aka j b a).2=38
 |0,_,_=> .inr rfl
 |j+1,b,a=>by
  rw[Aka];split
  ·exact .inl rfl
  ·split
   ·exact .inr rfl
   ·exact Azk j _ _
theorem Ahf(b:LB):(Nt b).2=0\/ (Nt b).2=38:=by
 rw[Nt];split
 ·exact .inr rfl
 ·exact Azk _ _ _
theorem aN{o p:LB}{f c w r n:Int}{g:LI}{a:Int}{x:LB}{u:Bool}{v:Int}(hp:p.length<=100000)(hg:g.length<=2000)(hx:x.length<=13000000):Yu o p f c w r n g a x u v=some (o,p,f,c,w,r,n,g,a,x,u,v):=by
 rw[Yu,QL,Bi (by simp;omega),Aa,Bi (by simp;omega),Aa,RQ,RO,Bi (by simp;omega),Aa];rfl
theorem At5{o p:LB}{f c w r n:Int}{g:LI}{a:Int}{x:LB}{u:Bool}{v:Int}(hp:p.length<=100000)(hg:g.length<=2000)(hx:x.length<=13000000):Ep o p f c w r n g a x u v=some (o,p,f,c,w,r,n,g,a,x,u,v):=by
 rw[Ep,Mz,Bi (by simp;omega),Aa,Aa,Mz,Bi (by simp;omega),Aa,Aa,Ha,Bi (by simp;omega),Aa,Aa];rfl
theorem tI{o p:LB}{f c w r n:Int}{g:LI}{a:Int}{x:LB}{u:Bool}{v e:Int}(hx:x.length<=13000000):CM o p f c w r n g a x u v e=some (o,[],0,0,0,0,0,[],0,x,false,e,e):=by
 rw[CM,cH,Bi (by simp;omega),Aa];rfl
theorem Azp{p:LB}{f:Int}{g:LI}{a:Int}{x:LB}(h:SzD p g a x):muD f g a<1004:=by
 have:=h.hg;unfold muD;split
 ·omega
 ·split<;>omega
section
variable {o p:LB} {f c w r n:Int} {g:LI} {a:Int} {x:LB} {u:Bool} {v:Int} (hp:p.length<=20000) (hg:g.length<=2000) (hx:x.length<=13000000)
include hp hg hx
theorem pE{E:Int}(hE:Pg o p f c w r n g a x u v=some E):Tf o p f c w r n g a x u v=if E≠0 then some ([],[],0,0,0,0,0,[],0,[],false,0,E)else some (o,p,f,c,w,r,n,g,a,x,u,v,if v≠0 then v else if u=true then 36 else 0):=by
 rw[Tf,hE,Aa];by_cases h:E≠0
 ·rw[Aau (by rw[Aj];simpa using h),Aau h]
 rw[Aac (by rw[Aj];simpa using h),Aac h,At5 (by omega) hg (by omega)];by_cases hv:v≠0
 ·rw[Aau (by rw[Aj];simpa using hv),Aau hv,Aa]
 ·rw[Aac (by rw[Aj];simpa using hv),Aac hv];cases u<;>simp[Aa]
omit hg hx in
theorem zZ:∃e,KU o p f c w r n g a x u v=some e/\Cz o p f c w r n g a x u v=some e:=by
 rw[KU,Cz];by_cases h0:geq f 0=true
 ·rw[Aau h0,Aau h0,Io p (by omega),BC p (by omega),Aa,Aa];have hok:=BN (b:=p);simp only;by_cases h2:(Bm p).2≠0
  ·rw[Aau (by rw[Aj];simpa using h2),Aau (by rw[Aj];simpa using h2)];exact⟨_,rfl,rfl⟩
  have h3:(Bm p).2=0:=by simpa using h2
  obtain⟨k1,k2,k3⟩:=hok h3;have hl:(Ih p).length<=p.length:=by rw[Ih,Ajb];omega
  rw[Aac (by rw[Aj,h3];simp),Aac (by rw[Aj,h3];simp),Bs (by omega) (by omega),Aa,Aa,show p.drop (Bm p).1.toNat=Ih p from rfl,Xd _ (by omega),fJ _ (by omega),Aa];exact⟨_,rfl,rfl⟩
 ·rw[Aac h0,Aac h0,Bool.or_comm];by_cases h1:(geq (Ac g) 0||Cv a (Ac g))=true
  ·rw[Aau h1,Aau h1];exact⟨_,rfl,rfl⟩
  ·rw[Aac h1,Aac h1,Aat p (by omega),tW p (by omega),Aa,Aa];simp only;refine⟨(Nt p).2,rfl,?_⟩;rcases Ahf p with h|h
   ·rw[Aac (by rw[h];decide),h]
   ·rw[Aau (by rw[h];decide),h]
end
theorem cB{α β:Type}{o:Option α}{f:α->Option β}{r:β}(h:Option.bind o f=some r):∃x,o=some x/\f x=some r:=by
 cases o with
 |none=>cases h
 |some x=>exact⟨x,rfl,h⟩
theorem Ayu{α:Type}{l:List α}{i:Int}{x:α}(h:Go.Lv.Ap l i=some x):x∈l:=by
 unfold Go.Lv.Ap at h;split at h
 ·exact List.mem_of_getElem? h
 ·cases h
theorem Adc{o p:LB}(q:LB){f c w r n:Int}{g:LI}{a:Int}{x:LB}{u:Bool}{v:Int}{y:LB}{e:Int}(hg:∀z∈g,0<=z)(h:Dh o p f c w r n g a x u v=some (y,e))(he:e≠ -1):Dh o (p++q) f c w r n g a x u v=some (y,e):=by
 rw[Dh,Em]at h⊢;obtain⟨l,hl,h⟩:=cB h;have hl0:=hg l (Ayu hl);rw[hl,Aa];by_cases hc:(p.length:Int)<l
 ·rw[Aau (by rw[Ae,Ac];simpa using hc)]at h;cases h;exact absurd rfl he
 ·have hc':¬(Cv (Ac (p++q)) l=true):=by rw[Ae,Ac,Aav];simp;omega
  rw[Aac (by rw[Ae,Ac];simpa using hc)]at h;rw[Aac hc',Dl hl0 (by rw[Aav];omega),Oo (by omega)];rw[Dl hl0 (by omega)]at h;simpa only[Eo,Es]using h
theorem Anb{f c w r n:Int}{F C W R N:Nat}(hd:HdI f c w r n F C W R N){p:LB}(q:LB)(hp:(p++q).length<=100000){A:Nat}(hA:A<=p.length){k:Int}{l:LI}{e:Int}(h:Du p f c w r n (A:Int)=some (k,l,e))(he:e≠ -1):
  Du (p++q) f c w r n (A:Int)=some (k,l,e)/\ (e=0->0<=k/\k<=p.length):=by
 have hp':p.length<=100000:=by rw[Aav]at hp;omega
 obtain⟨_,t2,t3⟩:=zC hd [] p hp' A hA 0 [] false 0;obtain⟨_,s2,_⟩:=zC hd [] (p++q) hp A (by rw[Aav];omega) 0 [] false 0;rw[t2]at h;rw[s2,Awo hA];by_cases h1:(Ek (p.drop A) (Al (Ak R) N).length).2=24
 ·rw[Aau h1]at h;cases h;exact absurd rfl he
 ·rw[Aac h1]at h;rw[Avz q _ h1,Aac h1];refine⟨h,λe0=>?_⟩;cases h;have:=t3 e0;constructor
  ·omega
  ·exact this
theorem Ado{f c w r n:Int}{F C W R N:Nat}(hd:HdI f c w r n F C W R N){o p:LB}(q:LB)(hp:(p++q).length<=100000){k:Int}{l:LI}{e:Int}(h:Fg p f c w r n o=some (k,l,e))(he:e≠ -1):
  Fg (p++q) f c w r n o=some (k,l,e)/\ (e=0->0<=k/\k<=p.length):=by
 rw[Fg,Hq]at h⊢;by_cases hf:geq f 2=true
 ·rw[Aau hf]at h⊢;by_cases h8:p.length<8
  ·rw[Aau (by rw[Ae,Ac];simp;omega)]at h;cases h;exact absurd rfl he
  ·have n1:¬(Cv (Ac p) 8=true):=by rw[Ae,Ac];simp;omega
   have n2:¬(Cv (Ac (p++q)) 8=true):=by rw[Ae,Ac,Aav];simp;omega
   rw[Aac n1,Dl (by decide) (by omega),Aa]at h;rw[Aac n2,Dl (by decide) (by rw[Aav];omega),Aa,Oo (show(8:Int).toNat<=p.length from by simp;omega)];obtain⟨y,hy,h⟩:=cB h;rw[hy,Aa];by_cases hm:(p.take (8:Int).toNat !=y)=true
   ·rw[Aau hm]at h⊢;cases h;exact⟨rfl,λe=>by cases e⟩
   ·rw[Aac hm]at h⊢;exact Anb hd q hp (A:=8) (by omega) h he
 ·rw[Aac hf]at h⊢;exact Anb hd q hp (A:=0) (by omega) h he
theorem iS{p q af:LB}{n:Int}(h:Br p n (Ac p)=some af):Br (p++q) n (Ac (p++q))=some (af++q):=by
 unfold Br Ac at h⊢;split at h
 ·rename_i hc;cases h;rw[Aau ⟨hc.1,by rw[Aav];omega,by omega⟩];simp only[Agr,Awj];rw[Awo (by omega)]
 ·cases h
theorem pZ{o p:LB}(q:LB){f c w r n:Int}{g:LI}{a:Int}{x:LB}{u:Bool}{v:Int}(hf:FitD o f c w r n g a x)(hp:(p++q).length<=100000){t1 t2:LB}{t3 t4 t5 t6 t7:Int}{t8:LI}{t9:Int}{t10:LB}{t11:Bool}{t12 e:Int}
  (h:Ag o p f c w r n g a x u v=some (t1,t2,t3,t4,t5,t6,t7,t8,t9,t10,t11,t12,e)) (he:e≠ -1):
  (e=0->Ag o (p++q) f c w r n g a x u v=some (t1,t2++q,t3,t4,t5,t6,t7,t8,t9,t10,t11,t12,0))/\
  (e≠0->∃(s1 s2:LB) (s3 s4 s5 s6 s7:Int) (s8:LI) (s9:Int) (s10:LB) (s11:Bool) (s12:Int),Ag o (p++q) f c w r n g a x u v=some (s1,s2,s3,s4,s5,s6,s7,s8,s9,s10,s11,s12,e)):=by
 have hp':p.length<=100000:=by rw[Aav]at hp;omega
 have zero:¬(Bc (0:Int) 0=true):=by decide
 rw[Ag,Bo]at h⊢;cases hf with
 |new e1 e2 e3 e4 e5 e6 e7 e8=>
  subst e1;rw[Aau (by decide),Zr p hp',Aa]at h;rw[Aau (by decide),Zr (p++q) hp,Aa];have hst:(stS p).2.2.2.2.2.2≠ -1->stS (p++q)=stS p:=Bbv q;generalize stS p=z at h hst;obtain⟨z1,z2,z3,z4,z5,z6,z7⟩:=z;simp only at h hst;by_cases hz:Bc z7 0=true
  ·rw[Aau hz]at h;simp only[Ab3,Agm]at h;obtain⟨-, -, -, -, -, -, -, -, -, -, -, -,rfl⟩:=h;rw[hst he];simp only;rw[Aau hz];refine⟨λe0=>?_,λ_=>⟨_,_,_,_,_,_,_,_,_,_,_,_,rfl⟩⟩;rw[e0]at hz;exact absurd hz zero
  ·rw[Aac hz]at h;have z70:z7=0:=by rw[Aj]at hz;simpa using hz
   rw[hst (by rw[z70];decide)];simp only;rw[Aac hz];obtain⟨af,h1,h⟩:=cB h;rw[iS h1,Aa];rw[Hg,Hj]at h⊢;obtain⟨aw,h2,h⟩:=cB h;rw[h2,Aa];simp only[Ab3,Agm]at h;obtain⟨rfl,rfl,rfl,rfl,rfl,rfl,rfl,rfl,rfl,rfl,rfl,rfl,rfl⟩:=h;exact⟨λe0=>by rw[e0],λ_=>⟨_,_,_,_,_,_,_,_,_,_,_,_,rfl⟩⟩
 |head F C W R N hd hpw e6 e7 e8=>
  subst e6;have hfn:¬(geq f 0=true):=by rw[Ar];simpa using hd.fnz
  rw[Aac hfn,Bv,Bt,Aau (by decide)]at h⊢;obtain⟨⟨k,l,e1⟩,h1,h⟩:=cB h;simp only at h;by_cases hz:Bc e1 0=true
  ·rw[Aau hz]at h;simp only[Ab3,Agm]at h;obtain⟨-, -, -, -, -, -, -, -, -, -, -, -,rfl⟩:=h;rw[(Ado hd q hp h1 he).1,Aa];simp only;rw[Aau hz];refine⟨λe0=>?_,λ_=>⟨_,_,_,_,_,_,_,_,_,_,_,_,rfl⟩⟩;rw[e0]at hz;exact absurd hz zero
  ·rw[Aac hz]at h;have z70:e1=0:=by rw[Aj]at hz;simpa using hz
   rw[(Ado hd q hp h1 (by rw[z70];decide)).1,Aa];simp only;rw[Aac hz];obtain⟨af,h2,h⟩:=cB h;rw[iS h2,Aa];simp only[Ab3,Agm]at h;obtain⟨rfl,rfl,rfl,rfl,rfl,rfl,rfl,rfl,rfl,rfl,rfl,rfl,rfl⟩:=h;exact⟨λe0=>rfl,λe0=>absurd rfl e0⟩
 |tab F C W R N A hd hpw ht hl ea hA=>
  have hfn:¬(geq f 0=true):=by rw[Ar];simpa using hd.fnz
  have ht':=ht;rw[Vb,Abt,Abk]at ht';have hgl:¬(geq (Ac g) 0=true):=by
   intro e;rw[Ar,Ac]at e;have hl1:=ht'.1.1;simp only[Atu,Abk]at e;omega
  rw[Aac hfn,Bv,Bt,Aac hgl]at h⊢;by_cases hend:geq a (Ac g)=true
  ·rw[Aau hend]at h⊢;by_cases hm:Eh (Ac p) 4000=true
   ·have hm':Eh (Ac (p++q)) 4000=true:=by rw[Aq,Ac]at hm⊢;simp only[Abk]at hm⊢;rw[Aav];omega
    rw[Aau hm]at h;rw[Aau hm'];simp only[Ab3,Agm]at h;obtain⟨-, -, -, -, -, -, -, -, -, -, -, -,rfl⟩:=h;exact⟨(λe0=>by cases e0),λ_=>⟨_,_,_,_,_,_,_,_,_,_,_,_,rfl⟩⟩
   ·rw[Aac hm]at h;simp only[Ab3,Agm]at h;obtain⟨-, -, -, -, -, -, -, -, -, -, -, -,rfl⟩:=h;exact absurd rfl he
  ·rw[Aac hend]at h⊢;have hpos:∀z∈g,0<=z:=by
    have:=(DO g 100000 (by omega)).1 ht'.2;intro z hz;have:=this.1 z hz;omega
   obtain⟨⟨y,e1⟩,h1,h⟩:=cB h;simp only at h;by_cases hz:Bc e1 0=true
   ·rw[Aau hz]at h;simp only[Ab3,Agm]at h;obtain⟨-, -, -, -, -, -, -, -, -, -, -, -,rfl⟩:=h;rw[Adc q hpos h1 he,Aa];simp only;rw[Aau hz];refine⟨λe0=>?_,λ_=>⟨_,_,_,_,_,_,_,_,_,_,_,_,rfl⟩⟩;rw[e0]at hz;exact absurd hz zero
   ·rw[Aac hz]at h;have z70:e1=0:=by rw[Aj]at hz;simpa using hz
    rw[Adc q hpos h1 (by rw[z70];decide),Aa];simp only;rw[Aac hz];obtain⟨an,h2,h⟩:=cB h;rw[h2,Aa];obtain⟨ah,h3,h⟩:=cB h;rw[h3,Aa];obtain⟨ad,h4,h⟩:=cB h;rw[h4,Aa];obtain⟨ae,h5,h⟩:=cB h;rw[iS h5,Aa];simp only[Ab3,Agm]at h;obtain⟨rfl,rfl,rfl,rfl,rfl,rfl,rfl,rfl,rfl,rfl,rfl,rfl,rfl⟩:=h;exact⟨λe0=>rfl,λe0=>absurd rfl e0⟩
def Bi3(o:LB)(K:Nat)(u:Bool)(v:Int)(X Y:Option Bh2):Prop:=∃(t1 t2:LB) (t3 t4 t5 t6 t7:Int) (t8:LI) (t9:Int) (t10:LB) (t11:Bool) (t12 e:Int),X=some (t1,t2,t3,t4,t5,t6,t7,t8,t9,t10,t11,t12,e)/\Y=some (t1,t2,t3,t4,t5,t6,t7,t8,t9,t10,t11,t12,e)/\t10.length<=13000000/\
 (e=0->t1=o/\t2.length<=K/\FitD o t3 t4 t5 t6 t7 t8 t9 t10/\SzD t2 t8 t9 t10/\t11=u/\t12=v)
theorem Afp(K:Nat):∀(k q1 q2:Nat) (o p:LB) (f c w r n:Int) (g:LI) (a:Int) (x:LB) (u:Bool) (v:Int),FitD o f c w r n g a x->o.length<=64->SzD p g a x->p.length<=K->muD f g a<k->k<=q1->k<=q2->
  Bi3 o K u v (Bb o u v q1 p f c w r n a g x) (Bg q2 o p f c w r n g a x u v)
 |0,_,_,_,_,_,_,_,_,_,_,_,_,_,_,_,_,_,_,h,_,_=>by omega
 |k+1,q1,q2,o,p,f,c,w,r,n,g,a,x,u,v,hf,ho,hZ,hK,hm,h1,h2=>by
  obtain⟨q1,rfl⟩:∃q,q1=q+1:=⟨q1-1,by omega⟩;obtain⟨q2,rfl⟩:∃q,q2=q+1:=⟨q2-1,by omega⟩;have hx:x.length<=13000000:=by have:=hZ.hx;omega
  rw[Bb,Bg,Cm];have hS:StepR (Bb o u v q1) o p f c w r n g a x u v:=Aff hf ho hZ;cases hS with
  |wait hF hT=>
   rw[hT,Aa];simp only;rw[Aau (by decide),aN hZ.hp (by have:=hZ.hg;omega) hx,Aa];exact⟨_,_,_,_,_,_,_,_,_,_,_,_,_,hF,rfl,hx,λ_=>⟨rfl,hK,hf,hZ,rfl,rfl⟩⟩
  |err e he hF hT=>
   rw[hT,Aa];simp only;rw[Aac (by rw[iF (by omega)];decide),Aau (by rw[Aj];simp;omega),tI hx,Aa];exact⟨_,_,_,_,_,_,_,_,_,_,_,_,_,hF,rfl,hx,λh=>absurd h (by omega)⟩
  |next p' f' c' w' r' n' g' a' x' hF hT hf' hZ' hle hmu=>
   rw[hT,Aa];simp only;rw[Aac (by decide),Aac (by decide)];have ih:=Afp K k q1 q2 o p' f' c' w' r' n' g' a' x' u v hf' ho hZ' (by omega) (by omega) (by omega) (by omega);have hF':Jm (Pn (Bb o u v q1) o u v) (Ux (Bb o u v q1) o u v) (Ml (Bb o u v q1) o u v) (Ur (Bb o u v q1) o u v) (Mm (Bb o u v q1) o u v) (Pm (Bb o u v q1) o u v) (Up (Bb o u v q1) o u v) (Cl (Bb o u v q1) o u v) (AZ (Bb o u v q1) o u v) o u v p f c w r n a g x=Bb o u v q1 p' f' c' w' r' n' a' g' x':=hF;rw[hF'];exact ih
theorem Bh0{o p:LB}{f c w r n:Int}{g:LI}{a:Int}{x:LB}(ho:o.length<=64)(hf:FitD o f c w r n g a x)(hZ:SzD p g a x)(b:LB)(hp:p.length<=20000)(hb:b.length<=20000):
  Bi3 o (p.length+b.length) false 0 (Jz o p f c w r n g a x false 0 b) (Kf o p f c w r n g a x false 0 b):=by
 have hx:x.length<=13000000:=by have:=hZ.hx;omega
 have hg:g.length<=2000:=by have:=hZ.hg;omega
 obtain⟨E,e1,e2⟩:=Afn o p f c w r n g a x false 0 (by omega) (by omega) (by omega);rw[Jz,Ww,pE hp hg hx e1,Kf,Se,e2,Aa];by_cases h:E≠0
 ·rw[Aau h,Aa,Aau (by rw[Aj];simpa using h)];simp only;rw[Aau (by rw[Aj];simpa using h)];exact⟨_,_,_,_,_,_,_,_,_,_,_,_,_,rfl,rfl,by simp,λh'=>absurd h' h⟩
 have h0:E=0:=by simpa using h
 subst h0;have hE:¬(Bc (0:Int) 0=true):=by decide
 rw[Aac h,Aa,Aac hE,aN (by omega) hg (by omega),Aa];simp only;have hF:¬(false=true):=by decide
 rw[Sa,Aac (show ¬((0:Int)≠0)from λh=>h rfl),Aac hF]
 repeat (first|rw[Aa]|rw[Aac hE]|rw[Aac hF])
 rw[Bi (by omega)];rw[Aa,Aa];have hZ':SzD (p++b) g a x:=⟨by rw[Aav];omega,hZ.hg,hZ.hx⟩;exact Afp _ 1004 Ax Ax o (p++b) f c w r n g a x false 0 hf ho hZ' (by rw[Aav];exact Am4 _) (Azp hZ') (by have:=As;omega) (by have:=As;omega)
def OutB(f c w r n:Int)(g:LI)(a:Int)(x:LB):Prop:=∀(F C W R N A:Nat),HdI f c w r n F C W R N->g≠ []->a=(A:Int)-> (x.length:Int)<=GJ C W (Al (Ak R) N) A
theorem OutB.nil{f c w r n:Int}{a:Int}{x:LB}:OutB f c w r n [] a x:=λ_ _ _ _ _ _ _ h=>absurd rfl h
theorem OutB.zero{f c w r n:Int}{g:LI}:OutB f c w r n g 0 []:=λF C W R N A h hg ha=>by
 obtain rfl:A=0:=by omega
 rw[Apy];simp
theorem Aps{o p:LB}{f c w r n:Int}{F C W R N:Nat}(hd:HdI f c w r n F C W R N)(ho:o.length<=64)(hp:p.length<=100000){g:LI}(ht:Vb g=true)(hl:g.length=(Al (Ak R) N).length){A:Nat}(hA:A<g.length){x:LB}{u:Bool}{v:Int}{y:LB}{e:Int}
  (h:Dh o p f c w r n g (A:Int) x u v=some (y,e)) (he:e=0):∃m:Nat,(Al (Ak R) N)[A]'(by omega)=(m:Int)/\y.length=m*C*wB (W:Int):=by
 subst he;have hlt2:A<(Al (Ak R) N).length:=by omega
 have DM:=hd.num;rw[Vb,Abt,Abk,DO g 100000 (by omega)]at ht;obtain⟨ht1,g5,gs⟩:=ht;have h5:=g5 g[A] (Ami hA);rw[Dh,Em,Bq hA,Aa]at h;by_cases hw:(p.length:Int)<g[A]
 ·rw[Aau (by rw[Ae,Ac];simpa using hw)]at h;cases h
 rw[Aac (by rw[Ae,Ac];simpa using hw)]at h;obtain⟨m,hm,m1,m2⟩:=Wo (Ex R) DM.2.2.2.2.1 (Ami hlt2);have hb:Bk w:=by rw[hd.ew];unfold Bk;omega
 obtain⟨xs,e,d1,d2,d3,d4⟩:=FT (bits:=w) (ch:=C) (n:=m) (t:=Js o) (p.take g[A].toNat) hb (Mg o) DM.2.1.1 DM.2.1.2 m1 (by omega);rw[SM o ho,Aa]at h;simp only at h;rw[Dl (by omega) (by omega),Aa,Fy,Aa]at h;simp only at h;rw[hd.Akc,Aa,Bq hlt2,Aa,Aa,hm,hd.ec]at h;rw[d2,Aa]at h;simp only at h;rw[Eo,Es]at h;by_cases he:e≠0
 ·rw[Aau (by rw[Aj];simpa using he)]at h;cases h;exact absurd rfl he
 ·have he0:e=0:=by simpa using he
  obtain⟨k1,k2,k3⟩:=d3 he0;rw[Aac (by rw[Aj,he0];simp),OD hb k2 k1,Aa]at h;cases h;refine⟨m,hm,?_⟩;rw[GR hb,k3,hd.ew]
theorem Azu{o p:LB}{f c w r n:Int}{g:LI}{a:Int}{x:LB}{u:Bool}{v:Int}(hf:FitD o f c w r n g a x)(ho:o.length<=64)(hZ:SzD p g a x)(hO:OutB f c w r n g a x){t1 t2:LB}{t3 t4 t5 t6 t7:Int}{t8:LI}{t9:Int}{t10:LB}{t11:Bool}{t12:Int}
  (h:Ag o p f c w r n g a x u v=some (t1,t2,t3,t4,t5,t6,t7,t8,t9,t10,t11,t12,0)):OutB t3 t4 t5 t6 t7 t8 t9 t10:=by
 have hp':=hZ.hp;have zero:¬(Bc (0:Int) 0=true):=by decide
 rw[Ag,Bo]at h;cases hf with
 |new e1 e2 e3 e4 e5 e6 e7 e8=>
  subst e1 e6 e7 e8;rw[Aau (by decide),Zr p hp',Aa]at h;generalize stS p=z at h;obtain⟨z1,z2,z3,z4,z5,z6,z7⟩:=z;simp only at h;by_cases hz:Bc z7 0=true
  ·rw[Aau hz]at h;simp only[Ab3,Agm]at h;obtain⟨-, -, -, -, -, -, -,rfl, -⟩:=h;exact OutB.nil
  ·rw[Aac hz]at h;obtain⟨af,h1,h⟩:=cB h;rw[Hg,Hj]at h;obtain⟨aw,h2,h⟩:=cB h;simp only[Ab3,Agm]at h;obtain⟨-, -, -, -, -, -, -,rfl, -⟩:=h;exact OutB.nil
 |head F C W R N hd hpw e6 e7 e8=>
  subst e6 e7 e8;have hfn:¬(geq f 0=true):=by rw[Ar];simpa using hd.fnz
  rw[Aac hfn,Bv,Bt,Aau (by decide)]at h;obtain⟨⟨k,l,e1⟩,h1,h⟩:=cB h;simp only at h;by_cases hz:Bc e1 0=true
  ·rw[Aau hz]at h;simp only[Ab3,Agm]at h;obtain⟨-, -, -, -, -, -, -,rfl, -⟩:=h;exact OutB.nil
  ·rw[Aac hz]at h;obtain⟨af,h2,h⟩:=cB h;simp only[Ab3,Agm]at h;obtain⟨-, -, -, -, -, -, -, -,rfl,rfl, -⟩:=h;exact OutB.zero
 |tab F C W R N A hd hpw ht hl ea hA=>
  subst ea;have hfn:¬(geq f 0=true):=by rw[Ar];simpa using hd.fnz
  have ht':=ht;rw[Vb,Abt,Abk]at ht';have hgl:¬(geq (Ac g) 0=true):=by
   intro e;rw[Ar,Ac]at e;have hl1:=ht'.1.1;simp only[Atu,Abk]at e;omega
  have hne:g≠ []:=by intro e;subst e;simp at ht'
  rw[Aac hfn,Bv,Bt,Aac hgl]at h;by_cases hend:geq (A:Int) (Ac g)=true
  ·rw[Aau hend]at h;by_cases hm:Eh (Ac p) 4000=true
   ·rw[Aau hm]at h;simp only[Ab3,Agm]at h;exact absurd h.2.2.2.2.2.2.2.2.2.2.2.2 (by decide)
   ·rw[Aac hm]at h;simp only[Ab3,Agm]at h;exact absurd h.2.2.2.2.2.2.2.2.2.2.2.2 (by decide)
  ·rw[Aac hend]at h;have hlt:A<g.length:=by
    rw[Ar,Ac]at hend;simp only[Atu]at hend;omega
   obtain⟨⟨y,e1⟩,h1,h⟩:=cB h;simp only at h;by_cases hz:Bc e1 0=true
   ·rw[Aau hz]at h;simp only[Ab3,Agm]at h;have:=h.2.2.2.2.2.2.2.2.2.2.2.2;rw[this]at hz;exact absurd hz zero
   ·rw[Aac hz]at h;have z70:e1=0:=by rw[Aj]at hz;simpa using hz
    obtain⟨m,hm,hy⟩:=Aps hd ho hp' ht hl hlt h1 z70;obtain⟨an,h2,h⟩:=cB h;obtain⟨ah,h3,h⟩:=cB h;obtain⟨ad,h4,h⟩:=cB h;obtain⟨ae,h5,h⟩:=cB h;simp only[Ab3,Agm]at h;obtain⟨-, -,rfl,rfl,rfl,rfl,rfl,rfl,rfl,rfl, -⟩:=h;intro F' C' W' R' N' A' hd' _ ha';have eqs:C'=C/\W'=W/\R'=R/\N'=N:=by
     have q1:=hd.ec.symm.trans hd'.ec;have q2:=hd.ew.symm.trans hd'.ew;have q3:=hd.er.symm.trans hd'.er;have q4:=hd.en.symm.trans hd'.en;omega
    obtain⟨rfl,rfl,rfl,rfl⟩:=eqs;have hold:=hO F C' W' R' N' A hd hne rfl;have e2:Ad (A:Int) 1=((A+1:Nat):Int):=by rw[Ah (by omega) (by omega)];omega
    rw[e2]at ha';obtain rfl:A'=A+1:=by omega
    have hah:ah.length=x.length+y.length:=by
     unfold Ee at h2 h3;split at h2
     ·cases h2;split at h3
      ·cases h3;simp
      ·cases h3
     ·cases h2
    have hpos:∀z∈Al (Ak R') N',0<=z:=by
     intro z hz;obtain⟨m,hm,m1,m2⟩:=Wo (Ex R') hd.num.2.2.2.2.1 hz;omega
    rw[Aq0 C' W' hpos (by omega) hm,hah,hy];omega
theorem Ac5{o p:LB}{f c w r n:Int}{g:LI}{a:Int}{x:LB}(hf:FitD o f c w r n g a x)(ho:o.length<=64)(hO:OutB f c w r n g a x){t1 t2:LB}{t3 t4 t5 t6 t7:Int}{t8:LI}{t9:Int}{t10:LB}{t11:Bool}{t12:Int}
  (h:Ag o p f c w r n g a x false 0=some (t1,t2,t3,t4,t5,t6,t7,t8,t9,t10,t11,t12, -1)):Ed o p f c w r n g a x false 0=some 0:=by
 have h4:Ct o p f c w r n g a x false 0=some true:=by
  rw[Ct,Xp,h,Aa];rfl
 have hr:Mf o p f c w r n g a x false 0=some true:=by
  rw[Mf,Xv];cases hf with
  |new e1 e2 e3 e4 e5 e6 e7 e8=>
   subst e1 e2 e3 e4 e5 e6 e7 e8;rw[Aau (by decide),Aac (by decide)];exact h4
  |head F C W R N hd hpw e6 e7 e8=>
   subst e6 e7 e8;have hz:¬(((geq f 0)&&((geq c 0)&&((geq w 0)&&((geq r 0)&&((geq n 0)&&true)))))=true):=by
    simp only[Abt,Ar,Atu,Bl9];exact λe=>hd.fnz e.1
   have hff:geq f 1=decide (F=1):=by rw[hd.ef,Ar,Alf];simp;omega
   rw[Aac hz,hd.check,Aa,Aac (by decide),Eu,hff,hpw,Aac (by simp),Aa,Aac (by decide),Qp,Qt,Aau (by decide),Aac (by decide)];exact h4
  |tab F C W R N A hd hpw ht hl ea hA=>
   subst ea;have hz:¬(((geq f 0)&&((geq c 0)&&((geq w 0)&&((geq r 0)&&((geq n 0)&&true)))))=true):=by
    simp only[Abt,Ar,Atu,Bl9];exact λe=>hd.fnz e.1
   have hff:geq f 1=decide (F=1):=by rw[hd.ef,Ar,Alf];simp;omega
   have ht':=ht;rw[Vb,Abt,Abk]at ht';have hgl:¬(geq (Ac g) 0=true):=by
    intro e;rw[Ar,Ac]at e;have hl1:=ht'.1.1;simp only[Atu,Abk]at e;omega
   have hne:g≠ []:=by intro e;subst e;simp at ht'
   have hout:=hO F C W R N A hd hne rfl;rw[Aac hz,hd.check,Aa,Aac (by decide),Eu,hff,hpw,Aac (by simp),Aa,Aac (by decide),Qp,Qt,Aac hgl,cU,Aa,Aau ht,Aac (by decide),hd.Akc,Aa];rw[Aac (by simp[Aj,Ae,Aq,Ac];omega)];obtain⟨rfl,rfl,rfl,rfl,rfl,hs,hfit⟩:=hd;rw[Aoa hs hfit A (by omega),Aa,Aac (by rw[Aq,Ac];simp;omega)];exact h4
 have hO':¬(Eh (Ac o) 64=true):=by rw[Aq,Ac];simp;omega
 rw[Ed,Aac hO',Aau (by decide),hr,Aa];rfl
theorem Avb{o p:LB}{f c w r n:Int}{F C W R N:Nat}(hd:HdI f c w r n F C W R N)(ho:o.length<=64)(hp:p.length<=100000){g:LI}(ht:Vb g=true)(hl:g.length=(Al (Ak R) N).length){A:Nat}(hA:A<g.length){x:LB}{u:Bool}{v:Int}{y:LB}{e:Int}
  (h:Dh o p f c w r n g (A:Int) x u v=some (y,e)) (he:e≠ -1):Cd e:=by
 have hlt2:A<(Al (Ak R) N).length:=by omega
 have DM:=hd.num;rw[Vb,Abt,Abk,DO g 100000 (by omega)]at ht;obtain⟨ht1,g5,gs⟩:=ht;have h5:=g5 g[A] (Ami hA);rw[Dh,Em,Bq hA,Aa]at h;by_cases hw:(p.length:Int)<g[A]
 ·rw[Aau (by rw[Ae,Ac];simpa using hw)]at h;cases h;exact absurd rfl he
 rw[Aac (by rw[Ae,Ac];simpa using hw)]at h;obtain⟨m,hm,m1,m2⟩:=Wo (Ex R) DM.2.2.2.2.1 (Ami hlt2);have hb:Bk w:=by rw[hd.ew];unfold Bk;omega
 obtain⟨xs,e',d1,d2,d3,d4⟩:=FT (bits:=w) (ch:=C) (n:=m) (t:=Js o) (p.take g[A].toNat) hb (Mg o) DM.2.1.1 DM.2.1.2 m1 (by omega);have hcd:=Aii hb (Mg o) DM.2.1.1 DM.2.1.2 m1 (by omega) d2;rw[SM o ho,Aa]at h;simp only at h;rw[Dl (by omega) (by omega),Aa,Fy,Aa]at h;simp only at h;rw[hd.Akc,Aa,Bq hlt2,Aa,Aa,hm,hd.ec]at h;rw[d2,Aa]at h;simp only at h;rw[Eo,Es]at h;by_cases he:e'≠0
 ·rw[Aau (by rw[Aj];simpa using he)]at h;cases h;exact hcd
 ·have he0:e'=0:=by simpa using he
  obtain⟨k1,k2,k3⟩:=d3 he0;rw[Aac (by rw[Aj,he0];simp),OD hb k2 k1,Aa]at h;cases h;exact .inl rfl
theorem As2{f c w r n:Int}{F C W R N:Nat}(hd:HdI f c w r n F C W R N){p:LB}(hp:p.length<=100000){A:Nat}(hA:A<=p.length){k:Int}{l:LI}{e:Int}(h:Du p f c w r n (A:Int)=some (k,l,e))(he:e≠ -1):Cd e:=by
 obtain⟨_,t2,t3⟩:=zC hd [] p hp A hA 0 [] false 0;rw[t2]at h;by_cases h1:(Ek (p.drop A) (Al (Ak R) N).length).2=24
 ·rw[Aau h1]at h;cases h;exact absurd rfl he
 ·rw[Aac h1]at h;cases h;exact Ayy _ (Agc hd.fit)
theorem Auv{f c w r n:Int}{F C W R N:Nat}(hd:HdI f c w r n F C W R N){o p:LB}(hp:p.length<=100000){k:Int}{l:LI}{e:Int}(h:Fg p f c w r n o=some (k,l,e))(he:e≠ -1):Cd e:=by
 rw[Fg,Hq]at h;by_cases hf:geq f 2=true
 ·rw[Aau hf]at h;by_cases h8:p.length<8
  ·rw[Aau (by rw[Ae,Ac];simp;omega)]at h;cases h;exact absurd rfl he
  ·have n1:¬(Cv (Ac p) 8=true):=by rw[Ae,Ac];simp;omega
   rw[Aac n1]at h;obtain⟨z,hz,h⟩:=cB h;obtain⟨y,hy,h⟩:=cB h;by_cases hm:(z !=y)=true
   ·rw[Aau hm]at h;cases h;decide
   ·rw[Aac hm]at h;exact As2 hd hp (A:=8) (by omega) h he
 ·rw[Aac hf]at h;exact As2 hd hp (A:=0) (by omega) h he
theorem Bf7(p:LB):(stS p).2.2.2.2.2.2= -1\/Cd (stS p).2.2.2.2.2.2:=by
 unfold stS
 repeat' split
 ·exact .inl rfl
 ·exact .inr (zR p)
 ·exact .inl rfl
 ·exact .inl rfl
 ·exact .inr (Adl _)
theorem Bdm{o p:LB}{f c w r n:Int}{g:LI}{a:Int}{x:LB}{u:Bool}{v:Int}(hf:FitD o f c w r n g a x)(ho:o.length<=64)(hp':p.length<=100000){t1 t2:LB}{t3 t4 t5 t6 t7:Int}{t8:LI}{t9:Int}{t10:LB}{t11:Bool}{t12 e:Int}
  (h:Ag o p f c w r n g a x u v=some (t1,t2,t3,t4,t5,t6,t7,t8,t9,t10,t11,t12,e)) (he:e≠ -1):Cd e:=by
 have zero:¬(Bc (0:Int) 0=true):=by decide
 rw[Ag,Bo]at h;cases hf with
 |new e1 e2 e3 e4 e5 e6 e7 e8=>
  subst e1 e6 e7 e8;rw[Aau (by decide),Zr p hp',Aa]at h;have hcd:=Bf7 p;generalize stS p=z at h hcd;obtain⟨z1,z2,z3,z4,z5,z6,z7⟩:=z;simp only at h hcd;by_cases hz:Bc z7 0=true
  ·rw[Aau hz]at h;simp only[Ab3,Agm]at h;obtain⟨-, -, -, -, -, -, -, -, -, -, -, -,rfl⟩:=h;exact hcd.resolve_left he
  ·rw[Aac hz]at h;obtain⟨af,h1,h⟩:=cB h;rw[Hg,Hj,Eu]at h;obtain⟨aw,h2,h⟩:=cB h;simp only[Ab3,Agm]at h;obtain⟨-, -, -, -, -, -, -, -, -, -, -, -,rfl⟩:=h;split at h2
   ·cases h2;decide
   ·cases h2;decide
 |head F C W R N hd hpw e6 e7 e8=>
  subst e6 e7 e8;have hfn:¬(geq f 0=true):=by rw[Ar];simpa using hd.fnz
  rw[Aac hfn,Bv,Bt,Aau (by decide)]at h;obtain⟨⟨k,l,e1⟩,h1,h⟩:=cB h;simp only at h;by_cases hz:Bc e1 0=true
  ·rw[Aau hz]at h;simp only[Ab3,Agm]at h;obtain⟨-, -, -, -, -, -, -, -, -, -, -, -,rfl⟩:=h;exact Auv hd hp' h1 he
  ·rw[Aac hz]at h;obtain⟨af,h2,h⟩:=cB h;simp only[Ab3,Agm]at h;obtain⟨-, -, -, -, -, -, -, -, -, -, -, -,rfl⟩:=h;exact .inl rfl
 |tab F C W R N A hd hpw ht hl ea hA=>
  subst ea;have hfn:¬(geq f 0=true):=by rw[Ar];simpa using hd.fnz
  have ht':=ht;rw[Vb,Abt,Abk]at ht';have hgl:¬(geq (Ac g) 0=true):=by
   intro e;rw[Ar,Ac]at e;have hl1:=ht'.1.1;simp only[Atu,Abk]at e;omega
  rw[Aac hfn,Bv,Bt,Aac hgl]at h;by_cases hend:geq (A:Int) (Ac g)=true
  ·rw[Aau hend]at h;by_cases hm:Eh (Ac p) 4000=true
   ·rw[Aau hm]at h;simp only[Ab3,Agm]at h;obtain⟨-, -, -, -, -, -, -, -, -, -, -, -,rfl⟩:=h;decide
   ·rw[Aac hm]at h;simp only[Ab3,Agm]at h;exact absurd h.2.2.2.2.2.2.2.2.2.2.2.2.symm he
  ·rw[Aac hend]at h;have hlt:A<g.length:=by
    rw[Ar,Ac]at hend;simp only[Atu]at hend;omega
   obtain⟨⟨y,e1⟩,h1,h⟩:=cB h;simp only at h;by_cases hz:Bc e1 0=true
   ·rw[Aau hz]at h;simp only[Ab3,Agm]at h;obtain⟨-, -, -, -, -, -, -, -, -, -, -, -,rfl⟩:=h;exact Avb hd ho hp' ht hl hlt h1 he
   ·rw[Aac hz]at h;obtain⟨an,h2,h⟩:=cB h;obtain⟨ah,h3,h⟩:=cB h;obtain⟨ad,h4,h⟩:=cB h;obtain⟨ae,h5,h⟩:=cB h;simp only[Ab3,Agm]at h;obtain⟨-, -, -, -, -, -, -, -, -, -, -, -,rfl⟩:=h;exact .inl rfl
theorem Axl{o:LB}{f c w r n:Int}{g:LI}{a:Int}{x:LB}(hf:FitD o f c w r n g a x)(hO:OutB f c w r n g a x):x.length<=12000:=by
 cases hf with
 |new e1 e2 e3 e4 e5 e6 e7 e8=>subst e8;simp
 |head F C W R N hd hpw e6 e7 e8=>subst e8;simp
 |tab F C W R N A hd hpw ht hl ea hA=>
  have hne:g≠ []:=by intro e;subst e;simp[Vb]at ht
  have h:=hO F C W R N A hd hne ea;obtain⟨g1,g2,g3⟩:=ON hd.shape hd.fit;have b:=jI g1 A;have DM:=hd.num;have hw:=(Aa5 (W:Int)).2;have hN:N*C<=4000:=by
   have h1:=Adg C DM.2.2.2.2.2.1;have h2:=Be7 4000 C;omega
  have hs:((Al (Ak R) N).take A).sum.toNat<=N:=by omega
  rw[GJ]at h;have hb:((Al (Ak R) N).take A).sum.toNat*(C*wB (W:Int))<=4000*3:=by
   have h1:=Adg (C*wB (W:Int)) hs;have h2:=Bem hN hw;rw[<-Awr N]at h1;omega
  omega
theorem Ahn{o x:LB}{e:Int}(ho:o.length<=64)(hx:x.length<=12000)(he:Cd e)(h0:0<e):Ed o [] 0 0 0 0 0 [] 0 x false e=some 0:=by
 have hO':¬(Eh (Ac o) 64=true):=by rw[Aq,Ac];simp;omega
 have hX:Eh (Ac x) 12000=false:=by rw[Aq,Ac];simp;omega
 rw[Ed,Aac hO',Aac (by rw[Ar];simp;omega),Aau (by decide),hX,Aac (by decide),Aau (by rw[Aj];simp;omega),Aac (by decide)];obtain rfl|rfl|rfl|rfl|rfl|rfl|rfl|rfl:=he
 ·omega
 all_goals rfl
theorem Ah6:∀(k q1 q2:Nat) (o p:LB) (f c w r n:Int) (g:LI) (a:Int) (x:LB) (u:Bool) (v:Int),FitD o f c w r n g a x->o.length<=64->SzD p g a x->muD f g a<k->k<=q1->k<=q2->
  Bg q1 o p f c w r n g a x u v=Bg q2 o p f c w r n g a x u v
 |0,_,_,_,_,_,_,_,_,_,_,_,_,_,_,_,_,_,h,_,_=>by omega
 |k+1,q1,q2,o,p,f,c,w,r,n,g,a,x,u,v,hf,ho,hZ,hm,h1,h2=>by
  obtain⟨q1,rfl⟩:∃q,q1=q+1:=⟨q1-1,by omega⟩;obtain⟨q2,rfl⟩:∃q,q2=q+1:=⟨q2-1,by omega⟩;rw[Bg,Bg,Cm,Cm];have hS:StepR (Bb o u v q1) o p f c w r n g a x u v:=Aff hf ho hZ;cases hS with
  |wait hF hT=>
   rw[hT,Aa,Aa];simp only;rw[Aau (by decide),Aau (by decide)]
  |err e he hF hT=>
   rw[hT,Aa,Aa];simp only;rw[Aac (by rw[iF (by omega)];decide),Aau (by rw[Aj];simp;omega),Aac (by rw[iF (by omega)];decide),Aau (by rw[Aj];simp;omega)]
  |next p' f' c' w' r' n' g' a' x' hF hT hf' hZ' hle hmu=>
   rw[hT,Aa,Aa];simp only;rw[Aac (by decide),Aac (by decide),Aac (by decide),Aac (by decide)];exact Ah6 k q1 q2 o p' f' c' w' r' n' g' a' x' u v hf' ho hZ' (by omega) (by omega) (by omega)
structure Wt (o p:LB) (f c w r n:Int) (g:LI) (a:Int) (x:LB):Prop where
 fit:FitD o f c w r n g a x
 sz:SzD p g a x
 out:OutB f c w r n g a x
 wait:Ag o p f c w r n g a x false 0=some (o,p,f,c,w,r,n,g,a,x,false,0, -1)
abbrev Kc(q:Nat)(o p:LB)(f c w r n:Int)(g:LI)(a:Int)(x:LB):=Bg q o p f c w r n g a x false 0
theorem Alz:∀(k q:Nat) (o p:LB) (f c w r n:Int) (g:LI) (a:Int) (x:LB),FitD o f c w r n g a x->o.length<=64->SzD p g a x->OutB f c w r n g a x->p.length<=100000->muD f g a<k->k<=q->
  (∃(t2:LB) (t3 t4 t5 t6 t7:Int) (t8:LI) (t9:Int) (t10:LB),Kc q o p f c w r n g a x=some (o,t2,t3,t4,t5,t6,t7,t8,t9,t10,false,0,0)/\Wt o t2 t3 t4 t5 t6 t7 t8 t9 t10/\t2.length<=p.length/\muD t3 t8 t9<k/\
   ∀b:LB,(p++b).length<=100000->Kc q o (p++b) f c w r n g a x=Kc q o (t2++b) t3 t4 t5 t6 t7 t8 t9 t10)\/
  (∃(x':LB) (e:Int),0<e/\Cd e/\x'.length<=12000/\∀b:LB,(p++b).length<=100000->Kc q o (p++b) f c w r n g a x=some (o,[],0,0,0,0,0,[],0,x',false,e,e))
 |0,_,_,_,_,_,_,_,_,_,_,_,_,_,_,_,_,h,_=>by omega
 |k+1,q,o,p,f,c,w,r,n,g,a,x,hf,ho,hZ,hO,hp,hm,h1=>by
  obtain⟨q,rfl⟩:∃q',q=q'+1:=⟨q-1,by omega⟩;have hx:x.length<=13000000:=by have:=hZ.hx;omega
  have hS:StepR (Bb o false 0 q) o p f c w r n g a x false 0:=Aff hf ho hZ;cases hS with
  |wait hF hT=>
   refine .inl ⟨p,f,c,w,r,n,g,a,x,?_,⟨hf,hZ,hO,hT⟩,Am4 _,hm,λb _=>rfl⟩;rw[Kc,Bg,Cm,hT,Aa];simp only;rw[Aau (by decide),aN hZ.hp (by have:=hZ.hg;omega) hx,Aa]
  |err e he hF hT=>
   refine .inr ⟨x,e,he,Bdm hf ho hp hT (by omega),Axl hf hO,λb hL=>?_⟩;obtain⟨s1,s2,s3,s4,s5,s6,s7,s8,s9,s10,s11,s12,hs⟩:=(pZ b hf hL hT (by omega)).2 (by omega);rw[Kc,Bg,Cm,hs,Aa];simp only;rw[Aac (by rw[iF (by omega)];decide),Aau (by rw[Aj];simp;omega),tI hx,Aa]
  |next p' f' c' w' r' n' g' a' x' hF hT hf' hZ' hle hmu=>
   have hp':p'.length<=100000:=by omega
   rcases Alz k q o p' f' c' w' r' n' g' a' x' hf' ho hZ' (Azu hf ho hZ hO hT) hp' (by omega) (by omega)with⟨t2,t3,t4,t5,t6,t7,t8,t9,t10,k1,k2,k3,k4,k5⟩|⟨x2,e,k1,k2,k3,k4⟩
   ·refine .inl ⟨t2,t3,t4,t5,t6,t7,t8,t9,t10,?_,k2,by omega,by omega,λb hL=>?_⟩
    ·rw[Kc,Bg,Cm,hT,Aa];simp only;rw[Aac (by decide),Aac (by decide)];exact k1
    ·have hs:=(pZ b hf hL hT (by decide)).1 rfl;have hL':(p'++b).length<=100000:=by rw[Aav]at hL⊢;omega
     rw[Kc,Bg,Cm,hs,Aa];simp only;rw[Aac (by decide),Aac (by decide)];refine(k5 b hL').trans ?_;exact Ah6 k q (q+1) o (t2++b) t3 t4 t5 t6 t7 t8 t9 t10 false 0 k2.fit ho ⟨by rw[Aav]at hL⊢;omega,k2.sz.hg,k2.sz.hx⟩ k4 (by omega) (by omega)
   ·refine .inr ⟨x2,e,k1,k2,k3,λb hL=>?_⟩;have hs:=(pZ b hf hL hT (by decide)).1 rfl;have hL':(p'++b).length<=100000:=by rw[Aav]at hL⊢;omega
    rw[Kc,Bg,Cm,hs,Aa];simp only;rw[Aac (by decide),Aac (by decide)];exact k4 b hL'
abbrev Fd(o s:LB):=Kc Ax o s 0 0 0 0 0 [] 0 []
inductive Bh (o s:LB):LB->Int->Int->Int->Int->Int->LI->Int->LB->Int->Prop
 |wt {p:LB} {f c w r n:Int} {g:LI} {a:Int} {x:LB}:Wt o p f c w r n g a x->p.length<=s.length-> (∀b:LB,(s++b).length<=100000->Fd o (s++b)=Kc Ax o (p++b) f c w r n g a x)->Bh o s p f c w r n g a x 0
 |er {x:LB} {e:Int}:0<e->Cd e->x.length<=12000-> (∀b:LB,(s++b).length<=100000->Fd o (s++b)=some (o,[],0,0,0,0,0,[],0,x,false,e,e))->Bh o s [] 0 0 0 0 0 [] 0 x e
variable {o s p:LB} {f c w r n:Int} {g:LI} {a:Int} {x:LB} {e:Int}
theorem Wt.stop(W:Wt o p f c w r n g a x):Kc Ax o p f c w r n g a x=some (o,p,f,c,w,r,n,g,a,x,false,0,0):=by
 obtain⟨q,hq⟩:∃q,Ax=q+1:=⟨Ax-1,by have:=As;omega⟩;have hx:x.length<=13000000:=by have:=W.sz.hx;omega
 rw[Kc,hq,Bg,Cm,W.wait,Aa];simp only;rw[Aau (by decide),aN W.sz.hp (by have:=W.sz.hg;omega) hx,Aa]
theorem Bh.fd(h:Bh o s p f c w r n g a x e)(hs:s.length<=100000):Fd o s=some (o,p,f,c,w,r,n,g,a,x,false,e,e):=by
 cases h with
 |wt W hl hb=>
  have:=hb [] (by simpa using hs);rw[Apl,Apl]at this;rw[this,W.stop]
 |er h0 hc hx hb=>
  have:=hb [] (by simpa using hs);rw[Apl]at this;exact this
theorem Bh.new(ho:o.length<=64):Bh o [] [] 0 0 0 0 0 [] 0 [] 0:=by
 refine .wt ⟨.new rfl rfl rfl rfl rfl rfl rfl rfl,⟨by simp,by simp,by simp⟩,OutB.nil,?_⟩ (Am4 _) λb _=>rfl;rw[Ag,Bo,Aau (by decide),Zr [] (by simp),Aa];rfl
theorem Bcy(ho:o.length<=64)(W:Wt o p f c w r n g a x)(b:LB)(hp:p.length<=20000)(hb:b.length<=20000):
  Jz o p f c w r n g a x false 0 b=Kc Ax o (p++b) f c w r n g a x/\Kf o p f c w r n g a x false 0 b=Kc Ax o (p++b) f c w r n g a x:=by
 have hR:Kf o p f c w r n g a x false 0 b=Kc Ax o (p++b) f c w r n g a x:=by
  have hx:x.length<=13000000:=by have:=W.sz.hx;omega
  have hg:g.length<=2000:=by have:=W.sz.hg;omega
  have hE:¬(Bc (0:Int) 0=true):=by decide
  have hF:¬(false=true):=by decide
  rw[Kf,Se,Ac5 W.fit ho W.out W.wait,Aa,Aac hE,aN (by omega) hg hx,Aa];simp only;rw[Sa]
  repeat (first|rw[Aa]|rw[Aac hE]|rw[Aac hF])
  rw[Bi (by omega),Aa];rfl
 obtain⟨t1,t2,t3,t4,t5,t6,t7,t8,t9,t10,t11,t12,e,h1,h2,_⟩:=Bh0 ho W.fit W.sz b hp hb;exact⟨h1.trans (h2.symm.trans hR),hR⟩
theorem Bh.check(ho:o.length<=64)(h:Bh o s p f c w r n g a x e)(hp:p.length<=100000):Pg o p f c w r n g a x false e=some 0/\Ed o p f c w r n g a x false e=some 0:=by
 have key:Ed o p f c w r n g a x false e=some 0/\g.length<=1000/\x.length<=13000000:=by
  cases h with
  |wt W hl hb=>exact⟨Ac5 W.fit ho W.out W.wait,W.sz.hg,by have:=W.sz.hx;omega⟩
  |er h0 hc hx hb=>exact⟨Ahn ho hx hc h0,by simp,by omega⟩
 obtain⟨k1,k2,k3⟩:=key;obtain⟨E,e1,e2⟩:=Afn o p f c w r n g a x false e hp (by omega) (by omega);rw[k1]at e2;cases e2;exact⟨e1,k1⟩
theorem Bh.feed(ho:o.length<=64)(h:Bh o s p f c w r n g a x e)(hp:p.length<=20000)(b:LB)(hb:b.length<=20000)(hs:(s++b).length<=100000):
  ∃(p':LB) (f' c' w' r' n':Int) (g':LI) (a':Int) (x':LB) (e':Int),Jz o p f c w r n g a x false e b=some (o,p',f',c',w',r',n',g',a',x',false,e',e')/\
   Kf o p f c w r n g a x false e b=some (o,p',f',c',w',r',n',g',a',x',false,e',e')/\Bh o (s++b) p' f' c' w' r' n' g' a' x' e':=by
 have hck:=h.check ho (by omega);cases h with
 |wt W hl hB=>
  obtain⟨h1,h2⟩:=Bcy ho W b hp hb;have hpb:(p++b).length<=100000:=by rw[Aav];omega
  have hZ:SzD (p++b) g a x:=⟨hpb,W.sz.hg,W.sz.hx⟩;rcases Alz 1004 Ax o (p++b) f c w r n g a x W.fit ho hZ W.out hpb (Azp hZ) (by have:=As;omega)with⟨t2,t3,t4,t5,t6,t7,t8,t9,t10,k1,k2,k3,k4,k5⟩|⟨x2,e,k1,k2,k3,k4⟩
  ·refine⟨t2,t3,t4,t5,t6,t7,t8,t9,t10,0,h1.trans k1,h2.trans k1, .wt k2 ?_ λb2 hL=>?_⟩
   ·rw[Aav]at k3⊢;omega
   ·rw[Agd,hB (b++b2) (by rw[<-Agd];exact hL),<-Agd];refine k5 b2 ?_;rw[Aav,Aav]at hL⊢;omega
  ·have k4':=k4 [] (by simpa using hpb);rw[Apl]at k4';refine⟨_,_,_,_,_,_,_,_,_,_,h1.trans k4',h2.trans k4', .er k1 k2 k3 λb2 hL=>?_⟩;rw[Agd,hB (b++b2) (by rw[<-Agd];exact hL),<-Agd];refine k4 b2 ?_;rw[Aav,Aav]at hL⊢;omega
 |er h0 hc hx hB=>
  have hne:Bc e 0=true:=by rw[Aj];simp;omega
  refine⟨_,_,_,_,_,_,_,_,_,_,?_,?_, .er h0 hc hx λb2 hL=>?_⟩
  ·rw[Jz,Ww,pE (by simp) (by simp) (by omega) hck.1,Aac (by decide),Aa];simp only;rw[Aau (show e≠0 by omega),Aau hne]
  ·rw[Kf,Se,hck.2,Aa,Aac (by decide),aN (by simp) (by simp) (by omega),Aa];simp only;rw[Sa,Aau hne,Aa,Aau hne]
  ·rw[Agd];exact hB (b++b2) (by rw[<-Agd];exact hL)
end Go.Pl
namespace Go.Pl
open Go Go.Lv
section
variable {o s p:LB} {f c w r n:Int} {g:LI} {a:Int} {x:LB} {e:Int}
theorem FitD.drop(h:FitD o f c w r n g a x)(t:Nat):FitD o f c w r n g a (x.drop t):=by
 cases h with
 |new e1 e2 e3 e4 e5 e6 e7 e8=>subst e8;exact .new e1 e2 e3 e4 e5 e6 e7 (by simp)
 |head F C W R N hd hpw e6 e7 e8=>subst e8;exact .head F C W R N hd hpw e6 e7 (by simp)
 |tab F C W R N A hd hpw ht hl ea hA=>exact .tab F C W R N A hd hpw ht hl ea hA
theorem OutB.drop(h:OutB f c w r n g a x)(t:Nat):OutB f c w r n g a (x.drop t):=by
 intro F C W R N A hd hg ha;have:=h F C W R N A hd hg ha;rw[Ajb];omega
theorem Bh.Bew(h:Bh o s p f c w r n g a x e):p.length<=s.length/\g.length<=1000/\x.length<=12000:=by
 cases h with
 |wt W hl hb=>exact⟨hl,W.sz.hg,Axl W.fit W.out⟩
 |er h0 hc hx hb=>exact⟨by simp,by simp,hx⟩
end
section
variable {o s p:LB} {f c w r n:Int} {g:LI} {a:Int} {x:LB} {e:Int}
theorem Awa{u:Bool}{v:Int}(hp:p.length<=20000)(h:Cz o p f c w r n g a x u v=some e):Cd e:=by
 rw[Cz]at h;split at h
 ·rw[BC p (by omega),Aa]at h;have hok:=BN (b:=p);simp only at h;by_cases h2:(Bm p).2≠0
  ·rw[Aau (by rw[Aj];simpa using h2)]at h;cases h;exact zR p
  ·have h3:(Bm p).2=0:=by simpa using h2
   obtain⟨k1,k2,k3⟩:=hok h3;have hl:(Ih p).length<=p.length:=by rw[Ih,Ajb];omega
   rw[Aac (by rw[Aj,h3];simp),Bs (by omega) (by omega),Aa,show p.drop (Bm p).1.toNat=Ih p from rfl,fJ _ (by omega),Aa]at h;cases h;exact Adl _
 ·split at h
  ·cases h;decide
  ·obtain⟨⟨z1,z2⟩,hz,h⟩:=cB h;simp only at h;split at h<;>(cases h;decide)
theorem Be9{u:Bool}{v k:Int}(ho:o.length<=64)(hx:x.length<=12000)(hk:(u=false/\v=k/\0<k/\Cd k)\/ (u=true/\v=0/\k=36)):
  Pg o [] 0 0 0 0 0 [] 0 x u v=some 0/\ (∀b,Jz o [] 0 0 0 0 0 [] 0 x u v b=some (o,[],0,0,0,0,0,[],0,x,u,v,k))/\Hk o [] 0 0 0 0 0 [] 0 x u v=some (o,[],0,0,0,0,0,[],0,x,u,v,k):=by
 have key:Ed o [] 0 0 0 0 0 [] 0 x u v=some 0:=by
  rcases hk with⟨rfl,rfl,h1,h2⟩|⟨rfl,rfl,rfl⟩
  ·exact Ahn ho hx h2 h1
  ·have hX:Eh (Ac x) 12000=false:=by rw[Aq,Ac];simp;omega
   rw[Ed,Aac (by rw[Aq,Ac];simp;omega),Aac (by decide),Aau (by decide),hX,Aac (by decide),Aac (by decide)]
 obtain⟨E,e1,e2⟩:=Afn o [] 0 0 0 0 0 [] 0 x u v (by simp) (by simp) (by omega);rw[key]at e2;cases e2;have hv:(if v≠0 then v else if u=true then 36 else 0)=k:=by
  rcases hk with⟨rfl,rfl,h1,h2⟩|⟨rfl,rfl,rfl⟩
  ·rw[Aau (by omega)]
  ·rfl
 have hk0:Bc k 0=true:=by
  rw[Aj];rcases hk with⟨rfl,rfl,h1,h2⟩|⟨rfl,rfl,rfl⟩
  ·simp;omega
  ·rfl
 have hb:=pE (o:=o) (p:=[]) (f:=0) (c:=0) (w:=0) (r:=0) (n:=0) (g:=[]) (a:=0) (x:=x) (u:=u) (v:=v) (by simp) (by simp) (by omega) e1;rw[Aac (by decide),hv]at hb;refine⟨e1,λb=>?_,?_⟩
 ·rw[Jz,Ww,hb,Aa];simp only;rw[Aau hk0]
 ·rw[Hk,hb,Aa];simp only;rw[Aau hk0]
theorem Bh.finish(ho:o.length<=64)(h:Bh o s p f c w r n g a x e)(hp:p.length<=20000):
  ∃(u:Bool) (v k:Int),Hk o p f c w r n g a x false e=some (o,[],0,0,0,0,0,[],0,x,u,v,k)/\ ((u=false/\v=k/\0<k/\Cd k/\ (e=0\/e=k))\/ (u=true/\v=0/\k=0)):=by
 have hs:=h.Bew;have hck:=(h.check ho (by omega)).1;have hb:=pE (o:=o) (p:=p) (f:=f) (c:=c) (w:=w) (r:=r) (n:=n) (g:=g) (a:=a) (x:=x) (u:=false) (v:=e) (by omega) (by omega) (by omega) hck;rw[Aac (by decide)]at hb;cases h with
 |wt W hl hB=>
  obtain⟨e1,d1,d2⟩:=zZ (o:=o) (p:=p) (f:=f) (c:=c) (w:=w) (r:=r) (n:=n) (a:=a) (u:=false) (v:=0) (g:=g) (x:=x) hp;have hcd:=Awa hp d2;rw[Hk,hb,Aa];simp only;rw[Aac (by decide),d1,Aa];by_cases he:Bc e1 0=true
  ·rw[Aau he];refine⟨false,e1,e1,rfl, .inl ⟨rfl,rfl,?_,hcd,by simp⟩⟩;have:=hcd.nn;rw[Aj]at he;simp only[Blo]at he;omega
  ·rw[Aac he];exact⟨true,0,0,rfl, .inr ⟨rfl,rfl,rfl⟩⟩
 |er h0 hc hx hB=>
  have hne:Bc e 0=true:=by rw[Aj];simp;omega
  rw[Hk,hb,Aa];simp only;rw[Aau (show e≠0 by omega),Aau hne];exact⟨false,e,e,rfl, .inl ⟨rfl,rfl,h0,hc, .inr rfl⟩⟩
end
section
variable {o p:LB} {f c w r n:Int} {g:LI} {a:Int} {x:LB} {q:Nat}
theorem AX(hp:p.length<=100000)(hg:g.length<=1000)(hx:x.length<=13000000)(h:Ag o p f c w r n g a x false 0=some (o,p,f,c,w,r,n,g,a,x,false,0, -1)):Kc (q+1) o p f c w r n g a x=some (o,p,f,c,w,r,n,g,a,x,false,0,0):=by
 rw[Kc,Bg,Cm,h,Aa];simp only;rw[Aau (by decide),aN hp (by omega) hx,Aa]
theorem SC(hx:x.length<=13000000){e:Int}(he:0<e){t2:LB}{t3 t4 t5 t6 t7:Int}{t8:LI}{t9:Int}{t11:Bool}{t12:Int}(h:Ag o p f c w r n g a x false 0=some (o,t2,t3,t4,t5,t6,t7,t8,t9,x,t11,t12,e)):Kc (q+1) o p f c w r n g a x=some (o,[],0,0,0,0,0,[],0,x,false,e,e):=by
 rw[Kc,Bg,Cm,h,Aa];simp only;rw[Aac (by rw[iF (by omega)];decide),Aau (by rw[Aj];simp;omega),tI hx,Aa]
theorem qN{p':LB}{f' c' w' r' n':Int}{g':LI}{a':Int}{x':LB}(h:Ag o p f c w r n g a x false 0=some (o,p',f',c',w',r',n',g',a',x',false,0,0)):Kc (q+1) o p f c w r n g a x=Kc q o p' f' c' w' r' n' g' a' x':=by
 rw[Kc,Bg,Cm,h,Aa];simp only;rw[Aac (by decide),Aac (by decide)]
end
def Ends(o:LB)(R:Option Bh2)(x:LB)(e:Int):Prop:=(0<e/\R=some (o,[],0,0,0,0,0,[],0,x,false,e,e))\/ (∃(p:LB) (f c w r n:Int) (g:LI) (a:Int),p.length<=100000/\R=some (o,p,f,c,w,r,n,g,a,x,false,0,0)/\Cz o p f c w r n g a x false 0=some e)
theorem Age(b p:LB)(hb:b.length<=20000)(hp:p.length<=64)(q:Nat):
  (∃e:Int,e≠0/\Cc b p=some (HA e)/\Ends p (Kc (q+2) p b 0 0 0 0 0 [] 0 []) [] e)\/ (∃f c w r n A l,Opn b p f c w r n A l/\Kc (q+2) p b 0 0 0 0 0 [] 0 []=Kc q p (b.drop A) (f:Int) (c:Int) (w:Int) (r:Int) (n:Int) l 0 []):=by
 have hx0:([]:LB).length<=13000000:=by simp
 have hg0:([]:LI).length<=1000:=by simp
 have hT:Ag p b 0 0 0 0 0 [] 0 [] false 0=Ag p b 0 0 0 0 0 [] 0 [] false 0:=rfl
 conv at hT=>rhs;rw[Ag,Bo,Aau (by decide),Zr b (by omega),Aa,stS]
 have hE:Cz p b 0 0 0 0 0 [] 0 [] false 0=Cz p b 0 0 0 0 0 [] 0 [] false 0:=rfl
 conv at hE=>rhs;rw[Cz,Aau (by decide),BC b (by omega),Aa]
 have hP:Cc b p=Cc b p:=rfl
 conv at hP=>rhs;rw[Cc,Nf,Aac (by rw[Aq,Ac];simp;omega),Aac (by rw[Aq,Ac];simp;omega),Io b (by omega),Aa]
 have hfn:=xU b;have hrn:=Adm (Ih b);have hopen:=vE b p (by omega) hp;simp only at hE;by_cases h2:(Bm b).2=0
 ·obtain⟨p0,p1,p2⟩:=BN h2;have hc:=Bs (l:=b) p0 p1;have hlen:(Ih b).length=b.length-(Bm b).1.toNat:=by simp[Ih]
  simp only[h2]at hP hE;rw[Aac (show ¬(Bm b).2=24 by omega),Aac (show ¬(Bm b).2≠0 by omega)]at hT;rw[Aac (by rw[Aj];simp),hc,Aa,show b.drop (Bm b).1.toNat=Ih b from rfl,Xd _ (by simp[Ih];omega),Aa]at hP;rw[Aac (by rw[Aj];simp),hc,Aa,show b.drop (Bm b).1.toNat=Ih b from rfl,fJ _ (by simp[Ih];omega),Aa]at hE;by_cases h3:(Ej (Ih b)).2.2.2.2.2=0
  ·obtain⟨g1,g2,g3,g4⟩:=pR h3;have Bec:¬((Pf (Ih b) ID3||Pf (Ih b) APX)=true):=by
    have i1:Pf (Ih b) ID3=false:=by rw[Pf,Bfl (by simp[ID3];omega)];rfl
    have i2:Pf (Ih b) APX=false:=by rw[Pf,Bfl (by simp[APX];omega)];rfl
    rw[i1,i2];decide
   rw[Aac Bec,Aac (show ¬(Ej (Ih b)).2.2.2.2.2=24 by omega),h3]at hT;simp only at hT;rw[Aac (by decide)]at hT;have hd:HdI (f0 (Ih b):Int) (f1 (Ih b):Int) (f2 (Ih b):Int) (f3 (Ih b):Int) (f4 (Ih b):Int) (f0 (Ih b)) (f1 (Ih b)) (f2 (Ih b)) (f3 (Ih b)) (f4 (Ih b)):=⟨rfl,rfl,rfl,rfl,rfl,g3,g4⟩;generalize hF:(Bm b).1.toNat=F at*
   have hF':(Bm b).1=(F:Int):=by omega
   rw[g1,hF']at hP hT;simp only at hP hT;generalize f0 (Ih b)=f at*
   generalize f1 (Ih b)=c at*
   generalize f2 (Ih b)=w at*
   generalize f3 (Ih b)=r at*
   generalize f4 (Ih b)=n at*
   have t22:Ad (F:Int) 22=((F+22:Nat):Int):=by rw[Ah (by omega) (by omega)];omega
   have t30:Ad ((F+22:Nat):Int) 8=((F+30:Nat):Int):=by rw[Ah (by omega) (by omega)];omega
   have Bjm:f=1\/f=2:=by simp only[Fi,Abk]at g3;omega
   have hf1:geq (f:Int) 1=decide (f=1):=by rw[Ar,Alf];simp;omega
   rw[Aac (by rw[Aj];simp),t22,t30]at hP;rw[Bs (by omega) (by omega),Aa,Hg,Hj,Eu,show((F:Int)+22).toNat=F+22 by omega]at hT;by_cases LZ:((p==([]:List UInt8)) !=(geq (f:Int) (1:Int)))=true
   ·rw[Aau LZ]at hP hT;rw[Aa]at hT;exact .inl ⟨26,by omega,hP, .inl ⟨by omega,SC (q:=q+1) hx0 (by decide) hT⟩⟩
   ·rw[Aac LZ]at hP hT;rw[Aa]at hT;have hl1:=qN (q:=q+1) hT;have hpf:(p=[]↔f=1):=by
     rw[Ar]at LZ;have h5:(p==([]:List UInt8))=((f:Int)==1):=by simpa using LZ
     have h6:(p==([]:List UInt8))=true↔((f:Int)==1)=true:=by rw[h5]
     rw[Atu,Atu]at h6;rw[h6];omega
    have hpw:(p==([]:LB))=decide (f=1):=by rw[<-hf1];simpa using LZ
    have hdl:(b.drop (F+22)).length=b.length-(F+22):=Ajb;have hE2:Cz p (b.drop (F+22)) (f:Int) (c:Int) (w:Int) (r:Int) (n:Int) [] 0 [] false 0=some 24:=by
     rw[Cz,Aac (by rw[Ar];simp;omega),Aau (by decide)]
    have hT2:Ag p (b.drop (F+22)) (f:Int) (c:Int) (w:Int) (r:Int) (n:Int) [] 0 [] false 0=Ag p (b.drop (F+22)) (f:Int) (c:Int) (w:Int) (r:Int) (n:Int) [] 0 [] false 0:=rfl
    conv at hT2=>rhs;rw[Ag,Bo,Aac (by rw[Ar];simp;omega),Bv,Bt,Aau (by decide),Fg,Hq]
    have hend:∀D:Nat,F+22+D<=b.length->D=(if f=2 then 8 else 0)->Cc b p=Ql b (f:Int) (c:Int) (w:Int) (r:Int) (n:Int) ((F+22+D:Nat):Int)->
      Ag p (b.drop (F+22)) (f:Int) (c:Int) (w:Int) (r:Int) (n:Int) [] 0 [] false 0=((Du (b.drop (F+22)) (f:Int) (c:Int) (w:Int) (r:Int) (n:Int) (D:Int)).bind (λ(ag,ak,w1)=>if(Bc w1 0)then some (p,b.drop (F+22),(f:Int),(c:Int),(w:Int),(r:Int),(n:Int),([]:LI),(0:Int),([]:LB),false,(0:Int),w1)else(Br (b.drop (F+22)) ag (Ac (b.drop (F+22)))).bind λal=>some (p,al,(f:Int),(c:Int),(w:Int),(r:Int),(n:Int),ak,(0:Int),([]:LB),false,(0:Int),(0:Int))))->
      (∃e:Int,e≠0/\Cc b p=some (HA e)/\Ends p (Kc (q+2) p b 0 0 0 0 0 [] 0 []) [] e)\/ (∃f c w r n A l,Opn b p f c w r n A l/\Kc (q+2) p b 0 0 0 0 0 [] 0 []=Kc q p (b.drop A) (f:Int) (c:Int) (w:Int) (r:Int) (n:Int) l 0 []):=by
     intro D hD hD2 e1 e2;obtain⟨_,k2,k3⟩:=zC hd p (b.drop (F+22)) (by omega) D (by omega) 0 [] false 0;rw[rG g3 g4 b (by omega) (F+22+D) hD]at e1;rw[k2,Aa]at e2;have hnn:=Ac2 ((b.drop (F+22)).drop D) (Al (Ak r) n).length;have hok:=gJ (b:=(b.drop (F+22)).drop D) (n:=(Al (Ak r) n).length);rw[Bhv]at e2 hnn hok k3;generalize hz:Ek (b.drop (F+22+D)) (Al (Ak r) n).length=z at*
     obtain⟨z1,z2⟩:=z;simp only at e1 e2 hnn hok k3;by_cases h:z2≠0
     ·rw[Aau h]at e1;refine .inl ⟨z2,h,e1,?_⟩;by_cases h24:z2=24
      ·rw[Aau h24]at e2;simp only at e2;rw[Aau (by decide)]at e2;rw[h24];exact .inr ⟨_,_,_,_,_,_,_,_,by omega,hl1.trans (AX (by omega) hg0 hx0 e2),hE2⟩
      ·rw[Aac h24]at e2;simp only at e2;rw[Aau (by rw[Aj];simpa using h)]at e2;exact .inl ⟨by omega,hl1.trans (SC hx0 (by omega) e2)⟩
     ·have h0:z2=0:=by simpa using h
      subst h0;obtain⟨k1,m2,m3,m4,m5,m6⟩:=hok rfl;have hk3:=k3 rfl;simp only[Agm,Bl9]at k1;have gl:z1.length=(Al (Ak r) n).length:=by rw[k1];exact Va _ _
      rw[Aac (show ¬((0:Int)≠0) by decide)]at e1;rw[Aac (show ¬((0:Int)=24) by decide)]at e2;simp only at e2;rw[Aac (by decide),Bs (by omega) (by omega),Aa,Bhv]at e2;rcases hopen with⟨e,he,h1,_⟩|⟨f',c',w',r',n',A',l',o'⟩
      ·rw[e1]at h1;have:=Atf h1;simp only[HA,Agm]at this;exact absurd this.2.2.2.2.2.2.2.symm he
      ·have hpr:=o'.prog;rw[e1]at hpr;simp only[Ab3,Agm]at hpr;obtain⟨v1,v2,v3,v4,v5,v6,v7,_⟩:=hpr;refine .inr ⟨f',c',w',r',n',A',l',o',?_⟩;rw[<-v1,<-v2,<-v3,<-v4,<-v5,<-v7];refine hl1.trans ((qN e2).trans ?_);congr 2;omega
    by_cases h5:f=2
    ·have Awm:p≠ []:=λe=>by have:=hpf.1 e;omega
     have h64:(p !=([]:List UInt8))=true:=by simpa using Awm
     rw[Aau h64]at hP;rw[Aau (by rw[Ar,h5];rfl)]at hT2;by_cases h6:b.length<F+30
     ·rw[Aau (by rw[Ae,Ac];simp;omega)]at hP hT2;rw[Aa]at hT2;simp only at hT2;rw[Aau (by decide)]at hT2;exact .inl ⟨24,by omega,hP, .inr ⟨_,_,_,_,_,_,_,_,by omega,hl1.trans (AX (by omega) hg0 hx0 hT2),hE2⟩⟩
     ·have hseg:((b.take (F+30)).drop (F+22)).length=8:=by simp;omega
      have Blb:(b.drop (F+22)).take 8=(b.take (F+30)).drop (F+22):=by rw[Bl8];congr 1;omega
      rw[Aac (by rw[Ae,Ac];simp;omega),Uk (by omega) (by omega) (by omega),Aa]at hP;rw[Aac (by rw[Ae,Ac,hdl];simp;omega),Dl (by omega) (by omega),Aa,fZ p hp,Aa,show(8:Int).toNat=8 from rfl,Blb]at hT2;rw[Pc,qE p hp,Aa]at hP;simp only at hP;rw[Aac (by rw[Aj,Aj,Ac,Ac,Ce,show((F+30:Nat):Int).toNat=F+30 from rfl,show((F+22:Nat):Int).toNat=F+22 from rfl,hseg];simp),Ig,Aa,Aa]at hP;simp only at hP;rw[Aac (by rw[Aj];simp),show((F+30:Nat):Int).toNat=F+30 from rfl,show((F+22:Nat):Int).toNat=F+22 from rfl]at hP;generalize(b.take (F+30)).drop (F+22)=rL at*
      by_cases h7:rL=Ry (Lg p).toNat 8
      ·rw[Aac (by simp[h7])]at hP hT2;exact hend 8 (by omega) (by rw[Aau h5]) hP hT2
      ·rw[Aau (by simpa using h7)]at hP;rw[Aau (by simpa using h7),Aa]at hT2;simp only at hT2;rw[Aau (by decide)]at hT2;exact .inl ⟨26,by omega,hP, .inl ⟨by omega,hl1.trans (SC hx0 (by decide) hT2)⟩⟩
    ·have hpe:p=[]:=hpf.2 (by omega);rw[Aac (by rw[hpe];simp)]at hP;rw[Aac (by rw[Ar];simp;omega)]at hT2;exact hend 0 (by omega) (by rw[Aac h5]) hP hT2
  ·have h3':=h3;generalize Ej (Ih b)=v at*
   obtain⟨v1,v2,v3,v4,v5,v6⟩:=v;simp only at h3 hP hE hrn;rw[Aau (by rw[Aj];simpa using h3)]at hP;refine .inl ⟨v6,h3,hP,?_⟩;by_cases Bec:(Pf (Ih b) ID3||Pf (Ih b) APX)=true
   ·rw[Aau Bec]at hT;simp only at hT;rw[Aau (by decide)]at hT;exact .inr ⟨_,_,_,_,_,_,_,_,by omega,AX (by omega) hg0 hx0 hT,hE⟩
   ·rw[Aac Bec]at hT;by_cases h24:v6=24
    ·rw[Aau h24]at hT;simp only at hT;rw[Aau (by decide)]at hT;exact .inr ⟨_,_,_,_,_,_,_,_,by omega,AX (by omega) hg0 hx0 hT,hE⟩
    ·rw[Aac h24]at hT;simp only at hT;rw[Aau (by rw[Aj];simpa using h3)]at hT;exact .inl ⟨by omega,SC hx0 (by omega) hT⟩
 ·have h2':=h2;generalize Bm b=v at*
  obtain⟨v,e⟩:=v;simp only at h2 hP hT hE hfn;rw[Aau (by rw[Aj];simpa using h2)]at hP hE;refine .inl ⟨e,h2,hP,?_⟩;by_cases h24:e=24
  ·rw[Aau h24]at hT;simp only at hT;rw[Aau (by decide)]at hT;exact .inr ⟨_,_,_,_,_,_,_,_,by omega,AX (by omega) hg0 hx0 hT,hE⟩
  ·rw[Aac h24,Aau h2]at hT;simp only at hT;rw[Aau (by rw[Aj];simpa using h2)]at hT;exact .inl ⟨by omega,SC hx0 (by omega) hT⟩
section
variable {b p:List UInt8} {f c w r n A:Nat} {l:List Int} (o:Opn b p f c w r n A l) (hb:b.length<=20000)
include o hb
theorem Aa6:∀(j k q:Nat) (acc:List UInt8),k+j=l.length->j<q-> (A:Int)+(l.take k).sum<=b.length->acc.length<=12000*k->
  ∃X,Ends p (Kc q p (b.drop ((A:Int)+(l.take k).sum).toNat) (f:Int) (c:Int) (w:Int) (r:Int) (n:Int) l (k:Int) acc) X (lF (Jb b p f c w r n A l) (XH b A l) j k acc).2/\
   ((lF (Jb b p f c w r n A l) (XH b A l) j k acc).2=0->X=(lF (Jb b p f c w r n A l) (XH b A l) j k acc).1)
 |j,k,0,_,_,h,_,_=>absurd h (Bfn _)
 |j,k,q+1,acc,hk,hq,hA,ha=>by
  have hd:HdI (f:Int) (c:Int) (w:Int) (r:Int) (n:Int) f c w r n:=⟨rfl,rfl,rfl,rfl,rfl,o.shape,o.fit⟩;have hs1:=o.some1;have hsum:=o.sum;have DM:=hd.num;have hlen:=o.len;have b1:=Ia o.five k;have hfn:¬(geq (f:Int) 0=true):=by rw[Ar];simp;omega
  have hgl:¬(geq (Ac l) 0=true):=by rw[Ar,Ac,Atu];omega
  have hgf:geq (Ac l) 0=false:=by simpa using hgl
  generalize hIn:b.drop ((A:Int)+(l.take k).sum).toNat=In;have Bhi:In.length=b.length-((A:Int)+(l.take k).sum).toNat:=by rw[<-hIn,Ajb]
  have hT:Ag p In (f:Int) (c:Int) (w:Int) (r:Int) (n:Int) l (k:Int) acc false 0=Ag p In (f:Int) (c:Int) (w:Int) (r:Int) (n:Int) l (k:Int) acc false 0:=rfl
  conv at hT=>rhs;rw[Ag,Bo,Aac hfn,Bv,Bt,Aac hgl]
  have hE:Cz p In (f:Int) (c:Int) (w:Int) (r:Int) (n:Int) l (k:Int) acc false 0=Cz p In (f:Int) (c:Int) (w:Int) (r:Int) (n:Int) l (k:Int) acc false 0:=rfl
  conv at hE=>rhs;rw[Cz,Aac hfn]
  cases j with
  |zero=>
   obtain rfl:k=l.length:=by omega
   rw[Awj]at hIn Bhi;have hbe:XH b A l=(Nt In).2:=by rw[XH,hIn]
   rw[Aau (by rw[Ar,Ac];simp)]at hT;have hgt:Cv (l.length:Int) (Ac l)=false:=by rw[Ae,Ac,Ba8];omega
   rw[Aac (by rw[hgf,hgt];decide),tW In (by omega),Aa]at hE;rw[lF,hbe];have hbz:=Ahf In;have hb4:4000<In.length-> (Nt In).2=38:=λh4=>by rw[Nt,Aau h4]
   generalize Nt In=z at*
   obtain⟨z1,z2⟩:=z;simp only at hE hbz hb4⊢;by_cases h4:4000<In.length
   ·rw[Aau (by rw[Aq,Ac];simp;omega)]at hT;rw[hb4 h4,Aau (by decide)];exact⟨acc, .inl ⟨by decide,SC (by omega) (by decide) hT⟩,λh=>by cases h⟩
   ·rw[Aac (by rw[Aq,Ac];simp;omega)]at hT;have hlw:=AX (q:=q) (by omega:In.length<=100000) hs1.2 (by omega) hT;rcases hbz with h|h
    ·rw[h,Aac (by decide)];rw[h,Aac (by decide)]at hE;exact⟨acc, .inr ⟨_,_,_,_,_,_,_,_,by omega,hlw,hE⟩,λ_=>rfl⟩
    ·rw[h,Aau (by decide)];rw[h,Aau (by decide)]at hE;exact⟨acc, .inr ⟨_,_,_,_,_,_,_,_,by omega,hlw,hE⟩,λh=>by cases h⟩
  |succ j=>
   have hlt:k<l.length:=by omega
   have hlt2:k<(Al (Ak r) n).length:=by omega
   obtain⟨m,x,s,e,g⟩:=BJ o k hlt;have hw:Bk (w:Int):=(Nh o.shape).2.1;have Ba7:=g.lens hw;have b2:=Ia o.five (k+1);have e1:=Jv hlt;have h5:=o.five l[k] (Ami _);have hm:=g.mom;rw[Aac (by rw[Ar,Ac];simp;omega),Dh,Em,Bq hlt,Aa]at hT;have hgt:Cv (k:Int) (Ac l)=true:=by rw[Ae,Ac,Abk];omega
   rw[Aau (by rw[hgf,hgt];decide)]at hE;rw[lF,g.eq];simp only;rcases g.way with⟨w1,rfl⟩|⟨w1,_,w2⟩
   ·rw[Aau (by rw[Ae,Ac];simp;omega),Aa]at hT;simp only at hT;rw[Aau (by decide)]at hT;rw[Aau (by decide)];exact⟨acc, .inr ⟨_,_,_,_,_,_,_,_,by omega,AX (by omega) hs1.2 (by omega) hT,hE⟩,λh=>by cases h⟩
   ·have hseg:In.take l[k].toNat=Abj b A l k:=by
     rw[Abj,<-hIn,Bl8];congr 1;omega
    have hnn:=rC hw (Mg p) DM.2.1.1 DM.2.1.2 g.pos.1 (by
     have hlt3:=Bq hlt2;rw[hlt3]at hm;have hm':=Atf hm;obtain⟨m',hm2,m1,m2⟩:=Wo (Ex r) DM.2.2.2.2.1 (Ami hlt2);omega) w2
    rw[Aac (by rw[Ae,Ac];simp;omega),SM p o.pass,Aa]at hT;simp only at hT;rw[Dl (by omega) (by omega),Aa,hseg,Fy,Aa]at hT;simp only at hT;rw[hd.Akc,Aa,hm,Aa,Aa,w2,Aa]at hT;simp only at hT;rw[Eo,Es]at hT;by_cases he:e≠0
    ·rw[Aau (by rw[Aj];simpa using he),Aa]at hT;simp only at hT;rw[Aau (by rw[Aj];simpa using he)]at hT;rw[Aau he];exact⟨acc, .inl ⟨by simp only;omega,SC (by omega) (by omega) hT⟩,λh=>absurd h he⟩
    ·have he0:e=0:=by simpa using he
     obtain⟨q1,q2,q3,q4,q5⟩:=g.some' he0;rw[Aac (by rw[Aj];simpa using he),OD hw (by omega) q3,<-q1,Aa,Aa]at hT;simp only at hT;rw[Aac (by decide),Bi (by simp;omega),Aa,Apc,Bi (by omega),Aa,Aa,Bs (by omega) (by omega),Aa,Ah (by omega) (by omega)]at hT;rw[Aac he,qN hT];have Bhj:In.drop l[k].toNat=b.drop ((A:Int)+(l.take (k+1)).sum).toNat:=by rw[<-hIn,Bhv];congr 1;omega
     rw[Bhj];exact Aa6 j (k+1) q (acc++s) (by omega) (by omega) q5 (by rw[Aav];omega)
end
theorem Aue(b p:LB)(hb:b.length<=20000)(hp:p.length<=64):∃(X:LB) (x1 x2 x3:Int) (x4:LX) (E:Int),Ends p (Fd p b) X E/\Ny b p=some (x1,x2,x3,x4,E)/\ (E=0->Le x2 x4=some (X,0)):=by
 obtain⟨q,hq⟩:∃q,Ax=q+1002+2:=⟨Ax-1004,by have:=As;omega⟩;rw[Fd,hq];rcases Age b p hb hp (q+1002)with⟨e,he,h1,h2⟩|⟨f,c,w,r,n,A,l,o,h2⟩
 ·rcases rA b p (by omega) hp with⟨e',he',k1,_,k3,_⟩|⟨f,c,w,r,n,A,l,o,_,_⟩
  ·rw[h1]at k1;have:=Atf k1;simp only[HA,Agm]at this;obtain rfl:=this.2.2.2.2.2.2.2;exact⟨[],0,0,0,[],e,h2,k3,λh=>absurd h he⟩
  ·have:=o.prog;rw[h1]at this;have:=Atf this;simp only[HA,Agm]at this;exact absurd this.2.2.2.2.2.2.2 he
 ·rcases rA b p (by omega) hp with⟨e',he',k1,_,k3,_⟩|⟨f',c',w',r',n',A',l',o',k3,_⟩
  ·have:=o.prog;rw[k1]at this;have:=Atf this;simp only[HA,Agm]at this;exact absurd this.2.2.2.2.2.2.2 he'
  ·have hpr:=o'.prog;rw[o.prog]at hpr;simp only[Ab3,Agm]at hpr;obtain⟨v1,v2,v3,v4,v5,v6,v7,_⟩:=hpr;obtain rfl:f=f':=by omega
   obtain rfl:c=c':=by omega
   obtain rfl:w=w':=by omega
   obtain rfl:r=r':=by omega
   obtain rfl:n=n':=by omega
   obtain rfl:A=A':=by omega
   subst v7;have hs1:=o.some1;have hat:=o.at';obtain⟨X,g1,g2⟩:=Aa6 o hb l.length 0 (q+1002) [] (by omega) (by omega) (by rw[Bgs,Bk2];omega) (by simp);rw[Bgs,Bk2,Int.add_zero,Agr]at g1;have hrc:=Aeg w (Jb b p f c w r n A l) (XH b A l) l.length 0 [] [];have hgd:=wN (λk=>smF w (Jb b p f c w r n A l k)) (λk=>(Jb b p f c w r n A l k).2) (XH b A l) l.length 0 [];rw[rY,RW]at k3;rw[h2];by_cases hC:(cX (λk=>smF w (Jb b p f c w r n A l k)) (λk=>(Jb b p f c w r n A l k).2) (XH b A l) l.length 0 []).2≠0
   ·rw[Aau hC,lI]at k3;rw[<-hrc]at hC k3;exact⟨X,0,0,0,[],_,g1,k3,λh=>absurd h hC⟩
   ·have hC0:(cX (λk=>smF w (Jb b p f c w r n A l k)) (λk=>(Jb b p f c w r n A l k).2) (XH b A l) l.length 0 []).2=0:=by simpa using hC
    obtain⟨hbe,hE',hC1⟩:=hgd hC0;have hE:∀i,i<l.length-> (Jb b p f c w r n A l i).2=0:=λi hi=>hE' i (by omega) (by omega);rw[Apc]at hC1;rw[Aac hC,hC1]at k3;rw[hC0]at hrc;have hX:=g2 hrc;rw[hbe,zS _ _ _ _ λi h1 h2=>hE i (by omega),Apc]at hX;rw[hrc]at g1;exact⟨X,_,_,_,_,0,g1,k3,λ_=>by rw[hX];exact Av9 o hE⟩
section
variable {b p:List UInt8} {f c w r n A:Nat} {l:List Int} (o:Opn b p f c w r n A l) (hb:b.length<=20000)
include o hb
theorem Af5{k:Nat}(hk:k<l.length)(h0:(A:Int)+(l.take k).sum<=b.length)(acc:LB)(hacc:acc.length<=12000*k):
  (b.length<(A:Int)+(l.take (k+1)).sum->∀q,Kc (q+1) p (b.drop ((A:Int)+(l.take k).sum).toNat) (f:Int) (c:Int) (w:Int) (r:Int) (n:Int) l (k:Int) acc=some (p,b.drop ((A:Int)+(l.take k).sum).toNat,(f:Int),(c:Int),(w:Int),(r:Int),(n:Int),l,(k:Int),acc,false,0,0))/\
  ((A:Int)+(l.take (k+1)).sum<=b.length-> ((Jb b p f c w r n A l k).2=0->∀q,Kc (q+1) p (b.drop ((A:Int)+(l.take k).sum).toNat) (f:Int) (c:Int) (w:Int) (r:Int) (n:Int) l (k:Int) acc=Kc q p (b.drop ((A:Int)+(l.take (k+1)).sum).toNat) (f:Int) (c:Int) (w:Int) (r:Int) (n:Int) l ((k+1:Nat):Int) (acc++(Jb b p f c w r n A l k).1))/\
   ((Jb b p f c w r n A l k).2≠0->∀q,Kc (q+1) p (b.drop ((A:Int)+(l.take k).sum).toNat) (f:Int) (c:Int) (w:Int) (r:Int) (n:Int) l (k:Int) acc=some (p,[],0,0,0,0,0,[],0,acc,false,(Jb b p f c w r n A l k).2,(Jb b p f c w r n A l k).2))):=by
 have hd:HdI (f:Int) (c:Int) (w:Int) (r:Int) (n:Int) f c w r n:=⟨rfl,rfl,rfl,rfl,rfl,o.shape,o.fit⟩;have hs1:=o.some1;have hsum:=o.sum;have DM:=hd.num;have hlen:=o.len;have b1:=Ia o.five k;have hfn:¬(geq (f:Int) 0=true):=by rw[Ar];simp;omega
 have hgl:¬(geq (Ac l) 0=true):=by rw[Ar,Ac,Atu];omega
 generalize hIn:b.drop ((A:Int)+(l.take k).sum).toNat=In;have Bhi:In.length=b.length-((A:Int)+(l.take k).sum).toNat:=by rw[<-hIn,Ajb]
 have hT:Ag p In (f:Int) (c:Int) (w:Int) (r:Int) (n:Int) l (k:Int) acc false 0=Ag p In (f:Int) (c:Int) (w:Int) (r:Int) (n:Int) l (k:Int) acc false 0:=rfl
 conv at hT=>rhs;rw[Ag,Bo,Aac hfn,Bv,Bt,Aac hgl]
 have hlt2:k<(Al (Ak r) n).length:=by omega
 obtain⟨m,x,s,e,g⟩:=BJ o k hk;have hw:Bk (w:Int):=(Nh o.shape).2.1;have Ba7:=g.lens hw;have b2:=Ia o.five (k+1);have e1:=Jv hk;have h5:=o.five l[k] (Ami _);have hm:=g.mom;rw[Aac (by rw[Ar,Ac];simp;omega),Dh,Em,Bq hk,Aa]at hT;rw[g.eq];simp only;refine⟨λhlt q=>?_,λhge=>?_⟩
 ·rw[Aau (by rw[Ae,Ac];simp;omega),Aa]at hT;simp only at hT;rw[Aau (by decide)]at hT;exact AX (by omega) hs1.2 (by omega) hT
 rcases g.way with⟨w1,_⟩|⟨w1,_,w2⟩
 ·omega
 have hseg:In.take l[k].toNat=Abj b A l k:=by
  rw[Abj,<-hIn,Bl8];congr 1;omega
 have hnn:=rC hw (Mg p) DM.2.1.1 DM.2.1.2 g.pos.1 (by
  have hlt3:=Bq hlt2;rw[hlt3]at hm;have hm':=Atf hm;obtain⟨m',hm2,m1,m2⟩:=Wo (Ex r) DM.2.2.2.2.1 (Ami hlt2);omega) w2
 rw[Aac (by rw[Ae,Ac];simp;omega),SM p o.pass,Aa]at hT;simp only at hT;rw[Dl (by omega) (by omega),Aa,hseg,Fy,Aa]at hT;simp only at hT;rw[hd.Akc,Aa,hm,Aa,Aa,w2,Aa]at hT;simp only at hT;rw[Eo,Es]at hT;refine⟨λhe q=>?_,λhe q=>?_⟩
 ·obtain⟨q1,q2,q3,q4,q5⟩:=g.some' he;rw[Aac (by rw[Aj];simpa using he),OD hw (by omega) q3,<-q1,Aa,Aa]at hT;simp only at hT;rw[Aac (by decide),Bi (by simp;omega),Aa,Apc,Bi (by omega),Aa,Aa,Bs (by omega) (by omega),Aa,Ah (by omega) (by omega)]at hT;rw[qN hT];have Bhj:In.drop l[k].toNat=b.drop ((A:Int)+(l.take (k+1)).sum).toNat:=by rw[<-hIn,Bhv];congr 1;omega
  rw[Bhj];rfl
 ·rw[Aau (by rw[Aj];simpa using he),Aa]at hT;simp only at hT;rw[Aau (by rw[Aj];simpa using he)]at hT;exact SC (by omega) (by omega) hT
theorem Acz:∀(j k q:Nat) (acc:LB),k+j<=l.length-> (A:Int)+(l.take (k+j)).sum<=b.length-> (∀i,k<=i->i<k+j-> (Jb b p f c w r n A l i).2=0)->acc.length<=12000*k->
  Kc (q+j) p (b.drop ((A:Int)+(l.take k).sum).toNat) (f:Int) (c:Int) (w:Int) (r:Int) (n:Int) l (k:Int) acc=Kc q p (b.drop ((A:Int)+(l.take (k+j)).sum).toNat) (f:Int) (c:Int) (w:Int) (r:Int) (n:Int) l ((k+j:Nat):Int) (acc++Vv (λi=>(Jb b p f c w r n A l i).1) j k)
 |0,k,q,acc,_,_,_,_=>by simp[Vv]
 |j+1,k,q,acc,hk,hA,hg,hacc=>by
  have hnn:∀z∈l,0<=z:=λz hz=>by have:=o.five z hz;omega
  have m0:=Al6 hnn (show k<=k+(j+1) by omega);have m1:=Al6 hnn (show k+1<=k+(j+1) by omega);obtain⟨_,h2⟩:=Af5 (hb:=hb) o (k:=k) (by omega) (by omega) acc hacc;have h3:=(h2 (by omega)).1 (hg k (by omega) (by omega)) (q+j);obtain⟨m,x,s,e,g⟩:=BJ o k (by omega);have Ba7:=g.lens (Nh o.shape).2.1;have hs:(Jb b p f c w r n A l k).1.length<=12000:=by rw[g.eq];exact Ba7.1
  have ih:=Acz j (k+1) q (acc++(Jb b p f c w r n A l k).1) (by omega) (by rw[show k+1+j=k+(j+1) by omega];exact hA) (λi h1 h2=>hg i (by omega) (by omega)) (by rw[Aav];omega);rw[show q+(j+1)=q+j+1 by omega,h3,ih,show k+1+j=k+(j+1) by omega,Vv,Agd]
theorem Azh{acc:LB}(hacc:acc.length<=13000000)(h0:(A:Int)+l.sum<=b.length)(h4:b.length<= (A:Int)+l.sum+4000)(q:Nat):Kc (q+1) p (b.drop ((A:Int)+l.sum).toNat) (f:Int) (c:Int) (w:Int) (r:Int) (n:Int) l (l.length:Int) acc=some (p,b.drop ((A:Int)+l.sum).toNat,(f:Int),(c:Int),(w:Int),(r:Int),(n:Int),l,(l.length:Int),acc,false,0,0):=by
 have hd:HdI (f:Int) (c:Int) (w:Int) (r:Int) (n:Int) f c w r n:=⟨rfl,rfl,rfl,rfl,rfl,o.shape,o.fit⟩;have hs1:=o.some1;have DM:=hd.num;have hfn:¬(geq (f:Int) 0=true):=by rw[Ar];simp;omega
 have hgl:¬(geq (Ac l) 0=true):=by rw[Ar,Ac,Atu];omega
 have hl0:0<=l.sum:=Aqu l o.five;generalize hIn:b.drop ((A:Int)+l.sum).toNat=In;have Bhi:In.length=b.length-((A:Int)+l.sum).toNat:=by rw[<-hIn,Ajb]
 have hT:Ag p In (f:Int) (c:Int) (w:Int) (r:Int) (n:Int) l (l.length:Int) acc false 0=Ag p In (f:Int) (c:Int) (w:Int) (r:Int) (n:Int) l (l.length:Int) acc false 0:=rfl
 conv at hT=>rhs;rw[Ag,Bo,Aac hfn,Bv,Bt,Aac hgl]
 rw[Aau (by rw[Ar,Ac];simp),Aac (by rw[Aq,Ac];simp;omega)]at hT;exact AX (by omega) hs1.2 hacc hT
theorem Awe(q:Nat):Kc (q+2) p b 0 0 0 0 0 [] 0 []=Kc q p (b.drop A) (f:Int) (c:Int) (w:Int) (r:Int) (n:Int) l 0 []:=by
 rcases Age b p hb o.pass q with⟨e,he,h1,_⟩|⟨f',c',w',r',n',A',l',o',h2⟩
 ·have:=o.prog;rw[h1]at this;have:=Atf this;simp only[HA,Agm]at this;exact absurd this.2.2.2.2.2.2.2 he
 ·have hpr:=o'.prog;rw[o.prog]at hpr;simp only[Ab3,Agm]at hpr;obtain⟨v1,v2,v3,v4,v5,v6,v7,_⟩:=hpr;obtain rfl:f=f':=by omega
  obtain rfl:c=c':=by omega
  obtain rfl:w=w':=by omega
  obtain rfl:r=r':=by omega
  obtain rfl:n=n':=by omega
  obtain rfl:A=A':=by omega
  subst v7;exact h2
theorem Bbi{K:Nat}(hK:K<=l.length)(hA:(A:Int)+(l.take K).sum<=b.length)(hg:∀i,i<K-> (Jb b p f c w r n A l i).2=0)(hend:(K<l.length/\b.length<(A:Int)+(l.take (K+1)).sum)\/ (K=l.length/\b.length<= (A:Int)+l.sum+4000)):
  Fd p b=some (p,b.drop ((A:Int)+(l.take K).sum).toNat,(f:Int),(c:Int),(w:Int),(r:Int),(n:Int),l,(K:Int),Vv (λi=>(Jb b p f c w r n A l i).1) K 0,false,0,0):=by
 obtain⟨q,hq⟩:∃q,Ax=(q+1+K)+2:=⟨Ax-(K+3),by have:=As;have:=o.some1;omega⟩;have hr:=Acz o hb K 0 (q+1) [] (by omega) (by rw[Ay1];exact hA) (λi _ h2=>hg i (by omega)) (by simp);rw[Bgs,Bk2,Int.add_zero,Agr,Ay1,Apc,show((0:Nat):Int)=0 from rfl]at hr;have hcl:(Vv (λi=>(Jb b p f c w r n A l i).1) K 0).length<=12000*K:=by
  have:∀j,j<=l.length-> (Vv (λi=>(Jb b p f c w r n A l i).1) j 0).length<=12000*j:=by
   intro j
   induction j with
   |zero=>intro _;simp[Vv]
   |succ j ih=>
    intro hj;obtain⟨m,x,s,e,g⟩:=BJ o j (by omega);have Ba7:=g.lens (Nh o.shape).2.1;have:=ih (by omega);have hs:(Jb b p f c w r n A l j).1.length<=12000:=by rw[g.eq];exact Ba7.1
    rw[Ait,Aav,Ay1];omega
  exact this K hK
 rw[Fd,hq,Awe o hb,hr];rcases hend with⟨h1,h2⟩|⟨rfl,h2⟩
 ·exact(Af5 o hb h1 hA _ hcl).1 h2 q
 ·rw[Awj]at hA⊢;exact Azh o hb (by have:=o.some1;omega) hA h2 q
end
theorem Bh.Bi9{o s p:LB}{f c w r n:Int}{g:LI}{a:Int}{x:LB}{e:Int}(ho:o.length<=64)(h:Bh o s p f c w r n g a x e)(hp:p.length<=20000)(b:LB)(hb:b.length<=20000)(hs:(s++b).length<=100000)
  {p':LB} {f' c' w' r' n':Int} {g':LI} {a':Int} {x':LB} {e':Int} (hk:Fd o (s++b)=some (o,p',f',c',w',r',n',g',a',x',false,e',e')):
  Jz o p f c w r n g a x false e b=some (o,p',f',c',w',r',n',g',a',x',false,e',e')/\Bh o (s++b) p' f' c' w' r' n' g' a' x' e':=by
 obtain⟨p2,f2,c2,w2,r2,n2,g2,a2,x2,e2,h1,_,h3⟩:=h.feed ho hp b hb hs;have h4:=h3.fd hs;rw[hk]at h4;simp only[Ab3,Agm]at h4;obtain⟨_,rfl,rfl,rfl,rfl,rfl,rfl,rfl,rfl,rfl,_,rfl,_⟩:=h4;exact⟨h1,h3⟩
theorem Ap1{w:Nat}(hw:Bk (w:Int)){X:LX}(hl:X.length<=4000)(hr:inR (w:Int) X):Le (w:Int) X=some (Dk (w:Int) X,0):=aQ hw hl (fP hw hl hr)
section
variable {c w r n:Nat} {x:List Int32} (h:ClipOk c w r n x) {p:LB} (hp:p.length<=64) (h4:x.length<=400)
include h hp h4
omit hp in
theorem Are:(Qz c w r n x p).length<=8000:=by
 have h1:=Ani h p;have h2:=xS (c:=c) (w:=w) (r:=r) (n:=n) (x:=x) p;rw[SW]at h2;have h3:(n-1)/Ak r<=n-1:=Arh _ _;have h5:n*1<=n*c:=Bir n h.ch.1;have h6:=h.len;have:=h.cnt;omega
end
inductive Pl (S D A:Int) (G:Nat->Int) (l:List Int) (a:Int):UInt8->Int->Int->Prop
 |t:a<S->Pl S D A G l a 1 0 0
 |h:S<=a->a<S+22->Pl S D A G l a 2 0 0
 |d:S+22<=a->a<D->Pl S D A G l a 3 0 0
 |s:S+22<=a->D<=a->a<A->Pl S D A G l a 4 0 0
 |f (i:Nat):S+22<=a->D<=a->A<=a->i<l.length->A+(l.take i).sum<=a->a<A+(l.take (i+1)).sum->Pl S D A G l a 5 i (G i)
 |b:S+22<=a->D<=a->A<=a->A+l.sum<=a->Pl S D A G l a 6 0 0
section
variable {f c w r n:Nat} (h1:Fi f c w r n=true) (h2:Wq c r n=true) {p:LB} (hp:p.length<=64) (hf:f=Ln p)
include h1 h2 hp hf
omit h1 h2 hp hf in
theorem Ail(z:LB):Bm (AD f c w r n++z)=(0,0):=Aas (by rw[GD];rfl)
theorem Bb2{D z:LB}(hD:D≠GX p)(hDl:D.length=(GX p).length)(hb:(AD f c w r n++(D++z)).length<=20000):
  Cc (AD f c w r n++(D++z)) p=some (HA 26)/\xD (AD f c w r n++(D++z)) p 26=some 3:=by
 have hfr:=Ail (f:=f) (c:=c) (w:=w) (r:=r) (n:=n) (D++z);have hrd:=xX h1 h2 (D++z);have hne:p≠ []:=by
  intro e;have e2:GX p=[]:=by rw[GX,Aau e]
  rw[e2]at hD hDl;exact hD (Bdq (by simpa using hDl))
 have hdg:GX p=Ry (Lg p).toNat 8:=by rw[GX,Aac hne]
 have e1:f=2:=by rw[hf,Ln,Aac hne]
 rw[hdg,Ce]at hDl;have hl:(AD f c w r n++(D++z)).length=30+z.length:=by rw[Aav,Aav,HI];omega
 have hseg:((AD f c w r n++(D++z)).take 30).drop 22=D:=KN (HI _ _ _ _ _) hDl;generalize AD f c w r n++(D++z)=b at*
 constructor
 ·rw[Cc,Nf,Aac (by rw[Aq,Ac];simp;omega),Aac (by rw[Aq,Ac];simp;omega),Io b (by omega),hfr,Aa];simp only;rw[Aac (by decide),Bs (by omega) (by omega),Aa,Blz,Bl0,Xd _ (by omega),hrd,Aa];simp only;have Blc:(p !=([]:LB))=true:=by simpa using hne
  have hne2:(p==([]:LB))=false:=by simpa using hne
  have t22:Ad (0:Int) 22=((22:Nat):Int):=rfl;have t30:Ad ((22:Nat):Int) 8=((30:Nat):Int):=rfl;rw[Aac (by decide),Aac (by rw[hne2,e1];decide),Aau Blc,t22,t30,Aac (by rw[Ae,Ac];simp;omega),Uk (by omega) (by omega) (by omega),Aa,Agr,Agr,hseg,pJ hDl hp,Aa];simp only;rw[Aac (by decide),Aau (by rw[hdg]at hD;simp[hD])];rfl
 ·rw[xD,Aac (by rw[Aq,Ac];simp;omega),Io b (by omega),hfr,Aa];simp only;rw[Aac (by decide),Bs (by omega) (by omega),Aa,Blz,Bl0,Xd _ (by omega),hrd,Aa];simp only;rw[Aac (by decide),Aau (by decide),Aau (by decide)]
end
theorem Axo{o b X:LB}{E:Int}(ho:o.length<=64)(hb:b.length<=20000)(Bhk:Ends o (Fd o b) X E):∃(p2:LB) (f2 c2 w2 r2 n2:Int) (g2:LI) (a2 e3:Int) (u:Bool) (v:Int),Jz o [] 0 0 0 0 0 [] 0 [] false 0 b=some (o,p2,f2,c2,w2,r2,n2,g2,a2,X,false,e3,e3)/\Hk o p2 f2 c2 w2 r2 n2 g2 a2 X false e3=some (o,[],0,0,0,0,0,[],0,X,u,v,E)/\ (e3=0\/e3=E):=by
 obtain⟨p2,f2,c2,w2,r2,n2,g2,a2,y2,e3,d1,_,d3⟩:=(Bh.new ho).feed ho (by simp) b (by omega) (by simp;omega);rw[Apc]at d3;have hs:=d3.Bew;have hfd:=d3.fd (by omega);have hck:=d3.check ho (by omega);rcases Bhk with⟨h0,h1⟩|⟨p,f,c,w,r,n,g,a,hpl,h1,h2⟩
 ·rw[hfd]at h1;simp only[Ab3,Agm]at h1;obtain⟨_,rfl,rfl,rfl,rfl,rfl,rfl,rfl,rfl,rfl,_,rfl,_⟩:=h1;obtain⟨u,v,k,k1,k2⟩:=d3.finish ho (by simp);rcases k2 with⟨rfl,rfl,k3,_,k4⟩|⟨rfl,rfl,rfl⟩
  ·have hk:v=e3:=by rcases k4 with h|h<;>omega
   subst hk;exact⟨_,_,_,_,_,_,_,_,_,_,_,d1,k1, .inr rfl⟩
  ·
   exfalso;cases d3 with
   |wt W=>omega
   |er h0 hc hx hB=>
    have:=(Be9 (o:=o) (u:=false) (v:=e3) (k:=e3) ho hx (.inl ⟨rfl,rfl,h0,hc⟩)).2.2;rw[this]at k1;simp only[Ab3,Agm]at k1;exact absurd k1.2.2.2.2.2.2.2.2.2.2.1 (by decide)
 ·rw[hfd]at h1;simp only[Ab3,Agm]at h1;obtain⟨_,rfl,rfl,rfl,rfl,rfl,rfl,rfl,rfl,rfl,_,rfl,_⟩:=h1;have hbg:=pE (o:=o) (p:=p2) (f:=f2) (c:=c2) (w:=w2) (r:=r2) (n:=n2) (g:=g2) (a:=a2) (x:=y2) (u:=false) (v:=0) (by omega) (by omega) (by omega) hck.1;rw[Aac (by decide)]at hbg;obtain⟨e1,q1,q2⟩:=zZ (o:=o) (p:=p2) (f:=f2) (c:=c2) (w:=w2) (r:=r2) (n:=n2) (a:=a2) (u:=false) (v:=0) (g:=g2) (x:=y2) (by omega);rw[h2]at q2;cases q2;have hF:Hk o p2 f2 c2 w2 r2 n2 g2 a2 y2 false 0=Hk o p2 f2 c2 w2 r2 n2 g2 a2 y2 false 0:=rfl
  conv at hF=>rhs;rw[Hk,hbg,Aa]
  simp only at hF;rw[Aac (by decide),q1,Aa]at hF;by_cases he:Bc E 0=true
  ·rw[Aau he,VW,Aa]at hF;exact⟨_,_,_,_,_,_,_,_,_,_,_,d1,hF, .inl rfl⟩
  ·have hE0:E=0:=by rw[Aj]at he;simpa using he
   rw[Aac he,<-hE0]at hF;exact⟨_,_,_,_,_,_,_,_,_,_,_,d1,by rw[hE0]at hF⊢;exact hF, .inl rfl⟩
theorem Ajd{w:Nat}(hw:Bk (w:Int)){X:LX}(hX:X.length<=4000)(hr:inR (w:Int) X):Xj (w:Int) (Dk (w:Int) X)=some (X,0):=by
 have h:=xE (Dk (w:Int) X) hw (m:=X.length) (GR hw X) hX;rw[Afy hw X hr]at h;exact h
theorem nA{b p:LB}(hb:b.length<=20000)(hp:p.length<=64):∃(x1 x2 x3:Int) (x4:LX) (E:Int),Mv b p=some (x1,x2,x3,x4,E)/\Ny b p=some (x1,x2,x3,x4,E)/\x4.length<=4000000:=by
 obtain⟨X,y1,y2,y3,y4,E,Bhk,Abi,_⟩:=Aue b p hb hp;obtain⟨p2,f2,c2,w2,r2,n2,g2,a2,e3,u,v,k1,k2,k3⟩:=Axo hp hb Bhk;by_cases hE:E=0
 rotate_left
 ·have hbad:Ny b p=some (lI E):=by
   rcases rA b p (by omega) hp with⟨e,he,h1,_,h3,_⟩|⟨f,c,w,r,n,A,l,o,h3,_⟩
   ·rw[h3]at Abi⊢;have:=Atf Abi;simp only[lI,Agm]at this;rw[this.2.2.2.2]
   ·rw[h3]at Abi⊢;have hce:=Atf Abi;rw[rY,RW]at hce⊢;by_cases hne:(cX (λk=>smF w (Jb b p f c w r n A l k)) (λk=>(Jb b p f c w r n A l k).2) (XH b A l) l.length 0 []).2≠0
    ·rw[Aau hne]at hce⊢;simp only[lI,Agm]at hce;rw[hce.2.2.2.2]
    ·rw[Aac hne]at hce;simp only[Agm]at hce;exact absurd hce.2.2.2.2.symm hE
  refine⟨0,0,0,[],E,?_,hbad,by simp⟩;rw[Mv,bM,Aac (by rw[Aq,Ac];simp;omega),Aa];simp only;rw[Aac (by decide),k1,Aa];simp only;by_cases h0:e3=0
  ·rw[Aac (by rw[h0];decide),k2,Aa];simp only;rw[Aau (by rw[Aj];simpa using hE)]
  ·have:e3=E:=by
    rcases k3 with h|h
    ·exact absurd h h0
    ·exact h
   rw[Aau (by rw[Aj];simpa using h0),this]
 ·subst hE;have he3:e3=0:=by rcases k3 with h|h<;>exact h
  subst he3;rcases rA b p (by omega) hp with⟨e,he,h1,_,h3,_⟩|⟨f,c,w,r,n,A,l,o,h3,_⟩
  ·rw[h3]at Abi;have:=Atf Abi;simp only[lI,Agm]at this;exact absurd this.2.2.2.2 he
  rw[h3]at Abi;have hce:=Atf Abi;have hs1:=o.some1;have hlen:=o.len;obtain⟨hcc,hw,hr,hn,_⟩:=Nh o.shape;have hfit:n<=4000/c:=by have:=o.fit;simp only[Wq,Abk]at this;exact this.1
  have hnc:n*c<=4000:=by
   have a1:=Adg c hfit;have a2:=Be7 4000 c;omega
  have hcl0:(cX (λk=>smF w (Jb b p f c w r n A l k)) (λk=>(Jb b p f c w r n A l k).2) (XH b A l) l.length 0 []).2=0:=by
   refine Bkz λhne=>?_;rw[rY,RW,Aau hne]at hce;simp only[lI,Agm]at hce;exact hne hce.2.2.2.2
  obtain⟨b0,hall,hX4⟩:=wN _ _ _ _ _ _ hcl0;rw[Apc]at hX4;have hgood:∀i,i<l.length-> (Jb b p f c w r n A l i).2=0:=λi hi=>hall i (by omega) (by omega);have hAl:(A:Int)+l.sum<=b.length:=Aw7 o (by rw[hce]);have hbl:b.length<= (A:Int)+l.sum+4000:=by
   refine Int.not_lt.1 λhlt=>?_;have:(Nt (b.drop ((A:Int)+l.sum).toNat)).2=38:=by rw[Nt,Aau (by rw[Ajb];have:=Aqu l o.five;omega)]
   rw[XH,this]at b0;exact absurd b0 (by decide)
  have hfd:=Bbi o hb (K:=l.length) (Am4 _) (by rw[Awj];exact hAl) hgood (.inr ⟨rfl,hbl⟩);have hbh:=((Bh.new hp).Bi9 hp (by simp) b (by omega) (by simp;omega) (by rw[Apc];exact hfd)).1;rw[k1]at hbh;simp only[Ab3,Agm]at hbh;obtain⟨_,rfl,rfl,rfl,rfl,rfl,rfl,i8,rfl,rfl,_⟩:=hbh;have i8:=i8.symm;subst i8;have hw8:¬(((geq (f:Int) 0)&&((geq (c:Int) 0)&&((geq (w:Int) 0)&&((geq (r:Int) 0)&&((geq (n:Int) 0)&&true)))))=true):=by
   have:geq (n:Int) 0=false:=by rw[Ar,Blu];omega
   rw[this];simp
  have htot:=Ahk o hgood;have hin:=Ak5 o hgood l.length 0 (by omega);have hby:=yM o hgood l.length 0 (by omega);have hsb:=Ajd hw (X:=Vv (λi=>smF w (Jb b p f c w r n A l i)) l.length 0) (by omega) hin;rw[hby]at hsb;refine⟨(c:Int),(w:Int),(r:Int),Vv (λi=>smF w (Jb b p f c w r n A l i)) l.length 0,0,?_,?_,by omega⟩
  ·rw[Mv,bM,Aac (by rw[Aq,Ac];simp;omega),Aa];simp only;rw[Aac (by decide),k1,Aa];simp only;rw[Aac (by decide),k2,Aa];simp only;rw[Aac (by decide),Aac hw8,hsb,Aa];simp only;rw[Aac (by decide)]
  ·rw[h3,rY,RW,Aac (by rw[hcl0];simp),hX4]
theorem Adj{c w r n:Nat}{x:List Int32}(h:ClipOk c w r n x){p:LB}(hp:p.length<=64):Ny (Qz c w r n x p) p=some ((c:Int),(w:Int),(r:Int),x,0):=by
 have fo:=Av7 h hp;have o:=fo.Gs;have hle:=fo.le;have hlf:=Pv (NL c w r n x p);have hgood:∀i,(hi:i<(NL c w r n x p).length)-> _:=λi hi=>fo.Bj8 (k:=i) hi rfl;have hbe:XH (Qz c w r n x p) (xC 0 p (NL c w r n x p).length) (Dp (NL c w r n x p))=0:=by rw[fo.beh,Apn]
 have hcl:rY (Qz c w r n x p) p (Ln p) c w r n (xC 0 p (NL c w r n x p).length) (Dp (NL c w r n x p))=((c:Int),(w:Int),(r:Int),x,0):=by
  have hr:=zS (Jb (Qz c w r n x p) p (Ln p) c w r n (xC 0 p (NL c w r n x p).length) (Dp (NL c w r n x p))) (Dp (NL c w r n x p)).length 0 [] (λi _ hi=>by rw[(hgood i (by omega)).1]);have hcl:=Aeg w (Jb (Qz c w r n x p) p (Ln p) c w r n (xC 0 p (NL c w r n x p).length) (Dp (NL c w r n x p))) (XH (Qz c w r n x p) (xC 0 p (NL c w r n x p).length) (Dp (NL c w r n x p))) (Dp (NL c w r n x p)).length 0 [] [];rw[hbe,hr]at hcl;have hg:=wN _ _ _ _ _ _ hcl.symm;have hPl:=Alr (c:=c) (r:=r) (n:=n) (x:=x);have hfl:=xS (c:=c) (w:=w) (r:=r) (n:=n) (x:=x) p;have Bjq:=Ae1 (gK c r n x) (λi=>smF w (Jb (Qz c w r n x p) p (Ln p) c w r n (xC 0 p (NL c w r n x p).length) (Dp (NL c w r n x p)) i)) 0 (λi hi=>by rw[Ay1,(hgood i (by omega)).2]);rw[Ahj h,<-show(NL c w r n x p).length=(gK c r n x).length by omega]at Bjq;rw[rY,RW,hbe,Aac (by rw[<-hcl];simp),hg.2.2,Apc,hlf,Bjq]
 rcases rA (Qz c w r n x p) p (by omega) hp with⟨e,he,k1,_⟩|⟨f',c',w',r',n',A',l',o',k3,_⟩
 ·have:=o.prog;rw[k1]at this;have:=Atf this;simp only[HA,Agm]at this;exact absurd this.2.2.2.2.2.2.2 he
 ·have hpr:=o'.prog;rw[o.prog]at hpr;simp only[Ab3,Agm]at hpr;obtain⟨v1,v2,v3,v4,v5,v6,v7,_⟩:=hpr;have j1:Ln p=f':=by omega
  have j2:c=c':=by omega
  have j3:w=w':=by omega
  have j4:r=r':=by omega
  have j5:n=n':=by omega
  have j6:xC 0 p (NL c w r n x p).length=A':=by omega
  subst j1 j2 j3 j4 j5 v7;rw[<-j6,hcl]at k3;exact k3
theorem ClipOk.enc{c w r n:Nat}{x:List Int32}(h:ClipOk c w r n x){p:LB}(hp:p.length<=64):EncOk c w r p:=⟨h.ch,h.bits,h.rate,hp⟩
theorem Awz{c w r n:Nat}{x:List Int32}(h:ClipOk c w r n x){p:LB}(hp:p.length<=64):nE c w (Dk (w:Int) x)=n/\XE c w (Dk (w:Int) x)=x/\RE c w (Dk (w:Int) x)=[]/\RF c r n:=by
 have he:=h.enc hp;have hs:=zF he;have hbl:(Dk (w:Int) x).length=n*uS c w:=by rw[GR h.bits,h.len,uS,Awr]
 have hn:nE c w (Dk (w:Int) x)=n:=by rw[nE,hbl,Bl2 _ (by omega)]
 have hle:=h.le;refine⟨hn,?_,?_,hle.2.1, .inr h.fr⟩
 ·rw[XE,hn,<-h.len];exact Afy h.bits x h.rng
 ·rw[RE,hn,<-hbl,Bje]
theorem Aci{c w r n:Nat}{x:List Int32}(h:ClipOk c w r n x)(hk:Kl (c:Int) (w:Int) (r:Int) x=some 0){p:LB}(hp:p.length<=64):Zz (c:Int) (w:Int) (r:Int) x p=some (Qz c w r n x p,0):=by
 have he:=h.enc hp;obtain⟨f1,f2,f3,f4⟩:=Awz h hp;have hle:=h.le;have hbl:=FC (w:Int) x;have hf:=Bau he [] (Dk (w:Int) x) (by omega) (by rw[show nE c w []=0 from Nat.zero_div _];exact Awb c r);rw[Apc,Ayg,f1,Aau f4]at hf;have hfin:=Aqf he (Dk (w:Int) x) (by rw[f1];exact f4);rw[f1,f2,f3,Aac (by have:=h.cnt.1;simp;omega)]at hfin;rw[f3]at hf;rw[Zz,JC,hk,Aa,Aac (by decide),Ap1 h.bits (by omega) h.rng,Aa];simp only;rw[Aac (by decide),Bcv he,Aa];simp only;rw[Aac (by decide),hf,Aa];simp only;rw[HM,IL,Aac (by decide),hfin,Aa];simp only;rw[JH,HP,Yg,aZ,Aac (by decide)]
theorem Bcr:Wi=some true:=by kernel_rfl
theorem Aho{p:LB}(hp:p.length<=64):NY p=some (Lg p,0):=by
 rw[NY,Aac (by rw[Aq,Ac];simp;omega),Ae4 p (by omega),Aa]
theorem Aw1{c w r n:Nat}{x:List Int32}{p q:LB}(hs:Lg p=Lg q)(he:p=[]↔q=[]):Qz c w r n x p=Qz c w r n x q:=by
 have e1:Ln p=Ln q:=by unfold Ln;by_cases h:p=[]<;>simp[h,<-he]
 have e2:GX p=GX q:=by
  unfold GX;by_cases h:p=[]
  ·rw[Aau h,Aau (he.1 h)]
  ·rw[Aac h,Aac (λhh=>h (he.2 hh)),hs]
 have e3:Js p=Js q:=by rw[Js,Js,hs]
 have e4:NL c w r n x p=NL c w r n x q:=by rw[NL,NL,e3]
 rw[Qz,Qz,e1,e2,e4]
theorem Bdd{f c w r n:Nat}(h1:Fi f c w r n=true)(h2:Wq c r n=true){q z:LB}(hq:q.length<=64)(hne:¬(q=[]↔f=1))(hb:(AD f c w r n++z).length<=20000):Cc (AD f c w r n++z) q=some (HA 26):=by
 have hfr:=Ail (f:=f) (c:=c) (w:=w) (r:=r) (n:=n) z;have hrd:=xX h1 h2 z;generalize AD f c w r n++z=b at*
 rw[Cc,Nf,Aac (by rw[Aq,Ac];simp;omega),Aac (by rw[Aq,Ac];simp;omega),Io b (by omega),hfr,Aa];simp only;rw[Aac (by decide),Bs (by omega) (by omega),Aa,Blz,Bl0,Xd _ (by omega),hrd,Aa];simp only;rw[Aac (by decide),Aau]
 ·rfl
 ·rw[Ar];by_cases hq0:q=[]
  ·have hf1:f≠1:=λe=>hne ⟨λ_=>e,λ_=>hq0⟩;have:((f:Int)==1)=false:=by rw[Blu];omega
   rw[this,hq0];rfl
  ·have hf1:f=1:=by
    refine Bkz λe=>hne ⟨λh=>absurd h hq0,λh=>absurd h e⟩
   have:(q==([]:LB))=false:=by simpa using hq0
   rw[this,hf1];rfl
theorem Aov{b p:LB}(hb:b.length<=20000)(hp:p.length<=64){e:Int}(he:e≠0)(h:Cc b p=some (HA e)):Ny b p=some (lI e):=by
 rcases rA b p (by omega) hp with⟨e',he',h1,_,h3,_⟩|⟨f,c,w,r,n,A,l,o,_,_⟩
 ·rw[h]at h1;have:=Atf h1;simp only[HA,Agm]at this;rw[this.2.2.2.2.2.2.2];exact h3
 ·have:=o.prog;rw[h]at this;have:=Atf this;simp only[HA,Agm]at this;exact absurd this.2.2.2.2.2.2.2 he
theorem Aw4(hal:Wi=some true)(C W R:Int)(x:List Int32)(p q:LB):Ms C W R x p q=some true:=by
 rw[Ms,Oz,hal,Aa];rcases Ann C W R x with⟨e8,_⟩|⟨c,w,r,n,rfl,rfl,rfl,h,e24,eck⟩
 ·rw[e8,Aa,Aau (by simp[Aj])]
 rw[e24,Aa];by_cases hc:((((Bc (0:Int) 0||Eh (Ac x) 400)||Eh (Ac p) 64)||Eh (Ac q) 64)|| !true)=true
 ·rw[Aau hc]
 rw[Aac hc];simp only[Ba0,not_or,Aq,Ac,Abk]at hc;obtain⟨⟨⟨⟨_,c2⟩,c3⟩,c4⟩,_⟩:=hc;have hp:p.length<=64:=by omega
 have hq:q.length<=64:=by omega
 have hx4:x.length<=400:=by omega
 have hsm:=Are h (p:=p) hx4;obtain⟨x1,x2,x3,x4,E,k3,k4,k5⟩:=nA (b:=Qz c w r n x p) (p:=p) (by omega) hp;rw[Adj h hp]at k4;simp only[Ab3,Agm]at k4;obtain⟨rfl,rfl,rfl,rfl,rfl⟩:=k4;rw[Aci h eck hp,Aa];simp only;rw[k3,Aa];simp only;rw[Aho hp,Aa];simp only;rw[Aho hq,Aa];simp only;rw[Aac (by decide),Bgh _ _ _ _ (by omega),Aa,Aac (by decide),Ou,Yy];obtain⟨z1,z2,z3,z4,E,m3,m4,m5⟩:=nA (b:=Qz c w r n x p) (p:=q) (by omega) hq;rw[m3,Aa];simp only;have hsh:=h.shape _ (Aeh p);by_cases hcond:(Bc (Lg p) (Lg q)||((p==([]:LB)) !=(q==([]:LB))))=true
 ·rw[Aau hcond];have hE:E=26:=by
   by_cases hem:p=[]↔q=[]
   ·have hsum:Lg p≠Lg q:=by
     intro e;rw[e]at hcond;have e2:(p==([]:LB))=(q==([]:LB)):=by
      by_cases h0:p=[]
      ·rw[h0,hem.1 h0]
      ·have a1:(p==([]:LB))=false:=by simpa using h0
       have a2:(q==([]:LB))=false:=by simpa using(λhh=>h0 (hem.2 hh))
       rw[a1,a2]
     rw[e2]at hcond;simp[HJ]at hcond
    have hpn:p≠ []:=by
     intro e;apply hsum;rw[e,hem.1 e]
    have hqn:q≠ []:=λe=>hpn (hem.2 e);have hd:GX p≠GX q:=by
     rw[GX,GX,Aac hpn,Aac hqn];intro e;have:=congrArg Fz e;rw[Yh,Yh]at this;have l1:=(Lg p).toNat_lt;have l2:=(Lg q).toNat_lt;apply hsum;apply UInt64.toNat_inj.1;omega
    have hf:Ln p=Ln q:=by rw[Ln,Ln,Aac hpn,Aac hqn]
    have hdl:(GX p).length=(GX q).length:=by rw[aG,aG,hf]
    have hbad:=(Bb2 hsh h.fit hq hf hd hdl (z:=kG (Dp (NL c w r n x p))++(NL c w r n x p).flatten) (by rw[Qz]at hsm;omega)).1;have:=Aov (b:=Qz c w r n x p) (by omega) hq (by decide) hbad;rw[m4]at this;simp only[lI,Ab3,Agm]at this;exact this.2.2.2.2
   ·have hbad:=Bdd hsh h.fit hq (z:=GX p++(kG (Dp (NL c w r n x p))++(NL c w r n x p).flatten)) (by
     intro hh;apply hem;unfold Ln at hh;by_cases h0:p=[]
     ·rw[Aau h0]at hh;exact⟨λ_=>hh.2 rfl,λ_=>h0⟩
     ·rw[Aac h0]at hh;exact⟨λe=>absurd e h0,λe=>absurd (hh.1 e) (by decide)⟩) (by rw[Qz]at hsm;omega)
    have:=Aov (b:=Qz c w r n x p) (by omega) hq (by decide) hbad;rw[m4]at this;simp only[lI,Ab3,Agm]at this;exact this.2.2.2.2
  rw[hE];rfl
 ·rw[Aac hcond];simp only[Ba0,not_or]at hcond;obtain⟨g1,g2⟩:=hcond;have hsum:Lg p=Lg q:=by
   refine Bkz λhn=>g1 ?_;rw[HJ];simpa using hn
  have hem:p=[]↔q=[]:=by
   by_cases h0:p=[]<;>by_cases h1:q=[]<;>simp[h0,h1]at g2⊢
  have hv:=Adj h hq;rw[<-Aw1 hsum hem,m4]at hv;simp only[Ab3,Agm]at hv;rw[hv.2.2.2.2];rfl
theorem law_OneshotBack(C W R:Int)(x:List Int32)(p q:LB):Ms C W R x p q=some true:=Aw4 Bcr C W R x p q
end Go.Pl
