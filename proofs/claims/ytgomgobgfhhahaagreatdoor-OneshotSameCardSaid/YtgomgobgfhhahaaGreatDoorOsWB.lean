/- A part of the proof of a statement of this seat (see the text that ends in Proof): LwClip, LwPts, LwTrc, LwPd, LwDt, LwDu, LwAll, LwEc3, LwEc4, LwEb1, LwEb2, LwEb3, LwEb4, LwA41, LwPv, LwPk, LwEf1, LwEf2, LwEf3, LwEf4, LwEf5, LwEf6, LwPn1, LwPn2, LwPn3, LwPn4, LwNn, LwHdI, LwFit, LwFitC, LwStart, LwStb, LwChk, LwChkT, LwChkF, LwPc, LwTake, LwGre, LwSteps, LwStb2, LwFed, LwOut, LwErr, LwCat, LwJoin, LwPp, LwPt, LwPe2, LwEf7, LwEf8, LwA44, LwUndo, LwEg1, LwDp, LwEg2, LwEg3, LwOs, LwA42, LwOo. No conditions of its own. -/
import Derived.Test.YtgomgobgfhhahaaGreatDoorOsWA
import Derived.Test.YtgomgobgfhhahaaGreatDoorOsPA
import Derived.KernelRfl
set_option linter.unusedVariables false
set_option linter.unusedSimpArgs false
namespace Go.Pl
open Go Go.Lv
abbrev C5:=Int×Int×Int×List Int32×Int
def wE(e:Int):C5:=(0,0,0,[],e)
theorem Aeo{tE p:List UInt8}(hs:tE.length=8)(hp:p.length<=64):Ou tE p=some (tE==Xf (Ws p).toNat 8,0):=by
 rw[Ou,iR p hp,Aa];simp only;rw[Aau (by rw[Aj,Aj,Ac,Ac,Ef,hs];simp),If,Aa]
theorem Be5(b p:List UInt8)(m c w h o q n g y ab:Int)(k v:List Int){e:Int}(he:e≠0):Qk b p m c w h o q n g k e y ab v=some (wE e):=by
 rw[Qk,HQ,Abm (by rw[Aj];simpa using he)];rfl
theorem Adc(b p:List UInt8)(m c w h o q n g y ab:Int)(k:List Int){e:Int}(he:e≠0):Uz b p m c w h o q n g y ab k e=some (wE e):=by
 rw[Uz,JB,Abm (by rw[Aj];simpa using he)];rfl
theorem Bct(b p:List UInt8)(m c w h o q n g y ab:Int)(k:List Int):Uz b p m c w h o q n g y ab k 0=AA b p m c w h o q n g y ab k:=by
 rw[Uz,JB,Aau (by rw[Aj];simp)]
def dO(X:Nat->List Int32)(E:Nat->Int)(be:Int):Nat->Nat->List Int32->List Int32×Int
 |0,_,acc=>if be≠0 then([],38)else(acc,0)
 |j+1,k,acc=>if E k≠0 then([],E k)else dO X E be j (k+1) (acc++X k)
def WK(c w r:Nat)(y:List Int32×Int):C5:=if y.2≠0 then wE y.2 else((c:Int),(w:Int),(r:Int),y.1,0)
def Abs(b p:List UInt8)(f c w r n A:Nat)(l:List Int):C5:=
 WK c w r (dO (λk=>smF w (Lz b p f c w r n A l k)) (λk=>(Lz b p f c w r n A l k).2) (mY b A l) l.length 0 [])
section
variable {b p:List UInt8} {f c w r n A:Nat} {l:List Int} (o:Opn b p f c w r n A l)
include o
theorem sQ(a1 a2 a3 a4:Int):∀(j k q:Nat) (acc:List Int32),k+j=l.length->j<q-> (k=l.length-> (A:Int)+l.sum<=b.length)->acc.length<=4000*k->
  Uo b l (f:Int) (c:Int) (w:Int) (r:Int) (n:Int) a1 a2 a3 (A:Int) a4 (Nd p) (Al (Ak r) n) q ((A:Int)+(l.take k).sum) (k:Int) acc=
   some (WK c w r (dO (λk=>smF w (Lz b p f c w r n A l k)) (λk=>(Lz b p f c w r n A l k).2) (mY b A l) j k acc))
 |0,k,q+1,acc,hk,_,hfit,_=>by
  have hA:=o.at';have Arm:=o.file;have hs1:=o.some1;have hsum:=o.sum;have b1:=Ia o.five l.length;have hf:=hfit (by omega);obtain rfl:k=l.length:=by omega
  rw[Azx]at b1⊢;rw[Uo,KN,Aau (by rw[Ae,Ac];simp),ZT,rN,Cb (by omega) (by omega),Aa,Acf _ (by rw[Agn];omega),Aa,dO,mY];generalize Se (b.drop ((A:Int)+l.sum).toNat)=v;obtain⟨v1,v2⟩:=v;simp only;by_cases hv:v2≠0
  ·rw[Abm hv,Abm (by rw[Aj];simpa using hv),WK,Abm (by simp)];rfl
  ·rw[Aau hv,Aau (by rw[Aj];simpa using hv),WK,Aau (by simp)]
 |j+1,k,q+1,acc,hk,hq,hfit,hacc=>by
  have hA:=o.at';have Arm:=o.file;have hs1:=o.some1;have hsum:=o.sum;have b1:=Ia o.five k;have b2:=Ia o.five (k+1);have hkl:k<l.length:=by omega
  have e2:=Jw hkl;have h5:=o.five l[k] (Ap3 _);obtain⟨m,x,s,e,g⟩:=HG o k hkl;obtain⟨hc,hw,hr,hn,_⟩:=Of o.shape;have hl:=g.lens hw;rw[Uo,KN,Abm (by rw[Ae,Ac];simp;omega),Bn hkl,Aa,Aa,Ah (a:=(A:Int)+(l.take k).sum) (by omega) (by omega),Bpb,<-e2,Ac,dO,g.eq];simp only;rcases g.way with⟨h1,h2⟩|⟨h1,h2,_⟩
  ·rw[Abm (by rw[Ae,Acm];omega),Abm (by rw[h2];simp),h2,WK,Abm (by simp)];rfl
  ·rw[Aau (by rw[Ae,Acm];omega),g.mom];simp only[Aa];rw[Wd (by omega) (by omega) (by omega),Aa,show(b.take ((A:Int)+(l.take (k+1)).sum).toNat).drop ((A:Int)+(l.take k).sum).toNat=Aiv b A l k from rfl,h2,Aa];simp only;rw[ZM,rH];by_cases he:e≠0
   ·rw[Abm (by rw[Aj];simpa using he),Abm he,WK,Abm he];rfl
   ·have he0:e=0:=by simpa using he
    have Arn:=(g.some' he0).2.2.2.2;rw[Aau (by rw[Aj];simpa using he),Aau he,g.smp hw,Bi (by omega),Aa,Ah (a:=(A:Int)+(l.take k).sum) (by omega) (by omega),Bpb,<-e2,Ah (by omega) (by omega)];exact sQ a1 a2 a3 a4 j (k+1) q (acc++x) (by omega) (by omega) (λh=>by rw[h,Azx]at Arn;exact Arn) (by rw[Abq];omega)
theorem tY:∀(j k q:Nat) (acc:List Int32),k+j=l.length->j<q-> (k=l.length-> (A:Int)+l.sum<=b.length)->acc.length<=4000*k->
  Mu b (f:Int) (c:Int) (w:Int) (r:Int) (n:Int) l (Al (Ak r) n) (Nd p) q ((A:Int)+(l.take k).sum) (k:Int) acc=
   some (WK c w r (dO (λk=>smF w (Lz b p f c w r n A l k)) (λk=>(Lz b p f c w r n A l k).2) (mY b A l) j k acc))
 |0,k,q+1,acc,hk,_,hfit,_=>by
  have hA:=o.at';have Arm:=o.file;have hs1:=o.some1;have hsum:=o.sum;have b1:=Ia o.five l.length;have hf:=hfit (by omega);obtain rfl:k=l.length:=by omega
  rw[Azx]at b1⊢;rw[Mu,AN,Aau (by rw[Ae,Ac];simp),NZ,NY,Cb (by omega) (by omega),Aa,vT _ (by rw[Agn];omega),Aa,dO,mY];generalize Se (b.drop ((A:Int)+l.sum).toNat)=v;obtain⟨v1,v2⟩:=v;simp only;by_cases hv:v2≠0
  ·rw[Abm hv,Abm (by rw[Aj];simpa using hv),WK,Abm (by simp)];rfl
  ·rw[Aau hv,Aau (by rw[Aj];simpa using hv),WK,Aau (by simp)]
 |j+1,k,q+1,acc,hk,hq,hfit,hacc=>by
  have hA:=o.at';have Arm:=o.file;have hs1:=o.some1;have hsum:=o.sum;have b1:=Ia o.five k;have b2:=Ia o.five (k+1);have hkl:k<l.length:=by omega
  have e2:=Jw hkl;have h5:=o.five l[k] (Ap3 _);obtain⟨m,x,s,e,g⟩:=HG o k hkl;obtain⟨hc,hw,hr,hn,_⟩:=Of o.shape;have hl:=g.lens hw;rw[Mu,AN,Abm (by rw[Ae,Ac];simp;omega),Bn hkl,Aa,Aa,Ac,Bw (by omega) (by omega),dO,g.eq];simp only;rcases g.way with⟨h1,h2⟩|⟨h1,_,h2⟩
  ·rw[Abm (by rw[Ae,Acm];omega),Abm (by rw[h2];simp),h2,WK,Abm (by simp)];rfl
  ·rw[Aau (by rw[Ae,Acm];omega),g.mom];simp only[Aa];rw[Ah (a:=(A:Int)+(l.take k).sum) (by omega) (by omega),Bpb,<-e2,Wd (by omega) (by omega) (by omega),Aa,show(b.take ((A:Int)+(l.take (k+1)).sum).toNat).drop ((A:Int)+(l.take k).sum).toNat=Aiv b A l k from rfl,h2,Aa];simp only;rw[NM,NJ];by_cases he:e≠0
   ·rw[Abm (by rw[Aj];simpa using he),Abm he,WK,Abm he];rfl
   ·have he0:e=0:=by simpa using he
    have Arn:=(g.some' he0).2.2.2.2;rw[Aau (by rw[Aj];simpa using he),Aau he,g.smp hw,Bi (by omega),Aa,Bn hkl,Aa,Aa,Ah (a:=(A:Int)+(l.take k).sum) (by omega) (by omega),Bpb,<-e2,Ah (by omega) (by omega)];exact tY j (k+1) q (acc++x) (by omega) (by omega) (λh=>by rw[h,Azx]at Arn;exact Arn) (by rw[Abq];omega)
end
theorem Aku(l:List Int)(b p:List UInt8)(m c w h o q n g:Int)(k:List Int)(hl:l.length<=1000)(h5:∀x∈l,5<=x)(A:Int)(hA:0<=A)(hb:A+l.sum<=1000000):∀(j i z:Nat),i+j=l.length->j<z->Va l b p m c w h o q n g k z (i:Int) (A+(l.take i).sum)=IG b p l m c w h o q n g (A+l.sum) k
 |0,i,z+1,hi,_=>by
  rw[Va,LG,Aau (by rw[Ae,Ac];simp;omega),show i=l.length by omega,Azx]
 |j+1,i,z+1,hi,hz=>by
  have hlt:i<l.length:=by omega
  have b1:=Ia h5 i;have b2:=Ia h5 (i+1);have e:=Jw hlt;have ih:=Aku l b p m c w h o q n g k hl h5 A hA hb j (i+1) z (by omega) (by omega);rw[e,<-Bpb]at ih;rw[Va,LG,Abm (by rw[Ae,Ac];simp;omega),Bn hlt,Aa,Aa,Ah (by omega) (by omega),Ah (by omega) (by omega)];exact ih
theorem Ar2(b p:List UInt8)(hb:b.length<=100100)(hp:p.length<=64):
  (∃e:Int,e≠0/\Eb b p=some (bQ e)/\Nq b p=some (wE e)/\Km b p=some (wE e))\/
  (∃f c w r n T:Nat,∃q d:Int,T<=b.length/\b.length<=100000/\Gu f c w r n=true/\BM c r n=true/\
   Eb b p=Ud b (f:Int) (c:Int) (w:Int) (r:Int) (n:Int) (T:Int)/\
   Nq b p=AA b p (f:Int) (c:Int) (w:Int) (r:Int) (n:Int) q d (T:Int) 0 0 (Al (Ak r) n)/\
   Km b p=(ER b (T:Int) (f:Int) (c:Int) (w:Int) (r:Int) (n:Int)).bind λ(h,ae)=>if Bc ae 0=true then some (wE ae)else(Fu (r:Int) (n:Int)).bind λp2=>(Np p).bind λ(u,ap)=>RX b (f:Int) (c:Int) (w:Int) (r:Int) (n:Int) h p2 u (Ad (T:Int) (Ad (Bf 4 (Ac h)) 4)) 0 []):=by
 have hO:Eb b p=Eb b p:=rfl;have hV:Nq b p=Nq b p:=rfl;have hR:Km b p=Km b p:=rfl
 conv at hO=>rhs;rw[Eb,AP,Aau (by rw[Aq,Ac];simp;omega)]
 conv at hV=>rhs;rw[Nq,fA,Aau (by rw[Aq,Ac];simp;omega),pP]
 conv at hR=>rhs;rw[Km,SN,Aau (by rw[Aq,Ac];simp;omega),bG]
 by_cases h1:100000<b.length
 ·rw[Abm (by rw[Aq,Ac];simp;omega)]at hO hV hR;refine .inl ⟨4,by omega,hO,?_,?_⟩
  ·rw[hV,Aa];rfl
  ·rw[hR,Aa];rfl
 rw[Aau (by rw[Aq,Ac];simp;omega)]at hO hV hR;rw[Tz b (by omega),Aa]at hO hV;rw[AY b (by omega),Aa]at hR;by_cases h2:(Bs b).2=0
 ·obtain⟨p0,p1,p2⟩:=BB h2;have hc:=Cb (l:=b) p0 p1;simp only[h2]at hO hV hR;rw[Aau (by rw[Aj];simp),hc,Aa,show b.drop (Bs b).1.toNat=Ii b from rfl]at hO hV hR;rw[XX _ (by simp[Ii];omega),Aa]at hO hV;rw[iN _ (by simp[Ii];omega),Aa]at hR;by_cases h3:(Er (Ii b)).2.2.2.2.2=0
  ·obtain⟨g1,g2,g3,g4⟩:=oP h3;have hlen:(Ii b).length=b.length-(Bs b).1.toNat:=by simp[Ii]
   generalize hF:(Bs b).1.toNat=F at*
   have hF':(Bs b).1=(F:Int):=by omega
   rw[g1,hF']at hO hV hR;simp only at hO hV hR;generalize f0 (Ii b)=f at*
   generalize f1 (Ii b)=c at*
   generalize f2 (Ii b)=w at*
   generalize f3 (Ii b)=r at*
   generalize f4 (Ii b)=n at*
   have t22:Ad (F:Int) 22=((F+22:Nat):Int):=by rw[Ah (by omega) (by omega)];omega
   have t30:Ad ((F+22:Nat):Int) 8=((F+30:Nat):Int):=by rw[Ah (by omega) (by omega)];omega
   have Bnn:f=1\/f=2:=by simp only[Gu,Acm]at g3;omega
   rw[Aau (by rw[Aj];simp),t22,t30]at hO;rw[Aau (by rw[Aj];simp),oL g3 g4,Aa,t22,t30]at hV;rw[Aa]at hR;simp only at hV hR;rw[Aau (by rw[Aj];simp),t22,VP,t30]at hR;by_cases MU:((p==([]:List UInt8)) !=(geq (f:Int) (1:Int)))=true
   ·rw[Abm MU]at hO hR;refine .inl ⟨26,by omega,hO,?_,?_⟩
    ·rw[hV];by_cases h5:f=2
     ·rw[Abm (by rw[Ar,h5];rfl),Aa];simp only;rw[Aau (by rw[Aj];simp),Abm MU,Adc _ _ _ _ _ _ _ _ _ _ _ _ _ (by omega)]
     ·rw[Aau (by rw[Ar];simp;omega),Aa];simp only;rw[Aau (by rw[Aj];simp),Abm MU,Adc _ _ _ _ _ _ _ _ _ _ _ _ _ (by omega)]
    ·rw[hR,Aa];rfl
   ·rw[Aau MU]at hO hR;have hpf:(p=[]↔f=1):=by
     rw[Ar]at MU;have h5:(p==([]:List UInt8))=((f:Int)==1):=by simpa using MU
     have h6:(p==([]:List UInt8))=true↔((f:Int)==1)=true:=by rw[h5]
     rw[Aur,Aur]at h6;rw[h6];omega
    by_cases h5:f=2
    ·have Azw:p≠ []:=λe=>by have:=hpf.1 e;omega
     rw[Abm (by rw[Ar,h5];rfl),Aa]at hV;simp only at hV;rw[Aau (by rw[Aj];simp),Aau MU,Aau (by rw[Ar];simp;omega)]at hV;rw[Abm (by simpa using Azw)]at hO;rw[Aau (by simpa using Azw)]at hR;by_cases h6:b.length<F+30
     ·rw[Abm (by rw[Ae,Ac];simp;omega)]at hO hV hR;refine .inl ⟨24,by omega,hO,?_,?_⟩
      ·rw[hV,Adc _ _ _ _ _ _ _ _ _ _ _ _ _ (by omega)]
      ·rw[hR,Aa];rfl
     ·have hseg:((b.take (F+30)).drop (F+22)).length=8:=by simp;omega
      rw[Aau (by rw[Ae,Ac];simp;omega),Wd (by omega) (by omega) (by omega),Aa,show((F+30:Nat):Int).toNat=F+30 from rfl,show((F+22:Nat):Int).toNat=F+22 from rfl]at hO hV hR;rw[Aeo hseg hp,Aa]at hO hV;rw[iJ p hp,Aa]at hR;simp only at hO hV;rw[Aau (by rw[Aj];simp)]at hO;generalize(b.take (F+30)).drop (F+22)=tE at*
      by_cases h7:tE=Xf (Ws p).toNat 8
      ·rw[Aau (by simp[h7])]at hO hV;rw[Aau (by simp[h7]),Aa]at hR;simp only at hR;rw[Aau (by rw[Aj];simp)]at hR;rw[Bct]at hV;exact .inr ⟨f,c,w,r,n,F+30,(F:Int),((F+22:Nat):Int),by omega,by omega,g3,g4,hO,hV,hR⟩
      ·rw[Abm (by simpa using h7)]at hO hV;rw[Abm (by simpa using h7)]at hR;refine .inl ⟨26,by omega,hO,?_,?_⟩
       ·rw[hV,Adc _ _ _ _ _ _ _ _ _ _ _ _ _ (by omega)]
       ·rw[hR,Aa];rfl
    ·have hpe:p=[]:=hpf.2 (by omega);rw[Aau (by rw[Ar];simp;omega),Aa]at hV;simp only at hV;rw[Aau (by rw[Aj];simp),Aau MU,Abm (by rw[Ar];simp;omega),Bct]at hV;rw[Aau (by rw[hpe];simp)]at hO;rw[Abm (by rw[hpe];rfl),Aa]at hR;simp only at hR;rw[Aau (by rw[Aj];simp)]at hR;exact .inr ⟨f,c,w,r,n,F+22,(F:Int),((F+22:Nat):Int),by omega,by omega,g3,g4,hO,hV,hR⟩
  ·generalize Er (Ii b)=v at*
   obtain⟨v1,v2,v3,v4,v5,v6⟩:=v;simp only at h3 hO hV hR;rw[Abm (by rw[Aj];simpa using h3)]at hO hV;refine .inl ⟨v6,h3,hO,?_,?_⟩
   ·rw[hV,Aa];simp only;rw[Abm (by rw[Aj];simpa using h3)];rfl
   ·rw[hR,Aa];simp only;rw[Abm (by rw[Aj];simpa using h3)];rfl
 ·generalize Bs b=v at*
  obtain⟨v,e⟩:=v;simp only at h2 hO hV hR;rw[Abm (by rw[Aj];simpa using h2)]at hO hV hR;refine .inl ⟨e,h2,hO,?_,?_⟩
  ·rw[hV,Aa];simp only;rw[Abm (by rw[Aj];simpa using h2)];rfl
  ·rw[hR,Aa];simp only;rw[Abm (by rw[Aj];simpa using h2)];rfl
theorem Adh(b p:List UInt8)(hb:b.length<=100100)(hp:p.length<=64):
  (∃e:Int,e≠0/\Eb b p=some (bQ e)/\Fg b p=some (bQ e)/\Nq b p=some (wE e)/\Km b p=some (wE e))\/
  (∃f c w r n A l,Opn b p f c w r n A l/\Nq b p=some (Abs b p f c w r n A l)/\Km b p=some (Abs b p f c w r n A l)):=by
 have Bi3:∀{e e2:Int},bQ e=bQ e2->e=e2:=λh=>by simpa [bQ]using h
 rcases Ar2 b p hb hp with⟨e,he,h1,h2,h3⟩|⟨f,c,w,r,n,T,q,d,hT,Arm,g3,g4,hO,hV,hR⟩
 ·rcases Adw b p hb hp with⟨e',he',k1,k2⟩|⟨f,c,w,r,n,A,l,o⟩
  ·rw[h1]at k1;have:=Bi3 (Ayi k1);subst this;exact .inl ⟨e,he,h1,k2,h2,h3⟩
  ·have:=o.prog;rw[h1]at this;have:=Ayi this;simp only[bQ,Ae3]at this;exact absurd this.2.2.2.2.2.2.2 he
 ·obtain⟨hc,hw,hr,hn,_⟩:=Of g3;have hfit:n<=4000/c:=by simp only[BM,Acm]at g4;exact g4.1
  have hn4:n<=4000:=by have:=Atr 4000 c;omega
  rw[Aa8 g3 g4 b hb T hT]at hO;have hcut:=Cb (l:=b) (a:=(T:Int)) (by omega) (by omega);rw[Afx]at hcut;have hdl:(b.drop T).length<=100100:=by simp;omega
  rw[AA,ZC,Aau (by rw[Ae,Ac];simp;omega),hcut,Aa,Ac,rS _ _ hdl,Aa]at hV;rw[ER,hcut,Aa,fY hr.2 hn hn4,Aa,Ac,Agi _ _ hdl,Aa,Aa]at hR;by_cases h:(Eo (b.drop T) (Al (Ak r) n).length).2≠0
  ·rw[Abm h]at hO;generalize Eo (b.drop T) (Al (Ak r) n).length=v at*
   obtain⟨v1,v2⟩:=v;simp only at h hO hV hR;rcases Adw b p hb hp with⟨e',he',k1,k2⟩|⟨f,c,w,r,n,A,l,o⟩
   ·rw[hO]at k1;have:=Bi3 (Ayi k1);subst this;refine .inl ⟨_,h,hO,k2,?_,?_⟩
    ·rw[hV,KO,KW,Abm (by rw[Aj];simpa using h),Be5 _ _ _ _ _ _ _ _ _ _ _ _ _ _ h]
    ·rw[hR,Abm (by rw[Aj];simpa using h)]
   ·have:=o.prog;rw[hO]at this;have:=Ayi this;simp only[bQ,Ae3]at this;exact absurd this.2.2.2.2.2.2.2 h
  ·have h0:(Eo (b.drop T) (Al (Ak r) n).length).2=0:=by simpa using h
   rw[Aau h]at hO;generalize hsv:Eo (b.drop T) (Al (Ak r) n).length=v at*
   obtain⟨v1,v2⟩:=v;simp only at h0 hO hV hR;subst h0;rcases Adw b p hb hp with⟨e',he',k1,k2⟩|⟨f',c',w',r',n',A,l,o⟩
   ·rw[hO]at k1;have:=Ayi k1;simp only[bQ,Ae3]at this;exact absurd this.2.2.2.2.2.2.2.symm he'
   ·have hp2:=o.prog;rw[hO]at hp2;have hp3:=Ayi hp2;simp only[Ae3]at hp3;obtain⟨i1,i2,i3,i4,i5,i6,i7,_⟩:=hp3;obtain rfl:f=f':=by omega
    obtain rfl:c=c':=by omega
    obtain rfl:w=w':=by omega
    obtain rfl:r=r':=by omega
    obtain rfl:n=n':=by omega
    subst i7;have hlen:=o.len;have hs1:=o.some1;have hsum:=o.sum;have hA:=o.at';have hAT:(A:Int)=(T:Int)+4*(v1.length:Int)+4:=by omega
    have a1:Bf 4 (v1.length:Int)=4*(v1.length:Int):=Ez (by omega) (by omega);have eV:Ad (Ad (T:Int) (Bf 4 (Ac v1))) 4=(A:Int):=by
     rw[Ac,a1,Ah (a:=(T:Int)) (by omega) (by omega),Ah (by omega) (by omega)];omega
    have eR:Ad (T:Int) (Ad (Bf 4 (Ac v1)) 4)=(A:Int):=by
     rw[Ac,a1,Ah (a:=4*(v1.length:Int)) (by omega) (by omega),Ah (by omega) (by omega)];omega
    have hlv:=sQ o q d (T:Int) ((A:Int)+v1.sum) v1.length 0 Ax [] (by omega) (by have:=As;omega) (by omega) (by simp);have hlr:=tY o v1.length 0 Ax [] (by omega) (by have:=As;omega) (by omega) (by simp);rw[Bix,Bns,Int.add_zero]at hlv hlr;refine .inr ⟨f,c,w,r,n,A,v1,o,?_,?_⟩
    ·have hs:=Aku v1 b p (f:Int) (c:Int) (w:Int) (r:Int) (n:Int) q d (T:Int) (Al (Ak r) n) hs1.2 o.five (A:Int) (by omega) (by omega) v1.length 0 Ax (by omega) (by have:=As;omega);rw[Bix,Bns,Int.add_zero]at hs;rw[hV,KO,KW,Aau (by rw[Aj];simp),aM,eV];refine Bjl hs ?_;rw[IG,YK,eV,Qk,HQ,Aau (by rw[Aj];simp),XU p o.pass,Aa];exact hlv
    ·rw[hR,Aau (by rw[Aj];simp),Aa,SH p o.pass,Aa,eR];exact hlr
def Aa5(b:List UInt8):List Int:=Al (Ak (f3 (Ii b))) (f4 (Ii b))
theorem Ar6{ch:Nat}{bits:Int}(hb:Bm bits)(h1:1<=ch)(h6:ch<=6):Gf (ch:Int) bits=some 0:=by
 have hr:∃x y,Ro bits=some (x,y,0):=⟨_,_,Aik hb⟩;obtain⟨x,y,hr⟩:=hr;rw[Gf,hr,Aa];simp only;rw[Aau (by simp[Aj,Ae,Aq];omega)]
abbrev P6':=Int×Int×Int×List Int32×List Int×Int
def Baw(e:Int):P6':=(0,0,0,[],[],e)
theorem Ab4(l:List Int32)(hl:l.length<=4000000):∀(j i q:Nat),i+j=l.length->j<q->Jn l l q (i:Int)=some true
 |0,i,q+1,hi,_=>by
  rw[Jn,Sd,Aau (by rw[Ae,Ac];simp;omega)];rfl
 |j+1,i,q+1,hi,hq=>by
  rw[Jn,Sd,Abm (by rw[Ae,Ac];simp;omega),Bn (by omega),Aa,Aa,Aau (by rw[Bgg];simp),Ah (by omega) (by omega)];exact Ab4 l hl j (i+1) q (by omega) (by omega)
theorem Bj0(l:List Int32)(hl:l.length<=4000000):Yi l l=some true:=by
 rw[Yi,AH,Aau (by rw[Aj];simp)];exact Ab4 l hl l.length 0 Ax (by omega) (by have:=As;omega)
theorem Bk2(a b c:Int)(l:List Int32)(hl:l.length<=4000000):Rz a b c l a b c l=some true:=by
 have e:∀a:Int,geq a a=true:=λa=>by rw[Ar];simp
 rw[Rz,e,e,e,Abm (by decide),Bj0 l hl,Aa]
theorem Aha{c r n:Nat}(h:BM c r n=true):1<= (Al (Ak r) n).length/\ (Al (Ak r) n).length<=1000:=by
 simp only[BM,Acm]at h;rw[HE];exact⟨Nat.le_add_left _ _,h.2⟩
theorem Amm(g:Nat):∀K:Nat,(List.replicate K (g:Int)).sum=((K*g:Nat):Int)
 |0=>by simp
 |K+1=>by
  rw[Bis,Azy,Amm g K,Bn4];omega
theorem rG{g n:Nat}(hn:1<=n):(Al g n).sum=(n:Int):=by
 have h:=Bit (n-1) g;rw[Al,List.sum_append,Amm];simp only[Azy,Bns];omega
theorem Al8:∀{l:List Int},(∀x∈l,0<=x)->0<=l.sum
 |[],_=>by simp
 |x::l,h=>by
  have h1:=h x Awp;have h2:=Al8 (l:=l) λy hy=>h y (Anh _ hy);rw[Azy];omega
theorem jZ{l:List Int}(h:∀x∈l,0<=x)(i:Nat):0<= (l.take i).sum/\ (l.take i).sum<=l.sum:=by
 have h1:=Al8 (l:=l.take i) λx hx=>h x (Bop hx);have h2:=Al8 (l:=l.drop i) λx hx=>h x (Blp hx);have:=Aje l i;omega
def GR(c w:Nat)(fr:List Int)(k:Nat):Int:=(((fr.take k).sum.toNat*(c*wB (w:Int)):Nat):Int)
section
variable {f c w r n:Nat} (h1:Gu f c w r n=true) (h2:BM c r n=true)
include h1 h2
theorem PX:(∀x∈Al (Ak r) n,0<=x)/\ (Al (Ak r) n).sum=(n:Int)/\n<=4000:=by
 obtain⟨hc,hw,hr,hn,_⟩:=Of h1;have hfit:n<=4000/c:=by simp only[BM,Acm]at h2;exact h2.1
 have hn4:n<=4000:=by have:=Atr 4000 c;omega
 refine⟨λx hx=>?_,rG hn,hn4⟩;obtain⟨m,rfl,_⟩:=Wk (Ej r) hn hx;omega
end
section
variable {b p:List UInt8} {f c w r n A:Nat} {l:List Int} (o:Opn b p f c w r n A l)
include o
theorem Bcd(h:(Abs b p f c w r n A l).2.2.2.2=0):(A:Int)+l.sum<=b.length:=by
 have hs1:=o.some1;have key:∀(j k:Nat) (acc:List Int32),k+j=l.length->1<=j-> (dO (λk=>smF w (Lz b p f c w r n A l k)) (λk=>(Lz b p f c w r n A l k).2) (mY b A l) j k acc).2=0-> (A:Int)+l.sum<=b.length:=by
  intro j
  induction j with
  |zero=>intro k acc _ h;omega
  |succ j ih=>
   intro k acc hk _ h;obtain⟨m,x,s,e,g⟩:=HG o k (by omega);rw[dO]at h;by_cases he:(Lz b p f c w r n A l k).2≠0
   ·rw[Abm he]at h;exact absurd h he
   ·rw[Aau he]at h;by_cases hj:j=0
    ·rw[g.eq]at he;have:=(g.some' (by simpa using he)).2.2.2.2;rw[show k+1=l.length by omega,Azx]at this;exact this
    ·exact ih (k+1) _ (by omega) (by omega) h
 rw[Abs,WK]at h;refine key l.length 0 [] (by omega) hs1.1 ?_;split at h
 ·simpa [wE]using h
 ·rename_i h2;simpa using h2
end
theorem Asg(C W:Nat)(fr:List Int):GR C W fr 0=0:=by rw[GR,Bix,Bns];simp
theorem Atk(C W:Nat){fr:List Int}(hp:∀z∈fr,0<=z){A m:Nat}(hA:A<fr.length)(hm:fr[A]=(m:Int)):GR C W fr (A+1)=GR C W fr A+((m*C*wB (W:Int):Nat):Int):=by
 have hs:0<= (fr.take A).sum:=by
  have:∀l:List Int,(∀z∈l,0<=z)->0<=l.sum:=by
   intro l
   induction l with
   |nil=>intro _;simp
   |cons a l ih=>intro h;rw[Azy];have:=h a (by simp);have:=ih (λz hz=>h z (by simp[hz]));omega
  exact this _ λz hz=>hp z (Bop hz)
 have e:(fr.take (A+1)).sum=(fr.take A).sum+m:=by rw[Ma hA,List.sum_append,Azy,Bns,hm];omega
 rw[GR,GR,e];have:((fr.take A).sum+(m:Int)).toNat=(fr.take A).sum.toNat+m:=by omega
 rw[this,Al6,Azz m];omega
theorem sP{bits:Int}(h:Bm bits){l:List Int32}(hl:l.length<=4000)(hr:inR bits l):Ay bits l=some 0:=by
 have hh:=UY bits;have key:∀(j i q:Nat),i+j=l.length->j<q->Ba l (hB bits) q (i:Int)=some 0:=by
  intro j
  induction j with
  |zero=>
   intro i q hi hq;obtain⟨q,rfl⟩:∃k,q=k+1:=⟨q-1,by omega⟩;rw[Ba,Dd,Aau (by rw[Ae,Ac];simp;omega)];rfl
  |succ j ih=>
   intro i q hi hq;obtain⟨q,rfl⟩:∃k,q=k+1:=⟨q-1,by omega⟩;have hx:=hr l[i] (Ap3 (by omega));rw[Ba,Dd,Abm (by rw[Ae,Ac];simp;omega),Bn (by omega),Aa,Aa,Ge,Ams,Db (by omega) (by omega),Ah (by omega) (by omega),Ae,Dw,Aau (by simp;omega),Aau (by simp;omega)];exact ih (i+1) q (by omega) (by omega)
 rw[Ay,Ea,cP h,Aa,Aau (by rw[Ar];simp;omega),Aau (by rw[Aq,Ac];simp;omega)];exact key l.length 0 Ax (by omega) (by have:=As;omega)
theorem Ate(bits:Int)(a b:List Int32):Dk bits (a++b)=Dk bits a++Dk bits b:=by unfold Dk;rw[List.flatMap_append]
def Xs{α:Type}(G:Nat->List α):Nat->Nat->List α
 |0,_=>[]
 |j+1,k=>G k++Xs G j (k+1)
theorem Aon{α:Type}(G:Nat->List α):∀(i j k:Nat),Xs G (i+j) k=Xs G i k++Xs G j (k+i)
 |0,j,k=>by simp[Xs]
 |i+1,j,k=>by
  rw[show i+1+j=(i+j)+1 by omega,Xs,Xs,Aon G i j (k+1),Amz,show k+1+i=k+(i+1) by omega]
theorem Akx{α:Type}(G:Nat->List α)(i k:Nat):Xs G (i+1) k=Xs G i k++G (k+i):=by
 rw[Aon G i 1 k];simp[Xs]
theorem Aod(w:Nat)(G:Nat->List UInt8×Int)(be:Int):∀(j k:Nat) (acc:List UInt8) (Ble:List Int32),(mK G be j k acc).2=(dO (λk=>smF w (G k)) (λk=>(G k).2) be j k Ble).2
 |0,k,acc,Ble=>by
  rw[mK,dO];split<;>rfl
 |j+1,k,acc,Ble=>by
  rw[mK,dO];split
  ·rfl
  ·exact Aod w G be j (k+1) _ _
theorem Ag1(X:Nat->List Int32)(E:Nat->Int)(be:Int):∀(j k:Nat) (acc:List Int32),(dO X E be j k acc).2=0->be=0/\ (∀i,k<=i->i<k+j->E i=0)/\ (dO X E be j k acc).1=acc++Xs X j k
 |0,k,acc,h=>by
  rw[dO]at h⊢;by_cases hb:be≠0
  ·rw[Abm hb]at h;cases h
  ·rw[Aau hb];exact⟨by simpa using hb,λi h1 h2=>by omega,by simp[Xs]⟩
 |j+1,k,acc,h=>by
  rw[dO]at h⊢;by_cases hb:E k≠0
  ·rw[Abm hb]at h;exact absurd h hb
  ·rw[Aau hb]at h⊢;obtain⟨h1,h2,h3⟩:=Ag1 X E be j (k+1) _ h;refine⟨h1,λi i1 i2=>?_,?_⟩
   ·by_cases hi:i=k
    ·subst hi;simpa using hb
    ·exact h2 i (by omega) (by omega)
   ·rw[h3,Xs,Amz]
theorem Aj5(G:Nat->List UInt8×Int):∀(j k:Nat) (acc:List UInt8),(∀i,k<=i->i<k+j-> (G i).2=0)->mK G 0 j k acc=(acc++Xs (λi=>(G i).1) j k,0)
 |0,k,acc,h=>by
  rw[mK,Aau (by simp),Xs];simp
 |j+1,k,acc,h=>by
  rw[mK,Aau (by rw[h k (by omega) (by omega)];simp),Aj5 G j (k+1) _ λi h1 h2=>h i (by omega) (by omega),Xs,Amz]
section
variable {b p:List UInt8} {f c w r n A:Nat} {l:List Int} (o:Opn b p f c w r n A l) (hE:∀i,i<l.length-> (Lz b p f c w r n A l i).2=0)
include o hE
theorem Al7(i:Nat)(hi:i<l.length):∃m:Nat,Ap (Al (Ak r) n) (i:Int)=some (m:Int)/\1<=m/\ (Lz b p f c w r n A l i).1=Dk (w:Int) (smF w (Lz b p f c w r n A l i))/\ (smF w (Lz b p f c w r n A l i)).length=m*c/\inR (w:Int) (smF w (Lz b p f c w r n A l i)):=by
 have hw:=(Of o.shape).2.1;obtain⟨m,x,s,e,g⟩:=HG o i hi;have h0:=hE i hi;have hsm:=g.smp hw;have hl:=g.lens hw;rw[g.eq]at h0⊢;rw[hsm];obtain⟨h1,h2,h3,_⟩:=g.some' h0;exact⟨m,g.mom,g.pos.1,h1,h2,fX hw (by omega) h3⟩
theorem Aap:∀(j k:Nat),k+j<=l.length->Dk (w:Int) (Xs (λi=>smF w (Lz b p f c w r n A l i)) j k)=Xs (λi=>(Lz b p f c w r n A l i).1) j k
 |0,k,_=>rfl
 |j+1,k,h=>by
  obtain⟨m,_,_,h1,_⟩:=Al7 o hE k (by omega);rw[Xs,Xs,Ate,Aap j (k+1) (by omega),<-h1]
theorem Alg:∀(j k:Nat),k+j<=l.length->inR (w:Int) (Xs (λi=>smF w (Lz b p f c w r n A l i)) j k)
 |0,k,_=>λx hx=>by simp[Xs]at hx
 |j+1,k,h=>by
  obtain⟨m,_,_,_,_,h1⟩:=Al7 o hE k (by omega);intro x hx;rw[Xs,List.mem_append]at hx;rcases hx with hx|hx
  ·exact h1 x hx
  ·exact Alg j (k+1) (by omega) x hx
theorem Auj:∀(j:Nat),j<=l.length-> (Xs (λi=>smF w (Lz b p f c w r n A l i)) j 0).length=((Al (Ak r) n).take j).sum.toNat*c
 |0,_=>by simp[Xs]
 |j+1,h=>by
  obtain⟨m,h0,_,_,h1,_⟩:=Al7 o hE j (by omega);have hlen:=o.len;have hlt:j<(Al (Ak r) n).length:=by omega
  rw[Bn hlt]at h0;have h0':=Ayi h0;obtain⟨g1,g2,g3⟩:=PX o.shape o.fit;have b:=jZ g1 j;rw[Akx,Abq,Auj j (by omega),Bh9,h1,Jw hlt,h0'];rw[show(((Al (Ak r) n).take j).sum+(m:Int)).toNat=((Al (Ak r) n).take j).sum.toNat+m by omega,Al6]
theorem Ajk:(Xs (λi=>smF w (Lz b p f c w r n A l i)) l.length 0).length=n*c:=by
 have hn:=(Of o.shape).2.2.2.1;rw[Auj o hE l.length (Arj _),o.len,Azx,rG hn];simp
theorem Aw8:Le (w:Int) (Xs (λi=>smF w (Lz b p f c w r n A l i)) l.length 0)=some (Xs (λi=>(Lz b p f c w r n A l i).1) l.length 0,0):=by
 have hw:=(Of o.shape).2.1;have hfit:n<=4000/c:=by have:=o.fit;simp only[BM,Acm]at this;exact this.1
 have hN:n*c<=4000:=by
  have h1:=Adx c hfit;have h2:=Bit 4000 c;omega
 have ht:=Ajk o hE;rw[XY hw (by omega) (sP hw (by omega) (Alg o hE l.length 0 (by omega))),Aap o hE l.length 0 (by omega)]
end
def Tj(bits:Int)(ch:Nat)(t x:List Int32):List UInt32:=evl bits ch t (mx ch x) x.length
def Anm(bits:Int)(ch:Nat)(t x:List Int32):List UInt8:=Nz (bR ch (Tj bits ch t x) x.length)
def EV(bits:Int)(ch:Nat)(t x:List Int32):List UInt8:=Anm bits ch t x++Xf (Fx (Anm bits ch t x)).toNat 4
theorem Bcn(bits:Int)(ch:Nat)(t x:List Int32)(h0:1<=x.length)(h4:x.length<=4000):1<= (Anm bits ch t x).length/\ (Anm bits ch t x).length<=40501:=by
 have h:=gU ch (Tj bits ch t x) x.length;obtain⟨k,hk⟩:∃k,x.length=k+1:=⟨x.length-1,by omega⟩;have h1:1<= (bR ch (Tj bits ch t x) x.length).length:=by
  rw[hk,bR,Abq];have hn:=Atl ch ((Tj bits ch t x).take k);have:=sW ((Tj bits ch t x).getD k 0) hn.1 hn.2;omega
 rw[Anm,BH];omega
theorem Ao4(bits:Int)(ch:Nat)(t x:List Int32)(h0:1<=x.length)(h4:x.length<=4000):5<= (EV bits ch t x).length/\ (EV bits ch t x).length<=40505:=by
 have:=Bcn bits ch t x h0 h4;rw[EV,Abq,Ef];omega
theorem Aqn(p:List UInt8)(b0:UInt64)(a0:Int):∀(j m q:Nat),m+j<=300000->j<=64->j<q->
  Sa b0 a0 q (Qx p m j) (j:Int) (m:Int) (Sp p 0 m)=some (Sp p 0 (m+j),((m+j:Nat):Int),0)
 |0,m,q+1,_,_,_=>by
  rw[Sa,XK,Aau (by rw[Aq];simp),kQ,yC];rfl
 |j+1,m,q+1,hm,hj,hq=>by
  have hroom:Sa b0 a0 (q+1) (Qx p m (j+1)) ((j+1:Nat):Int) (m:Int) (Sp p 0 m)=XH (Sa b0 a0 q) b0 a0 (Qx p m (j+1)) ((j+1:Nat):Int) (m:Int) (room p 0 m):=by
   rw[Sa,XK,Abm (by rw[Aq];simp),Acw m (by omega),room];by_cases h0:m %8=0
   ·rw[Abm (by rw[Ar,h0];rfl),Bi (by rw[Jy];simp;omega),Aa,Abm h0]
   ·rw[Aau (by rw[Ar];simp;omega),Aau h0]
  have hl:Ao (Ac (room p 0 m)) 1=((m/8:Nat):Int):=by
   rw[Ac,Pu,Bw (by omega) (by omega)];omega
  have e2:Fm ((j+1:Nat):Int) (Ao (8:Int) ((m %8:Nat):Int))=((min (j+1) (8-m %8):Nat):Int):=by
   rw[OC,Bw (by omega) (by omega)];omega
  rw[hroom,XH,iW,Acw m (by omega),e2,hl];generalize hT:min (j+1) (8-m %8)=T;have hT1:1<=T:=by omega
  have hT8:m %8+T<=8:=by omega
  have hg:Ap (room p 0 m) ((m/8:Nat):Int)=some (UInt8.ofNat (Ce p (0+8*(m/8)) (m %8))):=by
   rw[Bn (by rw[Pu];omega),sA]
  have z1:(GI.toZ ((m %8:Nat):Int)).toNat=m %8:=rfl;have z2:(GI.toZ ((T:Nat):Int)).toNat=T:=rfl;have hlt:=zO p (0+8*(m/8)) (m %8+T) (by omega);have hadd:=SO p (m %8) T (0+8*(m/8));rw[show 0+8*(m/8)+m %8=m by omega]at hadd;have hbyte:(Af (Fa (Qx p m (j+1)) (Ao (Dl (1:UInt64) T) (1:UInt64))):UInt8)=UInt8.ofNat (Ce p m T):=by
   rw[bA,Bl1 _ (by omega),Aof p m (j+1) T (by omega) hj]
  have hnew:wM (UInt8.ofNat (Ce p (0+8*(m/8)) (m %8))) (Dl (UInt8.ofNat (Ce p m T)) (m %8))=UInt8.ofNat (Ce p (0+8*(m/8)) (m %8+T)):=by
   rw[or8 (Qs _ _ _) (by rw[Ark];omega) (by omega),hadd,Ark (2^(m %8))]
  rw[hg,z1,z2,hbyte];simp only[Aa];rw[Bk (by rw[Dw];simp),Aa,Bk (by rw[Dw];simp;omega),Aa,hnew,Ui _ (by rw[Pu];omega),Aa,yP p 0 m T hT1 hT8,kP,yZ,Acw m (by omega),e2,hT,Bk (by rw[Dw];simp),Aa,z2,Apv p m (j+1) T (by omega) hj,Bw (by omega) (by omega),Ah (by omega) (by omega)];have ih:=Aqn p b0 a0 (j+1-T) (m+T) q (by omega) (by omega) (by omega);rw[show m+T+(j+1-T)=m+(j+1) by omega]at ih;rw[<-ih,show((j+1:Nat):Int)-((T:Nat):Int)=((j+1-T:Nat):Int) by omega,show(m:Int)+((T:Nat):Int)=((m+T:Nat):Int) by omega]
theorem put_eq(p:List UInt8)(m j:Nat)(hm:m+j<=300000)(hj:j<=63):YB (Sp p 0 m) (m:Int) (Qx p m j) (j:Int)=some (Sp p 0 (m+j),((m+j:Nat):Int),0):=by
 have hz:Bc (Ci (Qx p m j) (GI.toZ (j:Int)).toNat) 0=false:=by
  have:Ci (Qx p m j) j=0:=by
   apply UInt64.toNat_inj.1;rw[HN,AF p m j (by omega),Bk6 (Qs p j m)];rfl
  rw[show(GI.toZ (j:Int)).toNat=j from rfl,this];rfl
 have hl:=Jy p 0 m;have htw:iE (Sp p 0 m) (m:Int)=some (Sp p 0 m,(m:Int)):=by
  rw[iE,By,Bi (by simp;omega),Aa,Aa];rfl
 rw[YB,rC,BT (xH p 0 m (by omega)),Aa,Aau (by decide),Aau (by simp[Ae,Aq];omega),Abm (by rw[Ae];simp;omega),Bk (by rw[Dw];simp),Aa,hz,Aau (by decide),Ah (by omega) (by omega),Aau (by rw[Aq];simp;omega),htw,Aa];exact Aqn p _ _ j m Ax hm (by omega) (by have:=As;omega)
theorem At.cat{p:List UInt8}{a:Nat}{c d:List Bool}(h:At p a (c++d)):At p a c/\At p (a+c.length) d:=⟨h.left,h.right⟩
theorem Ao8(p:List UInt8):∀(q a:Nat),At p a (List.replicate q true)->Ce p a q+1=2^q
 |0,a,_=>by rw[Ce]
 |q+1,a,h=>by
  rw[Bis]at h;obtain⟨h0,h1⟩:=h.cons;have:=Ao8 p q (a+1) h1;rw[Ce,h0,Ax2,Abm rfl];omega
theorem Aa3{x:UInt64}{p:List UInt8}{m n:Nat}(hn:n<=63)(h:x.toNat=Ce p m n):x=Qx p m n:=by
 apply UInt64.toNat_inj.1;rw[h,AF p m n (by omega)]
theorem bZ{n:Nat}(h:n<2^64):(UInt64.ofNat n).toNat=n:=by rw[Aip];exact Ac0 h
theorem Ajh{p:List UInt8}{m q:Nat}(hq:q<=48)(hm:m+48<=300000)(h:At p m (List.replicate q true++(if q=48 then []else [false]))):
  dA (Sp p 0 m) (m:Int) (q:Int)=some (Sp p 0 (m+min (q+1) 48),((m+min (q+1) 48:Nat):Int),0):=by
 have h1:=h.left;have hv:=Ao8 p q m h1;have Brf:2^q<=2^48:=Ad5 (by omega) hq;have hval:Ce p m (min (q+1) 48)+1=2^q:=by
  by_cases h48:q=48
  ·subst h48;exact hv
  ·rw[Aau h48]at h;have h2:=h.right;rw[At7]at h2;have h0:=h2.cons.1;rw[show min (q+1) 48=q+1 by omega,rY,h0];simpa using hv
 have hx:(Ao (Dl (1:UInt64) q) (1:UInt64)).toNat=Ce p m (min (q+1) 48):=by
  have e1:(Dl (1:UInt64) q).toNat=2^q:=by rw[ZS];show 1*2^q %_=_;rw[Be6];exact Ac0 (by omega)
  have hpos:0<2^q:=Blo (by omega);rw[wW,UInt64.toNat_sub_of_le _ _ (by rw[UInt64.le_iff_toNat_le,e1];exact hpos),e1]
  show 2^q-1=_;omega
 rw[dA,BT (xH p 0 m (by omega)),Aa,Aau (by decide),lG,Aau (by simp[Ae,Aq];omega),Aa];simp only;have e2:Fm (Ad (q:Int) 1) 48=((min (q+1) 48:Nat):Int):=by rw[OC,Ah (by omega) (by omega)];omega
 rw[Aau (by decide),Bk (by rw[Dw];simp),Aa,e2,show(GI.toZ (q:Int)).toNat=q from rfl,Aa3 (by omega) hx,put_eq p m _ (by omega) (by omega),Aa]
theorem Baa{p:List UInt8}{m l:Nat}{v:UInt32}(hl:l<=24)(hm:m+81<=300000)(h:At p m (xD l v.toNat)):
  lH (Sp p 0 m) (m:Int) v (l:Int)=some (Sp p 0 (m+(xD l v.toNat).length),((m+(xD l v.toNat).length:Nat):Int),0):=by
 have hvl:=v.toNat_lt;have hz:(GI.toZ (l:Int)).toNat=l:=rfl;have hlp:2^l<=2^24:=Ad5 (by omega) hl;have hpos:0<2^l:=Blo (by omega);have Bo1:AW v (l:Int)=some (decide (48<=v.toNat/2^l)):=by
  rw[AW,Bk (by rw[Dw];simp),Aa,hz,Aub,SP];rfl
 rw[lH,fJ,BT (xH p 0 m (by omega)),Aa,Aau (by decide),Aau (by simp[Ae,Aq];omega),Bk (by rw[Dw];simp),Aa,Aa,Bo1,Aa];rw[xD]at h⊢;by_cases h48:48<=v.toNat/2^l
 ·rw[Abm h48]at h⊢;obtain⟨h1,h2⟩:=h.cat;rw[At7]at h2;have hval:=rZ p 32 (m+48) v.toNat h2;rw[Ac0 (by omega)]at hval;have hu:=Ajh (p:=p) (m:=m) (q:=48) (Arj _) (by omega) (by rw[Abm rfl,Arp];exact h1);rw[Abm (by simpa using h48),QP,eQ,show(48:Int)=((48:Nat):Int)from rfl,hu,Aa];simp only;rw[Aau (by decide),Dr,Aa3 (x:=UInt64.ofNat v.toNat) (p:=p) (m:=m+48) (n:=32) (by omega) (by rw[bZ (by omega),hval]),show(32:Int)=((32:Nat):Int)from rfl,show m+min (48+1) 48=m+48 by omega,put_eq p (m+48) 32 (by omega) (by omega),Aa,Abq,At7,GY,Az0]
 ·rw[Aau h48]at h⊢;generalize hq:v.toNat/2^l=q at*
  obtain⟨h1,h2⟩:=h.cat;rw[At7]at h2;obtain⟨h3,h4⟩:=h2.cons;have hval:=rZ p l (m+q+1) (v.toNat %2^l) h4;rw[Nat.mod_mod]at hval;have hqa:At p m (List.replicate q true++[false]):=by
   have:List.replicate q true++(false::oB (v.toNat %2^l) l)=(List.replicate q true++[false])++oB (v.toNat %2^l) l:=by simp
   rw[this]at h;exact h.left
  have hu:=Ajh (p:=p) (m:=m) (q:=q) (by omega) (by omega) (by rw[Aau (by omega)];exact hqa);have hgq:(Af (Ci v l):Int)=(q:Int):=by rw[Aem,SP,hq]
  have hrest:(Af (Fa v (Ao (Dl (1:UInt32) l) 1)):UInt64)=Qx p (m+q+1) l:=by
   apply Aa3 (by omega);have e1:(Dl (1:UInt32) l).toNat=2^l:=by rw[oH];show 1*2^l %_=_;rw[Be6];exact Ac0 (by omega)
   have e2:(Ao (Dl (1:UInt32) l) (1:UInt32)).toNat=2^l-1:=by
    rw[Ahc,UInt32.toNat_sub_of_le _ _ (by rw[UInt32.le_iff_toNat_le,e1];exact hpos),e1];rfl
   have e3:(Fa v (Ao (Dl (1:UInt32) l) 1)).toNat=v.toNat %2^l:=by
    rw[Afy,UInt32.toNat_and,e2,Blu]
   rw[Dr,bZ (by rw[e3];have:=Bj3 v.toNat hpos;omega),e3,hval]
  rw[Aau (by simpa using h48),QP,eQ,hz,hgq,hu,Aa];simp only;rw[Aau (by decide),hrest,show m+min (q+1) 48=m+q+1 by omega,put_eq p (m+q+1) l (by omega) (by omega),Aa,Abq,At7,Apu,GY,show m+q+1+l=m+(q+(l+1)) by omega]
theorem Bd3{k l:Nat}{s t:UInt64}(h:okD k l s t)(v:UInt32):iY [] 0 (k:Int) (l:Int) s t v=
  some (Nz (JJ k l v),((JJ k l v).length:Int),((kS k (Zh s (n64 v)):Nat):Int),((lK l t k v:Nat):Int),Zh s (n64 v),lT t k v,0):=by
 obtain⟨h1,h2,h3,h4⟩:=h;have hvl:=v.toNat_lt;have hAt:At (Nz (JJ k l v)) 0 (JJ k l v):=λi hi=>by rw[Bh9,XV]
 have hlen:=sW v h1 h2;have hfull:Sp (Nz (JJ k l v)) 0 (JJ k l v).length=Nz (JJ k l v):=by
  apply Apx (by rw[Jy,BH]);intro i hi;rw[Aie,Bh9,XV];by_cases hlt:i<(JJ k l v).length
  ·rw[Abm hlt]
  ·rw[Aau hlt,Atn (by omega)]
 generalize hP:Nz (JJ k l v)=P at*
 have h0:Sp P 0 0=[]:=rfl;have Bno:∀(x:Int) (y:UInt64) (aj ai:Int),DU v (k:Int) s ai P x y=some (P,ai,((kS k (Zh s (n64 v)):Nat):Int),x,Zh s (n64 v),y,0):=by
  intro x y aj ai;rw[DU,eT,Dr,fM,Avc k h1];rw[eL,dN,bM,JX,Dr,fM];rfl
 have hp7:∀ai:Int,QI v (k:Int) (l:Int) s t 0 ai P=some (P,ai,((kS k (Zh s (n64 v)):Nat):Int),((lK l t k v:Nat):Int),Zh s (n64 v),lT t k v,0):=by
  intro ai;rw[QI,eU,Aau (by decide),Ahz k l s t h1,Aa];by_cases hv:v.toNat<2^k
  ·rw[Abm hv];simp only;rw[Aau (by rw[Ar];simp),Bno _ _ 0,lK,Abm hv,lT,Abm hv]
  ·rw[Aau hv];simp only;rw[Abm (by rw[Ar];rfl),Dr,fM,Avc l h2 _ (λx=>DU v (k:Int) s ai P x (Zh t (UInt64.ofNat (mL k v).toNat))),Bno _ _ 0,lK,Aau hv,lT,Aau hv];rfl
 rw[iY,dZ,show Ki [] 0=some 0 from rfl,Aa,Aau (by decide),Ba6 ⟨h1,h2,h3,h4⟩,Aa,Aau (by decide),eG,dS,Ahz k l s t h1,Aa];have hput:=put_eq P 0 1 (by omega) (by omega);rw[h0,Bh9,show((0:Nat):Int)=0 from rfl,show((1:Nat):Int)=1 from rfl]at hput;by_cases hv:v.toNat<2^k
 ·have hc:JJ k l v=false::oB v.toNat k:=by rw[JJ,Abm hv]
  rw[hc]at hAt hfull;obtain⟨b0,b1⟩:=hAt.cons;have hval:=rZ P k 1 v.toNat b1;rw[Ac0 hv]at hval;have hz:(Af (0:Int):UInt64)=Qx P 0 1:=Aa3 (by omega) (by rw[wX,b0];rfl);rw[Abm hv];simp only;rw[hz,hput,Aa];simp only;rw[Abm (by decide),Dr,Aa3 (x:=UInt64.ofNat v.toNat) (p:=P) (m:=1) (n:=k) (by omega) (by rw[bZ (by omega),hval]),show(1:Int)=((1:Nat):Int)from rfl,put_eq P 1 k (by omega) (by omega),Aa];simp only;rw[Apu,GY,Bnm k 1]at hfull;rw[hfull,hp7,hc,Apu,GY,Bnm k 1]
 ·have hc:JJ k l v=true::xD l (v.toNat-2^k):=by rw[JJ,Aau hv]
  rw[hc]at hAt hfull;obtain⟨b0,b1⟩:=hAt.cons;have hsub:=Nat.sub_le v.toNat (2^k);have hlv:(mL k v).toNat=v.toNat-2^k:=by rw[mL,cR (by omega)]
  have hz:(Af (1:Int):UInt64)=Qx P 0 1:=Aa3 (by omega) (by rw[wX,b0];rfl);have hr:=Baa (p:=P) (m:=1) (l:=l) (v:=mL k v) h2 (by omega) (by rw[hlv];exact b1);rw[hlv,show((1:Nat):Int)=1 from rfl]at hr;rw[Aau hv];simp only;rw[hz,hput,Aa];simp only;rw[Aau (by decide),Abm (by decide),hr,Aa];simp only;rw[Apu,Bnm _ 1]at hfull;rw[hfull,hp7,hc,Apu,Bnm _ 1]
section
variable (ch:Nat) (x:List Int32)
theorem dF{at' i:Nat}(ha:at' %ch=0)(hi:i<ch)(h:at'+i<x.length):(mx ch x).getD (at'+i) 0=mxV (λi=>x.getD (at'+i) 0) ch i:=by
 have hb:(at'+i) %ch=i:=by rw[Nat.add_mod,ha,Bh9,Nat.mod_mod,Ac0 hi]
 rw[Bj8 h,hb,show at'+i-i=at' by omega]
theorem Aqs(bk:Int->List Int32->Option (List Int32×Int))(at':Nat)(h1:1<=ch)(h6:ch<=6)(hm:at' %ch=0)(hl:at'+ch<=x.length)(hl2:x.length<=4000):∀(j i q:Nat),i+j=ch-1->j<q->
  FV bk (ch:Int) (at':Int) q (i:Int) (jQ (λk=>decide (k<at'+i)) (mx ch x) x)=bk ((at'+ch:Nat):Int) (jQ (λk=>decide (k<at'+ch)) (mx ch x) x)
 |j,i,0,_,h=>absurd h (Bez _)
 |0,i,q+1,hi,_=>by
  have hlen:=pV ch x;have e1:Ao (Ad (at':Int) (ch:Int)-(at':Int)) 1=((ch-1:Nat):Int):=by rw[Ah (by omega) (by omega),Bw (by omega) (by omega)];omega
  have e2:Ad (at':Int) (ch:Int)-(at':Int)=(ch:Int):=by rw[Ah (by omega) (by omega)];omega
  have e4:Ad (at':Int) (ch:Int)=((at'+ch:Nat):Int):=by rw[Ah (by omega) (by omega)];omega
  rw[FV,cD,e1,Aau (by rw[Ae];simp;omega),qA,rM,e1,e2];obtain rfl:i=ch-1:=by omega
  by_cases h2:1<ch
  ·have e3:Ao ((ch-1:Nat):Int) 1=((ch-2:Nat):Int):=by rw[Bw (by omega) (by omega)];omega
   have hv:Ao (x.getD (at'+(ch-1)) 0) (Br ((mx ch x).getD (at'+(ch-2)) 0) 2)=(mx ch x).getD (at'+(ch-1)) 0:=by
    rw[dF ch x hm (by omega) (by omega),dF ch x hm (by omega) (by omega),mxV,mxV,Abm (by omega),Aau (by omega),Abm h2,aV,show ch-2+1=ch-1 by omega]
   rw[Abm (by rw[Aq];simp;omega),tW (by omega),Aa,e3,tW (by omega),Aa,
    show(at':Int)+((ch-1:Nat):Int)=((at'+(ch-1):Nat):Int) by omega,show(at':Int)+((ch-2:Nat):Int)=((at'+(ch-2):Nat):Int) by omega,
    EC (by omega),Aa,EC (by omega),Aa,Aa,Aau (by simp),Abm (by simp;omega),hv,lS (by omega),Aa,cN,rE,e4]
   congr 1;apply Xg;intro k _;rw[Ajs];simp;omega
  ·obtain rfl:ch=1:=by omega
   have hlast:x.getD at' 0=(mx 1 x).getD at' 0:=by
    have:=dF 1 x (i:=0) hm (by omega) (by omega);rw[Blb]at this;rw[this,mxV,Aau (by omega),Aau (by omega)];rfl
   rw[Aau (by rw[Aq];simp),cN,rE,e4];congr 1;apply Bif (by rw[QN,QN]);intro k g1 g2;rw[Vh,Vh];by_cases hk:k<at'
   ·rw[Abm (by simp;omega),Abm (by simp;omega)]
   ·by_cases hk2:k=at'
    ·subst hk2;rw[Aau (by simp),Abm (by simp)];exact hlast
    ·rw[Aau (by simp;omega),Aau (by simp;omega)]
 |j+1,i,q+1,hi,hq=>by
  have hlen:=pV ch x;have e1:Ao (Ad (at':Int) (ch:Int)-(at':Int)) 1=((ch-1:Nat):Int):=by rw[Ah (by omega) (by omega),Bw (by omega) (by omega)];omega
  have e2:Ad (at':Int) (ch:Int)-(at':Int)=(ch:Int):=by rw[Ah (by omega) (by omega)];omega
  have e3:Ad (i:Int) 1=((i+1:Nat):Int):=by rw[Ah (by omega) (by omega)];omega
  have hv:Ao (x.getD (at'+(i+1)) 0) (x.getD (at'+i) 0)=(mx ch x).getD (at'+i) 0:=by
   rw[dF ch x hm (by omega) (by omega),mxV,Abm (by omega),aV]
  rw[FV,cD,e1,Abm (by rw[Ae];simp;omega),e2,e3,tW (by omega),Aa,tW (by omega),Aa,
   show(at':Int)+((i+1:Nat):Int)=((at'+(i+1):Nat):Int) by omega,show(at':Int)+(i:Int)=((at'+i:Nat):Int) by omega,
   EC (by omega),Aa,EC (by omega),Aa,Aa,Aau (by simp),Aau (by simp),hv,lS (by omega),Aa]
  have ih:=Aqs bk at' h1 h6 hm hl hl2 j (i+1) q (by omega) (by omega);rw[<-ih];congr 1;apply Xg;intro k _;rw[Ajs];simp;omega
theorem Acq(h1:1<=ch)(h6:ch<=6)(hm:x.length %ch=0)(hl2:x.length<=4000):∀(j at' q:Nat),at' %ch=0->at'<=x.length->x.length-at'<=j->j<q->
  GK (ch:Int) q (at':Int) (jQ (λk=>decide (k<at')) (mx ch x) x)=some (mx ch x,0)
 |j,at',0,_,_,_,h=>absurd h (Bez _)
 |j,at',q+1,ha,hle,hj,hq=>by
  have hlen:=pV ch x;have hl:Ac (jQ (λk=>decide (k<at')) (mx ch x) x)=(x.length:Int):=by rw[Ac,QN,hlen]
  rw[GK,oR,hl];by_cases h:at'<x.length
  ·have hb:=Agj ha hm h;obtain⟨j,rfl⟩:∃k,j=k+1:=⟨j-1,by omega⟩;have e4:Ad (at':Int) (ch:Int)=((at'+ch:Nat):Int):=by rw[Ah (by omega) (by omega)];omega
   have hi:=Aqs ch x (GK (ch:Int) q) at' h1 h6 ha hb hl2 (ch-1) 0 Ax (by omega) (by have:=As;omega);have hrest:=Acq h1 h6 hm hl2 j (at'+ch) q (by rw[Bo0,ha]) hb (by omega) (by omega);rw[Blb]at hi;rw[Abm (by rw[Ae];simp;omega),show gS (x.length:Int) (at':Int) (Ad (at':Int) (ch:Int))=some () by rw[e4,gS,tW];omega,Aa];exact Bjl hi hrest
  ·rw[Aau (by rw[Ae];simp;omega),sE (λk hk=>by simp;omega)];rfl
theorem Axi(h1:1<=ch)(h6:ch<=6)(hm:x.length %ch=0)(hl2:x.length<=4000):Adb (ch:Int) x=some (mx ch x,0):=by
 have hlen:=pV ch x;have h:=Acq ch x h1 h6 hm hl2 x.length 0 Ax (by simp) (by omega) (by omega) (by have:=As;omega);rw[Adb,uY,Ap4 ch x h1 h6 hm hl2,Aa,Aau (by rw[Aj];simp),Dh,Bi (by simp;omega),Aa,Aa,Aro,pW];rw[oV hlen.symm (λk _=>by simp)]at h;exact h
end
theorem Bbd(a:Int32):sO a=some (zF a):=by
 have h:=CM a;have hc:(Af a:UInt32)=UInt32.ofNat (a.toInt %4294967296).toNat:=rfl;have hs:(Ci a (GI.toZ (31:UInt64)).toNat)=if 0<=a.toInt then(0:Int32)else -1:=by
  have e:Ci a 31=Int32.ofInt (a.toInt.fdiv (2^31)):=rfl;rw[show(GI.toZ (31:UInt64)).toNat=31 from rfl,e];by_cases h0:0<=a.toInt
  ·rw[Abm h0,show a.toInt.fdiv (2^31)=0 by rw[Arr _ (by decide)];omega];rfl
  ·rw[Aau h0,show a.toInt.fdiv (2^31)= -1 by rw[Arr _ (by decide)];omega];rfl
 rw[sO,hs,hc,zF];congr 1;have hsh:(Dl (UInt32.ofNat (a.toInt %4294967296).toNat) (GI.toZ (1:UInt64)).toNat).toNat=2*(a.toInt %4294967296).toNat %4294967296:=by
  rw[show(GI.toZ (1:UInt64)).toNat=1 from rfl,oH,Ani,Ac0 (show(a.toInt %4294967296).toNat<2^32 by omega)];omega
 by_cases h0:0<=a.toInt
 ·rw[Abm h0,Abm h0,show(Af (0:Int32):UInt32)=0 from rfl];apply UInt32.toNat_inj.1;rw[show∀z:UInt32,Zy z (0:UInt32)=z^^^0 from λz=>by rw[gJ],Bpc,hsh,Ani,Ac0 (show 2*a.toInt.toNat<2^32 by omega)]
  show _^^^0=_;rw[Nat.xor_zero];omega
 ·rw[Aau h0,Aau h0,show(Af (-1:Int32):UInt32)=4294967295 from rfl];apply UInt32.toNat_inj.1;rw[show∀z:UInt32,Zy z (4294967295:UInt32)=z^^^4294967295 from λz=>by rw[gJ],Bpc,hsh,Ani,Ac0 (show 2*(-a.toInt-1).toNat+1<2^32 by omega)]
  show _^^^4294967295=_;have key:∀n:Nat,n<4294967296->n^^^4294967295=4294967295-n:=by
   intro n hn;have:=BitVec.toNat_not (x:=BitVec.ofNat 32 n);rw[<-BitVec.xor_allOnes,BitVec.toNat_xor,BitVec.toNat_ofNat,Ac0 (by omega)]at this;simpa using this
  rw[key _ (by omega)];omega
theorem Bdv{bits:Int}(h:Bm bits){t p:List Int32}(hF:OkF (sB bits) t p)(last x:Int32):
  Xd bits last (sB bits) t p x=some (Aiy bits (last,t,p) x,bits,x,sB bits,lrn t p (Aiy bits (last,t,p) x),(x-gs (shB bits) last)::p.take 15,0):=by
 rw[Xd,Ags h,Aa,Aau (by rw[Aj];simp),Bbk h,Aa];simp only;rw[aV,dB,Aq7 hF,Aa];simp only;rw[Aau (by rw[Aj];simp),aV,aU,Ao2 hF,Aa];simp only;rw[Ava (s:=sB bits) (t:=lrn t p _) (p:=p) ⟨hF.1,IL _ _ _,hF.2.2⟩,Aa,Aa];rfl
theorem Aeq(bits:Int)(ch:Nat)(t x:List Int32):(Tj bits ch t x).length=x.length:=Am8 _ _ _ _ _
theorem Az9{bits:Int}{ch:Nat}{t x:List Int32}{i:Nat}(h:i<x.length):(Tj bits ch t x).getD i 0=zF (Aiy bits (cst bits ch t (Tj bits ch t x) (i %ch) i) ((mx ch x).getD i 0)):=by
 obtain⟨w,hw⟩:=Av3 bits ch t (mx ch x) (x.length-(i+1)) (i+1);rw[show i+1+(x.length-(i+1))=x.length by omega,evl,Amz]at hw;have hli:=Am8 bits ch t (mx ch x) i;have hw':Tj bits ch t x=_:=hw;have hg:(Tj bits ch t x).getD i 0=zF (Aiy bits (cst bits ch t (evl bits ch t (mx ch x) i) (i %ch) i) ((mx ch x).getD i 0)):=by
  rw[hw',List.getD_eq_getElem?_getD,List.getElem?_append_right (by omega),hli,Nat.sub_self];rfl
 have hc:cst bits ch t (Tj bits ch t x) (i %ch) i=cst bits ch t (evl bits ch t (mx ch x) i) (i %ch) i:=by rw[hw',Bgq _ _ _ _ _ _ _ (by omega)]
 rw[hg,hc]
section
variable {bits:Int} {ch:Nat} {t x:List Int32} (hb:Bm bits) (ht:t.length=16) (h1:1<=ch) (h6:ch<=6) (hx1:1<=x.length) (hx4:x.length<=4000) (hm:x.length %ch=0)
include hb ht h1 h6 hx1 hx4 hm
omit ht in
theorem Bj9(hr:inR bits x):QR (ch:Int) bits x=some 0:=by
 rw[QR,Ar6 hb h1 h6,Aa,Aau (by decide),aX hb x hx4,sP hb hx4 hr,Aa,Aau (by decide),Aau (by rw[Ar,Ac,Aur];omega),Bk (by rw[Aj];simp;omega),Aa,Ac,OG,hm,Aau (by decide)]
omit hm in
theorem Ai7:∀(j i q:Nat),i+j=x.length->j<q->
  Mk (mx ch x) (ch:Int) bits q (i:Int) (cts bits ch t (Tj bits ch t x) i) ((Tj bits ch t x).take i)=some (Tj bits ch t x,0)
 |j,i,0,_,h=>absurd h (Bez _)
 |0,i,q+1,hi,_=>by
  have hl:=pV ch x;have hV:=Aeq bits ch t x;rw[Mk,Vz,Aau (by rw[Ae,Ac];simp;omega),Ati (by omega)];rfl
 |j+1,i,q+1,hi,hq=>by
  have hl:=pV ch x;have hV:=Aeq bits ch t x;have hc:i %ch<6:=Anj (Bj3 _ (by omega)) h6;have hok:=Am6 bits ch ht (Tj bits ch t x) (i %ch) i;have hs:=Aud (bits:=bits) (ch:=ch) (t:=t) (v:=Tj bits ch t x) (i:=i) hc rfl;have hg:=Az9 (bits:=bits) (ch:=ch) (t:=t) (x:=x) (i:=i) (by omega);have ih:=Ai7 j (i+1) q (by omega) (by omega);have htk:(Tj bits ch t x).take i++[(Tj bits ch t x).getD i 0]=(Tj bits ch t x).take (i+1):=by
   have:(Tj bits ch t x).getD i 0=(Tj bits ch t x)[i]'(by omega):=by rw[List.getD_eq_getElem?_getD,List.getElem?_eq_getElem (by omega)];rfl
   rw[this,Ma (by omega)]
  have hfw:=Bdv hb hok (cst bits ch t (Tj bits ch t x) (i %ch) i).1 ((mx ch x).getD i 0);rw[Mk,Vz,Abm (by rw[Ae,Ac];simp;omega),g32 (by omega),Aa,Aa,Bk (by rw[Aj];simp;omega),Aa,OG,Avu hc,Aa,Aa];refine Bjl (congrArg (λo=>Option.bind o _) hfw) ?_;rw[Aa];simp only;rw[Aau (by decide)];have hst:((bits,(mx ch x).getD i 0,(sB bits,lrn (cst bits ch t (Tj bits ch t x) (i %ch) i).2.1 (cst bits ch t (Tj bits ch t x) (i %ch) i).2.2 (Aiy bits (cst bits ch t (Tj bits ch t x) (i %ch) i) ((mx ch x).getD i 0)),((mx ch x).getD i 0-gs (shB bits) (cst bits ch t (Tj bits ch t x) (i %ch) i).1)::(cst bits ch t (Tj bits ch t x) (i %ch) i).2.2.take 15,()),()):CL)=toC bits (Akg bits (cst bits ch t (Tj bits ch t x) (i %ch) i) (aP ((Tj bits ch t x).getD i 0))):=by
   rw[hg,Bkh,toC,Akg,Ay7];simp only;rw[Aiy,pS]
  refine Bjl (congrArg (λo=>Option.bind o _) ((congrArg (λz=>Ng (cts bits ch t (Tj bits ch t x) i) ((i %ch:Nat):Int) z) hst).trans hs)) ?_;rw[Aa,Bbd,Aa];have hg2:zF (Aiy bits ((cst bits ch t (Tj bits ch t x) (i %ch) i).1,(cst bits ch t (Tj bits ch t x) (i %ch) i).2.1,(cst bits ch t (Tj bits ch t x) (i %ch) i).2.2) ((mx ch x).getD i 0))=(Tj bits ch t x).getD i 0:=hg.symm;rw[hg2,Bi (by rw[Afz];simp;omega),Aa,htk,Ah (by omega) (by omega)];exact ih
theorem Atz(hr:inR bits x):KF (ch:Int) bits t x=some (Tj bits ch t x,0):=by
 have hl:=pV ch x;have h:=Ai7 hb ht h1 h6 hx1 hx4 x.length 0 Ax (by omega) (by have:=As;omega);have e:Ax=(Ax-7)+1+1+1+1+1+1+1:=by have:=As;omega
 have hs:Zf (ch:Int) bits t (mx ch x) 0 (List.replicate 6 ((0:Int),(0:Int32),((0:Int),(List.replicate 16 (0:Int32)),(List.replicate 16 (0:Int32)),()),()))=IC (ch:Int) bits (mx ch x) (cts bits ch t (Tj bits ch t x) 0):=by
  rw[Zf,e];obtain rfl|rfl|rfl:=hb<;>rfl
 rw[KF,IK,Bj9 hb h1 h6 hx1 hx4 hm hr,Aa,Aau (by decide),Axi ch x h1 h6 hm hx4,Aa];simp only;rw[Aau (by decide)];refine Bjl hs ?_;exact h
end
theorem Atf(ch:Nat):LK=some (sts ch []):=by
 have e:Ax=(Ax-7)+1+1+1+1+1+1+1:=by have:=As;omega
 rw[LK,JI,LN,e];rfl
theorem Aoo(c:List Bool){n:Nat}(h:n<=c.length):Sp (Nz c) 0 n=Nz (c.take n):=by
 have hl:(c.take n).length=n:=by rw[Afz];omega
 apply Apx (by rw[Jy,BH,hl]);intro i hi;rw[Aie,Bh9,XV,XV];by_cases hlt:i<n
 ·rw[Abm hlt,tb,tb,List.getD_eq_getElem?_getD,List.getD_eq_getElem?_getD,List.getElem?_take,Abm hlt]
 ·rw[Aau hlt,Atn (by omega)]
theorem Bkz(a:UInt8){k:Nat}(hk:k<8):Fa (Ci a k) (1:UInt8)=UInt8.ofNat (a.toNat/2^k %2):=by
 apply UInt8.toNat_inj.1;rw[Avr,UInt8.toNat_and,Alb,Aqr]
 show _&&&1=_;rw[Nat.and_one_is_mod];generalize a.toNat/2^k=X;omega
theorem Aq9(E code:List Bool)(hE:E.length+code.length<=330000)(bk:Int->List (Int×Int×UInt64×UInt64×Unit)->Int->List UInt8->Bz)(V:List UInt32)(b f g:Int)(k:List (Int×Int×UInt64×UInt64×Unit)):∀(j o q:Nat),o+j=code.length->j<q->
  Gz bk V b f (code.length:Int) g k (Nz code) q (o:Int) ((E.length+o:Nat):Int) (Sp (Nz (E++code)) 0 (E.length+o))=bk (Ad g 1) k ((E.length+code.length:Nat):Int) (Nz (E++code))
 |j,o,0,_,h=>absurd h (Bez _)
 |0,o,q+1,ho,_=>by
  obtain rfl:o=code.length:=by omega
  rw[Gz,Wo,Aau (by rw[Ae];simp),FC,bK,Aoo _ (by rw[Abq];omega),Ati (by rw[Abq];omega)]
 |j+1,o,q+1,ho,hq=>by
  generalize hP:Nz (E++code)=P;have hPo:Hv P (E.length+o)=Hv (Nz code) o:=by rw[<-hP,XV,XV,Auz]
  have ih:=Aq9 E code hE bk V b f g k j (o+1) q (by omega) (by omega);rw[hP,<-Az0]at ih;generalize hn:E.length+o=n at*
  have hq8:Br (n:Int) 8=((n/8:Nat):Int):=by rw[show(8:Int)=((8:Nat):Int)from rfl,JA (by omega)]
  have hr8:Gx (n:Int) 8=((n %8:Nat):Int):=by rw[show(8:Int)=((8:Nat):Int)from rfl,OG]
  have hqo:Br (o:Int) 8=((o/8:Nat):Int):=by rw[show(8:Int)=((8:Nat):Int)from rfl,JA (by omega)]
  have hro:Gx (o:Int) 8=((o %8:Nat):Int):=by rw[show(8:Int)=((8:Nat):Int)from rfl,OG]
  have hroom:Gz bk V b f (code.length:Int) g k (Nz code) (q+1) (o:Int) (n:Int) (Sp P 0 n)=Wn (Gz bk V b f (code.length:Int) g k (Nz code) q) (code.length:Int) V g b f k (Nz code) (o:Int) (n:Int) (room P 0 n):=by
   rw[Gz,Wo,Abm (by rw[Ae];simp;omega),hr8,room];by_cases h0:n %8=0
   ·rw[Abm (by rw[Ar,h0];rfl),Bi (by rw[Jy];simp;omega),Aa,Abm h0]
   ·rw[Aau (by rw[Ar];simp;omega),Aau h0]
  have hcl:=BH code;have hgm:Ap (Nz code) ((o/8:Nat):Int)=some ((Nz code).getD (o/8) 0):=by
   rw[Bn (by omega),List.getD_eq_getElem?_getD,List.getElem?_eq_getElem (by omega)];rfl
  have hg:Ap (room P 0 n) ((n/8:Nat):Int)=some (UInt8.ofNat (Ce P (0+8*(n/8)) (n %8))):=by
   rw[Bn (by rw[Pu];omega),sA]
  have hbit:Fa (Ci ((Nz code).getD (o/8) 0) (o %8)) (1:UInt8)=UInt8.ofNat (Hv P n):=by
   rw[Bkz _ (by omega),hPo,Hv]
  have hlt:=zO P (0+8*(n/8)) (n %8+1) (by omega);have hsn:=rY P (0+8*(n/8)) (n %8);rw[show 0+8*(n/8)+n %8=n by omega]at hsn;have hnew:wM (UInt8.ofNat (Ce P (0+8*(n/8)) (n %8))) (Dl (UInt8.ofNat (Hv P n)) (n %8))=UInt8.ofNat (Ce P (0+8*(n/8)) (n %8+1)):=by
   rw[or8 (Qs _ _ _) (by rw[Ark];omega) (by omega),hsn,Ark (2^(n %8))]
  rw[hroom,Wn,FJ,hqo,hro,hq8,hr8,hgm,Aa,Aa,Bk (by rw[Dw];simp;omega),Aa,hg,Aa,Bk (by rw[Dw];simp;omega),Aa,Aa,Aa,
   show(GI.toZ ((o %8:Nat):Int)).toNat=o %8 from rfl,show(GI.toZ ((n %8:Nat):Int)).toNat=n %8 from rfl,hbit,hnew,Ui _ (by rw[Pu];omega),Aa,yP P 0 n 1 (by omega) (by omega),FN,YT,Ah (by omega) (by omega),Ah (by omega) (by omega)]
  exact ih
theorem Bn1(l m:List UInt8)(h:l.length+m.length<=1000000):Fh [l,m]=some (l++m):=by
 have hF:Ax=(Ax-3)+1+1+1:=by have:=As;omega
 rw[Fh,Qj,Ql];have g0:Ap [l,m] (0:Int)=some l:=rfl;have g1:Ap [l,m] (1:Int)=some m:=rfl;have l2:Ac [l,m]=2:=rfl;have h3:Ew [l,m] []=some (l++m):=by
  rw[Ew,Jr,Jq,hF,Cp,Dn,l2,Abm (by decide),g0,Aa,Bi (by simp;omega),Aa,Aro,show Ad (0:Int) 1=1 by decide,
   Cp,Dn,l2,Abm (by decide),g1,Aa,Bi (by omega),Aa,show Ad (1:Int) 1=2 by decide,Cp,Dn,l2,Aau (by decide)]
  rfl
 rw[hF,Cu,Dx,l2,Abm (by decide),g0,Aa,Ah (by unfold Ac;omega) (by unfold Ac;omega),Aau (by rw[Ae,Ac];simp),show Ad (0:Int) 1=1 by decide,
  Cu,Dx,l2,Abm (by decide),g1,Aa,Ah (by unfold Ac;omega) (by unfold Ac;omega),Aau (by rw[Ae,Ac,Ac];simp;omega),show Ad (1:Int) 1=2 by decide,
  Cu,Dx,l2,Aau (by decide),Ex,Jp,Aau (by rw[Ae,Ac,Ac];simp;omega),Jt,Jo]
 have z:Ao (0:Int) 0=0:=by decide
 have n0:(0:Int)+Ac l+Ac m=((l.length+m.length:Nat):Int):=by simp[Ac]
 rw[z,n0,Bw (by omega) (by omega),Int.sub_zero];by_cases hp:0<l.length+m.length
 ·rw[Abm (by rw[Aq];simp;omega),show gS (0:Int) 0 0=some ()from rfl,Aa,rA (by omega) (by omega),Aa,Bi (by simp;omega),Aa];rw[show gS (Ac ([]++List.replicate ((l.length+m.length:Nat):Int).toNat (0:UInt8))) 0 0=some () by rw[gS,Bk];simp[Ac];omega,Aa];simp only[YV,Int.sub_self,Int.toNat_zero,Bix];exact h3
 ·rw[Aau (by rw[Aq];simp;omega)];exact h3
theorem Aqe(bits:Int)(ch:Nat)(h1:1<=ch)(h6:ch<=6)(V:List UInt32)(hV:V.length<=4000):∀(j i q:Nat),i+j=V.length->j<q->
  Iy V (ch:Int) bits q (i:Int) (sts ch (V.take i)) ((bR ch V i).length:Int) (Nz (bR ch V i))=some (Nz (bR ch V V.length)++Xf (Fx (Nz (bR ch V V.length))).toNat 4,0)
 |j,i,0,_,h=>absurd h (Bez _)
 |0,i,q+1,hi,_=>by
  obtain rfl:i=V.length:=by omega
  have hel:=gU ch V V.length;have hpl:=BH (bR ch V V.length);have hlt:=(Fx (Nz (bR ch V V.length))).toNat_lt;rw[Iy,We,Aau (by rw[Ae,Ac];simp),FH,ZJ,Aad _ (by omega),Aa];simp only;have e64:(UInt64.ofNat (Fx (Nz (bR ch V V.length))).toNat).toNat=(Fx (Nz (bR ch V V.length))).toNat:=bZ (by omega);rw[Aau (by decide),Dr,show(4:Int)=((4:Nat):Int)from rfl,bH _ 4 (by omega) (by omega) (by rw[e64];omega),Aa];simp only;rw[Aau (by decide),e64,Bn1 _ _ (by rw[Ef];omega),Aa]
 |j+1,i,q+1,hi,hq=>by
  have hc:i %ch<6:=Anj (Bj3 _ (by omega)) h6;have hvl:(V.take i).length=i:=by rw[Afz];omega
  have hel:=gU ch V i;have hk:=Atl ch (V.take i);have hcl:=sW (V.getD i 0) hk.1 hk.2;have ih:=Aqe bits ch h1 h6 V hV j (i+1) q (by omega) (by omega);have hvi:V.getD i 0=V[i]'(by omega):=by rw[List.getD_eq_getElem?_getD,List.getElem?_eq_getElem (by omega)];rfl
  have htk:V.take i++[V.getD i 0]=V.take (i+1):=by rw[hvi,Ma (by omega)]
  have hst:=Am5 (ch:=ch) (v:=V.take i) hc;have hset:=Auo (ch:=ch) (v:=V.take i) (V.getD i 0) hc (by rw[hvl]);have Bo2:mV ch (V.take i) (i %ch) (V.take i).length=now ch (V.take i):=Bfc (by rw[hvl]);rw[Bo2]at hst hset;rw[htk]at hset;have hdp:=Bd3 (k:=(now ch (V.take i)).1) (l:=(now ch (V.take i)).2.1) (s:=(now ch (V.take i)).2.2.1) (t:=(now ch (V.take i)).2.2.2) (qI ch (V.take i) _ _) (V.getD i 0);have hpc:=Aq9 (bR ch V i) (JJ (now ch (V.take i)).1 (now ch (V.take i)).2.1 (V.getD i 0)) (by omega) (Iy V (ch:Int) bits q) V (ch:Int) bits (i:Int) (sts ch (V.take (i+1))) (JJ (now ch (V.take i)).1 (now ch (V.take i)).2.1 (V.getD i 0)).length 0 Ax (by omega) (by have:=As;omega);rw[show(bR ch V i).length+0=(bR ch V i).length from rfl,Aoo _ (by rw[Abq];omega),List.take_left,show((0:Nat):Int)=0 from rfl]at hpc;rw[Iy,We,Abm (by rw[Ae,Ac];simp;omega),xX (by omega),Aa,Aa,Bk (by rw[Aj];simp;omega),Aa,OG,hst,Aa,Aa];refine Bjl (congrArg (λo=>Option.bind o _) hdp) ?_;rw[Aa];simp only;rw[Aau (by decide),Aa,Aa];refine Bjl (congrArg (λo=>Option.bind o _) hset) ?_;rw[Aa];refine Bjl hpc ?_;rw[Ah (by omega) (by omega)];rw[bR,Abq]at ih;exact ih
theorem lP{bits:Int}{ch:Nat}{t x:List Int32}(hb:Bm bits)(ht:t.length=16)(h1:1<=ch)(h6:ch<=6)(hx1:1<=x.length)(hx4:x.length<=4000)(hm:x.length %ch=0)(hr:inR bits x):
  Mx (ch:Int) bits t x=some (EV bits ch t x,0):=by
 have hV:=Aeq bits ch t x;have h:=Aqe bits ch h1 h6 (Tj bits ch t x) (by omega) (Tj bits ch t x).length 0 Ax (by omega) (by have:=As;omega);have e0:Nz (bR ch (Tj bits ch t x) 0)=[]:=by simp[bR,Nz]
 have e1:((bR ch (Tj bits ch t x) 0).length:Int)=0:=rfl;rw[e0,e1,Bix,hV,show((0:Nat):Int)=0 from rfl]at h;rw[Mx,KX,Atz hb ht h1 h6 hx1 hx4 hm hr,Aa];simp only;rw[Aau (by decide),Atf ch,Aa,EV,Anm,EP];exact h
theorem Bjo{r:Nat}(h1:1<=r)(h:r<=1048576):Ym (r:Int)=some ((Ak r:Int),0):=by
 have hv:=Aeh h;have e:Bf (r:Int) 256=Bf 256 (r:Int):=by rw[Ez (by omega) (by omega),Ez (by omega) (by omega)];omega
 rw[Ym,Aau (by simp[Ae,Aq];omega),e];have hq:0<=Br (Bf 256 (r:Int)) 245:=by
  have e2:Bf 256 (r:Int)=((256*r:Nat):Int):=by rw[Ez (by omega) (by omega)];omega
  rw[e2,show(245:Int)=((245:Nat):Int)from rfl,JA (by omega)];omega
 rw[Alv]at hv;by_cases hz:Br (Bf 256 (r:Int)) 245=0
 ·rw[Abm (by rw[Ar];simpa using hz)];rw[hz]at hv;have:(1:Int)=(Ak r:Int):=by omega
  rw[this]
 ·rw[Aau (by rw[Ar];simpa using hz)];have:Br (Bf 256 (r:Int)) 245=(Ak r:Int):=by omega
  rw[this]
structure ClipOk (c w r n:Nat) (x:List Int32):Prop where
 ch:1<=c/\c<=6
 bits:Bm (w:Int)
 rate:1<=r/\r<=1048576
 cnt:1<=n/\n<=4000/c
 len:x.length=n*c
 fr:(n-1)/Ak r+1<=1000
 rng:inR (w:Int) x
theorem ClipOk.le{c w r n:Nat}{x:List Int32}(h:ClipOk c w r n x):n<=4000/\n*c<=4000/\1<=x.length/\x.length<=4000:=by
 have h1:=Adx c h.cnt.2;have h2:=Bit 4000 c;have h3:=Atr 4000 c;have h4:=Bpm h.cnt.1 h.ch.1;have h5:=h.len;have:=h.cnt;omega
theorem ClipOk.w3{c w r n:Nat}{x:List Int32}(h:ClipOk c w r n x):w=8\/w=16\/w=24:=by
 have:=h.bits;unfold Bm at this;omega
theorem ClipOk.shape{c w r n:Nat}{x:List Int32}(h:ClipOk c w r n x)(f:Nat)(hf:f=1\/f=2):Gu f c w r n=true:=by
 have:=h.w3;have:=h.ch;have:=h.rate;have:=h.cnt;simp only[Gu,Acm];omega
theorem ClipOk.fit{c w r n:Nat}{x:List Int32}(h:ClipOk c w r n x):BM c r n=true:=by
 have:=h.cnt;have:=h.fr;simp only[BM,Acm];omega
theorem Bm2{bits:Int}(h:Bm bits){l:List Int32}(hl:l.length<=4000):Ay bits l=some 0\/Ay bits l=some 16:=by
 have hh:=UY bits;have key:∀(j i q:Nat),i+j=l.length->j<q->Ba l (hB bits) q (i:Int)=some 0\/Ba l (hB bits) q (i:Int)=some 16:=by
  intro j
  induction j with
  |zero=>
   intro i q hi hq;obtain⟨q,rfl⟩:∃q',q=q'+1:=⟨q-1,by omega⟩;rw[Ba,Dd,Aau (by rw[Ae,Ac];simp;omega)];exact .inl rfl
  |succ j ih=>
   intro i q hi hq;obtain⟨q,rfl⟩:∃q',q=q'+1:=⟨q-1,by omega⟩;have ih:=ih (i+1) q (by omega) (by omega);have hi1:Ad (i:Int) 1=((i+1:Nat):Int):=by rw[Ah (by omega) (by omega)];omega
   rw[Ba,Dd,Abm (by rw[Ae,Ac];simp;omega),Bn (by omega),Aa,Aa,hi1];split
   ·exact .inr rfl
   ·split
    ·exact .inr rfl
    ·exact ih
 have hk:=key l.length 0 Ax (by omega) (by have:=As;omega);rw[Ay,Ea,cP h,Aa,Aau (by rw[Ar];simp;omega),Aau (by rw[Aq,Ac];simp;omega)];exact hk
theorem xV{bits:Int}(h:¬Bm bits):Nk bits=some 0/\Ro bits=some (0,0,2):=by
 unfold Bm at h;constructor
 ·rw[Nk,Aau (by rw[Ar,Aur];omega),Aau (by rw[Ar,Aur];omega),Aau (by rw[Ar,Aur];omega)]
 ·have e:(geq bits 24)=false:=by rw[Ar,beq_eq_false_iff_ne];omega
  rw[Ro,ZE,Aau (by rw[Ar,Aur];omega),Aau (by rw[Ar,Aur];omega),e,aO,pU,Aau (by decide)]
theorem Aah{r:Nat}(h:r<=1048576):∀(j n q:Nat) (acc:List Int),n<=4000->n<=j->j<q->acc.length+n<=10000->
  Oc (Ak r:Int) q (n:Int) acc=some (if 1000<(acc++(if n=0 then []else Al (Ak r) n)).length then([],4)else(acc++(if n=0 then []else Al (Ak r) n),0))
 |j,n,0,acc,_,_,h,_=>absurd h (Bez _)
 |j,n,q+1,acc,hn,hj,hq,ha=>by
  have hp:=Ej r;by_cases h0:n=0
  ·subst h0;rw[Abm rfl,Arp,Oc,DF,Aau (by rw[Aq];simp),WI,WN,Aq,Ac];by_cases hk:1000<acc.length
   ·rw[Abm hk,Abm (by simp;omega)]
   ·rw[Aau hk,Aau (by simp;omega)]
  ·obtain⟨j,rfl⟩:∃j',j=j'+1:=⟨j-1,by omega⟩;rw[Oc,DF,Abm (by rw[Aq];simp;omega),Bi (by simp;omega),Aa,OC];by_cases hs:n<=Ak r
   ·rw[show min (n:Int) (Ak r:Int)=(n:Int) by omega,Bw (by omega) (by omega),Int.sub_self];have ih:=Aah h j 0 q (acc++[(n:Int)]) (by omega) (by omega) (by omega) (by simp;omega);rw[Abm rfl,Arp]at ih;rw[Aau h0,tV hs (by omega)];exact ih
   ·rw[show min (n:Int) (Ak r:Int)=(Ak r:Int) by omega,Bw (by omega) (by omega),show(n:Int)-(Ak r:Int)=((n-Ak r:Nat):Int) by omega];have e:acc++Al (Ak r) n=(acc++[(Ak r:Int)])++Al (Ak r) (n-Ak r):=by rw[Acu hp (show Ak r<n by omega)];simp
    have ih:=Aah h j (n-Ak r) q (acc++[(Ak r:Int)]) (by omega) (by omega) (by omega) (by simp;omega);rw[Aau (show ¬n-Ak r=0 by omega),<-e]at ih;rw[Aau h0];exact ih
theorem Aty(C W R:Int)(x:List Int32)(hlen:x.length<4611686018427387904):(Es C W R x=some 8/\Eg C W R x=some 8)\/
  (∃c w r n:Nat,C=(c:Int)/\W=(w:Int)/\R=(r:Int)/\ClipOk c w r n x/\Es C W R x=some 0/\Eg C W R x=some 0):=by
 have Air:∀e:Int,e≠0->De C W x=some e->Es C W R x=some 8:=by
  intro e he h;rw[Es,Ml,Aa];simp only;rw[h,Aa,Abm (by rw[Aj];simpa using he)]
 by_cases hC:C<1
 ·refine .inl ⟨Air 2 (by decide) ?_,?_⟩
  ·rw[De,Et,Abm (by simp[Ae,Aq];omega),Aa,Abm (by decide)]
  ·rw[Eg,Abm (by rw[Ae];simpa using hC)]
 obtain⟨c,rfl⟩:=Ais (show 0<=C by omega);have hc1:1<=c:=by omega
 have hq:Br (Ac x) (c:Int)=((x.length/c:Nat):Int):=by rw[Ac,JA (by omega)]
 have hr0:Gx (Ac x) (c:Int)=((x.length %c:Nat):Int):=by rw[Ac,OG]
 have Baw:(∀m:Nat,x.length=m*c->PC (c:Int) W R x (m:Int)=some 8)->Eg (c:Int) W R x=some 8:=by
  intro h;rw[Eg,Aau (by rw[Ae];simpa using hC),Bk (by rw[Aj];simp;omega),Aa,hr0];by_cases hm:x.length %c=0
  ·have hx:x.length=x.length/c*c:=by have:=Bnr x.length c;rw[hm,Ark]at this;omega
   rw[hm,Aau (by decide),Aa,hq,h _ hx,Aa,Abm (by decide)]
  ·rw[Abm (by rw[Aj];simp;omega)]
 by_cases h6:6<c
 ·refine .inl ⟨Air 2 (by decide) ?_,Baw λm hm=>?_⟩
  ·rw[De,Et,Abm (by simp[Ae,Aq];omega),Aa,Abm (by decide)]
  ·rw[PC,PT,Aa];simp only;have:Gf (c:Int) W=some 2:=by
    rw[Gf];by_cases hb:Bm W
    ·rw[Aik hb,Aa];simp only;rw[Abm (by simp[Aj,Ae,Aq];omega)]
    ·rw[(xV hb).2,Aa];simp only;rw[Abm (by simp[Aj])]
   rw[this,Aa,Abm (by simp[Aj])]
 by_cases hb:Bm W
 rotate_left
 ·refine .inl ⟨Air 2 (by decide) ?_,Baw λm hm=>?_⟩
  ·rw[De,Et,Aau (by simp[Ae,Aq];omega),(xV hb).1,Aa,Abm (by decide),Aa,Abm (by decide)]
  ·rw[PC,PT,Aa];simp only;have:Gf (c:Int) W=some 2:=by
    rw[Gf,(xV hb).2,Aa];simp only;rw[Abm (by simp[Aj])]
   rw[this,Aa,Abm (by simp[Aj])]
 have hhB:=UY W;have e20:Et (c:Int) W=some 0:=by
  rw[Et,Aau (by simp[Ae,Aq];omega),cP hb,Aa,Aau (by rw[Ar];simp;omega)]
 have hq4:=Al9 hc1 (show c<=6 by omega);have ecf:=Ar6 hb hc1 (show c<=6 by omega);have Aw1:∀m:Nat,PC (c:Int) W R x (m:Int)=if m<1\/4000/c<m then some 8 else Option.bind (Jv R (m:Int)) λy=>if(Bc y.2 0)=true then some 8 else some 0:=by
  intro m;rw[PC,PT,Aa];simp only;rw[ecf,Aa];by_cases hm:m<1
  ·rw[Abm (by simp[Aj,Ae];omega),Abm (.inl hm)]
  ·rw[Aau (by simp[Aj,Ae];omega),Bk (by rw[Aj];simp;omega),Aa,hq4];by_cases hm2:4000/c<m
   ·rw[Abm (by rw[Aq,Acm,gt_iff_lt,Int.ofNat_lt];exact hm2),Abm (.inr hm2)]
   ·rw[Aau (by rw[Aq,Acm,gt_iff_lt,Int.ofNat_lt];exact hm2),Aau (by omega)]
 by_cases hx4:4000<x.length
 ·refine .inl ⟨Air 4 (by decide) ?_,Baw λm hm=>?_⟩
  ·have:Ay W x=some 4:=by
    rw[Ay,Ea,cP hb,Aa,Aau (by rw[Ar];simp;omega),Abm (by rw[Aq,Ac];simp;omega)]
   rw[De,e20,Aa,Aau (by decide),this,Aa,Abm (by decide),Aa]
  ·rw[Aw1,Abm];refine .inr ?_;rw[Nat.div_lt_iff_lt_mul (by omega)];omega
 have hx4:x.length<=4000:=by omega
 have hsame:=aX hb x hx4;rcases Bm2 hb hx4 with h18|h18
 rotate_left
 ·refine .inl ⟨Air 16 (by decide) ?_,?_⟩
  ·rw[De,e20,Aa,Aau (by decide),h18,Aa,Abm (by decide),Aa]
  ·rw[Eg,Aau (by rw[Ae];simpa using hC),Bk (by rw[Aj];simp;omega),Aa,hr0];by_cases hm:x.length %c=0
   ·rw[hm,Aau (by decide),Aa,hq,Aw1];split
    ·rw[Aa,Abm (by decide)]
    ·rename_i hh;by_cases hR:1<=R/\R<=1048576
     ·obtain⟨r,rfl⟩:=Ais (show 0<=R by omega);have hd:=Atr x.length c;rw[jW (by omega) (by omega) (by omega) (by omega),Aa];split
      ·rw[Abm (by decide),Aa,Abm (by decide)]
      ·rw[Aau (by simp[Aj]),Aa,Aau (by decide),hsame,h18,Aa,Abm (by decide)]
     ·rw[Jv,Oy,Abm (by simp[Ae,Aq];omega),Aa];simp only;rw[Abm (by decide),Aa];simp only;rw[Abm (by decide),Aa,Abm (by decide)]
   ·rw[Abm (by rw[Aj];simp;omega)]
 by_cases hx1:x.length<1
 ·refine .inl ⟨Air 2 (by decide) ?_,Baw λm hm=>?_⟩
  ·rw[De,e20,Aa,Aau (by decide),h18,Aa,Aau (by decide),Abm (by rw[Ae,Ac];simp;omega)]
  ·have h0:m*c=0:=by omega
   have:m=0:=by rcases Nat.mul_eq_zero.1 h0 with h|h<;>omega
   rw[Aw1,Abm (.inl (by omega))]
 have hA:x.length %c=0->De (c:Int) W x=some 0:=by
  intro hm;rw[De,e20,Aa,Aau (by decide),h18,Aa,Aau (by decide),Aau (by rw[Ae,Ac];simp;omega),Bk (by rw[Aj];simp;omega),Aa,hr0,hm,Aau (by decide)]
 by_cases hm:x.length %c=0
 rotate_left
 ·refine .inl ⟨Air 2 (by decide) ?_,?_⟩
  ·rw[De,e20,Aa,Aau (by decide),h18,Aa,Aau (by decide),Aau (by rw[Ae,Ac];simp;omega),Bk (by rw[Aj];simp;omega),Aa,hr0,Abm (by rw[Aq];simp;omega)]
  ·rw[Eg,Aau (by rw[Ae];simpa using hC),Bk (by rw[Aj];simp;omega),Aa,hr0,Abm (by rw[Aj];simp;omega)]
 have hxn:x.length=x.length/c*c:=by have:=Bnr x.length c;rw[hm,Ark]at this;omega
 generalize hN:x.length/c=n at*
 have hn1:1<=n:=by
  by_cases h0:n=0
  ·rw[h0]at hxn;omega
  ·omega
 have hn4:n<=4000/c:=by rw[<-hN];exact Nat.div_le_div_right hx4
 have hn4':n<=4000:=Bph hn4 (Atr _ _);have e21:Hc (c:Int) W (n:Int)=some 0:=by
  rw[Hc,e20,Aa,Aau (by simp[Aj,Ae];omega),Bk (by rw[Aj];simp;omega),Aa,hq4,Aau (by rw[Aq,Acm,gt_iff_lt,Int.ofNat_lt];omega)]
 have Bek:∀z e:Int,Pp R (n:Int)=some (z,e)->Es (c:Int) W R x=some (if e=0 then 0 else 8):=by
  intro z e hz;rw[Es,Ml,Aa];simp only;rw[hA hm,Aa,Aau (by decide),Bk (by rw[Aj];simp;omega),Aa,hq,bX,Ml,Aa];simp only;rw[e21,Aa,Aau (by decide),hz,Aa,Aa,Ar];by_cases he:e=0
  ·subst he;rfl
  ·rw[Aau he,Abm (by simpa using he)]
 have Ak7:Eg (c:Int) W R x=Option.bind (Option.bind (Jv R (n:Int)) λy=>if(Bc y.2 0)=true then some 8 else some 0) λg=>if(Bc g 0)=true then some g else some 0:=by
  rw[Eg,Aau (by rw[Ae];simpa using hC),Bk (by rw[Aj];simp;omega),Aa,hr0,hm,Aau (by decide),Aa,hq,Aw1,Aau (by omega),hsame,h18];rfl
 by_cases hR:1<=R/\R<=1048576
 rotate_left
 ·refine .inl ⟨?_,?_⟩
  ·refine Bek 0 2 ?_;rw[Pp,OU,CG,Ym,Abm (by simp[Ae,Aq];omega),Aa];simp only;rw[Abm (by simp[Aj]),Aa];rfl
  ·rw[Ak7,Jv,Oy,Abm (by simp[Ae,Aq];omega),Aa];simp only;rw[Abm (by decide),Aa];simp only;rw[Abm (by decide),Aa,Abm (by decide)]
 obtain⟨r,rfl⟩:=Ais (show 0<=R by omega);have hl:=Aah (r:=r) (by omega) n n Ax [] hn4' (Arj _) (by have:=As;omega) (by simp;omega);rw[Aau (show ¬n=0 by omega),Aro,HE]at hl;have hcount:∃z:Int,Pp (r:Int) (n:Int)=some (z,if 1000<(n-1)/Ak r+1 then 4 else 0):=by
  rw[Pp,OU,CG,Bjo (by omega) (by omega),Aa];simp only;rw[Aau (by simp[Aj,Ae,Aq];omega),VU,hl,Aa];split<;>exact⟨_,rfl⟩
 obtain⟨z,hz⟩:=hcount;have h24:=Bek z _ hz;rw[jW (by omega) (by omega) hn1 hn4',Aa]at Ak7;by_cases hk:1000<(n-1)/Ak r+1
 ·rw[Abm hk]at h24 Ak7;exact .inl ⟨h24,Ak7⟩
 ·rw[Aau hk]at h24 Ak7;have hw:∃w:Nat,W=(w:Int):=by
   rcases hb with rfl|rfl|rfl
   ·exact⟨8,rfl⟩
   ·exact⟨16,rfl⟩
   ·exact⟨24,rfl⟩
  obtain⟨w,rfl⟩:=hw;exact .inr ⟨c,w,r,n,rfl,rfl,rfl,⟨⟨hc1,by omega⟩,hb,by omega,⟨hn1,hn4⟩,hxn,by omega,fX hb hx4 h18⟩,h24,Ak7⟩
theorem Ax1(C W R:Int){x:List Int32}(h:4000<x.length):Es C W R x=some 8:=by
 have key:∃e:Int,e≠0/\De C W x=some e:=by
  rw[De,Et];by_cases h1:((Cq C 1)||(Ed C 6))=true
  ·rw[Abm h1,Aa,Abm (by decide)];exact⟨2,by decide,rfl⟩
  ·rw[Aau h1];by_cases hb:Bm W
   ·have hh:=UY W;have h18:Ay W x=some 4:=by
     rw[Ay,Ea,cP hb,Aa,Aau (by rw[Ar];simp;omega),Abm (by rw[Aq,Ac];simp;omega)]
    rw[cP hb,Aa,Aau (by rw[Ar];simp;omega),Aa,Aau (by decide),h18,Aa,Abm (by decide),Aa];exact⟨4,by decide,rfl⟩
   ·rw[(xV hb).1,Aa,Abm (by decide),Aa,Abm (by decide)];exact⟨2,by decide,rfl⟩
 obtain⟨e,he,h1⟩:=key;rw[Es,Ml,Aa];simp only;rw[h1,Aa,Abm (by rw[Aj];simpa using he)]
theorem Apt(C W R:Int)(x:List Int32):(Es C W R x=some 8/\ (x.length<4611686018427387904->Eg C W R x=some 8))\/
  (∃c w r n:Nat,C=(c:Int)/\W=(w:Int)/\R=(r:Int)/\ClipOk c w r n x/\Es C W R x=some 0/\Eg C W R x=some 0):=by
 by_cases hx:x.length<4611686018427387904
 ·rcases Aty C W R x hx with⟨h1,h2⟩|h
  ·exact .inl ⟨h1,λ_=>h2⟩
  ·exact .inr h
 ·exact .inl ⟨Ax1 C W R (by omega),λh=>absurd h hx⟩
def Ant(f c w r n:Nat):List UInt8:=BW++Xf f 2++Xf c 2++Xf w 2++Xf r 4++Xf n 4
def Acz(f c w r n:Nat):List UInt8:=Ant f c w r n++Xf (Fx (Ant f c w r n)).toNat 4
theorem Ahj(f c w r n:Nat):(Ant f c w r n).length=18:=by simp only[Ant,BW,Abq,Ef];rfl
theorem Ag0(f c w r n:Nat):(Acz f c w r n).length=22:=by rw[Acz,Abq,Ahj,Ef]
theorem Ahy(b f g h k:Int)(m v w q:Nat)(a:List UInt8)(hm:m<5)(hv:Ap ([b,f,g,h,k]:List Int) (m:Int)=some (v:Int))(hw:Ap ([2,2,2,4,4]:List Int) (m:Int)=some (w:Int))(h1:1<=w)(h8:w<=8)(hlt:v<256^w)(h64:v<18446744073709551616)(ha:a.length<=100):
  Nx b f g h k (q+1) (m:Int) a=Nx b f g h k q ((m+1:Nat):Int) (a++Xf v w):=by
 have e64:(UInt64.ofNat v).toNat=v:=bZ (by omega);have hi1:Ad (m:Int) 1=((m+1:Nat):Int):=by rw[Ah (by omega) (by omega)];omega
 rw[Nx,DY,Abm (by rw[Ae];simp;omega),hv,Aa,hw,Aa,Xi,bH _ w h1 h8 (by rw[e64];exact hlt),Aa];simp only;rw[Bi (by rw[Ef];omega),Aa,hi1,e64]
theorem xZ{f c w r n:Nat}(h1:Gu f c w r n=true)(h2:BM c r n=true):LW (f:Int) (c:Int) (w:Int) (r:Int) (n:Int)=some (Acz f c w r n,0):=by
 have hs:(f=1\/f=2)/\ (1<=c/\c<=6)/\ (w=8\/w=16\/w=24)/\ (1<=r/\r<=1048576)/\1<=n:=by simpa only[Gu,Acm]using h1
 have hn:n<=4000:=by
  simp only[BM,Acm]at h2;have:=Atr 4000 c;omega
 have hck:On (f:Int) (c:Int) (w:Int) (r:Int) (n:Int)=some 0:=by
  rw[On,cX,Aa,h1,Aau (by decide),sJ h1,Aa,h2,Aau (by decide)]
 have hF:Ax=(Ax-6)+1+1+1+1+1+1:=by have:=As;omega
 have hlt:=(Fx (Ant f c w r n)).toNat_lt;have e64:(UInt64.ofNat (Fx (Ant f c w r n)).toNat).toNat=(Fx (Ant f c w r n)).toNat:=bZ (by omega);have hfin:ED (Ant f c w r n)=some (Acz f c w r n,0):=by
  rw[ED,mC,Aad _ (by rw[Ahj];omega),Aa];simp only;rw[Dr,show(4:Int)=((4:Nat):Int)from rfl,bH _ 4 (by omega) (by omega) (by rw[e64];omega),Aa];simp only;rw[Bi (by rw[Ahj,Ef];omega),Aa,e64];rfl
 rw[LW,TT,hck,Aa,Aau (by decide),TY,hF];have s0:=Ahy (f:Int) (c:Int) (w:Int) (r:Int) (n:Int) 0 f 2 ((Ax-6)+1+1+1+1+1) BW (by omega) rfl rfl (by omega) (by omega) (by omega) (by omega) (by decide);have s1:=Ahy (f:Int) (c:Int) (w:Int) (r:Int) (n:Int) 1 c 2 ((Ax-6)+1+1+1+1) (BW++Xf f 2) (by omega) rfl rfl (by omega) (by omega) (by omega) (by omega) (by simp[Ef,BW]);have s2:=Ahy (f:Int) (c:Int) (w:Int) (r:Int) (n:Int) 2 w 2 ((Ax-6)+1+1+1) (BW++Xf f 2++Xf c 2) (by omega) rfl rfl (by omega) (by omega) (by omega) (by omega) (by simp[Ef,BW]);have s3:=Ahy (f:Int) (c:Int) (w:Int) (r:Int) (n:Int) 3 r 4 ((Ax-6)+1+1) (BW++Xf f 2++Xf c 2++Xf w 2) (by omega) rfl rfl (by omega) (by omega) (by omega) (by omega) (by simp[Ef,BW]);have s4:=Ahy (f:Int) (c:Int) (w:Int) (r:Int) (n:Int) 4 n 4 ((Ax-6)+1) (BW++Xf f 2++Xf c 2++Xf w 2++Xf r 4) (by omega) rfl rfl (by omega) (by omega) (by omega) (by omega) (by simp[Ef,BW]);refine s0.trans (s1.trans (s2.trans (s3.trans (s4.trans ?_))));rw[Nx,DY,Aau (by decide)];exact hfin
def Ac3(l:List Int):List UInt8:=l.flatMap λx=>Xf x.toNat 4
def Atw(l:List Int):List UInt8:=Ac3 l++Xf (Fx (Ac3 l)).toNat 4
theorem xQ(l:List Int):(Ac3 l).length=4*l.length:=by
 induction l with
 |nil=>rfl
 |cons x l ih=>rw[Ac3,List.flatMap_cons,Abq,Ef,show(l.flatMap λx=>Xf x.toNat 4)=Ac3 l from rfl,ih,Apu];omega
theorem Aqy(l:List Int):(Atw l).length=4*l.length+4:=by rw[Atw,Abq,xQ,Ef]
theorem Ayl(l:List Int)(x:Int):Ac3 (l++[x])=Ac3 l++Xf x.toNat 4:=by simp[Ac3]
theorem Acd(l:List Int)(hl:l.length<=1000)(h5:∀x∈l,5<=x/\x<=100000):∀(j i q:Nat),i+j=l.length->j<q->Uu l q (i:Int) (Ac3 (l.take i))=some (Atw l,0)
 |j,i,0,_,h=>absurd h (Bez _)
 |0,i,q+1,hi,_=>by
  have hlt:=(Fx (Ac3 l)).toNat_lt;have e64:(UInt64.ofNat (Fx (Ac3 l)).toNat).toNat=(Fx (Ac3 l)).toNat:=bZ (by omega);rw[Uu,LM,Aau (by rw[Ae,Ac];simp;omega),Ati (by omega),VF,UK,Aad _ (by rw[xQ];omega),Aa];simp only;rw[Dr,show(4:Int)=((4:Nat):Int)from rfl,bH _ 4 (by omega) (by omega) (by rw[e64];omega),Aa];simp only;rw[Bi (by rw[xQ,Ef];omega),Aa,e64];rfl
 |j+1,i,q+1,hi,hq=>by
  have ih:=Acd l hl h5 j (i+1) q (by omega) (by omega);obtain⟨x5,x6⟩:=h5 l[i] (Ap3 _);obtain⟨v,hv⟩:=Ais (show 0<=l[i] by omega);have e64:(UInt64.ofNat v).toNat=v:=bZ (by omega);have hi1:Ad (i:Int) 1=((i+1:Nat):Int):=by rw[Ah (by omega) (by omega)];omega
  rw[Uu,LM,Abm (by rw[Ae,Ac];simp;omega),Bn (by omega),Aa,hv,Xi,show(4:Int)=((4:Nat):Int)from rfl,bH _ 4 (by omega) (by omega) (by rw[e64];omega),Aa];simp only;rw[Bi (by rw[xQ,Ef,Afz];omega),Aa,TW,lZ,hi1,e64];rw[Ma (by omega),Ayl,hv,Afx]at ih;exact ih
theorem Acb(l:List Int):GZ l=some (if Zg l=true then(Atw l,0)else([],8)):=by
 rw[GZ,ZN,aN,Aa];by_cases h:Zg l=true
 ·rw[Abm h,Abm h,Aau (by decide)];simp only[Zg,Adr,Acm]at h;obtain⟨⟨h1,h2⟩,h3⟩:=h;have h4:=(KS l 100000 (by omega)).1 h3;have h6:=Aes h4.1;have hl:=Acd l h2 (λx hx=>⟨h4.1 x hx,by have:=h6 x hx;omega⟩) l.length 0 Ax (by omega) (by have:=As;omega);exact hl
 ·rw[Aau h,Aau h,Abm (by decide)]
theorem Ajt(l:List LB)(hl:l.length<=100000)(hf:l.flatten.length<=1000000):∀(j i q:Nat),i+j=l.length->j<q->Ut l q (i:Int) (l.take i).flatten=some l.flatten
 |j,i,0,_,h=>absurd h (Bez _)
 |0,i,q+1,hi,_=>by
  rw[Ut,JT,Aau (by rw[Ae,Ac];simp;omega),Ati (by omega)];rfl
 |j+1,i,q+1,hi,hq=>by
  have ih:=Ajt l hl hf j (i+1) q (by omega) (by omega);have hi1:Ad (i:Int) 1=((i+1:Nat):Int):=by rw[Ah (by omega) (by omega)];omega
  have hsn:(l.take (i+1)).flatten=(l.take i).flatten++l[i]:=by rw[Ma (by omega),Bn7];simp
  have hsp:l.flatten=(l.take (i+1)).flatten++(l.drop (i+1)).flatten:=by rw[<-Bn7,Bjy]
  have hle:((l.take i).flatten).length+(l[i]).length<=1000000:=by
   rw[hsp,Abq,hsn,Abq]at hf;omega
  rw[Ut,JT,Abm (by rw[Ae,Ac];simp;omega),Bn (by omega),Aa,Bi (by omega),Aa,hi1,<-hsn];exact ih
theorem join_eq(l:List LB)(hl:l.length<=100000)(hf:l.flatten.length<=1000000):pL l=some l.flatten:=by
 have h:=Ajt l hl hf l.length 0 Ax (by omega) (by have:=As;omega);exact h
def Hq(c:Nat):List Int32->List Int->List (List Int32)
 |_,[]=>[]
 |x,m::l=>x.take (m.toNat*c)::Hq c (x.drop (m.toNat*c)) l
theorem YI(c:Nat):∀(l:List Int) (x:List Int32),(Hq c x l).length=l.length
 |[],x=>rfl
 |m::l,x=>by rw[Hq,Apu,Apu,YI c l]
theorem Abn(c:Nat):∀(l:List Int) (x:List Int32),(∀m∈l,0<=m)->x.length=l.sum.toNat*c-> (Hq c x l).flatten=x
 |[],x,_,h=>by
  have:x=[]:=Bcs (by simpa using h);rw[this];rfl
 |m::l,x,h0,h=>by
  have hm:=h0 m Awp;have hl:0<=l.sum:=by
   have:∀l:List Int,(∀m∈l,0<=m)->0<=l.sum:=by
    intro l
    induction l with
    |nil=>intro _;simp
    |cons a l ih=>intro h;have:=ih (λm hm=>h m (Anh _ hm));have:=h a Awp;rw[Azy];omega
   exact this l λm hm=>h0 m (Anh _ hm)
  rw[Azy,show(m+l.sum).toNat=m.toNat+l.sum.toNat by omega,Al6]at h;have ih:=Abn c l (x.drop (m.toNat*c)) (λm hm=>h0 m (Anh _ hm)) (by rw[Agn];omega);rw[Hq,Bn6,ih,Bjy]
theorem tX(c:Nat)(x:List Int32)(hx:x.length<=4000):∀(l:List Int) (a:Nat),(∀m∈l,1<=m)->a+l.sum.toNat*c=x.length->Th (c:Int) x l (a:Int)=some (Hq c (x.drop a) l)
 |[],a,_,_=>rfl
 |m::l,a,h1,ha=>by
  have hm:=h1 m Awp;have hl:=h1;have hs:0<=l.sum:=by
   have:∀l:List Int,(∀m∈l,1<=m)->0<=l.sum:=by
    intro l
    induction l with
    |nil=>intro _;simp
    |cons a l ih=>intro h;have:=ih (λm hm=>h m (Anh _ hm));have:=h a Awp;rw[Azy];omega
   exact this l λm hm=>h1 m (Anh _ hm)
  obtain⟨k,rfl⟩:=Ais (show 0<=m by omega);rw[Azy,show((k:Int)+l.sum).toNat=k+l.sum.toNat by omega,Al6]at ha;have hkc:Bf (k:Int) (c:Int)=((k*c:Nat):Int):=by rw[Ez (by rw[<-Aos];omega) (by rw[<-Aos];omega),<-Aos]
  have hadd:Ad (a:Int) ((k*c:Nat):Int)=((a+k*c:Nat):Int):=by rw[Ah (by omega) (by omega)];omega
  have ih:=tX c x hx l (a+k*c) (λm hm=>h1 m (Anh _ hm)) (by omega);rw[Th,hkc,hadd,Wd (by omega) (by omega) (by omega),Aa,ih,Aa,Hq,Afx,Afx,Afx,Bok,List.drop_take,Bkp]
theorem Awv(w c:Nat)(hb:Bm (w:Int))(h1:1<=c)(h6:c<=6)(t:List Int32)(ht:t.length=16):∀(xs:List (List Int32)) (o:List LB),o.length+xs.length<=10000-> (∀y∈xs,1<=y.length/\y.length<=4000/\y.length %c=0/\inR (w:Int) y)->
  Sk (c:Int) (w:Int) t xs o=some (o++xs.map (EV (w:Int) c t),0)
 |[],o,_,_=>by rw[Sk];simp
 |x::xs,o,ho,h=>by
  obtain⟨a1,a2,a3,a4⟩:=h x Awp;rw[Apu]at ho;have ih:=Awv w c hb h1 h6 t ht xs (o++[EV (w:Int) c t x]) (by simp;omega) (λy hy=>h y (Anh _ hy));rw[Sk,lP hb ht h1 h6 a1 a2 a3 a4,Aa,Aau (by simp[Aj]),Bi (by simp;omega),Aa,ih,Bkk];simp
theorem jE(c:Nat)(h1:1<=c):∀(l:List Int) (x:List Int32),(∀m∈l,1<=m)->x.length=l.sum.toNat*c->∀y∈Hq c x l,1<=y.length/\y.length<=x.length/\y.length %c=0/\∀v∈y,v∈x
 |[],x,_,_=>λy hy=>by simp[Hq]at hy
 |m::l,x,hm,hx=>by
  have hm1:=hm m Awp;have hl:0<=l.sum:=by
   have:∀l:List Int,(∀m∈l,1<=m)->0<=l.sum:=by
    intro l
    induction l with
    |nil=>intro _;simp
    |cons a l ih=>intro h;have:=ih (λm hm=>h m (Anh _ hm));have:=h a Awp;rw[Azy];omega
   exact this l λm hm'=>hm m (Anh _ hm')
  rw[Azy,show(m+l.sum).toNat=m.toNat+l.sum.toNat by omega,Al6]at hx;have hpos:1<=m.toNat*c:=Bpm (by omega) h1;intro y hy;rw[Hq,List.mem_cons]at hy;rcases hy with rfl|hy
  ·have hlen:(x.take (m.toNat*c)).length=m.toNat*c:=by rw[Afz];omega
   rw[hlen];exact⟨hpos,by omega,Bjh _ _,λv hv=>Bop hv⟩
  ·obtain⟨a1,a2,a3,a4⟩:=jE c h1 l (x.drop (m.toNat*c)) (λm hm'=>hm m (Anh _ hm')) (by rw[Agn];omega) y hy;rw[Agn]at a2;exact⟨a1,by omega,a3,λv hv=>Blp (a4 v hv)⟩
theorem Ahr(bits:Int)(ch:Nat)(t x:List Int32)(h0:1<=x.length)(h4:x.length<=4000):5<= (EV bits ch t x).length/\ (EV bits ch t x).length<=15*x.length:=by
 have h5:=Ao4 bits ch t x h0 h4;have h:=gU ch (Tj bits ch t x) x.length;refine⟨h5.1,?_⟩;rw[EV,Abq,Ef,Anm,BH];omega
def Ku(fs:List LB):List Int:=fs.map λf=>(f.length:Int)
theorem EY(fs:List LB):(Ku fs).length=fs.length:=by rw[Ku,List.length_map]
theorem Ad7:∀fs:List LB,(Ku fs).sum=(fs.flatten.length:Int)
 |[]=>rfl
 |f::fs=>by rw[Ku,Bkk,Azy,Bn6,Abq,show(fs.map λf=>(f.length:Int))=Ku fs from rfl,Ad7 fs];omega
theorem Bav(bits:Int)(ch:Nat)(t:List Int32):∀ys:List (List Int32),(∀y∈ys,1<=y.length/\y.length<=4000)-> ((ys.map (EV bits ch t)).flatten).length<=15*ys.flatten.length
 |[],_=>by simp
 |y::ys,h=>by
  have ih:=Bav bits ch t ys λy hy=>h y (Anh _ hy);obtain⟨h1,h4⟩:=h y Awp;have:=(Ahr bits ch t y h1 h4).2;rw[Bkk,Bn6,Bn6,Abq,Abq];omega
def AT(p:LB):Nat:=if p=[]then 1 else 2
def nN(p:LB):LB:=if p=[]then []else Xf (Ws p).toNat 8
theorem An9(p:LB):AT p=1\/AT p=2:=by unfold AT;split<;>simp
theorem Aqx(p:LB):(nN p).length=if AT p=2 then 8 else 0:=by
 unfold nN AT;by_cases h:p=[]
 ·rw[Abm h,Abm h];rfl
 ·rw[Aau h,Aau h,Ef];rfl
def tH(c r n:Nat)(x:List Int32):List (List Int32):=Hq c x (Al (Ak r) n)
def oD(c w r n:Nat)(x:List Int32)(p:LB):List LB:=(tH c r n x).map (EV (w:Int) c (Nd p))
def YC(c w r n:Nat)(x:List Int32)(p:LB):LB:=Acz (AT p) c w r n++(nN p++(Atw (Ku (oD c w r n x p))++(oD c w r n x p).flatten))
theorem HC{g n:Nat}(hg:1<=g)(h1:1<=n):∀m∈Al g n,1<=m:=by
 intro m hm;rw[Al,List.mem_append,List.mem_replicate,List.mem_singleton]at hm;have h:=Bit (n-1) g;rcases hm with⟨_,rfl⟩|rfl
 ·omega
 ·omega
section
variable {c w r n:Nat} {x:List Int32} (h:ClipOk c w r n x)
include h
theorem ClipOk.sum:(Al (Ak r) n).sum=(n:Int):=rG h.cnt.1
omit h in
theorem Aqw:(tH c r n x).length=(Al (Ak r) n).length:=YI _ _ _
theorem Ayt:(tH c r n x).flatten=x:=by
 refine Abn _ _ _ (λm hm=>?_) ?_
 ·have:=HC (Ej r) h.cnt.1 m hm;omega
 ·rw[h.sum,h.len,Afx]
theorem fP:∀y∈tH c r n x,1<=y.length/\y.length<=4000/\y.length %c=0/\inR (w:Int) y:=by
 intro y hy;obtain⟨a1,a2,a3,a4⟩:=jE c h.ch.1 _ _ (HC (Ej r) h.cnt.1) (by rw[h.sum,h.len,Afx]) y hy;have:=h.le;exact⟨a1,by omega,a3,λv hv=>h.rng v (a4 v hv)⟩
omit h in
theorem Au2(p:LB):(oD c w r n x p).length=(Al (Ak r) n).length:=by rw[oD,List.length_map];exact YI _ _ _
theorem Aws(p:LB):1<= (oD c w r n x p).length/\ (oD c w r n x p).length<=1000:=by
 rw[Au2,HE];exact⟨Nat.le_add_left _ _,h.fr⟩
theorem Ari(p:LB):((oD c w r n x p).flatten).length<=15*x.length:=by
 have:=Bav (w:Int) c (Nd p) (tH c r n x) λy hy=>⟨(fP h y hy).1,(fP h y hy).2.1⟩;rw[Ayt h]at this;exact this
theorem Baf(p:LB):∀f∈oD c w r n x p,5<=f.length:=by
 intro f hf;rw[oD,List.mem_map]at hf;obtain⟨y,hy,rfl⟩:=hf;exact(Ahr _ _ _ _ (fP h y hy).1 (fP h y hy).2.1).1
theorem Aor(p:LB):Zg (Ku (oD c w r n x p))=true:=by
 have h1:=Aws h p;have h2:=Ari h p;have h3:=h.le;simp only[Zg,Adr,Acm];rw[KS _ _ (by omega),EY,Ad7];refine⟨by omega,λz hz=>?_,by omega⟩;rw[Ku,List.mem_map]at hz;obtain⟨f,hf,rfl⟩:=hz;have:=Baf h p f hf;omega
omit h in
theorem Ajp(p:LB):(YC c w r n x p).length=22+(if AT p=2 then 8 else 0)+(4*(oD c w r n x p).length+4)+(oD c w r n x p).flatten.length:=by
 rw[YC,Abq,Abq,Abq,Ag0,Aqx,Aqy,EY];omega
theorem Bdg(p:LB):(YC c w r n x p).length<=34+4*(oD c w r n x p).length+15*x.length:=by
 have h1:=Ajp (c:=c) (w:=w) (r:=r) (n:=n) (x:=x) p;have h2:=Ari h p;split at h1<;>omega
theorem Akl(p:LB):(YC c w r n x p).length<=64034:=by
 have:=Bdg h p;have:=Aws h p;have:=h.le;omega
theorem Bd6(hk:Eg (c:Int) (w:Int) (r:Int) x=some 0)(p:LB)(hp:p.length<=64):TR (c:Int) (w:Int) (r:Int) x p=some ((AT p:Int),(c:Int),(w:Int),(r:Int),(n:Int),0):=by
 have hc:=h.ch;have hq:Br (Ac x) (c:Int)=(n:Int):=by rw[Ac,JA (by have:=h.le;omega),h.len,Bnv _ (by omega)]
 rw[TR,Zu,hk,Aa,Aau (by decide),Aau (by rw[Aq,Ac];simp;omega),Bk (by rw[Aj];simp;omega),Aa,bJ,qT,hq,AT];by_cases h0:p=[]
 ·rw[Aau (by simp[h0]),Abm h0];rfl
 ·rw[Abm (by simpa using h0),Aau h0];rfl
theorem Ac5(hk:Eg (c:Int) (w:Int) (r:Int) x=some 0)(p:LB)(hp:p.length<=64):RN (c:Int) (w:Int) (r:Int) x p=some (oD c w r n x p,0):=by
 have hc:=h.ch;have hle:=h.le;have hr:=h.rate;have hq:Br (Ac x) (c:Int)=(n:Int):=by rw[Ac,JA (by omega),h.len,Bnv _ (by omega)]
 have hcut:ZH (c:Int) (r:Int) x=some (tH c r n x):=by
  have hp:=tX c x (by omega) (Al (Ak r) n) 0 (HC (Ej r) h.cnt.1) (by rw[h.sum,h.len,Afx];omega);rw[ZH,Bk (by rw[Aj];simp;omega),Aa,hq,An3 hr.1 hr.2 h.cnt.1 (by omega) h.fr,Aa,Bk (by have:=h.fr;simp only[Ac,HE,Acm];omega),Aa];exact hp
 have hfs:=Awv w c h.bits hc.1 hc.2 (Nd p) (Mf p) (tH c r n x) [] (by rw[Aqw,HE];exact Bph (Nat.add_le_add_left h.fr _) (by simp)) (fP h);rw[RN,hk,Aa,Aau (by decide),XU p hp,Aa];simp only;rw[Aau (by decide),hcut,Aa,hfs];rfl
omit h in
theorem Ad8(a:List LB)(b f:LB)(v:LB)(ha:a.length<=1000)(hfin:Wz (Ku a) a b f=some (v,0)):∀(j i q:Nat),i+j=a.length->j<q->Uc a b f q (i:Int) (Ku (a.take i)++List.replicate j 0)=some (v,0)
 |j,i,0,_,h=>absurd h (Bez _)
 |0,i,q+1,hi,_=>by
  rw[Uc,LA,Aau (by rw[Ae,Ac];simp;omega),Ati (by omega),List.replicate_zero,Arp];exact hfin
 |j+1,i,q+1,hi,hq=>by
  have ih:=Ad8 a b f v ha hfin j (i+1) q (by omega) (by omega);have hi1:Ad (i:Int) 1=((i+1:Nat):Int):=by rw[Ah (by omega) (by omega)];omega
  have hll:(Ku (a.take i)).length=i:=by rw[EY,Afz];omega
  have hset:(Ku (a.take i)++List.replicate (j+1) (0:Int)).set i (Ac a[i])=Ku (a.take (i+1))++List.replicate j 0:=by
   rw[Bis,kI hll,Ma (by omega),Ku,Ku,Bnq,Amz];rfl
  rw[Uc,LA,Abm (by rw[Ae,Ac];simp;omega),Bn (by omega),Aa,Aa,dR,Aa,Bn (by rw[Abq,hll,At7];omega),Aa,Ui _ (by rw[Abq,hll,At7];omega),Aa,hset,UA,mO,hi1];exact ih
theorem Ank(hk:Eg (c:Int) (w:Int) (r:Int) x=some 0)(p:LB)(hp:p.length<=64):GP (c:Int) (w:Int) (r:Int) x p=some (YC c w r n x p,0):=by
 have hn:=Aws h p;have hfin:Wz (Ku (oD c w r n x p)) (oD c w r n x p) (Acz (AT p) c w r n) (nN p)=some (YC c w r n x p,0):=by
  have hl:=Akl h p;rw[Wz,UC,Acb,Abm (Aor h p),Aa];simp only;rw[VD,mM,Aau (by decide),Bi (by simp;omega),Aa,join_eq _ (by simp;omega) (by
   have:(([Acz (AT p) c w r n,nN p,Atw (Ku (oD c w r n x p))]++oD c w r n x p).flatten)=YC c w r n x p:=by simp[YC]
   rw[this];omega),Aa]
  simp[YC]
 have hlp:=Ad8 (oD c w r n x p) (Acz (AT p) c w r n) (nN p) _ (by omega) hfin (oD c w r n x p).length 0 Ax (by omega) (by have:=As;omega);have h8:MO (oD c w r n x p) (Acz (AT p) c w r n) (nN p)=some (YC c w r n x p,0):=by
  rw[MO,bN,rA (by unfold Ac;omega) (by unfold Ac;omega),Aa,Bk (by rw[Ar];simp),Aa];exact hlp
 rw[GP,KI,Bd6 h hk p hp,Aa];simp only;rw[Aau (by decide),Ac5 h hk p hp,Aa];simp only;rw[Aau (by decide),xZ (h.shape _ (An9 p)) h.fit,Aa];simp only;rw[Aau (by decide)];by_cases h0:p=[]
 ·have e1:AT p=1:=by rw[AT,Abm h0]
  have e2:nN p=[]:=by rw[nN,Abm h0]
  rw[e2]at h8;rw[Aau (by rw[e1];decide)];exact h8
 ·have e1:AT p=2:=by rw[AT,Aau h0]
  have e2:nN p=Xf (Ws p).toNat 8:=by rw[nN,Aau h0]
  rw[e2]at h8;rw[Abm (by rw[e1];decide),iR p hp,Aa];exact h8
end
theorem qQ:∀{l:List Int},(∀x∈l,0<=x)->∀k,0<= (l.take k).sum
 |[],_,k=>by simp
 |x::l,h,0=>by simp
 |x::l,h,k+1=>by
  have:=qQ (l:=l) (λy hy=>h y (Anh _ hy)) k;have:=h x Awp;rw[List.take_succ_cons,Azy];omega
theorem wG(c:Nat)(h1:1<=c):∀(l:List Int) (x:List Int32),(∀m∈l,1<=m)->x.length=l.sum.toNat*c->∀(k:Nat) (hk:k<l.length) (hk':k<(Hq c x l).length),(Hq c x l)[k].length=l[k].toNat*c
 |[],x,_,_=>λk hk=>absurd hk (Bez _)
 |m::l,x,hm,hx=>by
  have hm1:=hm m Awp;have hl:0<=l.sum:=by
   have:=qQ (l:=l) (λy hy=>by have:=hm y (Anh _ hy);omega) l.length;rw[Azx]at this;exact this
  rw[Azy,show(m+l.sum).toNat=m.toNat+l.sum.toNat by omega,Al6]at hx;intro k hk hk';cases k with
  |zero=>simp only[Hq,List.getElem_cons_zero,Afz];omega
  |succ k=>
   simp only[Hq,List.getElem_cons_succ];exact wG c h1 l (x.drop (m.toNat*c)) (λm hm'=>hm m (Anh _ hm')) (by rw[Agn];omega) k (by simpa using hk) _
structure FileOf (c w r n:Nat) (x:List Int32) (p:LB) (T:Nat) (fs:List LB) (z b:LB):Prop where
 clip:ClipOk c w r n x
 pass:p.length<=64
 front:Bs b=((T:Int),0)
 le:b.length<=100000
 lens:Ku fs=Ku (oD c w r n x p)
 form:b.drop T=Acz (AT p) c w r n++(nN p++(Atw (Ku (oD c w r n x p))++(fs.flatten++z)))
section
variable {c w r n:Nat} {x:List Int32} {p:LB} {T:Nat} {fs:List LB} {z b:LB} (h:FileOf c w r n x p T fs z b)
include h
theorem FileOf.cnt:fs.length=(oD c w r n x p).length:=by
 have:=congrArg List.length h.lens;rw[EY,EY]at this;exact this
theorem FileOf.mom{k:Nat}(hk:k<fs.length):∃(m:Nat) (hk':k<(tH c r n x).length),Ap (Al (Ak r) n) (k:Int)=some (m:Int)/\1<=m/\m<=4000/c/\ ((tH c r n x)[k]).length=m*c/\inR (w:Int) (tH c r n x)[k]/\ (oD c w r n x p)[k]'(by rw[<-h.cnt];exact hk)=EV (w:Int) c (Nd p) (tH c r n x)[k]:=by
 have hc:=h.clip;have hlen:fs.length=(Al (Ak r) n).length:=by rw[h.cnt];exact Au2 p
 have hkf:k<(Al (Ak r) n).length:=by omega
 have hk':k<(tH c r n x).length:=by rw[Aqw];exact hkf
 have hm1:=HC (Ej r) hc.cnt.1 _ (Ap3 hkf);obtain⟨m,hm⟩:=Ais (show 0<= (Al (Ak r) n)[k] by omega);have hg:=wG c hc.ch.1 _ x (HC (Ej r) hc.cnt.1) (by rw[hc.sum,hc.len,Afx]) k hkf hk';rw[hm,Afx]at hg;have hmem:=fP hc _ (Ap3 hk');have hx:=jE c hc.ch.1 _ x (HC (Ej r) hc.cnt.1) (by rw[hc.sum,hc.len,Afx]) _ (Ap3 hk');have hg':((tH c r n x)[k]).length=m*c:=hg;refine⟨m,hk',by rw[Bn hkf,hm],by omega,?_,hg',hmem.2.2.2,?_⟩
 ·have h1:=hx.2.1;have h2:m*c<=n*c:=by rw[<-hg',<-hc.len];exact h1
  have h3:m<=n:=Nat.le_of_mul_le_mul_right h2 hc.ch.1;exact Bph h3 hc.cnt.2
 ·simp only[oD,Bn0]
end
theorem An4{l:List Int}(h:∀x∈l,0<=x){i j:Nat}(hij:i<=j):(l.take i).sum<= (l.take j).sum:=by
 obtain⟨d,rfl⟩:=Bo7 hij;rw[List.take_add,List.sum_append];have:=qQ (l:=l.drop i) (λx hx=>h x (Blp hx)) d;omega
theorem Abg{t z:LB}{i:Nat}(h:i<t.length):Ti (t++z) i=Ti t i:=by
 rw[Ti,Ti,List.getD_eq_getElem?_getD,List.getD_eq_getElem?_getD,List.getElem?_append_left h]
theorem rU(t:LB)(a i:Nat):Ti (t.drop a) i=Ti t (a+i):=by
 rw[Ti,Ti,List.getD_eq_getElem?_getD,List.getD_eq_getElem?_getD,List.getElem?_drop]
theorem Bkl{w:Nat}(hw:Bm (w:Int)){t z:LB}{a:Nat}(h:a+wB (w:Int)<=t.length):sx (wB (w:Int)) (t++z) a=sx (wB (w:Int)) t a:=by
 rcases hw with hw|hw|hw
 ·rw[hw]at h⊢;have e:wB 8=1:=rfl;rw[e]at h⊢;rw[sx,sx,Abm rfl,Abm rfl,Abg (by omega)]
 ·rw[hw]at h⊢;have e:wB 16=2:=rfl;rw[e]at h⊢;rw[sx2,sx2,Abg (by omega),Abg (by omega)]
 ·rw[hw]at h⊢;have e:wB 24=3:=rfl;rw[e]at h⊢;rw[sx3,sx3,Abg (by omega),Abg (by omega),Abg (by omega)]
theorem Bgd{w:Nat}(hw:Bm (w:Int))(t:LB)(a b:Nat):sx (wB (w:Int)) (t.drop a) b=sx (wB (w:Int)) t (a+b):=by
 rcases hw with hw|hw|hw
 ·rw[hw,show wB 8=1 from rfl,sx,sx,Abm rfl,Abm rfl,rU]
 ·rw[hw,show wB 16=2 from rfl,sx2,sx2,rU,rU];rfl
 ·rw[hw,show wB 24=3 from rfl,sx3,sx3,rU,rU,rU];rfl
theorem Au0{w:Nat}(hw:Bm (w:Int)){t z:LB}{m:Nat}(h:m*wB (w:Int)<=t.length):nW (wB (w:Int)) m (t++z)=nW (wB (w:Int)) m t:=by
 rw[nW,nW];apply Bnl;intro x hx;have hx:=List.mem_range.1 hx;have h2:(x+1)*wB (w:Int)<=m*wB (w:Int):=Adx _ hx;rw[Al6,Be6]at h2;rw[Bkl hw (by omega)]
theorem Bf0{w:Nat}(hw:Bm (w:Int))(t:LB)(m j:Nat):nW (wB (w:Int)) (m+j) t=nW (wB (w:Int)) m t++nW (wB (w:Int)) j (t.drop (m*wB (w:Int))):=by
 rw[nW,nW,nW,List.range_add,Bnq,List.map_map];congr 1;apply Bnl;intro x hx
 show Int32.ofInt (sx (wB (w:Int)) t ((m+x)*wB (w:Int)))=_;rw[Bgd hw,Al6]
theorem Bi6{w:Nat}(hw:Bm (w:Int))(t:LB)(a:Nat): -(hB (w:Int))<=sx (wB (w:Int)) t a/\sx (wB (w:Int)) t a<hB (w:Int):=by
 have b0:=zQ t a;have b1:=zQ t (a+1);have b2:=zQ t (a+2);rcases hw with hw|hw|hw
 ·rw[hw,show wB 8=1 from rfl,show hB 8=128 from rfl,sx,Abm rfl];omega
 ·rw[hw,show wB 16=2 from rfl,show hB 16=32768 from rfl,sx2];split<;>omega
 ·rw[hw,show wB 24=3 from rfl,show hB 24=8388608 from rfl,sx3];split<;>omega
theorem Auw{w:Nat}(hw:Bm (w:Int))(m:Nat)(t:LB):inR (w:Int) (nW (wB (w:Int)) m t):=by
 intro x hx;rw[nW,List.mem_map]at hx;obtain⟨k,_,rfl⟩:=hx;have h:=Bi6 hw t (k*wB (w:Int));have hh:=UY (w:Int);rw[qW (by omega) (by omega)];exact h
theorem sN(c L:Nat):∀(k:Nat) (x y:List Int32),k*(L*c)<=x.length->Hq c (x++y) (List.replicate k (L:Int))=Hq c x (List.replicate k (L:Int))
 |0,x,y,_=>rfl
 |k+1,x,y,h=>by
  rw[Al6,Be6]at h;rw[Bis,Hq,Hq,Afx,Bnw (by omega),Azv (by omega),sN c L k _ y (by rw[Agn];omega)]
theorem Aa0(c:Nat):∀(l m:List Int) (x:List Int32),(∀z∈l,0<=z)->Hq c x (l++m)=Hq c x l++Hq c (x.drop (l.sum.toNat*c)) m
 |[],m,x,_=>by simp[Hq]
 |z::l,m,x,h=>by
  have hz:=h z Awp;have hl:0<=l.sum:=Al8 λy hy=>h y (Anh _ hy);rw[Blm,Hq,Hq,Aa0 c l m _ (λy hy=>h y (Anh _ hy)),Blm,Bok,Azy,show(z+l.sum).toNat=z.toNat+l.sum.toNat by omega,Al6]
theorem Bdl(k L:Nat):∀z∈List.replicate k (L:Int),0<=z:=λz hz=>by rw[(List.mem_replicate.1 hz).2];omega
theorem Agy(k L c:Nat):(List.replicate k (L:Int)).sum.toNat*c=k*(L*c):=by rw[Amm,Afx,Azz]
theorem As9(c L k:Nat)(x:List Int32)(h:x.length=(k+1)*(L*c)):Hq c x (List.replicate (k+1) (L:Int))=Hq c x (List.replicate k (L:Int))++[x.drop (k*(L*c))]:=by
 rw[List.replicate_succ',Aa0 c _ _ _ (Bdl k L),Agy,Hq,Hq,Afx,Ati (by rw[Agn,h,Al6];omega)]
structure EncOk (c w r:Nat) (p:LB):Prop where
 ch:1<=c/\c<=6
 bits:Bm (w:Int)
 rate:1<=r/\r<=1048576
 pass:p.length<=64
def wT(c w:Nat):Nat:=c*wB (w:Int)
def nE(c w:Nat)(t:LB):Nat:=t.length/wT c w
def XE(c w:Nat)(t:LB):LX:=nW (wB (w:Int)) (nE c w t*c) t
def RE(c w:Nat)(t:LB):LB:=t.drop (nE c w t*wT c w)
def kE(c w r:Nat)(t:LB):Nat:=nE c w t/Ak r
def SE(c w r:Nat)(t:LB):LX:=(XE c w t).drop (kE c w r t*(Ak r*c))
def FE(c w r:Nat)(p t:LB):List LB:=(Hq c (XE c w t) (List.replicate (kE c w r t) (Ak r:Int))).map (EV (w:Int) c (Nd p))
def RF(c r n:Nat):Prop:=n*c<=4000/\ (n=0\/ (n-1)/Ak r+1<=1000)
instance(c r n:Nat):Decidable (RF c r n):=by unfold RF;exact inferInstance
theorem RF.mono{c r n m:Nat}(h:RF c r n)(hm:m<=n):RF c r m:=by
 obtain⟨h1,h2⟩:=h;have h3:=Adx c hm;have h4:(m-1)/Ak r<= (n-1)/Ak r:=Nat.div_le_div_right (by omega);refine⟨by omega,?_⟩;omega
section
variable {c w r:Nat} {p:LB} (h:EncOk c w r p) (t:LB)
include h
theorem Aa1:1<=wT c w/\wT c w<=18:=by
 have h1:=Abz (w:Int);have h2:=h.ch;have h3:=Bpm (show 0<c by omega) (show 0<wB (w:Int) by omega);have h4:c*wB (w:Int)<=6*3:=Bed h2.2 h1.2;unfold wT;omega
theorem Av9:HP (c:Int) (w:Int)=some (wT c w:Int):=by
 have h2:=h.ch;have hw3:w=8\/w=16\/w=24:=by have:=h.bits;unfold Bm at this;omega
 rcases hw3 with rfl|rfl|rfl
 ·show some (Br (Bf (c:Int) (8:Int)) 8)=_;rw[Ez (by omega) (by omega),show(c:Int)*8=((c*8:Nat):Int) by omega,show(8:Int)=((8:Nat):Int)from rfl,JA (by omega),wT,show wB ((8:Nat):Int)=1 from rfl];congr 2;omega
 ·show some (Br (Bf (c:Int) (16:Int)) 8)=_;rw[Ez (by omega) (by omega),show(c:Int)*16=((c*16:Nat):Int) by omega,show(8:Int)=((8:Nat):Int)from rfl,JA (by omega),wT,show wB ((16:Nat):Int)=2 from rfl];congr 2;omega
 ·show some (Br (Bf (c:Int) (24:Int)) 8)=_;rw[Ez (by omega) (by omega),show(c:Int)*24=((c*24:Nat):Int) by omega,show(8:Int)=((8:Nat):Int)from rfl,JA (by omega),wT,show wB ((24:Nat):Int)=3 from rfl];congr 2;omega
theorem Ann:t.length=nE c w t*wT c w+(RE c w t).length/\ (RE c w t).length<wT c w:=by
 have hs:=Aa1 h;have h1:=Bnr t.length (wT c w);have h2:=Bj3 t.length (show 0<wT c w by omega);rw[Ark]at h1;have e:(RE c w t).length=t.length-nE c w t*wT c w:=by rw[RE,Agn]
 have e2:nE c w t*wT c w=t.length/wT c w*wT c w:=rfl;omega
omit h in
theorem vK:(XE c w t).length=nE c w t*c:=yV _ _ _
theorem Ami:inR (w:Int) (XE c w t):=Auw h.bits _ _
theorem Aj9:nE c w t=kE c w r t*Ak r+nE c w t %Ak r/\nE c w t %Ak r<Ak r:=by
 have _:=h;have hp:=Ej r;have h1:=Bnr (nE c w t) (Ak r);rw[Ark]at h1;exact⟨h1.symm,Bj3 _ (by omega)⟩
theorem vR:(SE c w r t).length=nE c w t %Ak r*c:=by
 have h1:=(Aj9 h t).1;rw[SE,Agn,vK]
 conv=>lhs;rw[h1]
 rw[Al6,<-Azz,Bkp]
omit h in
theorem Ah5:(FE c w r p t).length=kE c w r t:=by rw[FE,List.length_map,YI,At7]
theorem Bik(b:UInt8)(hl:(RE c w t).length+1<wT c w):nE c w (t++[b])=nE c w t/\XE c w (t++[b])=XE c w t/\RE c w (t++[b])=RE c w t++[b]:=by
 have h1:=Ann h t;have hs:=Aa1 h;have hn:nE c w (t++[b])=nE c w t:=by
  rw[nE,Abq,Bjc];exact Bmx (by omega) (by rw[Al6,Be6];omega)
 refine⟨hn,?_,?_⟩
 ·rw[XE,hn,XE];exact Au0 h.bits (by
   have e:nE c w t*c*wB (w:Int)=nE c w t*wT c w:=by rw[wT,Azz]
   rw[e];omega)
 ·rw[RE,hn,RE,Azv (by omega)]
theorem Bih(b:UInt8)(hl:¬(RE c w t).length+1<wT c w):(RE c w t).length+1=wT c w/\nE c w (t++[b])=nE c w t+1/\XE c w (t++[b])=XE c w t++nW (wB (w:Int)) c (RE c w t++[b])/\RE c w (t++[b])=[]:=by
 have h1:=Ann h t;have hs:=Aa1 h;have hn:nE c w (t++[b])=nE c w t+1:=by
  rw[nE,Abq,Bjc];exact Bmx (by rw[Al6,Be6];omega) (by rw[Al6,Al6,Be6];omega)
 have e:nE c w t*c*wB (w:Int)=nE c w t*wT c w:=by rw[wT,Azz]
 refine⟨by omega,hn,?_,?_⟩
 ·rw[XE,hn,Al6,Be6,Bf0 h.bits,Au0 h.bits (by rw[e];omega),e,Azv (by omega)];rfl
 ·rw[RE,hn,Bld];rw[Abq,Bjc,Al6,Be6];omega
theorem Amj:kE c w r t*(Ak r*c)<= (XE c w t).length:=by
 have h1:=(Aj9 h t).1;rw[vK]
 conv=>rhs;rw[h1]
 rw[Al6,<-Azz];omega
theorem Blt{b:UInt8}(hl:(RE c w t).length+1<wT c w):kE c w r (t++[b])=kE c w r t/\SE c w r (t++[b])=SE c w r t/\FE c w r p (t++[b])=FE c w r p t:=by
 obtain⟨h1,h2,h3⟩:=Bik h t b hl;have hk:kE c w r (t++[b])=kE c w r t:=by rw[kE,h1,kE]
 exact⟨hk,by rw[SE,hk,h2,SE],by rw[FE,hk,h2,FE]⟩
theorem Bl0{b:UInt8}(hl:¬(RE c w t).length+1<wT c w):
  ((SE c w r t++nW (wB (w:Int)) c (RE c w t++[b])).length<Ak r*c->kE c w r (t++[b])=kE c w r t/\SE c w r (t++[b])=SE c w r t++nW (wB (w:Int)) c (RE c w t++[b])/\FE c w r p (t++[b])=FE c w r p t)/\
  (¬(SE c w r t++nW (wB (w:Int)) c (RE c w t++[b])).length<Ak r*c-> (SE c w r t++nW (wB (w:Int)) c (RE c w t++[b])).length=Ak r*c/\kE c w r (t++[b])=kE c w r t+1/\SE c w r (t++[b])=[]/\FE c w r p (t++[b])=FE c w r p t++[EV (w:Int) c (Nd p) (SE c w r t++nW (wB (w:Int)) c (RE c w t++[b]))]):=by
 obtain⟨_,h1,h2,h3⟩:=Bih h t b hl;obtain⟨d1,d2⟩:=Aj9 h t;have hsl:=vR h t;have hc:=h.ch;have hp:=Ej r;have hdk:=Amj h t;have hlen:(SE c w r t++nW (wB (w:Int)) c (RE c w t++[b])).length=(nE c w t %Ak r+1)*c:=by rw[Abq,hsl,yV,Al6,Be6]
 rw[hlen];constructor
 ·intro hlt;have hlt2:nE c w t %Ak r+1<Ak r:=Nat.lt_of_mul_lt_mul_right hlt;have hk:kE c w r (t++[b])=kE c w r t:=by
   rw[kE,h1];exact Bmx (by omega) (by rw[Al6,Be6];omega)
  refine⟨hk,?_,?_⟩
  ·rw[SE,hk,h2,Azv hdk,SE]
  ·rw[FE,hk,h2,sN c (Ak r) _ _ _ hdk,FE]
 ·intro hge;have Brm:Ak r<=nE c w t %Ak r+1:=by
   refine Nat.le_of_not_lt λhh=>hge ?_;exact Nat.mul_lt_mul_of_pos_right hh hc.1
  have heq:nE c w t %Ak r+1=Ak r:=by omega
  have hk:kE c w r (t++[b])=kE c w r t+1:=by
   rw[kE,h1];exact Bmx (by rw[Al6,Be6];omega) (by rw[Al6,Al6,Be6];omega)
  have hXl:(XE c w (t++[b])).length=(kE c w r t+1)*(Ak r*c):=by
   rw[vK,h1,<-Azz];congr 1;rw[Al6,Be6];omega
  refine⟨by rw[heq],hk,?_,?_⟩
  ·rw[SE,hk,<-hXl,Bla]
  ·rw[FE,hk,As9 c (Ak r) _ _ hXl,Bnq,h2,sN c (Ak r) _ _ _ hdk,Azv hdk,FE];rfl
theorem Bdj(hR:RF c r (nE c w t)):∀f∈FE c w r p t,5<=f.length/\f.length<= (81*(Ak r*c)+7)/8+4:=by
 intro f hf;obtain⟨y,hy,rfl⟩:=List.mem_map.1 hf;have hx:(XE c w t).take (kE c w r t*(Ak r*c))++(XE c w t).drop (kE c w r t*(Ak r*c))=XE c w t:=Bjy _ _;have hdk:=Amj h t;have hpr:=sN c (Ak r) (kE c w r t) ((XE c w t).take (kE c w r t*(Ak r*c))) ((XE c w t).drop (kE c w r t*(Ak r*c))) (by rw[Afz];omega);rw[hx]at hpr;rw[hpr]at hy;have hp:=Ej r;obtain⟨k,hk,hk2⟩:=List.getElem_of_mem hy;have hl1:∀z∈List.replicate (kE c w r t) (Ak r:Int),1<=z:=λz hz=>by rw[(List.mem_replicate.1 hz).2];omega
 have hlx:((XE c w t).take (kE c w r t*(Ak r*c))).length=(List.replicate (kE c w r t) (Ak r:Int)).sum.toNat*c:=by rw[Agy,Afz];omega
 have hg:=wG c h.ch.1 _ _ hl1 hlx k (by rw[YI]at hk;exact hk) hk;rw[hk2,List.getElem_replicate,Afx]at hg;obtain⟨a1,a2,_,_⟩:=jE c h.ch.1 _ _ hl1 hlx y hy;have hle:y.length<=4000:=by
  have:=hR.1;have h2:((XE c w t).take (kE c w r t*(Ak r*c))).length<= (XE c w t).length:=by rw[Afz];omega
  rw[vK]at h2;omega
 have h5:=Ao4 (w:Int) c (Nd p) y a1 hle;have he:=gU c (Tj (w:Int) c (Nd p) y) y.length;refine⟨h5.1,?_⟩;rw[EV,Abq,Ef,Anm,BH,<-hg];omega
omit h in
theorem Ajw(b:List LB)(f a M:Int)(hM:Ad (Br (Ad (Bf (Bf 81 f) a) 7) 8) 4=M)(hb:b.length<=100000)(hm:∀y∈b,5<=y.length/\ (y.length:Int)<=M):∀(j i q:Nat),i+j=b.length->j<q->Ky b f a q (i:Int)=some true
 |j,i,0,_,h=>absurd h (Bez _)
 |0,i,q+1,hi,_=>by
  rw[Ky,To,Aau (by rw[Ae,Ac];simp;omega)];rfl
 |j+1,i,q+1,hi,hq=>by
  have ih:=Ajw b f a M hM hb hm j (i+1) q (by omega) (by omega);have hy:=hm b[i] (Ap3 _);have hi1:Ad (i:Int) 1=((i+1:Nat):Int):=by rw[Ah (by omega) (by omega)];omega
  rw[Ky,To,Abm (by rw[Ae,Ac];simp;omega),Bn (by omega),Aa,CU,CT,hM,Aau (by simp[Ae,Aq,Ac];omega),CY,VQ,hi1];exact ih
theorem Akv:DJ (c:Int) (w:Int) (r:Int) p=some ((Ak r:Int),true):=by
 have hp:=h.pass;rw[DJ,sY h.rate.1 h.rate.2,Aa];simp only;rw[Ar6 h.bits h.ch.1 h.ch.2,Aa];simp[Ar,VV,Ac];omega
theorem zZ(hR:RF c r (nE c w t))(p' m' n':LB)(u:Bool)(v k o:Int):Xj (c:Int) k o p' m' (SE c w r t) (FE c w r p t) n' u v (Ak r:Int)=some (nE c w t:Int):=by
 have hc:=h.ch;obtain⟨d1,d2⟩:=Aj9 h t;have hsl:=vR h t;have hlt:=aS h.rate.2;have hn:nE c w t<=4000:=by
  have:=hR.1;have:nE c w t*1<=nE c w t*c:=Bmm _ hc.1;omega
 have e1:Bf (Ac (FE c w r p t)) (Ak r:Int)=((kE c w r t*Ak r:Nat):Int):=by
  rw[Ac,Ah5,Ez (by rw[<-Aos];omega) (by rw[<-Aos];omega),<-Aos]
 have e2:Br (Ac (SE c w r t)) (c:Int)=((nE c w t %Ak r:Nat):Int):=by
  rw[Ac,hsl,JA (by
   have:nE c w t %Ak r*c<=nE c w t*c:=Adx _ (Bpf _ _);have:=hR.1;omega),Bnv _ (by omega)]
 rw[Xj,Bk (by rw[Aj];simp;omega),Aa,e1,e2,Ah (by omega) (by omega)];congr 1;omega
theorem Axk(hR:RF c r (nE c w t)):QW (c:Int) (w:Int) (r:Int) p (RE c w t) (SE c w r t) (FE c w r p t) [] false 0=some 0:=by
 have hc:=h.ch;have hw:=h.bits;obtain⟨d1,d2⟩:=Aj9 h t;have hsl:=vR h t;have htl:=Ann h t;have hlt:=aS h.rate.2;have hp:=Ej r;have hfl:=Ah5 (c:=c) (w:=w) (r:=r) (p:=p) t;have hn4:=hR.1;have hmod:nE c w t %Ak r*c<=nE c w t*c:=Adx _ (Bpf _ _);have hn:nE c w t<=4000:=by
  have:nE c w t*1<=nE c w t*c:=Bmm _ hc.1;omega
 have hfr:kE c w r t+(if 0<nE c w t %Ak r then 1 else 0)<=1000:=by
  rcases hR.2 with h0|h0
  ·have:kE c w r t=0:=by rw[kE,h0];exact Nat.zero_div _
   rw[h0,Nat.zero_mod,this];decide
  ·generalize hq:Ak r=L at*
   have hk:kE c w r t=nE c w t/L:=by rw[kE,hq]
   by_cases hz:0<nE c w t %L
   ·rw[Abm hz];have:(nE c w t-1)/L=kE c w r t:=Bmx (by omega) (by rw[Al6,Be6];omega);omega
   ·rw[Aau hz];by_cases hk0:kE c w r t=0
    ·omega
    ·obtain⟨k',hk'⟩:∃k',kE c w r t=k'+1:=⟨kE c w r t-1,by omega⟩;rw[hk',Al6,Be6]at d1;have:(nE c w t-1)/L=k':=Bmx (by omega) (by rw[Al6,Be6];omega);omega
 have hcnt:=zZ h t hR p (RE c w t) [] false 0 (w:Int) (r:Int);have hin:inR (w:Int) (SE c w r t):=λv hv=>Ami h t v (Blp hv);have hwc:Ry (w:Int) (SE c w r t)=some 0:=by rw[aX hw _ (by omega),sP hw (by omega) hin]
 have hroom:∀k:Int,k<=1000->Vw (c:Int) (w:Int) (r:Int) p (RE c w t) (SE c w r t) (FE c w r p t) [] false 0 k (nE c w t:Int)=some true:=by
  intro k hk;rw[Vw,Ez (by rw[<-Aos];omega) (by rw[<-Aos];omega),<-Aos];simp[VV];omega
 have hLc:Ak r*c<=1100000*6:=Bed (by omega) hc.2;have hM:Ad (Br (Ad (Bf (Bf 81 (Ak r:Int)) (c:Int)) 7) 8) 4=(((81*(Ak r*c)+7)/8+4:Nat):Int):=by
  have e1:Bf 81 (Ak r:Int)=((81*Ak r:Nat):Int):=by rw[Ez (by omega) (by omega)];omega
  have e2:Bf ((81*Ak r:Nat):Int) (c:Int)=((81*(Ak r*c):Nat):Int):=by
   rw[Ez (by rw[<-Aos,Azz];omega) (by rw[<-Aos,Azz];omega),<-Aos,Azz]
  rw[e1,e2,Ah (a:=((81*(Ak r*c):Nat):Int)) (b:=7) (by omega) (by omega),show((81*(Ak r*c):Nat):Int)+7=((81*(Ak r*c)+7:Nat):Int) by omega,show(8:Int)=((8:Nat):Int)from rfl,JA (by omega),Ah (by omega) (by omega)];omega
 have hloop:=Ajw (FE c w r p t) (Ak r:Int) (c:Int) _ hM (by omega) (λy hy=>by
  have:=Bdj h t hR y hy;omega) (FE c w r p t).length 0 Ax (by omega) (by have:=As;omega)
 have Bnp:DX (c:Int) (w:Int) (r:Int) p (RE c w t) (SE c w r t) (FE c w r p t) [] false 0 (Ak r:Int)=some true:=by
  have Bo4:Br (Ac (SE c w r t)) (c:Int)=((nE c w t %Ak r:Nat):Int):=by
   rw[Ac,hsl,JA (by omega),Bnv _ (by omega)]
  have Bo5:Gx (Ac (SE c w r t)) (c:Int)=0:=by rw[Ac,hsl,OG,Bjh];rfl
  have hkk:kE c w r t<=1000:=by split at hfr<;>omega
  rw[DX,FK,Aau (by decide),Av9 h,Aa,Aau (by rw[Dw,Ac];simp;omega),Bk (by rw[Aj];simp;omega),Aa,Bo5,Aau (by decide),Aa,Bo4,Aau (by simp[Dw,Aq,Ac,hfl];omega),CP,CH,hwc,Aa,Aau (by decide)];by_cases hz:0<nE c w t %Ak r
  ·rw[Abm hz]at hfr;have hpos:=Bpm hz (show 0<c by omega);rw[Abm (by rw[Aq,Ac];simp;omega),Tv,Tk,hcnt,Aa,Ac,hfl,Ah (by omega) (by omega),hroom _ (by omega),Aa,Aau (by decide),Ts,Tm,Tn];exact hloop
  ·have h0:nE c w t %Ak r=0:=by omega
   rw[h0,Bpn]at hsl;rw[Aau (by rw[Aq,Ac];simp only[Acm];omega),Tv,Tk,hcnt,Aa,Ac,hfl,hroom _ (by omega),Aa,Aau (by decide),Ts,Tm,Tn];exact hloop
 rw[QW,Akv h,Aa];simp only;rw[Aau (by decide),Aau (by decide),Aau (by decide),Bnp,Aa,Aau (by decide)]
end
theorem tZ(a:List LB)(ha:∀y∈a,y.length<=17179869184)(w:List LB)(hw:w.length=a.length)(ha2:a.length<=100000)(b f g:Int)(h:LB)(k:Bool)(m:Int)(n:LB)(o:LX)(p:LB):∀(j i q:Nat),i+j=a.length->j<q->Rm w a b f g h k m n o p q (i:Int) a=some (b,f,g,h,n,o,a,p,k,m)
 |j,i,0,_,h=>absurd h (Bez _)
 |0,i,q+1,hi,_=>by
  have hc:VH w a=a:=by rw[VH,hw,Azx,Bld (by omega),Arp]
  rw[Rm,EL,hc,Aau (by rw[Ae,Ac];simp;omega)];rfl
 |j+1,i,q+1,hi,hq=>by
  have ih:=tZ a ha w hw ha2 b f g h k m n o p j (i+1) q (by omega) (by omega);have hc:VH w a=a:=by rw[VH,hw,Azx,Bld (by omega),Arp]
  have hi1:Ad (i:Int) 1=((i+1:Nat):Int):=by rw[Ah (by omega) (by omega)];omega
  have hy:=ha a[i] (Ap3 _);rw[Rm,EL,hc,Abm (by rw[Ae,Ac];simp;omega),Bn (by omega),Aa,Aa,By,Bi (by simpa using hy),Aa,Aa,Aa,Aro,Ui _ (by omega),Aa,List.set_getElem_self,hi1];exact ih
theorem Bas{a:List LB}(ha:∀y∈a,y.length<=17179869184)(ha2:a.length<=100000)(b f g:Int)(h:LB){x:LB}{s:LX}{z:LB}(hx:x.length<=17179869184)(hs:s.length<=17179869184)(hz:z.length<=17179869184)(k:Bool)(m:Int):XD b f g h x s a z k m=some (b,f,g,h,x,s,a,z,k,m):=by
 have hl:=tZ a ha (List.replicate a.length []) (by rw[At7]) ha2 b f g h k m x s z a.length 0 Ax (by omega) (by have:=As;omega);have hc:VH (List.replicate a.length []) a=a:=by rw[VH,At7,Azx,Bld (by rw[At7];omega),Arp]
 rw[XD,TS,By,Bi (by simpa using hx),Aa,Aa,Dh,Bi (by simpa using hs),Aa,Aa,By,Bi (by simpa using hz),Aa,Aa,UJ,TV,rA (by unfold Ac;omega) (by unfold Ac;omega),Aa,Bk (by rw[Ar];simp),Aa];simp only[Aro,Ac,Afx,hc];exact hl
section
variable {c w r:Nat} {p:LB} (h:EncOk c w r p)
include h
theorem Ak0(t:LB)(hR:RF c r (nE c w t)):DO (c:Int) (w:Int) (r:Int) p (RE c w t) (SE c w r t) (FE c w r p t) [] false 0=some ((c:Int),(w:Int),(r:Int),p,RE c w t,SE c w r t,FE c w r p t,[],false,0,(Ak r:Int),0):=by
 have h1:=Ann h t;have hs:=Aa1 h;have hsl:=vR h t;have hfl:=Ah5 (c:=c) (w:=w) (r:=r) (p:=p) t;have hn4:=hR.1;have hmod:nE c w t %Ak r*c<=nE c w t*c:=Adx _ (Bpf _ _);have hn:nE c w t<=4000:=by
  have:nE c w t*1<=nE c w t*c:=Bmm _ h.ch.1;omega
 have hk:kE c w r t<=nE c w t:=Atr _ _;have hlt:=aS h.rate.2;have hLc:Ak r*c<=1100000*6:=Bed (by omega) h.ch.2;have htw:=Bas (a:=FE c w r p t) (λy hy=>by have:=Bdj h t hR y hy;omega) (by omega) (c:Int) (w:Int) (r:Int) p (x:=RE c w t) (s:=SE c w r t) (z:=[]) (by omega) (by omega) (by simp) false 0;rw[DO,PK,Axk h t hR,Aa,Aau (by decide),sY h.rate.1 h.rate.2,Aa];simp only;rw[Aau (by decide),Aau (by decide),PJ,gH,htw,Aa]
abbrev Bob:=Int×Int×Int×LB×LB×LX×(List LB)×LB×Bool×Int×Int
def Bbr(c w r:Nat)(p t:LB):Bob:=if RF c r (nE c w t)then((c:Int),(w:Int),(r:Int),p,RE c w t,SE c w r t,FE c w r p t,[],false,0,0)else((c:Int),(w:Int),(r:Int),p,[],[],[],[],false,18,18)
theorem uC(t b:LB)(hb:b.length<=1000000):∀(j u q:Nat) (T:LB),u+j=b.length->j<q->T=t++b.take u->RF c r (nE c w T)->Jh (wT c w:Int) b (c:Int) (w:Int) (r:Int) p false 0 (Ak r:Int) [] q (u:Int) (RE c w T) (SE c w r T) (FE c w r p T)=some (Bbr c w r p (t++b))
 |j,u,0,T,_,h,_,_=>absurd h (Bez _)
 |0,u,q+1,T,hu,_,hT,hR=>by
  rw[Ati (by omega)]at hT;rw[Jh,BL,Aau (by rw[Ae,Ac];simp;omega),PB,gE,Bbr,<-hT,Abm hR]
 |j+1,u,q+1,T,hu,hq,hT,hR=>by
  have hc:=h.ch;have hs:=Aa1 h;have hu1:Ad (u:Int) 1=((u+1:Nat):Int):=by rw[Ah (by omega) (by omega)];omega
  have hT':T++[b[u]'(by omega)]=t++b.take (u+1):=by rw[hT,Ma (by omega),Amz]
  have hpre:(T++[b[u]'(by omega)]).length<= (t++b).length:=by rw[hT',Abq,Abq,Afz];omega
  have hmono:nE c w (T++[b[u]'(by omega)])<=nE c w (t++b):=Nat.div_le_div_right hpre;have hgd:Ap b (u:Int)=some (b[u]'(by omega)):=Bn (by omega);generalize b[u]'(by omega)=d at hT' hpre hmono hgd⊢;have ih:=uC t b hb j (u+1) q (T++[d]) (by omega) (by omega) hT';have htl:=Ann h T;have hsl:=vR h T;have hfl:=Ah5 (c:=c) (w:=w) (r:=r) (p:=p) T;have hn4:=hR.1;have hmod:nE c w T %Ak r*c<=nE c w T*c:=Adx _ (Bpf _ _);have hn:nE c w T<=4000:=by
   have:nE c w T*1<=nE c w T*c:=Bmm _ hc.1;omega
  have hk:kE c w r T<=nE c w T:=Atr _ _;have hlt:=aS h.rate.2;rw[Jh,BL,Abm (by rw[Ae,Ac];simp;omega),hgd,Aa,Bi (by simp;omega),Aa];by_cases hlt1:(RE c w T).length+1<wT c w
  ·obtain⟨m1,m2,m3⟩:=Bik h T d hlt1;obtain⟨g1,g2,g3⟩:=Blt h T (b:=d) hlt1;rw[m1,m3,g2,g3]at ih;rw[Abm (by rw[Ae,Ac,Abq,Bjc];simp;omega),Pg,BK,hu1];exact ih hR
  ·obtain⟨m0,m1,m2,m3⟩:=Bih h T d hlt1;obtain⟨g1,g2⟩:=Bl0 h T (b:=d) hlt1;have hcnt:=zZ h T hR p (RE c w T++[d]) [] false 0 (w:Int) (r:Int);have hroom:Vw (c:Int) (w:Int) (r:Int) p (RE c w T++[d]) (SE c w r T) (FE c w r p T) [] false 0 (Ad (Ac (FE c w r p T)) 1) (Ad (nE c w T:Int) 1)=some (decide ((kE c w r T:Int)+1<=1000)&&decide ((((nE c w T+1)*c:Nat):Int)<=4000)):=by
    have hle:(nE c w T+1)*c<=4001*6:=Bed (by omega) hc.2;rw[Vw,Ac,hfl,Ah (by omega) (by omega),Ah (by omega) (by omega),show(nE c w T:Int)+1=((nE c w T+1:Nat):Int) by omega,Ez (by rw[<-Aos];omega) (by rw[<-Aos];omega),<-Aos,VV,VV]
   rw[Aau (by rw[Ae,Ac,Abq,Bjc];simp;omega),hcnt,Aa,hroom,Aa];by_cases hok:kE c w r T+1<=1000/\ (nE c w T+1)*c<=4000
   ·have hR':RF c r (nE c w (T++[d])):=by rw[m1];exact⟨hok.2, .inr (by rw[Nat.add_sub_cancel];exact hok.1)⟩
    have ih:=ih hR';have Bo6:=zA (RE c w T++[d]) h.bits (m:=c) (by rw[Abq,Bjc,m0];rfl) (by omega);have hLc:Ak r*c<=1100000*6:=Bed (by omega) hc.2;have hmul:Bf (Ak r:Int) (c:Int)=((Ak r*c:Nat):Int):=by rw[Ez (by rw[<-Aos];omega) (by rw[<-Aos];omega),<-Aos]
    rw[Aau (by rw[Bjs (show(kE c w r T:Int)+1<=1000 by omega),Bjs (show(((nE c w T+1)*c:Nat):Int)<=4000 by omega)];decide),PY,PD,Bo6,Aa];simp only;rw[Aau (by decide),Bi (by rw[yV];omega),Aa,hmul];by_cases hfull:(SE c w r T++nW (wB (w:Int)) c (RE c w T++[d])).length<Ak r*c
    ·obtain⟨k1,k2,k3⟩:=g1 hfull;rw[m3,k2,k3]at ih;rw[Abm (by rw[Ae,Ac];simp only[Acm];omega),Jc,Ua,Aau (by decide),Pg,BK,hu1];exact ih
    ·obtain⟨k0,k1,k2,k3⟩:=g2 hfull;rw[m3,k2,k3]at ih;have hXl:Ak r*c<=4000:=by
      have e:=hR'.1;have hlen:(XE c w (T++[d])).length=nE c w (T++[d])*c:=vK (T++[d]);have hdk:=Amj (r:=r) h (T++[d]);rw[k1,Al6,Be6]at hdk;omega
     have hin:inR (w:Int) (SE c w r T++nW (wB (w:Int)) c (RE c w T++[d])):=by
      intro v hv;rw[List.mem_append]at hv;rcases hv with hv|hv
      ·exact Ami h T v (Blp hv)
      ·exact Auw h.bits _ _ v hv
     have hLp:=Bpm (Ej r) hc.1;have henc:=lP (t:=Nd p) (x:=SE c w r T++nW (wB (w:Int)) c (RE c w T++[d])) h.bits (Mf p) hc.1 hc.2 (by omega) (by omega) (by rw[k0];exact Bjh _ _) hin;rw[Aau (by rw[Ae,Ac];simp only[Acm];omega),XU p h.pass,Aa];simp only;rw[Aau (by decide),henc,Aa];simp only;rw[Aau (by decide),Bi (by simp;omega),Aa,OT,PZ,Jc,Ua,Aau (by decide),Pg,BK,hu1];exact ih
   ·have hno:¬RF c r (nE c w (t++b)):=by
     intro hh;have:=hh.mono hmono;rw[m1]at this;obtain⟨z1,z2⟩:=this;apply hok;rw[Nat.add_sub_cancel]at z2;have hkE:kE c w r T=nE c w T/Ak r:=rfl;omega
    rw[Abm (by
     rw[Azt,Bool.and_eq_false_iff,Ba2,Ba2];omega),Jc,Ua,Abm (by decide),Wf,Aa,Bbr,Aau hno]
theorem Bcl(t b:LB)(hb:b.length<=1000000)(hR:RF c r (nE c w t)):WU (c:Int) (w:Int) (r:Int) p (RE c w t) (SE c w r t) (FE c w r p t) [] false 0 b=some (Bbr c w r p (t++b)):=by
 have hl:=uC h t b hb b.length 0 Ax t (by omega) (by have:=As;omega) (by simp) hR;rw[WU,VE,Ak0 h t hR,Aa];simp only;rw[Aau (by decide),Av9 h,Aa,OQ];exact hl
theorem Bgu:cS (c:Int) (w:Int) (r:Int) p=some ((c:Int),(w:Int),(r:Int),p,RE c w [],SE c w r [],FE c w r p [],[],false,0,0):=by
 have h0:nE c w []=0:=Nat.zero_div _;have hk:kE c w r []=0:=by rw[kE,h0];exact Nat.zero_div _
 rw[cS,Akv h,Aa];simp only;rw[Aau (by decide),RE,SE,FE,XE,hk,h0];simp[nW,Hq]
omit h in
theorem Ay9(c r:Nat):RF c r 0:=⟨by omega, .inl rfl⟩
end
theorem Agc(l:List LB)(hf:l.flatten.length<=1000000)(hl:l.length<=1000000)(v:LB)(hfin:Ex l (l.flatten.length:Int)=some v):∀(j i q:Nat),i+j=l.length->j<q->Cu l q (((l.take i).flatten.length:Nat):Int) (i:Int)=some v
 |j,i,0,_,h=>absurd h (Bez _)
 |0,i,q+1,hi,_=>by
  rw[Cu,Dx,Aau (by rw[Ae,Ac];simp;omega),Ati (by omega)];exact hfin
 |j+1,i,q+1,hi,hq=>by
  have ih:=Agc l hf hl v hfin j (i+1) q (by omega) (by omega);have hi1:Ad (i:Int) 1=((i+1:Nat):Int):=by rw[Ah (by omega) (by omega)];omega
  have hsn:(l.take (i+1)).flatten=(l.take i).flatten++l[i]:=by rw[Ma (by omega),Bn7];simp
  have hsp:l.flatten=(l.take (i+1)).flatten++(l.drop (i+1)).flatten:=by rw[<-Bn7,Bjy]
  have hle:((l.take i).flatten).length+(l[i]).length<=1000000:=by
   rw[hsp,Abq,hsn,Abq]at hf;omega
  have hadd:Ad (((l.take i).flatten.length:Nat):Int) (Ac l[i])=(((l.take (i+1)).flatten.length:Nat):Int):=by
   rw[Ac,Ah (by omega) (by omega),hsn,Abq];omega
  rw[Cu,Dx,Abm (by rw[Ae,Ac];simp;omega),Bn (by omega),Aa,hadd,Aau (by rw[Ae];simp only[Acm];omega),hi1];exact ih
theorem Afl(l:List LB)(hf:l.flatten.length<=1000000)(hl:l.length<=1000000):∀(j i q:Nat),i+j=l.length->j<q->Cp l q (i:Int) (l.take i).flatten=some l.flatten
 |j,i,0,_,h=>absurd h (Bez _)
 |0,i,q+1,hi,_=>by
  rw[Cp,Dn,Aau (by rw[Ae,Ac];simp;omega),Ati (by omega)];rfl
 |j+1,i,q+1,hi,hq=>by
  have ih:=Afl l hf hl j (i+1) q (by omega) (by omega);have hi1:Ad (i:Int) 1=((i+1:Nat):Int):=by rw[Ah (by omega) (by omega)];omega
  have hsn:(l.take (i+1)).flatten=(l.take i).flatten++l[i]:=by rw[Ma (by omega),Bn7];simp
  have hsp:l.flatten=(l.take (i+1)).flatten++(l.drop (i+1)).flatten:=by rw[<-Bn7,Bjy]
  have hle:((l.take i).flatten).length+(l[i]).length<=1000000:=by
   rw[hsp,Abq,hsn,Abq]at hf;omega
  rw[Cp,Dn,Abm (by rw[Ae,Ac];simp;omega),Bn (by omega),Aa,Bi (by omega),Aa,hi1,<-hsn];exact ih
theorem Ash(l:List LB)(hf:l.flatten.length<=1000000)(hl:l.length<=1000000):Fh l=some l.flatten:=by
 have h3:Ew l []=some l.flatten:=by
  rw[Ew,Jr,Jq];exact Afl l hf hl l.length 0 Ax (by omega) (by have:=As;omega)
 have h11:Ex l (l.flatten.length:Int)=some l.flatten:=by
  have z:Ao (0:Int) 0=0:=by decide
  rw[Ex,Jp,Aau (by rw[Ae];simp only[Acm];omega),Jt,Jo,z,Bw (by omega) (by omega),Int.sub_zero];by_cases hp:0<l.flatten.length
  ·rw[Abm (by rw[Aq];simp only[Acm];omega),show gS (0:Int) 0 0=some ()from rfl,Aa,rA (by omega) (by omega),Aa,Bi (by simp only[List.length_nil,At7];omega),Aa];rw[show gS (Ac ([]++List.replicate ((l.flatten.length:Nat):Int).toNat (0:UInt8))) 0 0=some () by rw[gS,Bk];simp[Ac],Aa];simp only[YV,Int.sub_self,Int.toNat_zero,Bix];exact h3
  ·rw[Aau (by rw[Aq];simp only[Acm];omega)];exact h3
 have:=Agc l hf hl _ h11 l.length 0 Ax (by omega) (by have:=As;omega);exact this
theorem As4{p:LB}(hp:p.length<=64):QY p=some ((AT p:Int),0):=by
 rw[QY,Aau (by rw[Aq,Ac];simp;omega),AT];by_cases h:p=[]
 ·rw[Abm (by rw[Ar,Ac,h];rfl),Abm h];rfl
 ·have:p.length≠0:=λe=>h (Bcs e);rw[Aau (by rw[Ar,Ac,Aur];omega),Aau h];rfl
theorem Aia(a:List LB)(ha:a.length<=100000)(f g h:Int)(b k:LB)(m:LX)(n:LB)(o:Bool)(p:Int)(u v:LB)(hfin:Wr f g h b k m a n o p u (Ku a)=some (v,0)):∀(j i q:Nat),i+j=a.length->j<q->Rl a f g h b k m n o p u q (i:Int) (Ku (a.take i))=some (v,0)
 |j,i,0,_,h=>absurd h (Bez _)
 |0,i,q+1,hi,_=>by
  rw[Rl,EA,Aau (by rw[Ae,Ac];simp;omega),Ati (by omega)];exact hfin
 |j+1,i,q+1,hi,hq=>by
  have ih:=Aia a ha f g h b k m n o p u v hfin j (i+1) q (by omega) (by omega);have hi1:Ad (i:Int) 1=((i+1:Nat):Int):=by rw[Ah (by omega) (by omega)];omega
  have hll:(Ku (a.take i)).length=i:=by rw[EY,Afz];omega
  have hsn:Ku (a.take i)++[Ac a[i]]=Ku (a.take (i+1)):=by rw[Ma (by omega),Ku,Ku,Bnq];rfl
  rw[Rl,EA,Abm (by rw[Ae,Ac];simp;omega),Bn (by omega),Aa,Bi (by simp;omega),Aa,hsn,hi1];exact ih
theorem Ap1{c w r n:Nat}{x:List Int32}(h:ClipOk c w r n x){p:LB}(hp:p.length<=64)(k:LB)(m:LX)(n':LB)(o:Bool)(e:Int):XC (c:Int) (w:Int) (r:Int) p k m (oD c w r n x p) n' o e (n:Int)=some (YC c w r n x p,0):=by
 have hn:=Aws h p;have hl:=Akl h p;have hlen:=Ajp (c:=c) (w:=w) (r:=r) (n:=n) (x:=x) p;have hdl:=Aqx p;have hfin:Wr (c:Int) (w:Int) (r:Int) p k m (oD c w r n x p) n' o e (Acz (AT p) c w r n++nN p) (Ku (oD c w r n x p))=some (YC c w r n x p,0):=by
  have hh:=Ag0 (AT p) c w r n;have ht:=Aqy (Ku (oD c w r n x p));have hll:=EY (oD c w r n x p);rw[Wr,EB,Acb,Abm (Aor h p),Aa];simp only;rw[Aau (by decide),Bi (by rw[Abq];omega),Aa,Ash _ (by omega) (by omega),Aa,Bi (by rw[Abq,Abq];omega),Aa];simp[YC]
 have hlp:=Aia (oD c w r n x p) (by omega) (c:Int) (w:Int) (r:Int) p k m n' o e (Acz (AT p) c w r n++nN p) _ hfin (oD c w r n x p).length 0 Ax (by omega) (by have:=As;omega);rw[XC,UB,As4 hp,Aa];simp only;rw[Aau (by decide),xZ (h.shape _ (An9 p)) h.fit,Aa];simp only;rw[Aau (by decide)];by_cases h0:p=[]
 ·have e2:nN p=[]:=by rw[nN,Abm h0]
  rw[e2,Arp]at hlp;rw[Aau (by simp[h0]),EM,EE];exact hlp
 ·have e2:nN p=Xf (Ws p).toNat 8:=by rw[nN,Aau h0]
  rw[e2]at hlp;rw[Abm (by simpa using h0),iR p hp,Aa];simp only;rw[Aau (by decide),Bi (by rw[Ag0,Ef];omega),Aa,EM,EE];exact hlp
section
variable {c w r:Nat} {p:LB} (h:EncOk c w r p) (t:LB) (hR:RF c r (nE c w t))
include h hR
theorem Az1(h1:1<=nE c w t):ClipOk c w r (nE c w t) (XE c w t):=by
 have hc:=h.ch;refine⟨hc,h.bits,h.rate,⟨h1,?_⟩,vK t,?_,Ami h t⟩
 ·rw[Nat.le_div_iff_mul_le (by omega)];exact hR.1
 ·rcases hR.2 with h0|h0
  ·omega
  ·exact h0
omit hR in
theorem Arx(h1:1<=nE c w t):oD c w r (nE c w t) (XE c w t) p=FE c w r p t++(if SE c w r t=[]then []else [EV (w:Int) c (Nd p) (SE c w r t)]):=by
 have hc:=h.ch;have hp:=Ej r;obtain⟨d1,d2⟩:=Aj9 h t;have hsl:=vR h t;have key:tH c r (nE c w t) (XE c w t)=Hq c (XE c w t) (List.replicate (kE c w r t) (Ak r:Int))++(if SE c w r t=[]then []else [SE c w r t]):=by
  by_cases hz:nE c w t %Ak r=0
  ·have hS:SE c w r t=[]:=Bcs (by rw[hsl,hz,Bpn]);rw[Abm hS,Arp,tH];congr 1;rw[hz,Blb]at d1;have hk1:1<=kE c w r t:=by
    rcases Bpg (kE c w r t)with h0|h0
    ·rw[h0,Bpn]at d1;omega
    ·exact h0
   obtain⟨k',hk'⟩:∃k',kE c w r t=k'+1:=⟨kE c w r t-1,by omega⟩;have hd:(nE c w t-1)/Ak r=k':=by
    rw[hk',Al6,Be6]at d1;exact Bmx (by omega) (by rw[Al6,Be6];omega)
   rw[Al,hd,hk',List.replicate_succ'];congr 2;rw[hk',Al6,Be6]at d1;omega
  ·have hS:SE c w r t≠ []:=by
    intro e;have:=congrArg List.length e;rw[hsl,List.length_nil]at this;rcases Nat.mul_eq_zero.1 this with h0|h0<;>omega
   have hd:(nE c w t-1)/Ak r=kE c w r t:=Bmx (by omega) (by rw[Al6,Be6];omega);have hdk:=Amj (r:=r) h t;rw[Aau hS,tH,Al,hd,Aa0 c _ _ _ (Bdl _ _),Agy,Hq,Hq,Afx];congr 2;rw[Ati]
   ·rfl
   ·rw[Agn,vK,<-Azz,<-Bpi];exact Arj _
 rw[oD,key,Bnq,FE];congr 1;split<;>rfl
theorem Atp:HU (c:Int) (w:Int) (r:Int) p (RE c w t) (SE c w r t) (FE c w r p t) [] false 0=
  some (if RE c w t≠ []\/nE c w t=0 then((c:Int),(w:Int),(r:Int),p,[],[],[],[],false,24,24)else((c:Int),(w:Int),(r:Int),p,[],[],[],YC c w r (nE c w t) (XE c w t) p,true,0,0)):=by
 have hc:=h.ch;have hsl:=vR h t;have hfl:=Ah5 (c:=c) (w:=w) (r:=r) (p:=p) t;have hn4:=hR.1;have hmod:nE c w t %Ak r*c<=nE c w t*c:=Adx _ (Bpf _ _);have hn:nE c w t<=4000:=by
  have:nE c w t*1<=nE c w t*c:=Bmm _ hc.1;omega
 have hk:kE c w r t<=nE c w t:=Atr _ _;rw[HU,MT,Ak0 h t hR,Aa];simp only;rw[Aau (by decide),zZ h t hR,Aa];by_cases hbad:RE c w t≠ []\/nE c w t=0
 ·have hcond:((Ed (Ac (RE c w t)) 0)||(geq (nE c w t:Int) 0))=true:=by
   rcases hbad with h0|h0
   ·have:RE c w t≠ []:=h0;have hl:0<(RE c w t).length:=List.length_pos_iff.2 this;rw[Aq,Ac,Baq];left;simpa using hl
   ·rw[h0];simp[Ar]
  rw[Abm hbad,Abm hcond,Wf,Aa]
 ·have hR0:RE c w t=[]:=by
   by_cases h0:RE c w t=[]
   ·exact h0
   ·exact absurd (.inl h0) hbad
  have hn1:1<=nE c w t:=by
   rcases Bpg (nE c w t)with h0|h0
   ·exact absurd (.inr h0) hbad
   ·exact h0
  have hcl:=Az1 h t hR hn1;have hfr:=Arx h t hn1;have hcond:¬(((Ed (Ac (RE c w t)) 0)||(geq (nE c w t:Int) 0))=true):=by rw[hR0];simp[Aq,Ar,Ac];omega
  rw[Aau hbad,Aau hcond];by_cases hS:SE c w r t=[]
  ·rw[Abm hS,Arp]at hfr;have hf:=Ap1 hcl h.pass (RE c w t) (SE c w r t) [] false 0;rw[hfr]at hf;rw[Aau (by rw[hS];decide),Rt,KQ,hf,Aa];simp only;rw[Aau (by decide)]
  ·rw[Aau hS]at hfr;have hl:0<(SE c w r t).length:=List.length_pos_iff.2 hS;have hin:inR (w:Int) (SE c w r t):=λv hv=>Ami h t v (Blp hv);have henc:=lP (t:=Nd p) (x:=SE c w r t) h.bits (Mf p) hc.1 hc.2 (by omega) (by omega) (by rw[hsl];exact Bjh _ _) hin;have hf:=Ap1 hcl h.pass (RE c w t) [] [] false 0;rw[hfr]at hf;rw[Abm (by rw[Aq,Ac];simpa using hl),XU p h.pass,Aa];simp only;rw[Aau (by decide),henc,Aa];simp only;rw[Aau (by decide),Bi (by simp;omega),Aa,LV,JL,Aau (by decide),Rt,KQ,hf,Aa];simp only;rw[Aau (by decide)]
end
def Cd(e:Int):Prop:=e=0\/e=4\/e=12\/e=16\/e=22\/e=24\/e=26\/e=38
instance(e:Int):Decidable (Cd e):=by unfold Cd;infer_instance
theorem Cd.nn{e:Int}(h:Cd e):0<=e:=by unfold Cd at h;omega
theorem Bjm(p:List UInt8)(N a k:Nat):Cd (cQ p N a k).2.2:=by
 unfold cQ
 repeat' split
 all_goals first|decide|exact .inl rfl
theorem Bkx(p:List UInt8)(N a k l:Nat):Cd (iZ p N a k l).2.2:=by
 have h:=Bjm p N (a+1) l;unfold iZ
 repeat' split
 all_goals first|exact h|decide|exact .inl rfl
theorem Awy(ch:Nat)(p:List UInt8)(N:Nat):∀(j a:Nat) (out:List UInt32),Cd (BF ch p N j a out).2.2
 |0,a,out=>by rw[BF];exact .inl rfl
 |j+1,a,out=>by
  rw[BF];split
  ·exact Bkx ..
  ·exact Awy ch p N j _ _
theorem Bb0(b:List UInt8):Cd (Yh b):=by
 unfold Yh
 repeat' split
 all_goals first|decide|exact .inl rfl
theorem Akj(a:List Int32)(b:Int):∀(q:Nat) (i e:Int),Ba a b q i=some e->Cd e
 |0,_,_,h=>by rw[Ba]at h;cases h
 |q+1,i,e,h=>by
  rw[Ba,Dd]at h;split at h
  ·cases hg:Ap a i with
   |none=>rw[hg]at h;cases h
   |some g=>
    rw[hg,Aa]at h;split at h
    ·cases h;decide
    ·rw[Aa]at h;split at h
     ·cases h;decide
     ·exact Akj a b q _ e h
  ·cases h;decide
theorem Atm{bits:Int}{a:List Int32}{e:Int}(hb:Bm bits)(h:Ay bits a=some e):Cd e:=by
 rw[Ay,Ea]at h;rw[cP hb,Aa,Aau (by have:=UY bits;rw[Ar];simp;omega)]at h;split at h
 ·cases h;decide
 ·exact Akj a _ _ _ e h
theorem Akh{bits:Int}{ch n:Nat}{t:List Int32}{b:List UInt8}(hb:Bm bits)(ht:t.length=16)(h1:1<=ch)(h6:ch<=6)(n1:1<=n)(n2:n<=4000/ch){l:List Int32}{e:Int}
  (h:Fc (ch:Int) bits t (n:Int) b=some (l,e)):Cd e:=by
 have hn:n*ch<=4000:=by
  have:=Adx ch n2;have h2:=Bit 4000 ch;omega
 have hq4:=Al9 h1 h6;generalize 4000/ch=mm at*
 have hh:=UY bits;have At8:Hc (ch:Int) bits (n:Int)=some 0:=by
  rw[Hc,Et,Aau (by simp[Ae,Aq];omega),cP hb,Aa,Aau (by rw[Ar];simp;omega),Aa,Aau (by simp[Aj,Ae];omega),Bk (by rw[Aj];simp;omega),Aa,hq4,Aau (by rw[Aq];simp;omega)]
 rw[Fc,Wa,At8,Aa,Aau (by rw[Aj];simp),Aea,Aa]at h;by_cases hs:Yh b≠0
 ·rw[Abm (by rw[Aj];simpa using hs)]at h;simp only[Aa]at h;cases h;exact Bb0 b
 have hs0:Yh b=0:=by simpa using hs
 have hlen:=Ano hs0;have e4:Ao (Ac b) 4=((b.length-4:Nat):Int):=by rw[Ac,Bw (by omega) (by omega)];omega
 rw[Aau (by rw[Aj,hs0];simp),e4,Dj (by omega) (by omega),Aa,show((b.length-4:Nat):Int).toNat=b.length-4 from rfl]at h;have hpl:(b.take (b.length-4)).length=b.length-4:=by simp
 generalize b.take (b.length-4)=p at*
 have hr:=Awx (N:=8*p.length) (p:=p) rfl (by omega) h1 h6 hn;have hV:=Awy ch p (8*p.length) (n*ch) 0 [];have hat:=Ac8 (ch:=ch) (p:=p) (N:=8*p.length) (n*ch) 0 [] (by omega);rw[hr,Aa]at h;generalize BF ch p (8*p.length) (n*ch) 0 []=V at*
 obtain⟨v,at',er⟩:=V;simp only at*
 by_cases he:er≠0
 ·rw[Abm he]at h;simp only at h;rw[Ka,Kg,Abm (by rw[Aj];simpa using he)]at h;cases h;exact hV
 have he0:er=0:=by simpa using he
 have hvl:=hat.2.2 he0;simp only[List.length_nil,Bh9]at hvl;rw[Aau he]at h;simp only at h;rw[Ka,Kg]at h;split at h
 ·cases h;decide
 ·rw[Aau (by decide)]at h;have hm:v.length %ch=0:=by rw[hvl];exact Bjh n ch
  obtain⟨l',e',g1,g2,g3,g4,g5⟩:=wY (v:=v) hb ht h1 h6 (by omega) hm;rw[g1,Aa,g2,Aa]at h;have:=Atm hb g4;by_cases hl:e'≠0
  ·rw[Abm hl]at h;cases h;exact this
  ·rw[Aau hl]at h;cases h;decide
theorem sK{bits:Int}{ch n:Nat}{t:List Int32}{b:List UInt8}(hb:Bm bits)(ht:t.length=16)(h1:1<=ch)(h6:ch<=6)(n1:1<=n)(n2:n<=4000/ch){l:List Int32}{e:Int}
  (h:Fc (ch:Int) bits t (n:Int) b=some (l,e)):0<=e:=(Akh hb ht h1 h6 n1 n2 h).nn
def shI(f c w r n:Int):Bool:=decide ((f=1\/f=2)/\ (1<=c/\c<=6)/\ (w=8\/w=16\/w=24)/\ (1<=r/\r<=1048576)/\1<=n)
theorem Ba0(f c w r n:Int):Sg f c w r n=some (shI f c w r n):=by
 have e2:Pn f c w r n=some (decide ((f=1\/f=2)/\ (1<=c/\c<=6)/\ (1<=r/\r<=1048576)/\1<=n)):=by
  rw[Pn,OV];congr 1;rw[Ajs];simp only[Ar,Aq,VV,Adr,Baq,Aur,Acm];omega
 have g:∀k:Int,geq w k=decide (w=k):=λk=>by rw[Ar,Ajs];simp
 rw[Sg,AZ,e2,g,g,g,shI];by_cases h8:w=8
 ·subst h8;simp
 ·by_cases h16:w=16
  ·subst h16;simp
  ·by_cases h24:w=24
   ·subst h24;simp
   ·simp[h8,h16,h24]
theorem Bfr(f c w r n:Int):La f c w r n=some (shI f c w r n):=by
 rw[La,shI];simp only[Ar,Dw,VV,Adr,Baq,Aur,Acm,Bof];split
 ·rename_i h;congr 1;rw[Ajs];simp only[Adr,Baq,Aur,Acm];omega
 ·rename_i h;congr 1;symm;rw[Ba2];omega
structure HdI (f c w r n:Int) (F C W R N:Nat):Prop where
 ef:f=F
 ec:c=C
 ew:w=W
 er:r=R
 en:n=N
 shape:Gu F C W R N=true
 fit:BM C R N=true
theorem Axz(f c w r n:Int):(∃F C W R N:Nat,HdI f c w r n F C W R N)\/ (Ly f c w r n=some 8/\Ds f c w r n=some ([],8)):=by
 by_cases h:shI f c w r n=true
 ·have h':=h;simp only[shI,Acm]at h';obtain⟨F,rfl⟩:=Ais (show 0<=f by omega);obtain⟨C,rfl⟩:=Ais (show 0<=c by omega);obtain⟨W,rfl⟩:=Ais (show 0<=w by omega);obtain⟨R,rfl⟩:=Ais (show 0<=r by omega);obtain⟨N,rfl⟩:=Ais (show 0<=n by omega);have hs:Gu F C W R N=true:=by simp only[Gu,Acm];omega
  by_cases hf:BM C R N=true
  ·exact .inl ⟨F,C,W,R,N,rfl,rfl,rfl,rfl,rfl,hs,hf⟩
  ·have hf':BM C R N=false:=by simpa using hf
   refine .inr ⟨?_,?_⟩
   ·rw[Ly,wC,Aa,hs,Aau (by simp),Ahg hs,Aa,hf'];rfl
   ·rw[Ds,On,cX,Aa,hs,Aau (by simp),sJ hs,Aa,hf'];rfl
 ·have h':shI f c w r n=false:=by simpa using h
  refine .inr ⟨?_,?_⟩
  ·rw[Ly,Bfr,Aa,h'];rfl
  ·rw[Ds,On,Ba0,Aa,h'];rfl
theorem HdI.check{f c w r n:Int}{F C W R N:Nat}(h:HdI f c w r n F C W R N):Ly f c w r n=some 0:=by
 obtain⟨rfl,rfl,rfl,rfl,rfl,hs,hf⟩:=h;rw[Ly,wC,Aa,hs,Aau (by simp),Ahg hs,Aa,hf];rfl
theorem HdI.Aa5{f c w r n:Int}{F C W R N:Nat}(h:HdI f c w r n F C W R N):Ds f c w r n=some (Al (Ak R) N,0):=by
 obtain⟨rfl,rfl,rfl,rfl,rfl,hs,hf⟩:=h;exact oL hs hf
theorem HdI.num{f c w r n:Int}{F C W R N:Nat}(h:HdI f c w r n F C W R N):(F=1\/F=2)/\ (1<=C/\C<=6)/\ (W=8\/W=16\/W=24)/\ (1<=R/\R<=1048576)/\1<=N/\N<=4000/C/\N<=4000/\ (N-1)/Ak R+1<=1000:=by
 obtain⟨rfl,rfl,rfl,rfl,rfl,hs,hf⟩:=h;simp only[Gu,Acm]at hs;simp only[BM,Acm]at hf;have hd:4000/C<=4000:=Atr _ _;omega
theorem HdI.Amy{f c w r n:Int}{F C W R N:Nat}(h:HdI f c w r n F C W R N):Hf f c w r n=some (Al (Ak R) N):=by
 have hn:=h.num;obtain⟨rfl,rfl,rfl,rfl,rfl,hs,hf⟩:=h;rw[Hf,fY (by omega) (by omega) (by omega)];rfl
section
variable {f c w r n:Nat} (h1:Gu f c w r n=true) (h2:BM c r n=true)
include h1 h2
theorem Aj8(k:Nat)(hk:k<= (Al (Ak r) n).length):∀(j i q:Nat),i+j=k->j<q->Ms (k:Int) (f:Int) (c:Int) (w:Int) (r:Int) (n:Int) (Al (Ak r) n) q (((Al (Ak r) n).take i).sum) (i:Int)=some (GR c w (Al (Ak r) n) k)
 |0,i,q+1,hi,_=>by
  obtain⟨hc,hw,hr,hn,_⟩:=Of h1;obtain⟨g1,g2,g3⟩:=PX h1 h2;have b:=jZ g1 i;obtain rfl:i=k:=by omega
  have hb:((Al (Ak r) n).take i).sum.toNat*(c*wB (w:Int))<=4000*(6*3):=Bed (by omega) (Bed hc.2 (Abz (w:Int)).2);rw[Ms,Zk,Aau (by rw[Ae];simp),RB,TH,Fs,Aa];simp only;rw[WJ,Bkr hc.2 hw,Aa,GR];have e:((Al (Ak r) n).take i).sum=((((Al (Ak r) n).take i).sum.toNat:Nat):Int):=by omega
  rw[e,Ez (by rw[<-Aos];omega) (by rw[<-Aos];omega),<-Aos];rfl
 |j+1,i,q+1,hi,hq=>by
  obtain⟨g1,g2,g3⟩:=PX h1 h2;have hK:=Aha h2;have hlt:i<(Al (Ak r) n).length:=by omega
  have b1:=jZ g1 i;have b2:=jZ g1 (i+1);have e:=Jw hlt;have ih:=Aj8 k hk j (i+1) q (by omega) (by omega);rw[e]at ih;rw[Ms,Zk,Abm (by rw[Ae];simp;omega),Bn hlt,Aa,Aa,Ah (by omega) (by omega),Ah (by omega) (by omega)];exact ih
theorem Anl(k:Nat)(hk:k<= (Al (Ak r) n).length):Yu (f:Int) (c:Int) (w:Int) (r:Int) (n:Int) (k:Int)=some (GR c w (Al (Ak r) n) k):=by
 have hK:=Aha h2;obtain⟨g1,g2,g3⟩:=PX h1 h2;obtain⟨hc,hw,hr,hn,_⟩:=Of h1;have h:=Aj8 h1 h2 k hk k 0 Ax (by omega) (by have:=As;omega);rw[Bix,Bns]at h;rw[Yu,RV,Hf,fY hr.2 hn g3,Aa,Aa];exact h
theorem Arw{i:Nat}(hlt:i<(Al (Ak r) n).length):Ad (GR c w (Al (Ak r) n) i) (Br (Bf (Bf ((Al (Ak r) n)[i]) (c:Int)) (w:Int)) 8)=GR c w (Al (Ak r) n) (i+1):=by
 obtain⟨hc,hw,hr,hn,_⟩:=Of h1;obtain⟨g1,g2,g3⟩:=PX h1 h2;have b1:=jZ g1 i;have b2:=jZ g1 (i+1);have e:=Jw hlt;have h0:=g1 _ (Ap3 hlt);have e2:(Al (Ak r) n)[i]=(((Al (Ak r) n)[i].toNat:Nat):Int):=by omega
 have hb:((Al (Ak r) n).take (i+1)).sum.toNat*(c*wB (w:Int))<=4000*(6*3):=Bed (by omega) (Bed hc.2 (Abz (w:Int)).2);rw[e2,Bk0 (by omega) hc.2 hw,GR,GR];have e3:((Al (Ak r) n).take (i+1)).sum.toNat=((Al (Ak r) n).take i).sum.toNat+(Al (Ak r) n)[i].toNat:=by omega
 rw[e3,Al6]at hb⊢;rw[Ah (by omega) (by omega)];omega
theorem Ajn(a:Nat)(ha:a<= (Al (Ak r) n).length)(o p:LB)(m:LI)(a':Int)(N:LB)(u:Bool)(v:Int):∀(j i q:Nat),i+j=a->j<q->
  Rk ((Al (Ak r) n).take a) o p (f:Int) (c:Int) (w:Int) (r:Int) (n:Int) m a' N u v q (GR c w (Al (Ak r) n) i) (i:Int)=some (gle (Ac N) (GR c w (Al (Ak r) n) a))
 |0,i,q+1,hi,_=>by
  obtain rfl:i=a:=by omega
  rw[Rk,EK,Aau (by rw[Ae,Ac,Afz];simp;omega),UO,mA]
 |j+1,i,q+1,hi,hq=>by
  have hK:=Aha h2;have hlt:i<(Al (Ak r) n).length:=by omega
  have hlt2:i<((Al (Ak r) n).take a).length:=by rw[Afz];omega
  have ih:=Ajn a ha o p m a' N u v j (i+1) q (by omega) (by omega);rw[Rk,EK,Abm (by rw[Ae,Ac];simp;omega),Bn hlt2,Aa,List.getElem_take,Arw h1 h2 hlt,Ah (by omega) (by omega)];exact ih
end
theorem Adf{α:Type}(l:List α):geq (Ac l) 0=decide (l=[]):=by
 cases l with
 |nil=>rfl
 |cons x l=>rw[Ar,Ac,Apu,Bib (by simp),beq_eq_false_iff_ne];omega
theorem Ama{α:Type}(l:List α):Ed (Ac l) 0=decide (l≠ []):=by
 cases l with
 |nil=>rfl
 |cons x l=>rw[Aq,Ac,Apu,Bjs (by simp)];simp
inductive FitD (o:LB) (f c w r n:Int) (g:LI) (a:Int) (x:LB):Prop
 |new:f=0->c=0->w=0->r=0->n=0->g=[]->a=0->x=[]->FitD o f c w r n g a x
 |head (F C W R N:Nat):HdI f c w r n F C W R N-> (o==([]:LB))=decide (F=1)->g=[]->a=0->x=[]->FitD o f c w r n g a x
 |tab (F C W R N A:Nat):HdI f c w r n F C W R N-> (o==([]:LB))=decide (F=1)->Zg g=true->g.length=(Al (Ak R) N).length->a=A->A<=g.length->FitD o f c w r n g a x
theorem As5(f c w r n:Int)(o:LB):Px f c w r n o=Ev f c w r n o:=rfl
theorem Ar5(o p:LB)(f c w r n:Int)(g:LI)(a:Int)(x:LB)(u:Bool)(v:Int):
  (BN o p f c w r n g a x u v=some false/\Mn o p f c w r n g a x u v=some false)\/
  (BN o p f c w r n g a x u v=some true/\Mn o p f c w r n g a x u v=Cs o p f c w r n g a x u v/\FitD o f c w r n g a x):=by
 rw[BN,UF,Mn,Xr];by_cases hz:f=0/\c=0/\w=0/\r=0/\n=0
 ·obtain⟨rfl,rfl,rfl,rfl,rfl⟩:=hz;rw[Abm (by decide),Abm (by decide),Adf,Adf,Ama,Ama];by_cases h:g=[]/\a=0/\x=[]
  ·obtain⟨rfl,rfl,rfl⟩:=h;exact .inr ⟨rfl,by rw[Aau (by decide)], .new rfl rfl rfl rfl rfl rfl rfl rfl⟩
  ·refine .inl ⟨?_,?_⟩
   ·congr 1;rw[Bool.eq_false_iff];intro e;simp only[Adr,Acm,Ar,Aur]at e;exact h ⟨e.1.1,e.1.2,e.2⟩
   ·rw[Abm];simp only[Baq,Acm,Aj,Bo3];by_cases e1:g=[]
    ·by_cases e2:a=0
     ·exact .inr λe3=>h ⟨e1,e2,e3⟩
     ·exact .inl (.inr e2)
    ·exact .inl (.inl e1)
 ·have hz2:¬(((geq f 0)&&((geq c 0)&&((geq w 0)&&((geq r 0)&&((geq n 0)&&true)))))=true):=by
   simp only[Adr,Ar,Aur,Bpl];exact hz
  rw[Aau hz2,Aau hz2];rcases Axz f c w r n with⟨F,C,W,R,N,h⟩|⟨e1,e2⟩
  ·rw[h.Aa5,h.check,Aa,Aa,As5];simp only;rw[Aau (by decide),Aau (by decide),Ev];have hf:geq f 1=decide (F=1):=by rw[h.ef,Ar,Ajs];simp;omega
   rw[hf];by_cases hp:(o==([]:LB))=decide (F=1)
   ·rw[Aau (by rw[hp];simp),Aa,Aa,Aau (by decide),Aau (by decide),UX,UT,Qu,Qo,Adf,Adf,Ama];by_cases hg:g=[]
    ·subst hg;rw[Abm (by simp),Abm (by simp)];by_cases h':a=0/\x=[]
     ·obtain⟨rfl,rfl⟩:=h';exact .inr ⟨rfl,by rw[Aau (by decide)], .head F C W R N h hp rfl rfl rfl⟩
     ·refine .inl ⟨?_,?_⟩
      ·congr 1;rw[Bool.eq_false_iff];intro e;simp only[Adr,Acm,Ar,Aur]at e;exact h' e
      ·rw[Abm];simp only[Baq,Acm,Aj,Bo3];by_cases e2:a=0
       ·exact .inr λe3=>h' ⟨e2,e3⟩
       ·exact .inl e2
    ·rw[Aau (by simpa using hg),Aau (by simpa using hg),aN,fH,Aa,Aa];by_cases ht:Zg g=true
     ·rw[Abm ht,h.Amy];simp only[Aa];by_cases hl:g.length=(Al (Ak R) N).length/\0<=a/\a<=g.length
      ·obtain⟨hl,ha0,ha1⟩:=hl;obtain⟨A,rfl⟩:=Ais ha0;have hA:A<= (Al (Ak R) N).length:=by omega
       rw[Aau (by simp[Aj,Ae,Aq,Ac];omega),Aau (by decide),Aau (by simp[Aj,Ae,Aq,Ac];omega),Dj (by omega) (by omega),Aa,UH];have hh:=h;clear hf;obtain⟨rfl,rfl,rfl,rfl,rfl,hs,hf⟩:=hh;have hlp:=Ajn hs hf A hA o p g (A:Int) x u v A 0 Ax (by omega) (by have:=As;have:=Aha hf;omega);have h0:GR C W (Al (Ak R) N) 0=0:=by rw[GR,Bix,Bns];simp
       rw[h0,show((0:Nat):Int)=0 from rfl]at hlp;rw[show((A:Int)).toNat=A from rfl,hlp,Anl hs hf A hA,Aa];by_cases hx:(x.length:Int)<=GR C W (Al (Ak R) N) A
       ·refine .inr ⟨?_,?_, .tab F C W R N A h hp ht hl rfl (by omega)⟩
        ·rw[VV,Ac,Bjs hx]
        ·rw[Aau (by rw[Aq,Ac];simp;omega)]
       ·refine .inl ⟨?_,?_⟩
        ·rw[VV,Ac,Bib hx]
        ·rw[Abm (by rw[Aq,Ac];simp;omega)]
      ·refine .inl ⟨?_,?_⟩
       ·rw[Abm (by simp[Aj,Ae,Aq,Ac];omega)]
       ·rw[Aau (by decide),Abm (by simp[Aj,Ae,Aq,Ac];omega)]
     ·refine .inl ⟨?_,?_⟩
      ·rw[Aau ht,Abm (by simp[Aj])]
      ·rw[Aau ht,Abm (by decide),Abm (by simp)]
   ·rw[Abm (by simpa using hp),Aa,Aa,Abm (by decide),Abm (by decide)];exact .inl ⟨rfl,rfl⟩
  ·rw[e1,e2,Aa,Aa];simp only;rw[Abm (by decide),Abm (by decide)];exact .inl ⟨rfl,rfl⟩
theorem Bd1(b:List UInt8)(n:Int):Cd (iO b n).2:=by
 unfold iO
 repeat' split
 all_goals first|decide|exact .inl rfl
theorem Bbp(b:List UInt8):(BU b).2=6\/Cd (BU b).2:=by
 unfold BU Ab1
 repeat' split
 all_goals first|exact .inl rfl|exact .inr (Bd1 _ _)|exact .inr (by decide)
theorem Axq(b:List UInt8):(Lg b).2=6\/Cd (Lg b).2:=by
 unfold Lg
 repeat' split
 all_goals first|exact .inl rfl|exact .inr (.inl rfl)|exact .inr (by decide)
theorem Bcu(b:List UInt8):(Da b).2=6\/Cd (Da b).2:=by
 unfold Da;split
 ·exact Bbp b
 ·exact Axq b
theorem Aja(b:List UInt8):∀(j p:Nat),p<=b.length->b.length<j+p->Cd (Cr b j p).2
 |0,p,h1,h2=>by omega
 |j+1,p,h1,h2=>by
  rw[Cr];split
  ·exact .inl rfl
  ·rename_i h6;split
   ·exact(Bcu _).resolve_left h6
   ·rename_i h0;split
    ·exact(by decide:Cd 4)
    ·have hz:Da (b.drop p)=((Da (b.drop p)).1,0):=by rw[Prod.ext_iff];exact⟨rfl,by simpa using h0⟩
     obtain⟨k1,k2⟩:=rI hz;rw[Agn]at k2;split
     ·exact .inl rfl
     ·exact Aja b j _ (by omega) (by omega)
theorem Aao(b:List UInt8):Cd (Bs b).2:=by
 unfold Bs Aix;split
 ·exact .inl rfl
 ·exact Aja b _ _ (by omega) (by omega)
theorem Aas(b:List UInt8):0<= (Bs b).2:=(Aao b).nn
theorem Aej(b:List UInt8):Cd (Er b).2.2.2.2.2:=by
 unfold Er
 repeat' split
 all_goals first|decide|exact .inl rfl
theorem Aih(b:List UInt8):0<= (Er b).2.2.2.2.2:=(Aej b).nn
theorem Bb6(b:List UInt8){n:Nat}(h:1<=n/\n<=1000):Cd (Eo b n).2:=by
 unfold Eo;rw[Aau (λe=>e h)]
 repeat' split
 all_goals first|decide|exact .inl rfl
theorem Ae5(b:List UInt8)(n:Nat):0<= (Eo b n).2:=by
 unfold Eo
 repeat' split
 all_goals simp
def ID3:List UInt8:=[73,68,51]
def APX:List UInt8:=[65,80,69,84,65,71,69,88]
def Pa(b s:List UInt8):Bool:=decide (b.length<s.length)&&(b==s.take b.length)
theorem Akf(b s:List UInt8):Tu b s=some (Pa b s):=by
 rw[Tu,Pa];by_cases h:b.length<s.length
 ·rw[Abm (by rw[Ae,Ac,Ac];simp;omega),Ac,Dj (by omega) (by omega),Aa,Bjs h,Bmh];rfl
 ·rw[Aau (by rw[Ae,Ac,Ac];simp;omega),Bib h];rfl
theorem Bae(b s:List UInt8)(h:b.length<s.length):Kl s b=some (Pa b s):=by
 rw[Kl,Hp,Abm (by rw[Dw,Ac,Ac];simp;omega),Ac,Dj (by omega) (by omega),Aa,Aa,Pa,Bjs h,Bmh,Afx];congr 1;rw[Ajs,Aur,Aur];exact eq_comm
theorem sR{b s:List UInt8}(h:¬b.length<s.length):Pa b s=false:=by rw[Pa,Bib h];rfl
theorem Bd8(b:List UInt8):Rp b=some (Pa b ID3||Pa b APX):=by
 obtain⟨q,hq⟩:∃q,Ax=q+3:=⟨Ax-3,by have:=As;omega⟩;have l3:Ld b (q+1) 2=some false:=by rw[Ld,Wq,Aau (by decide)];rfl
 have l2:Ld b (q+2) 1=some (Pa b APX):=by
  rw[Ld,Wq,Abm (by decide),show Ap ([([73,68,51]:LB),([65,80,69,84,65,71,69,88]:LB)]:List LB) 1=some APX from rfl,Aa,show Ad (1:Int) 1=2 from rfl];by_cases h:b.length<APX.length
  ·rw[Abm (by rw[Ae,Ac,Ac];simp;omega),Bae b APX h,Aa];by_cases hb:Pa b APX=true
   ·rw[Abm hb,hb]
   ·rw[Aau hb,l3];simpa using hb
  ·rw[Aau (by rw[Ae,Ac,Ac];simp;omega),l3,sR h]
 rw[Rp,UR,UZ,hq,Ld,Wq,Abm (by decide),show Ap ([([73,68,51]:LB),([65,80,69,84,65,71,69,88]:LB)]:List LB) 0=some ID3 from rfl,Aa,show Ad (0:Int) 1=1 from rfl];by_cases h:b.length<ID3.length
 ·rw[Abm (by rw[Ae,Ac,Ac];simp;omega),Bae b ID3 h,Aa];by_cases hb:Pa b ID3=true
  ·rw[Abm hb,hb];rfl
  ·rw[Aau hb,l2,Bool.eq_false_iff.2 hb];rfl
 ·rw[Aau (by rw[Ae,Ac,Ac];simp;omega),l2,sR h];rfl
def stS(b:List UInt8):Int×Int×Int×Int×Int×Int×Int:=
 if(Bs b).2=24 then(0,0,0,0,0,0, -1)else if(Bs b).2≠0 then(0,0,0,0,0,0,(Bs b).2)else
 if(Pa (Ii b) ID3||Pa (Ii b) APX)=true then(0,0,0,0,0,0, -1)else
 if(Er (Ii b)).2.2.2.2.2=24 then(0,0,0,0,0,0, -1)else((Bs b).1+22,(Er (Ii b)).1,(Er (Ii b)).2.1,(Er (Ii b)).2.2.1,(Er (Ii b)).2.2.2.1,(Er (Ii b)).2.2.2.2.1,(Er (Ii b)).2.2.2.2.2)
theorem AQ(b:List UInt8)(hb:b.length<=100000):Zq b=some (stS b):=by
 rw[Zq,HB,AY b (by omega),Aa,stS];have hok:=BB (b:=b);simp only;by_cases h1:(Bs b).2=24
 ·rw[Abm (by rw[Ar];simpa using h1),Abm h1]
 rw[Aau (by rw[Ar];simpa using h1),Aau h1];by_cases h2:(Bs b).2≠0
 ·rw[Abm (by rw[Aj];simpa using h2),Abm h2]
 have h0:(Bs b).2=0:=by simpa using h2
 obtain⟨k1,k2,k3⟩:=hok h0;rw[Aau (by rw[Aj,h0];simp),Aau h2,Cb (by omega) (by omega),Aa,Akf,Aa,show b.drop (Bs b).1.toNat=Ii b from rfl,show([73,68,51]:LB)=ID3 from rfl,show([65,80,69,84,65,71,69,88]:LB)=APX from rfl];by_cases h3:Pa (Ii b) ID3=true
 ·rw[Abm h3,h3,Bool.true_or,Abm rfl]
 rw[Aau h3,Akf,Aa,Bool.eq_false_iff.2 h3,Bool.false_or];by_cases h4:Pa (Ii b) APX=true
 ·rw[Abm h4,Abm h4]
 have hl:(Ii b).length<=b.length:=by rw[Ii,Agn];omega
 rw[Aau h4,Aau h4,GH,GG,iN _ (by omega),Aa];simp only;by_cases h5:(Er (Ii b)).2.2.2.2.2=24
 ·rw[Abm (by rw[Ar];simpa using h5),Abm h5]
 ·rw[Aau (by rw[Ar];simpa using h5),Aau h5,Ah (by omega) (by omega)]
theorem Oj{p q:LB}{n:Nat}(h:n<=p.length):(p++q).take n=p.take n:=by rw[Bnw h]
theorem yM{p q:LB}{i:Nat}(h:i<p.length):(p++q).getD i 0=p.getD i 0:=by
 rw[List.getD_eq_getElem?_getD,List.getElem?_append_left h,<-List.getD_eq_getElem?_getD]
theorem Rw{p q:LB}{a w:Nat}(h:a+w<=p.length):part (p++q) a w=part p a w:=by rw[part,Oj h,part]
theorem Bd4{p q s:LB}(h:Pa p s=false)(hl:p.length<s.length):(p++q).take s.length≠s:=by
 intro e;rw[Pa,Bjs hl,Bmh]at h;have h1:p=s.take p.length:=by
  have:=congrArg (List.take p.length) e;rw[List.take_take,Bem (by omega),Oj (Arj _),Azx]at this;exact this
 rw[<-h1]at h;simp at h
theorem Ajg{p:LB}(q:LB)(h:(BU p).2≠24)(h6:Pa p ID3=false):BU (p++q)=BU p:=by
 unfold BU at h⊢;by_cases h3:3<=p.length/\p.take 3=[73,68,51]
 ·have h3':3<= (p++q).length/\ (p++q).take 3=[73,68,51]:=⟨by rw[Abq];omega,by rw[Oj h3.1];exact h3.2⟩;have n1:¬ ¬(3<=p.length/\p.take 3=[73,68,51]):=λf=>f h3;have n2:¬ ¬(3<= (p++q).length/\ (p++q).take 3=[73,68,51]):=λf=>f h3';rw[Aau n1]at h;rw[Aau n1,Aau n2];by_cases h10:p.length<10
  ·rw[Abm h10]at h;exact absurd rfl h
  ·have h10':¬(p++q).length<10:=by rw[Abq];omega
   rw[Aau h10]at h;rw[Aau h10,Aau h10',Rw (by omega),yM (by omega),yM (by omega),yM (by omega)];split
   ·rfl
   ·rename_i hc;rw[Aau hc]at h;unfold Ab1 iO at h⊢;rw[yM (by omega)];generalize(dY (part p 6 4) 0).1+10+(if p.getD 5 0=16 then 10 else 0)=n at h⊢;by_cases c1:4000<n
    ·rw[Abm c1,Abm c1]
    ·rw[Aau c1]at h;rw[Aau c1,Aau c1];by_cases c2:(p.length:Int)<n
     ·rw[Abm c2]at h;exact absurd rfl h
     ·have c2':¬((p++q).length:Int)<n:=by rw[Abq];omega
      rw[Aau c2,Aau c2',Oj (by omega),Rw (by omega)]
 ·rw[Abm h3,Abm];rintro⟨_,h5⟩;by_cases hl:3<=p.length
  ·rw[Oj hl]at h5;exact h3 ⟨hl,h5⟩
  ·exact Bd4 h6 (by simp[ID3];omega) h5
theorem Atu{p:LB}(q:LB)(h:(Lg p).2≠24)(h6:Pa p APX=false):Lg (p++q)=Lg p:=by
 unfold Lg at h⊢;by_cases h3:8<=p.length/\p.take 8=APE
 ·have h3':8<= (p++q).length/\ (p++q).take 8=APE:=⟨by rw[Abq];omega,by rw[Oj h3.1];exact h3.2⟩;have n1:¬ ¬(8<=p.length/\p.take 8=APE):=λf=>f h3;have n2:¬ ¬(8<= (p++q).length/\ (p++q).take 8=APE):=λf=>f h3';rw[Aau n1]at h;rw[Aau n1,Aau n2];by_cases h10:p.length<32
  ·rw[Abm h10]at h;exact absurd rfl h
  ·have h10':¬(p++q).length<32:=by rw[Abq];omega
   have eb:HL (p++q)=HL p:=by rw[HL,HL,Rw (by omega),Rw (by omega)]
   rw[Aau h10]at h;rw[Aau h10,Aau h10',Rw (by omega),Rw (by omega),eb,Oj (n:=32) (by omega)];split
   ·rfl
   ·rename_i hc;rw[Aau hc]at h;by_cases c2:p.length<Fy (part p 12 4)+32
    ·rw[Abm c2]at h;exact absurd rfl h
    ·have c2':¬(p++q).length<Fy (part p 12 4)+32:=by rw[Abq];omega
     rw[Aau c2,Aau c2',Oj (by omega)]
 ·rw[Abm h3,Abm];rintro⟨_,h5⟩;by_cases hl:8<=p.length
  ·rw[Oj hl]at h5;exact h3 ⟨hl,h5⟩
  ·exact Bd4 h6 (by simp[APX];omega) h5
theorem Aab{p:LB}(q:LB)(h:(Da p).2≠24)(h6:(Da p).2=6->Pa p ID3=false/\Pa p APX=false):Da (p++q)=Da p:=by
 have Blf:∀s:LB,s.length<=p.length->Pa p s=false:=λs hs=>sR (by omega);unfold Da at h h6⊢;by_cases hT:(BU p).2≠6
 ·rw[Abm hT]at h⊢;have h3:Pa p ID3=false:=by
   refine Blf _ ?_;unfold BU at hT;by_cases h3:3<=p.length/\p.take 3=[73,68,51]
   ·simp[ID3];omega
   ·rw[Abm h3]at hT;exact absurd rfl hT
  rw[Ajg q h h3,Abm hT]
 ·rw[Aau hT]at h h6⊢;have hb:Pa p ID3=false/\Pa p APX=false:=by
   by_cases hA:(Lg p).2=6
   ·exact h6 hA
   ·unfold Lg at hA;by_cases h3:8<=p.length/\p.take 8=APE
    ·exact⟨Blf _ (by simp[ID3];omega),Blf _ (by simp[APX];omega)⟩
    ·rw[Abm h3]at hA;exact absurd rfl hA
  have hT':¬(BU (p++q)).2≠6:=by
   rw[Ajg q (by simp only[ne_eq,Classical.not_not]at hT;rw[hT];decide) hb.1];exact hT
  rw[Aau hT',Atu q h hb.2]
theorem Aet{p:LB}(q:LB):∀(j s j':Nat),s<=p.length->p.length-s<j->p.length+q.length-s<j'-> (Cr p j s).2≠24->
  ((Cr p j s).2=0->Pa (p.drop (s+(Cr p j s).1.sum.toNat)) ID3=false/\Pa (p.drop (s+(Cr p j s).1.sum.toNat)) APX=false)->Cr (p++q) j' s=Cr p j s
 |0,s,j',_,hj,_,_,_=>absurd hj (Bez _)
 |j+1,s,0,_,_,hj,_,_=>absurd hj (Bez _)
 |j+1,s,j'+1,hs,hj,hj',h,hb=>by
  have ed:(p++q).drop s=p.drop s++q:=Azv hs;rw[Cr]at h hb⊢;rw[Cr,ed];by_cases h6:(Da (p.drop s)).2=6
  ·rw[Abm h6]at h hb⊢;have hb':=hb rfl;simp only[Bns,Int.toNat_zero,Blb]at hb';rw[Aab q (by rw[h6];decide) (λ_=>hb'),Abm h6]
  ·rw[Aau h6]at h hb⊢;by_cases h0:(Da (p.drop s)).2≠0
   ·rw[Abm h0]at h⊢;rw[Aab q h (λe=>absurd e h6),Aau h6,Abm h0]
   ·rw[Aau h0]at h hb⊢;have h0':(Da (p.drop s)).2=0:=by simpa using h0
    have e1:Da (p.drop s++q)=Da (p.drop s):=Aab q (by rw[h0'];decide) (λe=>absurd e h6);rw[e1,Aau h6,Aau h0];have hok:=rI (b:=p.drop s) (n:=(Da (p.drop s)).1) (by rw[<-h0']);rw[Agn]at hok;by_cases hm:4000<(s:Int)+(Da (p.drop s)).1
    ·rw[Abm hm,Abm hm]
    ·rw[Aau hm]at h hb⊢;rw[Aau hm];have hl1:s+(Da (p.drop s)).1.toNat<=p.length:=by omega
     have ih:=Aet (p:=p) q j (s+(Da (p.drop s)).1.toNat) j' hl1 (by omega) (by omega);by_cases hr:(Cr p j (s+(Da (p.drop s)).1.toNat)).2=0
     ·rw[Abm hr]at hb⊢;have hle1:s+(Da (p.drop s)).1.toNat<=p.length:=by omega
      have hle2:s+(Da (p.drop s)).1.toNat<=4000:=by omega
      have hi:=(sZ p j (s+(Da (p.drop s)).1.toNat) hle1 hle2 hr).1;have hsum:(0:Int)<= (Cr p j (s+(Da (p.drop s)).1.toNat)).1.sum:=by
       have:∀l:List Int,(∀x∈l,10<=x)->0<=l.sum:=by
        intro l
        induction l with
        |nil=>intro _;simp
        |cons a l ih=>intro h;rw[Azy];have:=h a (by simp);have:=ih (λx hx=>h x (by simp[hx]));omega
       exact this _ hi
      rw[ih (by rw[hr];decide) (λ_=>by
       have:=hb rfl;simp only[Azy]at this;rw[show s+((Da (p.drop s)).1+(Cr p j (s+(Da (p.drop s)).1.toNat)).1.sum).toNat=s+(Da (p.drop s)).1.toNat+(Cr p j (s+(Da (p.drop s)).1.toNat)).1.sum.toNat by omega]at this;exact this),Abm hr]
     ·rw[Aau hr]at h⊢;rw[ih h (λe=>absurd e hr),Aau hr]
theorem Ahf{p:LB}(q:LB)(h:(Bs p).2≠24)(hb:(Bs p).2=0->Pa (Ii p) ID3=false/\Pa (Ii p) APX=false):Bs (p++q)=Bs p:=by
 have key:Cr (p++q) ((p++q).length+1) 0=Cr p (p.length+1) 0:=by
  refine Aet q (p.length+1) 0 ((p++q).length+1) (Nat.zero_le _) (by omega) (by rw[Abq];omega) ?_ ?_
  ·unfold Bs Aix at h;by_cases h0:(Cr p (p.length+1) 0).2=0
   ·rw[h0];decide
   ·rw[Aau h0]at h;exact h
  ·intro h0;have e:Bs p=(((0:Nat):Int)+(Cr p (p.length+1) 0).1.sum,0):=by unfold Bs Aix;rw[Abm h0]
   have:=hb (by rw[e]);rw[Ii,e]at this;simpa using this
 unfold Bs Aix;rw[key]
theorem Azn{p:LB}(q:LB)(h:(Er p).2.2.2.2.2≠24):Er (p++q)=Er p:=by
 unfold Er at h⊢;by_cases h1:p.take (min 4 p.length)≠BW.take (min 4 p.length)
 ·have h1':(p++q).take (min 4 (p++q).length)≠BW.take (min 4 (p++q).length):=by
   intro e;have hle:min 4 p.length<=min 4 (p++q).length:=by rw[Abq];omega
   have:=congrArg (List.take (min 4 p.length)) e;rw[List.take_take,List.take_take,Bem hle,Oj (by omega)]at this;exact h1 this
  rw[Abm h1,Abm h1']
 ·rw[Aau h1]at h;by_cases h2:p.length<22
  ·rw[Abm h2]at h;exact absurd rfl h
  ·have h2':¬(p++q).length<22:=by rw[Abq];omega
   have h1':¬(p++q).take (min 4 (p++q).length)≠BW.take (min 4 (p++q).length):=by
    rw[Bem (by omega)]at h1⊢;rw[Oj (by omega)];exact h1
   have e0:f0 (p++q)=f0 p:=by unfold f0;rw[Rw (by omega)]
   have e1:f1 (p++q)=f1 p:=by unfold f1;rw[Rw (by omega)]
   have e2:f2 (p++q)=f2 p:=by unfold f2;rw[Rw (by omega)]
   have e3:f3 (p++q)=f3 p:=by unfold f3;rw[Rw (by omega)]
   have e4:f4 (p++q)=f4 p:=by unfold f4;rw[Rw (by omega)]
   rw[Aau h1,Aau h1',Aau h2,Aau h2',e0,e1,e2,e3,e4,Oj (by omega),Rw (by omega)]
theorem Bgh{p:LB}(q:LB)(h:(stS p).2.2.2.2.2.2≠ -1):stS (p++q)=stS p:=by
 unfold stS at h⊢;by_cases h1:(Bs p).2=24
 ·rw[Abm h1]at h;exact absurd rfl h
 rw[Aau h1]at h;by_cases h2:(Bs p).2≠0
 ·rw[Ahf q h1 (λe=>absurd e h2),Aau h1,Abm h2,Aau h1,Abm h2]
 rw[Aau h2]at h;have h0:(Bs p).2=0:=by simpa using h2
 by_cases h3:(Pa (Ii p) ID3||Pa (Ii p) APX)=true
 ·rw[Abm h3]at h;exact absurd rfl h
 rw[Aau h3]at h;have h3f:Pa (Ii p) ID3=false/\Pa (Ii p) APX=false:=by
  simp only[Bool.not_eq_true,Bom]at h3;exact h3
 have eF:=Ahf q h1 (λ_=>h3f);obtain⟨k1,k2,k3⟩:=BB h0;have eH:Ii (p++q)=Ii p++q:=by rw[Ii,eF,Ii,Azv (by omega)]
 by_cases h5:(Er (Ii p)).2.2.2.2.2=24
 ·rw[Abm h5]at h;exact absurd rfl h
 have eR:Er (Ii p++q)=Er (Ii p):=Azn q h5;have beg:∀s:LB,Pa (Ii p) s=false-> (s=ID3\/s=APX)->Pa (Ii p++q) s=false:=by
  intro s hs hk;by_cases hl:(Ii p++q).length<s.length
  ·have hp:(Ii p).length<s.length:=by rw[Abq]at hl;omega
   rw[Pa,Bjs hp,Bmh]at hs;rw[Pa,Bjs hl,Bmh];refine beq_eq_false_iff_ne.2 λe=>?_;have:=congrArg (List.take (Ii p).length) e;rw[Oj (Arj _),Azx,List.take_take,Bem (by rw[Abq];omega)]at this;rw[<-this]at hs;simp at hs
  ·exact sR hl
 rw[eF,eH,eR,Aau h1,Aau h2,beg _ h3f.1 (.inl rfl),beg _ h3f.2 (.inr rfl),Aau (by decide),Aau h5,Aau h1,Aau h2,Aau h3]
theorem Ays{p:LB}(q:LB)(n:Nat)(h:(Eo p n).2≠24):Eo (p++q) n=Eo p n:=by
 unfold Eo at h⊢;by_cases h1:1<=n/\n<=1000
 ·have n1:¬ ¬(1<=n/\n<=1000):=λf=>f h1;rw[Aau n1]at h;rw[Aau n1,Aau n1];by_cases h2:p.length<4*n+4
  ·rw[Abm h2]at h;exact absurd rfl h
  ·have h2':¬(p++q).length<4*n+4:=by rw[Abq];omega
   have et:XG (p++q) n=XG p n:=by
    unfold XG;refine Bnl λi hi=>?_;rw[List.mem_range]at hi;rw[Rw (by omega)]
   rw[Aau h2,Aau h2',Oj (by omega),Rw (by omega),et]
 ·rw[Abm h1,Abm h1]
def Aso(g a:LB)(k p o u v:Int)(f:LI)(b:Int)(h:LB)(m:Bool)(n:Int):Option Int:=
if(geq k 0)then
(Je a).bind λ(al,ba)=>
if(geq ba 24)then
Fj true 0
else
if(Bc ba 0)then
(Am ba).bind λ(bx,bz)=>
Fj bx bz
else
(Bq a al (Ac a)).bind λda=>
(Rp da).bind λan=>
if an then
Fj true 0
else
(Bq a al (Ac a)).bind λdb=>
(Mz db).bind λ(ae,af,aa,ag,ab,bb)=>
if(geq bb 24)then
Fj true 0
else
if(Bc bb 0)then
(Am bb).bind λ(dc,dd)=>
Fj dc dd
else
(
(Bq a (Ad al 22) (Ac a)).bind λak=>
(
Zc g ak ae af aa ag ab b m n f h))
else
if(geq (Ac f) 0)then
if(geq k 2)then
if(Cq (Ac a) 8)then
Kc true 0
else
Yz g a k p o u v b m n f h
else
Ke g a k p o u v b m n f h 0
else
if(Cq b (Ac f))then
(Ap f b).bind λ_=>
(Ap f b).bind λw=>
if(Cq (Ac a) w)then
Ig true 0
else
(Nh g).bind λ(ap,am)=>
if(Bc am 0)then
(Am am).bind λ(de,df)=>
Ig de df
else
(Ds k p o u v).bind λ(ad,dg)=>
if((Bc dg 0)||(Nf b (Ac ad)))then
(Am 8).bind λ(dh,di)=>
Ig dh di
else
Yn w g a k p o u v b m n ap ad f h
else
if(Ed (Ac a) 4000)then
(Am 38).bind λ(dj,bf)=>
Bv ((dj==true)&&((geq bf 0)&&true))
else
Yq
theorem vV(d:Bool)(e:Int):Fj d e=Bv (d&&geq e 0):=by
 rw[Fj,KB];cases d<;>simp
theorem Agq(d:Bool)(e:Int):Kc d e=Bv (d&&geq e 0):=by
 rw[Kc,KZ];cases d<;>simp
theorem As2(d:Bool)(e:Int):Ig d e=Bv (d&&geq e 0):=by
 rw[Ig,IE];cases d<;>simp
theorem rp4{o p:LB}{f c w r n:Int}{g:LI}{a:Int}{x:LB}{u:Bool}{v:Int}{t1 t2:LB}{t3 t4 t5 t6 t7:Int}{t8:LI}{t9:Int}{t10:LB}{t11:Bool}{t12 e:Int}
  (h:Ag o p f c w r n g a x u v=some (t1,t2,t3,t4,t5,t6,t7,t8,t9,t10,t11,t12,e)):Cs o p f c w r n g a x u v=some (geq e (-1)):=by
 rw[Cs,Xy,h,Aa]
theorem jT{e:Int}(h:0<=e):geq e (-1)=false:=by rw[Ar,beq_eq_false_iff_ne];omega
theorem Axl(o p:LB)(c w r n:Int)(g:LI)(a:Int)(x:LB)(u:Bool)(v:Int)(hp:p.length<=100000):
  ∃B:Bool,Aso o p 0 c w r n g a x u v=Bv B/\Cs o p 0 c w r n g a x u v=some B:=by
 have hT:Ag o p 0 c w r n g a x u v=Ag o p 0 c w r n g a x u v:=rfl
 conv at hT=>rhs;rw[Ag,Bo,Abm (by decide),AQ p hp,Aa,stS]
 have hfn:=Aas p;have hrn:=Aih (Ii p);rw[Aso,Abm (by decide),Tz p (by omega),Aa];have hok:=BB (b:=p);simp only at hT⊢;by_cases h1:(Bs p).2=24
 ·rw[Abm h1]at hT;simp only at hT;rw[Abm (by decide)]at hT;rw[Abm (by rw[Ar];simpa using h1),vV];exact⟨_,rfl,rp4 hT⟩
 rw[Aau h1]at hT;rw[Aau (by rw[Ar];simpa using h1)];by_cases h2:(Bs p).2≠0
 ·rw[Abm h2]at hT;simp only at hT;rw[Abm (by rw[Aj];simpa using h2)]at hT;rw[Abm (by rw[Aj];simpa using h2),Am,Aa];simp only;rw[vV];exact⟨_,rfl,(rp4 hT).trans (by rw[jT hfn];rfl)⟩
 have h0:(Bs p).2=0:=by simpa using h2
 obtain⟨k1,k2,k3⟩:=hok h0;have hl:(Ii p).length=p.length-(Bs p).1.toNat:=by rw[Ii,Agn]
 rw[Aau h2]at hT;rw[Aau (by rw[Aj,h0];simp),Cb (by omega) (by omega),Aa,Aa,show p.drop (Bs p).1.toNat=Ii p from rfl,Bd8,Aa];by_cases h3:(Pa (Ii p) ID3||Pa (Ii p) APX)=true
 ·rw[Abm h3]at hT⊢;simp only at hT;rw[Abm (by decide)]at hT;rw[vV];exact⟨_,rfl,rp4 hT⟩
 rw[Aau h3]at hT⊢;rw[XX _ (by omega),Aa];by_cases h5:(Er (Ii p)).2.2.2.2.2=24
 ·rw[Abm h5]at hT;simp only at hT;rw[Abm (by decide)]at hT;rw[Abm (by rw[Ar];simpa using h5),vV];exact⟨_,rfl,rp4 hT⟩
 rw[Aau h5]at hT;rw[Aau (by rw[Ar];simpa using h5)];simp only at hT;by_cases h6:(Er (Ii p)).2.2.2.2.2≠0
 ·rw[Abm (by rw[Aj];simpa using h6)]at hT⊢;rw[Am,Aa];simp only;rw[vV];exact⟨_,rfl,(rp4 hT).trans (by rw[jT hrn];rfl)⟩
 have h7:(Er (Ii p)).2.2.2.2.2=0:=by simpa using h6
 have h22:=(oP h7).2.1;rw[Aau (by rw[Aj,h7];simp),Cb (by omega) (by omega),Aa,Hl,Hm,Ev]at hT;rw[Aau (by rw[Aj,h7];simp),Ah (by omega) (by omega),Cb (by omega) (by omega),Aa,Zc,ML,Px];simp only;by_cases h8:((o==([]:LB)) !=geq (Er (Ii p)).1 1)=true
 ·rw[Abm h8]at hT⊢;rw[Aa]at hT⊢;rw[Am,Aa];simp only;rw[vV];exact⟨_,rfl,rp4 hT⟩
 ·rw[Aau h8]at hT⊢;rw[Aa]at hT⊢;rw[Am,Aa];simp only;rw[vV];exact⟨_,rfl,rp4 hT⟩
section
variable {f c w r n:Int} {F C W R N:Nat} (hd:HdI f c w r n F C W R N)
include hd
theorem HdI.ne0:¬(geq f 0=true):=by
 have:=hd.num;rw[Ar,Aur,hd.ef];omega
theorem zS(o p:LB)(hp:p.length<=100000)(A:Nat)(hA:A<=p.length)(a:Int)(x:LB)(u:Bool)(v:Int):
  (Ke o p f c w r n a u v [] x (A:Int)=Bv (decide ((Eo (p.drop A) (Al (Ak R) N).length).2=24)))/\
  Dq p f c w r n (A:Int)=some (if(Eo (p.drop A) (Al (Ak R) N).length).2=24 then(0,[], -1)else((A:Int)+(4*((Eo (p.drop A) (Al (Ak R) N).length).1.length:Int)+4),(Eo (p.drop A) (Al (Ak R) N).length).1,(Eo (p.drop A) (Al (Ak R) N).length).2))/\
  ((Eo (p.drop A) (Al (Ak R) N).length).2=0-> (A:Int)+(4*((Eo (p.drop A) (Al (Ak R) N).length).1.length:Int)+4)<=p.length):=by
 have hs:=rS (p.drop A) (Al (Ak R) N).length (by rw[Agn];omega);have hr:=Agi (p.drop A) (Al (Ak R) N).length (by rw[Agn];omega);have hok:=gA (b:=p.drop A) (n:=(Al (Ak R) N).length);have hlen:(Eo (p.drop A) (Al (Ak R) N).length).1.length<=1000:=by
  unfold Eo
  repeat' split
  all_goals simp[Wy]
  all_goals omega
 have hfit:(Eo (p.drop A) (Al (Ak R) N).length).2=0-> (A:Int)+(4*((Eo (p.drop A) (Al (Ak R) N).length).1.length:Int)+4)<=p.length:=by
  intro h0;obtain⟨k1,k2,k3,k4,_⟩:=hok h0;rw[k1];simp only[Wy];rw[Agn]at k4;omega
 refine⟨?_,?_,hfit⟩
 ·rw[Ke,KJ,hd.Aa5,Aa];simp only;rw[Aau (by decide),Cb (by omega) (by omega),Aa,Afx,Ac,hs,Aa];generalize Eo (p.drop A) (Al (Ak R) N).length=z at*
  obtain⟨z1,z2⟩:=z;simp only at*
  by_cases h1:z2=24
  ·rw[Abm (by rw[Ar];simpa using h1),Agq,Bjs h1];rfl
  rw[Aau (by rw[Ar];simpa using h1),Bib h1];by_cases h2:z2≠0
  ·rw[Abm (by rw[Aj];simpa using h2),Am,Aa];simp only;rw[Agq];rfl
  ·have h0:z2=0:=by simpa using h2
   have:=hfit h0;rw[Aau (by rw[Aj,h0];simp),Ac,Ag5 A z1.length (by omega) (by omega),Cb (by omega) (by omega),Aa,Agq];rfl
 ·rw[Dq,IM,Cb (by omega) (by omega),Aa,hd.Amy,Aa,Ac,Afx,hr,Aa];generalize Eo (p.drop A) (Al (Ak R) N).length=z at*
  obtain⟨z1,z2⟩:=z;simp only at*
  rw[KK,MI];by_cases h1:z2=24
  ·rw[Abm (by rw[Ar];simpa using h1),Abm h1]
  ·rw[Aau (by rw[Ar];simpa using h1),Aau h1,Ac,Ag5 A z1.length (by omega) (by omega)];congr 2
theorem Be0(o p:LB)(ho:o.length<=64)(hp:p.length<=100000)(a:Int)(x:LB)(u:Bool)(v:Int):
  ∃B:Bool,Aso o p f c w r n [] a x u v=Bv B/\Cs o p f c w r n [] a x u v=some B:=by
 have hT:Ag o p f c w r n [] a x u v=Ag o p f c w r n [] a x u v:=rfl
 conv at hT=>rhs;rw[Ag,Bo,Aau hd.ne0,Bt,Bu,Abm (by decide),Ff,Ht]
 rw[Aso,Aau hd.ne0,Abm (by decide)];have fin:∀A:Nat,A<=p.length->Ag o p f c w r n [] a x u v=(Dq p f c w r n (A:Int)).bind (λ(ag,ak,w1)=>
   if(Bc w1 0)then some (o,p,f,c,w,r,n,[],a,x,u,v,w1)else(Bq p ag (Ac p)).bind λal=>some (o,al,f,c,w,r,n,ak,a,x,u,v,0))->
   ∃B:Bool,Ke o p f c w r n a u v [] x (A:Int)=Bv B/\Cs o p f c w r n [] a x u v=some B:=by
  intro A hA hT;obtain⟨t1,t2,t3⟩:=zS hd o p hp A hA a x u v;have hnn:=Ae5 (p.drop A) (Al (Ak R) N).length;rw[t2,Aa]at hT;rw[t1];generalize Eo (p.drop A) (Al (Ak R) N).length=z at*
  obtain⟨z1,z2⟩:=z;simp only at*
  by_cases h1:z2=24
  ·rw[Abm h1]at hT;simp only at hT;rw[Abm (by decide)]at hT;exact⟨_,rfl,(rp4 hT).trans (by rw[Bjs h1];rfl)⟩
  rw[Aau h1]at hT;simp only at hT;by_cases h2:z2≠0
  ·rw[Abm (by rw[Aj];simpa using h2)]at hT;exact⟨_,rfl,(rp4 hT).trans (by rw[Bib h1,jT hnn])⟩
  ·have h0:z2=0:=by simpa using h2
   have:=t3 h0;rw[Aau (by rw[Aj,h0];simp),Cb (by omega) (by omega),Aa]at hT;exact⟨_,rfl,(rp4 hT).trans (by rw[Bib h1];rfl)⟩
 by_cases h2:geq f 2=true
 ·rw[Abm h2]at hT⊢;by_cases h8:p.length<8
  ·rw[Abm (by rw[Ae,Ac];simp;omega)]at hT⊢;rw[Aa]at hT;simp only at hT;rw[Abm (by decide)]at hT;rw[Agq];exact⟨_,rfl,rp4 hT⟩
  ·rw[Aau (by rw[Ae,Ac];simp;omega)]at hT⊢;have h8':(p.take 8).length=8:=by rw[Afz];omega
   rw[Dj (by omega) (by omega),Aa,iJ o ho,Aa]at hT;rw[Yz,MS,Dj (by omega) (by omega),Aa,show(8:Int).toNat=8 from rfl,Aeo h8' ho,Aa];rw[show(8:Int).toNat=8 from rfl]at hT;simp only;rw[KY,MK,Aau (by decide)];by_cases he:(p.take 8==Xf (Ws o).toNat 8)=true
   ·rw[Aau (by rw[bne,he];decide)]at hT;rw[Aau (by rw[he];decide)];exact fin 8 (by omega) hT
   ·have he':(p.take 8==Xf (Ws o).toNat 8)=false:=by simpa using he
    rw[Abm (by rw[bne,he'];decide),Aa]at hT;simp only at hT;rw[Abm (by decide)]at hT;rw[Abm (by rw[he'];decide),Am,Aa];simp only;rw[Agq];exact⟨_,rfl,rp4 hT⟩
 ·rw[Aau h2]at hT⊢;exact fin 0 (by omega) hT
end
theorem Azr{f c w r n:Int}{F C W R N:Nat}(hd:HdI f c w r n F C W R N)(o p:LB)(ho:o.length<=64)(hp:p.length<=100000)(g:LI)(hg:Zg g=true)(hl:g.length=(Al (Ak R) N).length)(A:Nat)(hA:A<=g.length)(x:LB)(hx:x.length<=14000000)(u:Bool)(v:Int):
  ∃B:Bool,Aso o p f c w r n g (A:Int) x u v=Bv B/\Cs o p f c w r n g (A:Int) x u v=some B:=by
 have hc:=hd.ec;subst hc;have hg':=hg;rw[Zg,Adr,Acm,KS g 100000 (by omega)]at hg';obtain⟨⟨g1,g2⟩,g5,g6⟩:=hg';have hT:Ag o p f (C:Int) w r n g (A:Int) x u v=Ag o p f (C:Int) w r n g (A:Int) x u v:=rfl
 conv at hT=>rhs;rw[Ag,Bo,Aau hd.ne0,Bt,Bu,Aau (by rw[Ar,Ac];simp;intro e;subst e;simp at g1)]
 rw[Aso,Aau hd.ne0,Aau (by rw[Ar,Ac];simp;intro e;subst e;simp at g1)];by_cases hA2:A=g.length
 ·subst hA2;rw[Abm (by rw[Ar,Ac];simp)]at hT;rw[Aau (by rw[Ae,Ac];simp)];by_cases h4:4000<p.length
  ·rw[Abm (by rw[Aq,Ac];simp;omega)]at hT⊢;rw[Am,Aa];simp only;exact⟨_,rfl,rp4 hT⟩
  ·rw[Aau (by rw[Aq,Ac];simp;omega)]at hT⊢;rw[Yq,IH];exact⟨_,rfl,rp4 hT⟩
 ·have hlt:A<g.length:=by omega
  have h5:=g5 g[A] (Ap3 hlt);have hsum:=Aes g5 g[A] (Ap3 hlt);rw[Aau (by rw[Ar,Ac];simp;omega),Df,Ep,Bn hlt,Aa]at hT;rw[Abm (by rw[Ae,Ac];simp;omega),Bn hlt,Aa,Aa];by_cases hw:(p.length:Int)<g[A]
  ·rw[Abm (by rw[Ae,Ac];simpa using hw)]at hT⊢;rw[Aa]at hT;simp only at hT;rw[Abm (by decide)]at hT;rw[As2];exact⟨_,rfl,rp4 hT⟩
  rw[Aau (by rw[Ae,Ac];simpa using hw)]at hT⊢;have DV:=hd.num;have hlt2:A<(Al (Ak R) N).length:=by omega
  obtain⟨m,hm,m1,m2⟩:=Wk (Ej R) DV.2.2.2.2.1 (Ap3 hlt2);have hb:Bm w:=by rw[hd.ew];unfold Bm;omega
  obtain⟨xs,e,d1,d2,d3,d4⟩:=SM (bits:=w) (ch:=C) (n:=m) (t:=Nd o) (p.take g[A].toNat) hb (Mf o) DV.2.1.1 DV.2.1.2 m1 (by omega);have hnn:=sK hb (Mf o) DV.2.1.1 DV.2.1.2 m1 (by omega) d2;rw[XU o ho,Aa];simp only;rw[Aau (by decide),hd.Aa5,Aa];simp only;rw[Aau (by simp[Aj,Dw,Ac];omega),Yn,MQ,Bn hlt2,Aa,Dj (by omega) (by omega),Aa,Aa,DP,Aa];simp only;rw[hm,d1,Aa];simp only;rw[SH o ho,Aa]at hT;simp only at hT;rw[Dj (by omega) (by omega),Aa,Fs,Aa]at hT;simp only at hT;rw[hd.Amy,Aa,Bn hlt2,Aa,Aa,hm]at hT;rw[d2,Aa]at hT;simp only at hT;rw[El,En]at hT;rw[MC,Yo];by_cases he:e≠0
  ·rw[Abm (by rw[Aj];simpa using he)]at hT⊢;rw[Aa]at hT;simp only at hT;rw[Abm (by rw[Aj];simpa using he)]at hT;rw[Am,Aa];simp only;rw[As2];exact⟨_,rfl,(rp4 hT).trans (by rw[jT hnn];rfl)⟩
  ·have he0:e=0:=by simpa using he
   obtain⟨k1,k2,k3⟩:=d3 he0;have hbl:=FO w xs;rw[Aau (by rw[Aj,he0];simp)]at hT⊢;rw[QB hb k2 k1,Aa,Aa]at hT;simp only at hT;rw[Aau (by decide),Bi (by simp;omega),Aa,Aro,Bi (by omega),Aa,Aa,Cb (by omega) (by omega),Aa]at hT;rw[XY hb k2 k1,Aa];simp only;rw[Aau (by decide),Bi (by omega),Aa,Cb (by omega) (by omega),Aa,As2];exact⟨_,rfl,rp4 hT⟩
theorem Anx(a:LI)(b:Int)(ha:a.length<=100):∀(j i q:Nat),i+j=a.length->j<q->∃r,Cc a b q (i:Int)=some r/\Nf r 0=(a.drop i).any λy=>b==y
 |0,i,q+1,hi,_=>by
  refine⟨-1,?_,?_⟩
  ·rw[Cc,Fi,Aau (by rw[Ae,Ac];simp;omega)];rfl
  ·rw[show i=a.length by omega,Bla];rfl
 |j+1,i,q+1,hi,hq=>by
  have hlt:i<a.length:=by omega
  obtain⟨r,h1,h2⟩:=Anx a b ha j (i+1) q (by omega) (by omega);rw[Cc,Fi,Abm (by rw[Ae,Ac];simp;omega),Bn hlt,Aa,drop_cons hlt,List.any_cons];by_cases h:b=a[i]
  ·rw[Abm (by rw[Ar];simpa using h)];refine⟨_,rfl,?_⟩;rw[Dw,Bjs (by omega),h];simp
  ·rw[Aau (by rw[Ar];simpa using h),Ah (by omega) (by omega)];refine⟨r,h1,?_⟩;rw[h2,beq_eq_false_iff_ne.2 h,Bool.false_or]
theorem Bbm(v:Int):∃B:Bool,Tf v=some B/\Zn v=some B:=by
 obtain⟨r,h1,h2⟩:=Anx [4,12,16,22,24,26,38] v (by decide) 7 0 Ax rfl (by have:=As;omega);refine⟨_,?_,rfl⟩;rw[Tf,Ik,Kv,Il,Iq];have h1':Cc [4,12,16,22,24,26,38] v Ax 0=some r:=h1;rw[h1',Aa,Aa,h2];simp only[List.drop_zero,List.any_cons,List.any_nil,Bool.or_false,Ar,Bool.or_assoc]
theorem vM(B:Bool):Bv B=some (if B=true then 0 else 8):=by
 rw[Bv,cZ];cases B<;>rfl
theorem Bf8(a b:LB)(f g h k m:Int)(n:LI)(o:Int)(p:LB)(u:Bool)(v:Int)(hb:b.length<=16000000)(hn:n.length<=16000000)(hp:p.length<=16000000):
  Ek a b f g h k m n o p u v=some (a,b,f,g,h,k,m,n,o,p,u,v):=by
 rw[Ek,Mv,Bi (by simp;omega),Aa,Aa,Mv,Bi (by simp;omega),Aa,Aa,Ha,Bi (by simp;omega),Aa,Aa];rfl
theorem Afg(o p:LB)(f c w r n:Int)(g:LI)(a:Int)(x:LB)(u:Bool)(v:Int)(hp:p.length<=100000)(hg:g.length<=100000)(hx:x.length<=14000000):
  ∃E,Pd o p f c w r n g a x u v=some E/\Dz o p f c w r n g a x u v=some E:=by
 rw[Pd,BD,Dz];by_cases ho:64<o.length
 ·rw[Abm (by rw[Aq,Ac];simp;omega),Abm (by rw[Aq,Ac];simp;omega)];exact⟨8,rfl,rfl⟩
 have hO:¬(Ed (Ac o) 64=true):=by rw[Aq,Ac];simp;omega
 rw[Aau hO,Aau hO];by_cases hw:(geq v 0&& !u)=true
 ·rw[Abm hw,Abm hw,Bf8 o p f c w r n g a x u v (by omega) (by omega) (by omega),Aa];simp only;rcases Ar5 o p f c w r n g a x u v with⟨e1,e2⟩|⟨e1,e2,hd⟩
  ·rw[e1,e2,Aa,Aa,Aau (by decide),Abm (by decide),vM];exact⟨8,rfl,rfl⟩
  ·rw[e1,e2,Aa,Abm rfl];have key:∃B:Bool,Aso o p f c w r n g a x u v=Bv B/\Cs o p f c w r n g a x u v=some B:=by
    cases hd with
    |new e1 e2 e3 e4 e5 e6 e7 e8=>subst e1;exact Axl o p c w r n g a x u v hp
    |head F C W R N h hpw e6 e7 e8=>subst e6;exact Be0 h o p (by omega) hp a x u v
    |tab F C W R N A h hpw ht hl ea hA=>subst ea;exact Azr h o p (by omega) hp g ht hl A hA x hx u v
   obtain⟨B,k1,k2⟩:=key;rw[k2,Aa];refine⟨if B=true then 0 else 8,k1.trans (vM B),?_⟩;cases B<;>rfl
 ·rw[Aau hw,Aau hw];by_cases hl:(geq (Ac p) 0&&geq (Ac g) 0)=true
  ·rw[Abm hl,Abm hl];generalize(geq f 0&&(geq c 0&&(geq w 0&&(geq r 0&&(geq n 0&&true)))))=z;by_cases hz:((z&&geq a 0)&&gle (Ac x) 12000)=true
   ·rw[Abm hz];simp only[Adr,VV,Ac,Acm]at hz;obtain⟨⟨z1,z2⟩,z3⟩:=hz;have hN:¬((!(z&&geq a 0)||Ed (Ac x) 12000)=true):=by rw[z1,z2,Aq,Ac];simp;omega
    rw[Aau hN];by_cases hv:v=0
    ·have v1:geq v 0=true:=by rw[Ar];simpa using hv
     have v2:¬(Bc v 0=true):=by rw[Aj];simpa using hv
     rw[Abm v1,Aau v2,vM];exact⟨0,rfl,rfl⟩
    ·have v1:¬(geq v 0=true):=by rw[Ar];simpa using hv
     have v2:Bc v 0=true:=by rw[Aj];simpa using hv
     rw[Aau v1,Abm v2];obtain⟨B,k1,k2⟩:=Bbm v;rw[k1,k2,Aa,Aa,vM,vM];cases u
     ·refine⟨if B=true then 0 else 8,by simp,?_⟩;cases B<;>rfl
     ·exact⟨8,rfl,rfl⟩
   ·rw[Aau hz,Abm,vM]
    ·exact⟨8,rfl,rfl⟩
    ·simp only[Adr,VV,Ac,Acm]at hz;simp only[Baq,Azt,Aq,Ac,Acm];by_cases hz2:(z&&geq a 0)=true
     ·rw[Adr]at hz2;exact .inr (by have hq:¬((x.length:Int)<=12000):=λh=>hz ⟨hz2,h⟩;omega)
     ·exact .inl (by simpa using hz2)
  ·rw[Aau hl,Aau hl,Aau (by simp),Abm (by simp),vM];exact⟨8,rfl,rfl⟩
def aQ(bk:LB->Int->Int->Int->Int->Int->Int->LI->LB->Au)(o:LB)(u:Bool)(v:Int):LB->Int->Int->Int->Int->Int->Int->LI->LB->Au:=
 Jl (Ph bk o u v) (Uh bk o u v) (Mg bk o u v) (Vf bk o u v) (Mb bk o u v) (Pf bk o u v) (Um bk o u v) (Ck bk o u v) (AX bk o u v) o u v
structure SzD (p:LB) (g:LI) (a:Int) (x:LB):Prop where
 hp:p.length<=100000
 hg:g.length<=1000
 hx:x.length+12000*(g.length-a.toNat)<=13000000
def muD(f:Int)(g:LI)(a:Int):Nat:=if f=0 then 1003 else if g=[]then 1002 else g.length-a.toNat+1
section
variable {bk:LB->Int->Int->Int->Int->Int->Int->LI->LB->Au} {o p:LB} {f c w r n:Int} {g:LI} {a:Int} {x:LB} {u:Bool} {v:Int}
theorem Bdh(hp:p.length<=100000)(hg:g.length<=1000)(hx:x.length<=13000000):Ek o p f c w r n g a x u v=some (o,p,f,c,w,r,n,g,a,x,u,v):=by
 rw[Ek,Mv,Bi (by simp;omega),Aa,Aa,Mv,Bi (by simp;omega),Aa,Aa,Ha,Bi (by simp;omega),Aa,Aa];rfl
theorem Bl4(h:SzD p g a x)(e:Int):Ck bk o u v p f c w r n a true e g x=some (o,p,f,c,w,r,n,g,a,x,u,v,0):=by
 rw[Ck,PW,Abm rfl,Bdh h.hp h.hg (by have:=h.hx;omega),Aa]
theorem Bml{e:Int}(h:e≠0):Ck bk o u v p f c w r n a false e g x=some (o,[],0,0,0,0,0,[],0,x,false,e,e):=by
 rw[Ck,PW,Aau (by decide),Abm (by rw[Aj];simpa using h)];rfl
inductive StepR (bk:LB->Int->Int->Int->Int->Int->Int->LI->LB->Au) (o p:LB) (f c w r n:Int) (g:LI) (a:Int) (x:LB) (u:Bool) (v:Int):Prop
 |wait:aQ bk o u v p f c w r n a g x=some (o,p,f,c,w,r,n,g,a,x,u,v,0)->Ag o p f c w r n g a x u v=some (o,p,f,c,w,r,n,g,a,x,u,v, -1)->StepR bk o p f c w r n g a x u v
 |err (e:Int) {t1 t2:LB} {t3 t4 t5 t6 t7:Int} {t8:LI} {t9:Int} {t10:LB} {t11:Bool} {t12:Int}:0<e->aQ bk o u v p f c w r n a g x=some (o,[],0,0,0,0,0,[],0,x,false,e,e)->
   Ag o p f c w r n g a x u v=some (t1,t2,t3,t4,t5,t6,t7,t8,t9,t10,t11,t12,e)->StepR bk o p f c w r n g a x u v
 |next (p':LB) (f' c' w' r' n':Int) (g':LI) (a':Int) (x':LB):aQ bk o u v p f c w r n a g x=bk p' f' c' w' r' n' a' g' x'->Ag o p f c w r n g a x u v=some (o,p',f',c',w',r',n',g',a',x',u,v,0)->
   FitD o f' c' w' r' n' g' a' x'->SzD p' g' a' x'->p'.length<=p.length->muD f' g' a'<muD f g a->StepR bk o p f c w r n g a x u v
theorem f62{d:Bool}{e:Int}:Ph bk o u v a g x d e p f c w r n=Ck bk o u v p f c w r n a d e g x:=rfl
theorem f75{d:Bool}{e:Int}:Mg bk o u v f c w r n a x d e p g=Ck bk o u v p f c w r n a d e g x:=rfl
theorem f78{d:Bool}{e:Int}:Pf bk o u v f c w r n g d e p a x=Ck bk o u v p f c w r n a d e g x:=rfl
theorem mkW(hZ:SzD p g a x)(hF:aQ bk o u v p f c w r n a g x=Ck bk o u v p f c w r n a true 0 g x)(hT:Ag o p f c w r n g a x u v=some (o,p,f,c,w,r,n,g,a,x,u,v, -1)):StepR bk o p f c w r n g a x u v:=
 .wait (hF.trans (Bl4 hZ 0)) hT
theorem mkE{e:Int}{p2:LB}{f2 c2 w2 r2 n2 a2:Int}{g2:LI}{t1 t2:LB}{t3 t4 t5 t6 t7:Int}{t8:LI}{t9:Int}{t10:LB}{t11:Bool}{t12:Int}(he:0<e)(hF:aQ bk o u v p f c w r n a g x=Ck bk o u v p2 f2 c2 w2 r2 n2 a2 false e g2 x)
  (hT:Ag o p f c w r n g a x u v=some (t1,t2,t3,t4,t5,t6,t7,t8,t9,t10,t11,t12,e)):StepR bk o p f c w r n g a x u v:= .err e he (hF.trans (Bml (by omega))) hT
theorem HdI.fnz{F C W R N:Nat}(h:HdI f c w r n F C W R N):f≠0:=by
 have:=h.num;rw[h.ef];omega
theorem Ban(hp:p.length<=100000):StepR bk o p 0 0 0 0 0 [] 0 [] u v:=by
 have hZ:SzD p [] 0 []:=⟨hp,by simp,by simp⟩;have hT:Ag o p 0 0 0 0 0 [] 0 [] u v=Ag o p 0 0 0 0 0 [] 0 [] u v:=rfl
 conv at hT=>rhs;rw[Ag,Bo,Abm (by decide),AQ p hp,Aa,stS]
 have hF:aQ bk o u v p 0 0 0 0 0 0 [] []=aQ bk o u v p 0 0 0 0 0 0 [] []:=rfl
 conv at hF=>rhs;rw[aQ,Jl,Abm (by decide),Tz p (by omega),Aa]
 have hfn:=Aas p;have hrn:=Aih (Ii p);have hok:=BB (b:=p);simp only at hT hF;by_cases h1:(Bs p).2=24
 ·rw[Abm h1]at hT;simp only at hT;rw[Abm (by decide)]at hT;rw[Abm (by rw[Ar];simpa using h1)]at hF;exact mkW hZ hF hT
 rw[Aau h1]at hT;rw[Aau (by rw[Ar];simpa using h1)]at hF;by_cases h2:(Bs p).2≠0
 ·rw[Abm h2]at hT;simp only at hT;rw[Abm (by rw[Aj];simpa using h2)]at hT;rw[Abm (by rw[Aj];simpa using h2),Am,Aa]at hF;exact mkE (by omega) hF hT
 have h0:(Bs p).2=0:=by simpa using h2
 obtain⟨k1,k2,k3⟩:=hok h0;have hl:(Ii p).length=p.length-(Bs p).1.toNat:=by rw[Ii,Agn]
 rw[Aau h2]at hT;rw[Aau (by rw[Aj,h0];simp),Cb (by omega) (by omega),Aa,Aa,show p.drop (Bs p).1.toNat=Ii p from rfl,Bd8,Aa]at hF;by_cases h3:(Pa (Ii p) ID3||Pa (Ii p) APX)=true
 ·rw[Abm h3]at hT hF;simp only at hT;rw[Abm (by decide)]at hT;exact mkW hZ hF hT
 rw[Aau h3]at hT hF;rw[XX _ (by omega),Aa]at hF;by_cases h5:(Er (Ii p)).2.2.2.2.2=24
 ·rw[Abm h5]at hT;simp only at hT;rw[Abm (by decide)]at hT;rw[Abm (by rw[Ar];simpa using h5)]at hF;exact mkW hZ hF hT
 rw[Aau h5]at hT;rw[Aau (by rw[Ar];simpa using h5)]at hF;simp only at hT;by_cases h6:(Er (Ii p)).2.2.2.2.2≠0
 ·rw[Abm (by rw[Aj];simpa using h6)]at hT hF;rw[Am,Aa]at hF;exact mkE (by have:=hrn;generalize(Er (Ii p)).2.2.2.2.2=z at *;omega) (hF.trans f62) hT
 have h7:(Er (Ii p)).2.2.2.2.2=0:=by simpa using h6
 obtain⟨r1,h22,r3,r4⟩:=oP h7;rw[Aau (by rw[Aj,h7];simp),Cb (by omega) (by omega),Aa,Hl,Hm,Ev]at hT;rw[Aau (by rw[Aj,h7];simp),Ah (by omega) (by omega),Cb (by omega) (by omega),Aa,Uh,OD,Px]at hF;simp only at hT hF;by_cases h8:((o==([]:LB)) !=geq (Er (Ii p)).1 1)=true
 ·rw[Abm h8]at hT hF;rw[Aa]at hT hF;rw[Am,Aa]at hF;simp only at hF;exact mkE (by decide) (hF.trans f62) hT
 ·rw[Aau h8]at hT hF;rw[Aa]at hT hF;rw[Am,Aa]at hF;have hd:HdI (Er (Ii p)).1 (Er (Ii p)).2.1 (Er (Ii p)).2.2.1 (Er (Ii p)).2.2.2.1 (Er (Ii p)).2.2.2.2.1 (f0 (Ii p)) (f1 (Ii p)) (f2 (Ii p)) (f3 (Ii p)) (f4 (Ii p)):=by
   constructor<;>first|(rw[r1])|assumption
  refine .next _ _ _ _ _ _ [] 0 [] (by exact hF) hT (.head _ _ _ _ _ hd ?_ rfl rfl rfl) ⟨by rw[Agn];omega,by simp,by simp⟩ (by rw[Agn];omega) ?_
  ·have e:geq (Er (Ii p)).1 1=decide (f0 (Ii p)=1):=by rw[hd.ef,Ar,Ajs];simp;omega
   rw[<-e];simpa using h8
  ·rw[muD,muD,Aau hd.fnz,Abm rfl,Abm rfl];omega
section
variable {F C W R N:Nat} (hd:HdI f c w r n F C W R N)
include hd
theorem Avq(hp:p.length<=100000)(hpw:(o==([]:LB))=decide (F=1))(A:Nat)(hA:A<=p.length)
  (hT:Ag o p f c w r n [] 0 [] u v=(Dq p f c w r n (A:Int)).bind (λ(ag,ak,w1)=>if(Bc w1 0)then some (o,p,f,c,w,r,n,([]:LI),(0:Int),([]:LB),u,v,w1)else(Bq p ag (Ac p)).bind λal=>some (o,al,f,c,w,r,n,ak,(0:Int),([]:LB),u,v,(0:Int))))
  (hF:aQ bk o u v p f c w r n 0 [] []=Mb bk o u v p f c w r n 0 [] [] (A:Int)):StepR bk o p f c w r n [] 0 [] u v:=by
 have hZ:SzD p [] 0 []:=⟨hp,by simp,by simp⟩;obtain⟨_,t2,t3⟩:=zS hd o p hp A hA 0 [] u v;have hs:=rS (p.drop A) (Al (Ak R) N).length (by rw[Agn];omega);have hnn:=Ae5 (p.drop A) (Al (Ak R) N).length;have hok:=gA (b:=p.drop A) (n:=(Al (Ak R) N).length);rw[t2,Aa]at hT;rw[Mb,PQ,hd.Aa5,Aa]at hF;simp only at hF;rw[Aau (by decide),Cb (by omega) (by omega),Aa,Afx,Ac,hs,Aa]at hF;generalize hz:Eo (p.drop A) (Al (Ak R) N).length=z at*
 obtain⟨z1,z2⟩:=z;simp only at*
 by_cases h1:z2=24
 ·rw[Abm h1]at hT;simp only at hT;rw[Abm (by decide)]at hT;rw[Abm (by rw[Ar];simpa using h1)]at hF;exact mkW hZ hF hT
 rw[Aau h1]at hT;rw[Aau (by rw[Ar];simpa using h1)]at hF;simp only at hT;by_cases h2:z2≠0
 ·rw[Abm (by rw[Aj];simpa using h2)]at hT hF;rw[Am,Aa]at hF;exact mkE (by omega) hF hT
 ·have h0:z2=0:=by simpa using h2
  subst h0;have h3:=t3 rfl;obtain⟨k1,k2,k3,k4,k5,k6⟩:=hok rfl;simp only[Ae3,Bpl]at k1;have hl:z1.length=(Al (Ak R) N).length:=by rw[k1];exact Wy _ _
  rw[<-k1]at k5 k6;rw[Aau (by decide),Cb (by omega) (by omega),Aa]at hT;rw[Aau (by decide),Ac,Ag5 A z1.length (by omega) (by omega),Cb (by omega) (by omega),Aa]at hF;have hne:z1≠ []:=by intro e;rw[e]at hl;simp at hl;omega
  refine .next _ _ _ _ _ _ z1 0 [] (by exact hF) hT (.tab _ _ _ _ _ 0 hd hpw ?_ hl rfl (by omega)) ⟨by rw[Agn];omega,by omega,by simp;omega⟩ (by rw[Agn];omega) ?_
  ·rw[Zg,Adr,Acm,KS z1 100000 (by omega)];exact⟨by omega,k5,k6⟩
  ·rw[muD,muD,Aau hd.fnz,Aau hd.fnz,Abm rfl,Aau hne];simp;omega
theorem Ayv(ho:o.length<=64)(hp:p.length<=100000)(hpw:(o==([]:LB))=decide (F=1)):StepR bk o p f c w r n [] 0 [] u v:=by
 have hZ:SzD p [] 0 []:=⟨hp,by simp,by simp⟩;have hT:Ag o p f c w r n [] 0 [] u v=Ag o p f c w r n [] 0 [] u v:=rfl
 conv at hT=>rhs;rw[Ag,Bo,Aau hd.ne0,Bt,Bu,Abm (by decide),Ff,Ht]
 have hF:aQ bk o u v p f c w r n 0 [] []=aQ bk o u v p f c w r n 0 [] []:=rfl
 conv at hF=>rhs;rw[aQ,Jl,Aau hd.ne0,Abm (by decide)]
 by_cases h2:geq f 2=true
 ·rw[Abm h2]at hT hF;by_cases h8:p.length<8
  ·rw[Abm (by rw[Ae,Ac];simp;omega)]at hT hF;rw[Aa]at hT;simp only at hT;rw[Abm (by decide)]at hT;exact mkW hZ hF hT
  ·rw[Aau (by rw[Ae,Ac];simp;omega)]at hT hF;have h8':(p.take 8).length=8:=by rw[Afz];omega
   rw[Dj (by omega) (by omega),Aa,iJ o ho,Aa]at hT;rw[Vf,PL,Dj (by omega) (by omega),Aa,show(8:Int).toNat=8 from rfl,Aeo h8' ho,Aa]at hF;rw[show(8:Int).toNat=8 from rfl]at hT;simp only at hF;rw[QE,OJ,Aau (by decide)]at hF;by_cases he:(p.take 8==Xf (Ws o).toNat 8)=true
   ·rw[Aau (by rw[bne,he];decide)]at hT;rw[Aau (by rw[he];decide)]at hF;exact Avq hd hp hpw 8 (by omega) hT hF
   ·have he':(p.take 8==Xf (Ws o).toNat 8)=false:=by simpa using he
    rw[Abm (by rw[bne,he'];decide),Aa]at hT;simp only at hT;rw[Abm (by decide)]at hT;rw[Abm (by rw[he'];decide),Am,Aa]at hF;simp only at hF;exact mkE (by decide) (hF.trans f75) hT
 ·rw[Aau h2]at hT hF;exact Avq hd hp hpw 0 (by omega) hT hF
theorem Bds(ho:o.length<=64)(hpw:(o==([]:LB))=decide (F=1))(hg:Zg g=true)(hl:g.length=(Al (Ak R) N).length)(A:Nat)(hA:A<=g.length)(hZ:SzD p g (A:Int) x):StepR bk o p f c w r n g (A:Int) x u v:=by
 have hp:=hZ.hp;have hx:=hZ.hx;have hc:=hd.ec;subst hc;have hg':=hg;rw[Zg,Adr,Acm,KS g 100000 (by omega)]at hg';obtain⟨⟨g1,g2⟩,g5,g6⟩:=hg';have hgn:¬(geq (Ac g) 0=true):=by rw[Ar,Ac];simp;intro e;subst e;simp at g1
 have hT:Ag o p f (C:Int) w r n g (A:Int) x u v=Ag o p f (C:Int) w r n g (A:Int) x u v:=rfl
 conv at hT=>rhs;rw[Ag,Bo,Aau hd.ne0,Bt,Bu,Aau hgn]
 have hF:aQ bk o u v p f (C:Int) w r n (A:Int) g x=aQ bk o u v p f (C:Int) w r n (A:Int) g x:=rfl
 conv at hF=>rhs;rw[aQ,Jl,Aau hd.ne0,Aau hgn]
 by_cases hA2:A=g.length
 ·subst hA2;rw[Abm (by rw[Ar,Ac];simp)]at hT;rw[Aau (by rw[Ae,Ac];simp)]at hF;by_cases h4:4000<p.length
  ·rw[Abm (by rw[Aq,Ac];simp;omega)]at hT hF;rw[Am,Aa]at hF;exact mkE (by decide) hF hT
  ·rw[Aau (by rw[Aq,Ac];simp;omega)]at hT hF;exact mkW hZ hF hT
 ·have hlt:A<g.length:=by omega
  have h5:=g5 g[A] (Ap3 hlt);have hsum:=Aes g5 g[A] (Ap3 hlt);rw[Aau (by rw[Ar,Ac];simp;omega),Df,Ep,Bn hlt,Aa]at hT;rw[Abm (by rw[Ae,Ac];simp;omega),Bn hlt,Aa,Aa]at hF;by_cases hw:(p.length:Int)<g[A]
  ·rw[Abm (by rw[Ae,Ac];simpa using hw)]at hT hF;rw[Aa]at hT;simp only at hT;rw[Abm (by decide)]at hT;exact mkW hZ hF hT
  rw[Aau (by rw[Ae,Ac];simpa using hw)]at hT hF;have DV:=hd.num;have hlt2:A<(Al (Ak R) N).length:=by omega
  obtain⟨m,hm,m1,m2⟩:=Wk (Ej R) DV.2.2.2.2.1 (Ap3 hlt2);have hb:Bm w:=by rw[hd.ew];unfold Bm;omega
  obtain⟨xs,e,d1,d2,d3,d4⟩:=SM (bits:=w) (ch:=C) (n:=m) (t:=Nd o) (p.take g[A].toNat) hb (Mf o) DV.2.1.1 DV.2.1.2 m1 (by omega);have hnn:=sK hb (Mf o) DV.2.1.1 DV.2.1.2 m1 (by omega) d2;rw[XU o ho,Aa]at hF;simp only at hF;rw[Aau (by decide),hd.Aa5,Aa]at hF;simp only at hF;rw[Aau (by simp[Aj,Dw,Ac];omega),Um,OL,Bn hlt2,Aa,Dj (by omega) (by omega),Aa,Aa,DP,Aa]at hF;simp only at hF;rw[hm,d1,Aa]at hF;simp only at hF;rw[SH o ho,Aa]at hT;simp only at hT;rw[Dj (by omega) (by omega),Aa,Fs,Aa]at hT;simp only at hT;rw[hd.Amy,Aa,Bn hlt2,Aa,Aa,hm]at hT;rw[d2,Aa]at hT;simp only at hT;rw[El,En]at hT;rw[OY,BJ]at hF;by_cases he:e≠0
  ·rw[Abm (by rw[Aj];simpa using he)]at hT hF;rw[Aa]at hT;simp only at hT;rw[Abm (by rw[Aj];simpa using he)]at hT;rw[Am,Aa]at hF;exact mkE (by omega) hF hT
  ·have he0:e=0:=by simpa using he
   obtain⟨k1,k2,k3⟩:=d3 he0;have hbl:=FO w xs;have ht:((A:Int)).toNat=A:=rfl;rw[ht]at hx;rw[Aau (by rw[Aj,he0];simp)]at hT hF;rw[QB hb k2 k1,Aa,Aa]at hT;simp only at hT;rw[Aau (by decide),Bi (by simp;omega),Aa,Aro,Bi (by omega),Aa,Aa,Cb (by omega) (by omega),Aa,Ah (by omega) (by omega)]at hT;rw[XY hb k2 k1,Aa]at hF;simp only at hF;rw[Aau (by decide),Bi (by omega),Aa,Cb (by omega) (by omega),Aa,Ah (by omega) (by omega)]at hF;have e1:((A:Int)+1).toNat=A+1:=rfl;refine .next _ _ _ _ _ _ _ _ _ (by exact hF) hT (.tab _ _ _ _ _ (A+1) hd hpw hg hl rfl (by omega)) ⟨by rw[Agn];omega,hZ.hg,by rw[e1,Abq];omega⟩ (by rw[Agn];omega) ?_
   have hne:g≠ []:=by intro e;subst e;simp at g1
   rw[muD,muD,Aau hd.fnz,Aau hd.fnz,Aau hne,Aau hne,e1,ht];omega
end
theorem Ah2(hf:FitD o f c w r n g a x)(ho:o.length<=64)(hZ:SzD p g a x):StepR bk o p f c w r n g a x u v:=by
 cases hf with
 |new e1 e2 e3 e4 e5 e6 e7 e8=>subst e1 e2 e3 e4 e5 e6 e7 e8;exact Ban hZ.hp
 |head F C W R N h hpw e6 e7 e8=>subst e6 e7 e8;exact Ayv h ho hZ.hp hpw
 |tab F C W R N A h hpw ht hl ea hA=>subst ea;exact Bds h ho hpw ht hl A hA hZ
end
abbrev Bm9:=LB×LB×Int×Int×Int×Int×Int×LI×Int×LB×Bool×Int×Int
theorem Bbj:∀(j:Nat) (b:LB) (a:Nat),(Ala j b a).2=0\/ (Ala j b a).2=38
 |0,_,_=> .inr rfl
 |j+1,b,a=>by
  rw[Ala];split
  ·exact .inl rfl
  ·split
   ·exact .inr rfl
   ·exact Bbj j _ _
theorem Ajj(b:LB):(Se b).2=0\/ (Se b).2=38:=by
 rw[Se];split
 ·exact .inr rfl
 ·exact Bbj _ _ _
theorem YJ{o p:LB}{f c w r n:Int}{g:LI}{a:Int}{x:LB}{u:Bool}{v:Int}(hp:p.length<=100000)(hg:g.length<=2000)(hx:x.length<=13000000):Ze o p f c w r n g a x u v=some (o,p,f,c,w,r,n,g,a,x,u,v):=by
 rw[Ze,TF,Bi (by simp;omega),Aa,Bi (by simp;omega),Aa,RI,RQ,Bi (by simp;omega),Aa];rfl
theorem Ayc{o p:LB}{f c w r n:Int}{g:LI}{a:Int}{x:LB}{u:Bool}{v:Int}(hp:p.length<=100000)(hg:g.length<=2000)(hx:x.length<=13000000):Ek o p f c w r n g a x u v=some (o,p,f,c,w,r,n,g,a,x,u,v):=by
 rw[Ek,Mv,Bi (by simp;omega),Aa,Aa,Mv,Bi (by simp;omega),Aa,Aa,Ha,Bi (by simp;omega),Aa,Aa];rfl
theorem wH{o p:LB}{f c w r n:Int}{g:LI}{a:Int}{x:LB}{u:Bool}{v e:Int}(hx:x.length<=13000000):CK o p f c w r n g a x u v e=some (o,[],0,0,0,0,0,[],0,x,false,e,e):=by
 rw[CK,cE,Bi (by simp;omega),Aa];rfl
theorem Bai{p:LB}{f:Int}{g:LI}{a:Int}{x:LB}(h:SzD p g a x):muD f g a<1004:=by
 have:=h.hg;unfold muD;split
 ·omega
 ·split<;>omega
section
variable {o p:LB} {f c w r n:Int} {g:LI} {a:Int} {x:LB} {u:Bool} {v:Int} (hp:p.length<=20000) (hg:g.length<=2000) (hx:x.length<=13000000)
include hp hg hx
theorem pE{E:Int}(hE:Pd o p f c w r n g a x u v=some E):Ta o p f c w r n g a x u v=if E≠0 then some ([],[],0,0,0,0,0,[],0,[],false,0,E)else some (o,p,f,c,w,r,n,g,a,x,u,v,if v≠0 then v else if u=true then 36 else 0):=by
 rw[Ta,hE,Aa];by_cases h:E≠0
 ·rw[Abm (by rw[Aj];simpa using h),Abm h]
 rw[Aau (by rw[Aj];simpa using h),Aau h,Ayc (by omega) hg (by omega)];by_cases hv:v≠0
 ·rw[Abm (by rw[Aj];simpa using hv),Abm hv,Aa]
 ·rw[Aau (by rw[Aj];simpa using hv),Aau hv];cases u<;>simp[Aa]
omit hg hx in
theorem Abl:∃e,IZ o p f c w r n g a x u v=some e/\Cv o p f c w r n g a x u v=some e:=by
 rw[IZ,Cv];by_cases h0:geq f 0=true
 ·rw[Abm h0,Abm h0,Tz p (by omega),AY p (by omega),Aa,Aa];have hok:=BB (b:=p);simp only;by_cases h2:(Bs p).2≠0
  ·rw[Abm (by rw[Aj];simpa using h2),Abm (by rw[Aj];simpa using h2)];exact⟨_,rfl,rfl⟩
  have h3:(Bs p).2=0:=by simpa using h2
  obtain⟨k1,k2,k3⟩:=hok h3;have hl:(Ii p).length<=p.length:=by rw[Ii,Agn];omega
  rw[Aau (by rw[Aj,h3];simp),Aau (by rw[Aj,h3];simp),Cb (by omega) (by omega),Aa,Aa,show p.drop (Bs p).1.toNat=Ii p from rfl,XX _ (by omega),iN _ (by omega),Aa];exact⟨_,rfl,rfl⟩
 ·rw[Aau h0,Aau h0,Bool.or_comm];by_cases h1:(geq (Ac g) 0||Cq a (Ac g))=true
  ·rw[Abm h1,Abm h1];exact⟨_,rfl,rfl⟩
  ·rw[Aau h1,Aau h1,Acf p (by omega),vT p (by omega),Aa,Aa];simp only;refine⟨(Se p).2,rfl,?_⟩;rcases Ajj p with h|h
   ·rw[Aau (by rw[h];decide),h]
   ·rw[Abm (by rw[h];decide),h]
end
theorem cK{α β:Type}{o:Option α}{f:α->Option β}{r:β}(h:Option.bind o f=some r):∃x,o=some x/\f x=some r:=by
 cases o with
 |none=>cases h
 |some x=>exact⟨x,rfl,h⟩
theorem Bbl{α:Type}{l:List α}{i:Int}{x:α}(h:Go.Lv.Ap l i=some x):x∈l:=by
 unfold Go.Lv.Ap at h;split at h
 ·exact List.mem_of_getElem? h
 ·cases h
theorem Aee{o p:LB}(q:LB){f c w r n:Int}{g:LI}{a:Int}{x:LB}{u:Bool}{v:Int}{y:LB}{e:Int}(hg:∀z∈g,0<=z)(h:Df o p f c w r n g a x u v=some (y,e))(he:e≠ -1):Df o (p++q) f c w r n g a x u v=some (y,e):=by
 rw[Df,Ep]at h⊢;obtain⟨l,hl,h⟩:=cK h;have hl0:=hg l (Bbl hl);rw[hl,Aa];by_cases hc:(p.length:Int)<l
 ·rw[Abm (by rw[Ae,Ac];simpa using hc)]at h;cases h;exact absurd rfl he
 ·have hc':¬(Cq (Ac (p++q)) l=true):=by rw[Ae,Ac,Abq];simp;omega
  rw[Aau (by rw[Ae,Ac];simpa using hc)]at h;rw[Aau hc',Dj hl0 (by rw[Abq];omega),Oj (by omega)];rw[Dj hl0 (by omega)]at h;simpa only[El,En]using h
theorem Apd{f c w r n:Int}{F C W R N:Nat}(hd:HdI f c w r n F C W R N){p:LB}(q:LB)(hp:(p++q).length<=100000){A:Nat}(hA:A<=p.length){k:Int}{l:LI}{e:Int}(h:Dq p f c w r n (A:Int)=some (k,l,e))(he:e≠ -1):
  Dq (p++q) f c w r n (A:Int)=some (k,l,e)/\ (e=0->0<=k/\k<=p.length):=by
 have hp':p.length<=100000:=by rw[Abq]at hp;omega
 obtain⟨_,t2,t3⟩:=zS hd [] p hp' A hA 0 [] false 0;obtain⟨_,s2,_⟩:=zS hd [] (p++q) hp A (by rw[Abq];omega) 0 [] false 0;rw[t2]at h;rw[s2,Azv hA];by_cases h1:(Eo (p.drop A) (Al (Ak R) N).length).2=24
 ·rw[Abm h1]at h;cases h;exact absurd rfl he
 ·rw[Aau h1]at h;rw[Ays q _ h1,Aau h1];refine⟨h,λe0=>?_⟩;cases h;have:=t3 e0;constructor
  ·omega
  ·exact this
theorem Aec{f c w r n:Int}{F C W R N:Nat}(hd:HdI f c w r n F C W R N){o p:LB}(q:LB)(hp:(p++q).length<=100000){k:Int}{l:LI}{e:Int}(h:Ff p f c w r n o=some (k,l,e))(he:e≠ -1):
  Ff (p++q) f c w r n o=some (k,l,e)/\ (e=0->0<=k/\k<=p.length):=by
 rw[Ff,Ht]at h⊢;by_cases hf:geq f 2=true
 ·rw[Abm hf]at h⊢;by_cases h8:p.length<8
  ·rw[Abm (by rw[Ae,Ac];simp;omega)]at h;cases h;exact absurd rfl he
  ·have n1:¬(Cq (Ac p) 8=true):=by rw[Ae,Ac];simp;omega
   have n2:¬(Cq (Ac (p++q)) 8=true):=by rw[Ae,Ac,Abq];simp;omega
   rw[Aau n1,Dj (by decide) (by omega),Aa]at h;rw[Aau n2,Dj (by decide) (by rw[Abq];omega),Aa,Oj (show(8:Int).toNat<=p.length from by simp;omega)];obtain⟨y,hy,h⟩:=cK h;rw[hy,Aa];by_cases hm:(p.take (8:Int).toNat !=y)=true
   ·rw[Abm hm]at h⊢;cases h;exact⟨rfl,λe=>by cases e⟩
   ·rw[Aau hm]at h⊢;exact Apd hd q hp (A:=8) (by omega) h he
 ·rw[Aau hf]at h⊢;exact Apd hd q hp (A:=0) (by omega) h he
theorem kZ{p q af:LB}{n:Int}(h:Bq p n (Ac p)=some af):Bq (p++q) n (Ac (p++q))=some (af++q):=by
 unfold Bq Ac at h⊢;split at h
 ·rename_i hc;cases h;rw[Abm ⟨hc.1,by rw[Abq];omega,by omega⟩];simp only[Afx,Azx];rw[Azv (by omega)]
 ·cases h
theorem pG{o p:LB}(q:LB){f c w r n:Int}{g:LI}{a:Int}{x:LB}{u:Bool}{v:Int}(hf:FitD o f c w r n g a x)(hp:(p++q).length<=100000){t1 t2:LB}{t3 t4 t5 t6 t7:Int}{t8:LI}{t9:Int}{t10:LB}{t11:Bool}{t12 e:Int}
  (h:Ag o p f c w r n g a x u v=some (t1,t2,t3,t4,t5,t6,t7,t8,t9,t10,t11,t12,e)) (he:e≠ -1):
  (e=0->Ag o (p++q) f c w r n g a x u v=some (t1,t2++q,t3,t4,t5,t6,t7,t8,t9,t10,t11,t12,0))/\
  (e≠0->∃(s1 s2:LB) (s3 s4 s5 s6 s7:Int) (s8:LI) (s9:Int) (s10:LB) (s11:Bool) (s12:Int),Ag o (p++q) f c w r n g a x u v=some (s1,s2,s3,s4,s5,s6,s7,s8,s9,s10,s11,s12,e)):=by
 have hp':p.length<=100000:=by rw[Abq]at hp;omega
 have zero:¬(Bc (0:Int) 0=true):=by decide
 rw[Ag,Bo]at h⊢;cases hf with
 |new e1 e2 e3 e4 e5 e6 e7 e8=>
  subst e1;rw[Abm (by decide),AQ p hp',Aa]at h;rw[Abm (by decide),AQ (p++q) hp,Aa];have hst:(stS p).2.2.2.2.2.2≠ -1->stS (p++q)=stS p:=Bgh q;generalize stS p=z at h hst;obtain⟨z1,z2,z3,z4,z5,z6,z7⟩:=z;simp only at h hst;by_cases hz:Bc z7 0=true
  ·rw[Abm hz]at h;simp only[Ads,Ae3]at h;obtain⟨-, -, -, -, -, -, -, -, -, -, -, -,rfl⟩:=h;rw[hst he];simp only;rw[Abm hz];refine⟨λe0=>?_,λ_=>⟨_,_,_,_,_,_,_,_,_,_,_,_,rfl⟩⟩;rw[e0]at hz;exact absurd hz zero
  ·rw[Aau hz]at h;have z70:z7=0:=by rw[Aj]at hz;simpa using hz
   rw[hst (by rw[z70];decide)];simp only;rw[Aau hz];obtain⟨af,h1,h⟩:=cK h;rw[kZ h1,Aa];rw[Hl,Hm]at h⊢;obtain⟨aw,h2,h⟩:=cK h;rw[h2,Aa];simp only[Ads,Ae3]at h;obtain⟨rfl,rfl,rfl,rfl,rfl,rfl,rfl,rfl,rfl,rfl,rfl,rfl,rfl⟩:=h;exact⟨λe0=>by rw[e0],λ_=>⟨_,_,_,_,_,_,_,_,_,_,_,_,rfl⟩⟩
 |head F C W R N hd hpw e6 e7 e8=>
  subst e6;have hfn:¬(geq f 0=true):=by rw[Ar];simpa using hd.fnz
  rw[Aau hfn,Bt,Bu,Abm (by decide)]at h⊢;obtain⟨⟨k,l,e1⟩,h1,h⟩:=cK h;simp only at h;by_cases hz:Bc e1 0=true
  ·rw[Abm hz]at h;simp only[Ads,Ae3]at h;obtain⟨-, -, -, -, -, -, -, -, -, -, -, -,rfl⟩:=h;rw[(Aec hd q hp h1 he).1,Aa];simp only;rw[Abm hz];refine⟨λe0=>?_,λ_=>⟨_,_,_,_,_,_,_,_,_,_,_,_,rfl⟩⟩;rw[e0]at hz;exact absurd hz zero
  ·rw[Aau hz]at h;have z70:e1=0:=by rw[Aj]at hz;simpa using hz
   rw[(Aec hd q hp h1 (by rw[z70];decide)).1,Aa];simp only;rw[Aau hz];obtain⟨af,h2,h⟩:=cK h;rw[kZ h2,Aa];simp only[Ads,Ae3]at h;obtain⟨rfl,rfl,rfl,rfl,rfl,rfl,rfl,rfl,rfl,rfl,rfl,rfl,rfl⟩:=h;exact⟨λe0=>rfl,λe0=>absurd rfl e0⟩
 |tab F C W R N A hd hpw ht hl ea hA=>
  have hfn:¬(geq f 0=true):=by rw[Ar];simpa using hd.fnz
  have ht':=ht;rw[Zg,Adr,Acm]at ht';have hgl:¬(geq (Ac g) 0=true):=by
   intro e;rw[Ar,Ac]at e;have hl1:=ht'.1.1;simp only[Aur,Acm]at e;omega
  rw[Aau hfn,Bt,Bu,Aau hgl]at h⊢;by_cases hend:geq a (Ac g)=true
  ·rw[Abm hend]at h⊢;by_cases hm:Ed (Ac p) 4000=true
   ·have hm':Ed (Ac (p++q)) 4000=true:=by rw[Aq,Ac]at hm⊢;simp only[Acm]at hm⊢;rw[Abq];omega
    rw[Abm hm]at h;rw[Abm hm'];simp only[Ads,Ae3]at h;obtain⟨-, -, -, -, -, -, -, -, -, -, -, -,rfl⟩:=h;exact⟨(λe0=>by cases e0),λ_=>⟨_,_,_,_,_,_,_,_,_,_,_,_,rfl⟩⟩
   ·rw[Aau hm]at h;simp only[Ads,Ae3]at h;obtain⟨-, -, -, -, -, -, -, -, -, -, -, -,rfl⟩:=h;exact absurd rfl he
  ·rw[Aau hend]at h⊢;have hpos:∀z∈g,0<=z:=by
    have:=(KS g 100000 (by omega)).1 ht'.2;intro z hz;have:=this.1 z hz;omega
   obtain⟨⟨y,e1⟩,h1,h⟩:=cK h;simp only at h;by_cases hz:Bc e1 0=true
   ·rw[Abm hz]at h;simp only[Ads,Ae3]at h;obtain⟨-, -, -, -, -, -, -, -, -, -, -, -,rfl⟩:=h;rw[Aee q hpos h1 he,Aa];simp only;rw[Abm hz];refine⟨λe0=>?_,λ_=>⟨_,_,_,_,_,_,_,_,_,_,_,_,rfl⟩⟩;rw[e0]at hz;exact absurd hz zero
   ·rw[Aau hz]at h;have z70:e1=0:=by rw[Aj]at hz;simpa using hz
    rw[Aee q hpos h1 (by rw[z70];decide),Aa];simp only;rw[Aau hz];obtain⟨an,h2,h⟩:=cK h;rw[h2,Aa];obtain⟨ah,h3,h⟩:=cK h;rw[h3,Aa];obtain⟨ad,h4,h⟩:=cK h;rw[h4,Aa];obtain⟨ae,h5,h⟩:=cK h;rw[kZ h5,Aa];simp only[Ads,Ae3]at h;obtain⟨rfl,rfl,rfl,rfl,rfl,rfl,rfl,rfl,rfl,rfl,rfl,rfl,rfl⟩:=h;exact⟨λe0=>rfl,λe0=>absurd rfl e0⟩
def Bm3(o:LB)(K:Nat)(u:Bool)(v:Int)(X Y:Option Bm9):Prop:=∃(t1 t2:LB) (t3 t4 t5 t6 t7:Int) (t8:LI) (t9:Int) (t10:LB) (t11:Bool) (t12 e:Int),X=some (t1,t2,t3,t4,t5,t6,t7,t8,t9,t10,t11,t12,e)/\Y=some (t1,t2,t3,t4,t5,t6,t7,t8,t9,t10,t11,t12,e)/\t10.length<=13000000/\
 (e=0->t1=o/\t2.length<=K/\FitD o t3 t4 t5 t6 t7 t8 t9 t10/\SzD t2 t8 t9 t10/\t11=u/\t12=v)
theorem Aeb(K:Nat):∀(k q1 q2:Nat) (o p:LB) (f c w r n:Int) (g:LI) (a:Int) (x:LB) (u:Bool) (v:Int),FitD o f c w r n g a x->o.length<=64->SzD p g a x->p.length<=K->muD f g a<k->k<=q1->k<=q2->
  Bm3 o K u v (Bb o u v q1 p f c w r n a g x) (Bj q2 o p f c w r n g a x u v)
 |0,_,_,_,_,_,_,_,_,_,_,_,_,_,_,_,_,_,_,h,_,_=>by omega
 |k+1,q1,q2,o,p,f,c,w,r,n,g,a,x,u,v,hf,ho,hZ,hK,hm,h1,h2=>by
  obtain⟨q1,rfl⟩:∃q,q1=q+1:=⟨q1-1,by omega⟩;obtain⟨q2,rfl⟩:∃q,q2=q+1:=⟨q2-1,by omega⟩;have hx:x.length<=13000000:=by have:=hZ.hx;omega
  rw[Bb,Bj,Cj];have hS:StepR (Bb o u v q1) o p f c w r n g a x u v:=Ah2 hf ho hZ;cases hS with
  |wait hF hT=>
   rw[hT,Aa];simp only;rw[Abm (by decide),YJ hZ.hp (by have:=hZ.hg;omega) hx,Aa];exact⟨_,_,_,_,_,_,_,_,_,_,_,_,_,hF,rfl,hx,λ_=>⟨rfl,hK,hf,hZ,rfl,rfl⟩⟩
  |err e he hF hT=>
   rw[hT,Aa];simp only;rw[Aau (by rw[jT (by omega)];decide),Abm (by rw[Aj];simp;omega),wH hx,Aa];exact⟨_,_,_,_,_,_,_,_,_,_,_,_,_,hF,rfl,hx,λh=>absurd h (by omega)⟩
  |next p' f' c' w' r' n' g' a' x' hF hT hf' hZ' hle hmu=>
   rw[hT,Aa];simp only;rw[Aau (by decide),Aau (by decide)];have ih:=Aeb K k q1 q2 o p' f' c' w' r' n' g' a' x' u v hf' ho hZ' (by omega) (by omega) (by omega) (by omega);have hF':Jl (Ph (Bb o u v q1) o u v) (Uh (Bb o u v q1) o u v) (Mg (Bb o u v q1) o u v) (Vf (Bb o u v q1) o u v) (Mb (Bb o u v q1) o u v) (Pf (Bb o u v q1) o u v) (Um (Bb o u v q1) o u v) (Ck (Bb o u v q1) o u v) (AX (Bb o u v q1) o u v) o u v p f c w r n a g x=Bb o u v q1 p' f' c' w' r' n' a' g' x':=hF;rw[hF'];exact ih
theorem Bmz{o p:LB}{f c w r n:Int}{g:LI}{a:Int}{x:LB}(ho:o.length<=64)(hf:FitD o f c w r n g a x)(hZ:SzD p g a x)(b:LB)(hp:p.length<=20000)(hb:b.length<=20000):
  Bm3 o (p.length+b.length) false 0 (Ko o p f c w r n g a x false 0 b) (Kk o p f c w r n g a x false 0 b):=by
 have hx:x.length<=13000000:=by have:=hZ.hx;omega
 have hg:g.length<=2000:=by have:=hZ.hg;omega
 obtain⟨E,e1,e2⟩:=Afg o p f c w r n g a x false 0 (by omega) (by omega) (by omega);rw[Ko,Wu,pE hp hg hx e1,Kk,Rq,e2,Aa];by_cases h:E≠0
 ·rw[Abm h,Aa,Abm (by rw[Aj];simpa using h)];simp only;rw[Abm (by rw[Aj];simpa using h)];exact⟨_,_,_,_,_,_,_,_,_,_,_,_,_,rfl,rfl,by simp,λh'=>absurd h' h⟩
 have h0:E=0:=by simpa using h
 subst h0;have hE:¬(Bc (0:Int) 0=true):=by decide
 rw[Aau h,Aa,Aau hE,YJ (by omega) hg (by omega),Aa];simp only;have hF:¬(false=true):=by decide
 rw[Rs,Aau (show ¬((0:Int)≠0)from λh=>h rfl),Aau hF]
 repeat (first|rw[Aa]|rw[Aau hE]|rw[Aau hF])
 rw[Bi (by omega)];rw[Aa,Aa];have hZ':SzD (p++b) g a x:=⟨by rw[Abq];omega,hZ.hg,hZ.hx⟩;exact Aeb _ 1004 Ax Ax o (p++b) f c w r n g a x false 0 hf ho hZ' (by rw[Abq];exact Arj _) (Bai hZ') (by have:=As;omega) (by have:=As;omega)
def OutB(f c w r n:Int)(g:LI)(a:Int)(x:LB):Prop:=∀(F C W R N A:Nat),HdI f c w r n F C W R N->g≠ []->a=(A:Int)-> (x.length:Int)<=GR C W (Al (Ak R) N) A
theorem OutB.nil{f c w r n:Int}{a:Int}{x:LB}:OutB f c w r n [] a x:=λ_ _ _ _ _ _ _ h=>absurd rfl h
theorem OutB.zero{f c w r n:Int}{g:LI}:OutB f c w r n g 0 []:=λF C W R N A h hg ha=>by
 obtain rfl:A=0:=by omega
 rw[Asg];simp
theorem As3{o p:LB}{f c w r n:Int}{F C W R N:Nat}(hd:HdI f c w r n F C W R N)(ho:o.length<=64)(hp:p.length<=100000){g:LI}(ht:Zg g=true)(hl:g.length=(Al (Ak R) N).length){A:Nat}(hA:A<g.length){x:LB}{u:Bool}{v:Int}{y:LB}{e:Int}
  (h:Df o p f c w r n g (A:Int) x u v=some (y,e)) (he:e=0):∃m:Nat,(Al (Ak R) N)[A]'(by omega)=(m:Int)/\y.length=m*C*wB (W:Int):=by
 subst he;have hlt2:A<(Al (Ak R) N).length:=by omega
 have DV:=hd.num;rw[Zg,Adr,Acm,KS g 100000 (by omega)]at ht;obtain⟨ht1,g5,gs⟩:=ht;have h5:=g5 g[A] (Ap3 hA);rw[Df,Ep,Bn hA,Aa]at h;by_cases hw:(p.length:Int)<g[A]
 ·rw[Abm (by rw[Ae,Ac];simpa using hw)]at h;cases h
 rw[Aau (by rw[Ae,Ac];simpa using hw)]at h;obtain⟨m,hm,m1,m2⟩:=Wk (Ej R) DV.2.2.2.2.1 (Ap3 hlt2);have hb:Bm w:=by rw[hd.ew];unfold Bm;omega
 obtain⟨xs,e,d1,d2,d3,d4⟩:=SM (bits:=w) (ch:=C) (n:=m) (t:=Nd o) (p.take g[A].toNat) hb (Mf o) DV.2.1.1 DV.2.1.2 m1 (by omega);rw[SH o ho,Aa]at h;simp only at h;rw[Dj (by omega) (by omega),Aa,Fs,Aa]at h;simp only at h;rw[hd.Amy,Aa,Bn hlt2,Aa,Aa,hm,hd.ec]at h;rw[d2,Aa]at h;simp only at h;rw[El,En]at h;by_cases he:e≠0
 ·rw[Abm (by rw[Aj];simpa using he)]at h;cases h;exact absurd rfl he
 ·have he0:e=0:=by simpa using he
  obtain⟨k1,k2,k3⟩:=d3 he0;rw[Aau (by rw[Aj,he0];simp),QB hb k2 k1,Aa]at h;cases h;refine⟨m,hm,?_⟩;rw[GC hb,k3,hd.ew]
theorem Bdb{o p:LB}{f c w r n:Int}{g:LI}{a:Int}{x:LB}{u:Bool}{v:Int}(hf:FitD o f c w r n g a x)(ho:o.length<=64)(hZ:SzD p g a x)(hO:OutB f c w r n g a x){t1 t2:LB}{t3 t4 t5 t6 t7:Int}{t8:LI}{t9:Int}{t10:LB}{t11:Bool}{t12:Int}
  (h:Ag o p f c w r n g a x u v=some (t1,t2,t3,t4,t5,t6,t7,t8,t9,t10,t11,t12,0)):OutB t3 t4 t5 t6 t7 t8 t9 t10:=by
 have hp':=hZ.hp;have zero:¬(Bc (0:Int) 0=true):=by decide
 rw[Ag,Bo]at h;cases hf with
 |new e1 e2 e3 e4 e5 e6 e7 e8=>
  subst e1 e6 e7 e8;rw[Abm (by decide),AQ p hp',Aa]at h;generalize stS p=z at h;obtain⟨z1,z2,z3,z4,z5,z6,z7⟩:=z;simp only at h;by_cases hz:Bc z7 0=true
  ·rw[Abm hz]at h;simp only[Ads,Ae3]at h;obtain⟨-, -, -, -, -, -, -,rfl, -⟩:=h;exact OutB.nil
  ·rw[Aau hz]at h;obtain⟨af,h1,h⟩:=cK h;rw[Hl,Hm]at h;obtain⟨aw,h2,h⟩:=cK h;simp only[Ads,Ae3]at h;obtain⟨-, -, -, -, -, -, -,rfl, -⟩:=h;exact OutB.nil
 |head F C W R N hd hpw e6 e7 e8=>
  subst e6 e7 e8;have hfn:¬(geq f 0=true):=by rw[Ar];simpa using hd.fnz
  rw[Aau hfn,Bt,Bu,Abm (by decide)]at h;obtain⟨⟨k,l,e1⟩,h1,h⟩:=cK h;simp only at h;by_cases hz:Bc e1 0=true
  ·rw[Abm hz]at h;simp only[Ads,Ae3]at h;obtain⟨-, -, -, -, -, -, -,rfl, -⟩:=h;exact OutB.nil
  ·rw[Aau hz]at h;obtain⟨af,h2,h⟩:=cK h;simp only[Ads,Ae3]at h;obtain⟨-, -, -, -, -, -, -, -,rfl,rfl, -⟩:=h;exact OutB.zero
 |tab F C W R N A hd hpw ht hl ea hA=>
  subst ea;have hfn:¬(geq f 0=true):=by rw[Ar];simpa using hd.fnz
  have ht':=ht;rw[Zg,Adr,Acm]at ht';have hgl:¬(geq (Ac g) 0=true):=by
   intro e;rw[Ar,Ac]at e;have hl1:=ht'.1.1;simp only[Aur,Acm]at e;omega
  have hne:g≠ []:=by intro e;subst e;simp at ht'
  rw[Aau hfn,Bt,Bu,Aau hgl]at h;by_cases hend:geq (A:Int) (Ac g)=true
  ·rw[Abm hend]at h;by_cases hm:Ed (Ac p) 4000=true
   ·rw[Abm hm]at h;simp only[Ads,Ae3]at h;exact absurd h.2.2.2.2.2.2.2.2.2.2.2.2 (by decide)
   ·rw[Aau hm]at h;simp only[Ads,Ae3]at h;exact absurd h.2.2.2.2.2.2.2.2.2.2.2.2 (by decide)
  ·rw[Aau hend]at h;have hlt:A<g.length:=by
    rw[Ar,Ac]at hend;simp only[Aur]at hend;omega
   obtain⟨⟨y,e1⟩,h1,h⟩:=cK h;simp only at h;by_cases hz:Bc e1 0=true
   ·rw[Abm hz]at h;simp only[Ads,Ae3]at h;have:=h.2.2.2.2.2.2.2.2.2.2.2.2;rw[this]at hz;exact absurd hz zero
   ·rw[Aau hz]at h;have z70:e1=0:=by rw[Aj]at hz;simpa using hz
    obtain⟨m,hm,hy⟩:=As3 hd ho hp' ht hl hlt h1 z70;obtain⟨an,h2,h⟩:=cK h;obtain⟨ah,h3,h⟩:=cK h;obtain⟨ad,h4,h⟩:=cK h;obtain⟨ae,h5,h⟩:=cK h;simp only[Ads,Ae3]at h;obtain⟨-, -,rfl,rfl,rfl,rfl,rfl,rfl,rfl,rfl, -⟩:=h;intro F' C' W' R' N' A' hd' _ ha';have eqs:C'=C/\W'=W/\R'=R/\N'=N:=by
     have q1:=hd.ec.symm.trans hd'.ec;have q2:=hd.ew.symm.trans hd'.ew;have q3:=hd.er.symm.trans hd'.er;have q4:=hd.en.symm.trans hd'.en;omega
    obtain⟨rfl,rfl,rfl,rfl⟩:=eqs;have hold:=hO F C' W' R' N' A hd hne rfl;have e2:Ad (A:Int) 1=((A+1:Nat):Int):=by rw[Ah (by omega) (by omega)];omega
    rw[e2]at ha';obtain rfl:A'=A+1:=by omega
    have hah:ah.length=x.length+y.length:=by
     unfold Du at h2 h3;split at h2
     ·cases h2;split at h3
      ·cases h3;simp
      ·cases h3
     ·cases h2
    have hpos:∀z∈Al (Ak R') N',0<=z:=by
     intro z hz;obtain⟨m,hm,m1,m2⟩:=Wk (Ej R') hd.num.2.2.2.2.1 hz;omega
    rw[Atk C' W' hpos (by omega) hm,hah,hy];omega
theorem Af7{o p:LB}{f c w r n:Int}{g:LI}{a:Int}{x:LB}(hf:FitD o f c w r n g a x)(ho:o.length<=64)(hO:OutB f c w r n g a x){t1 t2:LB}{t3 t4 t5 t6 t7:Int}{t8:LI}{t9:Int}{t10:LB}{t11:Bool}{t12:Int}
  (h:Ag o p f c w r n g a x false 0=some (t1,t2,t3,t4,t5,t6,t7,t8,t9,t10,t11,t12, -1)):Dz o p f c w r n g a x false 0=some 0:=by
 have h4:Cs o p f c w r n g a x false 0=some true:=by
  rw[Cs,Xy,h,Aa];rfl
 have hr:Mn o p f c w r n g a x false 0=some true:=by
  rw[Mn,Xr];cases hf with
  |new e1 e2 e3 e4 e5 e6 e7 e8=>
   subst e1 e2 e3 e4 e5 e6 e7 e8;rw[Abm (by decide),Aau (by decide)];exact h4
  |head F C W R N hd hpw e6 e7 e8=>
   subst e6 e7 e8;have hz:¬(((geq f 0)&&((geq c 0)&&((geq w 0)&&((geq r 0)&&((geq n 0)&&true)))))=true):=by
    simp only[Adr,Ar,Aur,Bpl];exact λe=>hd.fnz e.1
   have hff:geq f 1=decide (F=1):=by rw[hd.ef,Ar,Ajs];simp;omega
   rw[Aau hz,hd.check,Aa,Aau (by decide),Ev,hff,hpw,Aau (by simp),Aa,Aau (by decide),Qu,Qo,Abm (by decide),Aau (by decide)];exact h4
  |tab F C W R N A hd hpw ht hl ea hA=>
   subst ea;have hz:¬(((geq f 0)&&((geq c 0)&&((geq w 0)&&((geq r 0)&&((geq n 0)&&true)))))=true):=by
    simp only[Adr,Ar,Aur,Bpl];exact λe=>hd.fnz e.1
   have hff:geq f 1=decide (F=1):=by rw[hd.ef,Ar,Ajs];simp;omega
   have ht':=ht;rw[Zg,Adr,Acm]at ht';have hgl:¬(geq (Ac g) 0=true):=by
    intro e;rw[Ar,Ac]at e;have hl1:=ht'.1.1;simp only[Aur,Acm]at e;omega
   have hne:g≠ []:=by intro e;subst e;simp at ht'
   have hout:=hO F C W R N A hd hne rfl;rw[Aau hz,hd.check,Aa,Aau (by decide),Ev,hff,hpw,Aau (by simp),Aa,Aau (by decide),Qu,Qo,Aau hgl,fH,Aa,Abm ht,Aau (by decide),hd.Amy,Aa];rw[Aau (by simp[Aj,Ae,Aq,Ac];omega)];obtain⟨rfl,rfl,rfl,rfl,rfl,hs,hfit⟩:=hd;rw[Anl hs hfit A (by omega),Aa,Aau (by rw[Aq,Ac];simp;omega)];exact h4
 have hO':¬(Ed (Ac o) 64=true):=by rw[Aq,Ac];simp;omega
 rw[Dz,Aau hO',Abm (by decide),hr,Aa];rfl
theorem Azk{o p:LB}{f c w r n:Int}{F C W R N:Nat}(hd:HdI f c w r n F C W R N)(ho:o.length<=64)(hp:p.length<=100000){g:LI}(ht:Zg g=true)(hl:g.length=(Al (Ak R) N).length){A:Nat}(hA:A<g.length){x:LB}{u:Bool}{v:Int}{y:LB}{e:Int}
  (h:Df o p f c w r n g (A:Int) x u v=some (y,e)) (he:e≠ -1):Cd e:=by
 have hlt2:A<(Al (Ak R) N).length:=by omega
 have DV:=hd.num;rw[Zg,Adr,Acm,KS g 100000 (by omega)]at ht;obtain⟨ht1,g5,gs⟩:=ht;have h5:=g5 g[A] (Ap3 hA);rw[Df,Ep,Bn hA,Aa]at h;by_cases hw:(p.length:Int)<g[A]
 ·rw[Abm (by rw[Ae,Ac];simpa using hw)]at h;cases h;exact absurd rfl he
 rw[Aau (by rw[Ae,Ac];simpa using hw)]at h;obtain⟨m,hm,m1,m2⟩:=Wk (Ej R) DV.2.2.2.2.1 (Ap3 hlt2);have hb:Bm w:=by rw[hd.ew];unfold Bm;omega
 obtain⟨xs,e',d1,d2,d3,d4⟩:=SM (bits:=w) (ch:=C) (n:=m) (t:=Nd o) (p.take g[A].toNat) hb (Mf o) DV.2.1.1 DV.2.1.2 m1 (by omega);have hcd:=Akh hb (Mf o) DV.2.1.1 DV.2.1.2 m1 (by omega) d2;rw[SH o ho,Aa]at h;simp only at h;rw[Dj (by omega) (by omega),Aa,Fs,Aa]at h;simp only at h;rw[hd.Amy,Aa,Bn hlt2,Aa,Aa,hm,hd.ec]at h;rw[d2,Aa]at h;simp only at h;rw[El,En]at h;by_cases he:e'≠0
 ·rw[Abm (by rw[Aj];simpa using he)]at h;cases h;exact hcd
 ·have he0:e'=0:=by simpa using he
  obtain⟨k1,k2,k3⟩:=d3 he0;rw[Aau (by rw[Aj,he0];simp),QB hb k2 k1,Aa]at h;cases h;exact .inl rfl
theorem Awo{f c w r n:Int}{F C W R N:Nat}(hd:HdI f c w r n F C W R N){p:LB}(hp:p.length<=100000){A:Nat}(hA:A<=p.length){k:Int}{l:LI}{e:Int}(h:Dq p f c w r n (A:Int)=some (k,l,e))(he:e≠ -1):Cd e:=by
 obtain⟨_,t2,t3⟩:=zS hd [] p hp A hA 0 [] false 0;rw[t2]at h;by_cases h1:(Eo (p.drop A) (Al (Ak R) N).length).2=24
 ·rw[Abm h1]at h;cases h;exact absurd rfl he
 ·rw[Aau h1]at h;cases h;exact Bb6 _ (Aha hd.fit)
theorem Ax5{f c w r n:Int}{F C W R N:Nat}(hd:HdI f c w r n F C W R N){o p:LB}(hp:p.length<=100000){k:Int}{l:LI}{e:Int}(h:Ff p f c w r n o=some (k,l,e))(he:e≠ -1):Cd e:=by
 rw[Ff,Ht]at h;by_cases hf:geq f 2=true
 ·rw[Abm hf]at h;by_cases h8:p.length<8
  ·rw[Abm (by rw[Ae,Ac];simp;omega)]at h;cases h;exact absurd rfl he
  ·have n1:¬(Cq (Ac p) 8=true):=by rw[Ae,Ac];simp;omega
   rw[Aau n1]at h;obtain⟨z,hz,h⟩:=cK h;obtain⟨y,hy,h⟩:=cK h;by_cases hm:(z !=y)=true
   ·rw[Abm hm]at h;cases h;decide
   ·rw[Aau hm]at h;exact Awo hd hp (A:=8) (by omega) h he
 ·rw[Aau hf]at h;exact Awo hd hp (A:=0) (by omega) h he
theorem Bjn(p:LB):(stS p).2.2.2.2.2.2= -1\/Cd (stS p).2.2.2.2.2.2:=by
 unfold stS
 repeat' split
 ·exact .inl rfl
 ·exact .inr (Aao p)
 ·exact .inl rfl
 ·exact .inl rfl
 ·exact .inr (Aej _)
theorem Bep{o p:LB}{f c w r n:Int}{g:LI}{a:Int}{x:LB}{u:Bool}{v:Int}(hf:FitD o f c w r n g a x)(ho:o.length<=64)(hp':p.length<=100000){t1 t2:LB}{t3 t4 t5 t6 t7:Int}{t8:LI}{t9:Int}{t10:LB}{t11:Bool}{t12 e:Int}
  (h:Ag o p f c w r n g a x u v=some (t1,t2,t3,t4,t5,t6,t7,t8,t9,t10,t11,t12,e)) (he:e≠ -1):Cd e:=by
 have zero:¬(Bc (0:Int) 0=true):=by decide
 rw[Ag,Bo]at h;cases hf with
 |new e1 e2 e3 e4 e5 e6 e7 e8=>
  subst e1 e6 e7 e8;rw[Abm (by decide),AQ p hp',Aa]at h;have hcd:=Bjn p;generalize stS p=z at h hcd;obtain⟨z1,z2,z3,z4,z5,z6,z7⟩:=z;simp only at h hcd;by_cases hz:Bc z7 0=true
  ·rw[Abm hz]at h;simp only[Ads,Ae3]at h;obtain⟨-, -, -, -, -, -, -, -, -, -, -, -,rfl⟩:=h;exact hcd.resolve_left he
  ·rw[Aau hz]at h;obtain⟨af,h1,h⟩:=cK h;rw[Hl,Hm,Ev]at h;obtain⟨aw,h2,h⟩:=cK h;simp only[Ads,Ae3]at h;obtain⟨-, -, -, -, -, -, -, -, -, -, -, -,rfl⟩:=h;split at h2
   ·cases h2;decide
   ·cases h2;decide
 |head F C W R N hd hpw e6 e7 e8=>
  subst e6 e7 e8;have hfn:¬(geq f 0=true):=by rw[Ar];simpa using hd.fnz
  rw[Aau hfn,Bt,Bu,Abm (by decide)]at h;obtain⟨⟨k,l,e1⟩,h1,h⟩:=cK h;simp only at h;by_cases hz:Bc e1 0=true
  ·rw[Abm hz]at h;simp only[Ads,Ae3]at h;obtain⟨-, -, -, -, -, -, -, -, -, -, -, -,rfl⟩:=h;exact Ax5 hd hp' h1 he
  ·rw[Aau hz]at h;obtain⟨af,h2,h⟩:=cK h;simp only[Ads,Ae3]at h;obtain⟨-, -, -, -, -, -, -, -, -, -, -, -,rfl⟩:=h;exact .inl rfl
 |tab F C W R N A hd hpw ht hl ea hA=>
  subst ea;have hfn:¬(geq f 0=true):=by rw[Ar];simpa using hd.fnz
  have ht':=ht;rw[Zg,Adr,Acm]at ht';have hgl:¬(geq (Ac g) 0=true):=by
   intro e;rw[Ar,Ac]at e;have hl1:=ht'.1.1;simp only[Aur,Acm]at e;omega
  rw[Aau hfn,Bt,Bu,Aau hgl]at h;by_cases hend:geq (A:Int) (Ac g)=true
  ·rw[Abm hend]at h;by_cases hm:Ed (Ac p) 4000=true
   ·rw[Abm hm]at h;simp only[Ads,Ae3]at h;obtain⟨-, -, -, -, -, -, -, -, -, -, -, -,rfl⟩:=h;decide
   ·rw[Aau hm]at h;simp only[Ads,Ae3]at h;exact absurd h.2.2.2.2.2.2.2.2.2.2.2.2.symm he
  ·rw[Aau hend]at h;have hlt:A<g.length:=by
    rw[Ar,Ac]at hend;simp only[Aur]at hend;omega
   obtain⟨⟨y,e1⟩,h1,h⟩:=cK h;simp only at h;by_cases hz:Bc e1 0=true
   ·rw[Abm hz]at h;simp only[Ads,Ae3]at h;obtain⟨-, -, -, -, -, -, -, -, -, -, -, -,rfl⟩:=h;exact Azk hd ho hp' ht hl hlt h1 he
   ·rw[Aau hz]at h;obtain⟨an,h2,h⟩:=cK h;obtain⟨ah,h3,h⟩:=cK h;obtain⟨ad,h4,h⟩:=cK h;obtain⟨ae,h5,h⟩:=cK h;simp only[Ads,Ae3]at h;obtain⟨-, -, -, -, -, -, -, -, -, -, -, -,rfl⟩:=h;exact .inl rfl
theorem Bcw{o:LB}{f c w r n:Int}{g:LI}{a:Int}{x:LB}(hf:FitD o f c w r n g a x)(hO:OutB f c w r n g a x):x.length<=12000:=by
 cases hf with
 |new e1 e2 e3 e4 e5 e6 e7 e8=>subst e8;simp
 |head F C W R N hd hpw e6 e7 e8=>subst e8;simp
 |tab F C W R N A hd hpw ht hl ea hA=>
  have hne:g≠ []:=by intro e;subst e;simp[Zg]at ht
  have h:=hO F C W R N A hd hne ea;obtain⟨g1,g2,g3⟩:=PX hd.shape hd.fit;have b:=jZ g1 A;have DV:=hd.num;have hw:=(Abz (W:Int)).2;have hN:N*C<=4000:=by
   have h1:=Adx C DV.2.2.2.2.2.1;have h2:=Bit 4000 C;omega
  have hs:((Al (Ak R) N).take A).sum.toNat<=N:=by omega
  rw[GR]at h;have hb:((Al (Ak R) N).take A).sum.toNat*(C*wB (W:Int))<=4000*3:=by
   have h1:=Adx (C*wB (W:Int)) hs;have h2:=Bed hN hw;rw[<-Azz N]at h1;omega
  omega
theorem Ai6{o x:LB}{e:Int}(ho:o.length<=64)(hx:x.length<=12000)(he:Cd e)(h0:0<e):Dz o [] 0 0 0 0 0 [] 0 x false e=some 0:=by
 have hO':¬(Ed (Ac o) 64=true):=by rw[Aq,Ac];simp;omega
 have hX:Ed (Ac x) 12000=false:=by rw[Aq,Ac];simp;omega
 rw[Dz,Aau hO',Aau (by rw[Ar];simp;omega),Abm (by decide),hX,Aau (by decide),Abm (by rw[Aj];simp;omega),Aau (by decide)];obtain rfl|rfl|rfl|rfl|rfl|rfl|rfl|rfl:=he
 ·omega
 all_goals rfl
theorem Ak5:∀(k q1 q2:Nat) (o p:LB) (f c w r n:Int) (g:LI) (a:Int) (x:LB) (u:Bool) (v:Int),FitD o f c w r n g a x->o.length<=64->SzD p g a x->muD f g a<k->k<=q1->k<=q2->
  Bj q1 o p f c w r n g a x u v=Bj q2 o p f c w r n g a x u v
 |0,_,_,_,_,_,_,_,_,_,_,_,_,_,_,_,_,_,h,_,_=>by omega
 |k+1,q1,q2,o,p,f,c,w,r,n,g,a,x,u,v,hf,ho,hZ,hm,h1,h2=>by
  obtain⟨q1,rfl⟩:∃q,q1=q+1:=⟨q1-1,by omega⟩;obtain⟨q2,rfl⟩:∃q,q2=q+1:=⟨q2-1,by omega⟩;rw[Bj,Bj,Cj,Cj];have hS:StepR (Bb o u v q1) o p f c w r n g a x u v:=Ah2 hf ho hZ;cases hS with
  |wait hF hT=>
   rw[hT,Aa,Aa];simp only;rw[Abm (by decide),Abm (by decide)]
  |err e he hF hT=>
   rw[hT,Aa,Aa];simp only;rw[Aau (by rw[jT (by omega)];decide),Abm (by rw[Aj];simp;omega),Aau (by rw[jT (by omega)];decide),Abm (by rw[Aj];simp;omega)]
  |next p' f' c' w' r' n' g' a' x' hF hT hf' hZ' hle hmu=>
   rw[hT,Aa,Aa];simp only;rw[Aau (by decide),Aau (by decide),Aau (by decide),Aau (by decide)];exact Ak5 k q1 q2 o p' f' c' w' r' n' g' a' x' u v hf' ho hZ' (by omega) (by omega) (by omega)
structure Wt (o p:LB) (f c w r n:Int) (g:LI) (a:Int) (x:LB):Prop where
 fit:FitD o f c w r n g a x
 sz:SzD p g a x
 out:OutB f c w r n g a x
 wait:Ag o p f c w r n g a x false 0=some (o,p,f,c,w,r,n,g,a,x,false,0, -1)
abbrev Kj(q:Nat)(o p:LB)(f c w r n:Int)(g:LI)(a:Int)(x:LB):=Bj q o p f c w r n g a x false 0
theorem Aoq:∀(k q:Nat) (o p:LB) (f c w r n:Int) (g:LI) (a:Int) (x:LB),FitD o f c w r n g a x->o.length<=64->SzD p g a x->OutB f c w r n g a x->p.length<=100000->muD f g a<k->k<=q->
  (∃(t2:LB) (t3 t4 t5 t6 t7:Int) (t8:LI) (t9:Int) (t10:LB),Kj q o p f c w r n g a x=some (o,t2,t3,t4,t5,t6,t7,t8,t9,t10,false,0,0)/\Wt o t2 t3 t4 t5 t6 t7 t8 t9 t10/\t2.length<=p.length/\muD t3 t8 t9<k/\
   ∀b:LB,(p++b).length<=100000->Kj q o (p++b) f c w r n g a x=Kj q o (t2++b) t3 t4 t5 t6 t7 t8 t9 t10)\/
  (∃(x':LB) (e:Int),0<e/\Cd e/\x'.length<=12000/\∀b:LB,(p++b).length<=100000->Kj q o (p++b) f c w r n g a x=some (o,[],0,0,0,0,0,[],0,x',false,e,e))
 |0,_,_,_,_,_,_,_,_,_,_,_,_,_,_,_,_,h,_=>by omega
 |k+1,q,o,p,f,c,w,r,n,g,a,x,hf,ho,hZ,hO,hp,hm,h1=>by
  obtain⟨q,rfl⟩:∃q',q=q'+1:=⟨q-1,by omega⟩;have hx:x.length<=13000000:=by have:=hZ.hx;omega
  have hS:StepR (Bb o false 0 q) o p f c w r n g a x false 0:=Ah2 hf ho hZ;cases hS with
  |wait hF hT=>
   refine .inl ⟨p,f,c,w,r,n,g,a,x,?_,⟨hf,hZ,hO,hT⟩,Arj _,hm,λb _=>rfl⟩;rw[Kj,Bj,Cj,hT,Aa];simp only;rw[Abm (by decide),YJ hZ.hp (by have:=hZ.hg;omega) hx,Aa]
  |err e he hF hT=>
   refine .inr ⟨x,e,he,Bep hf ho hp hT (by omega),Bcw hf hO,λb hL=>?_⟩;obtain⟨s1,s2,s3,s4,s5,s6,s7,s8,s9,s10,s11,s12,hs⟩:=(pG b hf hL hT (by omega)).2 (by omega);rw[Kj,Bj,Cj,hs,Aa];simp only;rw[Aau (by rw[jT (by omega)];decide),Abm (by rw[Aj];simp;omega),wH hx,Aa]
  |next p' f' c' w' r' n' g' a' x' hF hT hf' hZ' hle hmu=>
   have hp':p'.length<=100000:=by omega
   rcases Aoq k q o p' f' c' w' r' n' g' a' x' hf' ho hZ' (Bdb hf ho hZ hO hT) hp' (by omega) (by omega)with⟨t2,t3,t4,t5,t6,t7,t8,t9,t10,k1,k2,k3,k4,k5⟩|⟨x2,e,k1,k2,k3,k4⟩
   ·refine .inl ⟨t2,t3,t4,t5,t6,t7,t8,t9,t10,?_,k2,by omega,by omega,λb hL=>?_⟩
    ·rw[Kj,Bj,Cj,hT,Aa];simp only;rw[Aau (by decide),Aau (by decide)];exact k1
    ·have hs:=(pG b hf hL hT (by decide)).1 rfl;have hL':(p'++b).length<=100000:=by rw[Abq]at hL⊢;omega
     rw[Kj,Bj,Cj,hs,Aa];simp only;rw[Aau (by decide),Aau (by decide)];refine(k5 b hL').trans ?_;exact Ak5 k q (q+1) o (t2++b) t3 t4 t5 t6 t7 t8 t9 t10 false 0 k2.fit ho ⟨by rw[Abq]at hL⊢;omega,k2.sz.hg,k2.sz.hx⟩ k4 (by omega) (by omega)
   ·refine .inr ⟨x2,e,k1,k2,k3,λb hL=>?_⟩;have hs:=(pG b hf hL hT (by decide)).1 rfl;have hL':(p'++b).length<=100000:=by rw[Abq]at hL⊢;omega
    rw[Kj,Bj,Cj,hs,Aa];simp only;rw[Aau (by decide),Aau (by decide)];exact k4 b hL'
abbrev Fd(o s:LB):=Kj Ax o s 0 0 0 0 0 [] 0 []
inductive Bh (o s:LB):LB->Int->Int->Int->Int->Int->LI->Int->LB->Int->Prop
 |wt {p:LB} {f c w r n:Int} {g:LI} {a:Int} {x:LB}:Wt o p f c w r n g a x->p.length<=s.length-> (∀b:LB,(s++b).length<=100000->Fd o (s++b)=Kj Ax o (p++b) f c w r n g a x)->Bh o s p f c w r n g a x 0
 |er {x:LB} {e:Int}:0<e->Cd e->x.length<=12000-> (∀b:LB,(s++b).length<=100000->Fd o (s++b)=some (o,[],0,0,0,0,0,[],0,x,false,e,e))->Bh o s [] 0 0 0 0 0 [] 0 x e
variable {o s p:LB} {f c w r n:Int} {g:LI} {a:Int} {x:LB} {e:Int}
theorem Wt.stop(W:Wt o p f c w r n g a x):Kj Ax o p f c w r n g a x=some (o,p,f,c,w,r,n,g,a,x,false,0,0):=by
 obtain⟨q,hq⟩:∃q,Ax=q+1:=⟨Ax-1,by have:=As;omega⟩;have hx:x.length<=13000000:=by have:=W.sz.hx;omega
 rw[Kj,hq,Bj,Cj,W.wait,Aa];simp only;rw[Abm (by decide),YJ W.sz.hp (by have:=W.sz.hg;omega) hx,Aa]
theorem Bh.fd(h:Bh o s p f c w r n g a x e)(hs:s.length<=100000):Fd o s=some (o,p,f,c,w,r,n,g,a,x,false,e,e):=by
 cases h with
 |wt W hl hb=>
  have:=hb [] (by simpa using hs);rw[Arp,Arp]at this;rw[this,W.stop]
 |er h0 hc hx hb=>
  have:=hb [] (by simpa using hs);rw[Arp]at this;exact this
theorem Bh.new(ho:o.length<=64):Bh o [] [] 0 0 0 0 0 [] 0 [] 0:=by
 refine .wt ⟨.new rfl rfl rfl rfl rfl rfl rfl rfl,⟨by simp,by simp,by simp⟩,OutB.nil,?_⟩ (Arj _) λb _=>rfl;rw[Ag,Bo,Abm (by decide),AQ [] (by simp),Aa];rfl
theorem Bhv(ho:o.length<=64)(W:Wt o p f c w r n g a x)(b:LB)(hp:p.length<=20000)(hb:b.length<=20000):
  Ko o p f c w r n g a x false 0 b=Kj Ax o (p++b) f c w r n g a x/\Kk o p f c w r n g a x false 0 b=Kj Ax o (p++b) f c w r n g a x:=by
 have hR:Kk o p f c w r n g a x false 0 b=Kj Ax o (p++b) f c w r n g a x:=by
  have hx:x.length<=13000000:=by have:=W.sz.hx;omega
  have hg:g.length<=2000:=by have:=W.sz.hg;omega
  have hE:¬(Bc (0:Int) 0=true):=by decide
  have hF:¬(false=true):=by decide
  rw[Kk,Rq,Af7 W.fit ho W.out W.wait,Aa,Aau hE,YJ (by omega) hg hx,Aa];simp only;rw[Rs]
  repeat (first|rw[Aa]|rw[Aau hE]|rw[Aau hF])
  rw[Bi (by omega),Aa];rfl
 obtain⟨t1,t2,t3,t4,t5,t6,t7,t8,t9,t10,t11,t12,e,h1,h2,_⟩:=Bmz ho W.fit W.sz b hp hb;exact⟨h1.trans (h2.symm.trans hR),hR⟩
theorem Bh.check(ho:o.length<=64)(h:Bh o s p f c w r n g a x e)(hp:p.length<=100000):Pd o p f c w r n g a x false e=some 0/\Dz o p f c w r n g a x false e=some 0:=by
 have key:Dz o p f c w r n g a x false e=some 0/\g.length<=1000/\x.length<=13000000:=by
  cases h with
  |wt W hl hb=>exact⟨Af7 W.fit ho W.out W.wait,W.sz.hg,by have:=W.sz.hx;omega⟩
  |er h0 hc hx hb=>exact⟨Ai6 ho hx hc h0,by simp,by omega⟩
 obtain⟨k1,k2,k3⟩:=key;obtain⟨E,e1,e2⟩:=Afg o p f c w r n g a x false e hp (by omega) (by omega);rw[k1]at e2;cases e2;exact⟨e1,k1⟩
theorem Bh.feed(ho:o.length<=64)(h:Bh o s p f c w r n g a x e)(hp:p.length<=20000)(b:LB)(hb:b.length<=20000)(hs:(s++b).length<=100000):
  ∃(p':LB) (f' c' w' r' n':Int) (g':LI) (a':Int) (x':LB) (e':Int),Ko o p f c w r n g a x false e b=some (o,p',f',c',w',r',n',g',a',x',false,e',e')/\
   Kk o p f c w r n g a x false e b=some (o,p',f',c',w',r',n',g',a',x',false,e',e')/\Bh o (s++b) p' f' c' w' r' n' g' a' x' e':=by
 have hck:=h.check ho (by omega);cases h with
 |wt W hl hB=>
  obtain⟨h1,h2⟩:=Bhv ho W b hp hb;have hpb:(p++b).length<=100000:=by rw[Abq];omega
  have hZ:SzD (p++b) g a x:=⟨hpb,W.sz.hg,W.sz.hx⟩;rcases Aoq 1004 Ax o (p++b) f c w r n g a x W.fit ho hZ W.out hpb (Bai hZ) (by have:=As;omega)with⟨t2,t3,t4,t5,t6,t7,t8,t9,t10,k1,k2,k3,k4,k5⟩|⟨x2,e,k1,k2,k3,k4⟩
  ·refine⟨t2,t3,t4,t5,t6,t7,t8,t9,t10,0,h1.trans k1,h2.trans k1, .wt k2 ?_ λb2 hL=>?_⟩
   ·rw[Abq]at k3⊢;omega
   ·rw[Amz,hB (b++b2) (by rw[<-Amz];exact hL),<-Amz];refine k5 b2 ?_;rw[Abq,Abq]at hL⊢;omega
  ·have k4':=k4 [] (by simpa using hpb);rw[Arp]at k4';refine⟨_,_,_,_,_,_,_,_,_,_,h1.trans k4',h2.trans k4', .er k1 k2 k3 λb2 hL=>?_⟩;rw[Amz,hB (b++b2) (by rw[<-Amz];exact hL),<-Amz];refine k4 b2 ?_;rw[Abq,Abq]at hL⊢;omega
 |er h0 hc hx hB=>
  have hne:Bc e 0=true:=by rw[Aj];simp;omega
  refine⟨_,_,_,_,_,_,_,_,_,_,?_,?_, .er h0 hc hx λb2 hL=>?_⟩
  ·rw[Ko,Wu,pE (by simp) (by simp) (by omega) hck.1,Aau (by decide),Aa];simp only;rw[Abm (show e≠0 by omega),Abm hne]
  ·rw[Kk,Rq,hck.2,Aa,Aau (by decide),YJ (by simp) (by simp) (by omega),Aa];simp only;rw[Rs,Abm hne,Aa,Abm hne]
  ·rw[Amz];exact hB (b++b2) (by rw[<-Amz];exact hL)
end Go.Pl
namespace Go.Pl
open Go Go.Lv
section
variable {o s p:LB} {f c w r n:Int} {g:LI} {a:Int} {x:LB} {e:Int}
theorem FitD.drop(h:FitD o f c w r n g a x)(t:Nat):FitD o f c w r n g a (x.drop t):=by
 cases h with
 |new e1 e2 e3 e4 e5 e6 e7 e8=>subst e8;exact .new e1 e2 e3 e4 e5 e6 e7 (by simp)
 |head F C W R N hd hpw e6 e7 e8=>subst e8;exact .head F C W R N hd hpw e6 e7 (by simp)
 |tab F C W R N A hd hpw ht hl ea hA=>exact .tab F C W R N A hd hpw ht hl ea hA
theorem OutB.drop(h:OutB f c w r n g a x)(t:Nat):OutB f c w r n g a (x.drop t):=by
 intro F C W R N A hd hg ha;have:=h F C W R N A hd hg ha;rw[Agn];omega
theorem Bh.Bic(h:Bh o s p f c w r n g a x e):p.length<=s.length/\g.length<=1000/\x.length<=12000:=by
 cases h with
 |wt W hl hb=>exact⟨hl,W.sz.hg,Bcw W.fit W.out⟩
 |er h0 hc hx hb=>exact⟨by simp,by simp,hx⟩
end
section
variable {o s p:LB} {f c w r n:Int} {g:LI} {a:Int} {x:LB} {e:Int}
theorem Axv{u:Bool}{v:Int}(hp:p.length<=20000)(h:Cv o p f c w r n g a x u v=some e):Cd e:=by
 rw[Cv]at h;split at h
 ·rw[AY p (by omega),Aa]at h;have hok:=BB (b:=p);simp only at h;by_cases h2:(Bs p).2≠0
  ·rw[Abm (by rw[Aj];simpa using h2)]at h;cases h;exact Aao p
  ·have h3:(Bs p).2=0:=by simpa using h2
   obtain⟨k1,k2,k3⟩:=hok h3;have hl:(Ii p).length<=p.length:=by rw[Ii,Agn];omega
   rw[Aau (by rw[Aj,h3];simp),Cb (by omega) (by omega),Aa,show p.drop (Bs p).1.toNat=Ii p from rfl,iN _ (by omega),Aa]at h;cases h;exact Aej _
 ·split at h
  ·cases h;decide
  ·obtain⟨⟨z1,z2⟩,hz,h⟩:=cK h;simp only at h;split at h<;>(cases h;decide)
theorem Bkc{u:Bool}{v k:Int}(ho:o.length<=64)(hx:x.length<=12000)(hk:(u=false/\v=k/\0<k/\Cd k)\/ (u=true/\v=0/\k=36)):
  Pd o [] 0 0 0 0 0 [] 0 x u v=some 0/\ (∀b,Ko o [] 0 0 0 0 0 [] 0 x u v b=some (o,[],0,0,0,0,0,[],0,x,u,v,k))/\Hg o [] 0 0 0 0 0 [] 0 x u v=some (o,[],0,0,0,0,0,[],0,x,u,v,k):=by
 have key:Dz o [] 0 0 0 0 0 [] 0 x u v=some 0:=by
  rcases hk with⟨rfl,rfl,h1,h2⟩|⟨rfl,rfl,rfl⟩
  ·exact Ai6 ho hx h2 h1
  ·have hX:Ed (Ac x) 12000=false:=by rw[Aq,Ac];simp;omega
   rw[Dz,Aau (by rw[Aq,Ac];simp;omega),Aau (by decide),Abm (by decide),hX,Aau (by decide),Aau (by decide)]
 obtain⟨E,e1,e2⟩:=Afg o [] 0 0 0 0 0 [] 0 x u v (by simp) (by simp) (by omega);rw[key]at e2;cases e2;have hv:(if v≠0 then v else if u=true then 36 else 0)=k:=by
  rcases hk with⟨rfl,rfl,h1,h2⟩|⟨rfl,rfl,rfl⟩
  ·rw[Abm (by omega)]
  ·rfl
 have hk0:Bc k 0=true:=by
  rw[Aj];rcases hk with⟨rfl,rfl,h1,h2⟩|⟨rfl,rfl,rfl⟩
  ·simp;omega
  ·rfl
 have hb:=pE (o:=o) (p:=[]) (f:=0) (c:=0) (w:=0) (r:=0) (n:=0) (g:=[]) (a:=0) (x:=x) (u:=u) (v:=v) (by simp) (by simp) (by omega) e1;rw[Aau (by decide),hv]at hb;refine⟨e1,λb=>?_,?_⟩
 ·rw[Ko,Wu,hb,Aa];simp only;rw[Abm hk0]
 ·rw[Hg,hb,Aa];simp only;rw[Abm hk0]
theorem Bh.finish(ho:o.length<=64)(h:Bh o s p f c w r n g a x e)(hp:p.length<=20000):
  ∃(u:Bool) (v k:Int),Hg o p f c w r n g a x false e=some (o,[],0,0,0,0,0,[],0,x,u,v,k)/\ ((u=false/\v=k/\0<k/\Cd k/\ (e=0\/e=k))\/ (u=true/\v=0/\k=0)):=by
 have hs:=h.Bic;have hck:=(h.check ho (by omega)).1;have hb:=pE (o:=o) (p:=p) (f:=f) (c:=c) (w:=w) (r:=r) (n:=n) (g:=g) (a:=a) (x:=x) (u:=false) (v:=e) (by omega) (by omega) (by omega) hck;rw[Aau (by decide)]at hb;cases h with
 |wt W hl hB=>
  obtain⟨e1,d1,d2⟩:=Abl (o:=o) (p:=p) (f:=f) (c:=c) (w:=w) (r:=r) (n:=n) (a:=a) (u:=false) (v:=0) (g:=g) (x:=x) hp;have hcd:=Axv hp d2;rw[Hg,hb,Aa];simp only;rw[Aau (by decide),d1,Aa];by_cases he:Bc e1 0=true
  ·rw[Abm he];refine⟨false,e1,e1,rfl, .inl ⟨rfl,rfl,?_,hcd,by simp⟩⟩;have:=hcd.nn;rw[Aj]at he;simp only[Bo3]at he;omega
  ·rw[Aau he];exact⟨true,0,0,rfl, .inr ⟨rfl,rfl,rfl⟩⟩
 |er h0 hc hx hB=>
  have hne:Bc e 0=true:=by rw[Aj];simp;omega
  rw[Hg,hb,Aa];simp only;rw[Abm (show e≠0 by omega),Abm hne];exact⟨false,e,e,rfl, .inl ⟨rfl,rfl,h0,hc, .inr rfl⟩⟩
end
section
variable {o p:LB} {f c w r n:Int} {g:LI} {a:Int} {x:LB} {q:Nat}
theorem BR(hp:p.length<=100000)(hg:g.length<=1000)(hx:x.length<=13000000)(h:Ag o p f c w r n g a x false 0=some (o,p,f,c,w,r,n,g,a,x,false,0, -1)):Kj (q+1) o p f c w r n g a x=some (o,p,f,c,w,r,n,g,a,x,false,0,0):=by
 rw[Kj,Bj,Cj,h,Aa];simp only;rw[Abm (by decide),YJ hp (by omega) hx,Aa]
theorem SA(hx:x.length<=13000000){e:Int}(he:0<e){t2:LB}{t3 t4 t5 t6 t7:Int}{t8:LI}{t9:Int}{t11:Bool}{t12:Int}(h:Ag o p f c w r n g a x false 0=some (o,t2,t3,t4,t5,t6,t7,t8,t9,x,t11,t12,e)):Kj (q+1) o p f c w r n g a x=some (o,[],0,0,0,0,0,[],0,x,false,e,e):=by
 rw[Kj,Bj,Cj,h,Aa];simp only;rw[Aau (by rw[jT (by omega)];decide),Abm (by rw[Aj];simp;omega),wH hx,Aa]
theorem rW{p':LB}{f' c' w' r' n':Int}{g':LI}{a':Int}{x':LB}(h:Ag o p f c w r n g a x false 0=some (o,p',f',c',w',r',n',g',a',x',false,0,0)):Kj (q+1) o p f c w r n g a x=Kj q o p' f' c' w' r' n' g' a' x':=by
 rw[Kj,Bj,Cj,h,Aa];simp only;rw[Aau (by decide),Aau (by decide)]
end
def Ends(o:LB)(R:Option Bm9)(x:LB)(e:Int):Prop:=(0<e/\R=some (o,[],0,0,0,0,0,[],0,x,false,e,e))\/ (∃(p:LB) (f c w r n:Int) (g:LI) (a:Int),p.length<=100000/\R=some (o,p,f,c,w,r,n,g,a,x,false,0,0)/\Cv o p f c w r n g a x false 0=some e)
theorem Ah4(b p:LB)(hb:b.length<=20000)(hp:p.length<=64)(q:Nat):
  (∃e:Int,e≠0/\Eb b p=some (bQ e)/\Ends p (Kj (q+2) p b 0 0 0 0 0 [] 0 []) [] e)\/ (∃f c w r n A l,Opn b p f c w r n A l/\Kj (q+2) p b 0 0 0 0 0 [] 0 []=Kj q p (b.drop A) (f:Int) (c:Int) (w:Int) (r:Int) (n:Int) l 0 []):=by
 have hx0:([]:LB).length<=13000000:=by simp
 have hg0:([]:LI).length<=1000:=by simp
 have hT:Ag p b 0 0 0 0 0 [] 0 [] false 0=Ag p b 0 0 0 0 0 [] 0 [] false 0:=rfl
 conv at hT=>rhs;rw[Ag,Bo,Abm (by decide),AQ b (by omega),Aa,stS]
 have hE:Cv p b 0 0 0 0 0 [] 0 [] false 0=Cv p b 0 0 0 0 0 [] 0 [] false 0:=rfl
 conv at hE=>rhs;rw[Cv,Abm (by decide),AY b (by omega),Aa]
 have hP:Eb b p=Eb b p:=rfl
 conv at hP=>rhs;rw[Eb,AP,Aau (by rw[Aq,Ac];simp;omega),Aau (by rw[Aq,Ac];simp;omega),Tz b (by omega),Aa]
 have hfn:=Aas b;have hrn:=Aih (Ii b);have hopen:=Adw b p (by omega) hp;simp only at hE;by_cases h2:(Bs b).2=0
 ·obtain⟨p0,p1,p2⟩:=BB h2;have hc:=Cb (l:=b) p0 p1;have hlen:(Ii b).length=b.length-(Bs b).1.toNat:=by simp[Ii]
  simp only[h2]at hP hE;rw[Aau (show ¬(Bs b).2=24 by omega),Aau (show ¬(Bs b).2≠0 by omega)]at hT;rw[Aau (by rw[Aj];simp),hc,Aa,show b.drop (Bs b).1.toNat=Ii b from rfl,XX _ (by simp[Ii];omega),Aa]at hP;rw[Aau (by rw[Aj];simp),hc,Aa,show b.drop (Bs b).1.toNat=Ii b from rfl,iN _ (by simp[Ii];omega),Aa]at hE;by_cases h3:(Er (Ii b)).2.2.2.2.2=0
  ·obtain⟨g1,g2,g3,g4⟩:=oP h3;have Bh8:¬((Pa (Ii b) ID3||Pa (Ii b) APX)=true):=by
    have i1:Pa (Ii b) ID3=false:=by rw[Pa,Bib (by simp[ID3];omega)];rfl
    have i2:Pa (Ii b) APX=false:=by rw[Pa,Bib (by simp[APX];omega)];rfl
    rw[i1,i2];decide
   rw[Aau Bh8,Aau (show ¬(Er (Ii b)).2.2.2.2.2=24 by omega),h3]at hT;simp only at hT;rw[Aau (by decide)]at hT;have hd:HdI (f0 (Ii b):Int) (f1 (Ii b):Int) (f2 (Ii b):Int) (f3 (Ii b):Int) (f4 (Ii b):Int) (f0 (Ii b)) (f1 (Ii b)) (f2 (Ii b)) (f3 (Ii b)) (f4 (Ii b)):=⟨rfl,rfl,rfl,rfl,rfl,g3,g4⟩;generalize hF:(Bs b).1.toNat=F at*
   have hF':(Bs b).1=(F:Int):=by omega
   rw[g1,hF']at hP hT;simp only at hP hT;generalize f0 (Ii b)=f at*
   generalize f1 (Ii b)=c at*
   generalize f2 (Ii b)=w at*
   generalize f3 (Ii b)=r at*
   generalize f4 (Ii b)=n at*
   have t22:Ad (F:Int) 22=((F+22:Nat):Int):=by rw[Ah (by omega) (by omega)];omega
   have t30:Ad ((F+22:Nat):Int) 8=((F+30:Nat):Int):=by rw[Ah (by omega) (by omega)];omega
   have Bnn:f=1\/f=2:=by simp only[Gu,Acm]at g3;omega
   have hf1:geq (f:Int) 1=decide (f=1):=by rw[Ar,Ajs];simp;omega
   rw[Aau (by rw[Aj];simp),t22,t30]at hP;rw[Cb (by omega) (by omega),Aa,Hl,Hm,Ev,show((F:Int)+22).toNat=F+22 by omega]at hT;by_cases MU:((p==([]:List UInt8)) !=(geq (f:Int) (1:Int)))=true
   ·rw[Abm MU]at hP hT;rw[Aa]at hT;exact .inl ⟨26,by omega,hP, .inl ⟨by omega,SA (q:=q+1) hx0 (by decide) hT⟩⟩
   ·rw[Aau MU]at hP hT;rw[Aa]at hT;have hl1:=rW (q:=q+1) hT;have hpf:(p=[]↔f=1):=by
     rw[Ar]at MU;have h5:(p==([]:List UInt8))=((f:Int)==1):=by simpa using MU
     have h6:(p==([]:List UInt8))=true↔((f:Int)==1)=true:=by rw[h5]
     rw[Aur,Aur]at h6;rw[h6];omega
    have hpw:(p==([]:LB))=decide (f=1):=by rw[<-hf1];simpa using MU
    have hdl:(b.drop (F+22)).length=b.length-(F+22):=Agn;have hE2:Cv p (b.drop (F+22)) (f:Int) (c:Int) (w:Int) (r:Int) (n:Int) [] 0 [] false 0=some 24:=by
     rw[Cv,Aau (by rw[Ar];simp;omega),Abm (by decide)]
    have hT2:Ag p (b.drop (F+22)) (f:Int) (c:Int) (w:Int) (r:Int) (n:Int) [] 0 [] false 0=Ag p (b.drop (F+22)) (f:Int) (c:Int) (w:Int) (r:Int) (n:Int) [] 0 [] false 0:=rfl
    conv at hT2=>rhs;rw[Ag,Bo,Aau (by rw[Ar];simp;omega),Bt,Bu,Abm (by decide),Ff,Ht]
    have hend:∀D:Nat,F+22+D<=b.length->D=(if f=2 then 8 else 0)->Eb b p=Ud b (f:Int) (c:Int) (w:Int) (r:Int) (n:Int) ((F+22+D:Nat):Int)->
      Ag p (b.drop (F+22)) (f:Int) (c:Int) (w:Int) (r:Int) (n:Int) [] 0 [] false 0=((Dq (b.drop (F+22)) (f:Int) (c:Int) (w:Int) (r:Int) (n:Int) (D:Int)).bind (λ(ag,ak,w1)=>if(Bc w1 0)then some (p,b.drop (F+22),(f:Int),(c:Int),(w:Int),(r:Int),(n:Int),([]:LI),(0:Int),([]:LB),false,(0:Int),w1)else(Bq (b.drop (F+22)) ag (Ac (b.drop (F+22)))).bind λal=>some (p,al,(f:Int),(c:Int),(w:Int),(r:Int),(n:Int),ak,(0:Int),([]:LB),false,(0:Int),(0:Int))))->
      (∃e:Int,e≠0/\Eb b p=some (bQ e)/\Ends p (Kj (q+2) p b 0 0 0 0 0 [] 0 []) [] e)\/ (∃f c w r n A l,Opn b p f c w r n A l/\Kj (q+2) p b 0 0 0 0 0 [] 0 []=Kj q p (b.drop A) (f:Int) (c:Int) (w:Int) (r:Int) (n:Int) l 0 []):=by
     intro D hD hD2 e1 e2;obtain⟨_,k2,k3⟩:=zS hd p (b.drop (F+22)) (by omega) D (by omega) 0 [] false 0;rw[Aa8 g3 g4 b (by omega) (F+22+D) hD]at e1;rw[k2,Aa]at e2;have hnn:=Ae5 ((b.drop (F+22)).drop D) (Al (Ak r) n).length;have hok:=gA (b:=(b.drop (F+22)).drop D) (n:=(Al (Ak r) n).length);rw[Bok]at e2 hnn hok k3;generalize hz:Eo (b.drop (F+22+D)) (Al (Ak r) n).length=z at*
     obtain⟨z1,z2⟩:=z;simp only at e1 e2 hnn hok k3;by_cases h:z2≠0
     ·rw[Abm h]at e1;refine .inl ⟨z2,h,e1,?_⟩;by_cases h24:z2=24
      ·rw[Abm h24]at e2;simp only at e2;rw[Abm (by decide)]at e2;rw[h24];exact .inr ⟨_,_,_,_,_,_,_,_,by omega,hl1.trans (BR (by omega) hg0 hx0 e2),hE2⟩
      ·rw[Aau h24]at e2;simp only at e2;rw[Abm (by rw[Aj];simpa using h)]at e2;exact .inl ⟨by omega,hl1.trans (SA hx0 (by omega) e2)⟩
     ·have h0:z2=0:=by simpa using h
      subst h0;obtain⟨k1,m2,m3,m4,m5,m6⟩:=hok rfl;have hk3:=k3 rfl;simp only[Ae3,Bpl]at k1;have gl:z1.length=(Al (Ak r) n).length:=by rw[k1];exact Wy _ _
      rw[Aau (show ¬((0:Int)≠0) by decide)]at e1;rw[Aau (show ¬((0:Int)=24) by decide)]at e2;simp only at e2;rw[Aau (by decide),Cb (by omega) (by omega),Aa,Bok]at e2;rcases hopen with⟨e,he,h1,_⟩|⟨f',c',w',r',n',A',l',o'⟩
      ·rw[e1]at h1;have:=Ayi h1;simp only[bQ,Ae3]at this;exact absurd this.2.2.2.2.2.2.2.symm he
      ·have hpr:=o'.prog;rw[e1]at hpr;simp only[Ads,Ae3]at hpr;obtain⟨v1,v2,v3,v4,v5,v6,v7,_⟩:=hpr;refine .inr ⟨f',c',w',r',n',A',l',o',?_⟩;rw[<-v1,<-v2,<-v3,<-v4,<-v5,<-v7];refine hl1.trans ((rW e2).trans ?_);congr 2;omega
    by_cases h5:f=2
    ·have Azw:p≠ []:=λe=>by have:=hpf.1 e;omega
     have h64:(p !=([]:List UInt8))=true:=by simpa using Azw
     rw[Abm h64]at hP;rw[Abm (by rw[Ar,h5];rfl)]at hT2;by_cases h6:b.length<F+30
     ·rw[Abm (by rw[Ae,Ac];simp;omega)]at hP hT2;rw[Aa]at hT2;simp only at hT2;rw[Abm (by decide)]at hT2;exact .inl ⟨24,by omega,hP, .inr ⟨_,_,_,_,_,_,_,_,by omega,hl1.trans (BR (by omega) hg0 hx0 hT2),hE2⟩⟩
     ·have hseg:((b.take (F+30)).drop (F+22)).length=8:=by simp;omega
      have Bo8:(b.drop (F+22)).take 8=(b.take (F+30)).drop (F+22):=by rw[List.drop_take];congr 1;omega
      rw[Aau (by rw[Ae,Ac];simp;omega),Wd (by omega) (by omega) (by omega),Aa]at hP;rw[Aau (by rw[Ae,Ac,hdl];simp;omega),Dj (by omega) (by omega),Aa,iJ p hp,Aa,show(8:Int).toNat=8 from rfl,Bo8]at hT2;rw[Ou,iR p hp,Aa]at hP;simp only at hP;rw[Aau (by rw[Aj,Aj,Ac,Ac,Ef,show((F+30:Nat):Int).toNat=F+30 from rfl,show((F+22:Nat):Int).toNat=F+22 from rfl,hseg];simp),If,Aa,Aa]at hP;simp only at hP;rw[Aau (by rw[Aj];simp),show((F+30:Nat):Int).toNat=F+30 from rfl,show((F+22:Nat):Int).toNat=F+22 from rfl]at hP;generalize(b.take (F+30)).drop (F+22)=tE at*
      by_cases h7:tE=Xf (Ws p).toNat 8
      ·rw[Aau (by simp[h7])]at hP hT2;exact hend 8 (by omega) (by rw[Abm h5]) hP hT2
      ·rw[Abm (by simpa using h7)]at hP;rw[Abm (by simpa using h7),Aa]at hT2;simp only at hT2;rw[Abm (by decide)]at hT2;exact .inl ⟨26,by omega,hP, .inl ⟨by omega,hl1.trans (SA hx0 (by decide) hT2)⟩⟩
    ·have hpe:p=[]:=hpf.2 (by omega);rw[Aau (by rw[hpe];simp)]at hP;rw[Aau (by rw[Ar];simp;omega)]at hT2;exact hend 0 (by omega) (by rw[Aau h5]) hP hT2
  ·have h3':=h3;generalize Er (Ii b)=v at*
   obtain⟨v1,v2,v3,v4,v5,v6⟩:=v;simp only at h3 hP hE hrn;rw[Abm (by rw[Aj];simpa using h3)]at hP;refine .inl ⟨v6,h3,hP,?_⟩;by_cases Bh8:(Pa (Ii b) ID3||Pa (Ii b) APX)=true
   ·rw[Abm Bh8]at hT;simp only at hT;rw[Abm (by decide)]at hT;exact .inr ⟨_,_,_,_,_,_,_,_,by omega,BR (by omega) hg0 hx0 hT,hE⟩
   ·rw[Aau Bh8]at hT;by_cases h24:v6=24
    ·rw[Abm h24]at hT;simp only at hT;rw[Abm (by decide)]at hT;exact .inr ⟨_,_,_,_,_,_,_,_,by omega,BR (by omega) hg0 hx0 hT,hE⟩
    ·rw[Aau h24]at hT;simp only at hT;rw[Abm (by rw[Aj];simpa using h3)]at hT;exact .inl ⟨by omega,SA hx0 (by omega) hT⟩
 ·have h2':=h2;generalize Bs b=v at*
  obtain⟨v,e⟩:=v;simp only at h2 hP hT hE hfn;rw[Abm (by rw[Aj];simpa using h2)]at hP hE;refine .inl ⟨e,h2,hP,?_⟩;by_cases h24:e=24
  ·rw[Abm h24]at hT;simp only at hT;rw[Abm (by decide)]at hT;exact .inr ⟨_,_,_,_,_,_,_,_,by omega,BR (by omega) hg0 hx0 hT,hE⟩
  ·rw[Aau h24,Abm h2]at hT;simp only at hT;rw[Abm (by rw[Aj];simpa using h2)]at hT;exact .inl ⟨by omega,SA hx0 (by omega) hT⟩
section
variable {b p:List UInt8} {f c w r n A:Nat} {l:List Int} (o:Opn b p f c w r n A l) (hb:b.length<=20000)
include o hb
theorem Acn:∀(j k q:Nat) (acc:List UInt8),k+j=l.length->j<q-> (A:Int)+(l.take k).sum<=b.length->acc.length<=12000*k->
  ∃X,Ends p (Kj q p (b.drop ((A:Int)+(l.take k).sum).toNat) (f:Int) (c:Int) (w:Int) (r:Int) (n:Int) l (k:Int) acc) X (mK (Lz b p f c w r n A l) (mY b A l) j k acc).2/\
   ((mK (Lz b p f c w r n A l) (mY b A l) j k acc).2=0->X=(mK (Lz b p f c w r n A l) (mY b A l) j k acc).1)
 |j,k,0,_,_,h,_,_=>absurd h (Bez _)
 |j,k,q+1,acc,hk,hq,hA,ha=>by
  have hd:HdI (f:Int) (c:Int) (w:Int) (r:Int) (n:Int) f c w r n:=⟨rfl,rfl,rfl,rfl,rfl,o.shape,o.fit⟩;have hs1:=o.some1;have hsum:=o.sum;have DV:=hd.num;have hlen:=o.len;have b1:=Ia o.five k;have hfn:¬(geq (f:Int) 0=true):=by rw[Ar];simp;omega
  have hgl:¬(geq (Ac l) 0=true):=by rw[Ar,Ac,Aur];omega
  have hgf:geq (Ac l) 0=false:=by simpa using hgl
  generalize hIn:b.drop ((A:Int)+(l.take k).sum).toNat=In;have Blg:In.length=b.length-((A:Int)+(l.take k).sum).toNat:=by rw[<-hIn,Agn]
  have hT:Ag p In (f:Int) (c:Int) (w:Int) (r:Int) (n:Int) l (k:Int) acc false 0=Ag p In (f:Int) (c:Int) (w:Int) (r:Int) (n:Int) l (k:Int) acc false 0:=rfl
  conv at hT=>rhs;rw[Ag,Bo,Aau hfn,Bt,Bu,Aau hgl]
  have hE:Cv p In (f:Int) (c:Int) (w:Int) (r:Int) (n:Int) l (k:Int) acc false 0=Cv p In (f:Int) (c:Int) (w:Int) (r:Int) (n:Int) l (k:Int) acc false 0:=rfl
  conv at hE=>rhs;rw[Cv,Aau hfn]
  cases j with
  |zero=>
   obtain rfl:k=l.length:=by omega
   rw[Azx]at hIn Blg;have hbe:mY b A l=(Se In).2:=by rw[mY,hIn]
   rw[Abm (by rw[Ar,Ac];simp)]at hT;have hgt:Cq (l.length:Int) (Ac l)=false:=by rw[Ae,Ac,Ba2];omega
   rw[Aau (by rw[hgf,hgt];decide),vT In (by omega),Aa]at hE;rw[mK,hbe];have hbz:=Ajj In;have hb4:4000<In.length-> (Se In).2=38:=λh4=>by rw[Se,Abm h4]
   generalize Se In=z at*
   obtain⟨z1,z2⟩:=z;simp only at hE hbz hb4⊢;by_cases h4:4000<In.length
   ·rw[Abm (by rw[Aq,Ac];simp;omega)]at hT;rw[hb4 h4,Abm (by decide)];exact⟨acc, .inl ⟨by decide,SA (by omega) (by decide) hT⟩,λh=>by cases h⟩
   ·rw[Aau (by rw[Aq,Ac];simp;omega)]at hT;have hlw:=BR (q:=q) (by omega:In.length<=100000) hs1.2 (by omega) hT;rcases hbz with h|h
    ·rw[h,Aau (by decide)];rw[h,Aau (by decide)]at hE;exact⟨acc, .inr ⟨_,_,_,_,_,_,_,_,by omega,hlw,hE⟩,λ_=>rfl⟩
    ·rw[h,Abm (by decide)];rw[h,Abm (by decide)]at hE;exact⟨acc, .inr ⟨_,_,_,_,_,_,_,_,by omega,hlw,hE⟩,λh=>by cases h⟩
  |succ j=>
   have hlt:k<l.length:=by omega
   have hlt2:k<(Al (Ak r) n).length:=by omega
   obtain⟨m,x,s,e,g⟩:=HG o k hlt;have hw:Bm (w:Int):=(Of o.shape).2.1;have Bel:=g.lens hw;have b2:=Ia o.five (k+1);have e1:=Jw hlt;have h5:=o.five l[k] (Ap3 _);have hm:=g.mom;rw[Aau (by rw[Ar,Ac];simp;omega),Df,Ep,Bn hlt,Aa]at hT;have hgt:Cq (k:Int) (Ac l)=true:=by rw[Ae,Ac,Acm];omega
   rw[Abm (by rw[hgf,hgt];decide)]at hE;rw[mK,g.eq];simp only;rcases g.way with⟨w1,rfl⟩|⟨w1,_,w2⟩
   ·rw[Abm (by rw[Ae,Ac];simp;omega),Aa]at hT;simp only at hT;rw[Abm (by decide)]at hT;rw[Abm (by decide)];exact⟨acc, .inr ⟨_,_,_,_,_,_,_,_,by omega,BR (by omega) hs1.2 (by omega) hT,hE⟩,λh=>by cases h⟩
   ·have hseg:In.take l[k].toNat=Aiv b A l k:=by
     rw[Aiv,<-hIn,List.drop_take];congr 1;omega
    have hnn:=sK hw (Mf p) DV.2.1.1 DV.2.1.2 g.pos.1 (by
     have hlt3:=Bn hlt2;rw[hlt3]at hm;have hm':=Ayi hm;obtain⟨m',hm2,m1,m2⟩:=Wk (Ej r) DV.2.2.2.2.1 (Ap3 hlt2);omega) w2
    rw[Aau (by rw[Ae,Ac];simp;omega),SH p o.pass,Aa]at hT;simp only at hT;rw[Dj (by omega) (by omega),Aa,hseg,Fs,Aa]at hT;simp only at hT;rw[hd.Amy,Aa,hm,Aa,Aa,w2,Aa]at hT;simp only at hT;rw[El,En]at hT;by_cases he:e≠0
    ·rw[Abm (by rw[Aj];simpa using he),Aa]at hT;simp only at hT;rw[Abm (by rw[Aj];simpa using he)]at hT;rw[Abm he];exact⟨acc, .inl ⟨by simp only;omega,SA (by omega) (by omega) hT⟩,λh=>absurd h he⟩
    ·have he0:e=0:=by simpa using he
     obtain⟨q1,q2,q3,q4,q5⟩:=g.some' he0;rw[Aau (by rw[Aj];simpa using he),QB hw (by omega) q3,<-q1,Aa,Aa]at hT;simp only at hT;rw[Aau (by decide),Bi (by simp;omega),Aa,Aro,Bi (by omega),Aa,Aa,Cb (by omega) (by omega),Aa,Ah (by omega) (by omega)]at hT;rw[Aau he,rW hT];have Blh:In.drop l[k].toNat=b.drop ((A:Int)+(l.take (k+1)).sum).toNat:=by rw[<-hIn,Bok];congr 1;omega
     rw[Blh];exact Acn j (k+1) q (acc++s) (by omega) (by omega) q5 (by rw[Abq];omega)
end
theorem Ayx(b p:LB)(hb:b.length<=20000)(hp:p.length<=64):∃(X:LB) (x1 x2 x3:Int) (x4:LX) (E:Int),Ends p (Fd p b) X E/\Nq b p=some (x1,x2,x3,x4,E)/\ (E=0->Le x2 x4=some (X,0)):=by
 obtain⟨q,hq⟩:∃q,Ax=q+1002+2:=⟨Ax-1004,by have:=As;omega⟩;rw[Fd,hq];rcases Ah4 b p hb hp (q+1002)with⟨e,he,h1,h2⟩|⟨f,c,w,r,n,A,l,o,h2⟩
 ·rcases Adh b p (by omega) hp with⟨e',he',k1,_,k3,_⟩|⟨f,c,w,r,n,A,l,o,_,_⟩
  ·rw[h1]at k1;have:=Ayi k1;simp only[bQ,Ae3]at this;obtain rfl:=this.2.2.2.2.2.2.2;exact⟨[],0,0,0,[],e,h2,k3,λh=>absurd h he⟩
  ·have:=o.prog;rw[h1]at this;have:=Ayi this;simp only[bQ,Ae3]at this;exact absurd this.2.2.2.2.2.2.2 he
 ·rcases Adh b p (by omega) hp with⟨e',he',k1,_,k3,_⟩|⟨f',c',w',r',n',A',l',o',k3,_⟩
  ·have:=o.prog;rw[k1]at this;have:=Ayi this;simp only[bQ,Ae3]at this;exact absurd this.2.2.2.2.2.2.2 he'
  ·have hpr:=o'.prog;rw[o.prog]at hpr;simp only[Ads,Ae3]at hpr;obtain⟨v1,v2,v3,v4,v5,v6,v7,_⟩:=hpr;obtain rfl:f=f':=by omega
   obtain rfl:c=c':=by omega
   obtain rfl:w=w':=by omega
   obtain rfl:r=r':=by omega
   obtain rfl:n=n':=by omega
   obtain rfl:A=A':=by omega
   subst v7;have hs1:=o.some1;have hat:=o.at';obtain⟨X,g1,g2⟩:=Acn o hb l.length 0 (q+1002) [] (by omega) (by omega) (by rw[Bix,Bns];omega) (by simp);rw[Bix,Bns,Int.add_zero,Afx]at g1;have hrc:=Aod w (Lz b p f c w r n A l) (mY b A l) l.length 0 [] [];have hgd:=Ag1 (λk=>smF w (Lz b p f c w r n A l k)) (λk=>(Lz b p f c w r n A l k).2) (mY b A l) l.length 0 [];rw[Abs,WK]at k3;rw[h2];by_cases hC:(dO (λk=>smF w (Lz b p f c w r n A l k)) (λk=>(Lz b p f c w r n A l k).2) (mY b A l) l.length 0 []).2≠0
   ·rw[Abm hC,wE]at k3;rw[<-hrc]at hC k3;exact⟨X,0,0,0,[],_,g1,k3,λh=>absurd h hC⟩
   ·have hC0:(dO (λk=>smF w (Lz b p f c w r n A l k)) (λk=>(Lz b p f c w r n A l k).2) (mY b A l) l.length 0 []).2=0:=by simpa using hC
    obtain⟨hbe,hE',hC1⟩:=hgd hC0;have hE:∀i,i<l.length-> (Lz b p f c w r n A l i).2=0:=λi hi=>hE' i (by omega) (by omega);rw[Aro]at hC1;rw[Aau hC,hC1]at k3;rw[hC0]at hrc;have hX:=g2 hrc;rw[hbe,Aj5 _ _ _ _ λi h1 h2=>hE i (by omega),Aro]at hX;rw[hrc]at g1;exact⟨X,_,_,_,_,0,g1,k3,λ_=>by rw[hX];exact Aw8 o hE⟩
section
variable {b p:List UInt8} {f c w r n A:Nat} {l:List Int} (o:Opn b p f c w r n A l) (hb:b.length<=20000)
include o hb
theorem Aen{k:Nat}(hk:k<l.length)(h0:(A:Int)+(l.take k).sum<=b.length)(acc:LB)(hacc:acc.length<=12000*k):
  (b.length<(A:Int)+(l.take (k+1)).sum->∀q,Kj (q+1) p (b.drop ((A:Int)+(l.take k).sum).toNat) (f:Int) (c:Int) (w:Int) (r:Int) (n:Int) l (k:Int) acc=some (p,b.drop ((A:Int)+(l.take k).sum).toNat,(f:Int),(c:Int),(w:Int),(r:Int),(n:Int),l,(k:Int),acc,false,0,0))/\
  ((A:Int)+(l.take (k+1)).sum<=b.length-> ((Lz b p f c w r n A l k).2=0->∀q,Kj (q+1) p (b.drop ((A:Int)+(l.take k).sum).toNat) (f:Int) (c:Int) (w:Int) (r:Int) (n:Int) l (k:Int) acc=Kj q p (b.drop ((A:Int)+(l.take (k+1)).sum).toNat) (f:Int) (c:Int) (w:Int) (r:Int) (n:Int) l ((k+1:Nat):Int) (acc++(Lz b p f c w r n A l k).1))/\
   ((Lz b p f c w r n A l k).2≠0->∀q,Kj (q+1) p (b.drop ((A:Int)+(l.take k).sum).toNat) (f:Int) (c:Int) (w:Int) (r:Int) (n:Int) l (k:Int) acc=some (p,[],0,0,0,0,0,[],0,acc,false,(Lz b p f c w r n A l k).2,(Lz b p f c w r n A l k).2))):=by
 have hd:HdI (f:Int) (c:Int) (w:Int) (r:Int) (n:Int) f c w r n:=⟨rfl,rfl,rfl,rfl,rfl,o.shape,o.fit⟩;have hs1:=o.some1;have hsum:=o.sum;have DV:=hd.num;have hlen:=o.len;have b1:=Ia o.five k;have hfn:¬(geq (f:Int) 0=true):=by rw[Ar];simp;omega
 have hgl:¬(geq (Ac l) 0=true):=by rw[Ar,Ac,Aur];omega
 generalize hIn:b.drop ((A:Int)+(l.take k).sum).toNat=In;have Blg:In.length=b.length-((A:Int)+(l.take k).sum).toNat:=by rw[<-hIn,Agn]
 have hT:Ag p In (f:Int) (c:Int) (w:Int) (r:Int) (n:Int) l (k:Int) acc false 0=Ag p In (f:Int) (c:Int) (w:Int) (r:Int) (n:Int) l (k:Int) acc false 0:=rfl
 conv at hT=>rhs;rw[Ag,Bo,Aau hfn,Bt,Bu,Aau hgl]
 have hlt2:k<(Al (Ak r) n).length:=by omega
 obtain⟨m,x,s,e,g⟩:=HG o k hk;have hw:Bm (w:Int):=(Of o.shape).2.1;have Bel:=g.lens hw;have b2:=Ia o.five (k+1);have e1:=Jw hk;have h5:=o.five l[k] (Ap3 _);have hm:=g.mom;rw[Aau (by rw[Ar,Ac];simp;omega),Df,Ep,Bn hk,Aa]at hT;rw[g.eq];simp only;refine⟨λhlt q=>?_,λhge=>?_⟩
 ·rw[Abm (by rw[Ae,Ac];simp;omega),Aa]at hT;simp only at hT;rw[Abm (by decide)]at hT;exact BR (by omega) hs1.2 (by omega) hT
 rcases g.way with⟨w1,_⟩|⟨w1,_,w2⟩
 ·omega
 have hseg:In.take l[k].toNat=Aiv b A l k:=by
  rw[Aiv,<-hIn,List.drop_take];congr 1;omega
 have hnn:=sK hw (Mf p) DV.2.1.1 DV.2.1.2 g.pos.1 (by
  have hlt3:=Bn hlt2;rw[hlt3]at hm;have hm':=Ayi hm;obtain⟨m',hm2,m1,m2⟩:=Wk (Ej r) DV.2.2.2.2.1 (Ap3 hlt2);omega) w2
 rw[Aau (by rw[Ae,Ac];simp;omega),SH p o.pass,Aa]at hT;simp only at hT;rw[Dj (by omega) (by omega),Aa,hseg,Fs,Aa]at hT;simp only at hT;rw[hd.Amy,Aa,hm,Aa,Aa,w2,Aa]at hT;simp only at hT;rw[El,En]at hT;refine⟨λhe q=>?_,λhe q=>?_⟩
 ·obtain⟨q1,q2,q3,q4,q5⟩:=g.some' he;rw[Aau (by rw[Aj];simpa using he),QB hw (by omega) q3,<-q1,Aa,Aa]at hT;simp only at hT;rw[Aau (by decide),Bi (by simp;omega),Aa,Aro,Bi (by omega),Aa,Aa,Cb (by omega) (by omega),Aa,Ah (by omega) (by omega)]at hT;rw[rW hT];have Blh:In.drop l[k].toNat=b.drop ((A:Int)+(l.take (k+1)).sum).toNat:=by rw[<-hIn,Bok];congr 1;omega
  rw[Blh];rfl
 ·rw[Abm (by rw[Aj];simpa using he),Aa]at hT;simp only at hT;rw[Abm (by rw[Aj];simpa using he)]at hT;exact SA (by omega) (by omega) hT
theorem Aga:∀(j k q:Nat) (acc:LB),k+j<=l.length-> (A:Int)+(l.take (k+j)).sum<=b.length-> (∀i,k<=i->i<k+j-> (Lz b p f c w r n A l i).2=0)->acc.length<=12000*k->
  Kj (q+j) p (b.drop ((A:Int)+(l.take k).sum).toNat) (f:Int) (c:Int) (w:Int) (r:Int) (n:Int) l (k:Int) acc=Kj q p (b.drop ((A:Int)+(l.take (k+j)).sum).toNat) (f:Int) (c:Int) (w:Int) (r:Int) (n:Int) l ((k+j:Nat):Int) (acc++Xs (λi=>(Lz b p f c w r n A l i).1) j k)
 |0,k,q,acc,_,_,_,_=>by simp[Xs]
 |j+1,k,q,acc,hk,hA,hg,hacc=>by
  have hnn:∀z∈l,0<=z:=λz hz=>by have:=o.five z hz;omega
  have m0:=An4 hnn (show k<=k+(j+1) by omega);have m1:=An4 hnn (show k+1<=k+(j+1) by omega);obtain⟨_,h2⟩:=Aen (hb:=hb) o (k:=k) (by omega) (by omega) acc hacc;have h3:=(h2 (by omega)).1 (hg k (by omega) (by omega)) (q+j);obtain⟨m,x,s,e,g⟩:=HG o k (by omega);have Bel:=g.lens (Of o.shape).2.1;have hs:(Lz b p f c w r n A l k).1.length<=12000:=by rw[g.eq];exact Bel.1
  have ih:=Aga j (k+1) q (acc++(Lz b p f c w r n A l k).1) (by omega) (by rw[show k+1+j=k+(j+1) by omega];exact hA) (λi h1 h2=>hg i (by omega) (by omega)) (by rw[Abq];omega);rw[show q+(j+1)=q+j+1 by omega,h3,ih,show k+1+j=k+(j+1) by omega,Xs,Amz]
theorem Baz{acc:LB}(hacc:acc.length<=13000000)(h0:(A:Int)+l.sum<=b.length)(h4:b.length<= (A:Int)+l.sum+4000)(q:Nat):Kj (q+1) p (b.drop ((A:Int)+l.sum).toNat) (f:Int) (c:Int) (w:Int) (r:Int) (n:Int) l (l.length:Int) acc=some (p,b.drop ((A:Int)+l.sum).toNat,(f:Int),(c:Int),(w:Int),(r:Int),(n:Int),l,(l.length:Int),acc,false,0,0):=by
 have hd:HdI (f:Int) (c:Int) (w:Int) (r:Int) (n:Int) f c w r n:=⟨rfl,rfl,rfl,rfl,rfl,o.shape,o.fit⟩;have hs1:=o.some1;have DV:=hd.num;have hfn:¬(geq (f:Int) 0=true):=by rw[Ar];simp;omega
 have hgl:¬(geq (Ac l) 0=true):=by rw[Ar,Ac,Aur];omega
 have hl0:0<=l.sum:=Att l o.five;generalize hIn:b.drop ((A:Int)+l.sum).toNat=In;have Blg:In.length=b.length-((A:Int)+l.sum).toNat:=by rw[<-hIn,Agn]
 have hT:Ag p In (f:Int) (c:Int) (w:Int) (r:Int) (n:Int) l (l.length:Int) acc false 0=Ag p In (f:Int) (c:Int) (w:Int) (r:Int) (n:Int) l (l.length:Int) acc false 0:=rfl
 conv at hT=>rhs;rw[Ag,Bo,Aau hfn,Bt,Bu,Aau hgl]
 rw[Abm (by rw[Ar,Ac];simp),Aau (by rw[Aq,Ac];simp;omega)]at hT;exact BR (by omega) hs1.2 hacc hT
theorem Ay6(q:Nat):Kj (q+2) p b 0 0 0 0 0 [] 0 []=Kj q p (b.drop A) (f:Int) (c:Int) (w:Int) (r:Int) (n:Int) l 0 []:=by
 rcases Ah4 b p hb o.pass q with⟨e,he,h1,_⟩|⟨f',c',w',r',n',A',l',o',h2⟩
 ·have:=o.prog;rw[h1]at this;have:=Ayi this;simp only[bQ,Ae3]at this;exact absurd this.2.2.2.2.2.2.2 he
 ·have hpr:=o'.prog;rw[o.prog]at hpr;simp only[Ads,Ae3]at hpr;obtain⟨v1,v2,v3,v4,v5,v6,v7,_⟩:=hpr;obtain rfl:f=f':=by omega
  obtain rfl:c=c':=by omega
  obtain rfl:w=w':=by omega
  obtain rfl:r=r':=by omega
  obtain rfl:n=n':=by omega
  obtain rfl:A=A':=by omega
  subst v7;exact h2
theorem Bhd{K:Nat}(hK:K<=l.length)(hA:(A:Int)+(l.take K).sum<=b.length)(hg:∀i,i<K-> (Lz b p f c w r n A l i).2=0)(hend:(K<l.length/\b.length<(A:Int)+(l.take (K+1)).sum)\/ (K=l.length/\b.length<= (A:Int)+l.sum+4000)):
  Fd p b=some (p,b.drop ((A:Int)+(l.take K).sum).toNat,(f:Int),(c:Int),(w:Int),(r:Int),(n:Int),l,(K:Int),Xs (λi=>(Lz b p f c w r n A l i).1) K 0,false,0,0):=by
 obtain⟨q,hq⟩:∃q,Ax=(q+1+K)+2:=⟨Ax-(K+3),by have:=As;have:=o.some1;omega⟩;have hr:=Aga o hb K 0 (q+1) [] (by omega) (by rw[Bh9];exact hA) (λi _ h2=>hg i (by omega)) (by simp);rw[Bix,Bns,Int.add_zero,Afx,Bh9,Aro,show((0:Nat):Int)=0 from rfl]at hr;have hcl:(Xs (λi=>(Lz b p f c w r n A l i).1) K 0).length<=12000*K:=by
  have:∀j,j<=l.length-> (Xs (λi=>(Lz b p f c w r n A l i).1) j 0).length<=12000*j:=by
   intro j
   induction j with
   |zero=>intro _;simp[Xs]
   |succ j ih=>
    intro hj;obtain⟨m,x,s,e,g⟩:=HG o j (by omega);have Bel:=g.lens (Of o.shape).2.1;have:=ih (by omega);have hs:(Lz b p f c w r n A l j).1.length<=12000:=by rw[g.eq];exact Bel.1
    rw[Akx,Abq,Bh9];omega
  exact this K hK
 rw[Fd,hq,Ay6 o hb,hr];rcases hend with⟨h1,h2⟩|⟨rfl,h2⟩
 ·exact(Aen o hb h1 hA _ hcl).1 h2 q
 ·rw[Azx]at hA⊢;exact Baz o hb (by have:=o.some1;omega) hA h2 q
end
theorem Bh.Bmp{o s p:LB}{f c w r n:Int}{g:LI}{a:Int}{x:LB}{e:Int}(ho:o.length<=64)(h:Bh o s p f c w r n g a x e)(hp:p.length<=20000)(b:LB)(hb:b.length<=20000)(hs:(s++b).length<=100000)
  {p':LB} {f' c' w' r' n':Int} {g':LI} {a':Int} {x':LB} {e':Int} (hk:Fd o (s++b)=some (o,p',f',c',w',r',n',g',a',x',false,e',e')):
  Ko o p f c w r n g a x false e b=some (o,p',f',c',w',r',n',g',a',x',false,e',e')/\Bh o (s++b) p' f' c' w' r' n' g' a' x' e':=by
 obtain⟨p2,f2,c2,w2,r2,n2,g2,a2,x2,e2,h1,_,h3⟩:=h.feed ho hp b hb hs;have h4:=h3.fd hs;rw[hk]at h4;simp only[Ads,Ae3]at h4;obtain⟨_,rfl,rfl,rfl,rfl,rfl,rfl,rfl,rfl,rfl,_,rfl,_⟩:=h4;exact⟨h1,h3⟩
theorem Asa{w:Nat}(hw:Bm (w:Int)){X:LX}(hl:X.length<=4000)(hr:inR (w:Int) X):Le (w:Int) X=some (Dk (w:Int) X,0):=XY hw hl (sP hw hl hr)
inductive Pl (S D A:Int) (G:Nat->Int) (l:List Int) (a:Int):UInt8->Int->Int->Prop
 |t:a<S->Pl S D A G l a 1 0 0
 |h:S<=a->a<S+22->Pl S D A G l a 2 0 0
 |d:S+22<=a->a<D->Pl S D A G l a 3 0 0
 |s:S+22<=a->D<=a->a<A->Pl S D A G l a 4 0 0
 |f (i:Nat):S+22<=a->D<=a->A<=a->i<l.length->A+(l.take i).sum<=a->a<A+(l.take (i+1)).sum->Pl S D A G l a 5 i (G i)
 |b:S+22<=a->D<=a->A<=a->A+l.sum<=a->Pl S D A G l a 6 0 0
theorem Bb5{o b X:LB}{E:Int}(ho:o.length<=64)(hb:b.length<=20000)(Bli:Ends o (Fd o b) X E):∃(p2:LB) (f2 c2 w2 r2 n2:Int) (g2:LI) (a2 e3:Int) (u:Bool) (v:Int),Ko o [] 0 0 0 0 0 [] 0 [] false 0 b=some (o,p2,f2,c2,w2,r2,n2,g2,a2,X,false,e3,e3)/\Hg o p2 f2 c2 w2 r2 n2 g2 a2 X false e3=some (o,[],0,0,0,0,0,[],0,X,u,v,E)/\ (e3=0\/e3=E):=by
 obtain⟨p2,f2,c2,w2,r2,n2,g2,a2,y2,e3,d1,_,d3⟩:=(Bh.new ho).feed ho (by simp) b (by omega) (by simp;omega);rw[Aro]at d3;have hs:=d3.Bic;have hfd:=d3.fd (by omega);have hck:=d3.check ho (by omega);rcases Bli with⟨h0,h1⟩|⟨p,f,c,w,r,n,g,a,hpl,h1,h2⟩
 ·rw[hfd]at h1;simp only[Ads,Ae3]at h1;obtain⟨_,rfl,rfl,rfl,rfl,rfl,rfl,rfl,rfl,rfl,_,rfl,_⟩:=h1;obtain⟨u,v,k,k1,k2⟩:=d3.finish ho (by simp);rcases k2 with⟨rfl,rfl,k3,_,k4⟩|⟨rfl,rfl,rfl⟩
  ·have hk:v=e3:=by rcases k4 with h|h<;>omega
   subst hk;exact⟨_,_,_,_,_,_,_,_,_,_,_,d1,k1, .inr rfl⟩
  ·
   exfalso;cases d3 with
   |wt W=>omega
   |er h0 hc hx hB=>
    have:=(Bkc (o:=o) (u:=false) (v:=e3) (k:=e3) ho hx (.inl ⟨rfl,rfl,h0,hc⟩)).2.2;rw[this]at k1;simp only[Ads,Ae3]at k1;exact absurd k1.2.2.2.2.2.2.2.2.2.2.1 (by decide)
 ·rw[hfd]at h1;simp only[Ads,Ae3]at h1;obtain⟨_,rfl,rfl,rfl,rfl,rfl,rfl,rfl,rfl,rfl,_,rfl,_⟩:=h1;have hbg:=pE (o:=o) (p:=p2) (f:=f2) (c:=c2) (w:=w2) (r:=r2) (n:=n2) (g:=g2) (a:=a2) (x:=y2) (u:=false) (v:=0) (by omega) (by omega) (by omega) hck.1;rw[Aau (by decide)]at hbg;obtain⟨e1,q1,q2⟩:=Abl (o:=o) (p:=p2) (f:=f2) (c:=c2) (w:=w2) (r:=r2) (n:=n2) (a:=a2) (u:=false) (v:=0) (g:=g2) (x:=y2) (by omega);rw[h2]at q2;cases q2;have hF:Hg o p2 f2 c2 w2 r2 n2 g2 a2 y2 false 0=Hg o p2 f2 c2 w2 r2 n2 g2 a2 y2 false 0:=rfl
  conv at hF=>rhs;rw[Hg,hbg,Aa]
  simp only at hF;rw[Aau (by decide),q1,Aa]at hF;by_cases he:Bc E 0=true
  ·rw[Abm he,XL,Aa]at hF;exact⟨_,_,_,_,_,_,_,_,_,_,_,d1,hF, .inl rfl⟩
  ·have hE0:E=0:=by rw[Aj]at he;simpa using he
   rw[Aau he,<-hE0]at hF;exact⟨_,_,_,_,_,_,_,_,_,_,_,d1,by rw[hE0]at hF⊢;exact hF, .inl rfl⟩
theorem Aly{w:Nat}(hw:Bm (w:Int)){X:LX}(hX:X.length<=4000)(hr:inR (w:Int) X):Xl (w:Int) (Dk (w:Int) X)=some (X,0):=by
 have h:=zA (Dk (w:Int) X) hw (m:=X.length) (GC hw X) hX;rw[Aht hw X hr]at h;exact h
theorem Ae6{b p:LB}(hb:b.length<=20000)(hp:p.length<=64):∃(x1 x2 x3:Int) (x4:LX) (E:Int),Pq b p=some (x1,x2,x3,x4,E)/\Nq b p=some (x1,x2,x3,x4,E)/\x4.length<=4000000:=by
 obtain⟨X,y1,y2,y3,y4,E,Bli,Acy,_⟩:=Ayx b p hb hp;obtain⟨p2,f2,c2,w2,r2,n2,g2,a2,e3,u,v,k1,k2,k3⟩:=Bb5 hp hb Bli;by_cases hE:E=0
 rotate_left
 ·have hbad:Nq b p=some (wE E):=by
   rcases Adh b p (by omega) hp with⟨e,he,h1,_,h3,_⟩|⟨f,c,w,r,n,A,l,o,h3,_⟩
   ·rw[h3]at Acy⊢;have:=Ayi Acy;simp only[wE,Ae3]at this;rw[this.2.2.2.2]
   ·rw[h3]at Acy⊢;have hce:=Ayi Acy;rw[Abs,WK]at hce⊢;by_cases hne:(dO (λk=>smF w (Lz b p f c w r n A l k)) (λk=>(Lz b p f c w r n A l k).2) (mY b A l) l.length 0 []).2≠0
    ·rw[Abm hne]at hce⊢;simp only[wE,Ae3]at hce;rw[hce.2.2.2.2]
    ·rw[Aau hne]at hce;simp only[Ae3]at hce;exact absurd hce.2.2.2.2.symm hE
  refine⟨0,0,0,[],E,?_,hbad,by simp⟩;rw[Pq,cI,Aau (by rw[Aq,Ac];simp;omega),Aa];simp only;rw[Aau (by decide),k1,Aa];simp only;by_cases h0:e3=0
  ·rw[Aau (by rw[h0];decide),k2,Aa];simp only;rw[Abm (by rw[Aj];simpa using hE)]
  ·have:e3=E:=by
    rcases k3 with h|h
    ·exact absurd h h0
    ·exact h
   rw[Abm (by rw[Aj];simpa using h0),this]
 ·subst hE;have he3:e3=0:=by rcases k3 with h|h<;>exact h
  subst he3;rcases Adh b p (by omega) hp with⟨e,he,h1,_,h3,_⟩|⟨f,c,w,r,n,A,l,o,h3,_⟩
  ·rw[h3]at Acy;have:=Ayi Acy;simp only[wE,Ae3]at this;exact absurd this.2.2.2.2 he
  rw[h3]at Acy;have hce:=Ayi Acy;have hs1:=o.some1;have hlen:=o.len;obtain⟨hcc,hw,hr,hn,_⟩:=Of o.shape;have hfit:n<=4000/c:=by have:=o.fit;simp only[BM,Acm]at this;exact this.1
  have hnc:n*c<=4000:=by
   have a1:=Adx c hfit;have a2:=Bit 4000 c;omega
  have hcl0:(dO (λk=>smF w (Lz b p f c w r n A l k)) (λk=>(Lz b p f c w r n A l k).2) (mY b A l) l.length 0 []).2=0:=by
   refine Bl7 λhne=>?_;rw[Abs,WK,Abm hne]at hce;simp only[wE,Ae3]at hce;exact hne hce.2.2.2.2
  obtain⟨b0,hall,hX4⟩:=Ag1 _ _ _ _ _ _ hcl0;rw[Aro]at hX4;have hgood:∀i,i<l.length-> (Lz b p f c w r n A l i).2=0:=λi hi=>hall i (by omega) (by omega);have hAl:(A:Int)+l.sum<=b.length:=Bcd o (by rw[hce]);have hbl:b.length<= (A:Int)+l.sum+4000:=by
   refine Int.not_lt.1 λhlt=>?_;have:(Se (b.drop ((A:Int)+l.sum).toNat)).2=38:=by rw[Se,Abm (by rw[Agn];have:=Att l o.five;omega)]
   rw[mY,this]at b0;exact absurd b0 (by decide)
  have hfd:=Bhd o hb (K:=l.length) (Arj _) (by rw[Azx];exact hAl) hgood (.inr ⟨rfl,hbl⟩);have hbh:=((Bh.new hp).Bmp hp (by simp) b (by omega) (by simp;omega) (by rw[Aro];exact hfd)).1;rw[k1]at hbh;simp only[Ads,Ae3]at hbh;obtain⟨_,rfl,rfl,rfl,rfl,rfl,rfl,i8,rfl,rfl,_⟩:=hbh;have i8:=i8.symm;subst i8;have hw8:¬(((geq (f:Int) 0)&&((geq (c:Int) 0)&&((geq (w:Int) 0)&&((geq (r:Int) 0)&&((geq (n:Int) 0)&&true)))))=true):=by
   have:geq (n:Int) 0=false:=by rw[Ar,beq_eq_false_iff_ne];omega
   rw[this];simp
  have htot:=Ajk o hgood;have hin:=Alg o hgood l.length 0 (by omega);have hby:=Aap o hgood l.length 0 (by omega);have hsb:=Aly hw (X:=Xs (λi=>smF w (Lz b p f c w r n A l i)) l.length 0) (by omega) hin;rw[hby]at hsb;refine⟨(c:Int),(w:Int),(r:Int),Xs (λi=>smF w (Lz b p f c w r n A l i)) l.length 0,0,?_,?_,by omega⟩
  ·rw[Pq,cI,Aau (by rw[Aq,Ac];simp;omega),Aa];simp only;rw[Aau (by decide),k1,Aa];simp only;rw[Aau (by decide),k2,Aa];simp only;rw[Aau (by decide),Aau hw8,hsb,Aa];simp only;rw[Aau (by decide)]
  ·rw[h3,Abs,WK,Aau (by rw[hcl0];simp),hX4]
theorem ClipOk.enc{c w r n:Nat}{x:List Int32}(h:ClipOk c w r n x){p:LB}(hp:p.length<=64):EncOk c w r p:=⟨h.ch,h.bits,h.rate,hp⟩
theorem Bcc{c w r n:Nat}{x:List Int32}(h:ClipOk c w r n x){p:LB}(hp:p.length<=64):nE c w (Dk (w:Int) x)=n/\XE c w (Dk (w:Int) x)=x/\RE c w (Dk (w:Int) x)=[]/\RF c r n:=by
 have he:=h.enc hp;have hs:=Aa1 he;have hbl:(Dk (w:Int) x).length=n*wT c w:=by rw[GC h.bits,h.len,wT,Azz]
 have hn:nE c w (Dk (w:Int) x)=n:=by rw[nE,hbl,Bnv _ (by omega)]
 have hle:=h.le;refine⟨hn,?_,?_,hle.2.1, .inr h.fr⟩
 ·rw[XE,hn,<-h.len];exact Aht h.bits x h.rng
 ·rw[RE,hn,<-hbl,Bla]
theorem Aid{c w r n:Nat}{x:List Int32}(h:ClipOk c w r n x)(hk:Eg (c:Int) (w:Int) (r:Int) x=some 0){p:LB}(hp:p.length<=64):Qe (c:Int) (w:Int) (r:Int) x p=some (YC c w r n x p,0):=by
 have he:=h.enc hp;obtain⟨f1,f2,f3,f4⟩:=Bcc h hp;have hle:=h.le;have hbl:=FO (w:Int) x;have hf:=Bcl he [] (Dk (w:Int) x) (by omega) (by rw[show nE c w []=0 from Nat.zero_div _];exact Ay9 c r);rw[Aro,Bbr,f1,Abm f4]at hf;have hfin:=Atp he (Dk (w:Int) x) (by rw[f1];exact f4);rw[f1,f2,f3,Aau (by have:=h.cnt.1;simp;omega)]at hfin;rw[f3]at hf;rw[Qe,Za,hk,Aa,Aau (by decide),Asa h.bits (by omega) h.rng,Aa];simp only;rw[Aau (by decide),Bgu he,Aa];simp only;rw[Aau (by decide),hf,Aa];simp only;rw[LZ,KE,Aau (by decide),hfin,Aa];simp only;rw[KC,JE,Yj,cT,Aau (by decide)]
theorem Bfd:Wg=some true:=by kernel_rfl
theorem Bak(hal:Wg=some true)(C W R:Int)(x:List Int32)(p b:LB):Mq C W R x p b=some true:=by
 have main:x.length<=400->p.length<=64->b.length<=12100->Js p b true C W R x=some true:=by
  intro hx hp hb;have henc:∃y e,Qe C W R x p=some (y,e)/\GP C W R x p=some (y,e):=by
   rcases Apt C W R x with⟨_,e8⟩|⟨c,w,r,n,rfl,rfl,rfl,h,e24,eck⟩
   ·have e8:=e8 (by omega);refine⟨[],8,?_,?_⟩
    ·rw[Qe,Za,e8,Aa,Abm (by decide)]
    ·rw[GP,KI,TR,Zu,e8,Aa,Abm (by decide),Aa];simp only;rw[Abm (by decide)]
   ·exact⟨_,_,Aid h eck hp,Ank h eck p hp⟩
  obtain⟨y,e,k1,k2⟩:=henc;obtain⟨x1,x2,x3,x4,E,k3,k4,k5⟩:=Ae6 (b:=b) (p:=p) (by omega) hp;rw[Js,Yl,k1,Aa];simp only;rw[k2,Aa];simp only;rw[k3,Aa];simp only;rw[k4,Aa];simp only;rw[Abm (by simp[Ar]),Bk2 _ _ _ _ k5,Aa]
 rw[Mq,Oo,hal,Aa];by_cases h1:((Ed (Ac x) 400)||(Ed (Ac p) 64))=true
 ·rw[Abm h1,Abm (by simp)]
 ·rw[Aau h1,MJ,Aa];simp only[Baq,not_or,Aq,Ac,Acm]at h1;by_cases hb:((((Ed (Ac b) 5000)&&(Cq (Ac b) 12000))||(Ed (Ac b) 12100))||(!true))=true
  ·rw[Abm hb]
  ·rw[Aau hb];simp only[Baq,not_or,Aq,Ac,Acm]at hb;exact main (by omega) (by omega) (by omega)
theorem law_OneshotSame(C W R:Int)(x:List Int32)(p b:LB):Mq C W R x p b=some true:=Bak Bfd C W R x p b
end Go.Pl
