/- A part of the proof of a statement of this seat (see the text that ends in Proof): LwClip, LwPts, LwTrc, LwPd, LwDt, LwDu, LwAll, LwEc3, LwEc4, LwEb1, LwEb2, LwEb3, LwEb4, LwA41, LwPv, LwPk, LwEf1, LwEf2, LwEf3, LwEf4, LwEf5, LwEf6, LwPn1, LwPn2, LwPn3, LwPn4, LwNn, LwHdI, LwFit, LwFitC, LwStart, LwStb, LwChk, LwChkT, LwChkF, LwPc, LwTake, LwGre, LwSteps, LwStb2, LwFed, LwOut, LwErr, LwCat, LwJoin, LwPp, LwPt, LwPe2, LwEf7, LwEf8, LwA44, LwUndo, LwEg1, LwDp, LwEg2, LwEg3, LwOs, LwPcs, LwDec, LwWays, LwCw, LwCb, LwCm. No conditions of its own. -/
import Derived.Test.YtgomgobgfhhahaaGreatDoorCbWA
import Derived.Test.YtgomgobgfhhahaaGreatDoorCbPA
import Derived.KernelRfl
set_option linter.unusedVariables false
set_option linter.unusedSimpArgs false
namespace Go.Pl
open Go Go.Lv
abbrev C5:=Int×Int×Int×List Int32×Int
def Amf(e:Int):C5:=(0,0,0,[],e)
theorem wU{tC p:List UInt8}(hs:tC.length=8)(hp:p.length<=64):Om tC p=some (tC==Sm (Vk p).toNat 8,0):=by
 rw[Om,sC p hp,Aa];simp only;rw[Aaf (by rw[Al,Al,Ac,Ac,Cf,hs];simp),If,Aa]
theorem Bfg(b p:List UInt8)(m c w h o q n g y ab:Int)(k v:List Int){e:Int}(he:e≠0):Um b p m c w h o q n g k e y ab v=some (Amf e):=by
 rw[Um,YI,Aas (by rw[Al];simpa using he)];rfl
theorem Ade(b p:List UInt8)(m c w h o q n g y ab:Int)(k:List Int){e:Int}(he:e≠0):AQ b p m c w h o q n g y ab k e=some (Amf e):=by
 rw[AQ,ZI,Aas (by rw[Al];simpa using he)];rfl
theorem Bcm(b p:List UInt8)(m c w h o q n g y ab:Int)(k:List Int):AQ b p m c w h o q n g y ab k 0=KF b p m c w h o q n g y ab k:=by
 rw[AQ,ZI,Aaf (by rw[Al];simp)]
def iU(X:Nat->List Int32)(E:Nat->Int)(be:Int):Nat->Nat->List Int32->List Int32×Int
 |0,_,acc=>if be≠0 then([],38)else(acc,0)
 |j+1,k,acc=>if E k≠0 then([],E k)else iU X E be j (k+1) (acc++X k)
def bI(c w r:Nat)(y:List Int32×Int):C5:=if y.2≠0 then Amf y.2 else((c:Int),(w:Int),(r:Int),y.1,0)
def Adu(b p:List UInt8)(f c w r n A:Nat)(l:List Int):C5:=
 bI c w r (iU (λk=>smF w (Ii b p f c w r n A l k)) (λk=>(Ii b p f c w r n A l k).2) (eJ b A l) l.length 0 [])
section
variable {b p:List UInt8} {f c w r n A:Nat} {l:List Int} (o:Opn b p f c w r n A l)
include o
theorem Aj9(a1 a2 a3 a4:Int):∀(j k q:Nat) (acc:List Int32),k+j=l.length->j<q-> (k=l.length-> (A:Int)+l.sum<=b.length)->acc.length<=4000*k->
  Zr b l (f:Int) (c:Int) (w:Int) (r:Int) (n:Int) a1 a2 a3 (A:Int) a4 (Kf p) (Aj (Ak r) n) q ((A:Int)+(l.take k).sum) (k:Int) acc=
   some (bI c w r (iU (λk=>smF w (Ii b p f c w r n A l k)) (λk=>(Ii b p f c w r n A l k).2) (eJ b A l) j k acc))
 |0,k,q+1,acc,hk,_,hfit,_=>by
  have hA:=o.at';have Ah8:=o.file;have hs1:=o.some1;have hsum:=o.sum;have b1:=Fb o.five l.length;have hf:=hfit (by omega);obtain rfl:k=l.length:=by omega
  rw[Aye]at b1⊢;rw[Zr,aS,Aaf (by rw[Ae,Ac];simp),rF,rJ,Bt (by omega) (by omega),Aa,Abo _ (by rw[Aky];omega),Aa,iU,eJ];generalize Qz (b.drop ((A:Int)+l.sum).toNat)=v;obtain⟨v1,v2⟩:=v;simp only;by_cases hv:v2≠0
  ·rw[Aas hv,Aas (by rw[Al];simpa using hv),bI,Aas (by simp)];rfl
  ·rw[Aaf hv,Aaf (by rw[Al];simpa using hv),bI,Aaf (by simp)]
 |j+1,k,q+1,acc,hk,hq,hfit,hacc=>by
  have hA:=o.at';have Ah8:=o.file;have hs1:=o.some1;have hsum:=o.sum;have b1:=Fb o.five k;have b2:=Fb o.five (k+1);have hkl:k<l.length:=by omega
  have e2:=Fg hkl;have h5:=o.five l[k] (Ane _);obtain⟨m,x,s,e,g⟩:=Rp o k hkl;obtain⟨hc,hw,hr,hn,_⟩:=Lw o.shape;have hl:=g.lens hw;rw[Zr,aS,Aas (by rw[Ae,Ac];simp;omega),Bm hkl,Aa,Aa,Ah (a:=(A:Int)+(l.take k).sum) (by omega) (by omega),Bnu,<-e2,Ac,iU,g.eq];simp only;rcases g.way with⟨h1,h2⟩|⟨h1,h2,_⟩
  ·rw[Aas (by rw[Ae,Acw];omega),Aas (by rw[h2];simp),h2,bI,Aas (by simp)];rfl
  ·rw[Aaf (by rw[Ae,Acw];omega),g.mom];simp only[Aa];rw[Uk (by omega) (by omega) (by omega),Aa,show(b.take ((A:Int)+(l.take (k+1)).sum).toNat).drop ((A:Int)+(l.take k).sum).toNat=tM b A l k from rfl,h2,Aa];simp only;rw[oP,qV];by_cases he:e≠0
   ·rw[Aas (by rw[Al];simpa using he),Aas he,bI,Aas he];rfl
   ·have he0:e=0:=by simpa using he
    have Aq9:=(g.some' he0).2.2.2.2;rw[Aaf (by rw[Al];simpa using he),Aaf he,g.yU hw,Bd (by omega),Aa,Ah (a:=(A:Int)+(l.take k).sum) (by omega) (by omega),Bnu,<-e2,Ah (by omega) (by omega)];exact Aj9 a1 a2 a3 a4 j (k+1) q (acc++x) (by omega) (by omega) (λh=>by rw[h,Aye]at Aq9;exact Aq9) (by rw[Abt];omega)
theorem uB:∀(j k q:Nat) (acc:List Int32),k+j=l.length->j<q-> (k=l.length-> (A:Int)+l.sum<=b.length)->acc.length<=4000*k->
  Nc b (f:Int) (c:Int) (w:Int) (r:Int) (n:Int) l (Aj (Ak r) n) (Kf p) q ((A:Int)+(l.take k).sum) (k:Int) acc=
   some (bI c w r (iU (λk=>smF w (Ii b p f c w r n A l k)) (λk=>(Ii b p f c w r n A l k).2) (eJ b A l) j k acc))
 |0,k,q+1,acc,hk,_,hfit,_=>by
  have hA:=o.at';have Ah8:=o.file;have hs1:=o.some1;have hsum:=o.sum;have b1:=Fb o.five l.length;have hf:=hfit (by omega);obtain rfl:k=l.length:=by omega
  rw[Aye]at b1⊢;rw[Nc,Zo,Aaf (by rw[Ae,Ac];simp),NQ,MR,Bt (by omega) (by omega),Aa,wK _ (by rw[Aky];omega),Aa,iU,eJ];generalize Qz (b.drop ((A:Int)+l.sum).toNat)=v;obtain⟨v1,v2⟩:=v;simp only;by_cases hv:v2≠0
  ·rw[Aas hv,Aas (by rw[Al];simpa using hv),bI,Aas (by simp)];rfl
  ·rw[Aaf hv,Aaf (by rw[Al];simpa using hv),bI,Aaf (by simp)]
 |j+1,k,q+1,acc,hk,hq,hfit,hacc=>by
  have hA:=o.at';have Ah8:=o.file;have hs1:=o.some1;have hsum:=o.sum;have b1:=Fb o.five k;have b2:=Fb o.five (k+1);have hkl:k<l.length:=by omega
  have e2:=Fg hkl;have h5:=o.five l[k] (Ane _);obtain⟨m,x,s,e,g⟩:=Rp o k hkl;obtain⟨hc,hw,hr,hn,_⟩:=Lw o.shape;have hl:=g.lens hw;rw[Nc,Zo,Aas (by rw[Ae,Ac];simp;omega),Bm hkl,Aa,Aa,Ac,Bs (by omega) (by omega),iU,g.eq];simp only;rcases g.way with⟨h1,h2⟩|⟨h1,_,h2⟩
  ·rw[Aas (by rw[Ae,Acw];omega),Aas (by rw[h2];simp),h2,bI,Aas (by simp)];rfl
  ·rw[Aaf (by rw[Ae,Acw];omega),g.mom];simp only[Aa];rw[Ah (a:=(A:Int)+(l.take k).sum) (by omega) (by omega),Bnu,<-e2,Uk (by omega) (by omega) (by omega),Aa,show(b.take ((A:Int)+(l.take (k+1)).sum).toNat).drop ((A:Int)+(l.take k).sum).toNat=tM b A l k from rfl,h2,Aa];simp only;rw[NF,NL];by_cases he:e≠0
   ·rw[Aas (by rw[Al];simpa using he),Aas he,bI,Aas he];rfl
   ·have he0:e=0:=by simpa using he
    have Aq9:=(g.some' he0).2.2.2.2;rw[Aaf (by rw[Al];simpa using he),Aaf he,g.yU hw,Bd (by omega),Aa,Bm hkl,Aa,Aa,Ah (a:=(A:Int)+(l.take k).sum) (by omega) (by omega),Bnu,<-e2,Ah (by omega) (by omega)];exact uB j (k+1) q (acc++x) (by omega) (by omega) (λh=>by rw[h,Aye]at Aq9;exact Aq9) (by rw[Abt];omega)
end
theorem Aim(l:List Int)(b p:List UInt8)(m c w h o q n g:Int)(k:List Int)(hl:l.length<=1000)(h5:∀x∈l,5<=x)(A:Int)(hA:0<=A)(hb:A+l.sum<=1000000):∀(j i z:Nat),i+j=l.length->j<z->AN l b p m c w h o q n g k z (i:Int) (A+(l.take i).sum)=XP b p l m c w h o q n g (A+l.sum) k
 |0,i,z+1,hi,_=>by
  rw[AN,aJ,Aaf (by rw[Ae,Ac];simp;omega),show i=l.length by omega,Aye]
 |j+1,i,z+1,hi,hz=>by
  have hlt:i<l.length:=by omega
  have b1:=Fb h5 i;have b2:=Fb h5 (i+1);have e:=Fg hlt;have ih:=Aim l b p m c w h o q n g k hl h5 A hA hb j (i+1) z (by omega) (by omega);rw[e,<-Bnu]at ih;rw[AN,aJ,Aas (by rw[Ae,Ac];simp;omega),Bm hlt,Aa,Aa,Ah (by omega) (by omega),Ah (by omega) (by omega)];exact ih
theorem Ars(b p:List UInt8)(hb:b.length<=100100)(hp:p.length<=64):
  (∃e:Int,e≠0/\Cw b p=some (SK e)/\Tf b p=some (Amf e)/\Jy b p=some (Amf e))\/
  (∃f c w r n T:Nat,∃q d:Int,T<=b.length/\b.length<=100000/\Ft f c w r n=true/\Xw c r n=true/\
   Cw b p=Qn b (f:Int) (c:Int) (w:Int) (r:Int) (n:Int) (T:Int)/\
   Tf b p=KF b p (f:Int) (c:Int) (w:Int) (r:Int) (n:Int) q d (T:Int) 0 0 (Aj (Ak r) n)/\
   Jy b p=(FF b (T:Int) (f:Int) (c:Int) (w:Int) (r:Int) (n:Int)).bind λ(h,ae)=>if Ba ae 0=true then some (Amf ae)else(Fq (r:Int) (n:Int)).bind λp2=>(Ni p).bind λ(u,ap)=>SX b (f:Int) (c:Int) (w:Int) (r:Int) (n:Int) h p2 u (Ad (T:Int) (Ad (Bg 4 (Ac h)) 4)) 0 []):=by
 have hO:Cw b p=Cw b p:=rfl;have hV:Tf b p=Tf b p:=rfl;have hR:Jy b p=Jy b p:=rfl
 conv at hO=>rhs;rw[Cw,Ui,Aaf (by rw[As,Ac];simp;omega)]
 conv at hV=>rhs;rw[Tf,uG,Aaf (by rw[As,Ac];simp;omega),Abx]
 conv at hR=>rhs;rw[Jy,RU,Aaf (by rw[As,Ac];simp;omega),aB]
 by_cases h1:100000<b.length
 ·rw[Aas (by rw[As,Ac];simp;omega)]at hO hV hR;refine .inl ⟨4,by omega,hO,?_,?_⟩
  ·rw[hV,Aa];rfl
  ·rw[hR,Aa];rfl
 rw[Aaf (by rw[As,Ac];simp;omega)]at hO hV hR;rw[Pu b (by omega),Aa]at hO hV;rw[BI b (by omega),Aa]at hR;by_cases h2:(Bo b).2=0
 ·obtain⟨p0,p1,p2⟩:=BR h2;have hc:=Bt (l:=b) p0 p1;simp only[h2]at hO hV hR;rw[Aaf (by rw[Al];simp),hc,Aa,show b.drop (Bo b).1.toNat=Il b from rfl]at hO hV hR;rw[OP _ (by simp[Il];omega),Aa]at hO hV;rw[iI _ (by simp[Il];omega),Aa]at hR;by_cases h3:(Eg (Il b)).2.2.2.2.2=0
  ·obtain⟨g1,g2,g3,g4⟩:=oW h3;have hlen:(Il b).length=b.length-(Bo b).1.toNat:=by simp[Il]
   generalize hF:(Bo b).1.toNat=F at*
   have hF':(Bo b).1=(F:Int):=by omega
   rw[g1,hF']at hO hV hR;simp only at hO hV hR;generalize f0 (Il b)=f at*
   generalize f1 (Il b)=c at*
   generalize f2 (Il b)=w at*
   generalize f3 (Il b)=r at*
   generalize f4 (Il b)=n at*
   have t22:Ad (F:Int) 22=((F+22:Nat):Int):=by rw[Ah (by omega) (by omega)];omega
   have t30:Ad ((F+22:Nat):Int) 8=((F+30:Nat):Int):=by rw[Ah (by omega) (by omega)];omega
   have Bl1:f=1\/f=2:=by simp only[Ft,Acw]at g3;omega
   rw[Aaf (by rw[Al];simp),t22,t30]at hO;rw[Aaf (by rw[Al];simp),TJ g3 g4,Aa,t22,t30]at hV;rw[Aa]at hR;simp only at hV hR;rw[Aaf (by rw[Al];simp),t22,VQ,t30]at hR;by_cases ML:((p==([]:List UInt8)) !=(geq (f:Int) (1:Int)))=true
   ·rw[Aas ML]at hO hR;refine .inl ⟨26,by omega,hO,?_,?_⟩
    ·rw[hV];by_cases h5:f=2
     ·rw[Aas (by rw[Ar,h5];rfl),Aa];simp only;rw[Aaf (by rw[Al];simp),Aas ML,Ade _ _ _ _ _ _ _ _ _ _ _ _ _ (by omega)]
     ·rw[Aaf (by rw[Ar];simp;omega),Aa];simp only;rw[Aaf (by rw[Al];simp),Aas ML,Ade _ _ _ _ _ _ _ _ _ _ _ _ _ (by omega)]
    ·rw[hR,Aa];rfl
   ·rw[Aaf ML]at hO hR;have hpf:(p=[]↔f=1):=by
     rw[Ar]at ML;have h5:(p==([]:List UInt8))=((f:Int)==1):=by simpa using ML
     have h6:(p==([]:List UInt8))=true↔((f:Int)==1)=true:=by rw[h5]
     rw[Aue,Aue]at h6;rw[h6];omega
    by_cases h5:f=2
    ·have Ayw:p≠ []:=λe=>by have:=hpf.1 e;omega
     rw[Aas (by rw[Ar,h5];rfl),Aa]at hV;simp only at hV;rw[Aaf (by rw[Al];simp),Aaf ML,Aaf (by rw[Ar];simp;omega)]at hV;rw[Aas (by simpa using Ayw)]at hO;rw[Aaf (by simpa using Ayw)]at hR;by_cases h6:b.length<F+30
     ·rw[Aas (by rw[Ae,Ac];simp;omega)]at hO hV hR;refine .inl ⟨24,by omega,hO,?_,?_⟩
      ·rw[hV,Ade _ _ _ _ _ _ _ _ _ _ _ _ _ (by omega)]
      ·rw[hR,Aa];rfl
     ·have hseg:((b.take (F+30)).drop (F+22)).length=8:=by simp;omega
      rw[Aaf (by rw[Ae,Ac];simp;omega),Uk (by omega) (by omega) (by omega),Aa,show((F+30:Nat):Int).toNat=F+30 from rfl,show((F+22:Nat):Int).toNat=F+22 from rfl]at hO hV hR;rw[wU hseg hp,Aa]at hO hV;rw[iN p hp,Aa]at hR;simp only at hO hV;rw[Aaf (by rw[Al];simp)]at hO;generalize(b.take (F+30)).drop (F+22)=tC at*
      by_cases h7:tC=Sm (Vk p).toNat 8
      ·rw[Aaf (by simp[h7])]at hO hV;rw[Aaf (by simp[h7]),Aa]at hR;simp only at hR;rw[Aaf (by rw[Al];simp)]at hR;rw[Bcm]at hV;exact .inr ⟨f,c,w,r,n,F+30,(F:Int),((F+22:Nat):Int),by omega,by omega,g3,g4,hO,hV,hR⟩
      ·rw[Aas (by simpa using h7)]at hO hV;rw[Aas (by simpa using h7)]at hR;refine .inl ⟨26,by omega,hO,?_,?_⟩
       ·rw[hV,Ade _ _ _ _ _ _ _ _ _ _ _ _ _ (by omega)]
       ·rw[hR,Aa];rfl
    ·have hpe:p=[]:=hpf.2 (by omega);rw[Aaf (by rw[Ar];simp;omega),Aa]at hV;simp only at hV;rw[Aaf (by rw[Al];simp),Aaf ML,Aas (by rw[Ar];simp;omega),Bcm]at hV;rw[Aaf (by rw[hpe];simp)]at hO;rw[Aas (by rw[hpe];rfl),Aa]at hR;simp only at hR;rw[Aaf (by rw[Al];simp)]at hR;exact .inr ⟨f,c,w,r,n,F+22,(F:Int),((F+22:Nat):Int),by omega,by omega,g3,g4,hO,hV,hR⟩
  ·generalize Eg (Il b)=v at*
   obtain⟨v1,v2,v3,v4,v5,v6⟩:=v;simp only at h3 hO hV hR;rw[Aas (by rw[Al];simpa using h3)]at hO hV;refine .inl ⟨v6,h3,hO,?_,?_⟩
   ·rw[hV,Aa];simp only;rw[Aas (by rw[Al];simpa using h3)];rfl
   ·rw[hR,Aa];simp only;rw[Aas (by rw[Al];simpa using h3)];rfl
 ·generalize Bo b=v at*
  obtain⟨v,e⟩:=v;simp only at h2 hO hV hR;rw[Aas (by rw[Al];simpa using h2)]at hO hV hR;refine .inl ⟨e,h2,hO,?_,?_⟩
  ·rw[hV,Aa];simp only;rw[Aas (by rw[Al];simpa using h2)];rfl
  ·rw[hR,Aa];simp only;rw[Aas (by rw[Al];simpa using h2)];rfl
theorem Adk(b p:List UInt8)(hb:b.length<=100100)(hp:p.length<=64):
  (∃e:Int,e≠0/\Cw b p=some (SK e)/\Ez b p=some (SK e)/\Tf b p=some (Amf e)/\Jy b p=some (Amf e))\/
  (∃f c w r n A l,Opn b p f c w r n A l/\Tf b p=some (Adu b p f c w r n A l)/\Jy b p=some (Adu b p f c w r n A l)):=by
 have Bhp:∀{e e2:Int},SK e=SK e2->e=e2:=λh=>by simpa [SK]using h
 rcases Ars b p hb hp with⟨e,he,h1,h2,h3⟩|⟨f,c,w,r,n,T,q,d,hT,Ah8,g3,g4,hO,hV,hR⟩
 ·rcases zE b p hb hp with⟨e',he',k1,k2⟩|⟨f,c,w,r,n,A,l,o⟩
  ·rw[h1]at k1;have:=Bhp (Axa k1);subst this;exact .inl ⟨e,he,h1,k2,h2,h3⟩
  ·have:=o.prog;rw[h1]at this;have:=Axa this;simp only[SK,Aie]at this;exact absurd this.2.2.2.2.2.2.2 he
 ·obtain⟨hc,hw,hr,hn,_⟩:=Lw g3;have hfit:n<=4000/c:=by simp only[Xw,Acw]at g4;exact g4.1
  have hn4:n<=4000:=by have:=Atx 4000 c;omega
  rw[sR g3 g4 b hb T hT]at hO;have hcut:=Bt (l:=b) (a:=(T:Int)) (by omega) (by omega);rw[Ah2]at hcut;have hdl:(b.drop T).length<=100100:=by simp;omega
  rw[KF,rH,Aaf (by rw[Ae,Ac];simp;omega),hcut,Aa,Ac,sP _ _ hdl,Aa]at hV;rw[FF,hcut,Aa,XZ hr.2 hn hn4,Aa,Ac,Ad1 _ _ hdl,Aa,Aa]at hR;by_cases h:(Eh (b.drop T) (Aj (Ak r) n).length).2≠0
  ·rw[Aas h]at hO;generalize Eh (b.drop T) (Aj (Ak r) n).length=v at*
   obtain⟨v1,v2⟩:=v;simp only at h hO hV hR;rcases zE b p hb hp with⟨e',he',k1,k2⟩|⟨f,c,w,r,n,A,l,o⟩
   ·rw[hO]at k1;have:=Bhp (Axa k1);subst this;refine .inl ⟨_,h,hO,k2,?_,?_⟩
    ·rw[hV,ZO,bA,Aas (by rw[Al];simpa using h),Bfg _ _ _ _ _ _ _ _ _ _ _ _ _ _ h]
    ·rw[hR,Aas (by rw[Al];simpa using h)]
   ·have:=o.prog;rw[hO]at this;have:=Axa this;simp only[SK,Aie]at this;exact absurd this.2.2.2.2.2.2.2 h
  ·have h0:(Eh (b.drop T) (Aj (Ak r) n).length).2=0:=by simpa using h
   rw[Aaf h]at hO;generalize hsv:Eh (b.drop T) (Aj (Ak r) n).length=v at*
   obtain⟨v1,v2⟩:=v;simp only at h0 hO hV hR;subst h0;rcases zE b p hb hp with⟨e',he',k1,k2⟩|⟨f',c',w',r',n',A,l,o⟩
   ·rw[hO]at k1;have:=Axa k1;simp only[SK,Aie]at this;exact absurd this.2.2.2.2.2.2.2.symm he'
   ·have hp2:=o.prog;rw[hO]at hp2;have hp3:=Axa hp2;simp only[Aie]at hp3;obtain⟨i1,i2,i3,i4,i5,i6,i7,_⟩:=hp3;obtain rfl:f=f':=by omega
    obtain rfl:c=c':=by omega
    obtain rfl:w=w':=by omega
    obtain rfl:r=r':=by omega
    obtain rfl:n=n':=by omega
    subst i7;have hlen:=o.len;have hs1:=o.some1;have hsum:=o.sum;have hA:=o.at';have hAT:(A:Int)=(T:Int)+4*(v1.length:Int)+4:=by omega
    have a1:Bg 4 (v1.length:Int)=4*(v1.length:Int):=Fc (by omega) (by omega);have eV:Ad (Ad (T:Int) (Bg 4 (Ac v1))) 4=(A:Int):=by
     rw[Ac,a1,Ah (a:=(T:Int)) (by omega) (by omega),Ah (by omega) (by omega)];omega
    have eR:Ad (T:Int) (Ad (Bg 4 (Ac v1)) 4)=(A:Int):=by
     rw[Ac,a1,Ah (a:=4*(v1.length:Int)) (by omega) (by omega),Ah (by omega) (by omega)];omega
    have hlv:=Aj9 o q d (T:Int) ((A:Int)+v1.sum) v1.length 0 Au [] (by omega) (by have:=Aq;omega) (by omega) (by simp);have hlr:=uB o v1.length 0 Au [] (by omega) (by have:=Aq;omega) (by omega) (by simp);rw[Bd5,Bmm,Int.add_zero]at hlv hlr;refine .inr ⟨f,c,w,r,n,A,v1,o,?_,?_⟩
    ·have hs:=Aim v1 b p (f:Int) (c:Int) (w:Int) (r:Int) (n:Int) q d (T:Int) (Aj (Ak r) n) hs1.2 o.five (A:Int) (by omega) (by omega) v1.length 0 Au (by omega) (by have:=Aq;omega);rw[Bd5,Bmm,Int.add_zero]at hs;rw[hV,ZO,bA,Aaf (by rw[Al];simp),pS,eV];refine Bj5 hs ?_;rw[XP,pI,eV,Um,YI,Aaf (by rw[Al];simp),XH p o.pass,Aa];exact hlv
    ·rw[hR,Aaf (by rw[Al];simp),Aa,LR p o.pass,Aa,eR];exact hlr
def Aa9(b:List UInt8):List Int:=Aj (Ak (f3 (Il b))) (f4 (Il b))
theorem Az3{ch:Nat}{bits:Int}(hb:Bk bits)(h1:1<=ch)(h6:ch<=6):Oz (ch:Int) bits=some 0:=by
 have hr:∃x y,Sj bits=some (x,y,0):=⟨_,_,Ak7 hb⟩;obtain⟨x,y,hr⟩:=hr;rw[Oz,hr,Aa];simp only;rw[Aaf (by simp[Al,Ae,As];omega)]
theorem wH{c r n:Nat}(h:Xw c r n=true):1<= (Aj (Ak r) n).length/\ (Aj (Ak r) n).length<=1000:=by
 simp only[Xw,Acw]at h;rw[bY];exact⟨Nat.le_add_left _ _,h.2⟩
theorem Alr(g:Nat):∀K:Nat,(List.replicate K (g:Int)).sum=((K*g:Nat):Int)
 |0=>by simp
 |K+1=>by
  rw[Bho,Bdn,Alr g K,Bnf];omega
theorem oH{g n:Nat}(hn:1<=n):(Aj g n).sum=(n:Int):=by
 have h:=Bid (n-1) g;rw[Aj,Bof,Alr];simp only[Bdn,Bmm];omega
theorem Ams:∀{l:List Int},(∀x∈l,0<=x)->0<=l.sum
 |[],_=>by simp
 |x::l,h=>by
  have h1:=h x Ay0;have h2:=Ams (l:=l) λy hy=>h y (Aq1 _ hy);rw[Bdn];omega
theorem QR{l:List Int}(h:∀x∈l,0<=x)(i:Nat):0<= (l.take i).sum/\ (l.take i).sum<=l.sum:=by
 have h1:=Ams (l:=l.take i) λx hx=>h x (Bnx hx);have h2:=Ams (l:=l.drop i) λx hx=>h x (Bl6 hx);have:=Ait l i;omega
def Ww(c w:Nat)(fr:List Int)(k:Nat):Int:=(((fr.take k).sum.toNat*(c*wB (w:Int)):Nat):Int)
section
variable {f c w r n:Nat} (h1:Ft f c w r n=true) (h2:Xw c r n=true)
include h1 h2
theorem AG:(∀x∈Aj (Ak r) n,0<=x)/\ (Aj (Ak r) n).sum=(n:Int)/\n<=4000:=by
 obtain⟨hc,hw,hr,hn,_⟩:=Lw h1;have hfit:n<=4000/c:=by simp only[Xw,Acw]at h2;exact h2.1
 have hn4:n<=4000:=by have:=Atx 4000 c;omega
 refine⟨λx hx=>?_,oH hn,hn4⟩;obtain⟨m,rfl,_⟩:=Ta (Du r) hn hx;omega
theorem Akx(k:Nat)(hk:k<= (Aj (Ak r) n).length):∀(j i q:Nat),i+j=k->j<q->Zp (k:Int) (f:Int) (c:Int) (w:Int) (r:Int) (n:Int) (Aj (Ak r) n) q (((Aj (Ak r) n).take i).sum) (i:Int)=some (Ww c w (Aj (Ak r) n) k,0)
 |0,i,q+1,hi,_=>by
  obtain⟨hc,hw,hr,hn,_⟩:=Lw h1;obtain⟨g1,g2,g3⟩:=AG h1 h2;have b:=QR g1 i;obtain rfl:i=k:=by omega
  rw[Zp,YN,Aaf (by rw[Ae];simp),pG,pN,Ww];have e:((Aj (Ak r) n).take i).sum=((((Aj (Ak r) n).take i).sum.toNat:Nat):Int):=by omega
  rw[e,Bal (by omega) hc.2 hw];rfl
 |j+1,i,q+1,hi,hq=>by
  obtain⟨g1,g2,g3⟩:=AG h1 h2;have hK:=wH h2;have hlt:i<(Aj (Ak r) n).length:=by omega
  have b1:=QR g1 i;have b2:=QR g1 (i+1);have e:=Fg hlt;have ih:=Akx k hk j (i+1) q (by omega) (by omega);rw[e]at ih;rw[Zp,YN,Aas (by rw[Ae];simp;omega),Bm hlt,Aa,Aa,Ah (by omega) (by omega),Ah (by omega) (by omega)];exact ih
theorem Ajc(k:Nat)(hk:k<= (Aj (Ak r) n).length):pV (f:Int) (c:Int) (w:Int) (r:Int) (n:Int) (k:Int)=some (Ww c w (Aj (Ak r) n) k,0):=by
 have hK:=wH h2;have h:=Akx h1 h2 k hk k 0 Au (by omega) (by have:=Aq;omega);rw[Bd5,Bmm]at h;rw[pV,oT,TJ h1 h2,Aa];simp only;rw[Aaf (by simp[Al,As,Ac];omega)];exact h
end
abbrev D5:=Int×UInt8×Int×Int×Int
def An0(G:Nat->List UInt8×Int)(ce:Int)(Aib:Nat->Int)(L:Nat):Nat->Nat->D5
 |0,_=>(ce,6,0,Aib L,0)
 |j+1,v=>if(G v).2≠0 then(ce,5,(v:Int),Aib v,0)else An0 G ce Aib L j (v+1)
section
variable {b p:List UInt8} {f c w r n A:Nat} {l:List Int} (o:Opn b p f c w r n A l)
include o
theorem Ai4(ce:Int)(hce:ce≠0):∀(j v q:Nat),v+j=l.length->j<q->AJ b p l ce 6 (f:Int) (c:Int) (w:Int) (r:Int) (n:Int) (A:Int) q (v:Int)=some (An0 (Ii b p f c w r n A l) ce (Ww c w (Aj (Ak r) n)) l.length j v)
 |0,v,q+1,hv,_=>by
  rw[AJ,aQ,Aaf (by rw[Ae,Ac];simp;omega),ZS,YU,Ac,Ajc o.shape o.fit l.length (by rw[<-o.len];exact Aob _),Aa];rfl
 |j+1,v,q+1,hv,hq=>by
  have hs1:=o.some1;obtain⟨m,x,s,e,g⟩:=Rp o v (by omega);rw[AJ,aQ,Aas (by rw[Ae,Ac];simp;omega),Aaf (by rw[Ar];simpa using hce),Axy o (by omega) g,Aa,An0,g.eq];simp only;by_cases he:e≠0
  ·rw[Aas (by rw[Al];simpa using he),Aas he,ZS,YU,Ajc o.shape o.fit v (by rw[<-o.len];omega),Aa]
  ·rw[Aaf (by rw[Al];simpa using he),Aaf he,Ah (by omega) (by omega)];exact Ai4 ce hce j (v+1) q (by omega) (by omega)
end
theorem Atd(C W:Nat)(fr:List Int):Ww C W fr 0=0:=by rw[Ww,Bd5,Bmm];simp
theorem Arj(C W:Nat){fr:List Int}(hp:∀z∈fr,0<=z){A m:Nat}(hA:A<fr.length)(hm:fr[A]=(m:Int)):Ww C W fr (A+1)=Ww C W fr A+((m*C*wB (W:Int):Nat):Int):=by
 have hs:0<= (fr.take A).sum:=by
  have:∀l:List Int,(∀z∈l,0<=z)->0<=l.sum:=by
   intro l
   induction l with
   |nil=>intro _;simp
   |cons a l ih=>intro h;rw[Bdn];have:=h a (by simp);have:=ih (λz hz=>h z (by simp[hz]));omega
  exact this _ λz hz=>hp z (Bnx hz)
 have e:(fr.take (A+1)).sum=(fr.take A).sum+m:=by rw[Ij hA,Bof,Bdn,Bmm,hm];omega
 rw[Ww,Ww,e];have:((fr.take A).sum+(m:Int)).toNat=(fr.take A).sum.toNat+m:=by omega
 rw[this,Ana,Bc9 m];omega
theorem fI{bits:Int}(h:Bk bits){l:List Int32}(hl:l.length<=4000)(hr:inR bits l):Bq bits l=some 0:=by
 have hh:=UQ bits;have key:∀(j i q:Nat),i+j=l.length->j<q->Bj l (hB bits) q (i:Int)=some 0:=by
  intro j
  induction j with
  |zero=>
   intro i q hi hq;obtain⟨q,rfl⟩:∃k,q=k+1:=⟨q-1,by omega⟩;rw[Bj,Eb,Aaf (by rw[Ae,Ac];simp;omega)];rfl
  |succ j ih=>
   intro i q hi hq;obtain⟨q,rfl⟩:∃k,q=k+1:=⟨q-1,by omega⟩;have hx:=hr l[i] (Ane (by omega));rw[Bj,Eb,Aas (by rw[Ae,Ac];simp;omega),Bm (by omega),Aa,Aa,Ge,Ami,Dg (by omega) (by omega),Ah (by omega) (by omega),Ae,Ds,Aaf (by simp;omega),Aaf (by simp;omega)];exact ih (i+1) q (by omega) (by omega)
 rw[Bq,Ik,qZ h,Aa,Aaf (by rw[Ar];simp;omega),Aaf (by rw[As,Ac];simp;omega)];exact key l.length 0 Au (by omega) (by have:=Aq;omega)
theorem jR(bits:Int)(a b:List Int32):Cv bits (a++b)=Cv bits a++Cv bits b:=by unfold Cv;rw[List.flatMap_append]
def Ru{α:Type}(G:Nat->List α):Nat->Nat->List α
 |0,_=>[]
 |j+1,k=>G k++Ru G j (k+1)
theorem Aoj{α:Type}(G:Nat->List α):∀(i j k:Nat),Ru G (i+j) k=Ru G i k++Ru G j (k+i)
 |0,j,k=>by simp[Ru]
 |i+1,j,k=>by
  rw[show i+1+j=(i+j)+1 by omega,Ru,Ru,Aoj G i j (k+1),Aec,show k+1+i=k+(i+1) by omega]
theorem Akv{α:Type}(G:Nat->List α)(i k:Nat):Ru G (i+1) k=Ru G i k++G (k+i):=by
 rw[Aoj G i 1 k];simp[Ru]
theorem Aet(w:Nat)(G:Nat->List UInt8×Int)(be:Int):∀(j k:Nat) (acc:List UInt8) (Bjw:List Int32),(mV G be j k acc).2=(iU (λk=>smF w (G k)) (λk=>(G k).2) be j k Bjw).2
 |0,k,acc,Bjw=>by
  rw[mV,iU];split<;>rfl
 |j+1,k,acc,Bjw=>by
  rw[mV,iU];split
  ·rfl
  ·exact Aet w G be j (k+1) _ _
theorem Adz(X:Nat->List Int32)(E:Nat->Int)(be:Int):∀(j k:Nat) (acc:List Int32),(iU X E be j k acc).2=0->be=0/\ (∀i,k<=i->i<k+j->E i=0)/\ (iU X E be j k acc).1=acc++Ru X j k
 |0,k,acc,h=>by
  rw[iU]at h⊢;by_cases hb:be≠0
  ·rw[Aas hb]at h;cases h
  ·rw[Aaf hb];exact⟨by simpa using hb,λi h1 h2=>by omega,by simp[Ru]⟩
 |j+1,k,acc,h=>by
  rw[iU]at h⊢;by_cases hb:E k≠0
  ·rw[Aas hb]at h;exact absurd h hb
  ·rw[Aaf hb]at h⊢;obtain⟨h1,h2,h3⟩:=Adz X E be j (k+1) _ h;refine⟨h1,λi i1 i2=>?_,?_⟩
   ·by_cases hi:i=k
    ·subst hi;simpa using hb
    ·exact h2 i (by omega) (by omega)
   ·rw[h3,Ru,Aec]
theorem Aaj(G:Nat->List UInt8×Int):∀(j k:Nat) (acc:List UInt8),(∀i,k<=i->i<k+j-> (G i).2=0)->mV G 0 j k acc=(acc++Ru (λi=>(G i).1) j k,0)
 |0,k,acc,h=>by
  rw[mV,Aaf (by simp),Ru];simp
 |j+1,k,acc,h=>by
  rw[mV,Aaf (by rw[h k (by omega) (by omega)];simp),Aaj G j (k+1) _ λi h1 h2=>h i (by omega) (by omega),Ru,Aec]
section
variable {b p:List UInt8} {f c w r n A:Nat} {l:List Int} (o:Opn b p f c w r n A l) (hE:∀i,i<l.length-> (Ii b p f c w r n A l i).2=0)
include o hE
theorem Al3(i:Nat)(hi:i<l.length):∃m:Nat,Ap (Aj (Ak r) n) (i:Int)=some (m:Int)/\1<=m/\ (Ii b p f c w r n A l i).1=Cv (w:Int) (smF w (Ii b p f c w r n A l i))/\ (smF w (Ii b p f c w r n A l i)).length=m*c/\inR (w:Int) (smF w (Ii b p f c w r n A l i)):=by
 have hw:=(Lw o.shape).2.1;obtain⟨m,x,s,e,g⟩:=Rp o i hi;have h0:=hE i hi;have hsm:=g.yU hw;have hl:=g.lens hw;rw[g.eq]at h0⊢;rw[hsm];obtain⟨h1,h2,h3,_⟩:=g.some' h0;exact⟨m,g.mom,g.pos.1,h1,h2,rW hw (by omega) h3⟩
theorem Ai3:∀(j k:Nat),k+j<=l.length->Cv (w:Int) (Ru (λi=>smF w (Ii b p f c w r n A l i)) j k)=Ru (λi=>(Ii b p f c w r n A l i).1) j k
 |0,k,_=>rfl
 |j+1,k,h=>by
  obtain⟨m,_,_,h1,_⟩:=Al3 o hE k (by omega);rw[Ru,Ru,jR,Ai3 j (k+1) (by omega),<-h1]
theorem Avn:∀(j k:Nat),k+j<=l.length->inR (w:Int) (Ru (λi=>smF w (Ii b p f c w r n A l i)) j k)
 |0,k,_=>λx hx=>by simp[Ru]at hx
 |j+1,k,h=>by
  obtain⟨m,_,_,_,_,h1⟩:=Al3 o hE k (by omega);intro x hx;rw[Ru,List.mem_append]at hx;rcases hx with hx|hx
  ·exact h1 x hx
  ·exact Avn j (k+1) (by omega) x hx
theorem Aup:∀(j:Nat),j<=l.length-> (Ru (λi=>smF w (Ii b p f c w r n A l i)) j 0).length=((Aj (Ak r) n).take j).sum.toNat*c
 |0,_=>by simp[Ru]
 |j+1,h=>by
  obtain⟨m,h0,_,_,h1,_⟩:=Al3 o hE j (by omega);have hlen:=o.len;have hlt:j<(Aj (Ak r) n).length:=by omega
  rw[Bm hlt]at h0;have h0':=Axa h0;obtain⟨g1,g2,g3⟩:=AG o.shape o.fit;have b:=QR g1 j;rw[Akv,Abt,Aup j (by omega),Bdf,h1,Fg hlt,h0'];rw[show(((Aj (Ak r) n).take j).sum+(m:Int)).toNat=((Aj (Ak r) n).take j).sum.toNat+m by omega,Ana]
theorem Ayo:(Ru (λi=>smF w (Ii b p f c w r n A l i)) l.length 0).length=n*c:=by
 have hn:=(Lw o.shape).2.2.2.1;rw[Aup o hE l.length (Aob _),o.len,Aye,oH hn];simp
theorem Awz:Lf (w:Int) (Ru (λi=>smF w (Ii b p f c w r n A l i)) l.length 0)=some (Ru (λi=>(Ii b p f c w r n A l i).1) l.length 0,0):=by
 have hw:=(Lw o.shape).2.1;have hfit:n<=4000/c:=by have:=o.fit;simp only[Xw,Acw]at this;exact this.1
 have hN:n*c<=4000:=by
  have h1:=Aeb c hfit;have h2:=Bid 4000 c;omega
 have ht:=Ayo o hE;rw[OD hw (by omega) (fI hw (by omega) (Avn o hE l.length 0 (by omega))),Ai3 o hE l.length 0 (by omega)]
end
def Mw(bits:Int)(ch:Nat)(t x:List Int32):List UInt32:=evl bits ch t (mx ch x) x.length
def WU(bits:Int)(ch:Nat)(t x:List Int32):List UInt8:=Mo (Tl ch (Mw bits ch t x) x.length)
def Re(bits:Int)(ch:Nat)(t x:List Int32):List UInt8:=WU bits ch t x++Sm (Em (WU bits ch t x)).toNat 4
theorem Aod(bits:Int)(ch:Nat)(t x:List Int32)(h0:1<=x.length)(h4:x.length<=4000):1<= (WU bits ch t x).length/\ (WU bits ch t x).length<=40501:=by
 have h:=fQ ch (Mw bits ch t x) x.length;obtain⟨k,hk⟩:∃k,x.length=k+1:=⟨x.length-1,by omega⟩;have h1:1<= (Tl ch (Mw bits ch t x) x.length).length:=by
  rw[hk,Tl,Abt];have hn:=Ali ch ((Mw bits ch t x).take k);have:=fC ((Mw bits ch t x).getD k 0) hn.1 hn.2;omega
 rw[WU,Xf];omega
theorem yX(bits:Int)(ch:Nat)(t x:List Int32)(h0:1<=x.length)(h4:x.length<=4000):5<= (Re bits ch t x).length/\ (Re bits ch t x).length<=40505:=by
 have:=Aod bits ch t x h0 h4;rw[Re,Abt,Cf];omega
theorem Awh(bits:Int)(ch:Nat)(t x:List Int32)(h0:1<=x.length)(h4:x.length<=4000):Vo (Re bits ch t x)=0/\ (Re bits ch t x).take ((Re bits ch t x).length-4)=WU bits ch t x:=by
 have h:=yX bits ch t x h0 h4;have hl:(Re bits ch t x).length-4=(WU bits ch t x).length:=by rw[Re,Abt,Cf];omega
 have h1:(Re bits ch t x).take ((Re bits ch t x).length-4)=WU bits ch t x:=by rw[hl,Re,List.take_left]
 have h2:(Re bits ch t x).drop ((Re bits ch t x).length-4)=Sm (Em (WU bits ch t x)).toNat 4:=by rw[hl,Re,Bmd]
 have hlt:=(Em (WU bits ch t x)).toNat_lt;refine⟨?_,h1⟩;rw[Vo,Aaf (by omega),Aaf (by omega),h1,h2,EM,Ac1 (by omega),Aaf (by simp)]
theorem Ase{bits:Int}{ch n:Nat}{t x:List Int32}(hb:Bk bits)(ht:t.length=16)(h1:1<=ch)(h6:ch<=6)(n1:1<=n)(n2:n<=4000/ch)(hx:x.length=n*ch)(hr:inR bits x):
  Iq (ch:Int) bits t (n:Int) (Re bits ch t x)=some (x,0)/\Dh (ch:Int) bits t (n:Int) (Re bits ch t x)=some (x,0):=by
 have hn:n*ch<=4000:=by
  have:=Aeb ch n2;have h2:=Bid 4000 ch;omega
 have hq4:=Al2 h1 h6;have hx1:1<=x.length:=by rw[hx];exact Bn6 n1 h1
 have key:Dh (ch:Int) bits t (n:Int) (Re bits ch t x)=some (x,0):=by
  generalize 4000/ch=mm at*
  have hh:=UQ bits;have Ah7:Jf (ch:Int) bits (n:Int)=some 0:=by
   rw[Jf,Dz,Aaf (by simp[Ae,As];omega),qZ hb,Aa,Aaf (by rw[Ar];simp;omega),Aa,Aaf (by simp[Al,Ae];omega),Bu (by rw[Al];simp;omega),Aa,hq4,Aaf (by rw[As];simp;omega)]
  have hlen:=yX bits ch t x hx1 (by omega);obtain⟨hs,htk⟩:=Awh bits ch t x hx1 (by omega);have hpl:=Aod bits ch t x hx1 (by omega);have e4:Ao (Ac (Re bits ch t x)) 4=(((Re bits ch t x).length-4:Nat):Int):=by rw[Ac,Bs (by omega) (by omega)];omega
  have hVl:(Mw bits ch t x).length=x.length:=sG _ _ _ _ _;have hEl:=Xf (Tl ch (Mw bits ch t x) x.length);have hvb:=Aj8 ch (Mw bits ch t x) (8*(WU bits ch t x).length) (by rw[hVl,WU,hEl];omega) (n*ch) 0 (by omega);rw[hVl]at hvb;have hread:=Alb (N:=8*(WU bits ch t x).length) (p:=WU bits ch t x) rfl (by omega) h1 h6 hn;have hvb':Wv ch (WU bits ch t x) (8*(WU bits ch t x).length) (n*ch) 0 []=(Mw bits ch t x,(Tl ch (Mw bits ch t x) x.length).length,0):=hvb;have hz:Ce (WU bits ch t x) (Tl ch (Mw bits ch t x) x.length).length (8*(WU bits ch t x).length-(Tl ch (Mw bits ch t x) x.length).length)=0:=by
   apply Aad;intro k _;rw[WU,GH,Amg (by omega)]
  have Bpn:¬7<8*(WU bits ch t x).length-(Tl ch (Mw bits ch t x) x.length).length:=by rw[WU,hEl];omega
  rw[hvb']at hread;simp only at hread;rw[Aaf (by decide),Aaf (by rw[hz];simp;omega)]at hread;have hm:(Mw bits ch t x).length %ch=0:=by rw[hVl,hx];exact Bhj n ch
  have Bl2:=Ajn (v:=Mw bits ch t x) hb ht h1 h6 (by omega) hm;have hsm:yU bits ch t (Mw bits ch t x)=mx ch x:=by
   have:=Bfm bits ch t (mx ch x);rw[YY]at this;exact this
  rw[hsm,Biv h1 (by rw[hx];exact Bhj n ch)]at Bl2;rw[Dh,On,Ah7,Aa,Aaf (by rw[Al];simp),vC,Aa,hs,Aaf (by decide),e4,Dd (by omega) (by omega),Aa,Ah2,htk,hread,Aa];simp only;rw[Ht,Hv,Aaf (by decide),Bl2,Aa,Tw,fI hb (by omega) hr,Aa,Aaf (by decide)];rfl
 obtain⟨l,e,d1,d2,_,_⟩:=Zs (Re bits ch t x) hb ht h1 h6 n1 n2;rw[key]at d2;cases d2;exact⟨d1,key⟩
theorem Apa(p:List UInt8)(b0:UInt64)(a0:Int):∀(j m q:Nat),m+j<=300000->j<=64->j<q->
  Ry b0 a0 q (Ra p m j) (j:Int) (m:Int) (Rw p 0 m)=some (Rw p 0 (m+j),((m+j:Nat):Int),0)
 |0,m,q+1,_,_,_=>by
  rw[Ry,WT,Aaf (by rw[As];simp),jL,xL];rfl
 |j+1,m,q+1,hm,hj,hq=>by
  have hroom:Ry b0 a0 (q+1) (Ra p m (j+1)) ((j+1:Nat):Int) (m:Int) (Rw p 0 m)=WO (Ry b0 a0 q) b0 a0 (Ra p m (j+1)) ((j+1:Nat):Int) (m:Int) (room p 0 m):=by
   rw[Ry,WT,Aas (by rw[As];simp),Abj m (by omega),room];by_cases h0:m %8=0
   ·rw[Aas (by rw[Ar,h0];rfl),Bd (by rw[Ki];simp;omega),Aa,Aas h0]
   ·rw[Aaf (by rw[Ar];simp;omega),Aaf h0]
  have hl:Ao (Ac (room p 0 m)) 1=((m/8:Nat):Int):=by
   rw[Ac,Qc,Bs (by omega) (by omega)];omega
  have e2:Fk ((j+1:Nat):Int) (Ao (8:Int) ((m %8:Nat):Int))=((min (j+1) (8-m %8):Nat):Int):=by
   rw[PL,Bs (by omega) (by omega)];omega
  rw[hroom,WO,kJ,Abj m (by omega),e2,hl];generalize hT:min (j+1) (8-m %8)=T;have hT1:1<=T:=by omega
  have hT8:m %8+T<=8:=by omega
  have hg:Ap (room p 0 m) ((m/8:Nat):Int)=some (UInt8.ofNat (Ce p (0+8*(m/8)) (m %8))):=by
   rw[Bm (by rw[Qc];omega),sO]
  have z1:(GI.toZ ((m %8:Nat):Int)).toNat=m %8:=rfl;have z2:(GI.toZ ((T:Nat):Int)).toNat=T:=rfl;have hlt:=xH p (0+8*(m/8)) (m %8+T) (by omega);have hadd:=RW p (m %8) T (0+8*(m/8));rw[show 0+8*(m/8)+m %8=m by omega]at hadd;have hbyte:(Af (Er (Ra p m (j+1)) (Ao (Dp (1:UInt64) T) (1:UInt64))):UInt8)=UInt8.ofNat (Ce p m T):=by
   rw[ZM,Bks _ (by omega),Aq2 p m (j+1) T (by omega) hj]
  have hnew:vM (UInt8.ofNat (Ce p (0+8*(m/8)) (m %8))) (Dp (UInt8.ofNat (Ce p m T)) (m %8))=UInt8.ofNat (Ce p (0+8*(m/8)) (m %8+T)):=by
   rw[or8 (Qy _ _ _) (by rw[Asu];omega) (by omega),hadd,Asu (2^(m %8))]
  rw[hg,z1,z2,hbyte];simp only[Aa];rw[Bu (by rw[Ds];simp),Aa,Bu (by rw[Ds];simp;omega),Aa,hnew,Wf _ (by rw[Qc];omega),Aa,zI p 0 m T hT1 hT8,kC,zG,Abj m (by omega),e2,hT,Bu (by rw[Ds];simp),Aa,z2,Aoi p m (j+1) T (by omega) hj,Bs (by omega) (by omega),Ah (by omega) (by omega)];have ih:=Apa p b0 a0 (j+1-T) (m+T) q (by omega) (by omega) (by omega);rw[show m+T+(j+1-T)=m+(j+1) by omega]at ih;rw[<-ih,show((j+1:Nat):Int)-((T:Nat):Int)=((j+1-T:Nat):Int) by omega,show(m:Int)+((T:Nat):Int)=((m+T:Nat):Int) by omega]
theorem put_eq(p:List UInt8)(m j:Nat)(hm:m+j<=300000)(hj:j<=63):YS (Rw p 0 m) (m:Int) (Ra p m j) (j:Int)=some (Rw p 0 (m+j),((m+j:Nat):Int),0):=by
 have hz:Ba (Ck (Ra p m j) (GI.toZ (j:Int)).toNat) 0=false:=by
  have:Ck (Ra p m j) j=0:=by
   apply UInt64.toNat_inj.1;rw[DN,AD p m j (by omega),Bkq (Qy p j m)];rfl
  rw[show(GI.toZ (j:Int)).toNat=j from rfl,this];rfl
 have hl:=Ki p 0 m;have htw:gA (Rw p 0 m) (m:Int)=some (Rw p 0 m,(m:Int)):=by
  rw[gA,Bl,Bd (by simp;omega),Aa,Aa];rfl
 rw[YS,qS,BJ (wR p 0 m (by omega)),Aa,Aaf (by decide),Aaf (by simp[Ae,As];omega),Aas (by rw[Ae];simp;omega),Bu (by rw[Ds];simp),Aa,hz,Aaf (by decide),Ah (by omega) (by omega),Aaf (by rw[As];simp;omega),htw,Aa];exact Apa p _ _ j m Au hm (by omega) (by have:=Aq;omega)
theorem At.cat{p:List UInt8}{a:Nat}{c d:List Bool}(h:At p a (c++d)):At p a c/\At p (a+c.length) d:=⟨h.left,h.right⟩
theorem Aqe(p:List UInt8):∀(q a:Nat),At p a (List.replicate q true)->Ce p a q+1=2^q
 |0,a,_=>by rw[Ce]
 |q+1,a,h=>by
  rw[Bho]at h;obtain⟨h0,h1⟩:=h.cons;have:=Aqe p q (a+1) h1;rw[Ce,h0,Ayu,Aas rfl];omega
theorem Aan{x:UInt64}{p:List UInt8}{m n:Nat}(hn:n<=63)(h:x.toNat=Ce p m n):x=Ra p m n:=by
 apply UInt64.toNat_inj.1;rw[h,AD p m n (by omega)]
theorem bX{n:Nat}(h:n<2^64):(UInt64.ofNat n).toNat=n:=by rw[Amh];exact Ac1 h
theorem Ajz{p:List UInt8}{m q:Nat}(hq:q<=48)(hm:m+48<=300000)(h:At p m (List.replicate q true++(if q=48 then []else [false]))):
  cN (Rw p 0 m) (m:Int) (q:Int)=some (Rw p 0 (m+min (q+1) 48),((m+min (q+1) 48:Nat):Int),0):=by
 have h1:=h.left;have hv:=Aqe p q m h1;have Bpo:2^q<=2^48:=Ak6 (by omega) hq;have hval:Ce p m (min (q+1) 48)+1=2^q:=by
  by_cases h48:q=48
  ·subst h48;exact hv
  ·rw[Aaf h48]at h;have h2:=h.right;rw[Ard]at h2;have h0:=h2.cons.1;rw[show min (q+1) 48=q+1 by omega,sL,h0];simpa using hv
 have hx:(Ao (Dp (1:UInt64) q) (1:UInt64)).toNat=Ce p m (min (q+1) 48):=by
  have e1:(Dp (1:UInt64) q).toNat=2^q:=by rw[YP];show 1*2^q %_=_;rw[Bdl];exact Ac1 (by omega)
  have hpos:0<2^q:=Bl3 (by omega);rw[yR,UInt64.toNat_sub_of_le _ _ (by rw[UInt64.le_iff_toNat_le,e1];exact hpos),e1]
  show 2^q-1=_;omega
 rw[cN,BJ (wR p 0 m (by omega)),Aa,Aaf (by decide),lI,Aaf (by simp[Ae,As];omega),Aa];simp only;have e2:Fk (Ad (q:Int) 1) 48=((min (q+1) 48:Nat):Int):=by rw[PL,Ah (by omega) (by omega)];omega
 rw[Aaf (by decide),Bu (by rw[Ds];simp),Aa,e2,show(GI.toZ (q:Int)).toNat=q from rfl,Aan (by omega) hx,put_eq p m _ (by omega) (by omega),Aa]
theorem Bci{p:List UInt8}{m l:Nat}{v:UInt32}(hl:l<=24)(hm:m+81<=300000)(h:At p m (aL l v.toNat)):
  jN (Rw p 0 m) (m:Int) v (l:Int)=some (Rw p 0 (m+(aL l v.toNat).length),((m+(aL l v.toNat).length:Nat):Int),0):=by
 have hvl:=v.toNat_lt;have hz:(GI.toZ (l:Int)).toNat=l:=rfl;have hlp:2^l<=2^24:=Ak6 (by omega) hl;have hpos:0<2^l:=Bl3 (by omega);have Bnh:BN v (l:Int)=some (decide (48<=v.toNat/2^l)):=by
  rw[BN,Bu (by rw[Ds];simp),Aa,hz,Avw,SD];rfl
 rw[jN,dQ,BJ (wR p 0 m (by omega)),Aa,Aaf (by decide),Aaf (by simp[Ae,As];omega),Bu (by rw[Ds];simp),Aa,Aa,Bnh,Aa];rw[aL]at h⊢;by_cases h48:48<=v.toNat/2^l
 ·rw[Aas h48]at h⊢;obtain⟨h1,h2⟩:=h.cat;rw[Ard]at h2;have hval:=PQ p 32 (m+48) v.toNat h2;rw[Ac1 (by omega)]at hval;have hu:=Ajz (p:=p) (m:=m) (q:=48) (Aob _) (by omega) (by rw[Aas rfl,Aq7];exact h1);rw[Aas (by simpa using h48),QN,eQ,show(48:Int)=((48:Nat):Int)from rfl,hu,Aa];simp only;rw[Aaf (by decide),Dt,Aan (x:=UInt64.ofNat v.toNat) (p:=p) (m:=m+48) (n:=32) (by omega) (by rw[bX (by omega),hval]),show(32:Int)=((32:Nat):Int)from rfl,show m+min (48+1) 48=m+48 by omega,put_eq p (m+48) 32 (by omega) (by omega),Aa,Abt,Ard,Vi,Ay1]
 ·rw[Aaf h48]at h⊢;generalize hq:v.toNat/2^l=q at*
  obtain⟨h1,h2⟩:=h.cat;rw[Ard]at h2;obtain⟨h3,h4⟩:=h2.cons;have hval:=PQ p l (m+q+1) (v.toNat %2^l) h4;rw[Nat.mod_mod]at hval;have hqa:At p m (List.replicate q true++[false]):=by
   have:List.replicate q true++(false::lV (v.toNat %2^l) l)=(List.replicate q true++[false])++lV (v.toNat %2^l) l:=by simp
   rw[this]at h;exact h.left
  have hu:=Ajz (p:=p) (m:=m) (q:=q) (by omega) (by omega) (by rw[Aaf (by omega)];exact hqa);have hgq:(Af (Ck v l):Int)=(q:Int):=by rw[Afz,SD,hq]
  have hrest:(Af (Er v (Ao (Dp (1:UInt32) l) 1)):UInt64)=Ra p (m+q+1) l:=by
   apply Aan (by omega);have e1:(Dp (1:UInt32) l).toNat=2^l:=by rw[qE];show 1*2^l %_=_;rw[Bdl];exact Ac1 (by omega)
   have e2:(Ao (Dp (1:UInt32) l) (1:UInt32)).toNat=2^l-1:=by
    rw[Afb,UInt32.toNat_sub_of_le _ _ (by rw[UInt32.le_iff_toNat_le,e1];exact hpos),e1];rfl
   have e3:(Er v (Ao (Dp (1:UInt32) l) 1)).toNat=v.toNat %2^l:=by
    rw[Agj,UInt32.toNat_and,e2,Bl7]
   rw[Dt,bX (by rw[e3];have:=Bj3 v.toNat hpos;omega),e3,hval]
  rw[Aaf (by simpa using h48),QN,eQ,hz,hgq,hu,Aa];simp only;rw[Aaf (by decide),hrest,show m+min (q+1) 48=m+q+1 by omega,put_eq p (m+q+1) l (by omega) (by omega),Aa,Abt,Ard,Anf,Vi,show m+q+1+l=m+(q+(l+1)) by omega]
theorem Az9{k l:Nat}{s t:UInt64}(h:okD k l s t)(v:UInt32):lE [] 0 (k:Int) (l:Int) s t v=
  some (Mo (Ts k l v),((Ts k l v).length:Int),((kS k (Zf s (n64 v)):Nat):Int),((lK l t k v:Nat):Int),Zf s (n64 v),lT t k v,0):=by
 obtain⟨h1,h2,h3,h4⟩:=h;have hvl:=v.toNat_lt;have hAt:At (Mo (Ts k l v)) 0 (Ts k l v):=λi hi=>by rw[Bdf,GH]
 have hlen:=fC v h1 h2;have hfull:Rw (Mo (Ts k l v)) 0 (Ts k l v).length=Mo (Ts k l v):=by
  apply Apr (by rw[Ki,Xf]);intro i hi;rw[yC,Bdf,GH];by_cases hlt:i<(Ts k l v).length
  ·rw[Aas hlt]
  ·rw[Aaf hlt,Amg (by omega)]
 generalize hP:Mo (Ts k l v)=P at*
 have h0:Rw P 0 0=[]:=rfl;have Bl4:∀(x:Int) (y:UInt64) (aj ai:Int),DP v (k:Int) s ai P x y=some (P,ai,((kS k (Zf s (n64 v)):Nat):Int),x,Zf s (n64 v),y,0):=by
  intro x y aj ai;rw[DP,dY,Dt,gH,At0 k h1];rw[dD,dZ,aT,JE,Dt,gH];rfl
 have hp7:∀ai:Int,QV v (k:Int) (l:Int) s t 0 ai P=some (P,ai,((kS k (Zf s (n64 v)):Nat):Int),((lK l t k v:Nat):Int),Zf s (n64 v),lT t k v,0):=by
  intro ai;rw[QV,dN,Aaf (by decide),Agt k l s t h1,Aa];by_cases hv:v.toNat<2^k
  ·rw[Aas hv];simp only;rw[Aaf (by rw[Ar];simp),Bl4 _ _ 0,lK,Aas hv,lT,Aas hv]
  ·rw[Aaf hv];simp only;rw[Aas (by rw[Ar];rfl),Dt,gH,At0 l h2 _ (λx=>DP v (k:Int) s ai P x (Zf t (UInt64.ofNat (mJ k v).toNat))),Bl4 _ _ 0,lK,Aaf hv,lT,Aaf hv];rfl
 rw[lE,dT,show Km [] 0=some 0 from rfl,Aa,Aaf (by decide),Bcl ⟨h1,h2,h3,h4⟩,Aa,Aaf (by decide),dC,dO,Agt k l s t h1,Aa];have hput:=put_eq P 0 1 (by omega) (by omega);rw[h0,Bdf,show((0:Nat):Int)=0 from rfl,show((1:Nat):Int)=1 from rfl]at hput;by_cases hv:v.toNat<2^k
 ·have hc:Ts k l v=false::lV v.toNat k:=by rw[Ts,Aas hv]
  rw[hc]at hAt hfull;obtain⟨b0,b1⟩:=hAt.cons;have hval:=PQ P k 1 v.toNat b1;rw[Ac1 hv]at hval;have hz:(Af (0:Int):UInt64)=Ra P 0 1:=Aan (by omega) (by rw[yN,b0];rfl);rw[Aas hv];simp only;rw[hz,hput,Aa];simp only;rw[Aas (by decide),Dt,Aan (x:=UInt64.ofNat v.toNat) (p:=P) (m:=1) (n:=k) (by omega) (by rw[bX (by omega),hval]),show(1:Int)=((1:Nat):Int)from rfl,put_eq P 1 k (by omega) (by omega),Aa];simp only;rw[Anf,Vi,Bmz k 1]at hfull;rw[hfull,hp7,hc,Anf,Vi,Bmz k 1]
 ·have hc:Ts k l v=true::aL l (v.toNat-2^k):=by rw[Ts,Aaf hv]
  rw[hc]at hAt hfull;obtain⟨b0,b1⟩:=hAt.cons;have hsub:=Nat.sub_le v.toNat (2^k);have hlv:(mJ k v).toNat=v.toNat-2^k:=by rw[mJ,cY (by omega)]
  have hz:(Af (1:Int):UInt64)=Ra P 0 1:=Aan (by omega) (by rw[yN,b0];rfl);have hr:=Bci (p:=P) (m:=1) (l:=l) (v:=mJ k v) h2 (by omega) (by rw[hlv];exact b1);rw[hlv,show((1:Nat):Int)=1 from rfl]at hr;rw[Aaf hv];simp only;rw[hz,hput,Aa];simp only;rw[Aaf (by decide),Aas (by decide),hr,Aa];simp only;rw[Anf,Bmz _ 1]at hfull;rw[hfull,hp7,hc,Anf,Bmz _ 1]
section
variable (ch:Nat) (x:List Int32)
theorem bO{at' i:Nat}(ha:at' %ch=0)(hi:i<ch)(h:at'+i<x.length):(mx ch x).getD (at'+i) 0=mxV (λi=>x.getD (at'+i) 0) ch i:=by
 have hb:(at'+i) %ch=i:=by rw[Nat.add_mod,ha,Bdf,Nat.mod_mod,Ac1 hi]
 rw[Azc h,hb,show at'+i-i=at' by omega]
theorem Aoe(bk:Int->List Int32->Option (List Int32×Int))(at':Nat)(h1:1<=ch)(h6:ch<=6)(hm:at' %ch=0)(hl:at'+ch<=x.length)(hl2:x.length<=4000):∀(j i q:Nat),i+j=ch-1->j<q->
  HL bk (ch:Int) (at':Int) q (i:Int) (kR (λk=>decide (k<at'+i)) (mx ch x) x)=bk ((at'+ch:Nat):Int) (kR (λk=>decide (k<at'+ch)) (mx ch x) x)
 |j,i,0,_,h=>absurd h (Bgp _)
 |0,i,q+1,hi,_=>by
  have hlen:=YY ch x;have e1:Ao (Ad (at':Int) (ch:Int)-(at':Int)) 1=((ch-1:Nat):Int):=by rw[Ah (by omega) (by omega),Bs (by omega) (by omega)];omega
  have e2:Ad (at':Int) (ch:Int)-(at':Int)=(ch:Int):=by rw[Ah (by omega) (by omega)];omega
  have e4:Ad (at':Int) (ch:Int)=((at'+ch:Nat):Int):=by rw[Ah (by omega) (by omega)];omega
  rw[HL,cC,e1,Aaf (by rw[Ae];simp;omega),oC,oQ,e1,e2];obtain rfl:i=ch-1:=by omega
  by_cases h2:1<ch
  ·have e3:Ao ((ch-1:Nat):Int) 1=((ch-2:Nat):Int):=by rw[Bs (by omega) (by omega)];omega
   have hv:Ao (x.getD (at'+(ch-1)) 0) (Ca ((mx ch x).getD (at'+(ch-2)) 0) 2)=(mx ch x).getD (at'+(ch-1)) 0:=by
    rw[bO ch x hm (by omega) (by omega),bO ch x hm (by omega) (by omega),mxV,mxV,Aas (by omega),Aaf (by omega),Aas h2,YR,show ch-2+1=ch-1 by omega]
   rw[Aas (by rw[As];simp;omega),uJ (by omega),Aa,e3,uJ (by omega),Aa,
    show(at':Int)+((ch-1:Nat):Int)=((at'+(ch-1):Nat):Int) by omega,show(at':Int)+((ch-2:Nat):Int)=((at'+(ch-2):Nat):Int) by omega,
    EJ (by omega),Aa,EJ (by omega),Aa,Aa,Aaf (by simp),Aas (by simp;omega),hv,kI (by omega),Aa,cE,nZ,e4]
   congr 1;apply Xm;intro k _;rw[Anb];simp;omega
  ·obtain rfl:ch=1:=by omega
   have hlast:x.getD at' 0=(mx 1 x).getD at' 0:=by
    have:=bO 1 x (i:=0) hm (by omega) (by omega);rw[Bip]at this;rw[this,mxV,Aaf (by omega),Aaf (by omega)];rfl
   rw[Aaf (by rw[As];simp),cE,nZ,e4];congr 1;apply Bdp (by rw[QD,QD]);intro k g1 g2;rw[Vm,Vm];by_cases hk:k<at'
   ·rw[Aas (by simp;omega),Aas (by simp;omega)]
   ·by_cases hk2:k=at'
    ·subst hk2;rw[Aaf (by simp),Aas (by simp)];exact hlast
    ·rw[Aaf (by simp;omega),Aaf (by simp;omega)]
 |j+1,i,q+1,hi,hq=>by
  have hlen:=YY ch x;have e1:Ao (Ad (at':Int) (ch:Int)-(at':Int)) 1=((ch-1:Nat):Int):=by rw[Ah (by omega) (by omega),Bs (by omega) (by omega)];omega
  have e2:Ad (at':Int) (ch:Int)-(at':Int)=(ch:Int):=by rw[Ah (by omega) (by omega)];omega
  have e3:Ad (i:Int) 1=((i+1:Nat):Int):=by rw[Ah (by omega) (by omega)];omega
  have hv:Ao (x.getD (at'+(i+1)) 0) (x.getD (at'+i) 0)=(mx ch x).getD (at'+i) 0:=by
   rw[bO ch x hm (by omega) (by omega),mxV,Aas (by omega),YR]
  rw[HL,cC,e1,Aas (by rw[Ae];simp;omega),e2,e3,uJ (by omega),Aa,uJ (by omega),Aa,
   show(at':Int)+((i+1:Nat):Int)=((at'+(i+1):Nat):Int) by omega,show(at':Int)+(i:Int)=((at'+i:Nat):Int) by omega,
   EJ (by omega),Aa,EJ (by omega),Aa,Aa,Aaf (by simp),Aaf (by simp),hv,kI (by omega),Aa]
  have ih:=Aoe bk at' h1 h6 hm hl hl2 j (i+1) q (by omega) (by omega);rw[<-ih];congr 1;apply Xm;intro k _;rw[Anb];simp;omega
theorem Acp(h1:1<=ch)(h6:ch<=6)(hm:x.length %ch=0)(hl2:x.length<=4000):∀(j at' q:Nat),at' %ch=0->at'<=x.length->x.length-at'<=j->j<q->
  GN (ch:Int) q (at':Int) (kR (λk=>decide (k<at')) (mx ch x) x)=some (mx ch x,0)
 |j,at',0,_,_,_,h=>absurd h (Bgp _)
 |j,at',q+1,ha,hle,hj,hq=>by
  have hlen:=YY ch x;have hl:Ac (kR (λk=>decide (k<at')) (mx ch x) x)=(x.length:Int):=by rw[Ac,QD,hlen]
  rw[GN,qT,hl];by_cases h:at'<x.length
  ·have hb:=yV ha hm h;obtain⟨j,rfl⟩:∃k,j=k+1:=⟨j-1,by omega⟩;have e4:Ad (at':Int) (ch:Int)=((at'+ch:Nat):Int):=by rw[Ah (by omega) (by omega)];omega
   have hi:=Aoe ch x (GN (ch:Int) q) at' h1 h6 ha hb hl2 (ch-1) 0 Au (by omega) (by have:=Aq;omega);have hrest:=Acp h1 h6 hm hl2 j (at'+ch) q (by rw[Bn0,ha]) hb (by omega) (by omega);rw[Bip]at hi;rw[Aas (by rw[Ae];simp;omega),show fG (x.length:Int) (at':Int) (Ad (at':Int) (ch:Int))=some () by rw[e4,fG,uJ];omega,Aa];exact Bj5 hi hrest
  ·rw[Aaf (by rw[Ae];simp;omega),tA (λk hk=>by simp;omega)];rfl
theorem Axt(h1:1<=ch)(h6:ch<=6)(hm:x.length %ch=0)(hl2:x.length<=4000):Adh (ch:Int) x=some (mx ch x,0):=by
 have hlen:=YY ch x;have h:=Acp ch x h1 h6 hm hl2 x.length 0 Au (by simp) (by omega) (by omega) (by have:=Aq;omega);rw[Adh,vX,Anq ch x h1 h6 hm hl2,Aa,Aaf (by rw[Al];simp),Dj,Bd (by simp;omega),Aa,Aa,Arc,oE];rw[rO hlen.symm (λk _=>by simp)]at h;exact h
end
theorem Ba7(a:Int32):rV a=some (qW a):=by
 have h:=CU a;have hc:(Af a:UInt32)=UInt32.ofNat (a.toInt %4294967296).toNat:=rfl;have hs:(Ck a (GI.toZ (31:UInt64)).toNat)=if 0<=a.toInt then(0:Int32)else -1:=by
  have e:Ck a 31=Int32.ofInt (a.toInt.fdiv (2^31)):=rfl;rw[show(GI.toZ (31:UInt64)).toNat=31 from rfl,e];by_cases h0:0<=a.toInt
  ·rw[Aas h0,show a.toInt.fdiv (2^31)=0 by rw[Atp _ (by decide)];omega];rfl
  ·rw[Aaf h0,show a.toInt.fdiv (2^31)= -1 by rw[Atp _ (by decide)];omega];rfl
 rw[rV,hs,hc,qW];congr 1;have hsh:(Dp (UInt32.ofNat (a.toInt %4294967296).toNat) (GI.toZ (1:UInt64)).toNat).toNat=2*(a.toInt %4294967296).toNat %4294967296:=by
  rw[show(GI.toZ (1:UInt64)).toNat=1 from rfl,qE,Anh,Ac1 (show(a.toInt %4294967296).toNat<2^32 by omega)];omega
 by_cases h0:0<=a.toInt
 ·rw[Aas h0,Aas h0,show(Af (0:Int32):UInt32)=0 from rfl];apply UInt32.toNat_inj.1;rw[show∀z:UInt32,AI z (0:UInt32)=z^^^0 from λz=>by rw[fE],Bn8,hsh,Anh,Ac1 (show 2*a.toInt.toNat<2^32 by omega)]
  show _^^^0=_;rw[Nat.xor_zero];omega
 ·rw[Aaf h0,Aaf h0,show(Af (-1:Int32):UInt32)=4294967295 from rfl];apply UInt32.toNat_inj.1;rw[show∀z:UInt32,AI z (4294967295:UInt32)=z^^^4294967295 from λz=>by rw[fE],Bn8,hsh,Anh,Ac1 (show 2*(-a.toInt-1).toNat+1<2^32 by omega)]
  show _^^^4294967295=_;have key:∀n:Nat,n<4294967296->n^^^4294967295=4294967295-n:=by
   intro n hn;have:=BitVec.toNat_not (x:=BitVec.ofNat 32 n);rw[<-BitVec.xor_allOnes,BitVec.toNat_xor,BitVec.toNat_ofNat,Ac1 (by omega)]at this;simpa using this
  rw[key _ (by omega)];omega
theorem Baz{bits:Int}(h:Bk bits){t p:List Int32}(hF:OkF (sB bits) t p)(last x:Int32):
  Xe bits last (sB bits) t p x=some (Ac0 bits (last,t,p) x,bits,x,sB bits,lrn t p (Ac0 bits (last,t,p) x),(x-gs (shB bits) last)::p.take 15,0):=by
 rw[Xe,Ae9 h,Aa,Aaf (by rw[Al];simp),Bas h,Aa];simp only;rw[YR,bK,Aqr hF,Aa];simp only;rw[Aaf (by rw[Al];simp),YR,ZR,Aol hF,Aa];simp only;rw[Avl (s:=sB bits) (t:=lrn t p _) (p:=p) ⟨hF.1,IA _ _ _,hF.2.2⟩,Aa,Aa];rfl
theorem Agq(bits:Int)(ch:Nat)(t x:List Int32):(Mw bits ch t x).length=x.length:=sG _ _ _ _ _
theorem Azk{bits:Int}{ch:Nat}{t x:List Int32}{i:Nat}(h:i<x.length):(Mw bits ch t x).getD i 0=qW (Ac0 bits (cst bits ch t (Mw bits ch t x) (i %ch) i) ((mx ch x).getD i 0)):=by
 obtain⟨w,hw⟩:=Alw bits ch t (mx ch x) (x.length-(i+1)) (i+1);rw[show i+1+(x.length-(i+1))=x.length by omega,evl,Aec]at hw;have hli:=sG bits ch t (mx ch x) i;have hw':Mw bits ch t x=_:=hw;have hg:(Mw bits ch t x).getD i 0=qW (Ac0 bits (cst bits ch t (evl bits ch t (mx ch x) i) (i %ch) i) ((mx ch x).getD i 0)):=by
  rw[hw',List.getD_eq_getElem?_getD,List.getElem?_append_right (by omega),hli,Nat.sub_self];rfl
 have hc:cst bits ch t (Mw bits ch t x) (i %ch) i=cst bits ch t (evl bits ch t (mx ch x) i) (i %ch) i:=by rw[hw',Avm _ _ _ _ _ _ _ (by omega)]
 rw[hg,hc]
section
variable {bits:Int} {ch:Nat} {t x:List Int32} (hb:Bk bits) (ht:t.length=16) (h1:1<=ch) (h6:ch<=6) (hx1:1<=x.length) (hx4:x.length<=4000) (hm:x.length %ch=0)
include hb ht h1 h6 hx1 hx4 hm
omit ht in
theorem Bjj(hr:inR bits x):QS (ch:Int) bits x=some 0:=by
 rw[QS,Az3 hb h1 h6,Aa,Aaf (by decide),lO hb x hx4,fI hb hx4 hr,Aa,Aaf (by decide),Aaf (by rw[Ar,Ac,Aue];omega),Bu (by rw[Al];simp;omega),Aa,Ac,TU,hm,Aaf (by decide)]
omit hm in
theorem Aja:∀(j i q:Nat),i+j=x.length->j<q->
  Mi (mx ch x) (ch:Int) bits q (i:Int) (cts bits ch t (Mw bits ch t x) i) ((Mw bits ch t x).take i)=some (Mw bits ch t x,0)
 |j,i,0,_,h=>absurd h (Bgp _)
 |0,i,q+1,hi,_=>by
  have hl:=YY ch x;have hV:=Agq bits ch t x;rw[Mi,Wg,Aaf (by rw[Ae,Ac];simp;omega),Aof (by omega)];rfl
 |j+1,i,q+1,hi,hq=>by
  have hl:=YY ch x;have hV:=Agq bits ch t x;have hc:i %ch<6:=Arb (Bj3 _ (by omega)) h6;have hok:=Alu bits ch ht (Mw bits ch t x) (i %ch) i;have hs:=Atw (bits:=bits) (ch:=ch) (t:=t) (v:=Mw bits ch t x) (i:=i) hc rfl;have hg:=Azk (bits:=bits) (ch:=ch) (t:=t) (x:=x) (i:=i) (by omega);have ih:=Aja j (i+1) q (by omega) (by omega);have htk:(Mw bits ch t x).take i++[(Mw bits ch t x).getD i 0]=(Mw bits ch t x).take (i+1):=by
   have:(Mw bits ch t x).getD i 0=(Mw bits ch t x)[i]'(by omega):=by rw[List.getD_eq_getElem?_getD,List.getElem?_eq_getElem (by omega)];rfl
   rw[this,Ij (by omega)]
  have hfw:=Baz hb hok (cst bits ch t (Mw bits ch t x) (i %ch) i).1 ((mx ch x).getD i 0);rw[Mi,Wg,Aas (by rw[Ae,Ac];simp;omega),g32 (by omega),Aa,Aa,Bu (by rw[Al];simp;omega),Aa,TU,At2 hc,Aa,Aa];refine Bj5 (congrArg (λo=>Option.bind o _) hfw) ?_;rw[Aa];simp only;rw[Aaf (by decide)];have hst:((bits,(mx ch x).getD i 0,(sB bits,lrn (cst bits ch t (Mw bits ch t x) (i %ch) i).2.1 (cst bits ch t (Mw bits ch t x) (i %ch) i).2.2 (Ac0 bits (cst bits ch t (Mw bits ch t x) (i %ch) i) ((mx ch x).getD i 0)),((mx ch x).getD i 0-gs (shB bits) (cst bits ch t (Mw bits ch t x) (i %ch) i).1)::(cst bits ch t (Mw bits ch t x) (i %ch) i).2.2.take 15,()),()):CL)=toC bits (Akj bits (cst bits ch t (Mw bits ch t x) (i %ch) i) (ZE ((Mw bits ch t x).getD i 0))):=by
   rw[hg,Azg,toC,Akj,Aku];simp only;rw[Ac0,cW]
  refine Bj5 (congrArg (λo=>Option.bind o _) ((congrArg (λz=>Nx (cts bits ch t (Mw bits ch t x) i) ((i %ch:Nat):Int) z) hst).trans hs)) ?_;rw[Aa,Ba7,Aa];have hg2:qW (Ac0 bits ((cst bits ch t (Mw bits ch t x) (i %ch) i).1,(cst bits ch t (Mw bits ch t x) (i %ch) i).2.1,(cst bits ch t (Mw bits ch t x) (i %ch) i).2.2) ((mx ch x).getD i 0))=(Mw bits ch t x).getD i 0:=hg.symm;rw[hg2,Bd (by rw[Ah9];simp;omega),Aa,htk,Ah (by omega) (by omega)];exact ih
theorem Asa(hr:inR bits x):LV (ch:Int) bits t x=some (Mw bits ch t x,0):=by
 have hl:=YY ch x;have h:=Aja hb ht h1 h6 hx1 hx4 x.length 0 Au (by omega) (by have:=Aq;omega);have e:Au=(Au-7)+1+1+1+1+1+1+1:=by have:=Aq;omega
 have hs:Yw (ch:Int) bits t (mx ch x) 0 (List.replicate 6 ((0:Int),(0:Int32),((0:Int),(List.replicate 16 (0:Int32)),(List.replicate 16 (0:Int32)),()),()))=IB (ch:Int) bits (mx ch x) (cts bits ch t (Mw bits ch t x) 0):=by
  rw[Yw,e];obtain rfl|rfl|rfl:=hb<;>rfl
 rw[LV,JO,Bjj hb h1 h6 hx1 hx4 hm hr,Aa,Aaf (by decide),Axt ch x h1 h6 hm hx4,Aa];simp only;rw[Aaf (by decide)];refine Bj5 hs ?_;exact h
end
theorem Ar2(ch:Nat):JL=some (sts ch []):=by
 have e:Au=(Au-7)+1+1+1+1+1+1+1:=by have:=Aq;omega
 rw[JL,JT,KW,e];rfl
theorem Apz(c:List Bool){n:Nat}(h:n<=c.length):Rw (Mo c) 0 n=Mo (c.take n):=by
 have hl:(c.take n).length=n:=by rw[Ah9];omega
 apply Apr (by rw[Ki,Xf,hl]);intro i hi;rw[yC,Bdf,GH,GH];by_cases hlt:i<n
 ·rw[Aas hlt,tb,tb,List.getD_eq_getElem?_getD,List.getD_eq_getElem?_getD,List.getElem?_take,Aas hlt]
 ·rw[Aaf hlt,Amg (by omega)]
theorem Bhz(a:UInt8){k:Nat}(hk:k<8):Er (Ck a k) (1:UInt8)=UInt8.ofNat (a.toNat/2^k %2):=by
 apply UInt8.toNat_inj.1;rw[Aug,UInt8.toNat_and,Al9,Aq6]
 show _&&&1=_;rw[Nat.and_one_is_mod];generalize a.toNat/2^k=X;omega
theorem Ap9(E code:List Bool)(hE:E.length+code.length<=330000)(bk:Int->List (Int×Int×UInt64×UInt64×Unit)->Int->List UInt8->Bz)(V:List UInt32)(b f g:Int)(k:List (Int×Int×UInt64×UInt64×Unit)):∀(j o q:Nat),o+j=code.length->j<q->
  Hi bk V b f (code.length:Int) g k (Mo code) q (o:Int) ((E.length+o:Nat):Int) (Rw (Mo (E++code)) 0 (E.length+o))=bk (Ad g 1) k ((E.length+code.length:Nat):Int) (Mo (E++code))
 |j,o,0,_,h=>absurd h (Bgp _)
 |0,o,q+1,ho,_=>by
  obtain rfl:o=code.length:=by omega
  rw[Hi,Wo,Aaf (by rw[Ae];simp),FW,aN,Apz _ (by rw[Abt];omega),Aof (by rw[Abt];omega)]
 |j+1,o,q+1,ho,hq=>by
  generalize hP:Mo (E++code)=P;have hPo:Hp P (E.length+o)=Hp (Mo code) o:=by rw[<-hP,GH,GH,Ak1]
  have ih:=Ap9 E code hE bk V b f g k j (o+1) q (by omega) (by omega);rw[hP,<-Ay1]at ih;generalize hn:E.length+o=n at*
  have hq8:Ca (n:Int) 8=((n/8:Nat):Int):=by rw[show(8:Int)=((8:Nat):Int)from rfl,ZN (by omega)]
  have hr8:Gc (n:Int) 8=((n %8:Nat):Int):=by rw[show(8:Int)=((8:Nat):Int)from rfl,TU]
  have hqo:Ca (o:Int) 8=((o/8:Nat):Int):=by rw[show(8:Int)=((8:Nat):Int)from rfl,ZN (by omega)]
  have hro:Gc (o:Int) 8=((o %8:Nat):Int):=by rw[show(8:Int)=((8:Nat):Int)from rfl,TU]
  have hroom:Hi bk V b f (code.length:Int) g k (Mo code) (q+1) (o:Int) (n:Int) (Rw P 0 n)=Vz (Hi bk V b f (code.length:Int) g k (Mo code) q) (code.length:Int) V g b f k (Mo code) (o:Int) (n:Int) (room P 0 n):=by
   rw[Hi,Wo,Aas (by rw[Ae];simp;omega),hr8,room];by_cases h0:n %8=0
   ·rw[Aas (by rw[Ar,h0];rfl),Bd (by rw[Ki];simp;omega),Aa,Aas h0]
   ·rw[Aaf (by rw[Ar];simp;omega),Aaf h0]
  have hcl:=Xf code;have hgm:Ap (Mo code) ((o/8:Nat):Int)=some ((Mo code).getD (o/8) 0):=by
   rw[Bm (by omega),List.getD_eq_getElem?_getD,List.getElem?_eq_getElem (by omega)];rfl
  have hg:Ap (room P 0 n) ((n/8:Nat):Int)=some (UInt8.ofNat (Ce P (0+8*(n/8)) (n %8))):=by
   rw[Bm (by rw[Qc];omega),sO]
  have hbit:Er (Ck ((Mo code).getD (o/8) 0) (o %8)) (1:UInt8)=UInt8.ofNat (Hp P n):=by
   rw[Bhz _ (by omega),hPo,Hp]
  have hlt:=xH P (0+8*(n/8)) (n %8+1) (by omega);have hsn:=sL P (0+8*(n/8)) (n %8);rw[show 0+8*(n/8)+n %8=n by omega]at hsn;have hnew:vM (UInt8.ofNat (Ce P (0+8*(n/8)) (n %8))) (Dp (UInt8.ofNat (Hp P n)) (n %8))=UInt8.ofNat (Ce P (0+8*(n/8)) (n %8+1)):=by
   rw[or8 (Qy _ _ _) (by rw[Asu];omega) (by omega),hsn,Asu (2^(n %8))]
  rw[hroom,Vz,FC,hqo,hro,hq8,hr8,hgm,Aa,Aa,Bu (by rw[Ds];simp;omega),Aa,hg,Aa,Bu (by rw[Ds];simp;omega),Aa,Aa,Aa,
   show(GI.toZ ((o %8:Nat):Int)).toNat=o %8 from rfl,show(GI.toZ ((n %8:Nat):Int)).toNat=n %8 from rfl,hbit,hnew,Wf _ (by rw[Qc];omega),Aa,zI P 0 n 1 (by omega) (by omega),FT,aI,Ah (by omega) (by omega),Ah (by omega) (by omega)]
  exact ih
theorem Bmg(l m:List UInt8)(h:l.length+m.length<=1000000):Fe [l,m]=some (l++m):=by
 have hF:Au=(Au-3)+1+1+1:=by have:=Aq;omega
 rw[Fe,Qj,Qm];have g0:Ap [l,m] (0:Int)=some l:=rfl;have g1:Ap [l,m] (1:Int)=some m:=rfl;have l2:Ac [l,m]=2:=rfl;have h3:Ev [l,m] []=some (l++m):=by
  rw[Ev,Jt,Jq,hF,Ct,Dq,l2,Aas (by decide),g0,Aa,Bd (by simp;omega),Aa,Arc,show Ad (0:Int) 1=1 by decide,
   Ct,Dq,l2,Aas (by decide),g1,Aa,Bd (by omega),Aa,show Ad (1:Int) 1=2 by decide,Ct,Dq,l2,Aaf (by decide)]
  rfl
 rw[hF,Cy,Dx,l2,Aas (by decide),g0,Aa,Ah (by unfold Ac;omega) (by unfold Ac;omega),Aaf (by rw[Ae,Ac];simp),show Ad (0:Int) 1=1 by decide,
  Cy,Dx,l2,Aas (by decide),g1,Aa,Ah (by unfold Ac;omega) (by unfold Ac;omega),Aaf (by rw[Ae,Ac,Ac];simp;omega),show Ad (1:Int) 1=2 by decide,
  Cy,Dx,l2,Aaf (by decide),Eu,Ju,Aaf (by rw[Ae,Ac,Ac];simp;omega),Jr,Js]
 have z:Ao (0:Int) 0=0:=by decide
 have n0:(0:Int)+Ac l+Ac m=((l.length+m.length:Nat):Int):=by simp[Ac]
 rw[z,n0,Bs (by omega) (by omega),Int.sub_zero];by_cases hp:0<l.length+m.length
 ·rw[Aas (by rw[As];simp;omega),show fG (0:Int) 0 0=some ()from rfl,Aa,uA (by omega) (by omega),Aa,Bd (by simp;omega),Aa];rw[show fG (Ac ([]++List.replicate ((l.length+m.length:Nat):Int).toNat (0:UInt8))) 0 0=some () by rw[fG,Bu];simp[Ac];omega,Aa];simp only[bE,Int.sub_self,Int.toNat_zero,Bd5];exact h3
 ·rw[Aaf (by rw[As];simp;omega)];exact h3
theorem Apc(bits:Int)(ch:Nat)(h1:1<=ch)(h6:ch<=6)(V:List UInt32)(hV:V.length<=4000):∀(j i q:Nat),i+j=V.length->j<q->
  Jd V (ch:Int) bits q (i:Int) (sts ch (V.take i)) ((Tl ch V i).length:Int) (Mo (Tl ch V i))=some (Mo (Tl ch V V.length)++Sm (Em (Mo (Tl ch V V.length))).toNat 4,0)
 |j,i,0,_,h=>absurd h (Bgp _)
 |0,i,q+1,hi,_=>by
  obtain rfl:i=V.length:=by omega
  have hel:=fQ ch V V.length;have hpl:=Xf (Tl ch V V.length);have hlt:=(Em (Mo (Tl ch V V.length))).toNat_lt;rw[Jd,Vt,Aaf (by rw[Ae,Ac];simp),FI,ZG,Aa2 _ (by omega),Aa];simp only;have e64:(UInt64.ofNat (Em (Mo (Tl ch V V.length))).toNat).toNat=(Em (Mo (Tl ch V V.length))).toNat:=bX (by omega);rw[Aaf (by decide),Dt,show(4:Int)=((4:Nat):Int)from rfl,ZY _ 4 (by omega) (by omega) (by rw[e64];omega),Aa];simp only;rw[Aaf (by decide),e64,Bmg _ _ (by rw[Cf];omega),Aa]
 |j+1,i,q+1,hi,hq=>by
  have hc:i %ch<6:=Arb (Bj3 _ (by omega)) h6;have hvl:(V.take i).length=i:=by rw[Ah9];omega
  have hel:=fQ ch V i;have hk:=Ali ch (V.take i);have hcl:=fC (V.getD i 0) hk.1 hk.2;have ih:=Apc bits ch h1 h6 V hV j (i+1) q (by omega) (by omega);have hvi:V.getD i 0=V[i]'(by omega):=by rw[List.getD_eq_getElem?_getD,List.getElem?_eq_getElem (by omega)];rfl
  have htk:V.take i++[V.getD i 0]=V.take (i+1):=by rw[hvi,Ij (by omega)]
  have hst:=Ak8 (ch:=ch) (v:=V.take i) hc;have hset:=Aui (ch:=ch) (v:=V.take i) (V.getD i 0) hc (by rw[hvl]);have Bni:nR ch (V.take i) (i %ch) (V.take i).length=now ch (V.take i):=Bf0 (by rw[hvl]);rw[Bni]at hst hset;rw[htk]at hset;have hdp:=Az9 (k:=(now ch (V.take i)).1) (l:=(now ch (V.take i)).2.1) (s:=(now ch (V.take i)).2.2.1) (t:=(now ch (V.take i)).2.2.2) (rK ch (V.take i) _ _) (V.getD i 0);have hpc:=Ap9 (Tl ch V i) (Ts (now ch (V.take i)).1 (now ch (V.take i)).2.1 (V.getD i 0)) (by omega) (Jd V (ch:Int) bits q) V (ch:Int) bits (i:Int) (sts ch (V.take (i+1))) (Ts (now ch (V.take i)).1 (now ch (V.take i)).2.1 (V.getD i 0)).length 0 Au (by omega) (by have:=Aq;omega);rw[show(Tl ch V i).length+0=(Tl ch V i).length from rfl,Apz _ (by rw[Abt];omega),List.take_left,show((0:Nat):Int)=0 from rfl]at hpc;rw[Jd,Vt,Aas (by rw[Ae,Ac];simp;omega),wS (by omega),Aa,Aa,Bu (by rw[Al];simp;omega),Aa,TU,hst,Aa,Aa];refine Bj5 (congrArg (λo=>Option.bind o _) hdp) ?_;rw[Aa];simp only;rw[Aaf (by decide),Aa,Aa];refine Bj5 (congrArg (λo=>Option.bind o _) hset) ?_;rw[Aa];refine Bj5 hpc ?_;rw[Ah (by omega) (by omega)];rw[Tl,Abt]at ih;exact ih
theorem xT{bits:Int}{ch:Nat}{t x:List Int32}(hb:Bk bits)(ht:t.length=16)(h1:1<=ch)(h6:ch<=6)(hx1:1<=x.length)(hx4:x.length<=4000)(hm:x.length %ch=0)(hr:inR bits x):
  AP (ch:Int) bits t x=some (Re bits ch t x,0):=by
 have hV:=Agq bits ch t x;have h:=Apc bits ch h1 h6 (Mw bits ch t x) (by omega) (Mw bits ch t x).length 0 Au (by omega) (by have:=Aq;omega);have e0:Mo (Tl ch (Mw bits ch t x) 0)=[]:=by simp[Tl,Mo]
 have e1:((Tl ch (Mw bits ch t x) 0).length:Int)=0:=rfl;rw[e0,e1,Bd5,hV,show((0:Nat):Int)=0 from rfl]at h;rw[AP,LM,Asa hb ht h1 h6 hx1 hx4 hm hr,Aa];simp only;rw[Aaf (by decide),Ar2 ch,Aa,Re,WU,FN];exact h
theorem Bh1{r:Nat}(h1:1<=r)(h:r<=1048576):Ks (r:Int)=some ((Ak r:Int),0):=by
 have hv:=Afo h;have e:Bg (r:Int) 256=Bg 256 (r:Int):=by rw[Fc (by omega) (by omega),Fc (by omega) (by omega)];omega
 rw[Ks,Aaf (by simp[Ae,As];omega),e];have hq:0<=Ca (Bg 256 (r:Int)) 245:=by
  have e2:Bg 256 (r:Int)=((256*r:Nat):Int):=by rw[Fc (by omega) (by omega)];omega
  rw[e2,show(245:Int)=((245:Nat):Int)from rfl,ZN (by omega)];omega
 rw[Am4]at hv;by_cases hz:Ca (Bg 256 (r:Int)) 245=0
 ·rw[Aas (by rw[Ar];simpa using hz)];rw[hz]at hv;have:(1:Int)=(Ak r:Int):=by omega
  rw[this]
 ·rw[Aaf (by rw[Ar];simpa using hz)];have:Ca (Bg 256 (r:Int)) 245=(Ak r:Int):=by omega
  rw[this]
structure ClipOk (c w r n:Nat) (x:List Int32):Prop where
 ch:1<=c/\c<=6
 bits:Bk (w:Int)
 rate:1<=r/\r<=1048576
 cnt:1<=n/\n<=4000/c
 len:x.length=n*c
 fr:(n-1)/Ak r+1<=1000
 rng:inR (w:Int) x
theorem ClipOk.le{c w r n:Nat}{x:List Int32}(h:ClipOk c w r n x):n<=4000/\n*c<=4000/\1<=x.length/\x.length<=4000:=by
 have h1:=Aeb c h.cnt.2;have h2:=Bid 4000 c;have h3:=Atx 4000 c;have h4:=Bn6 h.cnt.1 h.ch.1;have h5:=h.len;have:=h.cnt;omega
theorem ClipOk.w3{c w r n:Nat}{x:List Int32}(h:ClipOk c w r n x):w=8\/w=16\/w=24:=by
 have:=h.bits;unfold Bk at this;omega
theorem ClipOk.shape{c w r n:Nat}{x:List Int32}(h:ClipOk c w r n x)(f:Nat)(hf:f=1\/f=2):Ft f c w r n=true:=by
 have:=h.w3;have:=h.ch;have:=h.rate;have:=h.cnt;simp only[Ft,Acw];omega
theorem ClipOk.fit{c w r n:Nat}{x:List Int32}(h:ClipOk c w r n x):Xw c r n=true:=by
 have:=h.cnt;have:=h.fr;simp only[Xw,Acw];omega
theorem Az0{bits:Int}(h:¬Bk bits):Kw bits=some 0/\Sj bits=some (0,0,2):=by
 unfold Bk at h;constructor
 ·rw[Kw,Aaf (by rw[Ar,Aue];omega),Aaf (by rw[Ar,Aue];omega),Aaf (by rw[Ar,Aue];omega)]
 ·have e:(geq bits 24)=false:=by rw[Ar,beq_eq_false_iff_ne];omega
  rw[Sj,ZX,Aaf (by rw[Ar,Aue];omega),Aaf (by rw[Ar,Aue];omega),e,aD,rG,Aaf (by decide)]
def zP(f c w r n:Nat):List UInt8:=Pb++Sm f 2++Sm c 2++Sm w 2++Sm r 4++Sm n 4
def MO(f c w r n:Nat):List UInt8:=zP f c w r n++Sm (Em (zP f c w r n)).toNat 4
theorem gG(f c w r n:Nat):(zP f c w r n).length=18:=by simp only[zP,Pb,Abt,Cf];rfl
theorem RD(f c w r n:Nat):(MO f c w r n).length=22:=by rw[MO,Abt,gG,Cf]
theorem Ady(b f g h k:Int)(m v w q:Nat)(a:List UInt8)(hm:m<5)(hv:Ap ([b,f,g,h,k]:List Int) (m:Int)=some (v:Int))(hw:Ap ([2,2,2,4,4]:List Int) (m:Int)=some (w:Int))(h1:1<=w)(h8:w<=8)(hlt:v<256^w)(h64:v<18446744073709551616)(ha:a.length<=100):
  Nq b f g h k (q+1) (m:Int) a=Nq b f g h k q ((m+1:Nat):Int) (a++Sm v w):=by
 have e64:(UInt64.ofNat v).toNat=v:=bX (by omega);have hi1:Ad (m:Int) 1=((m+1:Nat):Int):=by rw[Ah (by omega) (by omega)];omega
 rw[Nq,EP,Aas (by rw[Ae];simp;omega),hv,Aa,hw,Aa,Xp,ZY _ w h1 h8 (by rw[e64];exact hlt),Aa];simp only;rw[Bd (by rw[Cf];omega),Aa,hi1,e64]
theorem Alf{f c w r n:Nat}(h1:Ft f c w r n=true)(h2:Xw c r n=true):WX (f:Int) (c:Int) (w:Int) (r:Int) (n:Int)=some (MO f c w r n,0):=by
 have hs:(f=1\/f=2)/\ (1<=c/\c<=6)/\ (w=8\/w=16\/w=24)/\ (1<=r/\r<=1048576)/\1<=n:=by simpa only[Ft,Acw]using h1
 have hn:n<=4000:=by
  simp only[Xw,Acw]at h2;have:=Atx 4000 c;omega
 have hck:Oo (f:Int) (c:Int) (w:Int) (r:Int) (n:Int)=some 0:=by
  rw[Oo,cM,Aa,h1,Aaf (by decide),sF h1,Aa,h2,Aaf (by decide)]
 have hF:Au=(Au-6)+1+1+1+1+1+1:=by have:=Aq;omega
 have hlt:=(Em (zP f c w r n)).toNat_lt;have e64:(UInt64.ofNat (Em (zP f c w r n)).toNat).toNat=(Em (zP f c w r n)).toNat:=bX (by omega);have hfin:EV (zP f c w r n)=some (MO f c w r n,0):=by
  rw[EV,mS,Aa2 _ (by rw[gG];omega),Aa];simp only;rw[Dt,show(4:Int)=((4:Nat):Int)from rfl,ZY _ 4 (by omega) (by omega) (by rw[e64];omega),Aa];simp only;rw[Bd (by rw[gG,Cf];omega),Aa,e64];rfl
 rw[WX,UL,hck,Aa,Aaf (by decide),US,hF];have s0:=Ady (f:Int) (c:Int) (w:Int) (r:Int) (n:Int) 0 f 2 ((Au-6)+1+1+1+1+1) Pb (by omega) rfl rfl (by omega) (by omega) (by omega) (by omega) (by decide);have s1:=Ady (f:Int) (c:Int) (w:Int) (r:Int) (n:Int) 1 c 2 ((Au-6)+1+1+1+1) (Pb++Sm f 2) (by omega) rfl rfl (by omega) (by omega) (by omega) (by omega) (by simp[Cf,Pb]);have s2:=Ady (f:Int) (c:Int) (w:Int) (r:Int) (n:Int) 2 w 2 ((Au-6)+1+1+1) (Pb++Sm f 2++Sm c 2) (by omega) rfl rfl (by omega) (by omega) (by omega) (by omega) (by simp[Cf,Pb]);have s3:=Ady (f:Int) (c:Int) (w:Int) (r:Int) (n:Int) 3 r 4 ((Au-6)+1+1) (Pb++Sm f 2++Sm c 2++Sm w 2) (by omega) rfl rfl (by omega) (by omega) (by omega) (by omega) (by simp[Cf,Pb]);have s4:=Ady (f:Int) (c:Int) (w:Int) (r:Int) (n:Int) 4 n 4 ((Au-6)+1) (Pb++Sm f 2++Sm c 2++Sm w 2++Sm r 4) (by omega) rfl rfl (by omega) (by omega) (by omega) (by omega) (by simp[Cf,Pb]);refine s0.trans (s1.trans (s2.trans (s3.trans (s4.trans ?_))));rw[Nq,EP,Aaf (by decide)];exact hfin
def bG(l:List Int):List UInt8:=l.flatMap λx=>Sm x.toNat 4
def fS(l:List Int):List UInt8:=bG l++Sm (Em (bG l)).toNat 4
theorem RX(l:List Int):(bG l).length=4*l.length:=by
 induction l with
 |nil=>rfl
 |cons x l ih=>rw[bG,Boh,Abt,Cf,show(l.flatMap λx=>Sm x.toNat 4)=bG l from rfl,ih,Anf];omega
theorem fT(l:List Int):(fS l).length=4*l.length+4:=by rw[fS,Abt,RX,Cf]
theorem Awf(l:List Int)(x:Int):bG (l++[x])=bG l++Sm x.toNat 4:=by simp[bG]
theorem Acq(l:List Int)(hl:l.length<=1000)(h5:∀x∈l,5<=x/\x<=100000):∀(j i q:Nat),i+j=l.length->j<q->Vf l q (i:Int) (bG (l.take i))=some (fS l,0)
 |j,i,0,_,h=>absurd h (Bgp _)
 |0,i,q+1,hi,_=>by
  have hlt:=(Em (bG l)).toNat_lt;have e64:(UInt64.ofNat (Em (bG l)).toNat).toNat=(Em (bG l)).toNat:=bX (by omega);rw[Vf,KT,Aaf (by rw[Ae,Ac];simp;omega),Aof (by omega),UX,UI,Aa2 _ (by rw[RX];omega),Aa];simp only;rw[Dt,show(4:Int)=((4:Nat):Int)from rfl,ZY _ 4 (by omega) (by omega) (by rw[e64];omega),Aa];simp only;rw[Bd (by rw[RX,Cf];omega),Aa,e64];rfl
 |j+1,i,q+1,hi,hq=>by
  have ih:=Acq l hl h5 j (i+1) q (by omega) (by omega);obtain⟨x5,x6⟩:=h5 l[i] (Ane _);obtain⟨v,hv⟩:=Anc (show 0<=l[i] by omega);have e64:(UInt64.ofNat v).toNat=v:=bX (by omega);have hi1:Ad (i:Int) 1=((i+1:Nat):Int):=by rw[Ah (by omega) (by omega)];omega
  rw[Vf,KT,Aas (by rw[Ae,Ac];simp;omega),Bm (by omega),Aa,hv,Xp,show(4:Int)=((4:Nat):Int)from rfl,ZY _ 4 (by omega) (by omega) (by rw[e64];omega),Aa];simp only;rw[Bd (by rw[RX,Cf,Ah9];omega),Aa,UK,mL,hi1,e64];rw[Ij (by omega),Awf,hv,Ah2]at ih;exact ih
theorem Aqn(l:List Int):TK l=some (if Sy l=true then(fS l,0)else([],8)):=by
 rw[TK,XW,XS,Aa];by_cases h:Sy l=true
 ·rw[Aas h,Aas h,Aaf (by decide)];simp only[Sy,Ac9,Acw]at h;obtain⟨⟨h1,h2⟩,h3⟩:=h;have h4:=(AX l 100000 (by omega)).1 h3;have h6:=vT h4.1;have hl:=Acq l h2 (λx hx=>⟨h4.1 x hx,by have:=h6 x hx;omega⟩) l.length 0 Au (by omega) (by have:=Aq;omega);exact hl
 ·rw[Aaf h,Aaf h,Aas (by decide)]
def It(c:Nat):List Int32->List Int->List (List Int32)
 |_,[]=>[]
 |x,m::l=>x.take (m.toNat*c)::It c (x.drop (m.toNat*c)) l
theorem ZJ(c:Nat):∀(l:List Int) (x:List Int32),(It c x l).length=l.length
 |[],x=>rfl
 |m::l,x=>by rw[It,Anf,Anf,ZJ c l]
theorem Abl(c:Nat):∀(l:List Int) (x:List Int32),(∀m∈l,0<=m)->x.length=l.sum.toNat*c-> (It c x l).flatten=x
 |[],x,_,h=>by
  have:x=[]:=Bg7 (by simpa using h);rw[this];rfl
 |m::l,x,h0,h=>by
  have hm:=h0 m Ay0;have hl:0<=l.sum:=by
   have:∀l:List Int,(∀m∈l,0<=m)->0<=l.sum:=by
    intro l
    induction l with
    |nil=>intro _;simp
    |cons a l ih=>intro h;have:=ih (λm hm=>h m (Aq1 _ hm));have:=h a Ay0;rw[Bdn];omega
   exact this l λm hm=>h0 m (Aq1 _ hm)
  rw[Bdn,show(m+l.sum).toNat=m.toNat+l.sum.toNat by omega,Ana]at h;have ih:=Abl c l (x.drop (m.toNat*c)) (λm hm=>h0 m (Aq1 _ hm)) (by rw[Aky];omega);rw[It,Bkr,ih,Ayx]
theorem kV(c:Nat)(h1:1<=c):∀(l:List Int) (x:List Int32),(∀m∈l,1<=m)->x.length=l.sum.toNat*c->∀y∈It c x l,1<=y.length/\y.length<=x.length/\y.length %c=0/\∀v∈y,v∈x
 |[],x,_,_=>λy hy=>by simp[It]at hy
 |m::l,x,hm,hx=>by
  have hm1:=hm m Ay0;have hl:0<=l.sum:=by
   have:∀l:List Int,(∀m∈l,1<=m)->0<=l.sum:=by
    intro l
    induction l with
    |nil=>intro _;simp
    |cons a l ih=>intro h;have:=ih (λm hm=>h m (Aq1 _ hm));have:=h a Ay0;rw[Bdn];omega
   exact this l λm hm'=>hm m (Aq1 _ hm')
  rw[Bdn,show(m+l.sum).toNat=m.toNat+l.sum.toNat by omega,Ana]at hx;have hpos:1<=m.toNat*c:=Bn6 (by omega) h1;intro y hy;rw[It,List.mem_cons]at hy;rcases hy with rfl|hy
  ·have hlen:(x.take (m.toNat*c)).length=m.toNat*c:=by rw[Ah9];omega
   rw[hlen];exact⟨hpos,by omega,Bhj _ _,λv hv=>Bnx hv⟩
  ·obtain⟨a1,a2,a3,a4⟩:=kV c h1 l (x.drop (m.toNat*c)) (λm hm'=>hm m (Aq1 _ hm')) (by rw[Aky];omega) y hy;rw[Aky]at a2;exact⟨a1,by omega,a3,λv hv=>Bl6 (a4 v hv)⟩
theorem Agx(bits:Int)(ch:Nat)(t x:List Int32)(h0:1<=x.length)(h4:x.length<=4000):5<= (Re bits ch t x).length/\ (Re bits ch t x).length<=15*x.length:=by
 have h5:=yX bits ch t x h0 h4;have h:=fQ ch (Mw bits ch t x) x.length;refine⟨h5.1,?_⟩;rw[Re,Abt,Cf,WU,Xf];omega
def Cb(fs:List LB):List Int:=fs.map λf=>(f.length:Int)
theorem Hl(fs:List LB):(Cb fs).length=fs.length:=by rw[Cb,List.length_map]
theorem AE:∀fs:List LB,(Cb fs).sum=(fs.flatten.length:Int)
 |[]=>rfl
 |f::fs=>by rw[Cb,Bkw,Bdn,Bkr,Abt,show(fs.map λf=>(f.length:Int))=Cb fs from rfl,AE fs];omega
theorem Bbh(bits:Int)(ch:Nat)(t:List Int32):∀ys:List (List Int32),(∀y∈ys,1<=y.length/\y.length<=4000)-> ((ys.map (Re bits ch t)).flatten).length<=15*ys.flatten.length
 |[],_=>by simp
 |y::ys,h=>by
  have ih:=Bbh bits ch t ys λy hy=>h y (Aq1 _ hy);obtain⟨h1,h4⟩:=h y Ay0;have:=(Agx bits ch t y h1 h4).2;rw[Bkw,Bkr,Bkr,Abt,Abt];omega
def Mp(p:LB):Nat:=if p=[]then 1 else 2
def oM(p:LB):LB:=if p=[]then []else Sm (Vk p).toNat 8
theorem Agk(p:LB):Mp p=1\/Mp p=2:=by unfold Mp;split<;>simp
theorem gE(p:LB):(oM p).length=if Mp p=2 then 8 else 0:=by
 unfold oM Mp;by_cases h:p=[]
 ·rw[Aas h,Aas h];rfl
 ·rw[Aaf h,Aaf h,Cf];rfl
def BC(c r n:Nat)(x:List Int32):List (List Int32):=It c x (Aj (Ak r) n)
def Pk(c w r n:Nat)(x:List Int32)(p:LB):List LB:=(BC c r n x).map (Re (w:Int) c (Kf p))
def Ff(c w r n:Nat)(x:List Int32)(p:LB):LB:=MO (Mp p) c w r n++(oM p++(fS (Cb (Pk c w r n x p))++(Pk c w r n x p).flatten))
theorem Vl{g n:Nat}(hg:1<=g)(h1:1<=n):∀m∈Aj g n,1<=m:=by
 intro m hm;rw[Aj,List.mem_append,List.mem_replicate,List.mem_singleton]at hm;have h:=Bid (n-1) g;rcases hm with⟨_,rfl⟩|rfl
 ·omega
 ·omega
section
variable {c w r n:Nat} {x:List Int32} (h:ClipOk c w r n x)
include h
theorem ClipOk.sum:(Aj (Ak r) n).sum=(n:Int):=oH h.cnt.1
omit h in
theorem pC:(BC c r n x).length=(Aj (Ak r) n).length:=ZJ _ _ _
theorem Aac:(BC c r n x).flatten=x:=by
 refine Abl _ _ _ (λm hm=>?_) ?_
 ·have:=Vl (Du r) h.cnt.1 m hm;omega
 ·rw[h.sum,h.len,Ah2]
theorem iE:∀y∈BC c r n x,1<=y.length/\y.length<=4000/\y.length %c=0/\inR (w:Int) y:=by
 intro y hy;obtain⟨a1,a2,a3,a4⟩:=kV c h.ch.1 _ _ (Vl (Du r) h.cnt.1) (by rw[h.sum,h.len,Ah2]) y hy;have:=h.le;exact⟨a1,by omega,a3,λv hv=>h.rng v (a4 v hv)⟩
omit h in
theorem bP(p:LB):(Pk c w r n x p).length=(Aj (Ak r) n).length:=by rw[Pk,List.length_map];exact ZJ _ _ _
theorem Avf(p:LB):1<= (Pk c w r n x p).length/\ (Pk c w r n x p).length<=1000:=by
 rw[bP,bY];exact⟨Nat.le_add_left _ _,h.fr⟩
theorem Api(p:LB):((Pk c w r n x p).flatten).length<=15*x.length:=by
 have:=Bbh (w:Int) c (Kf p) (BC c r n x) λy hy=>⟨(iE h y hy).1,(iE h y hy).2.1⟩;rw[Aac h]at this;exact this
theorem Bcr(p:LB):∀f∈Pk c w r n x p,5<=f.length:=by
 intro f hf;rw[Pk,List.mem_map]at hf;obtain⟨y,hy,rfl⟩:=hf;exact(Agx _ _ _ _ (iE h y hy).1 (iE h y hy).2.1).1
theorem Afk(p:LB):Sy (Cb (Pk c w r n x p))=true:=by
 have h1:=Avf h p;have h2:=Api h p;have h3:=h.le;simp only[Sy,Ac9,Acw];rw[AX _ _ (by omega),Hl,AE];refine⟨by omega,λz hz=>?_,by omega⟩;rw[Cb,List.mem_map]at hz;obtain⟨f,hf,rfl⟩:=hz;have:=Bcr h p f hf;omega
omit h in
theorem Aa8(p:LB):(Ff c w r n x p).length=22+(if Mp p=2 then 8 else 0)+(4*(Pk c w r n x p).length+4)+(Pk c w r n x p).flatten.length:=by
 rw[Ff,Abt,Abt,Abt,RD,gE,fT,Hl];omega
theorem Apv(p:LB):(Ff c w r n x p).length<=34+4*(Pk c w r n x p).length+15*x.length:=by
 have h1:=Aa8 (c:=c) (w:=w) (r:=r) (n:=n) (x:=x) p;have h2:=Api h p;split at h1<;>omega
theorem Abd(p:LB):(Ff c w r n x p).length<=64034:=by
 have:=Apv h p;have:=Avf h p;have:=h.le;omega
omit h in
end
theorem SS{a m z:LB}{i k:Nat}(hi:a.length=i)(hk:m.length=k):part (a++(m++z)) i k=m:=by
 subst hi hk;rw[part,List.take_append,Aof (by omega),List.drop_left',Bi1,Bg8 (Aob _),Aye];rfl
theorem HG(f c w r n:Nat)(z:LB):MO f c w r n++z=Pb++(Sm f 2++(Sm c 2++(Sm w 2++(Sm r 4++(Sm n 4++(Sm (Em (zP f c w r n)).toNat 4++z)))))):=by
 simp only[MO,zP,Aec]
theorem Ax2{f c w r n:Nat}(h1:Ft f c w r n=true)(h2:Xw c r n=true)(z:LB):Eg (MO f c w r n++z)=((f:Int),(c:Int),(w:Int),(r:Int),(n:Int),0):=by
 have hs:(f=1\/f=2)/\ (1<=c/\c<=6)/\ (w=8\/w=16\/w=24)/\ (1<=r/\r<=1048576)/\1<=n:=by simpa only[Ft,Acw]using h1
 have hn:n<=4000:=by
  simp only[Xw,Acw]at h2;have:=Atx 4000 c;omega
 have hlen:22<= (MO f c w r n++z).length:=by rw[Abt,RD];omega
 have m4:min 4 (MO f c w r n++z).length=4:=by omega
 have e4:(MO f c w r n++z).take 4=Pb:=by rw[HG];rfl
 have e18:(MO f c w r n++z).take 18=zP f c w r n:=by
  rw[MO,Aec,Bg8 (by rw[gG];omega),Aof (by rw[gG];omega)]
 have hlt:=(Em (zP f c w r n)).toNat_lt;have p18:part (MO f c w r n++z) 18 4=Sm (Em (zP f c w r n)).toNat 4:=by
  rw[MO,Aec];exact SS (gG _ _ _ _ _) (Cf _ _)
 have q0:f0 (MO f c w r n++z)=f:=by
  rw[f0,HG,SS (a:=Pb) (i:=4) (k:=2) rfl (Cf _ _),EM];omega
 have q1:f1 (MO f c w r n++z)=c:=by
  rw[f1,HG,<-Aec,SS (by simp[Pb,Cf]) (Cf _ _),EM];omega
 have q2:f2 (MO f c w r n++z)=w:=by
  rw[f2,HG,<-Aec,<-Aec,SS (by simp[Pb,Cf]) (Cf _ _),EM];omega
 have q3:f3 (MO f c w r n++z)=r:=by
  rw[f3,HG,<-Aec,<-Aec,<-Aec,SS (by simp[Pb,Cf]) (Cf _ _),EM];omega
 have q4:f4 (MO f c w r n++z)=n:=by
  rw[f4,HG,<-Aec,<-Aec,<-Aec,<-Aec,SS (by simp[Pb,Cf]) (Cf _ _),EM];omega
 have h:=rs6 (b:=MO f c w r n++z) (by rw[m4,e4];rfl) (by omega) (by rw[e18,p18,EM];omega) (by rw[q0,q1,q2,q3,q4];exact h1) (by rw[q1,q3,q4];exact h2);rw[q0,q1,q2,q3,q4]at h;exact h
theorem Bba(l:List Int)(z:LB){i:Nat}(hi:i<l.length):part (bG l++z) (4*i) 4=Sm (l[i]).toNat 4:=by
 have hs:bG l=bG (l.take i)++(Sm (l[i]).toNat 4++bG (l.drop (i+1))):=by
  conv=>lhs;rw[<-Ayx i l,drop_cons hi]
  rw[bG,bG,bG,List.flatMap_append,Boh]
 rw[hs,Aec,Aec];exact SS (by rw[RX,Ah9];omega) (Cf _ _)
theorem Axk{l:List Int}(ht:Sy l=true)(z:LB):Eh (fS l++z) l.length=(l,0):=by
 have h:=ht;simp only[Sy,Ac9,Acw]at h;obtain⟨hn,h3⟩:=h;have h4:=(AX l 100000 (by omega)).1 h3;have h6:=vT h4.1;have hlt:=(Em (bG l)).toNat_lt;have e1:(fS l++z).take (4*l.length)=bG l:=by
  rw[fS,Aec,Bg8 (by rw[RX];omega),Aof (by rw[RX];omega)]
 have e2:part (fS l++z) (4*l.length) 4=Sm (Em (bG l)).toNat 4:=by
  rw[fS,Aec];exact SS (RX _) (Cf _ _)
 have e3:RV (fS l++z) l.length=l:=by
  apply Bdp
  ·rw[Ux]
  ·intro i h1 h2;have hx:=h4.1 l[i] (Ane _);have hy:=h6 l[i] (Ane _);simp only[RV,Bmh,Bme];rw[fS,Aec,Bba l _ h2,EM];omega
 rw[ss4 hn (by rw[Abt,fT];omega) (by rw[e1,e2,EM];omega),e3,Aas ht]
theorem Aqq{b p:LB}{f c w r n T:Nat}{l:List Int}{z:LB}(hp:p.length<=64)(hf:f=Mp p)(h1:Ft f c w r n=true)(h2:Xw c r n=true)(hT:Bo b=((T:Int),0))(hb:b.length<=100000)(hd:b.drop T=MO f c w r n++(oM p++(fS l++z)))
  (hl:l.length=(Aj (Ak r) n).length) (ht:Sy l=true):Opn b p f c w r n (T+22+(if f=2 then 8 else 0)+4*l.length+4) l:=by
 have hlen:=congrArg List.length hd;rw[Aky,Abt,Abt,Abt,RD,gE,fT,<-hf]at hlen;have Bnj:l.length<=1000/\1<=l.length:=by
  have h:=ht;simp only[Sy,Ac9,Acw]at h;omega
 have hread:Eg (b.drop T)=((f:Int),(c:Int),(w:Int),(r:Int),(n:Int),0):=by rw[hd];exact Ax2 h1 h2 _
 have t22:Ad (T:Int) 22=((T+22:Nat):Int):=by rw[Ah (by omega) (by omega)];omega
 have t30:Ad ((T+22:Nat):Int) 8=((T+30:Nat):Int):=by rw[Ah (by omega) (by omega)];omega
 have d22:b.drop (T+22)=oM p++(fS l++z):=by
  rw[<-Bjo,hd,<-RD f c w r n,Bmd]
 have dA:b.drop (T+22+(if f=2 then 8 else 0))=fS l++z:=by
  rw[<-Bjo,d22,hf,<-gE p,Bmd]
 have hend:∀A:Nat,A<=b.length->A=T+22+(if f=2 then 8 else 0)->Cw b p=Qn b (f:Int) (c:Int) (w:Int) (r:Int) (n:Int) (A:Int)->Cw b p=some ((f:Int),(c:Int),(w:Int),(r:Int),(n:Int),((A+4*l.length+4:Nat):Int),l,0):=by
  intro A hA hA2 e;rw[e,sR h1 h2 b (by omega) A hA,hA2,dA,<-hl,Axk ht,Aaf (by simp)]
 have hprog:Cw b p=some ((f:Int),(c:Int),(w:Int),(r:Int),(n:Int),((T+22+(if f=2 then 8 else 0)+4*l.length+4:Nat):Int),l,0):=by
  refine hend (T+22+(if f=2 then 8 else 0)) (by omega) rfl ?_;rw[Cw,Ui,Aaf (by rw[As,Ac];simp;omega),Aaf (by rw[As,Ac];simp;omega),Pu b (by omega),hT,Aa];simp only;rw[Aaf (by decide),Bt (by omega) (by omega),Aa,Ah2,OP _ (by rw[Aky];omega),Aa,hread];simp only;rw[Aaf (by decide)];by_cases h0:p=[]
  ·have e1:f=1:=by rw[hf,Mp,Aas h0]
   rw[Aaf (by rw[h0,e1];decide),Aaf (by rw[h0];decide),t22,e1];rfl
  ·have e1:f=2:=by rw[hf,Mp,Aaf h0]
   have hne:(p !=([]:LB))=true:=by simpa using h0
   have hne2:(p==([]:LB))=false:=by simpa using h0
   have hdg:oM p=Sm (Vk p).toNat 8:=by rw[oM,Aaf h0]
   have hseg:(b.take (T+30)).drop (T+22)=Sm (Vk p).toNat 8:=by
    rw[Boi,show T+30-(T+22)=8 by omega,d22,hdg,Bg8 (by rw[Cf];omega),Aof (by rw[Cf];omega)]
   rw[e1,Aas rfl]at hlen;rw[Aaf (by rw[hne2,e1];decide),Aas hne,t22,t30,Aaf (by rw[Ae,Ac];simp;omega),Uk (by omega) (by omega) (by omega),Aa,Ah2,Ah2,hseg,wU (Cf _ _) hp,Aa];simp only;rw[Aaf (by decide),Aaf (by simp),e1];rfl
 rcases zE b p (by omega) hp with⟨e,he,h,_⟩|⟨f',c',w',r',n',A',l',o⟩
 ·rw[hprog]at h;have:=congrArg (λo=>(o.getD (SK 0)).2.2.2.2.2.2.2) h;simp only[Option.getD_some,SK]at this;exact absurd this.symm he
 ·have h:=o.prog;rw[hprog]at h;simp only[Adm,Aie]at h;obtain⟨i1,i2,i3,i4,i5,i6,i7,_⟩:=h;have j1:f=f':=by omega
  have j2:c=c':=by omega
  have j3:w=w':=by omega
  have j4:r=r':=by omega
  have j5:n=n':=by omega
  have j6:=Int.ofNat.inj i6;subst j1 j2 j3 j4 j5 i7;rw[j6];exact o
theorem Abr{b:LB}(h:b.take 4=Pb):Bo b=(0,0):=by
 have h4:4<=b.length:=by
  have:=congrArg List.length h;rw[Ah9]at this;simp only[Pb,Anf,Bod]at this;omega
 have h3:b.take 3≠ [73,68,51]:=by
  intro e;have:(b.take 4).take 3=[73,68,51]:=by rw[Bng];exact e
  rw[h]at this;exact absurd this (by decide)
 have h8:b.take 8≠APE:=by
  intro e;have:(b.take 8).take 4=Pb:=by rw[Bng];exact h
  rw[e]at this;exact absurd this (by decide)
 have hs:Db b=(0,6):=by
  have h1:Zd b=(0,6):=by rw[Zd,Aas (by intro hh;exact h3 hh.2)]
  rw[Db,h1,Aaf (by decide),fa1 (by intro hh;exact h8 hh.2)]
 rw[Bo,Afp,Cm,Bnk,hs];rfl
theorem TI:∀{l:List Int},(∀x∈l,0<=x)->∀k,0<= (l.take k).sum
 |[],_,k=>by simp
 |x::l,h,0=>by simp
 |x::l,h,k+1=>by
  have:=TI (l:=l) (λy hy=>h y (Aq1 _ hy)) k;have:=h x Ay0;rw[List.take_succ_cons,Bdn];omega
theorem Aaz(fs:List LB)(k:Nat):(Cb fs).take k=Cb (fs.take k):=by rw[Cb,Cb,List.map_take]
theorem Bh6{b z:LB}{A:Nat}{fs:List LB}(hd:b.drop A=fs.flatten++z){k:Nat}(hk:k<fs.length):tM b A (Cb fs) k=fs[k]:=by
 have e0:fs.flatten=(fs.take k).flatten++(fs[k]++(fs.drop (k+1)).flatten):=by
  conv=>lhs;rw[<-Ayx k fs,drop_cons hk]
  rw[Blg,Bkr]
 have s1:((Cb fs).take k).sum=((fs.take k).flatten.length:Int):=by rw[Aaz,AE]
 have s2:((Cb fs).take (k+1)).sum=((fs.take k).flatten.length+fs[k].length:Nat):=by rw[Aaz,AE,Ij hk,Blg];simp
 rw[tM,s1,s2,show((A:Int)+((fs.take k).flatten.length+fs[k].length:Nat)).toNat=A+((fs.take k).flatten.length+fs[k].length) by omega,show((A:Int)+((fs.take k).flatten.length:Int)).toNat=A+(fs.take k).flatten.length by omega,
  Boi,<-Bjo,hd,e0,Aec,Bmd,Nat.add_sub_add_left,Bi1,Aec,List.take_left]
theorem Av1{b z:LB}{A:Nat}{fs:List LB}(hd:b.drop A=fs.flatten++z)(hA:A<=b.length)(k:Nat):(A:Int)+((Cb fs).take k).sum<=b.length:=by
 have h:=congrArg List.length hd;rw[Aky,Abt]at h;have h2:(fs.take k).flatten.length<=fs.flatten.length:=by
  conv=>rhs;rw[<-Ayx k fs,Blg,Abt]
  omega
 rw[Aaz,AE];omega
theorem Ax1{b z:LB}{A:Nat}{fs:List LB}(hd:b.drop A=fs.flatten++z):eJ b A (Cb fs)=(Qz z).2:=by
 rw[eJ,AE,show((A:Int)+(fs.flatten.length:Int)).toNat=A+fs.flatten.length by omega,<-Bjo,hd,Bmd]
theorem Arz:Qz []=(0,0):=rfl
section
variable {b p:List UInt8} {f c w r n A:Nat} {fs:List LB} {z:LB} (o:Opn b p f c w r n A (Cb fs)) (hd:b.drop A=fs.flatten++z)
include o hd
theorem Bhs{k:Nat}(hk:k<fs.length){y:List Int32}{e:Int}{m:Nat}(hm:Ap (Aj (Ak r) n) (k:Int)=some (m:Int))(hdec:Iq (c:Int) (w:Int) (Kf p) (m:Int) fs[k]=some (y,e)):
  (Ii b p f c w r n A (Cb fs) k).2=e/\ (e=0->Ii b p f c w r n A (Cb fs) k=(Cv (w:Int) y,0)/\smF w (Ii b p f c w r n A (Cb fs) k)=y):=by
 have hkl:k<(Cb fs).length:=by rw[Hl];exact hk
 obtain⟨m',x',s',e',g⟩:=Rp o k hkl;have hin:=Av1 hd o.at' (k+1);have hmm:m'=m:=by
  have:=g.mom;rw[hm]at this;have:=Axa this;omega
 subst hmm;rcases g.way with⟨h1,_⟩|⟨_,h2,_⟩
 ·omega
 ·rw[Bh6 hd hk,hdec]at h2;simp only[Adm,Aie]at h2;obtain⟨rfl,rfl⟩:=h2;refine⟨by rw[g.eq],λhe=>?_⟩;have:=g.yU (Lw o.shape).2.1;obtain⟨h3,_⟩:=g.some' he;rw[g.eq,this,h3,he];exact⟨rfl,rfl⟩
end
theorem iZ(c:Nat)(h1:1<=c):∀(l:List Int) (x:List Int32),(∀m∈l,1<=m)->x.length=l.sum.toNat*c->∀(k:Nat) (hk:k<l.length) (hk':k<(It c x l).length),(It c x l)[k].length=l[k].toNat*c
 |[],x,_,_=>λk hk=>absurd hk (Bgp _)
 |m::l,x,hm,hx=>by
  have hm1:=hm m Ay0;have hl:0<=l.sum:=by
   have:=TI (l:=l) (λy hy=>by have:=hm y (Aq1 _ hy);omega) l.length;rw[Aye]at this;exact this
  rw[Bdn,show(m+l.sum).toNat=m.toNat+l.sum.toNat by omega,Ana]at hx;intro k hk hk';cases k with
  |zero=>simp only[It,List.getElem_cons_zero,Ah9];omega
  |succ k=>
   simp only[It,List.getElem_cons_succ];exact iZ c h1 l (x.drop (m.toNat*c)) (λm hm'=>hm m (Aq1 _ hm')) (by rw[Aky];omega) k (by simpa using hk) _
structure FileOf (c w r n:Nat) (x:List Int32) (p:LB) (T:Nat) (fs:List LB) (z b:LB):Prop where
 clip:ClipOk c w r n x
 pass:p.length<=64
 front:Bo b=((T:Int),0)
 le:b.length<=100000
 lens:Cb fs=Cb (Pk c w r n x p)
 form:b.drop T=MO (Mp p) c w r n++(oM p++(fS (Cb (Pk c w r n x p))++(fs.flatten++z)))
def CZ(T:Nat)(p:LB)(K:Nat):Nat:=T+22+(if Mp p=2 then 8 else 0)+4*K+4
section
variable {c w r n:Nat} {x:List Int32} {p:LB} {T:Nat} {fs:List LB} {z b:LB} (h:FileOf c w r n x p T fs z b)
include h
theorem FileOf.cnt:fs.length=(Pk c w r n x p).length:=by
 have:=congrArg List.length h.lens;rw[Hl,Hl]at this;exact this
theorem FileOf.Gi:Opn b p (Mp p) c w r n (CZ T p fs.length) (Cb fs):=by
 have hc:=h.clip;have hl:(Cb fs).length=(Aj (Ak r) n).length:=by rw[Hl,h.cnt];exact bP p
 have ht:Sy (Cb fs)=true:=by rw[h.lens];exact Afk hc p
 have hd:=h.form;rw[<-h.lens]at hd;have:=Aqq (z:=fs.flatten++z) h.pass rfl (hc.shape _ (Agk p)) hc.fit h.front h.le hd hl ht;rw[Hl]at this;exact this
theorem FileOf.Avy:b.drop (CZ T p fs.length)=fs.flatten++z:=by
 have hd:=h.form;rw[<-h.lens]at hd;have e:CZ T p fs.length=T+(22+((if Mp p=2 then 8 else 0)+(4*fs.length+4))):=by unfold CZ;omega
 have e2:4*fs.length+4=(fS (Cb fs)).length:=by rw[fT,Hl]
 rw[e,<-Bjo,hd,<-Bjo]
 conv=>lhs;rw[<-RD (Mp p) c w r n,Bmd,<-Bjo,<-gE p,Bmd,e2,Bmd]
theorem FileOf.mom{k:Nat}(hk:k<fs.length):∃(m:Nat) (hk':k<(BC c r n x).length),Ap (Aj (Ak r) n) (k:Int)=some (m:Int)/\1<=m/\m<=4000/c/\ ((BC c r n x)[k]).length=m*c/\inR (w:Int) (BC c r n x)[k]/\ (Pk c w r n x p)[k]'(by rw[<-h.cnt];exact hk)=Re (w:Int) c (Kf p) (BC c r n x)[k]:=by
 have hc:=h.clip;have hlen:fs.length=(Aj (Ak r) n).length:=by rw[h.cnt];exact bP p
 have hkf:k<(Aj (Ak r) n).length:=by omega
 have hk':k<(BC c r n x).length:=by rw[pC];exact hkf
 have hm1:=Vl (Du r) hc.cnt.1 _ (Ane hkf);obtain⟨m,hm⟩:=Anc (show 0<= (Aj (Ak r) n)[k] by omega);have hg:=iZ c hc.ch.1 _ x (Vl (Du r) hc.cnt.1) (by rw[hc.sum,hc.len,Ah2]) k hkf hk';rw[hm,Ah2]at hg;have hmem:=iE hc _ (Ane hk');have hx:=kV c hc.ch.1 _ x (Vl (Du r) hc.cnt.1) (by rw[hc.sum,hc.len,Ah2]) _ (Ane hk');have hg':((BC c r n x)[k]).length=m*c:=hg;refine⟨m,hk',by rw[Bm hkf,hm],by omega,?_,hg',hmem.2.2.2,?_⟩
 ·have h1:=hx.2.1;have h2:m*c<=n*c:=by rw[<-hg',<-hc.len];exact h1
  have h3:m<=n:=Nat.le_of_mul_le_mul_right h2 hc.ch.1;exact Nat.le_trans h3 hc.cnt.2
 ·simp only[Pk,Bmh]
theorem FileOf.Aib{k:Nat}(hk:k<fs.length)(he:fs[k]=(Pk c w r n x p)[k]'(by rw[<-h.cnt];exact hk)):
  Ii b p (Mp p) c w r n (CZ T p fs.length) (Cb fs) k=(Cv (w:Int) ((BC c r n x).getD k []),0)/\smF w (Ii b p (Mp p) c w r n (CZ T p fs.length) (Cb fs) k)=(BC c r n x).getD k []:=by
 have hc:=h.clip;obtain⟨m,hk',h1,h2,h3,h4,h5,h6⟩:=h.mom hk;have hd:=(Ase hc.bits (Kq p) hc.ch.1 hc.ch.2 h2 h3 h4 h5).1;have hg:=Bhs h.Gi h.Avy hk h1 (by rw[he,h6];exact hd);have e:(BC c r n x).getD k []=(BC c r n x)[k]:=by rw[List.getD_eq_getElem?_getD,List.getElem?_eq_getElem hk'];rfl
 rw[e];exact hg.2 rfl
theorem FileOf.beh:eJ b (CZ T p fs.length) (Cb fs)=(Qz z).2:=Ax1 h.Avy
end
theorem gX{c w r n:Nat}{x:List Int32}(h:ClipOk c w r n x){p:LB}(hp:p.length<=64):FileOf c w r n x p 0 (Pk c w r n x p) [] (Ff c w r n x p):=by
 refine⟨h,hp,Abr ?_,by have:=Abd h p;omega,rfl,by rw[Aq7];rfl⟩;rw[Ff,HG];rfl
theorem Af9:∀(ys:List (List Int32)) (G:Nat->List Int32) (k:Nat),(∀i,i<ys.length->G (k+i)=ys.getD i [])->Ru G ys.length k=ys.flatten
 |[],G,k,_=>rfl
 |y::ys,G,k,h=>by
  have h0:=h 0 (by simp);have ih:=Af9 ys G (k+1) (λi hi=>by have:=h (i+1) (by simp;omega);rw[show k+1+i=k+(i+1) by omega,this];simp);rw[Anf,Ru,ih,Bkr,show k=k+0 from rfl,h0];rfl
theorem yF{l:List Int}(h:∀x∈l,0<=x){i j:Nat}(hij:i<=j):(l.take i).sum<= (l.take j).sum:=by
 obtain⟨d,rfl⟩:=Bn4 hij;rw[List.take_add,Bof];have:=TI (l:=l.drop i) (λx hx=>h x (Bl6 hx)) d;omega
theorem Avc(fs:List LB):∀x∈Cb fs,0<=x:=by
 intro x hx;rw[Cb,List.mem_map]at hx;obtain⟨f,_,rfl⟩:=hx;omega
section
variable {c w r n:Nat} {x:List Int32} (h:ClipOk c w r n x)
include h
theorem Azp{k:Nat}(hk:k<(BC c r n x).length)(hk':k<(Aj (Ak r) n).length):((BC c r n x)[k]).length=((Aj (Ak r) n)[k]).toNat*c:=
 iZ c h.ch.1 _ x (Vl (Du r) h.cnt.1) (by rw[h.sum,h.len,Ah2]) k hk' hk
theorem uI:∀K:Nat,K<= (BC c r n x).length-> ((BC c r n x).take K).flatten.length=((Aj (Ak r) n).take K).sum.toNat*c
 |0,_=>by simp
 |K+1,hK=>by
  have hl:=pC (c:=c) (r:=r) (n:=n) (x:=x);have hk':K<(Aj (Ak r) n).length:=by omega
  have h1:=Vl (Du r) h.cnt.1 _ (Ane hk');have h2:=TI (l:=Aj (Ak r) n) (λm hm=>by have:=Vl (Du r) h.cnt.1 m hm;omega) K;rw[Ij (show K<(BC c r n x).length by omega),Blg,Abt,uI K (by omega),Ij hk',Bof,List.sum_singleton,List.flatten_singleton,Azp h (by omega) hk',<-Ana];congr 1;omega
end
theorem Aje{α:Type}(G H:Nat->List α):∀(j k:Nat),(∀i,k<=i->i<k+j->G i=H i)->Ru G j k=Ru H j k
 |0,k,_=>rfl
 |j+1,k,h=>by rw[Ru,Ru,h k (by omega) (by omega),Aje G H j (k+1) (λi h1 h2=>h i (by omega) (by omega))]
theorem zZ{t z:LB}{i:Nat}(h:i<t.length):Sn (t++z) i=Sn t i:=by
 rw[Sn,Sn,List.getD_eq_getElem?_getD,List.getD_eq_getElem?_getD,List.getElem?_append_left h]
theorem rU(t:LB)(a i:Nat):Sn (t.drop a) i=Sn t (a+i):=by
 rw[Sn,Sn,List.getD_eq_getElem?_getD,List.getD_eq_getElem?_getD,List.getElem?_drop]
theorem Bie{w:Nat}(hw:Bk (w:Int)){t z:LB}{a:Nat}(h:a+wB (w:Int)<=t.length):sx (wB (w:Int)) (t++z) a=sx (wB (w:Int)) t a:=by
 rcases hw with hw|hw|hw
 ·rw[hw]at h⊢;have e:wB 8=1:=rfl;rw[e]at h⊢;rw[sx,sx,Aas rfl,Aas rfl,zZ (by omega)]
 ·rw[hw]at h⊢;have e:wB 16=2:=rfl;rw[e]at h⊢;rw[sx2,sx2,zZ (by omega),zZ (by omega)]
 ·rw[hw]at h⊢;have e:wB 24=3:=rfl;rw[e]at h⊢;rw[sx3,sx3,zZ (by omega),zZ (by omega),zZ (by omega)]
theorem Be3{w:Nat}(hw:Bk (w:Int))(t:LB)(a b:Nat):sx (wB (w:Int)) (t.drop a) b=sx (wB (w:Int)) t (a+b):=by
 rcases hw with hw|hw|hw
 ·rw[hw,show wB 8=1 from rfl,sx,sx,Aas rfl,Aas rfl,rU]
 ·rw[hw,show wB 16=2 from rfl,sx2,sx2,rU,rU];rfl
 ·rw[hw,show wB 24=3 from rfl,sx3,sx3,rU,rU,rU];rfl
theorem At9{w:Nat}(hw:Bk (w:Int)){t z:LB}{m:Nat}(h:m*wB (w:Int)<=t.length):mE (wB (w:Int)) m (t++z)=mE (wB (w:Int)) m t:=by
 rw[mE,mE];apply Bmu;intro x hx;have hx:=List.mem_range.1 hx;have h2:(x+1)*wB (w:Int)<=m*wB (w:Int):=Aeb _ hx;rw[Ana,Bdl]at h2;rw[Bie hw (by omega)]
theorem Bf3{w:Nat}(hw:Bk (w:Int))(t:LB)(m j:Nat):mE (wB (w:Int)) (m+j) t=mE (wB (w:Int)) m t++mE (wB (w:Int)) j (t.drop (m*wB (w:Int))):=by
 rw[mE,mE,mE,List.range_add,Bno,List.map_map];congr 1;apply Bmu;intro x hx
 show Int32.ofInt (sx (wB (w:Int)) t ((m+x)*wB (w:Int)))=_;rw[Be3 hw,Ana]
theorem Aza{w:Nat}(hw:Bk (w:Int))(t:LB)(a:Nat): -(hB (w:Int))<=sx (wB (w:Int)) t a/\sx (wB (w:Int)) t a<hB (w:Int):=by
 have b0:=lZ t a;have b1:=lZ t (a+1);have b2:=lZ t (a+2);rcases hw with hw|hw|hw
 ·rw[hw,show wB 8=1 from rfl,show hB 8=128 from rfl,sx,Aas rfl];omega
 ·rw[hw,show wB 16=2 from rfl,show hB 16=32768 from rfl,sx2];split<;>omega
 ·rw[hw,show wB 24=3 from rfl,show hB 24=8388608 from rfl,sx3];split<;>omega
theorem Aus{w:Nat}(hw:Bk (w:Int))(m:Nat)(t:LB):inR (w:Int) (mE (wB (w:Int)) m t):=by
 intro x hx;rw[mE,List.mem_map]at hx;obtain⟨k,_,rfl⟩:=hx;have h:=Aza hw t (k*wB (w:Int));have hh:=UQ (w:Int);rw[iV (by omega) (by omega)];exact h
theorem Akh(t:LB)(i:Nat)(z:Int)(h:z %256=(Sn t i:Int)):u8 z=t.getD i 0:=by
 apply UInt8.toNat_inj.1;rw[vG,h,Ah2];rfl
theorem gN{t:LB}{i:Nat}(h:i<t.length):t.take (i+1)=t.take i++[t.getD i 0]:=by
 rw[Ij h,List.getD_eq_getElem?_getD,List.getElem?_eq_getElem h];rfl
theorem Ajw{w:Nat}(hw:Bk (w:Int))(t:LB):∀m:Nat,m*wB (w:Int)<=t.length->Cv (w:Int) (mE (wB (w:Int)) m t)=t.take (m*wB (w:Int))
 |0,_=>by simp[mE,Cv]
 |m+1,h=>by
  rw[Ana,Bdl]at h;have ih:=Ajw hw t m (by omega);have hr:=Aza hw t (m*wB (w:Int));have hh:=UQ (w:Int);have hone:Cv (w:Int) [Int32.ofInt (sx (wB (w:Int)) t (m*wB (w:Int)))]=FZ (w:Int) (sx (wB (w:Int)) t (m*wB (w:Int))):=by
   rw[Cv,Boh,List.flatMap_nil,Aq7,iV (by omega) (by omega)]
  rw[Apm,jR,ih,hone,Ana,Bdl];generalize m*wB (w:Int)=a at*
  have b0:=lZ t a;have b1:=lZ t (a+1);have b2:=lZ t (a+2);rcases hw with hw|hw|hw
  ·rw[hw]at h⊢;have e:wB 8=1:=rfl;rw[e]at h⊢;rw[gN (by omega),FZ,Aas rfl,Akh t a _ (by rw[sx,Aas rfl];omega)]
  ·rw[hw]at h⊢;have e:wB 16=2:=rfl;rw[e]at h⊢;rw[show a+2=a+1+1 from rfl,gN (by omega),gN (by omega),FZ,Aaf (by decide),Aas rfl,Akh t a _ (by rw[sx2];split<;>omega),Akh t (a+1) _ (by rw[sx2];split<;>omega)];simp
  ·rw[hw]at h⊢;have e:wB 24=3:=rfl;rw[e]at h⊢;rw[show a+3=a+1+1+1 from rfl,gN (by omega),gN (by omega),gN (by omega),FZ,Aaf (by decide),Aaf (by decide),Akh t a _ (by rw[sx3];split<;>omega),Akh t (a+1) _ (by rw[sx3];split<;>omega),Akh t (a+1+1) _ (by show _=(Sn t (a+2):Int);rw[sx3];split<;>omega)];simp
theorem sQ(c L:Nat):∀(k:Nat) (x y:List Int32),k*(L*c)<=x.length->It c (x++y) (List.replicate k (L:Int))=It c x (List.replicate k (L:Int))
 |0,x,y,_=>rfl
 |k+1,x,y,h=>by
  rw[Ana,Bdl]at h;rw[Bho,It,It,Ah2,Bg8 (by omega),Ayz (by omega),sQ c L k _ y (by rw[Aky];omega)]
theorem zV(c:Nat):∀(l m:List Int) (x:List Int32),(∀z∈l,0<=z)->It c x (l++m)=It c x l++It c (x.drop (l.sum.toNat*c)) m
 |[],m,x,_=>by simp[It]
 |z::l,m,x,h=>by
  have hz:=h z Ay0;have hl:0<=l.sum:=Ams λy hy=>h y (Aq1 _ hy);rw[Blm,It,It,zV c l m _ (λy hy=>h y (Aq1 _ hy)),Blm,Bjo,Bdn,show(z+l.sum).toNat=z.toNat+l.sum.toNat by omega,Ana]
theorem Bb8(k L:Nat):∀z∈List.replicate k (L:Int),0<=z:=λz hz=>by rw[(List.mem_replicate.1 hz).2];omega
theorem Aga(k L c:Nat):(List.replicate k (L:Int)).sum.toNat*c=k*(L*c):=by rw[Alr,Ah2,Bc9]
theorem Ar0(c L k:Nat)(x:List Int32)(h:x.length=(k+1)*(L*c)):It c x (List.replicate (k+1) (L:Int))=It c x (List.replicate k (L:Int))++[x.drop (k*(L*c))]:=by
 rw[List.replicate_succ',zV c _ _ _ (Bb8 k L),Aga,It,It,Ah2,Aof (by rw[Aky,h,Ana];omega)]
structure EncOk (c w r:Nat) (p:LB):Prop where
 ch:1<=c/\c<=6
 bits:Bk (w:Int)
 rate:1<=r/\r<=1048576
 pass:p.length<=64
def wN(c w:Nat):Nat:=c*wB (w:Int)
def nE(c w:Nat)(t:LB):Nat:=t.length/wN c w
def XE(c w:Nat)(t:LB):LX:=mE (wB (w:Int)) (nE c w t*c) t
def RE(c w:Nat)(t:LB):LB:=t.drop (nE c w t*wN c w)
def kE(c w r:Nat)(t:LB):Nat:=nE c w t/Ak r
def SE(c w r:Nat)(t:LB):LX:=(XE c w t).drop (kE c w r t*(Ak r*c))
def FE(c w r:Nat)(p t:LB):List LB:=(It c (XE c w t) (List.replicate (kE c w r t) (Ak r:Int))).map (Re (w:Int) c (Kf p))
def CA(c r n:Nat):Prop:=n*c<=4000/\ (n=0\/ (n-1)/Ak r+1<=1000)
instance(c r n:Nat):Decidable (CA c r n):=by unfold CA;exact inferInstance
theorem CA.mono{c r n m:Nat}(h:CA c r n)(hm:m<=n):CA c r m:=by
 obtain⟨h1,h2⟩:=h;have h3:=Aeb c hm;have h4:(m-1)/Ak r<= (n-1)/Ak r:=Nat.div_le_div_right (by omega);refine⟨by omega,?_⟩;omega
section
variable {c w r:Nat} {p:LB} (h:EncOk c w r p) (t:LB)
include h
theorem Ad6:1<=wN c w/\wN c w<=18:=by
 have h1:=zK (w:Int);have h2:=h.ch;have h3:=Bn6 (show 0<c by omega) (show 0<wB (w:Int) by omega);have h4:c*wB (w:Int)<=6*3:=Bds h2.2 h1.2;unfold wN;omega
theorem Avq:HS (c:Int) (w:Int)=some (wN c w:Int):=by
 have h2:=h.ch;have hw3:w=8\/w=16\/w=24:=by have:=h.bits;unfold Bk at this;omega
 rcases hw3 with rfl|rfl|rfl
 ·show some (Ca (Bg (c:Int) (8:Int)) 8)=_;rw[Fc (by omega) (by omega),show(c:Int)*8=((c*8:Nat):Int) by omega,show(8:Int)=((8:Nat):Int)from rfl,ZN (by omega),wN,show wB ((8:Nat):Int)=1 from rfl];congr 2;omega
 ·show some (Ca (Bg (c:Int) (16:Int)) 8)=_;rw[Fc (by omega) (by omega),show(c:Int)*16=((c*16:Nat):Int) by omega,show(8:Int)=((8:Nat):Int)from rfl,ZN (by omega),wN,show wB ((16:Nat):Int)=2 from rfl];congr 2;omega
 ·show some (Ca (Bg (c:Int) (24:Int)) 8)=_;rw[Fc (by omega) (by omega),show(c:Int)*24=((c*24:Nat):Int) by omega,show(8:Int)=((8:Nat):Int)from rfl,ZN (by omega),wN,show wB ((24:Nat):Int)=3 from rfl];congr 2;omega
theorem Ako:t.length=nE c w t*wN c w+(RE c w t).length/\ (RE c w t).length<wN c w:=by
 have hs:=Ad6 h;have h1:=Bns t.length (wN c w);have h2:=Bj3 t.length (show 0<wN c w by omega);rw[Asu]at h1;have e:(RE c w t).length=t.length-nE c w t*wN c w:=by rw[RE,Aky]
 have e2:nE c w t*wN c w=t.length/wN c w*wN c w:=rfl;omega
omit h in
theorem uX:(XE c w t).length=nE c w t*c:=yW _ _ _
theorem Bbp:Cv (w:Int) (XE c w t)++RE c w t=t:=by
 have h1:=Ako h t;have e:nE c w t*c*wB (w:Int)=nE c w t*wN c w:=by rw[wN,Bc9]
 rw[XE,Ajw h.bits t _ (by rw[e];omega),e,RE,Ayx]
theorem Amu:inR (w:Int) (XE c w t):=Aus h.bits _ _
theorem Aip:nE c w t=kE c w r t*Ak r+nE c w t %Ak r/\nE c w t %Ak r<Ak r:=by
 have _:=h;have hp:=Du r;have h1:=Bns (nE c w t) (Ak r);rw[Asu]at h1;exact⟨h1.symm,Bj3 _ (by omega)⟩
theorem vR:(SE c w r t).length=nE c w t %Ak r*c:=by
 have h1:=(Aip h t).1;rw[SE,Aky,uX]
 conv=>lhs;rw[h1]
 rw[Ana,<-Bc9,Bi1]
omit h in
theorem Ago:(FE c w r p t).length=kE c w r t:=by rw[FE,List.length_map,ZJ,Ard]
theorem Bgy(b:UInt8)(hl:(RE c w t).length+1<wN c w):nE c w (t++[b])=nE c w t/\XE c w (t++[b])=XE c w t/\RE c w (t++[b])=RE c w t++[b]:=by
 have h1:=Ako h t;have hs:=Ad6 h;have hn:nE c w (t++[b])=nE c w t:=by
  rw[nE,Abt,Bi7];exact Bmb (by omega) (by rw[Ana,Bdl];omega)
 refine⟨hn,?_,?_⟩
 ·rw[XE,hn,XE];exact At9 h.bits (by
   have e:nE c w t*c*wB (w:Int)=nE c w t*wN c w:=by rw[wN,Bc9]
   rw[e];omega)
 ·rw[RE,hn,RE,Ayz (by omega)]
theorem Bgw(b:UInt8)(hl:¬(RE c w t).length+1<wN c w):(RE c w t).length+1=wN c w/\nE c w (t++[b])=nE c w t+1/\XE c w (t++[b])=XE c w t++mE (wB (w:Int)) c (RE c w t++[b])/\RE c w (t++[b])=[]:=by
 have h1:=Ako h t;have hs:=Ad6 h;have hn:nE c w (t++[b])=nE c w t+1:=by
  rw[nE,Abt,Bi7];exact Bmb (by rw[Ana,Bdl];omega) (by rw[Ana,Ana,Bdl];omega)
 have e:nE c w t*c*wB (w:Int)=nE c w t*wN c w:=by rw[wN,Bc9]
 refine⟨by omega,hn,?_,?_⟩
 ·rw[XE,hn,Ana,Bdl,Bf3 h.bits,At9 h.bits (by rw[e];omega),e,Ayz (by omega)];rfl
 ·rw[RE,hn,Bj1];rw[Abt,Bi7,Ana,Bdl];omega
theorem Amx:kE c w r t*(Ak r*c)<= (XE c w t).length:=by
 have h1:=(Aip h t).1;rw[uX]
 conv=>rhs;rw[h1]
 rw[Ana,<-Bc9];omega
theorem Bko{b:UInt8}(hl:(RE c w t).length+1<wN c w):kE c w r (t++[b])=kE c w r t/\SE c w r (t++[b])=SE c w r t/\FE c w r p (t++[b])=FE c w r p t:=by
 obtain⟨h1,h2,h3⟩:=Bgy h t b hl;have hk:kE c w r (t++[b])=kE c w r t:=by rw[kE,h1,kE]
 exact⟨hk,by rw[SE,hk,h2,SE],by rw[FE,hk,h2,FE]⟩
theorem Bkz{b:UInt8}(hl:¬(RE c w t).length+1<wN c w):
  ((SE c w r t++mE (wB (w:Int)) c (RE c w t++[b])).length<Ak r*c->kE c w r (t++[b])=kE c w r t/\SE c w r (t++[b])=SE c w r t++mE (wB (w:Int)) c (RE c w t++[b])/\FE c w r p (t++[b])=FE c w r p t)/\
  (¬(SE c w r t++mE (wB (w:Int)) c (RE c w t++[b])).length<Ak r*c-> (SE c w r t++mE (wB (w:Int)) c (RE c w t++[b])).length=Ak r*c/\kE c w r (t++[b])=kE c w r t+1/\SE c w r (t++[b])=[]/\FE c w r p (t++[b])=FE c w r p t++[Re (w:Int) c (Kf p) (SE c w r t++mE (wB (w:Int)) c (RE c w t++[b]))]):=by
 obtain⟨_,h1,h2,h3⟩:=Bgw h t b hl;obtain⟨d1,d2⟩:=Aip h t;have hsl:=vR h t;have hc:=h.ch;have hp:=Du r;have hdk:=Amx h t;have hlen:(SE c w r t++mE (wB (w:Int)) c (RE c w t++[b])).length=(nE c w t %Ak r+1)*c:=by rw[Abt,hsl,yW,Ana,Bdl]
 rw[hlen];constructor
 ·intro hlt;have hlt2:nE c w t %Ak r+1<Ak r:=Nat.lt_of_mul_lt_mul_right hlt;have hk:kE c w r (t++[b])=kE c w r t:=by
   rw[kE,h1];exact Bmb (by omega) (by rw[Ana,Bdl];omega)
  refine⟨hk,?_,?_⟩
  ·rw[SE,hk,h2,Ayz hdk,SE]
  ·rw[FE,hk,h2,sQ c (Ak r) _ _ _ hdk,FE]
 ·intro hge;have Bpt:Ak r<=nE c w t %Ak r+1:=by
   refine Nat.le_of_not_lt λhh=>hge ?_;exact Nat.mul_lt_mul_of_pos_right hh hc.1
  have heq:nE c w t %Ak r+1=Ak r:=by omega
  have hk:kE c w r (t++[b])=kE c w r t+1:=by
   rw[kE,h1];exact Bmb (by rw[Ana,Bdl];omega) (by rw[Ana,Ana,Bdl];omega)
  have hXl:(XE c w (t++[b])).length=(kE c w r t+1)*(Ak r*c):=by
   rw[uX,h1,<-Bc9];congr 1;rw[Ana,Bdl];omega
  refine⟨by rw[heq],hk,?_,?_⟩
  ·rw[SE,hk,<-hXl,Blu]
  ·rw[FE,hk,Ar0 c (Ak r) _ _ hXl,Bno,h2,sQ c (Ak r) _ _ _ hdk,Ayz hdk,FE];rfl
theorem Bcv(hR:CA c r (nE c w t)):∀f∈FE c w r p t,5<=f.length/\f.length<= (81*(Ak r*c)+7)/8+4:=by
 intro f hf;obtain⟨y,hy,rfl⟩:=List.mem_map.1 hf;have hx:(XE c w t).take (kE c w r t*(Ak r*c))++(XE c w t).drop (kE c w r t*(Ak r*c))=XE c w t:=Ayx _ _;have hdk:=Amx h t;have hpr:=sQ c (Ak r) (kE c w r t) ((XE c w t).take (kE c w r t*(Ak r*c))) ((XE c w t).drop (kE c w r t*(Ak r*c))) (by rw[Ah9];omega);rw[hx]at hpr;rw[hpr]at hy;have hp:=Du r;obtain⟨k,hk,hk2⟩:=List.getElem_of_mem hy;have hl1:∀z∈List.replicate (kE c w r t) (Ak r:Int),1<=z:=λz hz=>by rw[(List.mem_replicate.1 hz).2];omega
 have hlx:((XE c w t).take (kE c w r t*(Ak r*c))).length=(List.replicate (kE c w r t) (Ak r:Int)).sum.toNat*c:=by rw[Aga,Ah9];omega
 have hg:=iZ c h.ch.1 _ _ hl1 hlx k (by rw[ZJ]at hk;exact hk) hk;rw[hk2,List.getElem_replicate,Ah2]at hg;obtain⟨a1,a2,_,_⟩:=kV c h.ch.1 _ _ hl1 hlx y hy;have hle:y.length<=4000:=by
  have:=hR.1;have h2:((XE c w t).take (kE c w r t*(Ak r*c))).length<= (XE c w t).length:=by rw[Ah9];omega
  rw[uX]at h2;omega
 have h5:=yX (w:Int) c (Kf p) y a1 hle;have he:=fQ c (Mw (w:Int) c (Kf p) y) y.length;refine⟨h5.1,?_⟩;rw[Re,Abt,Cf,WU,Xf,<-hg];omega
omit h in
theorem Aj2(b:List LB)(f a M:Int)(hM:Ad (Ca (Ad (Bg (Bg 81 f) a) 7) 8) 4=M)(hb:b.length<=100000)(hm:∀y∈b,5<=y.length/\ (y.length:Int)<=M):∀(j i q:Nat),i+j=b.length->j<q->Ky b f a q (i:Int)=some true
 |j,i,0,_,h=>absurd h (Bgp _)
 |0,i,q+1,hi,_=>by
  rw[Ky,Tu,Aaf (by rw[Ae,Ac];simp;omega)];rfl
 |j+1,i,q+1,hi,hq=>by
  have ih:=Aj2 b f a M hM hb hm j (i+1) q (by omega) (by omega);have hy:=hm b[i] (Ane _);have hi1:Ad (i:Int) 1=((i+1:Nat):Int):=by rw[Ah (by omega) (by omega)];omega
  rw[Ky,Tu,Aas (by rw[Ae,Ac];simp;omega),Bm (by omega),Aa,CK,DI,hM,Aaf (by simp[Ae,As,Ac];omega),DF,VH,hi1];exact ih
theorem Abb:DU (c:Int) (w:Int) (r:Int) p=some ((Ak r:Int),true):=by
 have hp:=h.pass;rw[DU,sH h.rate.1 h.rate.2,Aa];simp only;rw[Az3 h.bits h.ch.1 h.ch.2,Aa];simp[Ar,SL,Ac];omega
theorem Aab(hR:CA c r (nE c w t))(p' m' n':LB)(u:Bool)(v k o:Int):Xh (c:Int) k o p' m' (SE c w r t) (FE c w r p t) n' u v (Ak r:Int)=some (nE c w t:Int):=by
 have hc:=h.ch;obtain⟨d1,d2⟩:=Aip h t;have hsl:=vR h t;have hlt:=aW h.rate.2;have hn:nE c w t<=4000:=by
  have:=hR.1;have:nE c w t*1<=nE c w t*c:=Bkl _ hc.1;omega
 have e1:Bg (Ac (FE c w r p t)) (Ak r:Int)=((kE c w r t*Ak r:Nat):Int):=by
  rw[Ac,Ago,Fc (by rw[<-Ara];omega) (by rw[<-Ara];omega),<-Ara]
 have e2:Ca (Ac (SE c w r t)) (c:Int)=((nE c w t %Ak r:Nat):Int):=by
  rw[Ac,hsl,ZN (by
   have:nE c w t %Ak r*c<=nE c w t*c:=Aeb _ (Bn1 _ _);have:=hR.1;omega),Nat.mul_div_cancel _ (by omega)]
 rw[Xh,Bu (by rw[Al];simp;omega),Aa,e1,e2,Ah (by omega) (by omega)];congr 1;omega
theorem Axu(hR:CA c r (nE c w t)):Td (c:Int) (w:Int) (r:Int) p (RE c w t) (SE c w r t) (FE c w r p t) [] false 0=some 0:=by
 have hc:=h.ch;have hw:=h.bits;obtain⟨d1,d2⟩:=Aip h t;have hsl:=vR h t;have htl:=Ako h t;have hlt:=aW h.rate.2;have hp:=Du r;have hfl:=Ago (c:=c) (w:=w) (r:=r) (p:=p) t;have hn4:=hR.1;have hmod:nE c w t %Ak r*c<=nE c w t*c:=Aeb _ (Bn1 _ _);have hn:nE c w t<=4000:=by
  have:nE c w t*1<=nE c w t*c:=Bkl _ hc.1;omega
 have hfr:kE c w r t+(if 0<nE c w t %Ak r then 1 else 0)<=1000:=by
  rcases hR.2 with h0|h0
  ·have:kE c w r t=0:=by rw[kE,h0];exact Nat.zero_div _
   rw[h0,Nat.zero_mod,this];decide
  ·generalize hq:Ak r=L at*
   have hk:kE c w r t=nE c w t/L:=by rw[kE,hq]
   by_cases hz:0<nE c w t %L
   ·rw[Aas hz];have:(nE c w t-1)/L=kE c w r t:=Bmb (by omega) (by rw[Ana,Bdl];omega);omega
   ·rw[Aaf hz];by_cases hk0:kE c w r t=0
    ·omega
    ·obtain⟨k',hk'⟩:∃k',kE c w r t=k'+1:=⟨kE c w r t-1,by omega⟩;rw[hk',Ana,Bdl]at d1;have:(nE c w t-1)/L=k':=Bmb (by omega) (by rw[Ana,Bdl];omega);omega
 have hcnt:=Aab h t hR p (RE c w t) [] false 0 (w:Int) (r:Int);have hin:inR (w:Int) (SE c w r t):=λv hv=>Amu h t v (Bl6 hv);have hwc:Vp (w:Int) (SE c w r t)=some 0:=by rw[lO hw _ (by omega),fI hw (by omega) hin]
 have hroom:∀k:Int,k<=1000->Wk (c:Int) (w:Int) (r:Int) p (RE c w t) (SE c w r t) (FE c w r p t) [] false 0 k (nE c w t:Int)=some true:=by
  intro k hk;rw[Wk,Fc (by rw[<-Ara];omega) (by rw[<-Ara];omega),<-Ara];simp[SL];omega
 have hLc:Ak r*c<=1100000*6:=Bds (by omega) hc.2;have hM:Ad (Ca (Ad (Bg (Bg 81 (Ak r:Int)) (c:Int)) 7) 8) 4=(((81*(Ak r*c)+7)/8+4:Nat):Int):=by
  have e1:Bg 81 (Ak r:Int)=((81*Ak r:Nat):Int):=by rw[Fc (by omega) (by omega)];omega
  have e2:Bg ((81*Ak r:Nat):Int) (c:Int)=((81*(Ak r*c):Nat):Int):=by
   rw[Fc (by rw[<-Ara,Bc9];omega) (by rw[<-Ara,Bc9];omega),<-Ara,Bc9]
  rw[e1,e2,Ah (a:=((81*(Ak r*c):Nat):Int)) (b:=7) (by omega) (by omega),show((81*(Ak r*c):Nat):Int)+7=((81*(Ak r*c)+7:Nat):Int) by omega,show(8:Int)=((8:Nat):Int)from rfl,ZN (by omega),Ah (by omega) (by omega)];omega
 have hloop:=Aj2 (FE c w r p t) (Ak r:Int) (c:Int) _ hM (by omega) (λy hy=>by
  have:=Bcv h t hR y hy;omega) (FE c w r p t).length 0 Au (by omega) (by have:=Aq;omega)
 have Bl5:EG (c:Int) (w:Int) (r:Int) p (RE c w t) (SE c w r t) (FE c w r p t) [] false 0 (Ak r:Int)=some true:=by
  have Bnl:Ca (Ac (SE c w r t)) (c:Int)=((nE c w t %Ak r:Nat):Int):=by
   rw[Ac,hsl,ZN (by omega),Nat.mul_div_cancel _ (by omega)]
  have Bnm:Gc (Ac (SE c w r t)) (c:Int)=0:=by rw[Ac,hsl,TU,Bhj];rfl
  have hkk:kE c w r t<=1000:=by split at hfr<;>omega
  rw[EG,GC,Aaf (by decide),Avq h,Aa,Aaf (by rw[Ds,Ac];simp;omega),Bu (by rw[Al];simp;omega),Aa,Bnm,Aaf (by decide),Aa,Bnl,Aaf (by simp[Ds,As,Ac,hfl];omega),CV,CH,hwc,Aa,Aaf (by decide)];by_cases hz:0<nE c w t %Ak r
  ·rw[Aas hz]at hfr;have hpos:=Bn6 hz (show 0<c by omega);rw[Aas (by rw[As,Ac];simp;omega),Ug,Ub,hcnt,Aa,Ac,hfl,Ah (by omega) (by omega),hroom _ (by omega),Aa,Aaf (by decide),Ua,Tz,Ue];exact hloop
  ·have h0:nE c w t %Ak r=0:=by omega
   rw[h0,Bol]at hsl;rw[Aaf (by rw[As,Ac];simp only[Acw];omega),Ug,Ub,hcnt,Aa,Ac,hfl,hroom _ (by omega),Aa,Aaf (by decide),Ua,Tz,Ue];exact hloop
 rw[Td,Abb h,Aa];simp only;rw[Aaf (by decide),Aaf (by decide),Aaf (by decide),Bl5,Aa,Aaf (by decide)]
end
theorem tR(a:List LB)(ha:∀y∈a,y.length<=17179869184)(w:List LB)(hw:w.length=a.length)(ha2:a.length<=100000)(b f g:Int)(h:LB)(k:Bool)(m:Int)(n:LB)(o:LX)(p:LB):∀(j i q:Nat),i+j=a.length->j<q->Ro w a b f g h k m n o p q (i:Int) a=some (b,f,g,h,n,o,a,p,k,m)
 |j,i,0,_,h=>absurd h (Bgp _)
 |0,i,q+1,hi,_=>by
  have hc:VR w a=a:=by rw[VR,hw,Aye,Bj1 (by omega),Aq7]
  rw[Ro,EO,hc,Aaf (by rw[Ae,Ac];simp;omega)];rfl
 |j+1,i,q+1,hi,hq=>by
  have ih:=tR a ha w hw ha2 b f g h k m n o p j (i+1) q (by omega) (by omega);have hc:VR w a=a:=by rw[VR,hw,Aye,Bj1 (by omega),Aq7]
  have hi1:Ad (i:Int) 1=((i+1:Nat):Int):=by rw[Ah (by omega) (by omega)];omega
  have hy:=ha a[i] (Ane _);rw[Ro,EO,hc,Aas (by rw[Ae,Ac];simp;omega),Bm (by omega),Aa,Aa,Bl,Bd (by simpa using hy),Aa,Aa,Aa,Arc,Wf _ (by omega),Aa,List.set_getElem_self,hi1];exact ih
theorem Aqt{a:List LB}(ha:∀y∈a,y.length<=17179869184)(ha2:a.length<=100000)(b f g:Int)(h:LB){x:LB}{s:LX}{z:LB}(hx:x.length<=17179869184)(hs:s.length<=17179869184)(hz:z.length<=17179869184)(k:Bool)(m:Int):KO b f g h x s a z k m=some (b,f,g,h,x,s,a,z,k,m):=by
 have hl:=tR a ha (List.replicate a.length []) (by rw[Ard]) ha2 b f g h k m x s z a.length 0 Au (by omega) (by have:=Aq;omega);have hc:VR (List.replicate a.length []) a=a:=by rw[VR,Ard,Aye,Bj1 (by rw[Ard];omega),Aq7]
 rw[KO,TR,Bl,Bd (by simpa using hx),Aa,Aa,Dj,Bd (by simpa using hs),Aa,Aa,Bl,Bd (by simpa using hz),Aa,Aa,UC,VC,uA (by unfold Ac;omega) (by unfold Ac;omega),Aa,Bu (by rw[Ar];simp),Aa];simp only[Arc,Ac,Ah2,hc];exact hl
section
variable {c w r:Nat} {p:LB} (h:EncOk c w r p)
include h
theorem Aki(t:LB)(hR:CA c r (nE c w t)):EB (c:Int) (w:Int) (r:Int) p (RE c w t) (SE c w r t) (FE c w r p t) [] false 0=some ((c:Int),(w:Int),(r:Int),p,RE c w t,SE c w r t,FE c w r p t,[],false,0,(Ak r:Int),0):=by
 have h1:=Ako h t;have hs:=Ad6 h;have hsl:=vR h t;have hfl:=Ago (c:=c) (w:=w) (r:=r) (p:=p) t;have hn4:=hR.1;have hmod:nE c w t %Ak r*c<=nE c w t*c:=Aeb _ (Bn1 _ _);have hn:nE c w t<=4000:=by
  have:nE c w t*1<=nE c w t*c:=Bkl _ h.ch.1;omega
 have hk:kE c w r t<=nE c w t:=Atx _ _;have hlt:=aW h.rate.2;have hLc:Ak r*c<=1100000*6:=Bds (by omega) h.ch.2;have htw:=Aqt (a:=FE c w r p t) (λy hy=>by have:=Bcv h t hR y hy;omega) (by omega) (c:Int) (w:Int) (r:Int) p (x:=RE c w t) (s:=SE c w r t) (z:=[]) (by omega) (by omega) (by simp) false 0;rw[EB,PO,Axu h t hR,Aa,Aaf (by decide),sH h.rate.1 h.rate.2,Aa];simp only;rw[Aaf (by decide),Aaf (by decide),PR,gS,htw,Aa]
abbrev Bmk:=Int×Int×Int×LB×LB×LX×(List LB)×LB×Bool×Int×Int
def Bbu(c w r:Nat)(p t:LB):Bmk:=if CA c r (nE c w t)then((c:Int),(w:Int),(r:Int),p,RE c w t,SE c w r t,FE c w r p t,[],false,0,0)else((c:Int),(w:Int),(r:Int),p,[],[],[],[],false,18,18)
theorem uP(t b:LB)(hb:b.length<=1000000):∀(j u q:Nat) (T:LB),u+j=b.length->j<q->T=t++b.take u->CA c r (nE c w T)->Jk (wN c w:Int) b (c:Int) (w:Int) (r:Int) p false 0 (Ak r:Int) [] q (u:Int) (RE c w T) (SE c w r T) (FE c w r p T)=some (Bbu c w r p (t++b))
 |j,u,0,T,_,h,_,_=>absurd h (Bgp _)
 |0,u,q+1,T,hu,_,hT,hR=>by
  rw[Aof (by omega)]at hT;rw[Jk,BW,Aaf (by rw[Ae,Ac];simp;omega),OU,iC,Bbu,<-hT,Aas hR]
 |j+1,u,q+1,T,hu,hq,hT,hR=>by
  have hc:=h.ch;have hs:=Ad6 h;have hu1:Ad (u:Int) 1=((u+1:Nat):Int):=by rw[Ah (by omega) (by omega)];omega
  have hT':T++[b[u]'(by omega)]=t++b.take (u+1):=by rw[hT,Ij (by omega),Aec]
  have hpre:(T++[b[u]'(by omega)]).length<= (t++b).length:=by rw[hT',Abt,Abt,Ah9];omega
  have hmono:nE c w (T++[b[u]'(by omega)])<=nE c w (t++b):=Nat.div_le_div_right hpre;have hgd:Ap b (u:Int)=some (b[u]'(by omega)):=Bm (by omega);generalize b[u]'(by omega)=d at hT' hpre hmono hgd⊢;have ih:=uP t b hb j (u+1) q (T++[d]) (by omega) (by omega) hT';have htl:=Ako h T;have hsl:=vR h T;have hfl:=Ago (c:=c) (w:=w) (r:=r) (p:=p) T;have hn4:=hR.1;have hmod:nE c w T %Ak r*c<=nE c w T*c:=Aeb _ (Bn1 _ _);have hn:nE c w T<=4000:=by
   have:nE c w T*1<=nE c w T*c:=Bkl _ hc.1;omega
  have hk:kE c w r T<=nE c w T:=Atx _ _;have hlt:=aW h.rate.2;rw[Jk,BW,Aas (by rw[Ae,Ac];simp;omega),hgd,Aa,Bd (by simp;omega),Aa];by_cases hlt1:(RE c w T).length+1<wN c w
  ·obtain⟨m1,m2,m3⟩:=Bgy h T d hlt1;obtain⟨g1,g2,g3⟩:=Bko h T (b:=d) hlt1;rw[m1,m3,g2,g3]at ih;rw[Aas (by rw[Ae,Ac,Abt,Bi7];simp;omega),Pm,BH,hu1];exact ih hR
  ·obtain⟨m0,m1,m2,m3⟩:=Bgw h T d hlt1;obtain⟨g1,g2⟩:=Bkz h T (b:=d) hlt1;have hcnt:=Aab h T hR p (RE c w T++[d]) [] false 0 (w:Int) (r:Int);have hroom:Wk (c:Int) (w:Int) (r:Int) p (RE c w T++[d]) (SE c w r T) (FE c w r p T) [] false 0 (Ad (Ac (FE c w r p T)) 1) (Ad (nE c w T:Int) 1)=some (decide ((kE c w r T:Int)+1<=1000)&&decide ((((nE c w T+1)*c:Nat):Int)<=4000)):=by
    have hle:(nE c w T+1)*c<=4001*6:=Bds (by omega) hc.2;rw[Wk,Ac,hfl,Ah (by omega) (by omega),Ah (by omega) (by omega),show(nE c w T:Int)+1=((nE c w T+1:Nat):Int) by omega,Fc (by rw[<-Ara];omega) (by rw[<-Ara];omega),<-Ara,SL,SL]
   rw[Aaf (by rw[Ae,Ac,Abt,Bi7];simp;omega),hcnt,Aa,hroom,Aa];by_cases hok:kE c w r T+1<=1000/\ (nE c w T+1)*c<=4000
   ·have hR':CA c r (nE c w (T++[d])):=by rw[m1];exact⟨hok.2, .inr (by rw[Nat.add_sub_cancel];exact hok.1)⟩
    have ih:=ih hR';have Bnn:=Al6 (RE c w T++[d]) h.bits (m:=c) (by rw[Abt,Bi7,m0];rfl) (by omega);have hLc:Ak r*c<=1100000*6:=Bds (by omega) hc.2;have hmul:Bg (Ak r:Int) (c:Int)=((Ak r*c:Nat):Int):=by rw[Fc (by rw[<-Ara];omega) (by rw[<-Ara];omega),<-Ara]
    rw[Aaf (by rw[Bju (show(kE c w r T:Int)+1<=1000 by omega),Bju (show(((nE c w T+1)*c:Nat):Int)<=4000 by omega)];decide),OZ,OC,Bnn,Aa];simp only;rw[Aaf (by decide),Bd (by rw[yW];omega),Aa,hmul];by_cases hfull:(SE c w r T++mE (wB (w:Int)) c (RE c w T++[d])).length<Ak r*c
    ·obtain⟨k1,k2,k3⟩:=g1 hfull;rw[m3,k2,k3]at ih;rw[Aas (by rw[Ae,Ac];simp only[Acw];omega),Jm,Vh,Aaf (by decide),Pm,BH,hu1];exact ih
    ·obtain⟨k0,k1,k2,k3⟩:=g2 hfull;rw[m3,k2,k3]at ih;have hXl:Ak r*c<=4000:=by
      have e:=hR'.1;have hlen:(XE c w (T++[d])).length=nE c w (T++[d])*c:=uX (T++[d]);have hdk:=Amx (r:=r) h (T++[d]);rw[k1,Ana,Bdl]at hdk;omega
     have hin:inR (w:Int) (SE c w r T++mE (wB (w:Int)) c (RE c w T++[d])):=by
      intro v hv;rw[List.mem_append]at hv;rcases hv with hv|hv
      ·exact Amu h T v (Bl6 hv)
      ·exact Aus h.bits _ _ v hv
     have hLp:=Bn6 (Du r) hc.1;have henc:=xT (t:=Kf p) (x:=SE c w r T++mE (wB (w:Int)) c (RE c w T++[d])) h.bits (Kq p) hc.1 hc.2 (by omega) (by omega) (by rw[k0];exact Bhj _ _) hin;rw[Aaf (by rw[Ae,Ac];simp only[Acw];omega),XH p h.pass,Aa];simp only;rw[Aaf (by decide),henc,Aa];simp only;rw[Aaf (by decide),Bd (by simp;omega),Aa,PA,ON,Jm,Vh,Aaf (by decide),Pm,BH,hu1];exact ih
   ·have hno:¬CA c r (nE c w (t++b)):=by
     intro hh;have:=hh.mono hmono;rw[m1]at this;obtain⟨z1,z2⟩:=this;apply hok;rw[Nat.add_sub_cancel]at z2;have hkE:kE c w r T=nE c w T/Ak r:=rfl;omega
    rw[Aas (by
     rw[Ayy,Bool.and_eq_false_iff,Bdm,Bdm];omega),Jm,Vh,Aas (by decide),Vy,Aa,Bbu,Aaf hno]
theorem Bb5(t b:LB)(hb:b.length<=1000000)(hR:CA c r (nE c w t)):WI (c:Int) (w:Int) (r:Int) p (RE c w t) (SE c w r t) (FE c w r p t) [] false 0 b=some (Bbu c w r p (t++b)):=by
 have hl:=uP h t b hb b.length 0 Au t (by omega) (by have:=Aq;omega) (by simp) hR;rw[WI,UT,Aki h t hR,Aa];simp only;rw[Aaf (by decide),Avq h,Aa,PC];exact hl
theorem Bej:cI (c:Int) (w:Int) (r:Int) p=some ((c:Int),(w:Int),(r:Int),p,RE c w [],SE c w r [],FE c w r p [],[],false,0,0):=by
 have h0:nE c w []=0:=Nat.zero_div _;have hk:kE c w r []=0:=by rw[kE,h0];exact Nat.zero_div _
 rw[cI,Abb h,Aa];simp only;rw[Aaf (by decide),RE,SE,FE,XE,hk,h0];simp[mE,It]
omit h in
theorem Av6(c r:Nat):CA c r 0:=⟨by omega, .inl rfl⟩
end
theorem Ahh(l:List LB)(hf:l.flatten.length<=1000000)(hl:l.length<=1000000)(v:LB)(hfin:Eu l (l.flatten.length:Int)=some v):∀(j i q:Nat),i+j=l.length->j<q->Cy l q (((l.take i).flatten.length:Nat):Int) (i:Int)=some v
 |j,i,0,_,h=>absurd h (Bgp _)
 |0,i,q+1,hi,_=>by
  rw[Cy,Dx,Aaf (by rw[Ae,Ac];simp;omega),Aof (by omega)];exact hfin
 |j+1,i,q+1,hi,hq=>by
  have ih:=Ahh l hf hl v hfin j (i+1) q (by omega) (by omega);have hi1:Ad (i:Int) 1=((i+1:Nat):Int):=by rw[Ah (by omega) (by omega)];omega
  have hsn:(l.take (i+1)).flatten=(l.take i).flatten++l[i]:=by rw[Ij (by omega),Blg];simp
  have hsp:l.flatten=(l.take (i+1)).flatten++(l.drop (i+1)).flatten:=by rw[<-Blg,Ayx]
  have hle:((l.take i).flatten).length+(l[i]).length<=1000000:=by
   rw[hsp,Abt,hsn,Abt]at hf;omega
  have hadd:Ad (((l.take i).flatten.length:Nat):Int) (Ac l[i])=(((l.take (i+1)).flatten.length:Nat):Int):=by
   rw[Ac,Ah (by omega) (by omega),hsn,Abt];omega
  rw[Cy,Dx,Aas (by rw[Ae,Ac];simp;omega),Bm (by omega),Aa,hadd,Aaf (by rw[Ae];simp only[Acw];omega),hi1];exact ih
theorem Aej(l:List LB)(hf:l.flatten.length<=1000000)(hl:l.length<=1000000):∀(j i q:Nat),i+j=l.length->j<q->Ct l q (i:Int) (l.take i).flatten=some l.flatten
 |j,i,0,_,h=>absurd h (Bgp _)
 |0,i,q+1,hi,_=>by
  rw[Ct,Dq,Aaf (by rw[Ae,Ac];simp;omega),Aof (by omega)];rfl
 |j+1,i,q+1,hi,hq=>by
  have ih:=Aej l hf hl j (i+1) q (by omega) (by omega);have hi1:Ad (i:Int) 1=((i+1:Nat):Int):=by rw[Ah (by omega) (by omega)];omega
  have hsn:(l.take (i+1)).flatten=(l.take i).flatten++l[i]:=by rw[Ij (by omega),Blg];simp
  have hsp:l.flatten=(l.take (i+1)).flatten++(l.drop (i+1)).flatten:=by rw[<-Blg,Ayx]
  have hle:((l.take i).flatten).length+(l[i]).length<=1000000:=by
   rw[hsp,Abt,hsn,Abt]at hf;omega
  rw[Ct,Dq,Aas (by rw[Ae,Ac];simp;omega),Bm (by omega),Aa,Bd (by omega),Aa,hi1,<-hsn];exact ih
theorem Asp(l:List LB)(hf:l.flatten.length<=1000000)(hl:l.length<=1000000):Fe l=some l.flatten:=by
 have h3:Ev l []=some l.flatten:=by
  rw[Ev,Jt,Jq];exact Aej l hf hl l.length 0 Au (by omega) (by have:=Aq;omega)
 have h11:Eu l (l.flatten.length:Int)=some l.flatten:=by
  have z:Ao (0:Int) 0=0:=by decide
  rw[Eu,Ju,Aaf (by rw[Ae];simp only[Acw];omega),Jr,Js,z,Bs (by omega) (by omega),Int.sub_zero];by_cases hp:0<l.flatten.length
  ·rw[Aas (by rw[As];simp only[Acw];omega),show fG (0:Int) 0 0=some ()from rfl,Aa,uA (by omega) (by omega),Aa,Bd (by simp only[Bod,Ard];omega),Aa];rw[show fG (Ac ([]++List.replicate ((l.flatten.length:Nat):Int).toNat (0:UInt8))) 0 0=some () by rw[fG,Bu];simp[Ac],Aa];simp only[bE,Int.sub_self,Int.toNat_zero,Bd5];exact h3
  ·rw[Aaf (by rw[As];simp only[Acw];omega)];exact h3
 have:=Ahh l hf hl _ h11 l.length 0 Au (by omega) (by have:=Aq;omega);exact this
theorem Are{p:LB}(hp:p.length<=64):QL p=some ((Mp p:Int),0):=by
 rw[QL,Aaf (by rw[As,Ac];simp;omega),Mp];by_cases h:p=[]
 ·rw[Aas (by rw[Ar,Ac,h];rfl),Aas h];rfl
 ·have:p.length≠0:=λe=>h (Bg7 e);rw[Aaf (by rw[Ar,Ac,Aue];omega),Aaf h];rfl
theorem Ahz(a:List LB)(ha:a.length<=100000)(f g h:Int)(b k:LB)(m:LX)(n:LB)(o:Bool)(p:Int)(u v:LB)(hfin:Wz f g h b k m a n o p u (Cb a)=some (v,0)):∀(j i q:Nat),i+j=a.length->j<q->Rq a f g h b k m n o p u q (i:Int) (Cb (a.take i))=some (v,0)
 |j,i,0,_,h=>absurd h (Bgp _)
 |0,i,q+1,hi,_=>by
  rw[Rq,ER,Aaf (by rw[Ae,Ac];simp;omega),Aof (by omega)];exact hfin
 |j+1,i,q+1,hi,hq=>by
  have ih:=Ahz a ha f g h b k m n o p u v hfin j (i+1) q (by omega) (by omega);have hi1:Ad (i:Int) 1=((i+1:Nat):Int):=by rw[Ah (by omega) (by omega)];omega
  have hll:(Cb (a.take i)).length=i:=by rw[Hl,Ah9];omega
  have hsn:Cb (a.take i)++[Ac a[i]]=Cb (a.take (i+1)):=by rw[Ij (by omega),Cb,Cb,Bno];rfl
  rw[Rq,ER,Aas (by rw[Ae,Ac];simp;omega),Bm (by omega),Aa,Bd (by simp;omega),Aa,hsn,hi1];exact ih
theorem Aqc{c w r n:Nat}{x:List Int32}(h:ClipOk c w r n x){p:LB}(hp:p.length<=64)(k:LB)(m:LX)(n':LB)(o:Bool)(e:Int):WH (c:Int) (w:Int) (r:Int) p k m (Pk c w r n x p) n' o e (n:Int)=some (Ff c w r n x p,0):=by
 have hn:=Avf h p;have hl:=Abd h p;have hlen:=Aa8 (c:=c) (w:=w) (r:=r) (n:=n) (x:=x) p;have hdl:=gE p;have hfin:Wz (c:Int) (w:Int) (r:Int) p k m (Pk c w r n x p) n' o e (MO (Mp p) c w r n++oM p) (Cb (Pk c w r n x p))=some (Ff c w r n x p,0):=by
  have hh:=RD (Mp p) c w r n;have ht:=fT (Cb (Pk c w r n x p));have hll:=Hl (Pk c w r n x p);rw[Wz,EU,Aqn,Aas (Afk h p),Aa];simp only;rw[Aaf (by decide),Bd (by rw[Abt];omega),Aa,Asp _ (by omega) (by omega),Aa,Bd (by rw[Abt,Abt];omega),Aa];simp[Ff]
 have hlp:=Ahz (Pk c w r n x p) (by omega) (c:Int) (w:Int) (r:Int) p k m n' o e (MO (Mp p) c w r n++oM p) _ hfin (Pk c w r n x p).length 0 Au (by omega) (by have:=Aq;omega);rw[WH,UE,Are hp,Aa];simp only;rw[Aaf (by decide),Alf (h.shape _ (Agk p)) h.fit,Aa];simp only;rw[Aaf (by decide)];by_cases h0:p=[]
 ·have e2:oM p=[]:=by rw[oM,Aas h0]
  rw[e2,Aq7]at hlp;rw[Aaf (by simp[h0]),ES,EF];exact hlp
 ·have e2:oM p=Sm (Vk p).toNat 8:=by rw[oM,Aaf h0]
  rw[e2]at hlp;rw[Aas (by simpa using h0),sC p hp,Aa];simp only;rw[Aaf (by decide),Bd (by rw[RD,Cf];omega),Aa,ES,EF];exact hlp
section
variable {c w r:Nat} {p:LB} (h:EncOk c w r p) (t:LB) (hR:CA c r (nE c w t))
include h hR
theorem Ae7(h1:1<=nE c w t):ClipOk c w r (nE c w t) (XE c w t):=by
 have hc:=h.ch;refine⟨hc,h.bits,h.rate,⟨h1,?_⟩,uX t,?_,Amu h t⟩
 ·rw[Nat.le_div_iff_mul_le (by omega)];exact hR.1
 ·rcases hR.2 with h0|h0
  ·omega
  ·exact h0
omit hR in
theorem Ar7(h1:1<=nE c w t):Pk c w r (nE c w t) (XE c w t) p=FE c w r p t++(if SE c w r t=[]then []else [Re (w:Int) c (Kf p) (SE c w r t)]):=by
 have hc:=h.ch;have hp:=Du r;obtain⟨d1,d2⟩:=Aip h t;have hsl:=vR h t;have key:BC c r (nE c w t) (XE c w t)=It c (XE c w t) (List.replicate (kE c w r t) (Ak r:Int))++(if SE c w r t=[]then []else [SE c w r t]):=by
  by_cases hz:nE c w t %Ak r=0
  ·have hS:SE c w r t=[]:=Bg7 (by rw[hsl,hz,Bol]);rw[Aas hS,Aq7,BC];congr 1;rw[hz,Bip]at d1;have hk1:1<=kE c w r t:=by
    rcases Bm4 (kE c w r t)with h0|h0
    ·rw[h0,Bol]at d1;omega
    ·exact h0
   obtain⟨k',hk'⟩:∃k',kE c w r t=k'+1:=⟨kE c w r t-1,by omega⟩;have hd:(nE c w t-1)/Ak r=k':=by
    rw[hk',Ana,Bdl]at d1;exact Bmb (by omega) (by rw[Ana,Bdl];omega)
   rw[Aj,hd,hk',List.replicate_succ'];congr 2;rw[hk',Ana,Bdl]at d1;omega
  ·have hS:SE c w r t≠ []:=by
    intro e;have:=congrArg List.length e;rw[hsl,Bod]at this;rcases Nat.mul_eq_zero.1 this with h0|h0<;>omega
   have hd:(nE c w t-1)/Ak r=kE c w r t:=Bmb (by omega) (by rw[Ana,Bdl];omega);have hdk:=Amx (r:=r) h t;rw[Aaf hS,BC,Aj,hd,zV c _ _ _ (Bb8 _ _),Aga,It,It,Ah2];congr 2;rw[Aof]
   ·rfl
   ·rw[Aky,uX,<-Bc9,<-Bob];exact Aob _
 rw[Pk,key,Bno,FE];congr 1;split<;>rfl
theorem Asr:IP (c:Int) (w:Int) (r:Int) p (RE c w t) (SE c w r t) (FE c w r p t) [] false 0=
  some (if RE c w t≠ []\/nE c w t=0 then((c:Int),(w:Int),(r:Int),p,[],[],[],[],false,24,24)else((c:Int),(w:Int),(r:Int),p,[],[],[],Ff c w r (nE c w t) (XE c w t) p,true,0,0)):=by
 have hc:=h.ch;have hsl:=vR h t;have hfl:=Ago (c:=c) (w:=w) (r:=r) (p:=p) t;have hn4:=hR.1;have hmod:nE c w t %Ak r*c<=nE c w t*c:=Aeb _ (Bn1 _ _);have hn:nE c w t<=4000:=by
  have:nE c w t*1<=nE c w t*c:=Bkl _ hc.1;omega
 have hk:kE c w r t<=nE c w t:=Atx _ _;rw[IP,KM,Aki h t hR,Aa];simp only;rw[Aaf (by decide),Aab h t hR,Aa];by_cases hbad:RE c w t≠ []\/nE c w t=0
 ·have hcond:((Ef (Ac (RE c w t)) 0)||(geq (nE c w t:Int) 0))=true:=by
   rcases hbad with h0|h0
   ·have:RE c w t≠ []:=h0;have hl:0<(RE c w t).length:=List.length_pos_iff.2 this;rw[As,Ac,Bdh];left;simpa using hl
   ·rw[h0];simp[Ar]
  rw[Aas hbad,Aas hcond,Vy,Aa]
 ·have hR0:RE c w t=[]:=by
   by_cases h0:RE c w t=[]
   ·exact h0
   ·exact absurd (.inl h0) hbad
  have hn1:1<=nE c w t:=by
   rcases Bm4 (nE c w t)with h0|h0
   ·exact absurd (.inr h0) hbad
   ·exact h0
  have hcl:=Ae7 h t hR hn1;have hfr:=Ar7 h t hn1;have hcond:¬(((Ef (Ac (RE c w t)) 0)||(geq (nE c w t:Int) 0))=true):=by rw[hR0];simp[As,Ar,Ac];omega
  rw[Aaf hbad,Aaf hcond];by_cases hS:SE c w r t=[]
  ·rw[Aas hS,Aq7]at hfr;have hf:=Aqc hcl h.pass (RE c w t) (SE c w r t) [] false 0;rw[hfr]at hf;rw[Aaf (by rw[hS];decide),Sg,LZ,hf,Aa];simp only;rw[Aaf (by decide)]
  ·rw[Aaf hS]at hfr;have hl:0<(SE c w r t).length:=List.length_pos_iff.2 hS;have hin:inR (w:Int) (SE c w r t):=λv hv=>Amu h t v (Bl6 hv);have henc:=xT (t:=Kf p) (x:=SE c w r t) h.bits (Kq p) hc.1 hc.2 (by omega) (by omega) (by rw[hsl];exact Bhj _ _) hin;have hf:=Aqc hcl h.pass (RE c w t) [] [] false 0;rw[hfr]at hf;rw[Aas (by rw[As,Ac];simpa using hl),XH p h.pass,Aa];simp only;rw[Aaf (by decide),henc,Aa];simp only;rw[Aaf (by decide),Bd (by simp;omega),Aa,IM,LD,Aaf (by decide),Sg,LZ,hf,Aa];simp only;rw[Aaf (by decide)]
end
def Cd(e:Int):Prop:=e=0\/e=4\/e=12\/e=16\/e=22\/e=24\/e=26\/e=38
instance(e:Int):Decidable (Cd e):=by unfold Cd;infer_instance
theorem Cd.nn{e:Int}(h:Cd e):0<=e:=by unfold Cd at h;omega
theorem Bij(p:List UInt8)(N a k:Nat):Cd (XX p N a k).2.2:=by
 unfold XX
 repeat' split
 all_goals first|decide|exact .inl rfl
theorem Bh3(p:List UInt8)(N a k l:Nat):Cd (eX p N a k l).2.2:=by
 have h:=Bij p N (a+1) l;unfold eX
 repeat' split
 all_goals first|exact h|decide|exact .inl rfl
theorem Avx(ch:Nat)(p:List UInt8)(N:Nat):∀(j a:Nat) (out:List UInt32),Cd (Wv ch p N j a out).2.2
 |0,a,out=>by rw[Wv];exact .inl rfl
 |j+1,a,out=>by
  rw[Wv];split
  ·exact Bh3 ..
  ·exact Avx ch p N j _ _
theorem Azs(b:List UInt8):Cd (Vo b):=by
 unfold Vo
 repeat' split
 all_goals first|decide|exact .inl rfl
theorem Akr(a:List Int32)(b:Int):∀(q:Nat) (i e:Int),Bj a b q i=some e->Cd e
 |0,_,_,h=>by rw[Bj]at h;cases h
 |q+1,i,e,h=>by
  rw[Bj,Eb]at h;split at h
  ·cases hg:Ap a i with
   |none=>rw[hg]at h;cases h
   |some g=>
    rw[hg,Aa]at h;split at h
    ·cases h;decide
    ·rw[Aa]at h;split at h
     ·cases h;decide
     ·exact Akr a b q _ e h
  ·cases h;decide
theorem Ar4{bits:Int}{a:List Int32}{e:Int}(hb:Bk bits)(h:Bq bits a=some e):Cd e:=by
 rw[Bq,Ik]at h;rw[qZ hb,Aa,Aaf (by have:=UQ bits;rw[Ar];simp;omega)]at h;split at h
 ·cases h;decide
 ·exact Akr a _ _ _ e h
theorem Ai0{bits:Int}{ch n:Nat}{t:List Int32}{b:List UInt8}(hb:Bk bits)(ht:t.length=16)(h1:1<=ch)(h6:ch<=6)(n1:1<=n)(n2:n<=4000/ch){l:List Int32}{e:Int}
  (h:Dh (ch:Int) bits t (n:Int) b=some (l,e)):Cd e:=by
 have hn:n*ch<=4000:=by
  have:=Aeb ch n2;have h2:=Bid 4000 ch;omega
 have hq4:=Al2 h1 h6;generalize 4000/ch=mm at*
 have hh:=UQ bits;have Ah7:Jf (ch:Int) bits (n:Int)=some 0:=by
  rw[Jf,Dz,Aaf (by simp[Ae,As];omega),qZ hb,Aa,Aaf (by rw[Ar];simp;omega),Aa,Aaf (by simp[Al,Ae];omega),Bu (by rw[Al];simp;omega),Aa,hq4,Aaf (by rw[As];simp;omega)]
 rw[Dh,On,Ah7,Aa,Aaf (by rw[Al];simp),vC,Aa]at h;by_cases hs:Vo b≠0
 ·rw[Aas (by rw[Al];simpa using hs)]at h;simp only[Aa]at h;cases h;exact Azs b
 have hs0:Vo b=0:=by simpa using hs
 have hlen:=Ape hs0;have e4:Ao (Ac b) 4=((b.length-4:Nat):Int):=by rw[Ac,Bs (by omega) (by omega)];omega
 rw[Aaf (by rw[Al,hs0];simp),e4,Dd (by omega) (by omega),Aa,show((b.length-4:Nat):Int).toNat=b.length-4 from rfl]at h;have hpl:(b.take (b.length-4)).length=b.length-4:=by simp
 generalize b.take (b.length-4)=p at*
 have hr:=Alb (N:=8*p.length) (p:=p) rfl (by omega) h1 h6 hn;have hV:=Avx ch p (8*p.length) (n*ch) 0 [];have hat:=Adc (ch:=ch) (p:=p) (N:=8*p.length) (n*ch) 0 [] (by omega);rw[hr,Aa]at h;generalize Wv ch p (8*p.length) (n*ch) 0 []=V at*
 obtain⟨v,at',er⟩:=V;simp only at*
 by_cases he:er≠0
 ·rw[Aas he]at h;simp only at h;rw[Ht,Hv,Aas (by rw[Al];simpa using he)]at h;cases h;exact hV
 have he0:er=0:=by simpa using he
 have hvl:=hat.2.2 he0;simp only[Bod,Bdf]at hvl;rw[Aaf he]at h;simp only at h;rw[Ht,Hv]at h;split at h
 ·cases h;decide
 ·rw[Aaf (by decide)]at h;have hm:v.length %ch=0:=by rw[hvl];exact Bhj n ch
  obtain⟨l',e',g1,g2,g3,g4,g5⟩:=xI (v:=v) hb ht h1 h6 (by omega) hm;rw[g1,Aa,g2,Aa]at h;have:=Ar4 hb g4;by_cases hl:e'≠0
  ·rw[Aas hl]at h;cases h;exact this
  ·rw[Aaf hl]at h;cases h;decide
theorem tB{bits:Int}{ch n:Nat}{t:List Int32}{b:List UInt8}(hb:Bk bits)(ht:t.length=16)(h1:1<=ch)(h6:ch<=6)(n1:1<=n)(n2:n<=4000/ch){l:List Int32}{e:Int}
  (h:Dh (ch:Int) bits t (n:Int) b=some (l,e)):0<=e:=(Ai0 hb ht h1 h6 n1 n2 h).nn
def shI(f c w r n:Int):Bool:=decide ((f=1\/f=2)/\ (1<=c/\c<=6)/\ (w=8\/w=16\/w=24)/\ (1<=r/\r<=1048576)/\1<=n)
theorem Bad(f c w r n:Int):Tj f c w r n=some (shI f c w r n):=by
 have e2:Pf f c w r n=some (decide ((f=1\/f=2)/\ (1<=c/\c<=6)/\ (1<=r/\r<=1048576)/\1<=n)):=by
  rw[Pf,NX];congr 1;rw[Anb];simp only[Ar,As,SL,Ac9,Bdh,Aue,Acw];omega
 have g:∀k:Int,geq w k=decide (w=k):=λk=>by rw[Ar,Anb];simp
 rw[Tj,BD,e2,g,g,g,shI];by_cases h8:w=8
 ·subst h8;simp
 ·by_cases h16:w=16
  ·subst h16;simp
  ·by_cases h24:w=24
   ·subst h24;simp
   ·simp[h8,h16,h24]
theorem Bgj(f c w r n:Int):La f c w r n=some (shI f c w r n):=by
 rw[La,shI];simp only[Ar,Ds,SL,Ac9,Bdh,Aue,Acw,Bnv];split
 ·rename_i h;congr 1;rw[Anb];simp only[Ac9,Bdh,Aue,Acw];omega
 ·rename_i h;congr 1;symm;rw[Bdm];omega
structure HdI (f c w r n:Int) (F C W R N:Nat):Prop where
 ef:f=F
 ec:c=C
 ew:w=W
 er:r=R
 en:n=N
 shape:Ft F C W R N=true
 fit:Xw C R N=true
theorem Ayf(f c w r n:Int):(∃F C W R N:Nat,HdI f c w r n F C W R N)\/ (Mj f c w r n=some 8/\Dk f c w r n=some ([],8)):=by
 by_cases h:shI f c w r n=true
 ·have h':=h;simp only[shI,Acw]at h';obtain⟨F,rfl⟩:=Anc (show 0<=f by omega);obtain⟨C,rfl⟩:=Anc (show 0<=c by omega);obtain⟨W,rfl⟩:=Anc (show 0<=w by omega);obtain⟨R,rfl⟩:=Anc (show 0<=r by omega);obtain⟨N,rfl⟩:=Anc (show 0<=n by omega);have hs:Ft F C W R N=true:=by simp only[Ft,Acw];omega
  by_cases hf:Xw C R N=true
  ·exact .inl ⟨F,C,W,R,N,rfl,rfl,rfl,rfl,rfl,hs,hf⟩
  ·have hf':Xw C R N=false:=by simpa using hf
   refine .inr ⟨?_,?_⟩
   ·rw[Mj,uY,Aa,hs,Aaf (by simp),Ad5 hs,Aa,hf'];rfl
   ·rw[Dk,Oo,cM,Aa,hs,Aaf (by simp),sF hs,Aa,hf'];rfl
 ·have h':shI f c w r n=false:=by simpa using h
  refine .inr ⟨?_,?_⟩
  ·rw[Mj,Bgj,Aa,h'];rfl
  ·rw[Dk,Oo,Bad,Aa,h'];rfl
theorem HdI.check{f c w r n:Int}{F C W R N:Nat}(h:HdI f c w r n F C W R N):Mj f c w r n=some 0:=by
 obtain⟨rfl,rfl,rfl,rfl,rfl,hs,hf⟩:=h;rw[Mj,uY,Aa,hs,Aaf (by simp),Ad5 hs,Aa,hf];rfl
theorem HdI.Aa9{f c w r n:Int}{F C W R N:Nat}(h:HdI f c w r n F C W R N):Dk f c w r n=some (Aj (Ak R) N,0):=by
 obtain⟨rfl,rfl,rfl,rfl,rfl,hs,hf⟩:=h;exact TJ hs hf
theorem HdI.num{f c w r n:Int}{F C W R N:Nat}(h:HdI f c w r n F C W R N):(F=1\/F=2)/\ (1<=C/\C<=6)/\ (W=8\/W=16\/W=24)/\ (1<=R/\R<=1048576)/\1<=N/\N<=4000/C/\N<=4000/\ (N-1)/Ak R+1<=1000:=by
 obtain⟨rfl,rfl,rfl,rfl,rfl,hs,hf⟩:=h;simp only[Ft,Acw]at hs;simp only[Xw,Acw]at hf;have hd:4000/C<=4000:=Atx _ _;omega
theorem HdI.Am6{f c w r n:Int}{F C W R N:Nat}(h:HdI f c w r n F C W R N):Hm f c w r n=some (Aj (Ak R) N):=by
 have hn:=h.num;obtain⟨rfl,rfl,rfl,rfl,rfl,hs,hf⟩:=h;rw[Hm,XZ (by omega) (by omega) (by omega)];rfl
section
variable {f c w r n:Nat} (h1:Ft f c w r n=true) (h2:Xw c r n=true)
include h1 h2
theorem Ai9(k:Nat)(hk:k<= (Aj (Ak r) n).length):∀(j i q:Nat),i+j=k->j<q->My (k:Int) (f:Int) (c:Int) (w:Int) (r:Int) (n:Int) (Aj (Ak r) n) q (((Aj (Ak r) n).take i).sum) (i:Int)=some (Ww c w (Aj (Ak r) n) k)
 |0,i,q+1,hi,_=>by
  obtain⟨hc,hw,hr,hn,_⟩:=Lw h1;obtain⟨g1,g2,g3⟩:=AG h1 h2;have b:=QR g1 i;obtain rfl:i=k:=by omega
  have hb:((Aj (Ak r) n).take i).sum.toNat*(c*wB (w:Int))<=4000*(6*3):=Bds (by omega) (Bds hc.2 (zK (w:Int)).2);rw[My,Zk,Aaf (by rw[Ae];simp),TO,QZ,Fv,Aa];simp only;rw[VP,Bji hc.2 hw,Aa,Ww];have e:((Aj (Ak r) n).take i).sum=((((Aj (Ak r) n).take i).sum.toNat:Nat):Int):=by omega
  rw[e,Fc (by rw[<-Ara];omega) (by rw[<-Ara];omega),<-Ara];rfl
 |j+1,i,q+1,hi,hq=>by
  obtain⟨g1,g2,g3⟩:=AG h1 h2;have hK:=wH h2;have hlt:i<(Aj (Ak r) n).length:=by omega
  have b1:=QR g1 i;have b2:=QR g1 (i+1);have e:=Fg hlt;have ih:=Ai9 k hk j (i+1) q (by omega) (by omega);rw[e]at ih;rw[My,Zk,Aas (by rw[Ae];simp;omega),Bm hlt,Aa,Aa,Ah (by omega) (by omega),Ah (by omega) (by omega)];exact ih
theorem Ani(k:Nat)(hk:k<= (Aj (Ak r) n).length):Yy (f:Int) (c:Int) (w:Int) (r:Int) (n:Int) (k:Int)=some (Ww c w (Aj (Ak r) n) k):=by
 have hK:=wH h2;obtain⟨g1,g2,g3⟩:=AG h1 h2;obtain⟨hc,hw,hr,hn,_⟩:=Lw h1;have h:=Ai9 h1 h2 k hk k 0 Au (by omega) (by have:=Aq;omega);rw[Bd5,Bmm]at h;rw[Yy,RZ,Hm,XZ hr.2 hn g3,Aa,Aa];exact h
theorem Atc{i:Nat}(hlt:i<(Aj (Ak r) n).length):Ad (Ww c w (Aj (Ak r) n) i) (Ca (Bg (Bg ((Aj (Ak r) n)[i]) (c:Int)) (w:Int)) 8)=Ww c w (Aj (Ak r) n) (i+1):=by
 obtain⟨hc,hw,hr,hn,_⟩:=Lw h1;obtain⟨g1,g2,g3⟩:=AG h1 h2;have b1:=QR g1 i;have b2:=QR g1 (i+1);have e:=Fg hlt;have h0:=g1 _ (Ane hlt);have e2:(Aj (Ak r) n)[i]=(((Aj (Ak r) n)[i].toNat:Nat):Int):=by omega
 have hb:((Aj (Ak r) n).take (i+1)).sum.toNat*(c*wB (w:Int))<=4000*(6*3):=Bds (by omega) (Bds hc.2 (zK (w:Int)).2);rw[e2,Bal (by omega) hc.2 hw,Ww,Ww];have e3:((Aj (Ak r) n).take (i+1)).sum.toNat=((Aj (Ak r) n).take i).sum.toNat+(Aj (Ak r) n)[i].toNat:=by omega
 rw[e3,Ana]at hb⊢;rw[Ah (by omega) (by omega)];omega
theorem Aiy(a:Nat)(ha:a<= (Aj (Ak r) n).length)(o p:LB)(m:LI)(a':Int)(N:LB)(u:Bool)(v:Int):∀(j i q:Nat),i+j=a->j<q->
  Rs ((Aj (Ak r) n).take a) o p (f:Int) (c:Int) (w:Int) (r:Int) (n:Int) m a' N u v q (Ww c w (Aj (Ak r) n) i) (i:Int)=some (gle (Ac N) (Ww c w (Aj (Ak r) n) a))
 |0,i,q+1,hi,_=>by
  obtain rfl:i=a:=by omega
  rw[Rs,EL,Aaf (by rw[Ae,Ac,Ah9];simp;omega),UZ,mO]
 |j+1,i,q+1,hi,hq=>by
  have hK:=wH h2;have hlt:i<(Aj (Ak r) n).length:=by omega
  have hlt2:i<((Aj (Ak r) n).take a).length:=by rw[Ah9];omega
  have ih:=Aiy a ha o p m a' N u v j (i+1) q (by omega) (by omega);rw[Rs,EL,Aas (by rw[Ae,Ac];simp;omega),Bm hlt2,Aa,List.getElem_take,Atc h1 h2 hlt,Ah (by omega) (by omega)];exact ih
end
theorem Adg{α:Type}(l:List α):geq (Ac l) 0=decide (l=[]):=by
 cases l with
 |nil=>rfl
 |cons x l=>rw[Ar,Ac,Anf,Bhd (by simp),beq_eq_false_iff_ne];omega
theorem Ame{α:Type}(l:List α):Ef (Ac l) 0=decide (l≠ []):=by
 cases l with
 |nil=>rfl
 |cons x l=>rw[As,Ac,Anf,Bju (by simp)];simp
inductive FitD (o:LB) (f c w r n:Int) (g:LI) (a:Int) (x:LB):Prop
 |new:f=0->c=0->w=0->r=0->n=0->g=[]->a=0->x=[]->FitD o f c w r n g a x
 |head (F C W R N:Nat):HdI f c w r n F C W R N-> (o==([]:LB))=decide (F=1)->g=[]->a=0->x=[]->FitD o f c w r n g a x
 |tab (F C W R N A:Nat):HdI f c w r n F C W R N-> (o==([]:LB))=decide (F=1)->Sy g=true->g.length=(Aj (Ak R) N).length->a=A->A<=g.length->FitD o f c w r n g a x
theorem Arr(f c w r n:Int)(o:LB):Qd f c w r n o=Et f c w r n o:=rfl
theorem Asi(o p:LB)(f c w r n:Int)(g:LI)(a:Int)(x:LB)(u:Bool)(v:Int):
  (BM o p f c w r n g a x u v=some false/\Mm o p f c w r n g a x u v=some false)\/
  (BM o p f c w r n g a x u v=some true/\Mm o p f c w r n g a x u v=Cu o p f c w r n g a x u v/\FitD o f c w r n g a x):=by
 rw[BM,VB,Mm,Yf];by_cases hz:f=0/\c=0/\w=0/\r=0/\n=0
 ·obtain⟨rfl,rfl,rfl,rfl,rfl⟩:=hz;rw[Aas (by decide),Aas (by decide),Adg,Adg,Ame,Ame];by_cases h:g=[]/\a=0/\x=[]
  ·obtain⟨rfl,rfl,rfl⟩:=h;exact .inr ⟨rfl,by rw[Aaf (by decide)], .new rfl rfl rfl rfl rfl rfl rfl rfl⟩
  ·refine .inl ⟨?_,?_⟩
   ·congr 1;rw[Bool.eq_false_iff];intro e;simp only[Ac9,Acw,Ar,Aue]at e;exact h ⟨e.1.1,e.1.2,e.2⟩
   ·rw[Aas];simp only[Bdh,Acw,Al,Bn2];by_cases e1:g=[]
    ·by_cases e2:a=0
     ·exact .inr λe3=>h ⟨e1,e2,e3⟩
     ·exact .inl (.inr e2)
    ·exact .inl (.inl e1)
 ·have hz2:¬(((geq f 0)&&((geq c 0)&&((geq w 0)&&((geq r 0)&&((geq n 0)&&true)))))=true):=by
   simp only[Ac9,Ar,Aue,Boj];exact hz
  rw[Aaf hz2,Aaf hz2];rcases Ayf f c w r n with⟨F,C,W,R,N,h⟩|⟨e1,e2⟩
  ·rw[h.Aa9,h.check,Aa,Aa,Arr];simp only;rw[Aaf (by decide),Aaf (by decide),Et];have hf:geq f 1=decide (F=1):=by rw[h.ef,Ar,Anb];simp;omega
   rw[hf];by_cases hp:(o==([]:LB))=decide (F=1)
   ·rw[Aaf (by rw[hp];simp),Aa,Aa,Aaf (by decide),Aaf (by decide),VA,TY,Qx,Qu,Adg,Adg,Ame];by_cases hg:g=[]
    ·subst hg;rw[Aas (by simp),Aas (by simp)];by_cases h':a=0/\x=[]
     ·obtain⟨rfl,rfl⟩:=h';exact .inr ⟨rfl,by rw[Aaf (by decide)], .head F C W R N h hp rfl rfl rfl⟩
     ·refine .inl ⟨?_,?_⟩
      ·congr 1;rw[Bool.eq_false_iff];intro e;simp only[Ac9,Acw,Ar,Aue]at e;exact h' e
      ·rw[Aas];simp only[Bdh,Acw,Al,Bn2];by_cases e2:a=0
       ·exact .inr λe3=>h' ⟨e2,e3⟩
       ·exact .inl e2
    ·rw[Aaf (by simpa using hg),Aaf (by simpa using hg),XS,eT,Aa,Aa];by_cases ht:Sy g=true
     ·rw[Aas ht,h.Am6];simp only[Aa];by_cases hl:g.length=(Aj (Ak R) N).length/\0<=a/\a<=g.length
      ·obtain⟨hl,ha0,ha1⟩:=hl;obtain⟨A,rfl⟩:=Anc ha0;have hA:A<= (Aj (Ak R) N).length:=by omega
       rw[Aaf (by simp[Al,Ae,As,Ac];omega),Aaf (by decide),Aaf (by simp[Al,Ae,As,Ac];omega),Dd (by omega) (by omega),Aa,UW];have hh:=h;clear hf;obtain⟨rfl,rfl,rfl,rfl,rfl,hs,hf⟩:=hh;have hlp:=Aiy hs hf A hA o p g (A:Int) x u v A 0 Au (by omega) (by have:=Aq;have:=wH hf;omega);have h0:Ww C W (Aj (Ak R) N) 0=0:=by rw[Ww,Bd5,Bmm];simp
       rw[h0,show((0:Nat):Int)=0 from rfl]at hlp;rw[show((A:Int)).toNat=A from rfl,hlp,Ani hs hf A hA,Aa];by_cases hx:(x.length:Int)<=Ww C W (Aj (Ak R) N) A
       ·refine .inr ⟨?_,?_, .tab F C W R N A h hp ht hl rfl (by omega)⟩
        ·rw[SL,Ac,Bju hx]
        ·rw[Aaf (by rw[As,Ac];simp;omega)]
       ·refine .inl ⟨?_,?_⟩
        ·rw[SL,Ac,Bhd hx]
        ·rw[Aas (by rw[As,Ac];simp;omega)]
      ·refine .inl ⟨?_,?_⟩
       ·rw[Aas (by simp[Al,Ae,As,Ac];omega)]
       ·rw[Aaf (by decide),Aas (by simp[Al,Ae,As,Ac];omega)]
     ·refine .inl ⟨?_,?_⟩
      ·rw[Aaf ht,Aas (by simp[Al])]
      ·rw[Aaf ht,Aas (by decide),Aas (by simp)]
   ·rw[Aas (by simpa using hp),Aa,Aa,Aas (by decide),Aas (by decide)];exact .inl ⟨rfl,rfl⟩
  ·rw[e1,e2,Aa,Aa];simp only;rw[Aas (by decide),Aas (by decide)];exact .inl ⟨rfl,rfl⟩
theorem Azi(b:List UInt8)(n:Int):Cd (gI b n).2:=by
 unfold gI
 repeat' split
 all_goals first|decide|exact .inl rfl
theorem Azj(b:List UInt8):(Zd b).2=6\/Cd (Zd b).2:=by
 unfold Zd Acg
 repeat' split
 all_goals first|exact .inl rfl|exact .inr (Azi _ _)|exact .inr (by decide)
theorem Aw4(b:List UInt8):(Lh b).2=6\/Cd (Lh b).2:=by
 unfold Lh
 repeat' split
 all_goals first|exact .inl rfl|exact .inr (.inl rfl)|exact .inr (by decide)
theorem Bcs(b:List UInt8):(Db b).2=6\/Cd (Db b).2:=by
 unfold Db;split
 ·exact Azj b
 ·exact Aw4 b
theorem Ajj(b:List UInt8):∀(j p:Nat),p<=b.length->b.length<j+p->Cd (Cm b j p).2
 |0,p,h1,h2=>by omega
 |j+1,p,h1,h2=>by
  rw[Cm];split
  ·exact .inl rfl
  ·rename_i h6;split
   ·exact(Bcs _).resolve_left h6
   ·rename_i h0;split
    ·exact(by decide:Cd 4)
    ·have hz:Db (b.drop p)=((Db (b.drop p)).1,0):=by rw[Prod.ext_iff];exact⟨rfl,by simpa using h0⟩
     obtain⟨k1,k2⟩:=pJ hz;rw[Aky]at k2;split
     ·exact .inl rfl
     ·exact Ajj b j _ (by omega) (by omega)
theorem zT(b:List UInt8):Cd (Bo b).2:=by
 unfold Bo Afp;split
 ·exact .inl rfl
 ·exact Ajj b _ _ (by omega) (by omega)
theorem Aa3(b:List UInt8):0<= (Bo b).2:=(zT b).nn
theorem Ahv(b:List UInt8):Cd (Eg b).2.2.2.2.2:=by
 unfold Eg
 repeat' split
 all_goals first|decide|exact .inl rfl
theorem Af8(b:List UInt8):0<= (Eg b).2.2.2.2.2:=(Ahv b).nn
theorem Bam(b:List UInt8){n:Nat}(h:1<=n/\n<=1000):Cd (Eh b n).2:=by
 unfold Eh;rw[Aaf (λe=>e h)]
 repeat' split
 all_goals first|decide|exact .inl rfl
theorem Ag7(b:List UInt8)(n:Nat):0<= (Eh b n).2:=by
 unfold Eh
 repeat' split
 all_goals simp
def ID3:List UInt8:=[73,68,51]
def APX:List UInt8:=[65,80,69,84,65,71,69,88]
def Oy(b s:List UInt8):Bool:=decide (b.length<s.length)&&(b==s.take b.length)
theorem Akb(b s:List UInt8):Uh b s=some (Oy b s):=by
 rw[Uh,Oy];by_cases h:b.length<s.length
 ·rw[Aas (by rw[Ae,Ac,Ac];simp;omega),Ac,Dd (by omega) (by omega),Aa,Bju h,Bma];rfl
 ·rw[Aaf (by rw[Ae,Ac,Ac];simp;omega),Bhd h];rfl
theorem Bae(b s:List UInt8)(h:b.length<s.length):Kx s b=some (Oy b s):=by
 rw[Kx,Hs,Aas (by rw[Ds,Ac,Ac];simp;omega),Ac,Dd (by omega) (by omega),Aa,Aa,Oy,Bju h,Bma,Ah2];congr 1;rw[Anb,Aue,Aue];exact eq_comm
theorem rT{b s:List UInt8}(h:¬b.length<s.length):Oy b s=false:=by rw[Oy,Bhd h];rfl
theorem Bct(b:List UInt8):Se b=some (Oy b ID3||Oy b APX):=by
 obtain⟨q,hq⟩:∃q,Au=q+3:=⟨Au-3,by have:=Aq;omega⟩;have l3:Le b (q+1) 2=some false:=by rw[Le,Wy,Aaf (by decide)];rfl
 have l2:Le b (q+2) 1=some (Oy b APX):=by
  rw[Le,Wy,Aas (by decide),show Ap ([([73,68,51]:LB),([65,80,69,84,65,71,69,88]:LB)]:List LB) 1=some APX from rfl,Aa,show Ad (1:Int) 1=2 from rfl];by_cases h:b.length<APX.length
  ·rw[Aas (by rw[Ae,Ac,Ac];simp;omega),Bae b APX h,Aa];by_cases hb:Oy b APX=true
   ·rw[Aas hb,hb]
   ·rw[Aaf hb,l3];simpa using hb
  ·rw[Aaf (by rw[Ae,Ac,Ac];simp;omega),l3,rT h]
 rw[Se,TX,UM,hq,Le,Wy,Aas (by decide),show Ap ([([73,68,51]:LB),([65,80,69,84,65,71,69,88]:LB)]:List LB) 0=some ID3 from rfl,Aa,show Ad (0:Int) 1=1 from rfl];by_cases h:b.length<ID3.length
 ·rw[Aas (by rw[Ae,Ac,Ac];simp;omega),Bae b ID3 h,Aa];by_cases hb:Oy b ID3=true
  ·rw[Aas hb,hb];rfl
  ·rw[Aaf hb,l2,Bool.eq_false_iff.2 hb];rfl
 ·rw[Aaf (by rw[Ae,Ac,Ac];simp;omega),l2,rT h];rfl
def stS(b:List UInt8):Int×Int×Int×Int×Int×Int×Int:=
 if(Bo b).2=24 then(0,0,0,0,0,0, -1)else if(Bo b).2≠0 then(0,0,0,0,0,0,(Bo b).2)else
 if(Oy (Il b) ID3||Oy (Il b) APX)=true then(0,0,0,0,0,0, -1)else
 if(Eg (Il b)).2.2.2.2.2=24 then(0,0,0,0,0,0, -1)else((Bo b).1+22,(Eg (Il b)).1,(Eg (Il b)).2.1,(Eg (Il b)).2.2.1,(Eg (Il b)).2.2.2.1,(Eg (Il b)).2.2.2.2.1,(Eg (Il b)).2.2.2.2.2)
theorem Zu(b:List UInt8)(hb:b.length<=100000):AO b=some (stS b):=by
 rw[AO,HE,BI b (by omega),Aa,stS];have hok:=BR (b:=b);simp only;by_cases h1:(Bo b).2=24
 ·rw[Aas (by rw[Ar];simpa using h1),Aas h1]
 rw[Aaf (by rw[Ar];simpa using h1),Aaf h1];by_cases h2:(Bo b).2≠0
 ·rw[Aas (by rw[Al];simpa using h2),Aas h2]
 have h0:(Bo b).2=0:=by simpa using h2
 obtain⟨k1,k2,k3⟩:=hok h0;rw[Aaf (by rw[Al,h0];simp),Aaf h2,Bt (by omega) (by omega),Aa,Akb,Aa,show b.drop (Bo b).1.toNat=Il b from rfl,show([73,68,51]:LB)=ID3 from rfl,show([65,80,69,84,65,71,69,88]:LB)=APX from rfl];by_cases h3:Oy (Il b) ID3=true
 ·rw[Aas h3,h3,Bool.true_or,Aas rfl]
 rw[Aaf h3,Akb,Aa,Bool.eq_false_iff.2 h3,Bool.false_or];by_cases h4:Oy (Il b) APX=true
 ·rw[Aas h4,Aas h4]
 have hl:(Il b).length<=b.length:=by rw[Il,Aky];omega
 rw[Aaf h4,Aaf h4,GO,GG,iI _ (by omega),Aa];simp only;by_cases h5:(Eg (Il b)).2.2.2.2.2=24
 ·rw[Aas (by rw[Ar];simpa using h5),Aas h5]
 ·rw[Aaf (by rw[Ar];simpa using h5),Aaf h5,Ah (by omega) (by omega)]
theorem Od{p q:LB}{n:Nat}(h:n<=p.length):(p++q).take n=p.take n:=by rw[Bg8 h]
theorem xJ{p q:LB}{i:Nat}(h:i<p.length):(p++q).getD i 0=p.getD i 0:=by
 rw[List.getD_eq_getElem?_getD,List.getElem?_append_left h,<-List.getD_eq_getElem?_getD]
theorem Sc{p q:LB}{a w:Nat}(h:a+w<=p.length):part (p++q) a w=part p a w:=by rw[part,Od h,part]
theorem Bar{p q s:LB}(h:Oy p s=false)(hl:p.length<s.length):(p++q).take s.length≠s:=by
 intro e;rw[Oy,Bju hl,Bma]at h;have h1:p=s.take p.length:=by
  have:=congrArg (List.take p.length) e;rw[Bng,Bfs (by omega),Od (Aob _),Aye]at this;exact this
 rw[<-h1]at h;simp at h
theorem Aj7{p:LB}(q:LB)(h:(Zd p).2≠24)(h6:Oy p ID3=false):Zd (p++q)=Zd p:=by
 unfold Zd at h⊢;by_cases h3:3<=p.length/\p.take 3=[73,68,51]
 ·have h3':3<= (p++q).length/\ (p++q).take 3=[73,68,51]:=⟨by rw[Abt];omega,by rw[Od h3.1];exact h3.2⟩;have n1:¬ ¬(3<=p.length/\p.take 3=[73,68,51]):=λf=>f h3;have n2:¬ ¬(3<= (p++q).length/\ (p++q).take 3=[73,68,51]):=λf=>f h3';rw[Aaf n1]at h;rw[Aaf n1,Aaf n2];by_cases h10:p.length<10
  ·rw[Aas h10]at h;exact absurd rfl h
  ·have h10':¬(p++q).length<10:=by rw[Abt];omega
   rw[Aaf h10]at h;rw[Aaf h10,Aaf h10',Sc (by omega),xJ (by omega),xJ (by omega),xJ (by omega)];split
   ·rfl
   ·rename_i hc;rw[Aaf hc]at h;unfold Acg gI at h⊢;rw[xJ (by omega)];generalize(dJ (part p 6 4) 0).1+10+(if p.getD 5 0=16 then 10 else 0)=n at h⊢;by_cases c1:4000<n
    ·rw[Aas c1,Aas c1]
    ·rw[Aaf c1]at h;rw[Aaf c1,Aaf c1];by_cases c2:(p.length:Int)<n
     ·rw[Aas c2]at h;exact absurd rfl h
     ·have c2':¬((p++q).length:Int)<n:=by rw[Abt];omega
      rw[Aaf c2,Aaf c2',Od (by omega),Sc (by omega)]
 ·rw[Aas h3,Aas];rintro⟨_,h5⟩;by_cases hl:3<=p.length
  ·rw[Od hl]at h5;exact h3 ⟨hl,h5⟩
  ·exact Bar h6 (by simp[ID3];omega) h5
theorem Arp{p:LB}(q:LB)(h:(Lh p).2≠24)(h6:Oy p APX=false):Lh (p++q)=Lh p:=by
 unfold Lh at h⊢;by_cases h3:8<=p.length/\p.take 8=APE
 ·have h3':8<= (p++q).length/\ (p++q).take 8=APE:=⟨by rw[Abt];omega,by rw[Od h3.1];exact h3.2⟩;have n1:¬ ¬(8<=p.length/\p.take 8=APE):=λf=>f h3;have n2:¬ ¬(8<= (p++q).length/\ (p++q).take 8=APE):=λf=>f h3';rw[Aaf n1]at h;rw[Aaf n1,Aaf n2];by_cases h10:p.length<32
  ·rw[Aas h10]at h;exact absurd rfl h
  ·have h10':¬(p++q).length<32:=by rw[Abt];omega
   have eb:HP (p++q)=HP p:=by rw[HP,HP,Sc (by omega),Sc (by omega)]
   rw[Aaf h10]at h;rw[Aaf h10,Aaf h10',Sc (by omega),Sc (by omega),eb,Od (n:=32) (by omega)];split
   ·rfl
   ·rename_i hc;rw[Aaf hc]at h;by_cases c2:p.length<Gb (part p 12 4)+32
    ·rw[Aas c2]at h;exact absurd rfl h
    ·have c2':¬(p++q).length<Gb (part p 12 4)+32:=by rw[Abt];omega
     rw[Aaf c2,Aaf c2',Od (by omega)]
 ·rw[Aas h3,Aas];rintro⟨_,h5⟩;by_cases hl:8<=p.length
  ·rw[Od hl]at h5;exact h3 ⟨hl,h5⟩
  ·exact Bar h6 (by simp[APX];omega) h5
theorem Aag{p:LB}(q:LB)(h:(Db p).2≠24)(h6:(Db p).2=6->Oy p ID3=false/\Oy p APX=false):Db (p++q)=Db p:=by
 have Bjx:∀s:LB,s.length<=p.length->Oy p s=false:=λs hs=>rT (by omega);unfold Db at h h6⊢;by_cases hT:(Zd p).2≠6
 ·rw[Aas hT]at h⊢;have h3:Oy p ID3=false:=by
   refine Bjx _ ?_;unfold Zd at hT;by_cases h3:3<=p.length/\p.take 3=[73,68,51]
   ·simp[ID3];omega
   ·rw[Aas h3]at hT;exact absurd rfl hT
  rw[Aj7 q h h3,Aas hT]
 ·rw[Aaf hT]at h h6⊢;have hb:Oy p ID3=false/\Oy p APX=false:=by
   by_cases hA:(Lh p).2=6
   ·exact h6 hA
   ·unfold Lh at hA;by_cases h3:8<=p.length/\p.take 8=APE
    ·exact⟨Bjx _ (by simp[ID3];omega),Bjx _ (by simp[APX];omega)⟩
    ·rw[Aas h3]at hA;exact absurd rfl hA
  have hT':¬(Zd (p++q)).2≠6:=by
   rw[Aj7 q (by simp only[ne_eq,Classical.not_not]at hT;rw[hT];decide) hb.1];exact hT
  rw[Aaf hT',Arp q h hb.2]
theorem Aef{p:LB}(q:LB):∀(j s j':Nat),s<=p.length->p.length-s<j->p.length+q.length-s<j'-> (Cm p j s).2≠24->
  ((Cm p j s).2=0->Oy (p.drop (s+(Cm p j s).1.sum.toNat)) ID3=false/\Oy (p.drop (s+(Cm p j s).1.sum.toNat)) APX=false)->Cm (p++q) j' s=Cm p j s
 |0,s,j',_,hj,_,_,_=>absurd hj (Bgp _)
 |j+1,s,0,_,_,hj,_,_=>absurd hj (Bgp _)
 |j+1,s,j'+1,hs,hj,hj',h,hb=>by
  have ed:(p++q).drop s=p.drop s++q:=Ayz hs;rw[Cm]at h hb⊢;rw[Cm,ed];by_cases h6:(Db (p.drop s)).2=6
  ·rw[Aas h6]at h hb⊢;have hb':=hb rfl;simp only[Bmm,Int.toNat_zero,Bip]at hb';rw[Aag q (by rw[h6];decide) (λ_=>hb'),Aas h6]
  ·rw[Aaf h6]at h hb⊢;by_cases h0:(Db (p.drop s)).2≠0
   ·rw[Aas h0]at h⊢;rw[Aag q h (λe=>absurd e h6),Aaf h6,Aas h0]
   ·rw[Aaf h0]at h hb⊢;have h0':(Db (p.drop s)).2=0:=by simpa using h0
    have e1:Db (p.drop s++q)=Db (p.drop s):=Aag q (by rw[h0'];decide) (λe=>absurd e h6);rw[e1,Aaf h6,Aaf h0];have hok:=pJ (b:=p.drop s) (n:=(Db (p.drop s)).1) (by rw[<-h0']);rw[Aky]at hok;by_cases hm:4000<(s:Int)+(Db (p.drop s)).1
    ·rw[Aas hm,Aas hm]
    ·rw[Aaf hm]at h hb⊢;rw[Aaf hm];have hl1:s+(Db (p.drop s)).1.toNat<=p.length:=by omega
     have ih:=Aef (p:=p) q j (s+(Db (p.drop s)).1.toNat) j' hl1 (by omega) (by omega);by_cases hr:(Cm p j (s+(Db (p.drop s)).1.toNat)).2=0
     ·rw[Aas hr]at hb⊢;have hle1:s+(Db (p.drop s)).1.toNat<=p.length:=by omega
      have hle2:s+(Db (p.drop s)).1.toNat<=4000:=by omega
      have hi:=(rY p j (s+(Db (p.drop s)).1.toNat) hle1 hle2 hr).1;have hsum:(0:Int)<= (Cm p j (s+(Db (p.drop s)).1.toNat)).1.sum:=by
       have:∀l:List Int,(∀x∈l,10<=x)->0<=l.sum:=by
        intro l
        induction l with
        |nil=>intro _;simp
        |cons a l ih=>intro h;rw[Bdn];have:=h a (by simp);have:=ih (λx hx=>h x (by simp[hx]));omega
       exact this _ hi
      rw[ih (by rw[hr];decide) (λ_=>by
       have:=hb rfl;simp only[Bdn]at this;rw[show s+((Db (p.drop s)).1+(Cm p j (s+(Db (p.drop s)).1.toNat)).1.sum).toNat=s+(Db (p.drop s)).1.toNat+(Cm p j (s+(Db (p.drop s)).1.toNat)).1.sum.toNat by omega]at this;exact this),Aas hr]
     ·rw[Aaf hr]at h⊢;rw[ih h (λe=>absurd e hr),Aaf hr]
theorem Af4{p:LB}(q:LB)(h:(Bo p).2≠24)(hb:(Bo p).2=0->Oy (Il p) ID3=false/\Oy (Il p) APX=false):Bo (p++q)=Bo p:=by
 have key:Cm (p++q) ((p++q).length+1) 0=Cm p (p.length+1) 0:=by
  refine Aef q (p.length+1) 0 ((p++q).length+1) (Nat.zero_le _) (by omega) (by rw[Abt];omega) ?_ ?_
  ·unfold Bo Afp at h;by_cases h0:(Cm p (p.length+1) 0).2=0
   ·rw[h0];decide
   ·rw[Aaf h0]at h;exact h
  ·intro h0;have e:Bo p=(((0:Nat):Int)+(Cm p (p.length+1) 0).1.sum,0):=by unfold Bo Afp;rw[Aas h0]
   have:=hb (by rw[e]);rw[Il,e]at this;simpa using this
 unfold Bo Afp;rw[key]
theorem Axh{p:LB}(q:LB)(h:(Eg p).2.2.2.2.2≠24):Eg (p++q)=Eg p:=by
 unfold Eg at h⊢;by_cases h1:p.take (min 4 p.length)≠Pb.take (min 4 p.length)
 ·have h1':(p++q).take (min 4 (p++q).length)≠Pb.take (min 4 (p++q).length):=by
   intro e;have hle:min 4 p.length<=min 4 (p++q).length:=by rw[Abt];omega
   have:=congrArg (List.take (min 4 p.length)) e;rw[Bng,Bng,Bfs hle,Od (by omega)]at this;exact h1 this
  rw[Aas h1,Aas h1']
 ·rw[Aaf h1]at h;by_cases h2:p.length<22
  ·rw[Aas h2]at h;exact absurd rfl h
  ·have h2':¬(p++q).length<22:=by rw[Abt];omega
   have h1':¬(p++q).take (min 4 (p++q).length)≠Pb.take (min 4 (p++q).length):=by
    rw[Bfs (by omega)]at h1⊢;rw[Od (by omega)];exact h1
   have e0:f0 (p++q)=f0 p:=by unfold f0;rw[Sc (by omega)]
   have e1:f1 (p++q)=f1 p:=by unfold f1;rw[Sc (by omega)]
   have e2:f2 (p++q)=f2 p:=by unfold f2;rw[Sc (by omega)]
   have e3:f3 (p++q)=f3 p:=by unfold f3;rw[Sc (by omega)]
   have e4:f4 (p++q)=f4 p:=by unfold f4;rw[Sc (by omega)]
   rw[Aaf h1,Aaf h1',Aaf h2,Aaf h2',e0,e1,e2,e3,e4,Od (by omega),Sc (by omega)]
theorem Bfl{p:LB}(q:LB)(h:(stS p).2.2.2.2.2.2≠ -1):stS (p++q)=stS p:=by
 unfold stS at h⊢;by_cases h1:(Bo p).2=24
 ·rw[Aas h1]at h;exact absurd rfl h
 rw[Aaf h1]at h;by_cases h2:(Bo p).2≠0
 ·rw[Af4 q h1 (λe=>absurd e h2),Aaf h1,Aas h2,Aaf h1,Aas h2]
 rw[Aaf h2]at h;have h0:(Bo p).2=0:=by simpa using h2
 by_cases h3:(Oy (Il p) ID3||Oy (Il p) APX)=true
 ·rw[Aas h3]at h;exact absurd rfl h
 rw[Aaf h3]at h;have h3f:Oy (Il p) ID3=false/\Oy (Il p) APX=false:=by
  simp only[Bool.not_eq_true,Bnw]at h3;exact h3
 have eF:=Af4 q h1 (λ_=>h3f);obtain⟨k1,k2,k3⟩:=BR h0;have eH:Il (p++q)=Il p++q:=by rw[Il,eF,Il,Ayz (by omega)]
 by_cases h5:(Eg (Il p)).2.2.2.2.2=24
 ·rw[Aas h5]at h;exact absurd rfl h
 have eR:Eg (Il p++q)=Eg (Il p):=Axh q h5;have beg:∀s:LB,Oy (Il p) s=false-> (s=ID3\/s=APX)->Oy (Il p++q) s=false:=by
  intro s hs hk;by_cases hl:(Il p++q).length<s.length
  ·have hp:(Il p).length<s.length:=by rw[Abt]at hl;omega
   rw[Oy,Bju hp,Bma]at hs;rw[Oy,Bju hl,Bma];refine beq_eq_false_iff_ne.2 λe=>?_;have:=congrArg (List.take (Il p).length) e;rw[Od (Aob _),Aye,Bng,Bfs (by rw[Abt];omega)]at this;rw[<-this]at hs;simp at hs
  ·exact rT hl
 rw[eF,eH,eR,Aaf h1,Aaf h2,beg _ h3f.1 (.inl rfl),beg _ h3f.2 (.inr rfl),Aaf (by decide),Aaf h5,Aaf h1,Aaf h2,Aaf h3]
theorem Axg{p:LB}(q:LB)(n:Nat)(h:(Eh p n).2≠24):Eh (p++q) n=Eh p n:=by
 unfold Eh at h⊢;by_cases h1:1<=n/\n<=1000
 ·have n1:¬ ¬(1<=n/\n<=1000):=λf=>f h1;rw[Aaf n1]at h;rw[Aaf n1,Aaf n1];by_cases h2:p.length<4*n+4
  ·rw[Aas h2]at h;exact absurd rfl h
  ·have h2':¬(p++q).length<4*n+4:=by rw[Abt];omega
   have et:RV (p++q) n=RV p n:=by
    unfold RV;refine Bmu λi hi=>?_;rw[List.mem_range]at hi;rw[Sc (by omega)]
   rw[Aaf h2,Aaf h2',Od (by omega),Sc (by omega),et]
 ·rw[Aas h1,Aas h1]
def Arq(g a:LB)(k p o u v:Int)(f:LI)(b:Int)(h:LB)(m:Bool)(n:Int):Option Int:=
if(geq k 0)then
(Ih a).bind λ(al,ba)=>
if(geq ba 24)then
Fh true 0
else
if(Ba ba 0)then
(Am ba).bind λ(bx,bz)=>
Fh bx bz
else
(Bi a al (Ac a)).bind λda=>
(Se da).bind λan=>
if an then
Fh true 0
else
(Bi a al (Ac a)).bind λdb=>
(Ld db).bind λ(ae,af,aa,ag,ab,bb)=>
if(geq bb 24)then
Fh true 0
else
if(Ba bb 0)then
(Am bb).bind λ(dc,dd)=>
Fh dc dd
else
(
(Bi a (Ad al 22) (Ac a)).bind λak=>
(
Yt g ak ae af aa ag ab b m n f h))
else
if(geq (Ac f) 0)then
if(geq k 2)then
if(Cl (Ac a) 8)then
Ka true 0
else
Yr g a k p o u v b m n f h
else
Kg g a k p o u v b m n f h 0
else
if(Cl b (Ac f))then
(Ap f b).bind λ_=>
(Ap f b).bind λw=>
if(Cl (Ac a) w)then
Ig true 0
else
(Rr g).bind λ(ap,am)=>
if(Ba am 0)then
(Am am).bind λ(de,df)=>
Ig de df
else
(Dk k p o u v).bind λ(ad,dg)=>
if((Ba dg 0)||(Ml b (Ac ad)))then
(Am 8).bind λ(dh,di)=>
Ig dh di
else
Ys w g a k p o u v b m n ap ad f h
else
if(Ef (Ac a) 4000)then
(Am 38).bind λ(dj,bf)=>
By ((dj==true)&&((geq bf 0)&&true))
else
Yo
theorem uR(d:Bool)(e:Int):Fh d e=By (d&&geq e 0):=by
 rw[Fh,JF];cases d<;>simp
theorem Aew(d:Bool)(e:Int):Ka d e=By (d&&geq e 0):=by
 rw[Ka,MJ];cases d<;>simp
theorem Atf(d:Bool)(e:Int):Ig d e=By (d&&geq e 0):=by
 rw[Ig,LO];cases d<;>simp
theorem rp4{o p:LB}{f c w r n:Int}{g:LI}{a:Int}{x:LB}{u:Bool}{v:Int}{t1 t2:LB}{t3 t4 t5 t6 t7:Int}{t8:LI}{t9:Int}{t10:LB}{t11:Bool}{t12 e:Int}
  (h:Ag o p f c w r n g a x u v=some (t1,t2,t3,t4,t5,t6,t7,t8,t9,t10,t11,t12,e)):Cu o p f c w r n g a x u v=some (geq e (-1)):=by
 rw[Cu,Xt,h,Aa]
theorem jV{e:Int}(h:0<=e):geq e (-1)=false:=by rw[Ar,beq_eq_false_iff_ne];omega
theorem Awd(o p:LB)(c w r n:Int)(g:LI)(a:Int)(x:LB)(u:Bool)(v:Int)(hp:p.length<=100000):
  ∃B:Bool,Arq o p 0 c w r n g a x u v=By B/\Cu o p 0 c w r n g a x u v=some B:=by
 have hT:Ag o p 0 c w r n g a x u v=Ag o p 0 c w r n g a x u v:=rfl
 conv at hT=>rhs;rw[Ag,Bp,Aas (by decide),Zu p hp,Aa,stS]
 have hfn:=Aa3 p;have hrn:=Af8 (Il p);rw[Arq,Aas (by decide),Pu p (by omega),Aa];have hok:=BR (b:=p);simp only at hT⊢;by_cases h1:(Bo p).2=24
 ·rw[Aas h1]at hT;simp only at hT;rw[Aas (by decide)]at hT;rw[Aas (by rw[Ar];simpa using h1),uR];exact⟨_,rfl,rp4 hT⟩
 rw[Aaf h1]at hT;rw[Aaf (by rw[Ar];simpa using h1)];by_cases h2:(Bo p).2≠0
 ·rw[Aas h2]at hT;simp only at hT;rw[Aas (by rw[Al];simpa using h2)]at hT;rw[Aas (by rw[Al];simpa using h2),Am,Aa];simp only;rw[uR];exact⟨_,rfl,(rp4 hT).trans (by rw[jV hfn];rfl)⟩
 have h0:(Bo p).2=0:=by simpa using h2
 obtain⟨k1,k2,k3⟩:=hok h0;have hl:(Il p).length=p.length-(Bo p).1.toNat:=by rw[Il,Aky]
 rw[Aaf h2]at hT;rw[Aaf (by rw[Al,h0];simp),Bt (by omega) (by omega),Aa,Aa,show p.drop (Bo p).1.toNat=Il p from rfl,Bct,Aa];by_cases h3:(Oy (Il p) ID3||Oy (Il p) APX)=true
 ·rw[Aas h3]at hT⊢;simp only at hT;rw[Aas (by decide)]at hT;rw[uR];exact⟨_,rfl,rp4 hT⟩
 rw[Aaf h3]at hT⊢;rw[OP _ (by omega),Aa];by_cases h5:(Eg (Il p)).2.2.2.2.2=24
 ·rw[Aas h5]at hT;simp only at hT;rw[Aas (by decide)]at hT;rw[Aas (by rw[Ar];simpa using h5),uR];exact⟨_,rfl,rp4 hT⟩
 rw[Aaf h5]at hT;rw[Aaf (by rw[Ar];simpa using h5)];simp only at hT;by_cases h6:(Eg (Il p)).2.2.2.2.2≠0
 ·rw[Aas (by rw[Al];simpa using h6)]at hT⊢;rw[Am,Aa];simp only;rw[uR];exact⟨_,rfl,(rp4 hT).trans (by rw[jV hrn];rfl)⟩
 have h7:(Eg (Il p)).2.2.2.2.2=0:=by simpa using h6
 have h22:=(oW h7).2.1;rw[Aaf (by rw[Al,h7];simp),Bt (by omega) (by omega),Aa,Hk,Ha,Et]at hT;rw[Aaf (by rw[Al,h7];simp),Ah (by omega) (by omega),Bt (by omega) (by omega),Aa,Yt,IC,Qd];simp only;by_cases h8:((o==([]:LB)) !=geq (Eg (Il p)).1 1)=true
 ·rw[Aas h8]at hT⊢;rw[Aa]at hT⊢;rw[Am,Aa];simp only;rw[uR];exact⟨_,rfl,rp4 hT⟩
 ·rw[Aaf h8]at hT⊢;rw[Aa]at hT⊢;rw[Am,Aa];simp only;rw[uR];exact⟨_,rfl,rp4 hT⟩
section
variable {f c w r n:Int} {F C W R N:Nat} (hd:HdI f c w r n F C W R N)
include hd
theorem HdI.ne0:¬(geq f 0=true):=by
 have:=hd.num;rw[Ar,Aue,hd.ef];omega
theorem Aar(o p:LB)(hp:p.length<=100000)(A:Nat)(hA:A<=p.length)(a:Int)(x:LB)(u:Bool)(v:Int):
  (Kg o p f c w r n a u v [] x (A:Int)=By (decide ((Eh (p.drop A) (Aj (Ak R) N).length).2=24)))/\
  Dr p f c w r n (A:Int)=some (if(Eh (p.drop A) (Aj (Ak R) N).length).2=24 then(0,[], -1)else((A:Int)+(4*((Eh (p.drop A) (Aj (Ak R) N).length).1.length:Int)+4),(Eh (p.drop A) (Aj (Ak R) N).length).1,(Eh (p.drop A) (Aj (Ak R) N).length).2))/\
  ((Eh (p.drop A) (Aj (Ak R) N).length).2=0-> (A:Int)+(4*((Eh (p.drop A) (Aj (Ak R) N).length).1.length:Int)+4)<=p.length):=by
 have hs:=sP (p.drop A) (Aj (Ak R) N).length (by rw[Aky];omega);have hr:=Ad1 (p.drop A) (Aj (Ak R) N).length (by rw[Aky];omega);have hok:=iK (b:=p.drop A) (n:=(Aj (Ak R) N).length);have hlen:(Eh (p.drop A) (Aj (Ak R) N).length).1.length<=1000:=by
  unfold Eh
  repeat' split
  all_goals simp[Ux]
  all_goals omega
 have hfit:(Eh (p.drop A) (Aj (Ak R) N).length).2=0-> (A:Int)+(4*((Eh (p.drop A) (Aj (Ak R) N).length).1.length:Int)+4)<=p.length:=by
  intro h0;obtain⟨k1,k2,k3,k4,_⟩:=hok h0;rw[k1];simp only[Ux];rw[Aky]at k4;omega
 refine⟨?_,?_,hfit⟩
 ·rw[Kg,KH,hd.Aa9,Aa];simp only;rw[Aaf (by decide),Bt (by omega) (by omega),Aa,Ah2,Ac,hs,Aa];generalize Eh (p.drop A) (Aj (Ak R) N).length=z at*
  obtain⟨z1,z2⟩:=z;simp only at*
  by_cases h1:z2=24
  ·rw[Aas (by rw[Ar];simpa using h1),Aew,Bju h1];rfl
  rw[Aaf (by rw[Ar];simpa using h1),Bhd h1];by_cases h2:z2≠0
  ·rw[Aas (by rw[Al];simpa using h2),Am,Aa];simp only;rw[Aew];rfl
  ·have h0:z2=0:=by simpa using h2
   have:=hfit h0;rw[Aaf (by rw[Al,h0];simp),Ac,Agr A z1.length (by omega) (by omega),Bt (by omega) (by omega),Aa,Aew];rfl
 ·rw[Dr,KA,Bt (by omega) (by omega),Aa,hd.Am6,Aa,Ac,Ah2,hr,Aa];generalize Eh (p.drop A) (Aj (Ak R) N).length=z at*
  obtain⟨z1,z2⟩:=z;simp only at*
  rw[LC,IL];by_cases h1:z2=24
  ·rw[Aas (by rw[Ar];simpa using h1),Aas h1]
  ·rw[Aaf (by rw[Ar];simpa using h1),Aaf h1,Ac,Agr A z1.length (by omega) (by omega)];congr 2
theorem Bfw(o p:LB)(ho:o.length<=64)(hp:p.length<=100000)(a:Int)(x:LB)(u:Bool)(v:Int):
  ∃B:Bool,Arq o p f c w r n [] a x u v=By B/\Cu o p f c w r n [] a x u v=some B:=by
 have hT:Ag o p f c w r n [] a x u v=Ag o p f c w r n [] a x u v:=rfl
 conv at hT=>rhs;rw[Ag,Bp,Aaf hd.ne0,Bw,Bv,Aas (by decide),Ey,Hu]
 rw[Arq,Aaf hd.ne0,Aas (by decide)];have fin:∀A:Nat,A<=p.length->Ag o p f c w r n [] a x u v=(Dr p f c w r n (A:Int)).bind (λ(ag,ak,w1)=>
   if(Ba w1 0)then some (o,p,f,c,w,r,n,[],a,x,u,v,w1)else(Bi p ag (Ac p)).bind λal=>some (o,al,f,c,w,r,n,ak,a,x,u,v,0))->
   ∃B:Bool,Kg o p f c w r n a u v [] x (A:Int)=By B/\Cu o p f c w r n [] a x u v=some B:=by
  intro A hA hT;obtain⟨t1,t2,t3⟩:=Aar hd o p hp A hA a x u v;have hnn:=Ag7 (p.drop A) (Aj (Ak R) N).length;rw[t2,Aa]at hT;rw[t1];generalize Eh (p.drop A) (Aj (Ak R) N).length=z at*
  obtain⟨z1,z2⟩:=z;simp only at*
  by_cases h1:z2=24
  ·rw[Aas h1]at hT;simp only at hT;rw[Aas (by decide)]at hT;exact⟨_,rfl,(rp4 hT).trans (by rw[Bju h1];rfl)⟩
  rw[Aaf h1]at hT;simp only at hT;by_cases h2:z2≠0
  ·rw[Aas (by rw[Al];simpa using h2)]at hT;exact⟨_,rfl,(rp4 hT).trans (by rw[Bhd h1,jV hnn])⟩
  ·have h0:z2=0:=by simpa using h2
   have:=t3 h0;rw[Aaf (by rw[Al,h0];simp),Bt (by omega) (by omega),Aa]at hT;exact⟨_,rfl,(rp4 hT).trans (by rw[Bhd h1];rfl)⟩
 by_cases h2:geq f 2=true
 ·rw[Aas h2]at hT⊢;by_cases h8:p.length<8
  ·rw[Aas (by rw[Ae,Ac];simp;omega)]at hT⊢;rw[Aa]at hT;simp only at hT;rw[Aas (by decide)]at hT;rw[Aew];exact⟨_,rfl,rp4 hT⟩
  ·rw[Aaf (by rw[Ae,Ac];simp;omega)]at hT⊢;have h8':(p.take 8).length=8:=by rw[Ah9];omega
   rw[Dd (by omega) (by omega),Aa,iN o ho,Aa]at hT;rw[Yr,KC,Dd (by omega) (by omega),Aa,show(8:Int).toNat=8 from rfl,wU h8' ho,Aa];rw[show(8:Int).toNat=8 from rfl]at hT;simp only;rw[JP,LY,Aaf (by decide)];by_cases he:(p.take 8==Sm (Vk o).toNat 8)=true
   ·rw[Aaf (by rw[bne,he];decide)]at hT;rw[Aaf (by rw[he];decide)];exact fin 8 (by omega) hT
   ·have he':(p.take 8==Sm (Vk o).toNat 8)=false:=by simpa using he
    rw[Aas (by rw[bne,he'];decide),Aa]at hT;simp only at hT;rw[Aas (by decide)]at hT;rw[Aas (by rw[he'];decide),Am,Aa];simp only;rw[Aew];exact⟨_,rfl,rp4 hT⟩
 ·rw[Aaf h2]at hT⊢;exact fin 0 (by omega) hT
end
theorem Aw2{f c w r n:Int}{F C W R N:Nat}(hd:HdI f c w r n F C W R N)(o p:LB)(ho:o.length<=64)(hp:p.length<=100000)(g:LI)(hg:Sy g=true)(hl:g.length=(Aj (Ak R) N).length)(A:Nat)(hA:A<=g.length)(x:LB)(hx:x.length<=14000000)(u:Bool)(v:Int):
  ∃B:Bool,Arq o p f c w r n g (A:Int) x u v=By B/\Cu o p f c w r n g (A:Int) x u v=some B:=by
 have hc:=hd.ec;subst hc;have hg':=hg;rw[Sy,Ac9,Acw,AX g 100000 (by omega)]at hg';obtain⟨⟨g1,g2⟩,g5,g6⟩:=hg';have hT:Ag o p f (C:Int) w r n g (A:Int) x u v=Ag o p f (C:Int) w r n g (A:Int) x u v:=rfl
 conv at hT=>rhs;rw[Ag,Bp,Aaf hd.ne0,Bw,Bv,Aaf (by rw[Ar,Ac];simp;intro e;subst e;simp at g1)]
 rw[Arq,Aaf hd.ne0,Aaf (by rw[Ar,Ac];simp;intro e;subst e;simp at g1)];by_cases hA2:A=g.length
 ·subst hA2;rw[Aas (by rw[Ar,Ac];simp)]at hT;rw[Aaf (by rw[Ae,Ac];simp)];by_cases h4:4000<p.length
  ·rw[Aas (by rw[As,Ac];simp;omega)]at hT⊢;rw[Am,Aa];simp only;exact⟨_,rfl,rp4 hT⟩
  ·rw[Aaf (by rw[As,Ac];simp;omega)]at hT⊢;rw[Yo,JA];exact⟨_,rfl,rp4 hT⟩
 ·have hlt:A<g.length:=by omega
  have h5:=g5 g[A] (Ane hlt);have hsum:=vT g5 g[A] (Ane hlt);rw[Aaf (by rw[Ar,Ac];simp;omega),Di,El,Bm hlt,Aa]at hT;rw[Aas (by rw[Ae,Ac];simp;omega),Bm hlt,Aa,Aa];by_cases hw:(p.length:Int)<g[A]
  ·rw[Aas (by rw[Ae,Ac];simpa using hw)]at hT⊢;rw[Aa]at hT;simp only at hT;rw[Aas (by decide)]at hT;rw[Atf];exact⟨_,rfl,rp4 hT⟩
  rw[Aaf (by rw[Ae,Ac];simpa using hw)]at hT⊢;have ED:=hd.num;have hlt2:A<(Aj (Ak R) N).length:=by omega
  obtain⟨m,hm,m1,m2⟩:=Ta (Du R) ED.2.2.2.2.1 (Ane hlt2);have hb:Bk w:=by rw[hd.ew];unfold Bk;omega
  obtain⟨xs,e,d1,d2,d3,d4⟩:=Zs (bits:=w) (ch:=C) (n:=m) (t:=Kf o) (p.take g[A].toNat) hb (Kq o) ED.2.1.1 ED.2.1.2 m1 (by omega);have hnn:=tB hb (Kq o) ED.2.1.1 ED.2.1.2 m1 (by omega) d2;rw[XH o ho,Aa];simp only;rw[Aaf (by decide),hd.Aa9,Aa];simp only;rw[Aaf (by simp[Al,Ds,Ac];omega),Ys,IG,Bm hlt2,Aa,Dd (by omega) (by omega),Aa,Aa,DV,Aa];simp only;rw[hm,d1,Aa];simp only;rw[LR o ho,Aa]at hT;simp only at hT;rw[Dd (by omega) (by omega),Aa,Fv,Aa]at hT;simp only at hT;rw[hd.Am6,Aa,Bm hlt2,Aa,Aa,hm]at hT;rw[d2,Aa]at hT;simp only at hT;rw[Ej,Ek]at hT;rw[MB,Yp];by_cases he:e≠0
  ·rw[Aas (by rw[Al];simpa using he)]at hT⊢;rw[Aa]at hT;simp only at hT;rw[Aas (by rw[Al];simpa using he)]at hT;rw[Am,Aa];simp only;rw[Atf];exact⟨_,rfl,(rp4 hT).trans (by rw[jV hnn];rfl)⟩
  ·have he0:e=0:=by simpa using he
   obtain⟨k1,k2,k3⟩:=d3 he0;have hbl:=PK w xs;rw[Aaf (by rw[Al,he0];simp)]at hT⊢;rw[HB hb k2 k1,Aa,Aa]at hT;simp only at hT;rw[Aaf (by decide),Bd (by simp;omega),Aa,Arc,Bd (by omega),Aa,Aa,Bt (by omega) (by omega),Aa]at hT;rw[OD hb k2 k1,Aa];simp only;rw[Aaf (by decide),Bd (by omega),Aa,Bt (by omega) (by omega),Aa,Atf];exact⟨_,rfl,rp4 hT⟩
theorem Aqd(a:LI)(b:Int)(ha:a.length<=100):∀(j i q:Nat),i+j=a.length->j<q->∃r,Ci a b q (i:Int)=some r/\Ml r 0=(a.drop i).any λy=>b==y
 |0,i,q+1,hi,_=>by
  refine⟨-1,?_,?_⟩
  ·rw[Ci,Fj,Aaf (by rw[Ae,Ac];simp;omega)];rfl
  ·rw[show i=a.length by omega,Blu];rfl
 |j+1,i,q+1,hi,hq=>by
  have hlt:i<a.length:=by omega
  obtain⟨r,h1,h2⟩:=Aqd a b ha j (i+1) q (by omega) (by omega);rw[Ci,Fj,Aas (by rw[Ae,Ac];simp;omega),Bm hlt,Aa,drop_cons hlt,List.any_cons];by_cases h:b=a[i]
  ·rw[Aas (by rw[Ar];simpa using h)];refine⟨_,rfl,?_⟩;rw[Ds,Bju (by omega),h];simp
  ·rw[Aaf (by rw[Ar];simpa using h),Ah (by omega) (by omega)];refine⟨r,h1,?_⟩;rw[h2,beq_eq_false_iff_ne.2 h,Bool.false_or]
theorem Bao(v:Int):∃B:Bool,Tg v=some B/\Zi v=some B:=by
 obtain⟨r,h1,h2⟩:=Aqd [4,12,16,22,24,26,38] v (by decide) 7 0 Au rfl (by have:=Aq;omega);refine⟨_,?_,rfl⟩;rw[Tg,Is,Kr,Im,Iv];have h1':Ci [4,12,16,22,24,26,38] v Au 0=some r:=h1;rw[h1',Aa,Aa,h2];simp only[Bnk,List.any_cons,List.any_nil,Bool.or_false,Ar,Bool.or_assoc]
theorem wM(B:Bool):By B=some (if B=true then 0 else 8):=by
 rw[By,bL];cases B<;>rfl
theorem Bey(a b:LB)(f g h k m:Int)(n:LI)(o:Int)(p:LB)(u:Bool)(v:Int)(hb:b.length<=16000000)(hn:n.length<=16000000)(hp:p.length<=16000000):
  Eo a b f g h k m n o p u v=some (a,b,f,g,h,k,m,n,o,p,u,v):=by
 rw[Eo,Mv,Bd (by simp;omega),Aa,Aa,Mv,Bd (by simp;omega),Aa,Aa,Hc,Bd (by simp;omega),Aa,Aa];rfl
theorem Af1(o p:LB)(f c w r n:Int)(g:LI)(a:Int)(x:LB)(u:Bool)(v:Int)(hp:p.length<=100000)(hg:g.length<=100000)(hx:x.length<=14000000):
  ∃E,Pd o p f c w r n g a x u v=some E/\Ea o p f c w r n g a x u v=some E:=by
 rw[Pd,AY,Ea];by_cases ho:64<o.length
 ·rw[Aas (by rw[As,Ac];simp;omega),Aas (by rw[As,Ac];simp;omega)];exact⟨8,rfl,rfl⟩
 have hO:¬(Ef (Ac o) 64=true):=by rw[As,Ac];simp;omega
 rw[Aaf hO,Aaf hO];by_cases hw:(geq v 0&& !u)=true
 ·rw[Aas hw,Aas hw,Bey o p f c w r n g a x u v (by omega) (by omega) (by omega),Aa];simp only;rcases Asi o p f c w r n g a x u v with⟨e1,e2⟩|⟨e1,e2,hd⟩
  ·rw[e1,e2,Aa,Aa,Aaf (by decide),Aas (by decide),wM];exact⟨8,rfl,rfl⟩
  ·rw[e1,e2,Aa,Aas rfl];have key:∃B:Bool,Arq o p f c w r n g a x u v=By B/\Cu o p f c w r n g a x u v=some B:=by
    cases hd with
    |new e1 e2 e3 e4 e5 e6 e7 e8=>subst e1;exact Awd o p c w r n g a x u v hp
    |head F C W R N h hpw e6 e7 e8=>subst e6;exact Bfw h o p (by omega) hp a x u v
    |tab F C W R N A h hpw ht hl ea hA=>subst ea;exact Aw2 h o p (by omega) hp g ht hl A hA x hx u v
   obtain⟨B,k1,k2⟩:=key;rw[k2,Aa];refine⟨if B=true then 0 else 8,k1.trans (wM B),?_⟩;cases B<;>rfl
 ·rw[Aaf hw,Aaf hw];by_cases hl:(geq (Ac p) 0&&geq (Ac g) 0)=true
  ·rw[Aas hl,Aas hl];generalize(geq f 0&&(geq c 0&&(geq w 0&&(geq r 0&&(geq n 0&&true)))))=z;by_cases hz:((z&&geq a 0)&&gle (Ac x) 12000)=true
   ·rw[Aas hz];simp only[Ac9,SL,Ac,Acw]at hz;obtain⟨⟨z1,z2⟩,z3⟩:=hz;have hN:¬((!(z&&geq a 0)||Ef (Ac x) 12000)=true):=by rw[z1,z2,As,Ac];simp;omega
    rw[Aaf hN];by_cases hv:v=0
    ·have v1:geq v 0=true:=by rw[Ar];simpa using hv
     have v2:¬(Ba v 0=true):=by rw[Al];simpa using hv
     rw[Aas v1,Aaf v2,wM];exact⟨0,rfl,rfl⟩
    ·have v1:¬(geq v 0=true):=by rw[Ar];simpa using hv
     have v2:Ba v 0=true:=by rw[Al];simpa using hv
     rw[Aaf v1,Aas v2];obtain⟨B,k1,k2⟩:=Bao v;rw[k1,k2,Aa,Aa,wM,wM];cases u
     ·refine⟨if B=true then 0 else 8,by simp,?_⟩;cases B<;>rfl
     ·exact⟨8,rfl,rfl⟩
   ·rw[Aaf hz,Aas,wM]
    ·exact⟨8,rfl,rfl⟩
    ·simp only[Ac9,SL,Ac,Acw]at hz;simp only[Bdh,Ayy,As,Ac,Acw];by_cases hz2:(z&&geq a 0)=true
     ·rw[Ac9]at hz2;exact .inr (by have hq:¬((x.length:Int)<=12000):=λh=>hz ⟨hz2,h⟩;omega)
     ·exact .inl (by simpa using hz2)
  ·rw[Aaf hl,Aaf hl,Aaf (by simp),Aas (by simp),wM];exact⟨8,rfl,rfl⟩
def YM(bk:LB->Int->Int->Int->Int->Int->Int->LI->LB->Ax)(o:LB)(u:Bool)(v:Int):LB->Int->Int->Int->Int->Int->Int->LI->LB->Ax:=
 Jn (Po bk o u v) (Us bk o u v) (Mg bk o u v) (Vc bk o u v) (Mh bk o u v) (Pj bk o u v) (Vg bk o u v) (Cp bk o u v) (BO bk o u v) o u v
structure SzD (p:LB) (g:LI) (a:Int) (x:LB):Prop where
 hp:p.length<=100000
 hg:g.length<=1000
 hx:x.length+12000*(g.length-a.toNat)<=13000000
def muD(f:Int)(g:LI)(a:Int):Nat:=if f=0 then 1003 else if g=[]then 1002 else g.length-a.toNat+1
section
variable {bk:LB->Int->Int->Int->Int->Int->Int->LI->LB->Ax} {o p:LB} {f c w r n:Int} {g:LI} {a:Int} {x:LB} {u:Bool} {v:Int}
theorem Bcg(hp:p.length<=100000)(hg:g.length<=1000)(hx:x.length<=13000000):Eo o p f c w r n g a x u v=some (o,p,f,c,w,r,n,g,a,x,u,v):=by
 rw[Eo,Mv,Bd (by simp;omega),Aa,Aa,Mv,Bd (by simp;omega),Aa,Aa,Hc,Bd (by simp;omega),Aa,Aa];rfl
theorem Bli(h:SzD p g a x)(e:Int):Cp bk o u v p f c w r n a true e g x=some (o,p,f,c,w,r,n,g,a,x,u,v,0):=by
 rw[Cp,NV,Aas rfl,Bcg h.hp h.hg (by have:=h.hx;omega),Aa]
theorem Bkf{e:Int}(h:e≠0):Cp bk o u v p f c w r n a false e g x=some (o,[],0,0,0,0,0,[],0,x,false,e,e):=by
 rw[Cp,NV,Aaf (by decide),Aas (by rw[Al];simpa using h)];rfl
inductive StepR (bk:LB->Int->Int->Int->Int->Int->Int->LI->LB->Ax) (o p:LB) (f c w r n:Int) (g:LI) (a:Int) (x:LB) (u:Bool) (v:Int):Prop
 |wait:YM bk o u v p f c w r n a g x=some (o,p,f,c,w,r,n,g,a,x,u,v,0)->Ag o p f c w r n g a x u v=some (o,p,f,c,w,r,n,g,a,x,u,v, -1)->StepR bk o p f c w r n g a x u v
 |err (e:Int) {t1 t2:LB} {t3 t4 t5 t6 t7:Int} {t8:LI} {t9:Int} {t10:LB} {t11:Bool} {t12:Int}:0<e->YM bk o u v p f c w r n a g x=some (o,[],0,0,0,0,0,[],0,x,false,e,e)->
   Ag o p f c w r n g a x u v=some (t1,t2,t3,t4,t5,t6,t7,t8,t9,t10,t11,t12,e)->StepR bk o p f c w r n g a x u v
 |next (p':LB) (f' c' w' r' n':Int) (g':LI) (a':Int) (x':LB):YM bk o u v p f c w r n a g x=bk p' f' c' w' r' n' a' g' x'->Ag o p f c w r n g a x u v=some (o,p',f',c',w',r',n',g',a',x',u,v,0)->
   FitD o f' c' w' r' n' g' a' x'->SzD p' g' a' x'->p'.length<=p.length->muD f' g' a'<muD f g a->StepR bk o p f c w r n g a x u v
theorem f62{d:Bool}{e:Int}:Po bk o u v a g x d e p f c w r n=Cp bk o u v p f c w r n a d e g x:=rfl
theorem f75{d:Bool}{e:Int}:Mg bk o u v f c w r n a x d e p g=Cp bk o u v p f c w r n a d e g x:=rfl
theorem f78{d:Bool}{e:Int}:Pj bk o u v f c w r n g d e p a x=Cp bk o u v p f c w r n a d e g x:=rfl
theorem mkW(hZ:SzD p g a x)(hF:YM bk o u v p f c w r n a g x=Cp bk o u v p f c w r n a true 0 g x)(hT:Ag o p f c w r n g a x u v=some (o,p,f,c,w,r,n,g,a,x,u,v, -1)):StepR bk o p f c w r n g a x u v:=
 .wait (hF.trans (Bli hZ 0)) hT
theorem mkE{e:Int}{p2:LB}{f2 c2 w2 r2 n2 a2:Int}{g2:LI}{t1 t2:LB}{t3 t4 t5 t6 t7:Int}{t8:LI}{t9:Int}{t10:LB}{t11:Bool}{t12:Int}(he:0<e)(hF:YM bk o u v p f c w r n a g x=Cp bk o u v p2 f2 c2 w2 r2 n2 a2 false e g2 x)
  (hT:Ag o p f c w r n g a x u v=some (t1,t2,t3,t4,t5,t6,t7,t8,t9,t10,t11,t12,e)):StepR bk o p f c w r n g a x u v:= .err e he (hF.trans (Bkf (by omega))) hT
theorem HdI.fnz{F C W R N:Nat}(h:HdI f c w r n F C W R N):f≠0:=by
 have:=h.num;rw[h.ef];omega
theorem Bbw(hp:p.length<=100000):StepR bk o p 0 0 0 0 0 [] 0 [] u v:=by
 have hZ:SzD p [] 0 []:=⟨hp,by simp,by simp⟩;have hT:Ag o p 0 0 0 0 0 [] 0 [] u v=Ag o p 0 0 0 0 0 [] 0 [] u v:=rfl
 conv at hT=>rhs;rw[Ag,Bp,Aas (by decide),Zu p hp,Aa,stS]
 have hF:YM bk o u v p 0 0 0 0 0 0 [] []=YM bk o u v p 0 0 0 0 0 0 [] []:=rfl
 conv at hF=>rhs;rw[YM,Jn,Aas (by decide),Pu p (by omega),Aa]
 have hfn:=Aa3 p;have hrn:=Af8 (Il p);have hok:=BR (b:=p);simp only at hT hF;by_cases h1:(Bo p).2=24
 ·rw[Aas h1]at hT;simp only at hT;rw[Aas (by decide)]at hT;rw[Aas (by rw[Ar];simpa using h1)]at hF;exact mkW hZ hF hT
 rw[Aaf h1]at hT;rw[Aaf (by rw[Ar];simpa using h1)]at hF;by_cases h2:(Bo p).2≠0
 ·rw[Aas h2]at hT;simp only at hT;rw[Aas (by rw[Al];simpa using h2)]at hT;rw[Aas (by rw[Al];simpa using h2),Am,Aa]at hF;exact mkE (by omega) hF hT
 have h0:(Bo p).2=0:=by simpa using h2
 obtain⟨k1,k2,k3⟩:=hok h0;have hl:(Il p).length=p.length-(Bo p).1.toNat:=by rw[Il,Aky]
 rw[Aaf h2]at hT;rw[Aaf (by rw[Al,h0];simp),Bt (by omega) (by omega),Aa,Aa,show p.drop (Bo p).1.toNat=Il p from rfl,Bct,Aa]at hF;by_cases h3:(Oy (Il p) ID3||Oy (Il p) APX)=true
 ·rw[Aas h3]at hT hF;simp only at hT;rw[Aas (by decide)]at hT;exact mkW hZ hF hT
 rw[Aaf h3]at hT hF;rw[OP _ (by omega),Aa]at hF;by_cases h5:(Eg (Il p)).2.2.2.2.2=24
 ·rw[Aas h5]at hT;simp only at hT;rw[Aas (by decide)]at hT;rw[Aas (by rw[Ar];simpa using h5)]at hF;exact mkW hZ hF hT
 rw[Aaf h5]at hT;rw[Aaf (by rw[Ar];simpa using h5)]at hF;simp only at hT;by_cases h6:(Eg (Il p)).2.2.2.2.2≠0
 ·rw[Aas (by rw[Al];simpa using h6)]at hT hF;rw[Am,Aa]at hF;exact mkE (by have:=hrn;generalize(Eg (Il p)).2.2.2.2.2=z at *;omega) (hF.trans f62) hT
 have h7:(Eg (Il p)).2.2.2.2.2=0:=by simpa using h6
 obtain⟨r1,h22,r3,r4⟩:=oW h7;rw[Aaf (by rw[Al,h7];simp),Bt (by omega) (by omega),Aa,Hk,Ha,Et]at hT;rw[Aaf (by rw[Al,h7];simp),Ah (by omega) (by omega),Bt (by omega) (by omega),Aa,Us,QA,Qd]at hF;simp only at hT hF;by_cases h8:((o==([]:LB)) !=geq (Eg (Il p)).1 1)=true
 ·rw[Aas h8]at hT hF;rw[Aa]at hT hF;rw[Am,Aa]at hF;simp only at hF;exact mkE (by decide) (hF.trans f62) hT
 ·rw[Aaf h8]at hT hF;rw[Aa]at hT hF;rw[Am,Aa]at hF;have hd:HdI (Eg (Il p)).1 (Eg (Il p)).2.1 (Eg (Il p)).2.2.1 (Eg (Il p)).2.2.2.1 (Eg (Il p)).2.2.2.2.1 (f0 (Il p)) (f1 (Il p)) (f2 (Il p)) (f3 (Il p)) (f4 (Il p)):=by
   constructor<;>first|(rw[r1])|assumption
  refine .next _ _ _ _ _ _ [] 0 [] (by exact hF) hT (.head _ _ _ _ _ hd ?_ rfl rfl rfl) ⟨by rw[Aky];omega,by simp,by simp⟩ (by rw[Aky];omega) ?_
  ·have e:geq (Eg (Il p)).1 1=decide (f0 (Il p)=1):=by rw[hd.ef,Ar,Anb];simp;omega
   rw[<-e];simpa using h8
  ·rw[muD,muD,Aaf hd.fnz,Aas rfl,Aas rfl];omega
section
variable {F C W R N:Nat} (hd:HdI f c w r n F C W R N)
include hd
theorem Avz(hp:p.length<=100000)(hpw:(o==([]:LB))=decide (F=1))(A:Nat)(hA:A<=p.length)
  (hT:Ag o p f c w r n [] 0 [] u v=(Dr p f c w r n (A:Int)).bind (λ(ag,ak,w1)=>if(Ba w1 0)then some (o,p,f,c,w,r,n,([]:LI),(0:Int),([]:LB),u,v,w1)else(Bi p ag (Ac p)).bind λal=>some (o,al,f,c,w,r,n,ak,(0:Int),([]:LB),u,v,(0:Int))))
  (hF:YM bk o u v p f c w r n 0 [] []=Mh bk o u v p f c w r n 0 [] [] (A:Int)):StepR bk o p f c w r n [] 0 [] u v:=by
 have hZ:SzD p [] 0 []:=⟨hp,by simp,by simp⟩;obtain⟨_,t2,t3⟩:=Aar hd o p hp A hA 0 [] u v;have hs:=sP (p.drop A) (Aj (Ak R) N).length (by rw[Aky];omega);have hnn:=Ag7 (p.drop A) (Aj (Ak R) N).length;have hok:=iK (b:=p.drop A) (n:=(Aj (Ak R) N).length);rw[t2,Aa]at hT;rw[Mh,PB,hd.Aa9,Aa]at hF;simp only at hF;rw[Aaf (by decide),Bt (by omega) (by omega),Aa,Ah2,Ac,hs,Aa]at hF;generalize hz:Eh (p.drop A) (Aj (Ak R) N).length=z at*
 obtain⟨z1,z2⟩:=z;simp only at*
 by_cases h1:z2=24
 ·rw[Aas h1]at hT;simp only at hT;rw[Aas (by decide)]at hT;rw[Aas (by rw[Ar];simpa using h1)]at hF;exact mkW hZ hF hT
 rw[Aaf h1]at hT;rw[Aaf (by rw[Ar];simpa using h1)]at hF;simp only at hT;by_cases h2:z2≠0
 ·rw[Aas (by rw[Al];simpa using h2)]at hT hF;rw[Am,Aa]at hF;exact mkE (by omega) hF hT
 ·have h0:z2=0:=by simpa using h2
  subst h0;have h3:=t3 rfl;obtain⟨k1,k2,k3,k4,k5,k6⟩:=hok rfl;simp only[Aie,Boj]at k1;have hl:z1.length=(Aj (Ak R) N).length:=by rw[k1];exact Ux _ _
  rw[<-k1]at k5 k6;rw[Aaf (by decide),Bt (by omega) (by omega),Aa]at hT;rw[Aaf (by decide),Ac,Agr A z1.length (by omega) (by omega),Bt (by omega) (by omega),Aa]at hF;have hne:z1≠ []:=by intro e;rw[e]at hl;simp at hl;omega
  refine .next _ _ _ _ _ _ z1 0 [] (by exact hF) hT (.tab _ _ _ _ _ 0 hd hpw ?_ hl rfl (by omega)) ⟨by rw[Aky];omega,by omega,by simp;omega⟩ (by rw[Aky];omega) ?_
  ·rw[Sy,Ac9,Acw,AX z1 100000 (by omega)];exact⟨by omega,k5,k6⟩
  ·rw[muD,muD,Aaf hd.fnz,Aaf hd.fnz,Aas rfl,Aaf hne];simp;omega
theorem Aws(ho:o.length<=64)(hp:p.length<=100000)(hpw:(o==([]:LB))=decide (F=1)):StepR bk o p f c w r n [] 0 [] u v:=by
 have hZ:SzD p [] 0 []:=⟨hp,by simp,by simp⟩;have hT:Ag o p f c w r n [] 0 [] u v=Ag o p f c w r n [] 0 [] u v:=rfl
 conv at hT=>rhs;rw[Ag,Bp,Aaf hd.ne0,Bw,Bv,Aas (by decide),Ey,Hu]
 have hF:YM bk o u v p f c w r n 0 [] []=YM bk o u v p f c w r n 0 [] []:=rfl
 conv at hF=>rhs;rw[YM,Jn,Aaf hd.ne0,Aas (by decide)]
 by_cases h2:geq f 2=true
 ·rw[Aas h2]at hT hF;by_cases h8:p.length<8
  ·rw[Aas (by rw[Ae,Ac];simp;omega)]at hT hF;rw[Aa]at hT;simp only at hT;rw[Aas (by decide)]at hT;exact mkW hZ hF hT
  ·rw[Aaf (by rw[Ae,Ac];simp;omega)]at hT hF;have h8':(p.take 8).length=8:=by rw[Ah9];omega
   rw[Dd (by omega) (by omega),Aa,iN o ho,Aa]at hT;rw[Vc,OS,Dd (by omega) (by omega),Aa,show(8:Int).toNat=8 from rfl,wU h8' ho,Aa]at hF;rw[show(8:Int).toNat=8 from rfl]at hT;simp only at hF;rw[PU,OH,Aaf (by decide)]at hF;by_cases he:(p.take 8==Sm (Vk o).toNat 8)=true
   ·rw[Aaf (by rw[bne,he];decide)]at hT;rw[Aaf (by rw[he];decide)]at hF;exact Avz hd hp hpw 8 (by omega) hT hF
   ·have he':(p.take 8==Sm (Vk o).toNat 8)=false:=by simpa using he
    rw[Aas (by rw[bne,he'];decide),Aa]at hT;simp only at hT;rw[Aas (by decide)]at hT;rw[Aas (by rw[he'];decide),Am,Aa]at hF;simp only at hF;exact mkE (by decide) (hF.trans f75) hT
 ·rw[Aaf h2]at hT hF;exact Avz hd hp hpw 0 (by omega) hT hF
theorem Azt(ho:o.length<=64)(hpw:(o==([]:LB))=decide (F=1))(hg:Sy g=true)(hl:g.length=(Aj (Ak R) N).length)(A:Nat)(hA:A<=g.length)(hZ:SzD p g (A:Int) x):StepR bk o p f c w r n g (A:Int) x u v:=by
 have hp:=hZ.hp;have hx:=hZ.hx;have hc:=hd.ec;subst hc;have hg':=hg;rw[Sy,Ac9,Acw,AX g 100000 (by omega)]at hg';obtain⟨⟨g1,g2⟩,g5,g6⟩:=hg';have hgn:¬(geq (Ac g) 0=true):=by rw[Ar,Ac];simp;intro e;subst e;simp at g1
 have hT:Ag o p f (C:Int) w r n g (A:Int) x u v=Ag o p f (C:Int) w r n g (A:Int) x u v:=rfl
 conv at hT=>rhs;rw[Ag,Bp,Aaf hd.ne0,Bw,Bv,Aaf hgn]
 have hF:YM bk o u v p f (C:Int) w r n (A:Int) g x=YM bk o u v p f (C:Int) w r n (A:Int) g x:=rfl
 conv at hF=>rhs;rw[YM,Jn,Aaf hd.ne0,Aaf hgn]
 by_cases hA2:A=g.length
 ·subst hA2;rw[Aas (by rw[Ar,Ac];simp)]at hT;rw[Aaf (by rw[Ae,Ac];simp)]at hF;by_cases h4:4000<p.length
  ·rw[Aas (by rw[As,Ac];simp;omega)]at hT hF;rw[Am,Aa]at hF;exact mkE (by decide) hF hT
  ·rw[Aaf (by rw[As,Ac];simp;omega)]at hT hF;exact mkW hZ hF hT
 ·have hlt:A<g.length:=by omega
  have h5:=g5 g[A] (Ane hlt);have hsum:=vT g5 g[A] (Ane hlt);rw[Aaf (by rw[Ar,Ac];simp;omega),Di,El,Bm hlt,Aa]at hT;rw[Aas (by rw[Ae,Ac];simp;omega),Bm hlt,Aa,Aa]at hF;by_cases hw:(p.length:Int)<g[A]
  ·rw[Aas (by rw[Ae,Ac];simpa using hw)]at hT hF;rw[Aa]at hT;simp only at hT;rw[Aas (by decide)]at hT;exact mkW hZ hF hT
  rw[Aaf (by rw[Ae,Ac];simpa using hw)]at hT hF;have ED:=hd.num;have hlt2:A<(Aj (Ak R) N).length:=by omega
  obtain⟨m,hm,m1,m2⟩:=Ta (Du R) ED.2.2.2.2.1 (Ane hlt2);have hb:Bk w:=by rw[hd.ew];unfold Bk;omega
  obtain⟨xs,e,d1,d2,d3,d4⟩:=Zs (bits:=w) (ch:=C) (n:=m) (t:=Kf o) (p.take g[A].toNat) hb (Kq o) ED.2.1.1 ED.2.1.2 m1 (by omega);have hnn:=tB hb (Kq o) ED.2.1.1 ED.2.1.2 m1 (by omega) d2;rw[XH o ho,Aa]at hF;simp only at hF;rw[Aaf (by decide),hd.Aa9,Aa]at hF;simp only at hF;rw[Aaf (by simp[Al,Ds,Ac];omega),Vg,OA,Bm hlt2,Aa,Dd (by omega) (by omega),Aa,Aa,DV,Aa]at hF;simp only at hF;rw[hm,d1,Aa]at hF;simp only at hF;rw[LR o ho,Aa]at hT;simp only at hT;rw[Dd (by omega) (by omega),Aa,Fv,Aa]at hT;simp only at hT;rw[hd.Am6,Aa,Bm hlt2,Aa,Aa,hm]at hT;rw[d2,Aa]at hT;simp only at hT;rw[Ej,Ek]at hT;rw[PT,AW]at hF;by_cases he:e≠0
  ·rw[Aas (by rw[Al];simpa using he)]at hT hF;rw[Aa]at hT;simp only at hT;rw[Aas (by rw[Al];simpa using he)]at hT;rw[Am,Aa]at hF;exact mkE (by omega) hF hT
  ·have he0:e=0:=by simpa using he
   obtain⟨k1,k2,k3⟩:=d3 he0;have hbl:=PK w xs;have ht:((A:Int)).toNat=A:=rfl;rw[ht]at hx;rw[Aaf (by rw[Al,he0];simp)]at hT hF;rw[HB hb k2 k1,Aa,Aa]at hT;simp only at hT;rw[Aaf (by decide),Bd (by simp;omega),Aa,Arc,Bd (by omega),Aa,Aa,Bt (by omega) (by omega),Aa,Ah (by omega) (by omega)]at hT;rw[OD hb k2 k1,Aa]at hF;simp only at hF;rw[Aaf (by decide),Bd (by omega),Aa,Bt (by omega) (by omega),Aa,Ah (by omega) (by omega)]at hF;have e1:((A:Int)+1).toNat=A+1:=rfl;refine .next _ _ _ _ _ _ _ _ _ (by exact hF) hT (.tab _ _ _ _ _ (A+1) hd hpw hg hl rfl (by omega)) ⟨by rw[Aky];omega,hZ.hg,by rw[e1,Abt];omega⟩ (by rw[Aky];omega) ?_
   have hne:g≠ []:=by intro e;subst e;simp at g1
   rw[muD,muD,Aaf hd.fnz,Aaf hd.fnz,Aaf hne,Aaf hne,e1,ht];omega
end
theorem Afe(hf:FitD o f c w r n g a x)(ho:o.length<=64)(hZ:SzD p g a x):StepR bk o p f c w r n g a x u v:=by
 cases hf with
 |new e1 e2 e3 e4 e5 e6 e7 e8=>subst e1 e2 e3 e4 e5 e6 e7 e8;exact Bbw hZ.hp
 |head F C W R N h hpw e6 e7 e8=>subst e6 e7 e8;exact Aws h ho hZ.hp hpw
 |tab F C W R N A h hpw ht hl ea hA=>subst ea;exact Azt h ho hpw ht hl A hA hZ
end
abbrev Bje:=LB×LB×Int×Int×Int×Int×Int×LI×Int×LB×Bool×Int×Int
theorem Ba4:∀(j:Nat) (b:LB) (a:Nat),(Amc j b a).2=0\/ (Amc j b a).2=38
 |0,_,_=> .inr rfl
 |j+1,b,a=>by
  rw[Amc];split
  ·exact .inl rfl
  ·split
   ·exact .inr rfl
   ·exact Ba4 j _ _
theorem Ak0(b:LB):(Qz b).2=0\/ (Qz b).2=38:=by
 rw[Qz];split
 ·exact .inr rfl
 ·exact Ba4 _ _ _
theorem ZF{o p:LB}{f c w r n:Int}{g:LI}{a:Int}{x:LB}{u:Bool}{v:Int}(hp:p.length<=100000)(hg:g.length<=2000)(hx:x.length<=13000000):Za o p f c w r n g a x u v=some (o,p,f,c,w,r,n,g,a,x,u,v):=by
 rw[Za,SO,Bd (by simp;omega),Aa,Bd (by simp;omega),Aa,TM,SG,Bd (by simp;omega),Aa];rfl
theorem Awi{o p:LB}{f c w r n:Int}{g:LI}{a:Int}{x:LB}{u:Bool}{v:Int}(hp:p.length<=100000)(hg:g.length<=2000)(hx:x.length<=13000000):Eo o p f c w r n g a x u v=some (o,p,f,c,w,r,n,g,a,x,u,v):=by
 rw[Eo,Mv,Bd (by simp;omega),Aa,Aa,Mv,Bd (by simp;omega),Aa,Aa,Hc,Bd (by simp;omega),Aa,Aa];rfl
theorem wA{o p:LB}{f c w r n:Int}{g:LI}{a:Int}{x:LB}{u:Bool}{v e:Int}(hx:x.length<=13000000):CI o p f c w r n g a x u v e=some (o,[],0,0,0,0,0,[],0,x,false,e,e):=by
 rw[CI,bT,Bd (by simp;omega),Aa];rfl
theorem Bcp{p:LB}{f:Int}{g:LI}{a:Int}{x:LB}(h:SzD p g a x):muD f g a<1004:=by
 have:=h.hg;unfold muD;split
 ·omega
 ·split<;>omega
section
variable {o p:LB} {f c w r n:Int} {g:LI} {a:Int} {x:LB} {u:Bool} {v:Int} (hp:p.length<=20000) (hg:g.length<=2000) (hx:x.length<=13000000)
include hp hg hx
theorem rI{E:Int}(hE:Pd o p f c w r n g a x u v=some E):Th o p f c w r n g a x u v=if E≠0 then some ([],[],0,0,0,0,0,[],0,[],false,0,E)else some (o,p,f,c,w,r,n,g,a,x,u,v,if v≠0 then v else if u=true then 36 else 0):=by
 rw[Th,hE,Aa];by_cases h:E≠0
 ·rw[Aas (by rw[Al];simpa using h),Aas h]
 rw[Aaf (by rw[Al];simpa using h),Aaf h,Awi (by omega) hg (by omega)];by_cases hv:v≠0
 ·rw[Aas (by rw[Al];simpa using hv),Aas hv,Aa]
 ·rw[Aaf (by rw[Al];simpa using hv),Aaf hv];cases u<;>simp[Aa]
omit hg hx in
theorem Ab9:∃e,JX o p f c w r n g a x u v=some e/\Da o p f c w r n g a x u v=some e:=by
 rw[JX,Da];by_cases h0:geq f 0=true
 ·rw[Aas h0,Aas h0,Pu p (by omega),BI p (by omega),Aa,Aa];have hok:=BR (b:=p);simp only;by_cases h2:(Bo p).2≠0
  ·rw[Aas (by rw[Al];simpa using h2),Aas (by rw[Al];simpa using h2)];exact⟨_,rfl,rfl⟩
  have h3:(Bo p).2=0:=by simpa using h2
  obtain⟨k1,k2,k3⟩:=hok h3;have hl:(Il p).length<=p.length:=by rw[Il,Aky];omega
  rw[Aaf (by rw[Al,h3];simp),Aaf (by rw[Al,h3];simp),Bt (by omega) (by omega),Aa,Aa,show p.drop (Bo p).1.toNat=Il p from rfl,OP _ (by omega),iI _ (by omega),Aa];exact⟨_,rfl,rfl⟩
 ·rw[Aaf h0,Aaf h0,Bool.or_comm];by_cases h1:(geq (Ac g) 0||Cl a (Ac g))=true
  ·rw[Aas h1,Aas h1];exact⟨_,rfl,rfl⟩
  ·rw[Aaf h1,Aaf h1,Abo p (by omega),wK p (by omega),Aa,Aa];simp only;refine⟨(Qz p).2,rfl,?_⟩;rcases Ak0 p with h|h
   ·rw[Aaf (by rw[h];decide),h]
   ·rw[Aas (by rw[h];decide),h]
end
theorem cL{α β:Type}{o:Option α}{f:α->Option β}{r:β}(h:Option.bind o f=some r):∃x,o=some x/\f x=some r:=by
 cases o with
 |none=>cases h
 |some x=>exact⟨x,rfl,h⟩
theorem Azv{α:Type}{l:List α}{i:Int}{x:α}(h:Go.Lv.Ap l i=some x):x∈l:=by
 unfold Go.Lv.Ap at h;split at h
 ·exact List.mem_of_getElem? h
 ·cases h
theorem Aea{o p:LB}(q:LB){f c w r n:Int}{g:LI}{a:Int}{x:LB}{u:Bool}{v:Int}{y:LB}{e:Int}(hg:∀z∈g,0<=z)(h:Di o p f c w r n g a x u v=some (y,e))(he:e≠ -1):Di o (p++q) f c w r n g a x u v=some (y,e):=by
 rw[Di,El]at h⊢;obtain⟨l,hl,h⟩:=cL h;have hl0:=hg l (Azv hl);rw[hl,Aa];by_cases hc:(p.length:Int)<l
 ·rw[Aas (by rw[Ae,Ac];simpa using hc)]at h;cases h;exact absurd rfl he
 ·have hc':¬(Cl (Ac (p++q)) l=true):=by rw[Ae,Ac,Abt];simp;omega
  rw[Aaf (by rw[Ae,Ac];simpa using hc)]at h;rw[Aaf hc',Dd hl0 (by rw[Abt];omega),Od (by omega)];rw[Dd hl0 (by omega)]at h;simpa only[Ej,Ek]using h
theorem Ap8{f c w r n:Int}{F C W R N:Nat}(hd:HdI f c w r n F C W R N){p:LB}(q:LB)(hp:(p++q).length<=100000){A:Nat}(hA:A<=p.length){k:Int}{l:LI}{e:Int}(h:Dr p f c w r n (A:Int)=some (k,l,e))(he:e≠ -1):
  Dr (p++q) f c w r n (A:Int)=some (k,l,e)/\ (e=0->0<=k/\k<=p.length):=by
 have hp':p.length<=100000:=by rw[Abt]at hp;omega
 obtain⟨_,t2,t3⟩:=Aar hd [] p hp' A hA 0 [] false 0;obtain⟨_,s2,_⟩:=Aar hd [] (p++q) hp A (by rw[Abt];omega) 0 [] false 0;rw[t2]at h;rw[s2,Ayz hA];by_cases h1:(Eh (p.drop A) (Aj (Ak R) N).length).2=24
 ·rw[Aas h1]at h;cases h;exact absurd rfl he
 ·rw[Aaf h1]at h;rw[Axg q _ h1,Aaf h1];refine⟨h,λe0=>?_⟩;cases h;have:=t3 e0;constructor
  ·omega
  ·exact this
theorem Ae8{f c w r n:Int}{F C W R N:Nat}(hd:HdI f c w r n F C W R N){o p:LB}(q:LB)(hp:(p++q).length<=100000){k:Int}{l:LI}{e:Int}(h:Ey p f c w r n o=some (k,l,e))(he:e≠ -1):
  Ey (p++q) f c w r n o=some (k,l,e)/\ (e=0->0<=k/\k<=p.length):=by
 rw[Ey,Hu]at h⊢;by_cases hf:geq f 2=true
 ·rw[Aas hf]at h⊢;by_cases h8:p.length<8
  ·rw[Aas (by rw[Ae,Ac];simp;omega)]at h;cases h;exact absurd rfl he
  ·have n1:¬(Cl (Ac p) 8=true):=by rw[Ae,Ac];simp;omega
   have n2:¬(Cl (Ac (p++q)) 8=true):=by rw[Ae,Ac,Abt];simp;omega
   rw[Aaf n1,Dd (by decide) (by omega),Aa]at h;rw[Aaf n2,Dd (by decide) (by rw[Abt];omega),Aa,Od (show(8:Int).toNat<=p.length from by simp;omega)];obtain⟨y,hy,h⟩:=cL h;rw[hy,Aa];by_cases hm:(p.take (8:Int).toNat !=y)=true
   ·rw[Aas hm]at h⊢;cases h;exact⟨rfl,λe=>by cases e⟩
   ·rw[Aaf hm]at h⊢;exact Ap8 hd q hp (A:=8) (by omega) h he
 ·rw[Aaf hf]at h⊢;exact Ap8 hd q hp (A:=0) (by omega) h he
theorem kD{p q af:LB}{n:Int}(h:Bi p n (Ac p)=some af):Bi (p++q) n (Ac (p++q))=some (af++q):=by
 unfold Bi Ac at h⊢;split at h
 ·rename_i hc;cases h;rw[Aas ⟨hc.1,by rw[Abt];omega,by omega⟩];simp only[Ah2,Aye];rw[Ayz (by omega)]
 ·cases h
theorem qU{o p:LB}(q:LB){f c w r n:Int}{g:LI}{a:Int}{x:LB}{u:Bool}{v:Int}(hf:FitD o f c w r n g a x)(hp:(p++q).length<=100000){t1 t2:LB}{t3 t4 t5 t6 t7:Int}{t8:LI}{t9:Int}{t10:LB}{t11:Bool}{t12 e:Int}
  (h:Ag o p f c w r n g a x u v=some (t1,t2,t3,t4,t5,t6,t7,t8,t9,t10,t11,t12,e)) (he:e≠ -1):
  (e=0->Ag o (p++q) f c w r n g a x u v=some (t1,t2++q,t3,t4,t5,t6,t7,t8,t9,t10,t11,t12,0))/\
  (e≠0->∃(s1 s2:LB) (s3 s4 s5 s6 s7:Int) (s8:LI) (s9:Int) (s10:LB) (s11:Bool) (s12:Int),Ag o (p++q) f c w r n g a x u v=some (s1,s2,s3,s4,s5,s6,s7,s8,s9,s10,s11,s12,e)):=by
 have hp':p.length<=100000:=by rw[Abt]at hp;omega
 have zero:¬(Ba (0:Int) 0=true):=by decide
 rw[Ag,Bp]at h⊢;cases hf with
 |new e1 e2 e3 e4 e5 e6 e7 e8=>
  subst e1;rw[Aas (by decide),Zu p hp',Aa]at h;rw[Aas (by decide),Zu (p++q) hp,Aa];have hst:(stS p).2.2.2.2.2.2≠ -1->stS (p++q)=stS p:=Bfl q;generalize stS p=z at h hst;obtain⟨z1,z2,z3,z4,z5,z6,z7⟩:=z;simp only at h hst;by_cases hz:Ba z7 0=true
  ·rw[Aas hz]at h;simp only[Adm,Aie]at h;obtain⟨-, -, -, -, -, -, -, -, -, -, -, -,rfl⟩:=h;rw[hst he];simp only;rw[Aas hz];refine⟨λe0=>?_,λ_=>⟨_,_,_,_,_,_,_,_,_,_,_,_,rfl⟩⟩;rw[e0]at hz;exact absurd hz zero
  ·rw[Aaf hz]at h;have z70:z7=0:=by rw[Al]at hz;simpa using hz
   rw[hst (by rw[z70];decide)];simp only;rw[Aaf hz];obtain⟨af,h1,h⟩:=cL h;rw[kD h1,Aa];rw[Hk,Ha]at h⊢;obtain⟨aw,h2,h⟩:=cL h;rw[h2,Aa];simp only[Adm,Aie]at h;obtain⟨rfl,rfl,rfl,rfl,rfl,rfl,rfl,rfl,rfl,rfl,rfl,rfl,rfl⟩:=h;exact⟨λe0=>by rw[e0],λ_=>⟨_,_,_,_,_,_,_,_,_,_,_,_,rfl⟩⟩
 |head F C W R N hd hpw e6 e7 e8=>
  subst e6;have hfn:¬(geq f 0=true):=by rw[Ar];simpa using hd.fnz
  rw[Aaf hfn,Bw,Bv,Aas (by decide)]at h⊢;obtain⟨⟨k,l,e1⟩,h1,h⟩:=cL h;simp only at h;by_cases hz:Ba e1 0=true
  ·rw[Aas hz]at h;simp only[Adm,Aie]at h;obtain⟨-, -, -, -, -, -, -, -, -, -, -, -,rfl⟩:=h;rw[(Ae8 hd q hp h1 he).1,Aa];simp only;rw[Aas hz];refine⟨λe0=>?_,λ_=>⟨_,_,_,_,_,_,_,_,_,_,_,_,rfl⟩⟩;rw[e0]at hz;exact absurd hz zero
  ·rw[Aaf hz]at h;have z70:e1=0:=by rw[Al]at hz;simpa using hz
   rw[(Ae8 hd q hp h1 (by rw[z70];decide)).1,Aa];simp only;rw[Aaf hz];obtain⟨af,h2,h⟩:=cL h;rw[kD h2,Aa];simp only[Adm,Aie]at h;obtain⟨rfl,rfl,rfl,rfl,rfl,rfl,rfl,rfl,rfl,rfl,rfl,rfl,rfl⟩:=h;exact⟨λe0=>rfl,λe0=>absurd rfl e0⟩
 |tab F C W R N A hd hpw ht hl ea hA=>
  have hfn:¬(geq f 0=true):=by rw[Ar];simpa using hd.fnz
  have ht':=ht;rw[Sy,Ac9,Acw]at ht';have hgl:¬(geq (Ac g) 0=true):=by
   intro e;rw[Ar,Ac]at e;have hl1:=ht'.1.1;simp only[Aue,Acw]at e;omega
  rw[Aaf hfn,Bw,Bv,Aaf hgl]at h⊢;by_cases hend:geq a (Ac g)=true
  ·rw[Aas hend]at h⊢;by_cases hm:Ef (Ac p) 4000=true
   ·have hm':Ef (Ac (p++q)) 4000=true:=by rw[As,Ac]at hm⊢;simp only[Acw]at hm⊢;rw[Abt];omega
    rw[Aas hm]at h;rw[Aas hm'];simp only[Adm,Aie]at h;obtain⟨-, -, -, -, -, -, -, -, -, -, -, -,rfl⟩:=h;exact⟨(λe0=>by cases e0),λ_=>⟨_,_,_,_,_,_,_,_,_,_,_,_,rfl⟩⟩
   ·rw[Aaf hm]at h;simp only[Adm,Aie]at h;obtain⟨-, -, -, -, -, -, -, -, -, -, -, -,rfl⟩:=h;exact absurd rfl he
  ·rw[Aaf hend]at h⊢;have hpos:∀z∈g,0<=z:=by
    have:=(AX g 100000 (by omega)).1 ht'.2;intro z hz;have:=this.1 z hz;omega
   obtain⟨⟨y,e1⟩,h1,h⟩:=cL h;simp only at h;by_cases hz:Ba e1 0=true
   ·rw[Aas hz]at h;simp only[Adm,Aie]at h;obtain⟨-, -, -, -, -, -, -, -, -, -, -, -,rfl⟩:=h;rw[Aea q hpos h1 he,Aa];simp only;rw[Aas hz];refine⟨λe0=>?_,λ_=>⟨_,_,_,_,_,_,_,_,_,_,_,_,rfl⟩⟩;rw[e0]at hz;exact absurd hz zero
   ·rw[Aaf hz]at h;have z70:e1=0:=by rw[Al]at hz;simpa using hz
    rw[Aea q hpos h1 (by rw[z70];decide),Aa];simp only;rw[Aaf hz];obtain⟨an,h2,h⟩:=cL h;rw[h2,Aa];obtain⟨ah,h3,h⟩:=cL h;rw[h3,Aa];obtain⟨ad,h4,h⟩:=cL h;rw[h4,Aa];obtain⟨ae,h5,h⟩:=cL h;rw[kD h5,Aa];simp only[Adm,Aie]at h;obtain⟨rfl,rfl,rfl,rfl,rfl,rfl,rfl,rfl,rfl,rfl,rfl,rfl,rfl⟩:=h;exact⟨λe0=>rfl,λe0=>absurd rfl e0⟩
def Bky(o:LB)(K:Nat)(u:Bool)(v:Int)(X Y:Option Bje):Prop:=∃(t1 t2:LB) (t3 t4 t5 t6 t7:Int) (t8:LI) (t9:Int) (t10:LB) (t11:Bool) (t12 e:Int),X=some (t1,t2,t3,t4,t5,t6,t7,t8,t9,t10,t11,t12,e)/\Y=some (t1,t2,t3,t4,t5,t6,t7,t8,t9,t10,t11,t12,e)/\t10.length<=13000000/\
 (e=0->t1=o/\t2.length<=K/\FitD o t3 t4 t5 t6 t7 t8 t9 t10/\SzD t2 t8 t9 t10/\t11=u/\t12=v)
theorem Afm(K:Nat):∀(k q1 q2:Nat) (o p:LB) (f c w r n:Int) (g:LI) (a:Int) (x:LB) (u:Bool) (v:Int),FitD o f c w r n g a x->o.length<=64->SzD p g a x->p.length<=K->muD f g a<k->k<=q1->k<=q2->
  Bky o K u v (Az o u v q1 p f c w r n a g x) (Bf q2 o p f c w r n g a x u v)
 |0,_,_,_,_,_,_,_,_,_,_,_,_,_,_,_,_,_,_,h,_,_=>by omega
 |k+1,q1,q2,o,p,f,c,w,r,n,g,a,x,u,v,hf,ho,hZ,hK,hm,h1,h2=>by
  obtain⟨q1,rfl⟩:∃q,q1=q+1:=⟨q1-1,by omega⟩;obtain⟨q2,rfl⟩:∃q,q2=q+1:=⟨q2-1,by omega⟩;have hx:x.length<=13000000:=by have:=hZ.hx;omega
  rw[Az,Bf,Cq];have hS:StepR (Az o u v q1) o p f c w r n g a x u v:=Afe hf ho hZ;cases hS with
  |wait hF hT=>
   rw[hT,Aa];simp only;rw[Aas (by decide),ZF hZ.hp (by have:=hZ.hg;omega) hx,Aa];exact⟨_,_,_,_,_,_,_,_,_,_,_,_,_,hF,rfl,hx,λ_=>⟨rfl,hK,hf,hZ,rfl,rfl⟩⟩
  |err e he hF hT=>
   rw[hT,Aa];simp only;rw[Aaf (by rw[jV (by omega)];decide),Aas (by rw[Al];simp;omega),wA hx,Aa];exact⟨_,_,_,_,_,_,_,_,_,_,_,_,_,hF,rfl,hx,λh=>absurd h (by omega)⟩
  |next p' f' c' w' r' n' g' a' x' hF hT hf' hZ' hle hmu=>
   rw[hT,Aa];simp only;rw[Aaf (by decide),Aaf (by decide)];have ih:=Afm K k q1 q2 o p' f' c' w' r' n' g' a' x' u v hf' ho hZ' (by omega) (by omega) (by omega) (by omega);have hF':Jn (Po (Az o u v q1) o u v) (Us (Az o u v q1) o u v) (Mg (Az o u v q1) o u v) (Vc (Az o u v q1) o u v) (Mh (Az o u v q1) o u v) (Pj (Az o u v q1) o u v) (Vg (Az o u v q1) o u v) (Cp (Az o u v q1) o u v) (BO (Az o u v q1) o u v) o u v p f c w r n a g x=Az o u v q1 p' f' c' w' r' n' a' g' x':=hF;rw[hF'];exact ih
theorem Bkt{o p:LB}{f c w r n:Int}{g:LI}{a:Int}{x:LB}(ho:o.length<=64)(hf:FitD o f c w r n g a x)(hZ:SzD p g a x)(b:LB)(hp:p.length<=20000)(hb:b.length<=20000):
  Bky o (p.length+b.length) false 0 (Hr o p f c w r n g a x false 0 b) (Jz o p f c w r n g a x false 0 b):=by
 have hx:x.length<=13000000:=by have:=hZ.hx;omega
 have hg:g.length<=2000:=by have:=hZ.hg;omega
 obtain⟨E,e1,e2⟩:=Af1 o p f c w r n g a x false 0 (by omega) (by omega) (by omega);rw[Hr,Xc,rI hp hg hx e1,Jz,Sk,e2,Aa];by_cases h:E≠0
 ·rw[Aas h,Aa,Aas (by rw[Al];simpa using h)];simp only;rw[Aas (by rw[Al];simpa using h)];exact⟨_,_,_,_,_,_,_,_,_,_,_,_,_,rfl,rfl,by simp,λh'=>absurd h' h⟩
 have h0:E=0:=by simpa using h
 subst h0;have hE:¬(Ba (0:Int) 0=true):=by decide
 rw[Aaf h,Aa,Aaf hE,ZF (by omega) hg (by omega),Aa];simp only;have hF:¬(false=true):=by decide
 rw[Sf,Aaf (show ¬((0:Int)≠0)from λh=>h rfl),Aaf hF]
 repeat (first|rw[Aa]|rw[Aaf hE]|rw[Aaf hF])
 rw[Bd (by omega)];rw[Aa,Aa];have hZ':SzD (p++b) g a x:=⟨by rw[Abt];omega,hZ.hg,hZ.hx⟩;exact Afm _ 1004 Au Au o (p++b) f c w r n g a x false 0 hf ho hZ' (by rw[Abt];exact Aob _) (Bcp hZ') (by have:=Aq;omega) (by have:=Aq;omega)
def OutB(f c w r n:Int)(g:LI)(a:Int)(x:LB):Prop:=∀(F C W R N A:Nat),HdI f c w r n F C W R N->g≠ []->a=(A:Int)-> (x.length:Int)<=Ww C W (Aj (Ak R) N) A
theorem OutB.nil{f c w r n:Int}{a:Int}{x:LB}:OutB f c w r n [] a x:=λ_ _ _ _ _ _ _ h=>absurd rfl h
theorem OutB.zero{f c w r n:Int}{g:LI}:OutB f c w r n g 0 []:=λF C W R N A h hg ha=>by
 obtain rfl:A=0:=by omega
 rw[Atd];simp
theorem Ar6{o p:LB}{f c w r n:Int}{F C W R N:Nat}(hd:HdI f c w r n F C W R N)(ho:o.length<=64)(hp:p.length<=100000){g:LI}(ht:Sy g=true)(hl:g.length=(Aj (Ak R) N).length){A:Nat}(hA:A<g.length){x:LB}{u:Bool}{v:Int}{y:LB}{e:Int}
  (h:Di o p f c w r n g (A:Int) x u v=some (y,e)) (he:e=0):∃m:Nat,(Aj (Ak R) N)[A]'(by omega)=(m:Int)/\y.length=m*C*wB (W:Int):=by
 subst he;have hlt2:A<(Aj (Ak R) N).length:=by omega
 have ED:=hd.num;rw[Sy,Ac9,Acw,AX g 100000 (by omega)]at ht;obtain⟨ht1,g5,gs⟩:=ht;have h5:=g5 g[A] (Ane hA);rw[Di,El,Bm hA,Aa]at h;by_cases hw:(p.length:Int)<g[A]
 ·rw[Aas (by rw[Ae,Ac];simpa using hw)]at h;cases h
 rw[Aaf (by rw[Ae,Ac];simpa using hw)]at h;obtain⟨m,hm,m1,m2⟩:=Ta (Du R) ED.2.2.2.2.1 (Ane hlt2);have hb:Bk w:=by rw[hd.ew];unfold Bk;omega
 obtain⟨xs,e,d1,d2,d3,d4⟩:=Zs (bits:=w) (ch:=C) (n:=m) (t:=Kf o) (p.take g[A].toNat) hb (Kq o) ED.2.1.1 ED.2.1.2 m1 (by omega);rw[LR o ho,Aa]at h;simp only at h;rw[Dd (by omega) (by omega),Aa,Fv,Aa]at h;simp only at h;rw[hd.Am6,Aa,Bm hlt2,Aa,Aa,hm,hd.ec]at h;rw[d2,Aa]at h;simp only at h;rw[Ej,Ek]at h;by_cases he:e≠0
 ·rw[Aas (by rw[Al];simpa using he)]at h;cases h;exact absurd rfl he
 ·have he0:e=0:=by simpa using he
  obtain⟨k1,k2,k3⟩:=d3 he0;rw[Aaf (by rw[Al,he0];simp),HB hb k2 k1,Aa]at h;cases h;refine⟨m,hm,?_⟩;rw[HD hb,k3,hd.ew]
theorem Ba6{o p:LB}{f c w r n:Int}{g:LI}{a:Int}{x:LB}{u:Bool}{v:Int}(hf:FitD o f c w r n g a x)(ho:o.length<=64)(hZ:SzD p g a x)(hO:OutB f c w r n g a x){t1 t2:LB}{t3 t4 t5 t6 t7:Int}{t8:LI}{t9:Int}{t10:LB}{t11:Bool}{t12:Int}
  (h:Ag o p f c w r n g a x u v=some (t1,t2,t3,t4,t5,t6,t7,t8,t9,t10,t11,t12,0)):OutB t3 t4 t5 t6 t7 t8 t9 t10:=by
 have hp':=hZ.hp;have zero:¬(Ba (0:Int) 0=true):=by decide
 rw[Ag,Bp]at h;cases hf with
 |new e1 e2 e3 e4 e5 e6 e7 e8=>
  subst e1 e6 e7 e8;rw[Aas (by decide),Zu p hp',Aa]at h;generalize stS p=z at h;obtain⟨z1,z2,z3,z4,z5,z6,z7⟩:=z;simp only at h;by_cases hz:Ba z7 0=true
  ·rw[Aas hz]at h;simp only[Adm,Aie]at h;obtain⟨-, -, -, -, -, -, -,rfl, -⟩:=h;exact OutB.nil
  ·rw[Aaf hz]at h;obtain⟨af,h1,h⟩:=cL h;rw[Hk,Ha]at h;obtain⟨aw,h2,h⟩:=cL h;simp only[Adm,Aie]at h;obtain⟨-, -, -, -, -, -, -,rfl, -⟩:=h;exact OutB.nil
 |head F C W R N hd hpw e6 e7 e8=>
  subst e6 e7 e8;have hfn:¬(geq f 0=true):=by rw[Ar];simpa using hd.fnz
  rw[Aaf hfn,Bw,Bv,Aas (by decide)]at h;obtain⟨⟨k,l,e1⟩,h1,h⟩:=cL h;simp only at h;by_cases hz:Ba e1 0=true
  ·rw[Aas hz]at h;simp only[Adm,Aie]at h;obtain⟨-, -, -, -, -, -, -,rfl, -⟩:=h;exact OutB.nil
  ·rw[Aaf hz]at h;obtain⟨af,h2,h⟩:=cL h;simp only[Adm,Aie]at h;obtain⟨-, -, -, -, -, -, -, -,rfl,rfl, -⟩:=h;exact OutB.zero
 |tab F C W R N A hd hpw ht hl ea hA=>
  subst ea;have hfn:¬(geq f 0=true):=by rw[Ar];simpa using hd.fnz
  have ht':=ht;rw[Sy,Ac9,Acw]at ht';have hgl:¬(geq (Ac g) 0=true):=by
   intro e;rw[Ar,Ac]at e;have hl1:=ht'.1.1;simp only[Aue,Acw]at e;omega
  have hne:g≠ []:=by intro e;subst e;simp at ht'
  rw[Aaf hfn,Bw,Bv,Aaf hgl]at h;by_cases hend:geq (A:Int) (Ac g)=true
  ·rw[Aas hend]at h;by_cases hm:Ef (Ac p) 4000=true
   ·rw[Aas hm]at h;simp only[Adm,Aie]at h;exact absurd h.2.2.2.2.2.2.2.2.2.2.2.2 (by decide)
   ·rw[Aaf hm]at h;simp only[Adm,Aie]at h;exact absurd h.2.2.2.2.2.2.2.2.2.2.2.2 (by decide)
  ·rw[Aaf hend]at h;have hlt:A<g.length:=by
    rw[Ar,Ac]at hend;simp only[Aue]at hend;omega
   obtain⟨⟨y,e1⟩,h1,h⟩:=cL h;simp only at h;by_cases hz:Ba e1 0=true
   ·rw[Aas hz]at h;simp only[Adm,Aie]at h;have:=h.2.2.2.2.2.2.2.2.2.2.2.2;rw[this]at hz;exact absurd hz zero
   ·rw[Aaf hz]at h;have z70:e1=0:=by rw[Al]at hz;simpa using hz
    obtain⟨m,hm,hy⟩:=Ar6 hd ho hp' ht hl hlt h1 z70;obtain⟨an,h2,h⟩:=cL h;obtain⟨ah,h3,h⟩:=cL h;obtain⟨ad,h4,h⟩:=cL h;obtain⟨ae,h5,h⟩:=cL h;simp only[Adm,Aie]at h;obtain⟨-, -,rfl,rfl,rfl,rfl,rfl,rfl,rfl,rfl, -⟩:=h;intro F' C' W' R' N' A' hd' _ ha';have eqs:C'=C/\W'=W/\R'=R/\N'=N:=by
     have q1:=hd.ec.symm.trans hd'.ec;have q2:=hd.ew.symm.trans hd'.ew;have q3:=hd.er.symm.trans hd'.er;have q4:=hd.en.symm.trans hd'.en;omega
    obtain⟨rfl,rfl,rfl,rfl⟩:=eqs;have hold:=hO F C' W' R' N' A hd hne rfl;have e2:Ad (A:Int) 1=((A+1:Nat):Int):=by rw[Ah (by omega) (by omega)];omega
    rw[e2]at ha';obtain rfl:A'=A+1:=by omega
    have hah:ah.length=x.length+y.length:=by
     unfold Dy at h2 h3;split at h2
     ·cases h2;split at h3
      ·cases h3;simp
      ·cases h3
     ·cases h2
    have hpos:∀z∈Aj (Ak R') N',0<=z:=by
     intro z hz;obtain⟨m,hm,m1,m2⟩:=Ta (Du R') hd.num.2.2.2.2.1 hz;omega
    rw[Arj C' W' hpos (by omega) hm,hah,hy];omega
theorem Afw{o p:LB}{f c w r n:Int}{g:LI}{a:Int}{x:LB}(hf:FitD o f c w r n g a x)(ho:o.length<=64)(hO:OutB f c w r n g a x){t1 t2:LB}{t3 t4 t5 t6 t7:Int}{t8:LI}{t9:Int}{t10:LB}{t11:Bool}{t12:Int}
  (h:Ag o p f c w r n g a x false 0=some (t1,t2,t3,t4,t5,t6,t7,t8,t9,t10,t11,t12, -1)):Ea o p f c w r n g a x false 0=some 0:=by
 have h4:Cu o p f c w r n g a x false 0=some true:=by
  rw[Cu,Xt,h,Aa];rfl
 have hr:Mm o p f c w r n g a x false 0=some true:=by
  rw[Mm,Yf];cases hf with
  |new e1 e2 e3 e4 e5 e6 e7 e8=>
   subst e1 e2 e3 e4 e5 e6 e7 e8;rw[Aas (by decide),Aaf (by decide)];exact h4
  |head F C W R N hd hpw e6 e7 e8=>
   subst e6 e7 e8;have hz:¬(((geq f 0)&&((geq c 0)&&((geq w 0)&&((geq r 0)&&((geq n 0)&&true)))))=true):=by
    simp only[Ac9,Ar,Aue,Boj];exact λe=>hd.fnz e.1
   have hff:geq f 1=decide (F=1):=by rw[hd.ef,Ar,Anb];simp;omega
   rw[Aaf hz,hd.check,Aa,Aaf (by decide),Et,hff,hpw,Aaf (by simp),Aa,Aaf (by decide),Qx,Qu,Aas (by decide),Aaf (by decide)];exact h4
  |tab F C W R N A hd hpw ht hl ea hA=>
   subst ea;have hz:¬(((geq f 0)&&((geq c 0)&&((geq w 0)&&((geq r 0)&&((geq n 0)&&true)))))=true):=by
    simp only[Ac9,Ar,Aue,Boj];exact λe=>hd.fnz e.1
   have hff:geq f 1=decide (F=1):=by rw[hd.ef,Ar,Anb];simp;omega
   have ht':=ht;rw[Sy,Ac9,Acw]at ht';have hgl:¬(geq (Ac g) 0=true):=by
    intro e;rw[Ar,Ac]at e;have hl1:=ht'.1.1;simp only[Aue,Acw]at e;omega
   have hne:g≠ []:=by intro e;subst e;simp at ht'
   have hout:=hO F C W R N A hd hne rfl;rw[Aaf hz,hd.check,Aa,Aaf (by decide),Et,hff,hpw,Aaf (by simp),Aa,Aaf (by decide),Qx,Qu,Aaf hgl,eT,Aa,Aas ht,Aaf (by decide),hd.Am6,Aa];rw[Aaf (by simp[Al,Ae,As,Ac];omega)];obtain⟨rfl,rfl,rfl,rfl,rfl,hs,hfit⟩:=hd;rw[Ani hs hfit A (by omega),Aa,Aaf (by rw[As,Ac];simp;omega)];exact h4
 have hO':¬(Ef (Ac o) 64=true):=by rw[As,Ac];simp;omega
 rw[Ea,Aaf hO',Aas (by decide),hr,Aa];rfl
theorem Axj{o p:LB}{f c w r n:Int}{F C W R N:Nat}(hd:HdI f c w r n F C W R N)(ho:o.length<=64)(hp:p.length<=100000){g:LI}(ht:Sy g=true)(hl:g.length=(Aj (Ak R) N).length){A:Nat}(hA:A<g.length){x:LB}{u:Bool}{v:Int}{y:LB}{e:Int}
  (h:Di o p f c w r n g (A:Int) x u v=some (y,e)) (he:e≠ -1):Cd e:=by
 have hlt2:A<(Aj (Ak R) N).length:=by omega
 have ED:=hd.num;rw[Sy,Ac9,Acw,AX g 100000 (by omega)]at ht;obtain⟨ht1,g5,gs⟩:=ht;have h5:=g5 g[A] (Ane hA);rw[Di,El,Bm hA,Aa]at h;by_cases hw:(p.length:Int)<g[A]
 ·rw[Aas (by rw[Ae,Ac];simpa using hw)]at h;cases h;exact absurd rfl he
 rw[Aaf (by rw[Ae,Ac];simpa using hw)]at h;obtain⟨m,hm,m1,m2⟩:=Ta (Du R) ED.2.2.2.2.1 (Ane hlt2);have hb:Bk w:=by rw[hd.ew];unfold Bk;omega
 obtain⟨xs,e',d1,d2,d3,d4⟩:=Zs (bits:=w) (ch:=C) (n:=m) (t:=Kf o) (p.take g[A].toNat) hb (Kq o) ED.2.1.1 ED.2.1.2 m1 (by omega);have hcd:=Ai0 hb (Kq o) ED.2.1.1 ED.2.1.2 m1 (by omega) d2;rw[LR o ho,Aa]at h;simp only at h;rw[Dd (by omega) (by omega),Aa,Fv,Aa]at h;simp only at h;rw[hd.Am6,Aa,Bm hlt2,Aa,Aa,hm,hd.ec]at h;rw[d2,Aa]at h;simp only at h;rw[Ej,Ek]at h;by_cases he:e'≠0
 ·rw[Aas (by rw[Al];simpa using he)]at h;cases h;exact hcd
 ·have he0:e'=0:=by simpa using he
  obtain⟨k1,k2,k3⟩:=d3 he0;rw[Aaf (by rw[Al,he0];simp),HB hb k2 k1,Aa]at h;cases h;exact .inl rfl
theorem Avo{f c w r n:Int}{F C W R N:Nat}(hd:HdI f c w r n F C W R N){p:LB}(hp:p.length<=100000){A:Nat}(hA:A<=p.length){k:Int}{l:LI}{e:Int}(h:Dr p f c w r n (A:Int)=some (k,l,e))(he:e≠ -1):Cd e:=by
 obtain⟨_,t2,t3⟩:=Aar hd [] p hp A hA 0 [] false 0;rw[t2]at h;by_cases h1:(Eh (p.drop A) (Aj (Ak R) N).length).2=24
 ·rw[Aas h1]at h;cases h;exact absurd rfl he
 ·rw[Aaf h1]at h;cases h;exact Bam _ (wH hd.fit)
theorem Ayr{f c w r n:Int}{F C W R N:Nat}(hd:HdI f c w r n F C W R N){o p:LB}(hp:p.length<=100000){k:Int}{l:LI}{e:Int}(h:Ey p f c w r n o=some (k,l,e))(he:e≠ -1):Cd e:=by
 rw[Ey,Hu]at h;by_cases hf:geq f 2=true
 ·rw[Aas hf]at h;by_cases h8:p.length<8
  ·rw[Aas (by rw[Ae,Ac];simp;omega)]at h;cases h;exact absurd rfl he
  ·have n1:¬(Cl (Ac p) 8=true):=by rw[Ae,Ac];simp;omega
   rw[Aaf n1]at h;obtain⟨z,hz,h⟩:=cL h;obtain⟨y,hy,h⟩:=cL h;by_cases hm:(z !=y)=true
   ·rw[Aas hm]at h;cases h;decide
   ·rw[Aaf hm]at h;exact Avo hd hp (A:=8) (by omega) h he
 ·rw[Aaf hf]at h;exact Avo hd hp (A:=0) (by omega) h he
theorem Bh5(p:LB):(stS p).2.2.2.2.2.2= -1\/Cd (stS p).2.2.2.2.2.2:=by
 unfold stS
 repeat' split
 ·exact .inl rfl
 ·exact .inr (zT p)
 ·exact .inl rfl
 ·exact .inl rfl
 ·exact .inr (Ahv _)
theorem Bez{o p:LB}{f c w r n:Int}{g:LI}{a:Int}{x:LB}{u:Bool}{v:Int}(hf:FitD o f c w r n g a x)(ho:o.length<=64)(hp':p.length<=100000){t1 t2:LB}{t3 t4 t5 t6 t7:Int}{t8:LI}{t9:Int}{t10:LB}{t11:Bool}{t12 e:Int}
  (h:Ag o p f c w r n g a x u v=some (t1,t2,t3,t4,t5,t6,t7,t8,t9,t10,t11,t12,e)) (he:e≠ -1):Cd e:=by
 have zero:¬(Ba (0:Int) 0=true):=by decide
 rw[Ag,Bp]at h;cases hf with
 |new e1 e2 e3 e4 e5 e6 e7 e8=>
  subst e1 e6 e7 e8;rw[Aas (by decide),Zu p hp',Aa]at h;have hcd:=Bh5 p;generalize stS p=z at h hcd;obtain⟨z1,z2,z3,z4,z5,z6,z7⟩:=z;simp only at h hcd;by_cases hz:Ba z7 0=true
  ·rw[Aas hz]at h;simp only[Adm,Aie]at h;obtain⟨-, -, -, -, -, -, -, -, -, -, -, -,rfl⟩:=h;exact hcd.resolve_left he
  ·rw[Aaf hz]at h;obtain⟨af,h1,h⟩:=cL h;rw[Hk,Ha,Et]at h;obtain⟨aw,h2,h⟩:=cL h;simp only[Adm,Aie]at h;obtain⟨-, -, -, -, -, -, -, -, -, -, -, -,rfl⟩:=h;split at h2
   ·cases h2;decide
   ·cases h2;decide
 |head F C W R N hd hpw e6 e7 e8=>
  subst e6 e7 e8;have hfn:¬(geq f 0=true):=by rw[Ar];simpa using hd.fnz
  rw[Aaf hfn,Bw,Bv,Aas (by decide)]at h;obtain⟨⟨k,l,e1⟩,h1,h⟩:=cL h;simp only at h;by_cases hz:Ba e1 0=true
  ·rw[Aas hz]at h;simp only[Adm,Aie]at h;obtain⟨-, -, -, -, -, -, -, -, -, -, -, -,rfl⟩:=h;exact Ayr hd hp' h1 he
  ·rw[Aaf hz]at h;obtain⟨af,h2,h⟩:=cL h;simp only[Adm,Aie]at h;obtain⟨-, -, -, -, -, -, -, -, -, -, -, -,rfl⟩:=h;exact .inl rfl
 |tab F C W R N A hd hpw ht hl ea hA=>
  subst ea;have hfn:¬(geq f 0=true):=by rw[Ar];simpa using hd.fnz
  have ht':=ht;rw[Sy,Ac9,Acw]at ht';have hgl:¬(geq (Ac g) 0=true):=by
   intro e;rw[Ar,Ac]at e;have hl1:=ht'.1.1;simp only[Aue,Acw]at e;omega
  rw[Aaf hfn,Bw,Bv,Aaf hgl]at h;by_cases hend:geq (A:Int) (Ac g)=true
  ·rw[Aas hend]at h;by_cases hm:Ef (Ac p) 4000=true
   ·rw[Aas hm]at h;simp only[Adm,Aie]at h;obtain⟨-, -, -, -, -, -, -, -, -, -, -, -,rfl⟩:=h;decide
   ·rw[Aaf hm]at h;simp only[Adm,Aie]at h;exact absurd h.2.2.2.2.2.2.2.2.2.2.2.2.symm he
  ·rw[Aaf hend]at h;have hlt:A<g.length:=by
    rw[Ar,Ac]at hend;simp only[Aue]at hend;omega
   obtain⟨⟨y,e1⟩,h1,h⟩:=cL h;simp only at h;by_cases hz:Ba e1 0=true
   ·rw[Aas hz]at h;simp only[Adm,Aie]at h;obtain⟨-, -, -, -, -, -, -, -, -, -, -, -,rfl⟩:=h;exact Axj hd ho hp' ht hl hlt h1 he
   ·rw[Aaf hz]at h;obtain⟨an,h2,h⟩:=cL h;obtain⟨ah,h3,h⟩:=cL h;obtain⟨ad,h4,h⟩:=cL h;obtain⟨ae,h5,h⟩:=cL h;simp only[Adm,Aie]at h;obtain⟨-, -, -, -, -, -, -, -, -, -, -, -,rfl⟩:=h;exact .inl rfl
theorem Bc4{o:LB}{f c w r n:Int}{g:LI}{a:Int}{x:LB}(hf:FitD o f c w r n g a x)(hO:OutB f c w r n g a x):x.length<=12000:=by
 cases hf with
 |new e1 e2 e3 e4 e5 e6 e7 e8=>subst e8;simp
 |head F C W R N hd hpw e6 e7 e8=>subst e8;simp
 |tab F C W R N A hd hpw ht hl ea hA=>
  have hne:g≠ []:=by intro e;subst e;simp[Sy]at ht
  have h:=hO F C W R N A hd hne ea;obtain⟨g1,g2,g3⟩:=AG hd.shape hd.fit;have b:=QR g1 A;have ED:=hd.num;have hw:=(zK (W:Int)).2;have hN:N*C<=4000:=by
   have h1:=Aeb C ED.2.2.2.2.2.1;have h2:=Bid 4000 C;omega
  have hs:((Aj (Ak R) N).take A).sum.toNat<=N:=by omega
  rw[Ww]at h;have hb:((Aj (Ak R) N).take A).sum.toNat*(C*wB (W:Int))<=4000*3:=by
   have h1:=Aeb (C*wB (W:Int)) hs;have h2:=Bds hN hw;rw[<-Bc9 N]at h1;omega
  omega
theorem Akf{o x:LB}{e:Int}(ho:o.length<=64)(hx:x.length<=12000)(he:Cd e)(h0:0<e):Ea o [] 0 0 0 0 0 [] 0 x false e=some 0:=by
 have hO':¬(Ef (Ac o) 64=true):=by rw[As,Ac];simp;omega
 have hX:Ef (Ac x) 12000=false:=by rw[As,Ac];simp;omega
 rw[Ea,Aaf hO',Aaf (by rw[Ar];simp;omega),Aas (by decide),hX,Aaf (by decide),Aas (by rw[Al];simp;omega),Aaf (by decide)];obtain rfl|rfl|rfl|rfl|rfl|rfl|rfl|rfl:=he
 ·omega
 all_goals rfl
theorem Akk:∀(k q1 q2:Nat) (o p:LB) (f c w r n:Int) (g:LI) (a:Int) (x:LB) (u:Bool) (v:Int),FitD o f c w r n g a x->o.length<=64->SzD p g a x->muD f g a<k->k<=q1->k<=q2->
  Bf q1 o p f c w r n g a x u v=Bf q2 o p f c w r n g a x u v
 |0,_,_,_,_,_,_,_,_,_,_,_,_,_,_,_,_,_,h,_,_=>by omega
 |k+1,q1,q2,o,p,f,c,w,r,n,g,a,x,u,v,hf,ho,hZ,hm,h1,h2=>by
  obtain⟨q1,rfl⟩:∃q,q1=q+1:=⟨q1-1,by omega⟩;obtain⟨q2,rfl⟩:∃q,q2=q+1:=⟨q2-1,by omega⟩;rw[Bf,Bf,Cq,Cq];have hS:StepR (Az o u v q1) o p f c w r n g a x u v:=Afe hf ho hZ;cases hS with
  |wait hF hT=>
   rw[hT,Aa,Aa];simp only;rw[Aas (by decide),Aas (by decide)]
  |err e he hF hT=>
   rw[hT,Aa,Aa];simp only;rw[Aaf (by rw[jV (by omega)];decide),Aas (by rw[Al];simp;omega),Aaf (by rw[jV (by omega)];decide),Aas (by rw[Al];simp;omega)]
  |next p' f' c' w' r' n' g' a' x' hF hT hf' hZ' hle hmu=>
   rw[hT,Aa,Aa];simp only;rw[Aaf (by decide),Aaf (by decide),Aaf (by decide),Aaf (by decide)];exact Akk k q1 q2 o p' f' c' w' r' n' g' a' x' u v hf' ho hZ' (by omega) (by omega) (by omega)
structure Wt (o p:LB) (f c w r n:Int) (g:LI) (a:Int) (x:LB):Prop where
 fit:FitD o f c w r n g a x
 sz:SzD p g a x
 out:OutB f c w r n g a x
 wait:Ag o p f c w r n g a x false 0=some (o,p,f,c,w,r,n,g,a,x,false,0, -1)
abbrev Kc(q:Nat)(o p:LB)(f c w r n:Int)(g:LI)(a:Int)(x:LB):=Bf q o p f c w r n g a x false 0
theorem Anp:∀(k q:Nat) (o p:LB) (f c w r n:Int) (g:LI) (a:Int) (x:LB),FitD o f c w r n g a x->o.length<=64->SzD p g a x->OutB f c w r n g a x->p.length<=100000->muD f g a<k->k<=q->
  (∃(t2:LB) (t3 t4 t5 t6 t7:Int) (t8:LI) (t9:Int) (t10:LB),Kc q o p f c w r n g a x=some (o,t2,t3,t4,t5,t6,t7,t8,t9,t10,false,0,0)/\Wt o t2 t3 t4 t5 t6 t7 t8 t9 t10/\t2.length<=p.length/\muD t3 t8 t9<k/\
   ∀b:LB,(p++b).length<=100000->Kc q o (p++b) f c w r n g a x=Kc q o (t2++b) t3 t4 t5 t6 t7 t8 t9 t10)\/
  (∃(x':LB) (e:Int),0<e/\Cd e/\x'.length<=12000/\∀b:LB,(p++b).length<=100000->Kc q o (p++b) f c w r n g a x=some (o,[],0,0,0,0,0,[],0,x',false,e,e))
 |0,_,_,_,_,_,_,_,_,_,_,_,_,_,_,_,_,h,_=>by omega
 |k+1,q,o,p,f,c,w,r,n,g,a,x,hf,ho,hZ,hO,hp,hm,h1=>by
  obtain⟨q,rfl⟩:∃q',q=q'+1:=⟨q-1,by omega⟩;have hx:x.length<=13000000:=by have:=hZ.hx;omega
  have hS:StepR (Az o false 0 q) o p f c w r n g a x false 0:=Afe hf ho hZ;cases hS with
  |wait hF hT=>
   refine .inl ⟨p,f,c,w,r,n,g,a,x,?_,⟨hf,hZ,hO,hT⟩,Aob _,hm,λb _=>rfl⟩;rw[Kc,Bf,Cq,hT,Aa];simp only;rw[Aas (by decide),ZF hZ.hp (by have:=hZ.hg;omega) hx,Aa]
  |err e he hF hT=>
   refine .inr ⟨x,e,he,Bez hf ho hp hT (by omega),Bc4 hf hO,λb hL=>?_⟩;obtain⟨s1,s2,s3,s4,s5,s6,s7,s8,s9,s10,s11,s12,hs⟩:=(qU b hf hL hT (by omega)).2 (by omega);rw[Kc,Bf,Cq,hs,Aa];simp only;rw[Aaf (by rw[jV (by omega)];decide),Aas (by rw[Al];simp;omega),wA hx,Aa]
  |next p' f' c' w' r' n' g' a' x' hF hT hf' hZ' hle hmu=>
   have hp':p'.length<=100000:=by omega
   rcases Anp k q o p' f' c' w' r' n' g' a' x' hf' ho hZ' (Ba6 hf ho hZ hO hT) hp' (by omega) (by omega)with⟨t2,t3,t4,t5,t6,t7,t8,t9,t10,k1,k2,k3,k4,k5⟩|⟨x2,e,k1,k2,k3,k4⟩
   ·refine .inl ⟨t2,t3,t4,t5,t6,t7,t8,t9,t10,?_,k2,by omega,by omega,λb hL=>?_⟩
    ·rw[Kc,Bf,Cq,hT,Aa];simp only;rw[Aaf (by decide),Aaf (by decide)];exact k1
    ·have hs:=(qU b hf hL hT (by decide)).1 rfl;have hL':(p'++b).length<=100000:=by rw[Abt]at hL⊢;omega
     rw[Kc,Bf,Cq,hs,Aa];simp only;rw[Aaf (by decide),Aaf (by decide)];refine(k5 b hL').trans ?_;exact Akk k q (q+1) o (t2++b) t3 t4 t5 t6 t7 t8 t9 t10 false 0 k2.fit ho ⟨by rw[Abt]at hL⊢;omega,k2.sz.hg,k2.sz.hx⟩ k4 (by omega) (by omega)
   ·refine .inr ⟨x2,e,k1,k2,k3,λb hL=>?_⟩;have hs:=(qU b hf hL hT (by decide)).1 rfl;have hL':(p'++b).length<=100000:=by rw[Abt]at hL⊢;omega
    rw[Kc,Bf,Cq,hs,Aa];simp only;rw[Aaf (by decide),Aaf (by decide)];exact k4 b hL'
abbrev Fd(o s:LB):=Kc Au o s 0 0 0 0 0 [] 0 []
inductive Bh (o s:LB):LB->Int->Int->Int->Int->Int->LI->Int->LB->Int->Prop
 |wt {p:LB} {f c w r n:Int} {g:LI} {a:Int} {x:LB}:Wt o p f c w r n g a x->p.length<=s.length-> (∀b:LB,(s++b).length<=100000->Fd o (s++b)=Kc Au o (p++b) f c w r n g a x)->Bh o s p f c w r n g a x 0
 |er {x:LB} {e:Int}:0<e->Cd e->x.length<=12000-> (∀b:LB,(s++b).length<=100000->Fd o (s++b)=some (o,[],0,0,0,0,0,[],0,x,false,e,e))->Bh o s [] 0 0 0 0 0 [] 0 x e
variable {o s p:LB} {f c w r n:Int} {g:LI} {a:Int} {x:LB} {e:Int}
theorem Wt.stop(W:Wt o p f c w r n g a x):Kc Au o p f c w r n g a x=some (o,p,f,c,w,r,n,g,a,x,false,0,0):=by
 obtain⟨q,hq⟩:∃q,Au=q+1:=⟨Au-1,by have:=Aq;omega⟩;have hx:x.length<=13000000:=by have:=W.sz.hx;omega
 rw[Kc,hq,Bf,Cq,W.wait,Aa];simp only;rw[Aas (by decide),ZF W.sz.hp (by have:=W.sz.hg;omega) hx,Aa]
theorem Bh.fd(h:Bh o s p f c w r n g a x e)(hs:s.length<=100000):Fd o s=some (o,p,f,c,w,r,n,g,a,x,false,e,e):=by
 cases h with
 |wt W hl hb=>
  have:=hb [] (by simpa using hs);rw[Aq7,Aq7]at this;rw[this,W.stop]
 |er h0 hc hx hb=>
  have:=hb [] (by simpa using hs);rw[Aq7]at this;exact this
theorem Bh.new(ho:o.length<=64):Bh o [] [] 0 0 0 0 0 [] 0 [] 0:=by
 refine .wt ⟨.new rfl rfl rfl rfl rfl rfl rfl rfl,⟨by simp,by simp,by simp⟩,OutB.nil,?_⟩ (Aob _) λb _=>rfl;rw[Ag,Bp,Aas (by decide),Zu [] (by simp),Aa];rfl
theorem Bfd(ho:o.length<=64)(W:Wt o p f c w r n g a x)(b:LB)(hp:p.length<=20000)(hb:b.length<=20000):
  Hr o p f c w r n g a x false 0 b=Kc Au o (p++b) f c w r n g a x/\Jz o p f c w r n g a x false 0 b=Kc Au o (p++b) f c w r n g a x:=by
 have hR:Jz o p f c w r n g a x false 0 b=Kc Au o (p++b) f c w r n g a x:=by
  have hx:x.length<=13000000:=by have:=W.sz.hx;omega
  have hg:g.length<=2000:=by have:=W.sz.hg;omega
  have hE:¬(Ba (0:Int) 0=true):=by decide
  have hF:¬(false=true):=by decide
  rw[Jz,Sk,Afw W.fit ho W.out W.wait,Aa,Aaf hE,ZF (by omega) hg hx,Aa];simp only;rw[Sf]
  repeat (first|rw[Aa]|rw[Aaf hE]|rw[Aaf hF])
  rw[Bd (by omega),Aa];rfl
 obtain⟨t1,t2,t3,t4,t5,t6,t7,t8,t9,t10,t11,t12,e,h1,h2,_⟩:=Bkt ho W.fit W.sz b hp hb;exact⟨h1.trans (h2.symm.trans hR),hR⟩
theorem Bh.check(ho:o.length<=64)(h:Bh o s p f c w r n g a x e)(hp:p.length<=100000):Pd o p f c w r n g a x false e=some 0/\Ea o p f c w r n g a x false e=some 0:=by
 have key:Ea o p f c w r n g a x false e=some 0/\g.length<=1000/\x.length<=13000000:=by
  cases h with
  |wt W hl hb=>exact⟨Afw W.fit ho W.out W.wait,W.sz.hg,by have:=W.sz.hx;omega⟩
  |er h0 hc hx hb=>exact⟨Akf ho hx hc h0,by simp,by omega⟩
 obtain⟨k1,k2,k3⟩:=key;obtain⟨E,e1,e2⟩:=Af1 o p f c w r n g a x false e hp (by omega) (by omega);rw[k1]at e2;cases e2;exact⟨e1,k1⟩
theorem Bh.feed(ho:o.length<=64)(h:Bh o s p f c w r n g a x e)(hp:p.length<=20000)(b:LB)(hb:b.length<=20000)(hs:(s++b).length<=100000):
  ∃(p':LB) (f' c' w' r' n':Int) (g':LI) (a':Int) (x':LB) (e':Int),Hr o p f c w r n g a x false e b=some (o,p',f',c',w',r',n',g',a',x',false,e',e')/\
   Jz o p f c w r n g a x false e b=some (o,p',f',c',w',r',n',g',a',x',false,e',e')/\Bh o (s++b) p' f' c' w' r' n' g' a' x' e':=by
 have hck:=h.check ho (by omega);cases h with
 |wt W hl hB=>
  obtain⟨h1,h2⟩:=Bfd ho W b hp hb;have hpb:(p++b).length<=100000:=by rw[Abt];omega
  have hZ:SzD (p++b) g a x:=⟨hpb,W.sz.hg,W.sz.hx⟩;rcases Anp 1004 Au o (p++b) f c w r n g a x W.fit ho hZ W.out hpb (Bcp hZ) (by have:=Aq;omega)with⟨t2,t3,t4,t5,t6,t7,t8,t9,t10,k1,k2,k3,k4,k5⟩|⟨x2,e,k1,k2,k3,k4⟩
  ·refine⟨t2,t3,t4,t5,t6,t7,t8,t9,t10,0,h1.trans k1,h2.trans k1, .wt k2 ?_ λb2 hL=>?_⟩
   ·rw[Abt]at k3⊢;omega
   ·rw[Aec,hB (b++b2) (by rw[<-Aec];exact hL),<-Aec];refine k5 b2 ?_;rw[Abt,Abt]at hL⊢;omega
  ·have k4':=k4 [] (by simpa using hpb);rw[Aq7]at k4';refine⟨_,_,_,_,_,_,_,_,_,_,h1.trans k4',h2.trans k4', .er k1 k2 k3 λb2 hL=>?_⟩;rw[Aec,hB (b++b2) (by rw[<-Aec];exact hL),<-Aec];refine k4 b2 ?_;rw[Abt,Abt]at hL⊢;omega
 |er h0 hc hx hB=>
  have hne:Ba e 0=true:=by rw[Al];simp;omega
  refine⟨_,_,_,_,_,_,_,_,_,_,?_,?_, .er h0 hc hx λb2 hL=>?_⟩
  ·rw[Hr,Xc,rI (by simp) (by simp) (by omega) hck.1,Aaf (by decide),Aa];simp only;rw[Aas (show e≠0 by omega),Aas hne]
  ·rw[Jz,Sk,hck.2,Aa,Aaf (by decide),ZF (by simp) (by simp) (by omega),Aa];simp only;rw[Sf,Aas hne,Aa,Aas hne]
  ·rw[Aec];exact hB (b++b2) (by rw[<-Aec];exact hL)
end Go.Pl
namespace Go.Pl
open Go Go.Lv
section
variable {o s p:LB} {f c w r n:Int} {g:LI} {a:Int} {x:LB} {e:Int}
theorem FitD.drop(h:FitD o f c w r n g a x)(t:Nat):FitD o f c w r n g a (x.drop t):=by
 cases h with
 |new e1 e2 e3 e4 e5 e6 e7 e8=>subst e8;exact .new e1 e2 e3 e4 e5 e6 e7 (by simp)
 |head F C W R N hd hpw e6 e7 e8=>subst e8;exact .head F C W R N hd hpw e6 e7 (by simp)
 |tab F C W R N A hd hpw ht hl ea hA=>exact .tab F C W R N A hd hpw ht hl ea hA
theorem OutB.drop(h:OutB f c w r n g a x)(t:Nat):OutB f c w r n g a (x.drop t):=by
 intro F C W R N A hd hg ha;have:=h F C W R N A hd hg ha;rw[Aky];omega
theorem Bh.Bg5(h:Bh o s p f c w r n g a x e):p.length<=s.length/\g.length<=1000/\x.length<=12000:=by
 cases h with
 |wt W hl hb=>exact⟨hl,W.sz.hg,Bc4 W.fit W.out⟩
 |er h0 hc hx hb=>exact⟨by simp,by simp,hx⟩
end
section
variable {o s p:LB} {f c w r n:Int} {g:LI} {a:Int} {x:LB} {e:Int}
theorem Awv{u:Bool}{v:Int}(hp:p.length<=20000)(h:Da o p f c w r n g a x u v=some e):Cd e:=by
 rw[Da]at h;split at h
 ·rw[BI p (by omega),Aa]at h;have hok:=BR (b:=p);simp only at h;by_cases h2:(Bo p).2≠0
  ·rw[Aas (by rw[Al];simpa using h2)]at h;cases h;exact zT p
  ·have h3:(Bo p).2=0:=by simpa using h2
   obtain⟨k1,k2,k3⟩:=hok h3;have hl:(Il p).length<=p.length:=by rw[Il,Aky];omega
   rw[Aaf (by rw[Al,h3];simp),Bt (by omega) (by omega),Aa,show p.drop (Bo p).1.toNat=Il p from rfl,iI _ (by omega),Aa]at h;cases h;exact Ahv _
 ·split at h
  ·cases h;decide
  ·obtain⟨⟨z1,z2⟩,hz,h⟩:=cL h;simp only at h;split at h<;>(cases h;decide)
theorem Bjd{u:Bool}{v k:Int}(ho:o.length<=64)(hx:x.length<=12000)(hk:(u=false/\v=k/\0<k/\Cd k)\/ (u=true/\v=0/\k=36)):
  Pd o [] 0 0 0 0 0 [] 0 x u v=some 0/\ (∀b,Hr o [] 0 0 0 0 0 [] 0 x u v b=some (o,[],0,0,0,0,0,[],0,x,u,v,k))/\Fz o [] 0 0 0 0 0 [] 0 x u v=some (o,[],0,0,0,0,0,[],0,x,u,v,k):=by
 have key:Ea o [] 0 0 0 0 0 [] 0 x u v=some 0:=by
  rcases hk with⟨rfl,rfl,h1,h2⟩|⟨rfl,rfl,rfl⟩
  ·exact Akf ho hx h2 h1
  ·have hX:Ef (Ac x) 12000=false:=by rw[As,Ac];simp;omega
   rw[Ea,Aaf (by rw[As,Ac];simp;omega),Aaf (by decide),Aas (by decide),hX,Aaf (by decide),Aaf (by decide)]
 obtain⟨E,e1,e2⟩:=Af1 o [] 0 0 0 0 0 [] 0 x u v (by simp) (by simp) (by omega);rw[key]at e2;cases e2;have hv:(if v≠0 then v else if u=true then 36 else 0)=k:=by
  rcases hk with⟨rfl,rfl,h1,h2⟩|⟨rfl,rfl,rfl⟩
  ·rw[Aas (by omega)]
  ·rfl
 have hk0:Ba k 0=true:=by
  rw[Al];rcases hk with⟨rfl,rfl,h1,h2⟩|⟨rfl,rfl,rfl⟩
  ·simp;omega
  ·rfl
 have hb:=rI (o:=o) (p:=[]) (f:=0) (c:=0) (w:=0) (r:=0) (n:=0) (g:=[]) (a:=0) (x:=x) (u:=u) (v:=v) (by simp) (by simp) (by omega) e1;rw[Aaf (by decide),hv]at hb;refine⟨e1,λb=>?_,?_⟩
 ·rw[Hr,Xc,hb,Aa];simp only;rw[Aas hk0]
 ·rw[Fz,hb,Aa];simp only;rw[Aas hk0]
theorem Bh.finish(ho:o.length<=64)(h:Bh o s p f c w r n g a x e)(hp:p.length<=20000):
  ∃(u:Bool) (v k:Int),Fz o p f c w r n g a x false e=some (o,[],0,0,0,0,0,[],0,x,u,v,k)/\ ((u=false/\v=k/\0<k/\Cd k/\ (e=0\/e=k))\/ (u=true/\v=0/\k=0)):=by
 have hs:=h.Bg5;have hck:=(h.check ho (by omega)).1;have hb:=rI (o:=o) (p:=p) (f:=f) (c:=c) (w:=w) (r:=r) (n:=n) (g:=g) (a:=a) (x:=x) (u:=false) (v:=e) (by omega) (by omega) (by omega) hck;rw[Aaf (by decide)]at hb;cases h with
 |wt W hl hB=>
  obtain⟨e1,d1,d2⟩:=Ab9 (o:=o) (p:=p) (f:=f) (c:=c) (w:=w) (r:=r) (n:=n) (a:=a) (u:=false) (v:=0) (g:=g) (x:=x) hp;have hcd:=Awv hp d2;rw[Fz,hb,Aa];simp only;rw[Aaf (by decide),d1,Aa];by_cases he:Ba e1 0=true
  ·rw[Aas he];refine⟨false,e1,e1,rfl, .inl ⟨rfl,rfl,?_,hcd,by simp⟩⟩;have:=hcd.nn;rw[Al]at he;simp only[Bn2]at he;omega
  ·rw[Aaf he];exact⟨true,0,0,rfl, .inr ⟨rfl,rfl,rfl⟩⟩
 |er h0 hc hx hB=>
  have hne:Ba e 0=true:=by rw[Al];simp;omega
  rw[Fz,hb,Aa];simp only;rw[Aas (show e≠0 by omega),Aas hne];exact⟨false,e,e,rfl, .inl ⟨rfl,rfl,h0,hc, .inr rfl⟩⟩
end
section
variable {o p:LB} {f c w r n:Int} {g:LI} {a:Int} {x:LB} {q:Nat}
theorem BL(hp:p.length<=100000)(hg:g.length<=1000)(hx:x.length<=13000000)(h:Ag o p f c w r n g a x false 0=some (o,p,f,c,w,r,n,g,a,x,false,0, -1)):Kc (q+1) o p f c w r n g a x=some (o,p,f,c,w,r,n,g,a,x,false,0,0):=by
 rw[Kc,Bf,Cq,h,Aa];simp only;rw[Aas (by decide),ZF hp (by omega) hx,Aa]
theorem SB(hx:x.length<=13000000){e:Int}(he:0<e){t2:LB}{t3 t4 t5 t6 t7:Int}{t8:LI}{t9:Int}{t11:Bool}{t12:Int}(h:Ag o p f c w r n g a x false 0=some (o,t2,t3,t4,t5,t6,t7,t8,t9,x,t11,t12,e)):Kc (q+1) o p f c w r n g a x=some (o,[],0,0,0,0,0,[],0,x,false,e,e):=by
 rw[Kc,Bf,Cq,h,Aa];simp only;rw[Aaf (by rw[jV (by omega)];decide),Aas (by rw[Al];simp;omega),wA hx,Aa]
theorem sW{p':LB}{f' c' w' r' n':Int}{g':LI}{a':Int}{x':LB}(h:Ag o p f c w r n g a x false 0=some (o,p',f',c',w',r',n',g',a',x',false,0,0)):Kc (q+1) o p f c w r n g a x=Kc q o p' f' c' w' r' n' g' a' x':=by
 rw[Kc,Bf,Cq,h,Aa];simp only;rw[Aaf (by decide),Aaf (by decide)]
end
def Ends(o:LB)(R:Option Bje)(x:LB)(e:Int):Prop:=(0<e/\R=some (o,[],0,0,0,0,0,[],0,x,false,e,e))\/ (∃(p:LB) (f c w r n:Int) (g:LI) (a:Int),p.length<=100000/\R=some (o,p,f,c,w,r,n,g,a,x,false,0,0)/\Da o p f c w r n g a x false 0=some e)
theorem Aeg(b p:LB)(hb:b.length<=20000)(hp:p.length<=64)(q:Nat):
  (∃e:Int,e≠0/\Cw b p=some (SK e)/\Ends p (Kc (q+2) p b 0 0 0 0 0 [] 0 []) [] e)\/ (∃f c w r n A l,Opn b p f c w r n A l/\Kc (q+2) p b 0 0 0 0 0 [] 0 []=Kc q p (b.drop A) (f:Int) (c:Int) (w:Int) (r:Int) (n:Int) l 0 []):=by
 have hx0:([]:LB).length<=13000000:=by simp
 have hg0:([]:LI).length<=1000:=by simp
 have hT:Ag p b 0 0 0 0 0 [] 0 [] false 0=Ag p b 0 0 0 0 0 [] 0 [] false 0:=rfl
 conv at hT=>rhs;rw[Ag,Bp,Aas (by decide),Zu b (by omega),Aa,stS]
 have hE:Da p b 0 0 0 0 0 [] 0 [] false 0=Da p b 0 0 0 0 0 [] 0 [] false 0:=rfl
 conv at hE=>rhs;rw[Da,Aas (by decide),BI b (by omega),Aa]
 have hP:Cw b p=Cw b p:=rfl
 conv at hP=>rhs;rw[Cw,Ui,Aaf (by rw[As,Ac];simp;omega),Aaf (by rw[As,Ac];simp;omega),Pu b (by omega),Aa]
 have hfn:=Aa3 b;have hrn:=Af8 (Il b);have hopen:=zE b p (by omega) hp;simp only at hE;by_cases h2:(Bo b).2=0
 ·obtain⟨p0,p1,p2⟩:=BR h2;have hc:=Bt (l:=b) p0 p1;have hlen:(Il b).length=b.length-(Bo b).1.toNat:=by simp[Il]
  simp only[h2]at hP hE;rw[Aaf (show ¬(Bo b).2=24 by omega),Aaf (show ¬(Bo b).2≠0 by omega)]at hT;rw[Aaf (by rw[Al];simp),hc,Aa,show b.drop (Bo b).1.toNat=Il b from rfl,OP _ (by simp[Il];omega),Aa]at hP;rw[Aaf (by rw[Al];simp),hc,Aa,show b.drop (Bo b).1.toNat=Il b from rfl,iI _ (by simp[Il];omega),Aa]at hE;by_cases h3:(Eg (Il b)).2.2.2.2.2=0
  ·obtain⟨g1,g2,g3,g4⟩:=oW h3;have Bgt:¬((Oy (Il b) ID3||Oy (Il b) APX)=true):=by
    have i1:Oy (Il b) ID3=false:=by rw[Oy,Bhd (by simp[ID3];omega)];rfl
    have i2:Oy (Il b) APX=false:=by rw[Oy,Bhd (by simp[APX];omega)];rfl
    rw[i1,i2];decide
   rw[Aaf Bgt,Aaf (show ¬(Eg (Il b)).2.2.2.2.2=24 by omega),h3]at hT;simp only at hT;rw[Aaf (by decide)]at hT;have hd:HdI (f0 (Il b):Int) (f1 (Il b):Int) (f2 (Il b):Int) (f3 (Il b):Int) (f4 (Il b):Int) (f0 (Il b)) (f1 (Il b)) (f2 (Il b)) (f3 (Il b)) (f4 (Il b)):=⟨rfl,rfl,rfl,rfl,rfl,g3,g4⟩;generalize hF:(Bo b).1.toNat=F at*
   have hF':(Bo b).1=(F:Int):=by omega
   rw[g1,hF']at hP hT;simp only at hP hT;generalize f0 (Il b)=f at*
   generalize f1 (Il b)=c at*
   generalize f2 (Il b)=w at*
   generalize f3 (Il b)=r at*
   generalize f4 (Il b)=n at*
   have t22:Ad (F:Int) 22=((F+22:Nat):Int):=by rw[Ah (by omega) (by omega)];omega
   have t30:Ad ((F+22:Nat):Int) 8=((F+30:Nat):Int):=by rw[Ah (by omega) (by omega)];omega
   have Bl1:f=1\/f=2:=by simp only[Ft,Acw]at g3;omega
   have hf1:geq (f:Int) 1=decide (f=1):=by rw[Ar,Anb];simp;omega
   rw[Aaf (by rw[Al];simp),t22,t30]at hP;rw[Bt (by omega) (by omega),Aa,Hk,Ha,Et,show((F:Int)+22).toNat=F+22 by omega]at hT;by_cases ML:((p==([]:List UInt8)) !=(geq (f:Int) (1:Int)))=true
   ·rw[Aas ML]at hP hT;rw[Aa]at hT;exact .inl ⟨26,by omega,hP, .inl ⟨by omega,SB (q:=q+1) hx0 (by decide) hT⟩⟩
   ·rw[Aaf ML]at hP hT;rw[Aa]at hT;have hl1:=sW (q:=q+1) hT;have hpf:(p=[]↔f=1):=by
     rw[Ar]at ML;have h5:(p==([]:List UInt8))=((f:Int)==1):=by simpa using ML
     have h6:(p==([]:List UInt8))=true↔((f:Int)==1)=true:=by rw[h5]
     rw[Aue,Aue]at h6;rw[h6];omega
    have hpw:(p==([]:LB))=decide (f=1):=by rw[<-hf1];simpa using ML
    have hdl:(b.drop (F+22)).length=b.length-(F+22):=Aky;have hE2:Da p (b.drop (F+22)) (f:Int) (c:Int) (w:Int) (r:Int) (n:Int) [] 0 [] false 0=some 24:=by
     rw[Da,Aaf (by rw[Ar];simp;omega),Aas (by decide)]
    have hT2:Ag p (b.drop (F+22)) (f:Int) (c:Int) (w:Int) (r:Int) (n:Int) [] 0 [] false 0=Ag p (b.drop (F+22)) (f:Int) (c:Int) (w:Int) (r:Int) (n:Int) [] 0 [] false 0:=rfl
    conv at hT2=>rhs;rw[Ag,Bp,Aaf (by rw[Ar];simp;omega),Bw,Bv,Aas (by decide),Ey,Hu]
    have hend:∀D:Nat,F+22+D<=b.length->D=(if f=2 then 8 else 0)->Cw b p=Qn b (f:Int) (c:Int) (w:Int) (r:Int) (n:Int) ((F+22+D:Nat):Int)->
      Ag p (b.drop (F+22)) (f:Int) (c:Int) (w:Int) (r:Int) (n:Int) [] 0 [] false 0=((Dr (b.drop (F+22)) (f:Int) (c:Int) (w:Int) (r:Int) (n:Int) (D:Int)).bind (λ(ag,ak,w1)=>if(Ba w1 0)then some (p,b.drop (F+22),(f:Int),(c:Int),(w:Int),(r:Int),(n:Int),([]:LI),(0:Int),([]:LB),false,(0:Int),w1)else(Bi (b.drop (F+22)) ag (Ac (b.drop (F+22)))).bind λal=>some (p,al,(f:Int),(c:Int),(w:Int),(r:Int),(n:Int),ak,(0:Int),([]:LB),false,(0:Int),(0:Int))))->
      (∃e:Int,e≠0/\Cw b p=some (SK e)/\Ends p (Kc (q+2) p b 0 0 0 0 0 [] 0 []) [] e)\/ (∃f c w r n A l,Opn b p f c w r n A l/\Kc (q+2) p b 0 0 0 0 0 [] 0 []=Kc q p (b.drop A) (f:Int) (c:Int) (w:Int) (r:Int) (n:Int) l 0 []):=by
     intro D hD hD2 e1 e2;obtain⟨_,k2,k3⟩:=Aar hd p (b.drop (F+22)) (by omega) D (by omega) 0 [] false 0;rw[sR g3 g4 b (by omega) (F+22+D) hD]at e1;rw[k2,Aa]at e2;have hnn:=Ag7 ((b.drop (F+22)).drop D) (Aj (Ak r) n).length;have hok:=iK (b:=(b.drop (F+22)).drop D) (n:=(Aj (Ak r) n).length);rw[Bjo]at e2 hnn hok k3;generalize hz:Eh (b.drop (F+22+D)) (Aj (Ak r) n).length=z at*
     obtain⟨z1,z2⟩:=z;simp only at e1 e2 hnn hok k3;by_cases h:z2≠0
     ·rw[Aas h]at e1;refine .inl ⟨z2,h,e1,?_⟩;by_cases h24:z2=24
      ·rw[Aas h24]at e2;simp only at e2;rw[Aas (by decide)]at e2;rw[h24];exact .inr ⟨_,_,_,_,_,_,_,_,by omega,hl1.trans (BL (by omega) hg0 hx0 e2),hE2⟩
      ·rw[Aaf h24]at e2;simp only at e2;rw[Aas (by rw[Al];simpa using h)]at e2;exact .inl ⟨by omega,hl1.trans (SB hx0 (by omega) e2)⟩
     ·have h0:z2=0:=by simpa using h
      subst h0;obtain⟨k1,m2,m3,m4,m5,m6⟩:=hok rfl;have hk3:=k3 rfl;simp only[Aie,Boj]at k1;have gl:z1.length=(Aj (Ak r) n).length:=by rw[k1];exact Ux _ _
      rw[Aaf (show ¬((0:Int)≠0) by decide)]at e1;rw[Aaf (show ¬((0:Int)=24) by decide)]at e2;simp only at e2;rw[Aaf (by decide),Bt (by omega) (by omega),Aa,Bjo]at e2;rcases hopen with⟨e,he,h1,_⟩|⟨f',c',w',r',n',A',l',o'⟩
      ·rw[e1]at h1;have:=Axa h1;simp only[SK,Aie]at this;exact absurd this.2.2.2.2.2.2.2.symm he
      ·have hpr:=o'.prog;rw[e1]at hpr;simp only[Adm,Aie]at hpr;obtain⟨v1,v2,v3,v4,v5,v6,v7,_⟩:=hpr;refine .inr ⟨f',c',w',r',n',A',l',o',?_⟩;rw[<-v1,<-v2,<-v3,<-v4,<-v5,<-v7];refine hl1.trans ((sW e2).trans ?_);congr 2;omega
    by_cases h5:f=2
    ·have Ayw:p≠ []:=λe=>by have:=hpf.1 e;omega
     have h64:(p !=([]:List UInt8))=true:=by simpa using Ayw
     rw[Aas h64]at hP;rw[Aas (by rw[Ar,h5];rfl)]at hT2;by_cases h6:b.length<F+30
     ·rw[Aas (by rw[Ae,Ac];simp;omega)]at hP hT2;rw[Aa]at hT2;simp only at hT2;rw[Aas (by decide)]at hT2;exact .inl ⟨24,by omega,hP, .inr ⟨_,_,_,_,_,_,_,_,by omega,hl1.trans (BL (by omega) hg0 hx0 hT2),hE2⟩⟩
     ·have hseg:((b.take (F+30)).drop (F+22)).length=8:=by simp;omega
      have Bnp:(b.drop (F+22)).take 8=(b.take (F+30)).drop (F+22):=by rw[Boi];congr 1;omega
      rw[Aaf (by rw[Ae,Ac];simp;omega),Uk (by omega) (by omega) (by omega),Aa]at hP;rw[Aaf (by rw[Ae,Ac,hdl];simp;omega),Dd (by omega) (by omega),Aa,iN p hp,Aa,show(8:Int).toNat=8 from rfl,Bnp]at hT2;rw[Om,sC p hp,Aa]at hP;simp only at hP;rw[Aaf (by rw[Al,Al,Ac,Ac,Cf,show((F+30:Nat):Int).toNat=F+30 from rfl,show((F+22:Nat):Int).toNat=F+22 from rfl,hseg];simp),If,Aa,Aa]at hP;simp only at hP;rw[Aaf (by rw[Al];simp),show((F+30:Nat):Int).toNat=F+30 from rfl,show((F+22:Nat):Int).toNat=F+22 from rfl]at hP;generalize(b.take (F+30)).drop (F+22)=tC at*
      by_cases h7:tC=Sm (Vk p).toNat 8
      ·rw[Aaf (by simp[h7])]at hP hT2;exact hend 8 (by omega) (by rw[Aas h5]) hP hT2
      ·rw[Aas (by simpa using h7)]at hP;rw[Aas (by simpa using h7),Aa]at hT2;simp only at hT2;rw[Aas (by decide)]at hT2;exact .inl ⟨26,by omega,hP, .inl ⟨by omega,hl1.trans (SB hx0 (by decide) hT2)⟩⟩
    ·have hpe:p=[]:=hpf.2 (by omega);rw[Aaf (by rw[hpe];simp)]at hP;rw[Aaf (by rw[Ar];simp;omega)]at hT2;exact hend 0 (by omega) (by rw[Aaf h5]) hP hT2
  ·have h3':=h3;generalize Eg (Il b)=v at*
   obtain⟨v1,v2,v3,v4,v5,v6⟩:=v;simp only at h3 hP hE hrn;rw[Aas (by rw[Al];simpa using h3)]at hP;refine .inl ⟨v6,h3,hP,?_⟩;by_cases Bgt:(Oy (Il b) ID3||Oy (Il b) APX)=true
   ·rw[Aas Bgt]at hT;simp only at hT;rw[Aas (by decide)]at hT;exact .inr ⟨_,_,_,_,_,_,_,_,by omega,BL (by omega) hg0 hx0 hT,hE⟩
   ·rw[Aaf Bgt]at hT;by_cases h24:v6=24
    ·rw[Aas h24]at hT;simp only at hT;rw[Aas (by decide)]at hT;exact .inr ⟨_,_,_,_,_,_,_,_,by omega,BL (by omega) hg0 hx0 hT,hE⟩
    ·rw[Aaf h24]at hT;simp only at hT;rw[Aas (by rw[Al];simpa using h3)]at hT;exact .inl ⟨by omega,SB hx0 (by omega) hT⟩
 ·have h2':=h2;generalize Bo b=v at*
  obtain⟨v,e⟩:=v;simp only at h2 hP hT hE hfn;rw[Aas (by rw[Al];simpa using h2)]at hP hE;refine .inl ⟨e,h2,hP,?_⟩;by_cases h24:e=24
  ·rw[Aas h24]at hT;simp only at hT;rw[Aas (by decide)]at hT;exact .inr ⟨_,_,_,_,_,_,_,_,by omega,BL (by omega) hg0 hx0 hT,hE⟩
  ·rw[Aaf h24,Aas h2]at hT;simp only at hT;rw[Aas (by rw[Al];simpa using h2)]at hT;exact .inl ⟨by omega,SB hx0 (by omega) hT⟩
section
variable {b p:List UInt8} {f c w r n A:Nat} {l:List Int} (o:Opn b p f c w r n A l) (hb:b.length<=20000)
include o hb
theorem Acl:∀(j k q:Nat) (acc:List UInt8),k+j=l.length->j<q-> (A:Int)+(l.take k).sum<=b.length->acc.length<=12000*k->
  ∃X,Ends p (Kc q p (b.drop ((A:Int)+(l.take k).sum).toNat) (f:Int) (c:Int) (w:Int) (r:Int) (n:Int) l (k:Int) acc) X (mV (Ii b p f c w r n A l) (eJ b A l) j k acc).2/\
   ((mV (Ii b p f c w r n A l) (eJ b A l) j k acc).2=0->X=(mV (Ii b p f c w r n A l) (eJ b A l) j k acc).1)
 |j,k,0,_,_,h,_,_=>absurd h (Bgp _)
 |j,k,q+1,acc,hk,hq,hA,ha=>by
  have hd:HdI (f:Int) (c:Int) (w:Int) (r:Int) (n:Int) f c w r n:=⟨rfl,rfl,rfl,rfl,rfl,o.shape,o.fit⟩;have hs1:=o.some1;have hsum:=o.sum;have ED:=hd.num;have hlen:=o.len;have b1:=Fb o.five k;have hfn:¬(geq (f:Int) 0=true):=by rw[Ar];simp;omega
  have hgl:¬(geq (Ac l) 0=true):=by rw[Ar,Ac,Aue];omega
  have hgf:geq (Ac l) 0=false:=by simpa using hgl
  generalize hIn:b.drop ((A:Int)+(l.take k).sum).toNat=In;have Bjy:In.length=b.length-((A:Int)+(l.take k).sum).toNat:=by rw[<-hIn,Aky]
  have hT:Ag p In (f:Int) (c:Int) (w:Int) (r:Int) (n:Int) l (k:Int) acc false 0=Ag p In (f:Int) (c:Int) (w:Int) (r:Int) (n:Int) l (k:Int) acc false 0:=rfl
  conv at hT=>rhs;rw[Ag,Bp,Aaf hfn,Bw,Bv,Aaf hgl]
  have hE:Da p In (f:Int) (c:Int) (w:Int) (r:Int) (n:Int) l (k:Int) acc false 0=Da p In (f:Int) (c:Int) (w:Int) (r:Int) (n:Int) l (k:Int) acc false 0:=rfl
  conv at hE=>rhs;rw[Da,Aaf hfn]
  cases j with
  |zero=>
   obtain rfl:k=l.length:=by omega
   rw[Aye]at hIn Bjy;have hbe:eJ b A l=(Qz In).2:=by rw[eJ,hIn]
   rw[Aas (by rw[Ar,Ac];simp)]at hT;have hgt:Cl (l.length:Int) (Ac l)=false:=by rw[Ae,Ac,Bdm];omega
   rw[Aaf (by rw[hgf,hgt];decide),wK In (by omega),Aa]at hE;rw[mV,hbe];have hbz:=Ak0 In;have hb4:4000<In.length-> (Qz In).2=38:=λh4=>by rw[Qz,Aas h4]
   generalize Qz In=z at*
   obtain⟨z1,z2⟩:=z;simp only at hE hbz hb4⊢;by_cases h4:4000<In.length
   ·rw[Aas (by rw[As,Ac];simp;omega)]at hT;rw[hb4 h4,Aas (by decide)];exact⟨acc, .inl ⟨by decide,SB (by omega) (by decide) hT⟩,λh=>by cases h⟩
   ·rw[Aaf (by rw[As,Ac];simp;omega)]at hT;have hlw:=BL (q:=q) (by omega:In.length<=100000) hs1.2 (by omega) hT;rcases hbz with h|h
    ·rw[h,Aaf (by decide)];rw[h,Aaf (by decide)]at hE;exact⟨acc, .inr ⟨_,_,_,_,_,_,_,_,by omega,hlw,hE⟩,λ_=>rfl⟩
    ·rw[h,Aas (by decide)];rw[h,Aas (by decide)]at hE;exact⟨acc, .inr ⟨_,_,_,_,_,_,_,_,by omega,hlw,hE⟩,λh=>by cases h⟩
  |succ j=>
   have hlt:k<l.length:=by omega
   have hlt2:k<(Aj (Ak r) n).length:=by omega
   obtain⟨m,x,s,e,g⟩:=Rp o k hlt;have hw:Bk (w:Int):=(Lw o.shape).2.1;have Bdg:=g.lens hw;have b2:=Fb o.five (k+1);have e1:=Fg hlt;have h5:=o.five l[k] (Ane _);have hm:=g.mom;rw[Aaf (by rw[Ar,Ac];simp;omega),Di,El,Bm hlt,Aa]at hT;have hgt:Cl (k:Int) (Ac l)=true:=by rw[Ae,Ac,Acw];omega
   rw[Aas (by rw[hgf,hgt];decide)]at hE;rw[mV,g.eq];simp only;rcases g.way with⟨w1,rfl⟩|⟨w1,_,w2⟩
   ·rw[Aas (by rw[Ae,Ac];simp;omega),Aa]at hT;simp only at hT;rw[Aas (by decide)]at hT;rw[Aas (by decide)];exact⟨acc, .inr ⟨_,_,_,_,_,_,_,_,by omega,BL (by omega) hs1.2 (by omega) hT,hE⟩,λh=>by cases h⟩
   ·have hseg:In.take l[k].toNat=tM b A l k:=by
     rw[tM,<-hIn,Boi];congr 1;omega
    have hnn:=tB hw (Kq p) ED.2.1.1 ED.2.1.2 g.pos.1 (by
     have hlt3:=Bm hlt2;rw[hlt3]at hm;have hm':=Axa hm;obtain⟨m',hm2,m1,m2⟩:=Ta (Du r) ED.2.2.2.2.1 (Ane hlt2);omega) w2
    rw[Aaf (by rw[Ae,Ac];simp;omega),LR p o.pass,Aa]at hT;simp only at hT;rw[Dd (by omega) (by omega),Aa,hseg,Fv,Aa]at hT;simp only at hT;rw[hd.Am6,Aa,hm,Aa,Aa,w2,Aa]at hT;simp only at hT;rw[Ej,Ek]at hT;by_cases he:e≠0
    ·rw[Aas (by rw[Al];simpa using he),Aa]at hT;simp only at hT;rw[Aas (by rw[Al];simpa using he)]at hT;rw[Aas he];exact⟨acc, .inl ⟨by simp only;omega,SB (by omega) (by omega) hT⟩,λh=>absurd h he⟩
    ·have he0:e=0:=by simpa using he
     obtain⟨q1,q2,q3,q4,q5⟩:=g.some' he0;rw[Aaf (by rw[Al];simpa using he),HB hw (by omega) q3,<-q1,Aa,Aa]at hT;simp only at hT;rw[Aaf (by decide),Bd (by simp;omega),Aa,Arc,Bd (by omega),Aa,Aa,Bt (by omega) (by omega),Aa,Ah (by omega) (by omega)]at hT;rw[Aaf he,sW hT];have Bjz:In.drop l[k].toNat=b.drop ((A:Int)+(l.take (k+1)).sum).toNat:=by rw[<-hIn,Bjo];congr 1;omega
     rw[Bjz];exact Acl j (k+1) q (acc++s) (by omega) (by omega) q5 (by rw[Abt];omega)
end
theorem Aj3(b p:LB)(hb:b.length<=20000)(hp:p.length<=64):∃(X:LB) (x1 x2 x3:Int) (x4:LX) (E:Int),Ends p (Fd p b) X E/\Tf b p=some (x1,x2,x3,x4,E)/\ (E=0->Lf x2 x4=some (X,0)):=by
 obtain⟨q,hq⟩:∃q,Au=q+1002+2:=⟨Au-1004,by have:=Aq;omega⟩;rw[Fd,hq];rcases Aeg b p hb hp (q+1002)with⟨e,he,h1,h2⟩|⟨f,c,w,r,n,A,l,o,h2⟩
 ·rcases Adk b p (by omega) hp with⟨e',he',k1,_,k3,_⟩|⟨f,c,w,r,n,A,l,o,_,_⟩
  ·rw[h1]at k1;have:=Axa k1;simp only[SK,Aie]at this;obtain rfl:=this.2.2.2.2.2.2.2;exact⟨[],0,0,0,[],e,h2,k3,λh=>absurd h he⟩
  ·have:=o.prog;rw[h1]at this;have:=Axa this;simp only[SK,Aie]at this;exact absurd this.2.2.2.2.2.2.2 he
 ·rcases Adk b p (by omega) hp with⟨e',he',k1,_,k3,_⟩|⟨f',c',w',r',n',A',l',o',k3,_⟩
  ·have:=o.prog;rw[k1]at this;have:=Axa this;simp only[SK,Aie]at this;exact absurd this.2.2.2.2.2.2.2 he'
  ·have hpr:=o'.prog;rw[o.prog]at hpr;simp only[Adm,Aie]at hpr;obtain⟨v1,v2,v3,v4,v5,v6,v7,_⟩:=hpr;obtain rfl:f=f':=by omega
   obtain rfl:c=c':=by omega
   obtain rfl:w=w':=by omega
   obtain rfl:r=r':=by omega
   obtain rfl:n=n':=by omega
   obtain rfl:A=A':=by omega
   subst v7;have hs1:=o.some1;have hat:=o.at';obtain⟨X,g1,g2⟩:=Acl o hb l.length 0 (q+1002) [] (by omega) (by omega) (by rw[Bd5,Bmm];omega) (by simp);rw[Bd5,Bmm,Int.add_zero,Ah2]at g1;have hrc:=Aet w (Ii b p f c w r n A l) (eJ b A l) l.length 0 [] [];have hgd:=Adz (λk=>smF w (Ii b p f c w r n A l k)) (λk=>(Ii b p f c w r n A l k).2) (eJ b A l) l.length 0 [];rw[Adu,bI]at k3;rw[h2];by_cases hC:(iU (λk=>smF w (Ii b p f c w r n A l k)) (λk=>(Ii b p f c w r n A l k).2) (eJ b A l) l.length 0 []).2≠0
   ·rw[Aas hC,Amf]at k3;rw[<-hrc]at hC k3;exact⟨X,0,0,0,[],_,g1,k3,λh=>absurd h hC⟩
   ·have hC0:(iU (λk=>smF w (Ii b p f c w r n A l k)) (λk=>(Ii b p f c w r n A l k).2) (eJ b A l) l.length 0 []).2=0:=by simpa using hC
    obtain⟨hbe,hE',hC1⟩:=hgd hC0;have hE:∀i,i<l.length-> (Ii b p f c w r n A l i).2=0:=λi hi=>hE' i (by omega) (by omega);rw[Arc]at hC1;rw[Aaf hC,hC1]at k3;rw[hC0]at hrc;have hX:=g2 hrc;rw[hbe,Aaj _ _ _ _ λi h1 h2=>hE i (by omega),Arc]at hX;rw[hrc]at g1;exact⟨X,_,_,_,_,0,g1,k3,λ_=>by rw[hX];exact Awz o hE⟩
section
variable {b p:List UInt8} {f c w r n A:Nat} {l:List Int} (o:Opn b p f c w r n A l) (hb:b.length<=20000)
include o hb
theorem Af6{k:Nat}(hk:k<l.length)(h0:(A:Int)+(l.take k).sum<=b.length)(acc:LB)(hacc:acc.length<=12000*k):
  (b.length<(A:Int)+(l.take (k+1)).sum->∀q,Kc (q+1) p (b.drop ((A:Int)+(l.take k).sum).toNat) (f:Int) (c:Int) (w:Int) (r:Int) (n:Int) l (k:Int) acc=some (p,b.drop ((A:Int)+(l.take k).sum).toNat,(f:Int),(c:Int),(w:Int),(r:Int),(n:Int),l,(k:Int),acc,false,0,0))/\
  ((A:Int)+(l.take (k+1)).sum<=b.length-> ((Ii b p f c w r n A l k).2=0->∀q,Kc (q+1) p (b.drop ((A:Int)+(l.take k).sum).toNat) (f:Int) (c:Int) (w:Int) (r:Int) (n:Int) l (k:Int) acc=Kc q p (b.drop ((A:Int)+(l.take (k+1)).sum).toNat) (f:Int) (c:Int) (w:Int) (r:Int) (n:Int) l ((k+1:Nat):Int) (acc++(Ii b p f c w r n A l k).1))/\
   ((Ii b p f c w r n A l k).2≠0->∀q,Kc (q+1) p (b.drop ((A:Int)+(l.take k).sum).toNat) (f:Int) (c:Int) (w:Int) (r:Int) (n:Int) l (k:Int) acc=some (p,[],0,0,0,0,0,[],0,acc,false,(Ii b p f c w r n A l k).2,(Ii b p f c w r n A l k).2))):=by
 have hd:HdI (f:Int) (c:Int) (w:Int) (r:Int) (n:Int) f c w r n:=⟨rfl,rfl,rfl,rfl,rfl,o.shape,o.fit⟩;have hs1:=o.some1;have hsum:=o.sum;have ED:=hd.num;have hlen:=o.len;have b1:=Fb o.five k;have hfn:¬(geq (f:Int) 0=true):=by rw[Ar];simp;omega
 have hgl:¬(geq (Ac l) 0=true):=by rw[Ar,Ac,Aue];omega
 generalize hIn:b.drop ((A:Int)+(l.take k).sum).toNat=In;have Bjy:In.length=b.length-((A:Int)+(l.take k).sum).toNat:=by rw[<-hIn,Aky]
 have hT:Ag p In (f:Int) (c:Int) (w:Int) (r:Int) (n:Int) l (k:Int) acc false 0=Ag p In (f:Int) (c:Int) (w:Int) (r:Int) (n:Int) l (k:Int) acc false 0:=rfl
 conv at hT=>rhs;rw[Ag,Bp,Aaf hfn,Bw,Bv,Aaf hgl]
 have hlt2:k<(Aj (Ak r) n).length:=by omega
 obtain⟨m,x,s,e,g⟩:=Rp o k hk;have hw:Bk (w:Int):=(Lw o.shape).2.1;have Bdg:=g.lens hw;have b2:=Fb o.five (k+1);have e1:=Fg hk;have h5:=o.five l[k] (Ane _);have hm:=g.mom;rw[Aaf (by rw[Ar,Ac];simp;omega),Di,El,Bm hk,Aa]at hT;rw[g.eq];simp only;refine⟨λhlt q=>?_,λhge=>?_⟩
 ·rw[Aas (by rw[Ae,Ac];simp;omega),Aa]at hT;simp only at hT;rw[Aas (by decide)]at hT;exact BL (by omega) hs1.2 (by omega) hT
 rcases g.way with⟨w1,_⟩|⟨w1,_,w2⟩
 ·omega
 have hseg:In.take l[k].toNat=tM b A l k:=by
  rw[tM,<-hIn,Boi];congr 1;omega
 have hnn:=tB hw (Kq p) ED.2.1.1 ED.2.1.2 g.pos.1 (by
  have hlt3:=Bm hlt2;rw[hlt3]at hm;have hm':=Axa hm;obtain⟨m',hm2,m1,m2⟩:=Ta (Du r) ED.2.2.2.2.1 (Ane hlt2);omega) w2
 rw[Aaf (by rw[Ae,Ac];simp;omega),LR p o.pass,Aa]at hT;simp only at hT;rw[Dd (by omega) (by omega),Aa,hseg,Fv,Aa]at hT;simp only at hT;rw[hd.Am6,Aa,hm,Aa,Aa,w2,Aa]at hT;simp only at hT;rw[Ej,Ek]at hT;refine⟨λhe q=>?_,λhe q=>?_⟩
 ·obtain⟨q1,q2,q3,q4,q5⟩:=g.some' he;rw[Aaf (by rw[Al];simpa using he),HB hw (by omega) q3,<-q1,Aa,Aa]at hT;simp only at hT;rw[Aaf (by decide),Bd (by simp;omega),Aa,Arc,Bd (by omega),Aa,Aa,Bt (by omega) (by omega),Aa,Ah (by omega) (by omega)]at hT;rw[sW hT];have Bjz:In.drop l[k].toNat=b.drop ((A:Int)+(l.take (k+1)).sum).toNat:=by rw[<-hIn,Bjo];congr 1;omega
  rw[Bjz];rfl
 ·rw[Aas (by rw[Al];simpa using he),Aa]at hT;simp only at hT;rw[Aas (by rw[Al];simpa using he)]at hT;exact SB (by omega) (by omega) hT
theorem Ahn:∀(j k q:Nat) (acc:LB),k+j<=l.length-> (A:Int)+(l.take (k+j)).sum<=b.length-> (∀i,k<=i->i<k+j-> (Ii b p f c w r n A l i).2=0)->acc.length<=12000*k->
  Kc (q+j) p (b.drop ((A:Int)+(l.take k).sum).toNat) (f:Int) (c:Int) (w:Int) (r:Int) (n:Int) l (k:Int) acc=Kc q p (b.drop ((A:Int)+(l.take (k+j)).sum).toNat) (f:Int) (c:Int) (w:Int) (r:Int) (n:Int) l ((k+j:Nat):Int) (acc++Ru (λi=>(Ii b p f c w r n A l i).1) j k)
 |0,k,q,acc,_,_,_,_=>by simp[Ru]
 |j+1,k,q,acc,hk,hA,hg,hacc=>by
  have hnn:∀z∈l,0<=z:=λz hz=>by have:=o.five z hz;omega
  have m0:=yF hnn (show k<=k+(j+1) by omega);have m1:=yF hnn (show k+1<=k+(j+1) by omega);obtain⟨_,h2⟩:=Af6 (hb:=hb) o (k:=k) (by omega) (by omega) acc hacc;have h3:=(h2 (by omega)).1 (hg k (by omega) (by omega)) (q+j);obtain⟨m,x,s,e,g⟩:=Rp o k (by omega);have Bdg:=g.lens (Lw o.shape).2.1;have hs:(Ii b p f c w r n A l k).1.length<=12000:=by rw[g.eq];exact Bdg.1
  have ih:=Ahn j (k+1) q (acc++(Ii b p f c w r n A l k).1) (by omega) (by rw[show k+1+j=k+(j+1) by omega];exact hA) (λi h1 h2=>hg i (by omega) (by omega)) (by rw[Abt];omega);rw[show q+(j+1)=q+j+1 by omega,h3,ih,show k+1+j=k+(j+1) by omega,Ru,Aec]
theorem Bc2{acc:LB}(hacc:acc.length<=13000000)(h0:(A:Int)+l.sum<=b.length)(h4:b.length<= (A:Int)+l.sum+4000)(q:Nat):Kc (q+1) p (b.drop ((A:Int)+l.sum).toNat) (f:Int) (c:Int) (w:Int) (r:Int) (n:Int) l (l.length:Int) acc=some (p,b.drop ((A:Int)+l.sum).toNat,(f:Int),(c:Int),(w:Int),(r:Int),(n:Int),l,(l.length:Int),acc,false,0,0):=by
 have hd:HdI (f:Int) (c:Int) (w:Int) (r:Int) (n:Int) f c w r n:=⟨rfl,rfl,rfl,rfl,rfl,o.shape,o.fit⟩;have hs1:=o.some1;have ED:=hd.num;have hfn:¬(geq (f:Int) 0=true):=by rw[Ar];simp;omega
 have hgl:¬(geq (Ac l) 0=true):=by rw[Ar,Ac,Aue];omega
 have hl0:0<=l.sum:=Awm l o.five;generalize hIn:b.drop ((A:Int)+l.sum).toNat=In;have Bjy:In.length=b.length-((A:Int)+l.sum).toNat:=by rw[<-hIn,Aky]
 have hT:Ag p In (f:Int) (c:Int) (w:Int) (r:Int) (n:Int) l (l.length:Int) acc false 0=Ag p In (f:Int) (c:Int) (w:Int) (r:Int) (n:Int) l (l.length:Int) acc false 0:=rfl
 conv at hT=>rhs;rw[Ag,Bp,Aaf hfn,Bw,Bv,Aaf hgl]
 rw[Aas (by rw[Ar,Ac];simp),Aaf (by rw[As,Ac];simp;omega)]at hT;exact BL (by omega) hs1.2 hacc hT
theorem Aw9(q:Nat):Kc (q+2) p b 0 0 0 0 0 [] 0 []=Kc q p (b.drop A) (f:Int) (c:Int) (w:Int) (r:Int) (n:Int) l 0 []:=by
 rcases Aeg b p hb o.pass q with⟨e,he,h1,_⟩|⟨f',c',w',r',n',A',l',o',h2⟩
 ·have:=o.prog;rw[h1]at this;have:=Axa this;simp only[SK,Aie]at this;exact absurd this.2.2.2.2.2.2.2 he
 ·have hpr:=o'.prog;rw[o.prog]at hpr;simp only[Adm,Aie]at hpr;obtain⟨v1,v2,v3,v4,v5,v6,v7,_⟩:=hpr;obtain rfl:f=f':=by omega
  obtain rfl:c=c':=by omega
  obtain rfl:w=w':=by omega
  obtain rfl:r=r':=by omega
  obtain rfl:n=n':=by omega
  obtain rfl:A=A':=by omega
  subst v7;exact h2
theorem Be6{K:Nat}(hK:K<=l.length)(hA:(A:Int)+(l.take K).sum<=b.length)(hg:∀i,i<K-> (Ii b p f c w r n A l i).2=0)(hend:(K<l.length/\b.length<(A:Int)+(l.take (K+1)).sum)\/ (K=l.length/\b.length<= (A:Int)+l.sum+4000)):
  Fd p b=some (p,b.drop ((A:Int)+(l.take K).sum).toNat,(f:Int),(c:Int),(w:Int),(r:Int),(n:Int),l,(K:Int),Ru (λi=>(Ii b p f c w r n A l i).1) K 0,false,0,0):=by
 obtain⟨q,hq⟩:∃q,Au=(q+1+K)+2:=⟨Au-(K+3),by have:=Aq;have:=o.some1;omega⟩;have hr:=Ahn o hb K 0 (q+1) [] (by omega) (by rw[Bdf];exact hA) (λi _ h2=>hg i (by omega)) (by simp);rw[Bd5,Bmm,Int.add_zero,Ah2,Bdf,Arc,show((0:Nat):Int)=0 from rfl]at hr;have hcl:(Ru (λi=>(Ii b p f c w r n A l i).1) K 0).length<=12000*K:=by
  have:∀j,j<=l.length-> (Ru (λi=>(Ii b p f c w r n A l i).1) j 0).length<=12000*j:=by
   intro j
   induction j with
   |zero=>intro _;simp[Ru]
   |succ j ih=>
    intro hj;obtain⟨m,x,s,e,g⟩:=Rp o j (by omega);have Bdg:=g.lens (Lw o.shape).2.1;have:=ih (by omega);have hs:(Ii b p f c w r n A l j).1.length<=12000:=by rw[g.eq];exact Bdg.1
    rw[Akv,Abt,Bdf];omega
  exact this K hK
 rw[Fd,hq,Aw9 o hb,hr];rcases hend with⟨h1,h2⟩|⟨rfl,h2⟩
 ·exact(Af6 o hb h1 hA _ hcl).1 h2 q
 ·rw[Aye]at hA⊢;exact Bc2 o hb (by have:=o.some1;omega) hA h2 q
end
theorem Azf{b b' p:LB}{f c w r n A:Nat}{l:LI}(o:Opn b p f c w r n A l)(o':Opn b' p f c w r n A l){k:Nat}(hk:k<l.length)(h1:(A:Int)+(l.take (k+1)).sum<=b.length)(h2:(A:Int)+(l.take (k+1)).sum<=b'.length)(hs:tM b A l k=tM b' A l k):Ii b p f c w r n A l k=Ii b' p f c w r n A l k:=by
 obtain⟨m,x,s,e,g⟩:=Rp o k hk;obtain⟨m',x',s',e',g'⟩:=Rp o' k hk;have hm:=g.mom;rw[g'.mom]at hm;have hm:=Axa hm;obtain rfl:m'=m:=by omega
 rcases g.way with⟨w1,_⟩|⟨_,w2,_⟩
 ·omega
 rcases g'.way with⟨w1,_⟩|⟨_,w2',_⟩
 ·omega
 rw[hs,w2']at w2;simp only[Adm,Aie]at w2;obtain⟨rfl,rfl⟩:=w2;rw[g.eq,g'.eq];by_cases he:e'=0
 ·rw[(g.some' he).1,(g'.some' he).1]
 ·rw[(g.none' he).1,(g'.none' he).1]
theorem Afx{c w r n:Nat}{x:List Int32}(h:ClipOk c w r n x){p:LB}(hp:p.length<=64){t:Nat}(ht:CZ 0 p (Pk c w r n x p).length<=t):Opn ((Ff c w r n x p).take t) p (Mp p) c w r n (CZ 0 p (Pk c w r n x p).length) (Cb (Pk c w r n x p)):=by
 have fo:=gX h hp;have hl:(Cb (Pk c w r n x p)).length=(Aj (Ak r) n).length:=by rw[Hl];exact bP p
 have e2:(MO (Mp p) c w r n++(oM p++fS (Cb (Pk c w r n x p)))).length=CZ 0 p (Pk c w r n x p).length:=by
  rw[Abt,Abt,RD,gE,fT,Hl];unfold CZ;omega
 have e1:(Ff c w r n x p).take t=MO (Mp p) c w r n++(oM p++(fS (Cb (Pk c w r n x p))++(Pk c w r n x p).flatten.take (t-CZ 0 p (Pk c w r n x p).length))):=by
  have:Ff c w r n x p=(MO (Mp p) c w r n++(oM p++fS (Cb (Pk c w r n x p))))++(Pk c w r n x p).flatten:=by simp[Ff]
  rw[this,List.take_append,Aof (by omega),e2];simp
 have hA4:4<=t:=by unfold CZ at ht;omega
 have:=Aqq (b:=(Ff c w r n x p).take t) (T:=0) (z:=(Pk c w r n x p).flatten.take (t-CZ 0 p (Pk c w r n x p).length)) hp rfl (h.shape _ (Agk p)) h.fit (Abr (by
  rw[Bng,show min 4 t=4 by omega,Ff,HG];rfl)) (by rw[Ah9];have:=fo.le;omega) (by rw[Bnk];exact e1) hl (Afk h p)
 rw[Hl]at this;exact this
theorem Aud{c w r n:Nat}{x:List Int32}(h:ClipOk c w r n x){p:LB}(hp:p.length<=64){t:Nat}(ht:CZ 0 p (Pk c w r n x p).length<=t)(ht2:t<= (Ff c w r n x p).length){k:Nat}(hk:k<(Pk c w r n x p).length)(hin:(CZ 0 p (Pk c w r n x p).length:Int)+((Cb (Pk c w r n x p)).take (k+1)).sum<=t):
  Ii ((Ff c w r n x p).take t) p (Mp p) c w r n (CZ 0 p (Pk c w r n x p).length) (Cb (Pk c w r n x p)) k=(Cv (w:Int) ((BC c r n x).getD k []),0):=by
 have fo:=gX h hp;have hg:=(fo.Aib hk rfl).1;rw[<-hg];refine Azf (Afx h hp ht) fo.Gi (by rw[Hl];exact hk) (by rw[Ah9];omega) (by omega) ?_;rw[tM,tM,Bng];congr 2;omega
theorem Bh.Bk4{o s p:LB}{f c w r n:Int}{g:LI}{a:Int}{x:LB}{e:Int}(ho:o.length<=64)(h:Bh o s p f c w r n g a x e)(hp:p.length<=20000)(b:LB)(hb:b.length<=20000)(hs:(s++b).length<=100000)
  {p':LB} {f' c' w' r' n':Int} {g':LI} {a':Int} {x':LB} {e':Int} (hk:Fd o (s++b)=some (o,p',f',c',w',r',n',g',a',x',false,e',e')):
  Hr o p f c w r n g a x false e b=some (o,p',f',c',w',r',n',g',a',x',false,e',e')/\Bh o (s++b) p' f' c' w' r' n' g' a' x' e':=by
 obtain⟨p2,f2,c2,w2,r2,n2,g2,a2,x2,e2,h1,_,h3⟩:=h.feed ho hp b hb hs;have h4:=h3.fd hs;rw[hk]at h4;simp only[Adm,Aie]at h4;obtain⟨_,rfl,rfl,rfl,rfl,rfl,rfl,rfl,rfl,rfl,_,rfl,_⟩:=h4;exact⟨h1,h3⟩
theorem Arm{w:Nat}(hw:Bk (w:Int)){X:LX}(hl:X.length<=4000)(hr:inR (w:Int) X):Lf (w:Int) X=some (Cv (w:Int) X,0):=OD hw hl (fI hw hl hr)
theorem Ai6(w:Nat)(ys:List LX):∀(j k:Nat),k+j<=ys.length->Ru (λi=>Cv (w:Int) (ys.getD i [])) j k=Cv (w:Int) ((ys.drop k).take j).flatten
 |0,k,_=>by simp[Ru,Cv]
 |j+1,k,h=>by
  have e:ys.getD k []=ys[k]:=by rw[List.getD_eq_getElem?_getD,List.getElem?_eq_getElem (by omega)];rfl
  rw[Ru,Ai6 w ys j (k+1) (by omega),drop_cons (show k<ys.length by omega),List.take_succ_cons,Bkr,jR,e]
section
variable {c w r n:Nat} {x:List Int32} (h:ClipOk c w r n x) {p:LB} (hp:p.length<=64) (h4:x.length<=400)
include h hp h4
omit hp in
theorem Agz:(Ff c w r n x p).length<=8000:=by
 have h1:=Apv h p;have h2:=bP (c:=c) (w:=w) (r:=r) (n:=n) (x:=x) p;rw[bY]at h2;have h3:(n-1)/Ak r<=n-1:=Atx _ _;have h5:n*1<=n*c:=Bkl n h.ch.1;have h6:=h.len;have:=h.cnt;omega
theorem Biq{t K:Nat}(ht:CZ 0 p (Pk c w r n x p).length<=t)(ht2:t<= (Ff c w r n x p).length)(hK:K<= (Pk c w r n x p).length)(h1:(CZ 0 p (Pk c w r n x p).length:Int)+((Cb (Pk c w r n x p)).take K).sum<=t)(h2:K<(Pk c w r n x p).length-> (t:Int)<(CZ 0 p (Pk c w r n x p).length:Int)+((Cb (Pk c w r n x p)).take (K+1)).sum):
  Fd p ((Ff c w r n x p).take t)=some (p,((Ff c w r n x p).take t).drop ((CZ 0 p (Pk c w r n x p).length:Int)+((Cb (Pk c w r n x p)).take K).sum).toNat,(Mp p:Int),(c:Int),(w:Int),(r:Int),(n:Int),Cb (Pk c w r n x p),(K:Int),Cv (w:Int) (((BC c r n x).take K).flatten),false,0,0):=by
 have hsm:=Agz h (p:=p) h4;have fo:=gX h hp;have o:=Afx h hp ht;have hll:=Hl (Pk c w r n x p);have hlt:((Ff c w r n x p).take t).length=t:=by rw[Ah9];omega
 have hmono:∀i,i<K-> (CZ 0 p (Pk c w r n x p).length:Int)+((Cb (Pk c w r n x p)).take (i+1)).sum<=t:=λi hi=>by
  have:=yF (Avc (Pk c w r n x p)) (show i+1<=K by omega);omega
 have hg:∀i,i<K->Ii ((Ff c w r n x p).take t) p (Mp p) c w r n (CZ 0 p (Pk c w r n x p).length) (Cb (Pk c w r n x p)) i=(Cv (w:Int) ((BC c r n x).getD i []),0):=λi hi=>Aud h hp ht ht2 (by omega) (hmono i hi);have hfd:=Be6 o (by omega) (K:=K) (by omega) (by omega) (λi hi=>by rw[hg i hi]) (by
  by_cases hk:K<(Pk c w r n x p).length
  ·exact .inl ⟨by omega,by rw[hlt];exact h2 hk⟩
  ·have hd:=fo.Avy;have hlen:=congrArg List.length hd;rw[Aky,Aq7]at hlen;have hs:=AE (Pk c w r n x p);exact .inr ⟨by omega,by rw[hlt,hs];omega⟩)
 rw[hfd,Aje (λi=>(Ii ((Ff c w r n x p).take t) p (Mp p) c w r n (CZ 0 p (Pk c w r n x p).length) (Cb (Pk c w r n x p)) i).1) (λi=>Cv (w:Int) ((BC c r n x).getD i [])) K 0 (λi _ hi=>by rw[hg i (by omega)]),Ai6 w _ K 0 (by have:=pC (c:=c) (r:=r) (n:=n) (x:=x);have:=bP (c:=c) (w:=w) (r:=r) (n:=n) (x:=x) p;omega),Bnk]
end
inductive Pl (S D A:Int) (G:Nat->Int) (l:List Int) (a:Int):UInt8->Int->Int->Prop
 |t:a<S->Pl S D A G l a 1 0 0
 |h:S<=a->a<S+22->Pl S D A G l a 2 0 0
 |d:S+22<=a->a<D->Pl S D A G l a 3 0 0
 |s:S+22<=a->D<=a->a<A->Pl S D A G l a 4 0 0
 |f (i:Nat):S+22<=a->D<=a->A<=a->i<l.length->A+(l.take i).sum<=a->a<A+(l.take (i+1)).sum->Pl S D A G l a 5 i (G i)
 |b:S+22<=a->D<=a->A<=a->A+l.sum<=a->Pl S D A G l a 6 0 0
theorem Auk(X:Nat->List Int32)(E:Nat->Int)(be:Int){K:Nat}(hK:E K≠0):∀(j k:Nat) (acc:List Int32),k<=K->K<k+j-> (∀i,k<=i->i<K->E i=0)-> (iU X E be j k acc).2=E K
 |0,k,acc,h1,h2,_=>by omega
 |j+1,k,acc,h1,h2,h3=>by
  rw[iU];by_cases hk:k=K
  ·subst hk;rw[Aas hK]
  ·rw[Aaf (by rw[h3 k (Aob _) (by omega)];simp)];exact Auk X E be hK j (k+1) _ (by omega) (by omega) (λi a b=>h3 i (by omega) b)
theorem Au5(G:Nat->List UInt8×Int)(ce:Int)(Aib:Nat->Int)(L:Nat){K:Nat}(hK:(G K).2≠0):∀(j v:Nat),v<=K->K<v+j-> (∀i,v<=i->i<K-> (G i).2=0)->An0 G ce Aib L j v=(ce,5,(K:Int),Aib K,0)
 |0,v,h1,h2,_=>by omega
 |j+1,v,h1,h2,h3=>by
  rw[An0];by_cases hk:v=K
  ·subst hk;rw[Aas hK]
  ·rw[Aaf (by rw[h3 v (Aob _) (by omega)];simp)];exact Au5 G ce Aib L hK j (v+1) (by omega) (by omega) (λi a b=>h3 i (by omega) b)
theorem Asm{b p:LB}{f c w r n A:Nat}{l:LI}(o:Opn b p f c w r n A l){K:Nat}(hK:K<l.length)(hg:∀i,i<K-> (Ii b p f c w r n A l i).2=0){e:Int}(he:(Ii b p f c w r n A l K).2=e)(he0:e≠0):
  Ab0 b p=some (e,5,(K:Int),Ww c w (Aj (Ak r) n) K,0)/\SJ b p=some e:=by
 have hp:=o.pass;have hs1:=o.some1;have Ah8:=o.file;rcases Adk b p (by omega) hp with⟨e',he',h1,_,_,_⟩|⟨f',c',w',r',n',A',l',o',k3,_⟩
 ·have:=o.prog;rw[h1]at this;have:=Axa this;simp only[SK,Aie]at this;exact absurd this.2.2.2.2.2.2.2 he'
 have hpr:=o'.prog;rw[o.prog]at hpr;simp only[Adm,Aie]at hpr;obtain⟨v1,v2,v3,v4,v5,v6,v7,_⟩:=hpr;obtain rfl:f=f':=by omega
 obtain rfl:c=c':=by omega
 obtain rfl:w=w':=by omega
 obtain rfl:r=r':=by omega
 obtain rfl:n=n':=by omega
 obtain rfl:A=A':=by omega
 subst v7;have hce:(iU (λk=>smF w (Ii b p f c w r n A l k)) (λk=>(Ii b p f c w r n A l k).2) (eJ b A l) l.length 0 []).2=e:=by
  have:=Auk (λk=>smF w (Ii b p f c w r n A l k)) (λk=>(Ii b p f c w r n A l k).2) (eJ b A l) (K:=K) (by rw[he];exact he0) l.length 0 [] (by omega) (by omega) (λi _ h=>hg i h);rw[this];exact he
 have hcl:(Adu b p f c w r n A l).2.2.2.2=e:=by
  rw[Adu,bI,hce,Aas he0];rfl
 have Atq:SJ b p=some e:=by rw[SJ,k3,Aa];exact congrArg some hcl
 refine⟨?_,Atq⟩;have htl:=Ai4 o e he0 l.length 0 Au (by omega) (by have:=Aq;omega);rw[Au5 _ e _ l.length (K:=K) (by rw[he];exact he0) l.length 0 (by omega) (by omega) (λi _ h=>hg i h)]at htl;rw[Ab0,qR,Aaf (by rw[As,Ac];simp;omega),Atq,Aa,o.prog,Aa];simp only;rw[Aaf (by rw[Al];simp),Aas (by rw[Al];simpa using he0),qI,oR];exact htl
theorem Bcy{o b X:LB}{E:Int}(ho:o.length<=64)(hb:b.length<=20000)(Bdi:Ends o (Fd o b) X E):∃(p2:LB) (f2 c2 w2 r2 n2:Int) (g2:LI) (a2 e3:Int) (u:Bool) (v:Int),Hr o [] 0 0 0 0 0 [] 0 [] false 0 b=some (o,p2,f2,c2,w2,r2,n2,g2,a2,X,false,e3,e3)/\Fz o p2 f2 c2 w2 r2 n2 g2 a2 X false e3=some (o,[],0,0,0,0,0,[],0,X,u,v,E)/\ (e3=0\/e3=E):=by
 obtain⟨p2,f2,c2,w2,r2,n2,g2,a2,y2,e3,d1,_,d3⟩:=(Bh.new ho).feed ho (by simp) b (by omega) (by simp;omega);rw[Arc]at d3;have hs:=d3.Bg5;have hfd:=d3.fd (by omega);have hck:=d3.check ho (by omega);rcases Bdi with⟨h0,h1⟩|⟨p,f,c,w,r,n,g,a,hpl,h1,h2⟩
 ·rw[hfd]at h1;simp only[Adm,Aie]at h1;obtain⟨_,rfl,rfl,rfl,rfl,rfl,rfl,rfl,rfl,rfl,_,rfl,_⟩:=h1;obtain⟨u,v,k,k1,k2⟩:=d3.finish ho (by simp);rcases k2 with⟨rfl,rfl,k3,_,k4⟩|⟨rfl,rfl,rfl⟩
  ·have hk:v=e3:=by rcases k4 with h|h<;>omega
   subst hk;exact⟨_,_,_,_,_,_,_,_,_,_,_,d1,k1, .inr rfl⟩
  ·
   exfalso;cases d3 with
   |wt W=>omega
   |er h0 hc hx hB=>
    have:=(Bjd (o:=o) (u:=false) (v:=e3) (k:=e3) ho hx (.inl ⟨rfl,rfl,h0,hc⟩)).2.2;rw[this]at k1;simp only[Adm,Aie]at k1;exact absurd k1.2.2.2.2.2.2.2.2.2.2.1 (by decide)
 ·rw[hfd]at h1;simp only[Adm,Aie]at h1;obtain⟨_,rfl,rfl,rfl,rfl,rfl,rfl,rfl,rfl,rfl,_,rfl,_⟩:=h1;have hbg:=rI (o:=o) (p:=p2) (f:=f2) (c:=c2) (w:=w2) (r:=r2) (n:=n2) (g:=g2) (a:=a2) (x:=y2) (u:=false) (v:=0) (by omega) (by omega) (by omega) hck.1;rw[Aaf (by decide)]at hbg;obtain⟨e1,q1,q2⟩:=Ab9 (o:=o) (p:=p2) (f:=f2) (c:=c2) (w:=w2) (r:=r2) (n:=n2) (a:=a2) (u:=false) (v:=0) (g:=g2) (x:=y2) (by omega);rw[h2]at q2;cases q2;have hF:Fz o p2 f2 c2 w2 r2 n2 g2 a2 y2 false 0=Fz o p2 f2 c2 w2 r2 n2 g2 a2 y2 false 0:=rfl
  conv at hF=>rhs;rw[Fz,hbg,Aa]
  simp only at hF;rw[Aaf (by decide),q1,Aa]at hF;by_cases he:Ba E 0=true
  ·rw[Aas he,WR,Aa]at hF;exact⟨_,_,_,_,_,_,_,_,_,_,_,d1,hF, .inl rfl⟩
  ·have hE0:E=0:=by rw[Al]at he;simpa using he
   rw[Aaf he,<-hE0]at hF;exact⟨_,_,_,_,_,_,_,_,_,_,_,d1,by rw[hE0]at hF⊢;exact hF, .inl rfl⟩
theorem Aw7{o X C:LB}{R:Option Bje}{E:Int}(h:Ends o R X E){t1 t2:LB}{t3 t4 t5 t6 t7:Int}{t8:LI}{t9:Int}{t11:Bool}{t12 e:Int}(hR:R=some (t1,t2,t3,t4,t5,t6,t7,t8,t9,C,t11,t12,e)):X=C:=by
 rcases h with⟨_,h1⟩|⟨p,f,c,w,r,n,g,a,_,h1,_⟩
 ·rw[hR]at h1;simp only[Adm,Aie]at h1;exact h1.2.2.2.2.2.2.2.2.2.1.symm
 ·rw[hR]at h1;simp only[Adm,Aie]at h1;exact h1.2.2.2.2.2.2.2.2.2.1.symm
theorem Ate{c w r n:Nat}{x:List Int32}(h:ClipOk c w r n x){p:LB}(hp:p.length<=64):Tf (Ff c w r n x p) p=some ((c:Int),(w:Int),(r:Int),x,0):=by
 have fo:=gX h hp;have o:=fo.Gi;have hle:=fo.le;have hlf:=Hl (Pk c w r n x p);have hgood:∀i,(hi:i<(Pk c w r n x p).length)-> _:=λi hi=>fo.Aib (k:=i) hi rfl;have hbe:eJ (Ff c w r n x p) (CZ 0 p (Pk c w r n x p).length) (Cb (Pk c w r n x p))=0:=by rw[fo.beh,Arz]
 have hcl:Adu (Ff c w r n x p) p (Mp p) c w r n (CZ 0 p (Pk c w r n x p).length) (Cb (Pk c w r n x p))=((c:Int),(w:Int),(r:Int),x,0):=by
  have hr:=Aaj (Ii (Ff c w r n x p) p (Mp p) c w r n (CZ 0 p (Pk c w r n x p).length) (Cb (Pk c w r n x p))) (Cb (Pk c w r n x p)).length 0 [] (λi _ hi=>by rw[(hgood i (by omega)).1]);have hcl:=Aet w (Ii (Ff c w r n x p) p (Mp p) c w r n (CZ 0 p (Pk c w r n x p).length) (Cb (Pk c w r n x p))) (eJ (Ff c w r n x p) (CZ 0 p (Pk c w r n x p).length) (Cb (Pk c w r n x p))) (Cb (Pk c w r n x p)).length 0 [] [];rw[hbe,hr]at hcl;have hg:=Adz _ _ _ _ _ _ hcl.symm;have hPl:=pC (c:=c) (r:=r) (n:=n) (x:=x);have hfl:=bP (c:=c) (w:=w) (r:=r) (n:=n) (x:=x) p;have Bgu:=Af9 (BC c r n x) (λi=>smF w (Ii (Ff c w r n x p) p (Mp p) c w r n (CZ 0 p (Pk c w r n x p).length) (Cb (Pk c w r n x p)) i)) 0 (λi hi=>by rw[Bdf,(hgood i (by omega)).2]);rw[Aac h,<-show(Pk c w r n x p).length=(BC c r n x).length by omega]at Bgu;rw[Adu,bI,hbe,Aaf (by rw[<-hcl];simp),hg.2.2,Arc,hlf,Bgu]
 rcases Adk (Ff c w r n x p) p (by omega) hp with⟨e,he,k1,_⟩|⟨f',c',w',r',n',A',l',o',k3,_⟩
 ·have:=o.prog;rw[k1]at this;have:=Axa this;simp only[SK,Aie]at this;exact absurd this.2.2.2.2.2.2.2 he
 ·have hpr:=o'.prog;rw[o.prog]at hpr;simp only[Adm,Aie]at hpr;obtain⟨v1,v2,v3,v4,v5,v6,v7,_⟩:=hpr;have j1:Mp p=f':=by omega
  have j2:c=c':=by omega
  have j3:w=w':=by omega
  have j4:r=r':=by omega
  have j5:n=n':=by omega
  have j6:CZ 0 p (Pk c w r n x p).length=A':=by omega
  subst j1 j2 j3 j4 j5 v7;rw[<-j6,hcl]at k3;exact k3
theorem ClipOk.enc{c w r n:Nat}{x:List Int32}(h:ClipOk c w r n x){p:LB}(hp:p.length<=64):EncOk c w r p:=⟨h.ch,h.bits,h.rate,hp⟩
def pcs(f g:Nat):Nat->Nat->Nat->LI
 |0,_,_=>[]
 |q+1,h,a=>if a+1=f\/g.testBit (a %64)=true then((a+1-h:Nat):Int)::pcs f g q (a+1) (a+1)else pcs f g q h (a+1)
theorem Bc3(g:UInt64)(k:Nat):(Er (Ck g k) (1:UInt64)).toNat=g.toNat/2^k %2:=by
 rw[xU,Bok,DN];exact Nat.and_one_is_mod _
theorem Bku(g:UInt64)(k:Nat):geq (Er (Ck g (GI.toZ (Gc (k:Int) 64)).toNat) 1) (1:UInt64)=g.toNat.testBit (k %64):=by
 have e:(GI.toZ (Gc (k:Int) 64)).toNat=k %64:=by
  unfold Gc;rw[Bj6 (by omega)];simp only[GI.toZ];omega
 rw[e,zD,Nat.testBit_eq_decide_div_mod_eq];refine decide_eq_decide.2 ⟨λh=>by rw[<-Bc3,h];rfl,λh=>UInt64.toNat_inj.1 (by rw[Bc3,h];rfl)⟩
theorem Bht(k:Nat):Ml (Gc (k:Int) 64) 0=true:=by
 unfold Gc;rw[Bj6 (by omega)];simp[Ml,GI.toZ];omega
theorem Ang(f:Nat)(g:UInt64):∀(q Q h a:Nat) (l:LI),q+a=f->q<Q->h<=a->f<=100000->l.length<=a->Pn (f:Int) g Q (h:Int) (a:Int) l=some (l++pcs f g.toNat q h a,0)
 |q,0,h,a,l,_,hq,_,_,_=>absurd hq (Bgp _)
 |0,Q+1,h,a,l,hf,_,_,_,_=>by
  obtain rfl:a=f:=by omega
  simp only[Pn,BP];rw[Aaf (by simp[Cl,GI.toZ]),pcs,Aq7];rfl
 |q+1,Q+1,h,a,l,hf,hq,hh,hl,hll=>by
  simp only[Pn,BP];rw[Aas (by simp[Cl,GI.toZ];omega)];have e1:Ao (f:Int) 1=((f-1:Nat):Int):=by rw[Bs (by omega) (by omega)];omega
  have e2:Ad (a:Int) 1=((a+1:Nat):Int):=by rw[Ah (by omega) (by omega)];omega
  have e3:Ao ((a+1:Nat):Int) (h:Int)=((a+1-h:Nat):Int):=by rw[Bs (by omega) (by omega)];omega
  have e4:geq (a:Int) ((f-1:Nat):Int)=decide (a+1=f):=by
   show decide ((a:Int)=((f-1:Nat):Int))=_;exact decide_eq_decide.2 (by omega)
  rw[e1,e2,e3,e4,Bd (by simp;omega),Aa,Bht,Bk6,Aa,Bku,pcs];have ih:=λh' l'=>Ang f g q Q h' (a+1) l' (by omega) (by omega);by_cases h1:a+1=f
  ·rw[Aas (Bju h1),Aas (.inl h1),ih _ _ (Aob _) hl (by simp;omega),Aec];rfl
  ·rw[Aaf (by simpa using h1)];by_cases h2:g.toNat.testBit (a %64)=true
   ·rw[Aas h2,Aas (.inr h2),ih _ _ (Aob _) hl (by simp;omega),Aec];rfl
   ·rw[Aaf h2,Aaf (λh=>h.elim h1 h2),ih _ _ (by omega) hl (by omega)]
theorem Ajf(f:Nat)(g:UInt64)(hf:f<=100000):Xi (f:Int) g=some (pcs f g.toNat f 0 0,0):=by
 unfold Xi OW PY;rw[Aaf (by simp[Cl,Ef,GI.toZ];omega)];have:=Ang f g f Au 0 0 [] (by omega) (by have:=Aq;omega) (Aob _) hf (Aob _);rw[show((0:Nat):Int)=0 from rfl]at this;rw[this];rfl
theorem Adp(f g:Nat):∀(q h a:Nat),(pcs f g q h a).length<=q
 |0,h,a=>Aob _
 |q+1,h,a=>by
  rw[pcs];split
  ·rw[Anf];have:=Adp f g q (a+1) (a+1);omega
  ·have:=Adp f g q h (a+1);omega
theorem Beo:Pz=some true:=by kernel_rfl
def tY(ns:List Nat):List Int:=List.map Int.ofNat ns
theorem NY(ns:List Nat):(tY ns).length=ns.length:=by simp[tY]
theorem Akn{ns:List Nat}{i:Nat}(h:i<ns.length):Go.Lv.Ap (tY ns) (i:Int)=some ((ns[i]:Nat):Int):=by
 rw[Bm (by rw[NY];exact h)];simp[tY]
def Agl:List Nat->Nat|[]=>0|n::l=>n+Agl l
theorem An6{ns:List Nat}{i:Nat}(h:i<ns.length):Agl (ns.drop i)=ns[i]+Agl (ns.drop (i+1)):=by
 rw[List.drop_eq_getElem_cons h];rfl
theorem Ac5(f g:Nat):∀(q h a:Nat),q+a=f->h<=a-> (q=0->h=a)->∃ns,pcs f g q h a=tY ns/\Agl ns=f-h
 |0,h,a,hf,hh,h0=>⟨[],rfl,by rw[h0 rfl];simp[Agl];omega⟩
 |q+1,h,a,hf,hh,_=>by
  rw[pcs];by_cases h1:a+1=f\/g.testBit (a %64)=true
  ·rw[Aas h1];obtain⟨ns,g1,g2⟩:=Ac5 f g q (a+1) (a+1) (by omega) (Aob _) (λ_=>rfl);exact⟨(a+1-h)::ns,by rw[g1];rfl,by rw[Agl,g2];omega⟩
  ·rw[Aaf h1];exact Ac5 f g q h (a+1) (by omega) (by omega) (λe=>absurd (.inl (by omega)) h1)
theorem Bh.len{o s p:LB}{f c w r n:Int}{g:LI}{a:Int}{x:LB}{e:Int}(h:Bh o s p f c w r n g a x e):p.length<=s.length/\g.length<=1000/\x.length<=13000000:=by
 cases h with
 |wt W hl hb=>exact⟨hl,W.sz.hg,by have:=W.sz.hx;omega⟩
 |er h0 hc hx hb=>exact⟨by simp,by simp,by omega⟩
def Ahj(o b:LB):Option (LB×Int):=(Fd o b).bind λ(t1,t2,t3,t4,t5,t6,t7,t8,t9,t10,t11,t12,e)=>if Ba e 0 then some (t10,e)else(Fz t1 t2 t3 t4 t5 t6 t7 t8 t9 t10 t11 t12).bind λ(_,_,_,_,_,_,_,_,_,y,_,_,k)=>some (y,k)
theorem Bh.whole{o b p:LB}{f c w r n:Int}{g:LI}{a:Int}{x:LB}{e:Int}(ho:o.length<=64)(hb:b.length<=100000){s:Nat}(h:Bh o (b.take s) p f c w r n g a x e)(h0:e≠0):Ahj o b=some (x,e):=by
 cases h with
 |wt W hl hB=>exact absurd rfl h0
 |er h1 hc hx hB=>
  have:=hB (b.drop s) (by rw[Ayx];exact hb);rw[Ayx]at this;rw[Ahj,this,Aa];simp only;rw[Aas (by rw[Al];simp;omega)]
theorem Bcf(o b:LB)(ho:o.length<=64)(ns:List Nat)(hb:b.length<=10000)(hn:ns.length<=10000):∀(r i s q:Nat) (p:LB) (f c w rr n:Int) (g:LI) (a:Int) (x:LB),Bh o (b.take s) p f c w rr n g a x 0->i+r=ns.length->s+Agl (ns.drop i)=b.length->r<q->
  Vb (tY ns) q (b.drop s) (i:Int) o f c w rr n a x false 0 p g=Ahj o b
 |r,i,s,0,_,_,_,_,_,_,_,_,_,_,_,_,h=>absurd h (Bgp _)
 |r,i,s,q+1,p,f,c,w,rr,n,g,a,x,hB,hi,hs,hq=>by
  have hlen:=hB.len;have hpl:p.length<=10000:=by have:=hlen.1;rw[Ah9]at this;omega
  rw[Vb,OT];cases r with
  |zero=>
   have hN:¬(Cl (i:Int) (Ac (tY ns))=true):=by rw[Ae,Ac,NY];simp;omega
   have hd:ns.drop i=[]:=List.drop_eq_nil_of_le (by omega);rw[hd,Agl,Bip]at hs;rw[hs,Aye]at hB;rw[Aaf hN,JN,bZ,Ahj,hB.fd (by omega),Aa];rfl
  |succ r=>
   have hlt:i<ns.length:=by omega
   have hN:Cl (i:Int) (Ac (tY ns))=true:=by rw[Ae,Ac,NY];simp;omega
   have hsd:=An6 hlt;rw[Aas hN,Akn hlt];simp only[Aa];have hln:(b.drop s).length=b.length-s:=Aky;have c1:Bi (b.drop s) 0 ((ns[i]:Nat):Int)=some ((b.drop s).take ns[i]):=by rw[Dd (by omega) (by omega)];simp
   have e4:b.take s++(b.drop s).take ns[i]=b.take (s+ns[i]):=by rw[List.take_add]
   obtain⟨p2,f2,c2,w2,r2,n2,g2,a2,x2,e3,d1,_,d3⟩:=hB.feed ho (by omega) ((b.drop s).take ns[i]) (by rw[Ah9];omega) (by rw[e4,Ah9];omega);rw[e4]at d3;rw[c1,Aa,d1,Aa];simp only[JY,cT];by_cases he:e3=0
   ·subst he;have e2:Ad (i:Int) 1=((i+1:Nat):Int):=by rw[Ah (by omega) (by omega)];omega
    have c3:Bi (b.drop s) ((ns[i]:Nat):Int) (Ac (b.drop s))=some (b.drop (s+ns[i])):=by
     rw[Bt (by omega) (by omega)];simp only[Ah2,Bjo]
    rw[Aaf (by decide),c3,Aa,e2];exact Bcf o b ho ns hb hn r (i+1) (s+ns[i]) q p2 f2 c2 w2 r2 n2 g2 a2 x2 d3 (by omega) (by omega) (by omega)
   ·rw[Aas (by rw[Al];simpa using he),d3.whole ho (by omega) he]
theorem Bd4(o b:LB)(ho:o.length<=64)(ns:List Nat)(hb:b.length<=10000)(hn:ns.length<=10000)(hs:Agl ns=b.length):QH o b (tY ns)=Ahj o b:=by
 have hO:¬(Ef (Ac o) 64=true):=by rw[As,Ac];simp;omega
 rw[QH,OI,GL,Aaf hO,Aa];simp only;rw[Aaf (by decide)];exact Bcf o b ho ns hb hn ns.length 0 0 Au [] 0 0 0 0 0 [] 0 [] (by rw[Bd5];exact Bh.new ho) (by omega) (by rw[Bnk];omega) (by have:=Aq;omega)
theorem An4(C W R:Int)(p:LB):He C W R p=some 2\/ (∃c w r:Nat,C=(c:Int)/\W=(w:Int)/\R=(r:Int)/\EncOk c w r p/\He C W R p=some 0):=by
 have key:∀(m h:Int),Ks R=some (m,h)-> (h≠0\/Dz C W=some 2\/64<p.length)-> (∃k,Dz C W=some k)->He C W R p=some 2:=by
  intro m h h1 h2 ⟨k,hk⟩;rw[He,h1,Aa];simp only;rw[hk,Aa,Aas];rcases h2 with h2|h2|h2
  ·have:Ba h 0=true:=by rw[Al];simpa using h2
   rw[this];simp
  ·rw[hk]at h2;have:=Axa h2;subst this;simp[Al]
  ·have:Ef (Ac p) 64=true:=by rw[As,Ac];simp;omega
   rw[this];simp
 have hlong:∃m h,Ks R=some (m,h)/\ (h≠0↔ ¬(1<=R/\R<=1048576)):=by
  by_cases hR:1<=R/\R<=1048576
  ·obtain⟨r,rfl⟩:=Anc (show 0<=R by omega);exact⟨_,0,Bh1 (by omega) (by omega),by simp;omega⟩
  ·rw[Ks,Aas (by simp[Ae,As];omega)];exact⟨0,2,rfl,by simp;omega⟩
 have Atq:(Dz C W=some 2)\/ (1<=C/\C<=6/\Bk W/\Dz C W=some 0):=by
  rw[Dz];by_cases hC:((Cl C 1)||(Ef C 6))=true
  ·rw[Aas hC];exact .inl rfl
  ·rw[Aaf hC];simp only[Bdh,not_or,As,Ae,Acw]at hC;by_cases hb:Bk W
   ·have hh:=UQ W;rw[qZ hb,Aa,Aaf (by rw[Ar];simp;omega)];exact .inr ⟨by omega,by omega,hb,rfl⟩
   ·rw[(Az0 hb).1,Aa,Aas (by decide)];exact .inl rfl
 obtain⟨m,hh,hl1,hl2⟩:=hlong;rcases Atq with h1|⟨h1,h2,h3,h4⟩
 ·exact .inl (key m hh hl1 (.inr (.inl h1)) ⟨2,h1⟩)
 ·by_cases hR:1<=R/\R<=1048576
  ·by_cases hp:64<p.length
   ·exact .inl (key m hh hl1 (.inr (.inr hp)) ⟨0,h4⟩)
   ·have hh0:hh=0:=by
     refine Classical.byContradiction λhn=>?_;exact(hl2.1 hn) hR
    obtain⟨c,rfl⟩:=Anc (show 0<=C by omega);obtain⟨r,rfl⟩:=Anc (show 0<=R by omega);have hw:∃w:Nat,W=(w:Int):=by
     rcases h3 with rfl|rfl|rfl
     ·exact⟨8,rfl⟩
     ·exact⟨16,rfl⟩
     ·exact⟨24,rfl⟩
    obtain⟨w,rfl⟩:=hw;refine .inr ⟨c,w,r,rfl,rfl,rfl,⟨by omega,h3,by omega,by omega⟩,?_⟩;rw[He,hl1,Aa];simp only;rw[h4,Aa,hh0,Aaf (by simp[Al,As,Ac];omega)]
  ·exact .inl (key m hh hl1 (.inl (hl2.2 hR)) ⟨0,h4⟩)
section
variable {c w r:Nat} {p:LB} (h:EncOk c w r p)
include h
def UF(c w r:Nat)(p b:LB):LB×Int:=if CA c r (nE c w b)then(if RE c w b≠ []\/nE c w b=0 then([],24)else(Ff c w r (nE c w b) (XE c w b) p,0))else([],18)
theorem Arx{F:LB}(hF:F.length<=100000):QP (c:Int) (w:Int) (r:Int) p [] [] [] F true 0 100000=some ((c:Int),(w:Int),(r:Int),p,[],[],[],[],true,0,F,0):=by
 have hck:Td (c:Int) (w:Int) (r:Int) p [] [] [] F true 0=some 0:=by
  rw[Td,Abb h,Aa];simp only;rw[Aaf (by decide),Aaf (by decide),Aas (by trivial),Aaf];have:gle (Ac F) 100000=true:=by rw[SL,Ac];simp;omega
  rw[this];decide
 have htw:=Aqt (a:=[]) (λy hy=>by simp at hy) (by simp) (c:Int) (w:Int) (r:Int) p (x:=[]) (s:=[]) (z:=F) (by simp) (by simp) (by omega) true 0;have hm:Fk 100000 (Ac F)=(F.length:Int):=by rw[PL,Ac];omega
 rw[QP,hck,Aa,Aaf (by decide),Aaf (by decide),htw,Aa];simp only;rw[hm,Dd (by omega) (by omega),Aa,Ah2,Aye,Bl,Bd (by simp;omega),Aa,Aa,Bt (by omega) (by omega),Aa,Ah2,Blu,Arc]
theorem An8(b:LB)(ns:List Nat)(hb:b.length<=10000)(hn:ns.length<=10000):∀(j i s q:Nat),i+j=ns.length->s+Agl (ns.drop i)=b.length->j<q->CA c r (nE c w (b.take s))->
  Pp (tY ns) q (b.drop s) (i:Int) (c:Int) (w:Int) (r:Int) p false 0 (RE c w (b.take s)) (SE c w r (b.take s)) (FE c w r p (b.take s)) []=some (UF c w r p b)
 |j,i,s,0,_,_,h,_=>absurd h (Bgp _)
 |0,i,s,q+1,hi,hs,_,hR=>by
  have e:b.take s=b:=Aof (by rw[Bj1 (by omega)]at hs;simp[Agl]at hs;omega);rw[e]at hR⊢;have hfin:=Asr h b hR;rw[Pp,BF,Aaf (by rw[Ae,Ac,NY];simp;omega),HW,bU,hfin,Aa,UF,Aas hR];by_cases hbad:RE c w b≠ []\/nE c w b=0
  ·rw[Aas hbad,Aas hbad];simp only;rw[Aas (by decide)]
  ·rw[Aaf hbad,Aaf hbad];have hn1:1<=nE c w b:=by
    rcases Bm4 (nE c w b)with h0|h0
    ·exact absurd (.inr h0) hbad
    ·exact h0
   have hcl:=Ae7 h b hR hn1;simp only;rw[Aaf (by decide),Arx h (by have:=Abd hcl p;omega),Aa]
 |j+1,i,s,q+1,hi,hs,hq,hR=>by
  have hil:i<ns.length:=by omega
  have hi1:Ad (i:Int) 1=((i+1:Nat):Int):=by rw[Ah (by omega) (by omega)];omega
  have hsd:=An6 hil;have ih:=An8 b ns hb hn j (i+1) (s+ns[i]) q (by omega) (by omega) (by omega);have Bgu:b.take s++(b.drop s).take ns[i]=b.take (s+ns[i]):=by rw[List.take_add]
  have hfd:=Bb5 h (b.take s) ((b.drop s).take ns[i]) (by rw[Ah9,Aky];omega) hR;rw[Bgu,Bbu]at hfd;rw[Pp,BF,Aas (by rw[Ae,Ac,NY];simp;omega),Akn hil,Aa,Aa,Dd (by omega) (by rw[Aky];omega),Aa,Ah2,hfd,Aa];by_cases hok:CA c r (nE c w (b.take (s+ns[i])))
  ·rw[Aas hok];simp only;rw[BB,PZ,Aaf (by decide),Bt (by omega) (by rw[Aky];omega),Aa,Ah2,Bjo,hi1];exact ih hok
  ·rw[Aaf hok];simp only;rw[BB,PZ,Aas (by decide),UF,Aaf];intro hh;exact hok (hh.mono (Nat.div_le_div_right (by rw[Ah9];omega)))
theorem Asx(b:LB)(hb:b.length<=10000)(m:UInt64):Xj (c:Int) (w:Int) (r:Int) p b m=some (UF c w r p b):=by
 obtain⟨ns,h1,h2⟩:=Ac5 b.length m.toNat b.length 0 0 (by omega) (by omega) (λ_=>rfl);have hlen:ns.length<=b.length:=by
  have:=Adp b.length m.toNat b.length 0 0;rw[h1,NY]at this;exact this
 have hl:=An8 h b ns hb (by omega) ns.length 0 0 Au (by omega) (by rw[Bnk];omega) (by have:=Aq;omega) (by rw[Bd5,show nE c w []=0 from Nat.zero_div _];exact Av6 c r);rw[Bd5,Bnk]at hl;rw[Xj,PG,Ac,Ajf _ _ (by omega),Aa];simp only;rw[Aaf (by decide),Bej h,Aa];simp only;rw[Aaf (by decide),h1];exact hl
end
theorem Ahe{b p:LB}(hb:b.length<=10000)(hp:p.length<=64){X:LB}{E:Int}(Bdi:Ends p (Fd p b) X E)(m:UInt64):Pc p b m=some (X,E):=by
 obtain⟨ns,h1,h2⟩:=Ac5 b.length m.toNat b.length 0 0 (by omega) (by omega) (λ_=>rfl);have hlen:ns.length<=b.length:=by
  have:=Adp b.length m.toNat b.length 0 0;rw[h1,NY]at this;exact this
 have Bnq:=Bd4 p b hp ns hb (by omega) (by omega);have hA:Ahj p b=some (X,E):=by
  obtain⟨p2,f2,c2,w2,r2,n2,g2,a2,e3,u,v,k1,k2,k3⟩:=Bcy hp (show b.length<=20000 by omega) Bdi;obtain⟨q2,f3,c3,w3,r3,n3,g3,a3,y3,e4,d1,_,d3⟩:=(Bh.new hp).feed hp (by simp) b (by omega) (by simp;omega);rw[Arc]at d3;have hfd:=d3.fd (by omega);rw[d1]at k1;simp only[Adm,Aie]at k1;obtain⟨_,rfl,rfl,rfl,rfl,rfl,rfl,rfl,rfl,rfl,_,rfl,_⟩:=k1;rw[Ahj,hfd,Aa];simp only;by_cases h0:e4=0
  ·rw[Aaf (by rw[h0];decide),k2,Aa]
  ·have:e4=E:=by
    rcases k3 with h|h
    ·exact absurd h h0
    ·exact h
   rw[Aas (by rw[Al];simpa using h0),this]
 rw[Pc,Ac,Ajf _ _ (by omega),Aa];simp only;rw[Aaf (by decide),h1,Bnq,hA,Aa]
theorem Biu{c w r:Nat}{p:LB}(h:EncOk c w r p){b:LB}(h0:RE c w b=[]):Cv (w:Int) (XE c w b)=b:=by
 have:=Bbp h b;rw[h0,Aq7]at this;exact this
theorem Ayg{c w r:Nat}{p b:LB}(hk:(UF c w r p b).2=0):CA c r (nE c w b)/\RE c w b=[]/\1<=nE c w b/\UF c w r p b=(Ff c w r (nE c w b) (XE c w b) p,0):=by
 unfold UF at hk⊢;by_cases hR:CA c r (nE c w b)
 ·rw[Aas hR]at hk⊢;by_cases hb:RE c w b≠ []\/nE c w b=0
  ·rw[Aas hb]at hk;cases hk
  ·rw[Aaf hb];refine⟨hR,?_,?_,rfl⟩
   ·by_cases h0:RE c w b=[]
    ·exact h0
    ·exact absurd (.inl h0) hb
   ·rcases Bm4 (nE c w b)with h0|h0
    ·exact absurd (.inr h0) hb
    ·exact h0
 ·rw[Aaf hR]at hk;cases hk
theorem Atb{c w r:Nat}{p b:LB}(hk:(UF c w r p b).2≠0):UF c w r p b=([],24)\/UF c w r p b=([],18):=by
 unfold UF at hk⊢;by_cases hR:CA c r (nE c w b)
 ·rw[Aas hR]at hk⊢;by_cases hb:RE c w b≠ []\/nE c w b=0
  ·rw[Aas hb];exact .inl rfl
  ·rw[Aaf hb]at hk;exact absurd rfl hk
 ·rw[Aaf hR];exact .inr rfl
theorem Axm(hal:Pz=some true)(C W R:Int)(p b:LB)(m k:UInt64):Ng C W R p b m k=some true:=by
 rw[Ng,Ku,hal,Aa];rcases An4 C W R p with e2|⟨c,w,r,rfl,rfl,rfl,h,e0⟩
 ·rw[e2,Aa,Aas (by simp[Al])]
 rw[e0,Aa];by_cases hc:((Ba (0:Int) 0||Ef (Ac b) 400)|| !true)=true
 ·rw[Aas hc]
 rw[Aaf hc];simp only[Bdh,not_or,As,Ac,Acw]at hc;obtain⟨⟨_,c2⟩,_⟩:=hc;have hp:=h.pass;have hb:b.length<=400:=by omega
 rw[Asx h b (by omega) m];by_cases hk:(UF c w r p b).2=0
 rotate_left
 ·rcases Atb (c:=c) (w:=w) (r:=r) (p:=p) (b:=b) hk with h1|h1
  ·rw[h1,Aa];simp only;rw[Aas (by decide),Aas (by trivial)];rfl
  ·rw[h1,Aa];simp only;rw[Aas (by decide),Aas (by trivial)];rfl
 obtain⟨hR,hRE,hn1,hA⟩:=Ayg hk;have hcl:=Ae7 h b hR hn1;have hX:=Biu h hRE;have hxb:=HD h.bits (XE c w b);have hwb:=zK (w:Int);rw[hX]at hxb;have hx4:(XE c w b).length<=400:=by
  have:(XE c w b).length*1<= (XE c w b).length*wB (w:Int):=Bkl _ hwb.1;omega
 rw[hA,Aa];simp only;rw[Aaf (by decide)];have hsm:=Agz hcl (p:=p) hx4;have hval:=Ate hcl hp;obtain⟨Y,y1,y2,y3,y4,E,Bdi,Bdj,Bnr⟩:=Aj3 (Ff c w r (nE c w b) (XE c w b) p) p (by omega) hp;rw[hval]at Bdj;simp only[Adm,Aie]at Bdj;obtain⟨rfl,rfl,rfl,rfl,rfl⟩:=Bdj;have hY:=Bnr rfl;rw[Arm h.bits (by omega) hcl.rng,hX]at hY;simp only[Adm,Aie]at hY;obtain⟨rfl,_⟩:=hY;have Bos:=Aa8 (c:=c) (w:=w) (r:=r) (n:=nE c w b) (x:=XE c w b) p;rw[Ahe (by omega) hp Bdi,Aa];simp only;have hfo:=gX hcl hp;have o:=hfo.Gi;have hd:=hfo.Avy;have hlen:=congrArg List.length hd;rw[Aky,Aq7]at hlen;have hA2:=o.at';have hfn:=Avf hcl p;have hlf:=Hl (Pk c w r (nE c w b) (XE c w b) p);have Bdk:=AE (Pk c w r (nE c w b) (XE c w b) p);have hPl:=pC (c:=c) (r:=r) (n:=nE c w b) (x:=XE c w b);have hfl:=bP (c:=c) (w:=w) (r:=r) (n:=nE c w b) (x:=XE c w b) p;have hnn:=Avc (Pk c w r (nE c w b) (XE c w b) p);obtain⟨K,hK⟩:∃K,(Pk c w r (nE c w b) (XE c w b) p).length=K+1:=⟨(Pk c w r (nE c w b) (XE c w b) p).length-1,by omega⟩;have hKl:K<(Cb (Pk c w r (nE c w b) (XE c w b) p)).length:=by omega
 have hs1:=Fg hKl;have hx5:=o.five _ (Ane hKl);have htk:((Cb (Pk c w r (nE c w b) (XE c w b) p)).take (K+1))=Cb (Pk c w r (nE c w b) (XE c w b) p):=Aof (by omega);rw[htk,Bdk]at hs1;have hsub:Ao (Ac (Ff c w r (nE c w b) (XE c w b) p)) 1=(((Ff c w r (nE c w b) (XE c w b) p).length-1:Nat):Int):=by rw[Ac,Bs (by omega) (by omega)];omega
 have ht0:=TI hnn K;have hAt:CZ 0 p (Pk c w r (nE c w b) (XE c w b) p).length<= (Ff c w r (nE c w b) (XE c w b) p).length-1:=by omega
 have hcf:=Biq hcl hp hx4 (t:=(Ff c w r (nE c w b) (XE c w b) p).length-1) (K:=K) hAt (by omega) (by omega) (by omega) (λ_=>by rw[htk,Bdk];omega);have oc:=Afx hcl hp hAt;have hll:((Ff c w r (nE c w b) (XE c w b) p).take ((Ff c w r (nE c w b) (XE c w b) p).length-1)).length=(Ff c w r (nE c w b) (XE c w b) p).length-1:=by rw[Ah9];omega
 have hg:∀i,i<K-> _:=λi hi=>Aud hcl hp hAt (by omega) (k:=i) (by omega) (by
  have:=yF hnn (show i+1<=K by omega);omega)
 have hbd:(Ii ((Ff c w r (nE c w b) (XE c w b) p).take ((Ff c w r (nE c w b) (XE c w b) p).length-1)) p (Mp p) c w r (nE c w b) (CZ 0 p (Pk c w r (nE c w b) (XE c w b) p).length) (Cb (Pk c w r (nE c w b) (XE c w b) p)) K).2=24:=by
  obtain⟨mm,y,s,e,g⟩:=Rp oc K (by omega);rw[g.eq];rcases g.way with⟨_,hw⟩|⟨hw,_⟩
  ·exact hw
  ·rw[hll,htk,Bdk]at hw;omega
 obtain⟨_,Atq⟩:=Asm oc (K:=K) (by omega) (λi hi=>by rw[hg i hi]) hbd (by decide);obtain⟨Z,z1,z2,z3,z4,E2,Bhq,Bj0,_⟩:=Aj3 ((Ff c w r (nE c w b) (XE c w b) p).take ((Ff c w r (nE c w b) (XE c w b) p).length-1)) p (by omega) hp;rw[SJ,Bj0,Aa]at Atq;have hE2:=Axa Atq;subst hE2;have hZ:=Aw7 Bhq hcf;have hP0:=uI hcl K (by omega);have hsplit:Cv (w:Int) (XE c w b)=Cv (w:Int) ((BC c r (nE c w b) (XE c w b)).take K).flatten++Cv (w:Int) ((BC c r (nE c w b) (XE c w b)).drop K).flatten:=by
  rw[<-jR,<-Blg,Ayx,Aac hcl]
 have hlast:1<= (Cv (w:Int) ((BC c r (nE c w b) (XE c w b)).drop K).flatten).length:=by
  rw[HD h.bits,drop_cons (show K<(BC c r (nE c w b) (XE c w b)).length by omega),Bkr,Abt];have:=(iE hcl _ (Ane (show K<(BC c r (nE c w b) (XE c w b)).length by omega))).1;exact Bn6 (by omega) (by omega)
 rw[hX]at hsplit;have hbl:=congrArg List.length hsplit;rw[Abt,<-hZ]at hbl;have hcut:Bi (Ff c w r (nE c w b) (XE c w b) p) 0 (((Ff c w r (nE c w b) (XE c w b) p).length-1:Nat):Int)=some ((Ff c w r (nE c w b) (XE c w b) p).take ((Ff c w r (nE c w b) (XE c w b) p).length-1)):=by
  rw[Dd (by omega) (by omega),Ah2]
 have hfd:=((Bh.new hp).Bk4 hp (by simp) ((Ff c w r (nE c w b) (XE c w b) p).take ((Ff c w r (nE c w b) (XE c w b) p).length-1)) (by omega) (by rw[Arc];omega) (by rw[Arc];exact hcf)).1;have hlz:geq (Ac (Ff c w r (nE c w b) (XE c w b) p)) 0=false:=by rw[Ar,Ac,beq_eq_false_iff_ne];omega
 rw[Aaf (by rw[hlz];simp[Al]),hsub,hcut,Aa,Ahe (by omega) hp Bhq,Aa];simp only;rw[GL,Aaf (by rw[As,Ac];simp;omega),Aa];simp only;rw[Aa,hfd,Aa];simp only;rw[Px,Zj,Aas (by simp[Ar,Ae,Ac];omega),Ac,Dd (by omega) (by omega),Aa,Ah2,<-hZ];have:b.take Z.length=Z:=by rw[hsplit,<-hZ,List.take_left]
 rw[this];simp
theorem law_ChunksBack(C W R:Int)(p b:LB)(m k:UInt64):Ng C W R p b m k=some true:=Axm Beo C W R p b m k
end Go.Pl
