/- A part of a proof (see the text that ends in Proof). No conditions. -/
import Derived.Test.YtaicmmejgiaafaaGreatDoorOwWA
set_option linter.unusedVariables false
set_option linter.unusedSimpArgs false
namespace Go.Pl
open Go Go.Lv
variable{p:LB}
def Nf(bits:Int)(ch:Nat)(t x:LX):LU:=evl bits ch t (mx ch x) x.length
def XT(bits:Int)(ch:Nat)(t x:LX):LB:=Na (To ch (Nf bits ch t x) x.length)
def Pz(bits:Int)(ch:Nat)(t x:LX):LB:=XT bits ch t x++Fg (Eu (XT bits ch t x)).toNat 4
theorem Akw(bits:Int)(ch:Nat)(t x:LX)(h0:1<=x.length)(h4:x.length<=4000):1<= (XT bits ch t x).length/\ (XT bits ch t x).length<=40501:=by
 have h:=jB ch (Nf bits ch t x) x.length;obtain⟨k,hk⟩:∃k,x.length=k+1:=⟨x.length-1,F0⟩;have h1:1<= (To ch (Nf bits ch t x) x.length).length:=by
  rw[hk,To,Afz];have hn:=Ag6 ch ((Nf bits ch t x).take k);have:=iV ((Nf bits ch t x).getD k 0) hn.1 hn.2;omega
 rw[XT,Xw];omega
theorem I5(bits:Int)(ch:Nat)(t x:LX)(h0:1<=x.length)(h4:x.length<=4000):5<= (Pz bits ch t x).length/\ (Pz bits ch t x).length<=40505:=by
 have:=Akw bits ch t x h0 h4;rw[Pz,Afz,Az];omega
theorem Aue(bits:Int)(ch:Nat)(t x:LX)(h0:1<=x.length)(h4:x.length<=4000):Wd (Pz bits ch t x)=0/\ (Pz bits ch t x).take ((Pz bits ch t x).length-4)=XT bits ch t x:=by
 have h:=I5 bits ch t x h0 h4;have hl:(Pz bits ch t x).length-4=(XT bits ch t x).length:=by rw[Pz,Afz,Az];omega
 have h1:(Pz bits ch t x).take ((Pz bits ch t x).length-4)=XT bits ch t x:=by rw[hl,Pz,List.take_left]
 have h2:(Pz bits ch t x).drop ((Pz bits ch t x).length-4)=Fg (Eu (XT bits ch t x)).toNat 4:=by rw[hl,Pz,Bmu]
 have hlt:=(Eu (XT bits ch t x)).toNat_lt;refine⟨?_,h1⟩;rw[Wd,Abu F0,Abu F0,h1,h2,Xa,Ajb F0,Abu Bpj]
theorem Apw{bits:Int}{ch n:Nat}{t x:LX}(hb:Bd bits)(ht:t.length=16)(h1:1<=ch)(h6:ch<=6)(n1:1<=n)(n2:n<=4000/ch)(hx:x.length=n*ch)(hr:uh bits x):
  Kj (ch:Int) bits t (n:Int) (Pz bits ch t x)=some (x,0)/\Dq (ch:Int) bits t (n:Int) (Pz bits ch t x)=some (x,0):=by
 have hn:n*ch<=4000:=by
  have:=Ajr ch n2;have h2:=Bjv 4000 ch;omega
 have hq4:=D9 h1 h6;have hx1:1<=x.length:=by rw[hx];exact Boi n1 h1
 have key:Dq (ch:Int) bits t (n:Int) (Pz bits ch t x)=some (x,0):=by
  generalize 4000/ch=mm at*
  have hh:=JL bits;have Aej:Dm (ch:Int) bits (n:Int)=some 0:=by
   rw[Dm,Dd,Abu Bpo,WI hb,Aa,Abu Bpm,Aa,Abu Bp4,Bk Bpl,Aa,hq4,Abu Bpn]
  have hlen:=I5 bits ch t x hx1 F0;obtain⟨hs,htk⟩:=Aue bits ch t x hx1 F0;have hpl:=Akw bits ch t x hx1 F0;have e4:Aq (Ac (Pz bits ch t x)) 4=(((Pz bits ch t x).length-4:Nat):Int):=by rw[Ac,Bv];omega
  have hVl:(Nf bits ch t x).length=x.length:=wN _ _ _ _ _;have hEl:=Xw (To ch (Nf bits ch t x) x.length);have hvb:=Ago ch (Nf bits ch t x) (8*(XT bits ch t x).length) (by rw[hVl,XT,hEl];omega) (n*ch) 0 F0;rw[hVl]at hvb;have hread:=Aic (N:=8*(XT bits ch t x).length) (p:=XT bits ch t x) rfl F0 h1 h6 hn;have hvb':Xt ch (XT bits ch t x) (8*(XT bits ch t x).length) (n*ch) 0 []=(Nf bits ch t x,(To ch (Nf bits ch t x) x.length).length,0):=hvb;have hz:Cf (XT bits ch t x) (To ch (Nf bits ch t x) x.length).length (8*(XT bits ch t x).length-(To ch (Nf bits ch t x) x.length).length)=0:=by
   apply R6;intro k _;rw[XT,HI,Aij F0]
  have Bqu:¬7<8*(XT bits ch t x).length-(To ch (Nf bits ch t x) x.length).length:=by rw[XT,hEl];omega
  rw[hvb']at hread;simp only at hread;rw[Abu F2,Abu (by rw[hz];simp;omega)]at hread;have hm:(Nf bits ch t x).length %ch=0:=by rw[hVl,hx];exact Bj2 n ch
  have Bmi:=Agf (v:=Nf bits ch t x) hb ht h1 h6 F0 hm;have hsm:J1 bits ch t (Nf bits ch t x)=mx ch x:=by
   have:=Bcr bits ch t (mx ch x);rw[ZO]at this;exact this
  rw[hsm,Bjc h1 (by rw[hx];exact Bj2 n ch)]at Bmi;rw[Dq,Pr,Aej,Aa,Abu Bpk,zJ,Aa,hs,Abu F2,e4,Ct,Aa,Ajx,htk,hread,Aa];simp only;rw[Hx,Ie,Abu F2,Bmi,Aa,Uk,YO hb F0 hr,Aa,Abu F2];rfl
 obtain⟨l,e,d1,d2,_,_⟩:=HM (Pz bits ch t x) hb ht h1 h6 n1 n2;rw[key]at d2;cases d2;exact⟨d1,key⟩
theorem Amp(p:LB)(b0:UInt64)(a0:Int):∀(j m q:Nat),m+j<=300000->j<=64->j<q->
  Sj b0 a0 q (Ro p m j) (j:Int) (m:Int) (Sf p 0 m)=some (Sf p 0 (m+j),((m+j:Nat):Int),0)
 |0,m,q+1,_,_,_=>by
  rw[Sj,XR,Abu Bpz,lZ,D8];rfl
 |j+1,m,q+1,hm,hj,hq=>by
  have hroom:Sj b0 a0 (q+1) (Ro p m (j+1)) ((j+1:Nat):Int) (m:Int) (Sf p 0 m)=XQ (Sj b0 a0 q) b0 a0 (Ro p m (j+1)) ((j+1:Nat):Int) (m:Int) (room p 0 m):=by
   rw[Sj,XR,Adi Bpz,jw m F0,room];by_cases h0:m %8=0
   ·rw[Adi (by rw[Ar,h0];rfl),Bf Bqg,Aa,Adi h0]
   ·rw[Abu Bpm,Abu h0]
  have hl:Aq (Ac (room p 0 m)) 1=((m/8:Nat):Int):=by
   rw[Ac,Qo,Bv];omega
  have e2:Iu ((j+1:Nat):Int) (Aq (8:Int) ((m %8:Nat):Int))=((min (j+1) (8-m %8):Nat):Int):=by
   rw[IY,Bv];omega
  rw[hroom,XQ,K0,jw m F0,e2,hl];generalize hT:min (j+1) (8-m %8)=T;have hT1:1<=T:=F0
  have hT8:m %8+T<=8:=F0
  have hg:Am (room p 0 m) ((m/8:Nat):Int)=some (UInt8.ofNat (Cf p (0+8*(m/8)) (m %8))):=by
   rw[Bn Bp7,vX]
  have z1:(GI.toZ ((m %8:Nat):Int)).toNat=m %8:=rfl;have z2:(GI.toZ ((T:Nat):Int)).toNat=T:=rfl;have hlt:=O8 p (0+8*(m/8)) (m %8+T) F0;have hadd:=TA p (m %8) T (0+8*(m/8));rw[show 0+8*(m/8)+m %8=m by omega]at hadd;have hbyte:(Ad (Ez (Ro p m (j+1)) (Aq (Du (1:UInt64) T) (1:UInt64))):UInt8)=UInt8.ofNat (Cf p m T):=by
   rw[bU,Bln _ F0,Am5 p m (j+1) T F0 hj]
  have hnew:zZ (UInt8.ofNat (Cf p (0+8*(m/8)) (m %8))) (Du (UInt8.ofNat (Cf p m T)) (m %8))=UInt8.ofNat (Cf p (0+8*(m/8)) (m %8+T)):=by
   rw[or8 (Rj _ _ _) Bqh F0,hadd,Aw7 (2^(m %8))]
  rw[hg,z1,z2,hbyte];simp only[Aa];rw[Bk Bpq,Aa,Bk Bpp,Aa,hnew,Tk _ Bp7,Aa,M6 p 0 m T hT1 hT8,N9,J9,jw m F0,e2,hT,Bk Bpq,Aa,z2,Aln p m (j+1) T F0 hj,Bv,Ag];have ih:=Amp p b0 a0 (j+1-T) (m+T) q F0 F0 F0;rw[show m+T+(j+1-T)=m+(j+1) by omega]at ih;rw[<-ih,show((j+1:Nat):Int)-((T:Nat):Int)=((j+1-T:Nat):Int) by omega,show(m:Int)+((T:Nat):Int)=((m+T:Nat):Int) by omega]
theorem put_eq(p:LB)(m j:Nat)(hm:m+j<=300000)(hj:j<=63):bK (Sf p 0 m) (m:Int) (Ro p m j) (j:Int)=some (Sf p 0 (m+j),((m+j:Nat):Int),0):=by
 have hz:Bg (Cw (Ro p m j) (GI.toZ (j:Int)).toNat) 0=false:=by
  have:Cw (Ro p m j) j=0:=by
   apply UInt64.toNat_inj.1;rw[MR,BI p m j F0,Bmg (Rj p j m)];rfl
  rw[show(GI.toZ (j:Int)).toNat=j from rfl,this];rfl
 have hl:=Kk p 0 m;have htw:jP (Sf p 0 m) (m:Int)=some (Sf p 0 m,(m:Int)):=by
  rw[jP,Cb,Bf F7,Aa,Aa];rfl
 rw[bK,rK,CD (G6 p 0 m F0),Aa,Abu F2,Abu Bpo,Adi Bpi,Bk Bpq,Aa,hz,Abu F2,Ag,Abu Bpn,htw,Aa];exact Amp p _ _ j m Au hm F0 F8
theorem At.cat{a:Nat}{c d:List Bool}(h:At p a (c++d)):At p a c/\At p (a+c.length) d:=⟨h.left,h.right⟩
theorem Amz(p:LB):∀(q a:Nat),At p a (List.replicate q true)->Cf p a q+1=2^q
 |0,a,_=>by rw[Cf]
 |q+1,a,h=>by
  rw[Bj5]at h;obtain⟨h0,h1⟩:=h.cons;have:=Amz p q (a+1) h1;rw[Cf,h0,Bgy,Adi rfl];omega
theorem P7{x:UInt64}{m n:Nat}(hn:n<=63)(h:x.toNat=Cf p m n):x=Ro p m n:=by
 apply UInt64.toNat_inj.1;rw[h,BI p m n F0]
theorem eE{n:Nat}(h:n<2^64):(UInt64.ofNat n).toNat=n:=by rw[Ajs];exact Ajb h
theorem Afb{m q:Nat}(hq:q<=48)(hm:m+48<=300000)(h:At p m (List.replicate q true++(if q=48 then []else [false]))):
  fG (Sf p 0 m) (m:Int) (q:Int)=some (Sf p 0 (m+min (q+1) 48),((m+min (q+1) 48:Nat):Int),0):=by
 have h1:=h.left;have hv:=Amz p q m h1;have Bqv:2^q<=2^48:=Anl F0 hq;have hval:Cf p m (min (q+1) 48)+1=2^q:=by
  by_cases h48:q=48
  ·subst h48;exact hv
  ·rw[Abu h48]at h;have h2:=h.right;rw[Aw4]at h2;have h0:=h2.cons.1;rw[show min (q+1) 48=q+1 by omega,vP,h0];simpa using hv
 have hx:(Aq (Du (1:UInt64) q) (1:UInt64)).toNat=Cf p m (min (q+1) 48):=by
  have e1:(Du (1:UInt64) q).toNat=2^q:=by rw[cN];show 1*2^q %_=_;rw[Bjg];exact Ajb F0
  have hpos:0<2^q:=Bmr F0;rw[N0,UInt64.toNat_sub_of_le _ _ (by rw[UInt64.le_iff_toNat_le,e1];exact hpos),e1]
  show 2^q-1=_;omega
 rw[fG,CD (G6 p 0 m F0),Aa,Abu F2,nW,Abu Bpo,Aa];simp only;have e2:Iu (Ae (q:Int) 1) 48=((min (q+1) 48:Nat):Int):=by rw[IY,Ag];omega
 rw[Abu F2,Bk Bpq,Aa,e2,show(GI.toZ (q:Int)).toNat=q from rfl,P7 F0 hx,put_eq p m _ F0 F0,Aa]
theorem Ayu{m l:Nat}{v:UInt32}(hl:l<=24)(hm:m+81<=300000)(h:At p m (ZU l v.toNat)):
  mZ (Sf p 0 m) (m:Int) v (l:Int)=some (Sf p 0 (m+(ZU l v.toNat).length),((m+(ZU l v.toNat).length:Nat):Int),0):=by
 have hvl:=v.toNat_lt;have hz:(GI.toZ (l:Int)).toNat=l:=rfl;have hlp:2^l<=2^24:=Anl F0 hl;have hpos:0<2^l:=Bmr F0;have Bn8:CV v (l:Int)=some (decide (48<=v.toNat/2^l)):=by
  rw[CV,Bk Bpq,Aa,hz,Arl,SC];rfl
 rw[mZ,xP,CD (G6 p 0 m F0),Aa,Abu F2,Abu Bpo,Bk Bpq,Aa,Aa,Bn8,Aa];rw[ZU]at h⊢;by_cases h48:48<=v.toNat/2^l
 ·rw[Adi h48]at h⊢;obtain⟨h1,h2⟩:=h.cat;rw[Aw4]at h2;have hval:=PG p 32 (m+48) v.toNat h2;rw[Ajb F0]at hval;have hu:=Afb (p:=p) (m:=m) (q:=48) (An6 _) F0 (by rw[Adi rfl,Ap3];exact h1);rw[Adi (by simpa using h48),gX,iG,show(48:Int)=((48:Nat):Int)from rfl,hu,Aa];simp only;rw[Abu F2,Ed,P7 (x:=UInt64.ofNat v.toNat) (p:=p) (m:=m+48) (n:=32) F0 (by rw[eE F0,hval]),show(32:Int)=((32:Nat):Int)from rfl,show m+min (48+1) 48=m+48 by omega,put_eq p (m+48) 32 F0 F0,Aa,Afz,Aw4,Uq,Bhe]
 ·rw[Abu h48]at h⊢;generalize hq:v.toNat/2^l=q at*
  obtain⟨h1,h2⟩:=h.cat;rw[Aw4]at h2;obtain⟨h3,h4⟩:=h2.cons;have hval:=PG p l (m+q+1) (v.toNat %2^l) h4;rw[Nat.mod_mod]at hval;have hqa:At p m (List.replicate q true++[false]):=by
   have:List.replicate q true++(false::oQ (v.toNat %2^l) l)=(List.replicate q true++[false])++oQ (v.toNat %2^l) l:=by simp
   rw[this]at h;exact h.left
  have hu:=Afb (p:=p) (m:=m) (q:=q) F0 F0 (by rw[Abu F0];exact hqa);have hgq:(Ad (Cw v l):Int)=(q:Int):=by rw[wm,SC,hq]
  have hrest:(Ad (Ez v (Aq (Du (1:UInt32) l) 1)):UInt64)=Ro p (m+q+1) l:=by
   apply P7 F0;have e1:(Du (1:UInt32) l).toNat=2^l:=by rw[qT];show 1*2^l %_=_;rw[Bjg];exact Ajb F0
   have e2:(Aq (Du (1:UInt32) l) (1:UInt32)).toNat=2^l-1:=by
    rw[Aab,UInt32.toNat_sub_of_le _ _ (by rw[UInt32.le_iff_toNat_le,e1];exact hpos),e1];rfl
   have e3:(Ez v (Aq (Du (1:UInt32) l) 1)).toNat=v.toNat %2^l:=by
    rw[Aba,UInt32.toNat_and,e2,Bko]
   rw[Ed,eE (by rw[e3];have:=Bl6 v.toNat hpos;omega),e3,hval]
  rw[Abu (by simpa using h48),gX,iG,hz,hgq,hu,Aa];simp only;rw[Abu F2,hrest,show m+min (q+1) 48=m+q+1 by omega,put_eq p (m+q+1) l F0 F0,Aa,Afz,Aw4,Ary,Uq,show m+q+1+l=m+(q+(l+1)) by omega]
theorem Bbe{k l:Nat}{s t:UInt64}(h:okD k l s t)(v:UInt32):mM [] 0 (k:Int) (l:Int) s t v=
  some (Na (Tz k l v),((Tz k l v).length:Int),((kS k (Zs s (ru v)):Nat):Int),((lK l t k v:Nat):Int),Zs s (ru v),lT t k v,0):=by
 obtain⟨h1,h2,h3,h4⟩:=h;have hvl:=v.toNat_lt;have hAt:At (Na (Tz k l v)) 0 (Tz k l v):=λi hi=>by rw[Bg2,HI]
 have hlen:=iV v h1 h2;have hfull:Sf (Na (Tz k l v)) 0 (Tz k l v).length=Na (Tz k l v):=by
  apply Aj8 (by rw[Kk,Xw]);intro i hi;rw[E4,Bg2,HI];by_cases hlt:i<(Tz k l v).length
  ·rw[Adi hlt]
  ·rw[Abu hlt,Aij F0]
 generalize hP:Na (Tz k l v)=P at*
 have h0:Sf P 0 0=[]:=rfl;have Bmj:∀(x:Int) (y:UInt64) (aj ai:Int),EG v (k:Int) s ai P x y=some (P,ai,((kS k (Zs s (ru v)):Nat):Int),x,Zs s (ru v),y,0):=by
  intro x y aj ai;rw[EG,gG,Ed,iU,Atd k h1];rw[yR,gT,cI,MZ,Ed,iU];rfl
 have hp7:∀ai:Int,gW v (k:Int) (l:Int) s t 0 ai P=some (P,ai,((kS k (Zs s (ru v)):Nat):Int),((lK l t k v:Nat):Int),Zs s (ru v),lT t k v,0):=by
  intro ai;rw[gW,gC,Abu F2,Aa1 k l s t h1,Aa];by_cases hv:v.toNat<2^k
  ·rw[Adi hv];simp only;rw[Abu Bqa,Bmj _ _ 0,lK,Adi hv,lT,Adi hv]
  ·rw[Abu hv];simp only;rw[Adi Bp3,Ed,iU,Atd l h2 _ (λx=>EG v (k:Int) s ai P x (Zs t (UInt64.ofNat (pB k v).toNat))),Bmj _ _ 0,lK,Abu hv,lT,Abu hv];rfl
 rw[mM,iJ,show Le [] 0=some 0 from rfl,Aa,Abu F2,Axg ⟨h1,h2,h3,h4⟩,Aa,Abu F2,xR,iB,Aa1 k l s t h1,Aa];have hput:=put_eq P 0 1 F0 F0;rw[h0,Bg2,show((0:Nat):Int)=0 from rfl,show((1:Nat):Int)=1 from rfl]at hput;by_cases hv:v.toNat<2^k
 ·have hc:Tz k l v=false::oQ v.toNat k:=by rw[Tz,Adi hv]
  rw[hc]at hAt hfull;obtain⟨b0,b1⟩:=hAt.cons;have hval:=PG P k 1 v.toNat b1;rw[Ajb hv]at hval;have hz:(Ad (0:Int):UInt64)=Ro P 0 1:=P7 F0 (by rw[I7,b0];rfl);rw[Adi hv];simp only;rw[hz,hput,Aa];simp only;rw[Adi F2,Ed,P7 (x:=UInt64.ofNat v.toNat) (p:=P) (m:=1) (n:=k) F0 (by rw[eE F0,hval]),show(1:Int)=((1:Nat):Int)from rfl,put_eq P 1 k F0 F0,Aa];simp only;rw[Ary,Uq,Bn7 k 1]at hfull;rw[hfull,hp7,hc,Ary,Uq,Bn7 k 1]
 ·have hc:Tz k l v=true::ZU l (v.toNat-2^k):=by rw[Tz,Abu hv]
  rw[hc]at hAt hfull;obtain⟨b0,b1⟩:=hAt.cons;have hsub:=Nat.sub_le v.toNat (2^k);have hlv:(pB k v).toNat=v.toNat-2^k:=by rw[pB,eB F0]
  have hz:(Ad (1:Int):UInt64)=Ro P 0 1:=P7 F0 (by rw[I7,b0];rfl);have hr:=Ayu (p:=P) (m:=1) (l:=l) (v:=pB k v) h2 F0 (by rw[hlv];exact b1);rw[hlv,show((1:Nat):Int)=1 from rfl]at hr;rw[Abu hv];simp only;rw[hz,hput,Aa];simp only;rw[Abu F2,Adi F2,hr,Aa];simp only;rw[Ary,Bn7 _ 1]at hfull;rw[hfull,hp7,hc,Ary,Bn7 _ 1]
section
variable (ch:Nat) (x:LX)
theorem dX{at' i:Nat}(ha:at' %ch=0)(hi:i<ch)(h:at'+i<x.length):(mx ch x).getD (at'+i) 0=mxV (λi=>x.getD (at'+i) 0) ch i:=by
 have hb:(at'+i) %ch=i:=by rw[Nat.add_mod,ha,Bg2,Nat.mod_mod,Ajb hi]
 rw[Ayf h,hb,show at'+i-i=at' by omega]
theorem Amv(bk:Int->LX->Option (LX×Int))(at':Nat)(h1:1<=ch)(h6:ch<=6)(hm:at' %ch=0)(hl:at'+ch<=x.length)(hl2:x.length<=4000):∀(j i q:Nat),i+j=ch-1->j<q->
  HX bk (ch:Int) (at':Int) q (i:Int) (mN (λk=>decide (k<at'+i)) (mx ch x) x)=bk ((at'+ch:Nat):Int) (mN (λk=>decide (k<at'+ch)) (mx ch x) x)
 |j,i,0,_,h=>absurd h (Bix _)
 |0,i,q+1,hi,_=>by
  have hlen:=ZO ch x;have e1:Aq (Ae (at':Int) (ch:Int)-(at':Int)) 1=((ch-1:Nat):Int):=by rw[Ag,Bv];omega
  have e2:Ae (at':Int) (ch:Int)-(at':Int)=(ch:Int):=by rw[Ag];omega
  have e4:Ae (at':Int) (ch:Int)=((at'+ch:Nat):Int):=by rw[Ag];omega
  rw[HX,dI,e1,Abu Bpi,qZ,ni,e1,e2];obtain rfl:i=ch-1:=F0
  by_cases h2:1<ch
  ·have e3:Aq ((ch-1:Nat):Int) 1=((ch-2:Nat):Int):=by rw[Bv];omega
   have hv:Aq (x.getD (at'+(ch-1)) 0) (Bq ((mx ch x).getD (at'+(ch-2)) 0) 2)=(mx ch x).getD (at'+(ch-1)) 0:=by
    rw[dX ch x hm F0 F0,dX ch x hm F0 F0,mxV,mxV,Adi F0,Abu F0,Adi h2,aL,show ch-2+1=ch-1 by omega]
   rw[Adi Bpn,xZ F0,Aa,e3,xZ F0,Aa,
    show(at':Int)+((ch-1:Nat):Int)=((at'+(ch-1):Nat):Int) by omega,show(at':Int)+((ch-2:Nat):Int)=((at'+(ch-2):Nat):Int) by omega,
    FK F0,Aa,FK F0,Aa,Aa,Abu Bpj,Adi F7,hv,oA F0,Aa,tS,rI,e4]
   congr 1;apply Xz;intro k _;rw[An7];simp;omega
  ·obtain rfl:ch=1:=F0
   have hlast:x.getD at' 0=(mx 1 x).getD at' 0:=by
    have:=dX 1 x (i:=0) hm F0 F0;rw[Bli]at this;rw[this,mxV,Abu F0,Abu F0];rfl
   rw[Abu Bpz,tS,rI,e4];congr 1;apply Bit (by rw[RL,RL]);intro k g1 g2;rw[Wf,Wf];by_cases hk:k<at'
   ·rw[Adi F7,Adi F7]
   ·by_cases hk2:k=at'
    ·subst hk2;rw[Abu Bpj,Adi Bpj];exact hlast
    ·rw[Abu F7,Abu F7]
 |j+1,i,q+1,hi,hq=>by
  have hlen:=ZO ch x;have e1:Aq (Ae (at':Int) (ch:Int)-(at':Int)) 1=((ch-1:Nat):Int):=by rw[Ag,Bv];omega
  have e2:Ae (at':Int) (ch:Int)-(at':Int)=(ch:Int):=by rw[Ag];omega
  have e3:Ae (i:Int) 1=((i+1:Nat):Int):=by rw[Ag];omega
  have hv:Aq (x.getD (at'+(i+1)) 0) (x.getD (at'+i) 0)=(mx ch x).getD (at'+i) 0:=by
   rw[dX ch x hm F0 F0,mxV,Adi F0,aL]
  rw[HX,dI,e1,Adi Bpi,e2,e3,xZ F0,Aa,xZ F0,Aa,
   show(at':Int)+((i+1:Nat):Int)=((at'+(i+1):Nat):Int) by omega,show(at':Int)+(i:Int)=((at'+i:Nat):Int) by omega,
   FK F0,Aa,FK F0,Aa,Aa,Abu Bpj,Abu Bpj,hv,oA F0,Aa]
  have ih:=Amv bk at' h1 h6 hm hl hl2 j (i+1) q F0 F0;rw[<-ih];congr 1;apply Xz;intro k _;rw[An7];simp;omega
theorem Z1(h1:1<=ch)(h6:ch<=6)(hm:x.length %ch=0)(hl2:x.length<=4000):∀(j at' q:Nat),at' %ch=0->at'<=x.length->x.length-at'<=j->j<q->
  IE (ch:Int) q (at':Int) (mN (λk=>decide (k<at')) (mx ch x) x)=some (mx ch x,0)
 |j,at',0,_,_,_,h=>absurd h (Bix _)
 |j,at',q+1,ha,hle,hj,hq=>by
  have hlen:=ZO ch x;have hl:Ac (mN (λk=>decide (k<at')) (mx ch x) x)=(x.length:Int):=by rw[Ac,RL,hlen]
  rw[IE,rE,hl];by_cases h:at'<x.length
  ·have hb:=K2 ha hm h;obtain⟨j,rfl⟩:∃k,j=k+1:=⟨j-1,F0⟩;have e4:Ae (at':Int) (ch:Int)=((at'+ch:Nat):Int):=by rw[Ag];omega
   have hi:=Amv ch x (IE (ch:Int) q) at' h1 h6 ha hb hl2 (ch-1) 0 Au F0 F8;have hrest:=Z1 h1 h6 hm hl2 j (at'+ch) q (by rw[Bov,ha]) hb F0 F0;rw[Bli]at hi;rw[Adi Bpi,show jT (x.length:Int) (at':Int) (Ae (at':Int) (ch:Int))=some () by rw[e4,jT,xZ];omega,Aa];exact Bma hi hrest
  ·rw[Abu Bpi,wH (λk hk=>by simp;omega)];rfl
theorem Awd(h1:1<=ch)(h6:ch<=6)(hm:x.length %ch=0)(hl2:x.length<=4000):uz (ch:Int) x=some (mx ch x,0):=by
 have hlen:=ZO ch x;have h:=Z1 ch x h1 h6 hm hl2 x.length 0 Au Bpj F0 F0 F8;rw[uz,zS,Aku ch x h1 h6 hm hl2,Aa,Abu Bpk,Dr,Bf F7,Aa,Aa,Awv,Z4];rw[rC hlen.symm (λk _=>by simp)]at h;exact h
end
theorem Azj(a:Int32):vR a=some (uA a):=by
 have h:=DW a;have hc:(Ad a:UInt32)=UInt32.ofNat (a.toInt %4294967296).toNat:=rfl;have hs:(Cw a (GI.toZ (31:UInt64)).toNat)=if 0<=a.toInt then(0:Int32)else -1:=by
  have e:Cw a 31=Int32.ofInt (a.toInt.fdiv (2^31)):=rfl;rw[show(GI.toZ (31:UInt64)).toNat=31 from rfl,e];by_cases h0:0<=a.toInt
  ·rw[Adi h0,show a.toInt.fdiv (2^31)=0 by rw[Bb6 _ F2];omega];rfl
  ·rw[Abu h0,show a.toInt.fdiv (2^31)= -1 by rw[Bb6 _ F2];omega];rfl
 rw[vR,hs,hc,uA];congr 1;have hsh:(Du (UInt32.ofNat (a.toInt %4294967296).toNat) (GI.toZ (1:UInt64)).toNat).toNat=2*(a.toInt %4294967296).toNat %4294967296:=by
  rw[show(GI.toZ (1:UInt64)).toNat=1 from rfl,qT,Asg,Ajb (show(a.toInt %4294967296).toNat<2^32 by omega)];omega
 by_cases h0:0<=a.toInt
 ·rw[Adi h0,Adi h0,show(Ad (0:Int32):UInt32)=0 from rfl];apply UInt32.toNat_inj.1;rw[show∀z:UInt32,BH z (0:UInt32)=z^^^0 from λz=>by rw[jA],Bo4,hsh,Asg,Ajb (show 2*a.toInt.toNat<2^32 by omega)]
  show _^^^0=_;rw[Nat.xor_zero];omega
 ·rw[Abu h0,Abu h0,show(Ad (-1:Int32):UInt32)=4294967295 from rfl];apply UInt32.toNat_inj.1;rw[show∀z:UInt32,BH z (4294967295:UInt32)=z^^^4294967295 from λz=>by rw[jA],Bo4,hsh,Asg,Ajb (show 2*(-a.toInt-1).toNat+1<2^32 by omega)]
  show _^^^4294967295=_;have key:∀n:Nat,n<4294967296->n^^^4294967295=4294967295-n:=by
   intro n hn;have:=BitVec.toNat_not (x:=BitVec.ofNat 32 n);rw[<-BitVec.xor_allOnes,BitVec.toNat_xor,BitVec.toNat_ofNat,Ajb F0]at this;simpa using this
  rw[key _ F0];omega
theorem Ayd{bits:Int}(h:Bd bits){t p:LX}(hF:OkF (sB bits) t p)(last x:Int32):
  Xv bits last (sB bits) t p x=some (oq bits (last,t,p) x,bits,x,sB bits,yc t p (oq bits (last,t,p) x),(x-gs (shB bits) last)::p.take 15,0):=by
 rw[Xv,Adt h,Aa,Abu Bpk,Aze h,Aa];simp only;rw[aL,fX,Al1 hF,Aa];simp only;rw[Abu Bpk,aL,ZG,Alp hF,Aa];simp only;rw[Aq1 (s:=sB bits) (t:=yc t p _) (p:=p) ⟨hF.1,MH _ _ _,hF.2.2⟩,Aa,Aa];rfl
theorem Aai(bits:Int)(ch:Nat)(t x:LX):(Nf bits ch t x).length=x.length:=wN _ _ _ _ _
theorem Ayv{bits:Int}{ch:Nat}{t x:LX}{i:Nat}(h:i<x.length):(Nf bits ch t x).getD i 0=uA (oq bits (cst bits ch t (Nf bits ch t x) (i %ch) i) ((mx ch x).getD i 0)):=by
 obtain⟨w,hw⟩:=Ai5 bits ch t (mx ch x) (x.length-(i+1)) (i+1);rw[show i+1+(x.length-(i+1))=x.length by omega,evl,Ajp]at hw;have hli:=wN bits ch t (mx ch x) i;have hw':Nf bits ch t x=_:=hw;have hg:(Nf bits ch t x).getD i 0=uA (oq bits (cst bits ch t (evl bits ch t (mx ch x) i) (i %ch) i) ((mx ch x).getD i 0)):=by
  rw[hw',List.getD_eq_getElem?_getD,List.getElem?_append_right F0,hli,Nat.sub_self];rfl
 have hc:cst bits ch t (Nf bits ch t x) (i %ch) i=cst bits ch t (evl bits ch t (mx ch x) i) (i %ch) i:=by rw[hw',Ase _ _ _ _ _ _ _ F0]
 rw[hg,hc]
section
variable {bits:Int} {ch:Nat} {t x:LX} (hb:Bd bits) (ht:t.length=16) (h1:1<=ch) (h6:ch<=6) (hx1:1<=x.length) (hx4:x.length<=4000) (hm:x.length %ch=0)
include hb ht h1 h6 hx1 hx4 hm
omit ht in
theorem Bhw(hr:uh bits x):RA (ch:Int) bits x=some 0:=by
 rw[RA,Apk hb h1 h6,Aa,Abu F2,bL hb x hx4,YO hb hx4 hr,Aa,Abu F2,Abu (by rw[Ar,Ac,Bcg];omega),Bk Bpl,Aa,Ac,DF,hm,Abu F2]
omit hm in
theorem Afs:∀(j i q:Nat),i+j=x.length->j<q->
  Mq (mx ch x) (ch:Int) bits q (i:Int) (cts bits ch t (Nf bits ch t x) i) ((Nf bits ch t x).take i)=some (Nf bits ch t x,0)
 |j,i,0,_,h=>absurd h (Bix _)
 |0,i,q+1,hi,_=>by
  have hl:=ZO ch x;have hV:=Aai bits ch t x;rw[Mq,Xe,Abu F3,Awy F0];rfl
 |j+1,i,q+1,hi,hq=>by
  have hl:=ZO ch x;have hV:=Aai bits ch t x;have hc:i %ch<6:=Aw0 (Bl6 _ F0) h6;have hok:=Ai8 bits ch ht (Nf bits ch t x) (i %ch) i;have hs:=Ash (bits:=bits) (ch:=ch) (t:=t) (v:=Nf bits ch t x) (i:=i) hc rfl;have hg:=Ayv (bits:=bits) (ch:=ch) (t:=t) (x:=x) (i:=i) F0;have ih:=Afs j (i+1) q F0 F0;have htk:(Nf bits ch t x).take i++[(Nf bits ch t x).getD i 0]=(Nf bits ch t x).take (i+1):=by
   have:(Nf bits ch t x).getD i 0=(Nf bits ch t x)[i]' F0:=by rw[List.getD_eq_getElem?_getD,List.getElem?_eq_getElem F0];rfl
   rw[this,Jq F0]
  have hfw:=Ayd hb hok (cst bits ch t (Nf bits ch t x) (i %ch) i).1 ((mx ch x).getD i 0);rw[Mq,Xe,Adi F3,g32 F0,Aa,Aa,Bk Bpl,Aa,DF,As4 hc,Aa,Aa];refine Bma (congrArg (λo=>Option.bind o _) hfw) ?_;rw[Aa];simp only;rw[Abu F2];have hst:((bits,(mx ch x).getD i 0,(sB bits,yc (cst bits ch t (Nf bits ch t x) (i %ch) i).2.1 (cst bits ch t (Nf bits ch t x) (i %ch) i).2.2 (oq bits (cst bits ch t (Nf bits ch t x) (i %ch) i) ((mx ch x).getD i 0)),((mx ch x).getD i 0-gs (shB bits) (cst bits ch t (Nf bits ch t x) (i %ch) i).1)::(cst bits ch t (Nf bits ch t x) (i %ch) i).2.2.take 15,()),()):CL)=toC bits (Af2 bits (cst bits ch t (Nf bits ch t x) (i %ch) i) (ZC ((Nf bits ch t x).getD i 0))):=by
   rw[hg,Azk,toC,Af2,Afk];simp only;rw[oq,eY]
  refine Bma (congrArg (λo=>Option.bind o _) ((congrArg (λz=>Mv (cts bits ch t (Nf bits ch t x) i) ((i %ch:Nat):Int) z) hst).trans hs)) ?_;rw[Aa,Azj,Aa];have hg2:uA (oq bits ((cst bits ch t (Nf bits ch t x) (i %ch) i).1,(cst bits ch t (Nf bits ch t x) (i %ch) i).2.1,(cst bits ch t (Nf bits ch t x) (i %ch) i).2.2) ((mx ch x).getD i 0))=(Nf bits ch t x).getD i 0:=hg.symm;rw[hg2,Bf (by rw[Anb];simp;omega),Aa,htk,Ag];exact ih
theorem Apy(hr:uh bits x):JW (ch:Int) bits t x=some (Nf bits ch t x,0):=by
 have hl:=ZO ch x;have h:=Afs hb ht h1 h6 hx1 hx4 x.length 0 Au F0 F8;have e:Au=(Au-7)+1+1+1+1+1+1+1:=by have:=As;omega
 have hs:NB (ch:Int) bits t (mx ch x) 0 (List.replicate 6 ((0:Int),(0:Int32),((0:Int),(List.replicate 16 (0:Int32)),(List.replicate 16 (0:Int32)),()),()))=dH (ch:Int) bits (mx ch x) (cts bits ch t (Nf bits ch t x) 0):=by
  rw[NB,e];obtain rfl|rfl|rfl:=hb<;>rfl
 rw[JW,JX,Bhw hb h1 h6 hx1 hx4 hm hr,Aa,Abu F2,Awd ch x h1 h6 hm hx4,Aa];simp only;rw[Abu F2];refine Bma hs ?_;exact h
end
theorem Apr(ch:Nat):LH=some (sts ch []):=by
 have e:Au=(Au-7)+1+1+1+1+1+1+1:=by have:=As;omega
 rw[LH,JP,fF,e];rfl
theorem Ala(c:List Bool){n:Nat}(h:n<=c.length):Sf (Na c) 0 n=Na (c.take n):=by
 have hl:(c.take n).length=n:=by rw[Anb];omega
 apply Aj8 (by rw[Kk,Xw,hl]);intro i hi;rw[E4,Bg2,HI,HI];by_cases hlt:i<n
 ·rw[Adi hlt,tb,tb,List.getD_eq_getElem?_getD,List.getD_eq_getElem?_getD,List.getElem?_take,Adi hlt]
 ·rw[Abu hlt,Aij F0]
theorem Bjb(a:UInt8){k:Nat}(hk:k<8):Ez (Cw a k) (1:UInt8)=UInt8.ofNat (a.toNat/2^k %2):=by
 apply UInt8.toNat_inj.1;rw[Aq3,UInt8.toNat_and,Ai2,Aw5]
 show _&&&1=_;rw[Nat.and_one_is_mod];generalize a.toNat/2^k=X;omega
theorem Anu(E code:List Bool)(hE:E.length+code.length<=330000)(bk:Int->List (Int×Int×UInt64×UInt64×Unit)->Int->LB->Ca)(V:LU)(b f g:Int)(k:List (Int×Int×UInt64×UInt64×Unit)):∀(j o q:Nat),o+j=code.length->j<q->
  Hr bk V b f (code.length:Int) g k (Na code) q (o:Int) ((E.length+o:Nat):Int) (Sf (Na (E++code)) 0 (E.length+o))=bk (Ae g 1) k ((E.length+code.length:Nat):Int) (Na (E++code))
 |j,o,0,_,h=>absurd h (Bix _)
 |0,o,q+1,ho,_=>by
  obtain rfl:o=code.length:=F0
  rw[Hr,Xh,Abu Bpr,GO,aA,Ala _ Bpx,Awy Bpx]
 |j+1,o,q+1,ho,hq=>by
  generalize hP:Na (E++code)=P;have hPo:Hv P (E.length+o)=Hv (Na code) o:=by rw[<-hP,HI,HI,Ahk]
  have ih:=Anu E code hE bk V b f g k j (o+1) q F0 F0;rw[hP,<-Bhe]at ih;generalize hn:E.length+o=n at*
  have hq8:Bq (n:Int) 8=((n/8:Nat):Int):=by rw[show(8:Int)=((8:Nat):Int)from rfl,GM]
  have hr8:Ha (n:Int) 8=((n %8:Nat):Int):=by rw[show(8:Int)=((8:Nat):Int)from rfl,DF]
  have hqo:Bq (o:Int) 8=((o/8:Nat):Int):=by rw[show(8:Int)=((8:Nat):Int)from rfl,GM]
  have hro:Ha (o:Int) 8=((o %8:Nat):Int):=by rw[show(8:Int)=((8:Nat):Int)from rfl,DF]
  have hroom:Hr bk V b f (code.length:Int) g k (Na code) (q+1) (o:Int) (n:Int) (Sf P 0 n)=Wo (Hr bk V b f (code.length:Int) g k (Na code) q) (code.length:Int) V g b f k (Na code) (o:Int) (n:Int) (room P 0 n):=by
   rw[Hr,Xh,Adi Bpi,hr8,room];by_cases h0:n %8=0
   ·rw[Adi (by rw[Ar,h0];rfl),Bf Bqg,Aa,Adi h0]
   ·rw[Abu Bpm,Abu h0]
  have hcl:=Xw code;have hgm:Am (Na code) ((o/8:Nat):Int)=some ((Na code).getD (o/8) 0):=by
   rw[Bn,List.getD_eq_getElem?_getD,List.getElem?_eq_getElem F0];rfl
  have hg:Am (room P 0 n) ((n/8:Nat):Int)=some (UInt8.ofNat (Cf P (0+8*(n/8)) (n %8))):=by
   rw[Bn Bp7,vX]
  have hbit:Ez (Cw ((Na code).getD (o/8) 0) (o %8)) (1:UInt8)=UInt8.ofNat (Hv P n):=by
   rw[Bjb _ F0,hPo,Hv]
  have hlt:=O8 P (0+8*(n/8)) (n %8+1) F0;have hsn:=vP P (0+8*(n/8)) (n %8);rw[show 0+8*(n/8)+n %8=n by omega]at hsn;have hnew:zZ (UInt8.ofNat (Cf P (0+8*(n/8)) (n %8))) (Du (UInt8.ofNat (Hv P n)) (n %8))=UInt8.ofNat (Cf P (0+8*(n/8)) (n %8+1)):=by
   rw[or8 (Rj _ _ _) Bqh F0,hsn,Aw7 (2^(n %8))]
  rw[hroom,Wo,ZK,hqo,hro,hq8,hr8,hgm,Aa,Aa,Bk Bpp,Aa,hg,Aa,Bk Bpp,Aa,Aa,Aa,
   show(GI.toZ ((o %8:Nat):Int)).toNat=o %8 from rfl,show(GI.toZ ((n %8:Nat):Int)).toNat=n %8 from rfl,hbit,hnew,Tk _ Bp7,Aa,M6 P 0 n 1 F0 F0,aP,cK,Ag,Ag]
  exact ih
theorem Bm4(l m:LB)(h:l.length+m.length<=1000000):Fi [l,m]=some (l++m):=by
 have hF:Au=(Au-3)+1+1+1:=by have:=As;omega
 rw[Fi,Qy,AG];have g0:Am [l,m] (0:Int)=some l:=rfl;have g1:Am [l,m] (1:Int)=some m:=rfl;have l2:Ac [l,m]=2:=rfl;have h3:Gx [l,m] []=some (l++m):=by
  rw[Gx,Kb,Ka,hF,Cs,Dz,l2,Adi F2,g0,Aa,Bf F7,Aa,Awv,show Ae (0:Int) 1=1 by decide,
   Cs,Dz,l2,Adi F2,g1,Aa,Bf,Aa,show Ae (1:Int) 1=2 by decide,Cs,Dz,l2,Abu F2]
  rfl
 rw[hF,Db,Ef,l2,Adi F2,g0,Aa,Ag Bpt Bpt,Abu Bp6,show Ae (0:Int) 1=1 by decide,
  Db,Ef,l2,Adi F2,g1,Aa,Ag Bpt Bpt,Abu Bpw,show Ae (1:Int) 1=2 by decide,
  Db,Ef,l2,Abu F2,Gy,Ke,Abu Bpw,Po,Kf]
 have z:Aq (0:Int) 0=0:=F2
 have n0:(0:Int)+Ac l+Ac m=((l.length+m.length:Nat):Int):=by simp[Ac]
 rw[z,n0,Bv,Int.sub_zero];by_cases hp:0<l.length+m.length
 ·rw[Adi Bpn,show jT (0:Int) 0 0=some ()from rfl,Aa,pM,Aa,Bf F7,Aa];rw[show jT (Ac ([]++List.replicate ((l.length+m.length:Nat):Int).toNat (0:UInt8))) 0 0=some () by rw[jT,Bk];simp[Ac];omega,Aa];simp only[dB,Int.sub_self,Int.toNat_zero,Bj8];exact h3
 ·rw[Abu Bpn];exact h3
theorem Ank(bits:Int)(ch:Nat)(h1:1<=ch)(h6:ch<=6)(V:LU)(hV:V.length<=4000):∀(j i q:Nat),i+j=V.length->j<q->
  Jl V (ch:Int) bits q (i:Int) (sts ch (V.take i)) ((To ch V i).length:Int) (Na (To ch V i))=some (Na (To ch V V.length)++Fg (Eu (Na (To ch V V.length))).toNat 4,0)
 |j,i,0,_,h=>absurd h (Bix _)
 |0,i,q+1,hi,_=>by
  obtain rfl:i=V.length:=F0
  have hel:=jB ch V V.length;have hpl:=Xw (To ch V V.length);have hlt:=(Eu (Na (To ch V V.length))).toNat_lt;rw[Jl,Ww,Abu Bp6,GB,bM,T2 _ F0,Aa];simp only;have e64:(UInt64.ofNat (Eu (Na (To ch V V.length))).toNat).toNat=(Eu (Na (To ch V V.length))).toNat:=eE F0;rw[Abu F2,Ed,show(4:Int)=((4:Nat):Int)from rfl,MB _ 4 F0 F0 (by rw[e64];omega),Aa];simp only;rw[Abu F2,e64,Bm4 _ _ Bql,Aa]
 |j+1,i,q+1,hi,hq=>by
  have hc:i %ch<6:=Aw0 (Bl6 _ F0) h6;have hvl:(V.take i).length=i:=by rw[Anb];omega
  have hel:=jB ch V i;have hk:=Ag6 ch (V.take i);have hcl:=iV (V.getD i 0) hk.1 hk.2;have ih:=Ank bits ch h1 h6 V hV j (i+1) q F0 F0;have hvi:V.getD i 0=V[i]' F0:=by rw[List.getD_eq_getElem?_getD,List.getElem?_eq_getElem F0];rfl
  have htk:V.take i++[V.getD i 0]=V.take (i+1):=by rw[hvi,Jq F0]
  have hst:=Ah2 (ch:=ch) (v:=V.take i) hc;have hset:=As7 (ch:=ch) (v:=V.take i) (V.getD i 0) hc (by rw[hvl]);have Bn9:qI ch (V.take i) (i %ch) (V.take i).length=now ch (V.take i):=Bfz (by rw[hvl]);rw[Bn9]at hst hset;rw[htk]at hset;have hdp:=Bbe (k:=(now ch (V.take i)).1) (l:=(now ch (V.take i)).2.1) (s:=(now ch (V.take i)).2.2.1) (t:=(now ch (V.take i)).2.2.2) (sX ch (V.take i) _ _) (V.getD i 0);have hpc:=Anu (To ch V i) (Tz (now ch (V.take i)).1 (now ch (V.take i)).2.1 (V.getD i 0)) F0 (Jl V (ch:Int) bits q) V (ch:Int) bits (i:Int) (sts ch (V.take (i+1))) (Tz (now ch (V.take i)).1 (now ch (V.take i)).2.1 (V.getD i 0)).length 0 Au F0 F8;rw[show(To ch V i).length+0=(To ch V i).length from rfl,Ala _ Bpx,List.take_left,show((0:Nat):Int)=0 from rfl]at hpc;rw[Jl,Ww,Adi F3,N1 F0,Aa,Aa,Bk Bpl,Aa,DF,hst,Aa,Aa];refine Bma (congrArg (λo=>Option.bind o _) hdp) ?_;rw[Aa];simp only;rw[Abu F2,Aa,Aa];refine Bma (congrArg (λo=>Option.bind o _) hset) ?_;rw[Aa];refine Bma hpc ?_;rw[Ag];rw[To,Afz]at ih;exact ih
theorem nQ{bits:Int}{ch:Nat}{t x:LX}(hb:Bd bits)(ht:t.length=16)(h1:1<=ch)(h6:ch<=6)(hx1:1<=x.length)(hx4:x.length<=4000)(hm:x.length %ch=0)(hr:uh bits x):
  Nt (ch:Int) bits t x=some (Pz bits ch t x,0):=by
 have hV:=Aai bits ch t x;have h:=Ank bits ch h1 h6 (Nf bits ch t x) F0 (Nf bits ch t x).length 0 Au F0 F8;have e0:Na (To ch (Nf bits ch t x) 0)=[]:=by simp[To,Na]
 have e1:((To ch (Nf bits ch t x) 0).length:Int)=0:=rfl;rw[e0,e1,Bj8,hV,show((0:Nat):Int)=0 from rfl]at h;rw[Nt,JJ,Apy hb ht h1 h6 hx1 hx4 hm hr,Aa];simp only;rw[Abu F2,Apr ch,Aa,Pz,XT,ZD];exact h
theorem Bqf{p:Prop}(h:p:=by rw[Ar,Bcg];omega):p:=h
theorem Bqe{p:Prop}(h:p:=by simp[Ah]):p:=h
end Go.Pl
namespace Go.Pl
open Go Go.Lv
variable{bits:Int}{x:LX}{c w r n:Nat}
structure ClipOk (c w r n:Nat) (x:LX):Prop where
 ch:1<=c/\c<=6
 bits:Bd (w:Int)
 rate:1<=r/\r<=1048576
 cnt:1<=n/\n<=4000/c
 len:x.length=n*c
 fr:(n-1)/Ak r+1<=1000
 rng:uh (w:Int) x
theorem ClipOk.le(h:ClipOk c w r n x):n<=4000/\n*c<=4000/\1<=x.length/\x.length<=4000:=by
 have h1:=Ajr c h.cnt.2;have h2:=Bjv 4000 c;have h3:=Ayq 4000 c;have h4:=Boi h.cnt.1 h.ch.1;have h5:=h.len;have:=h.cnt;omega
theorem ClipOk.w3(h:ClipOk c w r n x):w=8\/w=16\/w=24:=by
 have:=h.bits;unfold Bd at this;omega
theorem ClipOk.shape(h:ClipOk c w r n x)(f:Nat)(hf:f=1\/f=2):Fs f c w r n=true:=by
 have:=h.w3;have:=h.ch;have:=h.rate;have:=h.cnt;simp only[Fs,Ahz];omega
theorem ClipOk.fit(h:ClipOk c w r n x):Xn c r n=true:=by
 have:=h.cnt;have:=h.fr;simp only[Xn,Ahz];omega
theorem Bkz(h:Bd bits){l:LX}(hl:l.length<=4000):Ay bits l=some 0\/Ay bits l=some 16:=by
 have hh:=JL bits;have key:∀(j i q:Nat),i+j=l.length->j<q->Ba l (hB bits) q (i:Int)=some 0\/Ba l (hB bits) q (i:Int)=some 16:=by
  intro j
  induction j with
  |zero=>
   intro i q hi hq;obtain⟨q,rfl⟩:∃q',q=q'+1:=⟨q-1,F0⟩;rw[Ba,Cy,Abu F3];exact .inl rfl
  |succ j ih=>
   intro i q hi hq;obtain⟨q,rfl⟩:∃q',q=q'+1:=⟨q-1,F0⟩;have ih:=ih (i+1) q F0 F0;have hi1:Ae (i:Int) 1=((i+1:Nat):Int):=by rw[Ag];omega
   rw[Ba,Cy,Adi F3,Bn,Aa,Aa,hi1];split
   ·exact .inr rfl
   ·split
    ·exact .inr rfl
    ·exact ih
 have hk:=key l.length 0 Au F0 F8;rw[Ay,Dw,WI h,Aa,Abu Bpm,Abu F9];exact hk
theorem I6(h:¬Bd bits):Lg bits=some 0/\Te bits=some (0,0,2):=by
 unfold Bd at h;constructor
 ·rw[Lg,Abu Bqf,Abu Bqf,Abu Bqf]
 ·have e:(geq bits 24)=false:=by rw[Ar,beq_eq_false_iff_ne];omega
  rw[Te,tB,Abu Bqf,Abu Bqf,e,uM,rQ,Abu F2]
theorem Q7{r:Nat}(h:r<=1048576):∀(j n q:Nat) (acc:LI),n<=4000->n<=j->j<q->acc.length+n<=10000->
  Ei (Ak r:Int) q (n:Int) acc=some (if 1000<(acc++(if n=0 then []else Al (Ak r) n)).length then([],4)else(acc++(if n=0 then []else Al (Ak r) n),0))
 |j,n,0,acc,_,_,h,_=>absurd h (Bix _)
 |j,n,q+1,acc,hn,hj,hq,ha=>by
  have hp:=Eh r;by_cases h0:n=0
  ·subst h0;rw[Adi rfl,Ap3,Ei,Io,Abu Bpz,Pb,Ul,Ap,Ac];by_cases hk:1000<acc.length
   ·rw[Adi hk,Adi F7]
   ·rw[Abu hk,Abu F7]
  ·obtain⟨j,rfl⟩:∃j',j=j'+1:=⟨j-1,F0⟩;rw[Ei,Io,Adi Bpn,Bf F7,Aa,IY];by_cases hs:n<=Ak r
   ·rw[show min (n:Int) (Ak r:Int)=(n:Int) by omega,Bv,Int.sub_self];have ih:=Q7 h j 0 q (acc++[(n:Int)]) F0 F0 F0 F7;rw[Adi rfl,Ap3]at ih;rw[Abu h0,RO hs F0];exact ih
   ·rw[show min (n:Int) (Ak r:Int)=(Ak r:Int) by omega,Bv,show(n:Int)-(Ak r:Int)=((n-Ak r:Nat):Int) by omega];have e:acc++Al (Ak r) n=(acc++[(Ak r:Int)])++Al (Ak r) (n-Ak r):=by rw[uY hp (show Ak r<n by omega)];simp
    have ih:=Q7 h j (n-Ak r) q (acc++[(Ak r:Int)]) F0 F0 F0 F7;rw[Abu (show ¬n-Ak r=0 by omega),<-e]at ih;rw[Abu h0];exact ih
theorem Apn(C W R:Int)(x:LX)(hlen:x.length<4611686018427387904):(Da C W R x=some 8/\Cl C W R x=some 8)\/
  (∃c w r n:Nat,C=(c:Int)/\W=(w:Int)/\R=(r:Int)/\ClipOk c w r n x/\Da C W R x=some 0/\Cl C W R x=some 0):=by
 have Aek:∀e:Int,e≠0->Ce C W x=some e->Da C W R x=some 8:=by
  intro e he h;rw[Da,Ft,Aa];simp only;rw[h,Aa,Adi (by rw[Ah];simpa using he)]
 by_cases hC:C<1
 ·refine .inl ⟨Aek 2 F2 ?_,?_⟩
  ·rw[Ce,Dd,Adi Bpo,Aa,Adi F2]
  ·rw[Cl,Adi (by rw[Af];simpa using hC)]
 obtain⟨c,rfl⟩:=Anz (show 0<=C by omega);have hc1:1<=c:=F0
 have hq:Bq (Ac x) (c:Int)=((x.length/c:Nat):Int):=by rw[Ac,GM]
 have hr0:Ha (Ac x) (c:Int)=((x.length %c:Nat):Int):=by rw[Ac,DF]
 have Azy:(∀m:Nat,x.length=m*c->OW (c:Int) W R x (m:Int)=some 8)->Cl (c:Int) W R x=some 8:=by
  intro h;rw[Cl,Abu (by rw[Af];simpa using hC),Bk Bpl,Aa,hr0];by_cases hm:x.length %c=0
  ·have hx:x.length=x.length/c*c:=by have:=Bm9 x.length c;rw[hm,Aw7]at this;omega
   rw[hm,Abu F2,Aa,hq,h _ hx,Aa,Adi F2]
  ·rw[Adi Bpl]
 by_cases h6:6<c
 ·refine .inl ⟨Aek 2 F2 ?_,Azy λm hm=>?_⟩
  ·rw[Ce,Dd,Adi Bpo,Aa,Adi F2]
  ·rw[OW,PD,Aa];simp only;have:Gf (c:Int) W=some 2:=by
    rw[Gf];by_cases hb:Bd W
    ·rw[Aau hb,Aa];simp only;rw[Adi Bqc]
    ·rw[(I6 hb).2,Aa];simp only;rw[Adi Bqe]
   rw[this,Aa,Adi Bqe]
 by_cases hb:Bd W
 rotate_left
 ·refine .inl ⟨Aek 2 F2 ?_,Azy λm hm=>?_⟩
  ·rw[Ce,Dd,Abu Bpo,(I6 hb).1,Aa,Adi F2,Aa,Adi F2]
  ·rw[OW,PD,Aa];simp only;have:Gf (c:Int) W=some 2:=by
    rw[Gf,(I6 hb).2,Aa];simp only;rw[Adi Bqe]
   rw[this,Aa,Adi Bqe]
 have hhB:=JL W;have e20:Dd (c:Int) W=some 0:=by
  rw[Dd,Abu Bpo,WI hb,Aa,Abu Bpm]
 have hq4:=D9 hc1 (show c<=6 by omega);have ecf:=Apk hb hc1 (show c<=6 by omega);have Att:∀m:Nat,OW (c:Int) W R x (m:Int)=if m<1\/4000/c<m then some 8 else Option.bind (Ki R (m:Int)) λy=>if(Bg y.2 0)=true then some 8 else some 0:=by
  intro m;rw[OW,PD,Aa];simp only;rw[ecf,Aa];by_cases hm:m<1
  ·rw[Adi Bp4,Adi (.inl hm)]
  ·rw[Abu Bp4,Bk Bpl,Aa,hq4];by_cases hm2:4000/c<m
   ·rw[Adi (by rw[Ap,Ahz,gt_iff_lt,Int.ofNat_lt];exact hm2),Adi (.inr hm2)]
   ·rw[Abu (by rw[Ap,Ahz,gt_iff_lt,Int.ofNat_lt];exact hm2),Abu F0]
 by_cases hx4:4000<x.length
 ·refine .inl ⟨Aek 4 F2 ?_,Azy λm hm=>?_⟩
  ·have:Ay W x=some 4:=by
    rw[Ay,Dw,WI hb,Aa,Abu Bpm,Adi F9]
   rw[Ce,e20,Aa,Abu F2,this,Aa,Adi F2,Aa]
  ·rw[Att,Adi];refine .inr ?_;rw[Nat.div_lt_iff_lt_mul F0];omega
 have hx4:x.length<=4000:=F0
 have hsame:=bL hb x hx4;rcases Bkz hb hx4 with h18|h18
 rotate_left
 ·refine .inl ⟨Aek 16 F2 ?_,?_⟩
  ·rw[Ce,e20,Aa,Abu F2,h18,Aa,Adi F2,Aa]
  ·rw[Cl,Abu (by rw[Af];simpa using hC),Bk Bpl,Aa,hr0];by_cases hm:x.length %c=0
   ·rw[hm,Abu F2,Aa,hq,Att];split
    ·rw[Aa,Adi F2]
    ·rename_i hh;by_cases hR:1<=R/\R<=1048576
     ·obtain⟨r,rfl⟩:=Anz (show 0<=R by omega);have hd:=Ayq x.length c;rw[mP F0 F0 F0 F0,Aa];split
      ·rw[Adi F2,Aa,Adi F2]
      ·rw[Abu Bqe,Aa,Abu F2,hsame,h18,Aa,Adi F2]
     ·rw[Ki,Ph,Adi Bpo,Aa];simp only;rw[Adi F2,Aa];simp only;rw[Adi F2,Aa,Adi F2]
   ·rw[Adi Bpl]
 by_cases hx1:x.length<1
 ·refine .inl ⟨Aek 2 F2 ?_,Azy λm hm=>?_⟩
  ·rw[Ce,e20,Aa,Abu F2,h18,Aa,Abu F2,Adi F3]
  ·have h0:m*c=0:=F0
   have:m=0:=by rcases Nat.mul_eq_zero.1 h0 with h|h<;>omega
   rw[Att,Adi (.inl F0)]
 have hA:x.length %c=0->Ce (c:Int) W x=some 0:=by
  intro hm;rw[Ce,e20,Aa,Abu F2,h18,Aa,Abu F2,Abu F3,Bk Bpl,Aa,hr0,hm,Abu F2]
 by_cases hm:x.length %c=0
 rotate_left
 ·refine .inl ⟨Aek 2 F2 ?_,?_⟩
  ·rw[Ce,e20,Aa,Abu F2,h18,Aa,Abu F2,Abu F3,Bk Bpl,Aa,hr0,Adi Bpn]
  ·rw[Cl,Abu (by rw[Af];simpa using hC),Bk Bpl,Aa,hr0,Adi Bpl]
 have hxn:x.length=x.length/c*c:=by have:=Bm9 x.length c;rw[hm,Aw7]at this;omega
 generalize hN:x.length/c=n at*
 have hn1:1<=n:=by
  by_cases h0:n=0
  ·rw[h0]at hxn;omega
  ·omega
 have hn4:n<=4000/c:=by rw[<-hN];exact Nat.div_le_div_right hx4
 have hn4':n<=4000:=Boy hn4 (Ayq _ _);have e21:Dm (c:Int) W (n:Int)=some 0:=by
  rw[Dm,e20,Aa,Abu Bp4,Bk Bpl,Aa,hq4,Abu (by rw[Ap,Ahz,gt_iff_lt,Int.ofNat_lt];omega)]
 have Bce:∀z e:Int,Hj R (n:Int)=some (z,e)->Da (c:Int) W R x=some (if e=0 then 0 else 8):=by
  intro z e hz;rw[Da,Ft,Aa];simp only;rw[hA hm,Aa,Abu F2,Bk Bpl,Aa,hq,Zr,Ft,Aa];simp only;rw[e21,Aa,Abu F2,hz,Aa,Aa,Ar];by_cases he:e=0
  ·subst he;rfl
  ·rw[Abu he,Adi (by simpa using he)]
 have Ag4:Cl (c:Int) W R x=Option.bind (Option.bind (Ki R (n:Int)) λy=>if(Bg y.2 0)=true then some 8 else some 0) λg=>if(Bg g 0)=true then some g else some 0:=by
  rw[Cl,Abu (by rw[Af];simpa using hC),Bk Bpl,Aa,hr0,hm,Abu F2,Aa,hq,Att,Abu F0,hsame,h18];rfl
 by_cases hR:1<=R/\R<=1048576
 rotate_left
 ·refine .inl ⟨?_,?_⟩
  ·refine Bce 0 2 ?_;rw[Hj,Vz,Pe,Sp,Adi Bpo,Aa];simp only;rw[Adi Bqe,Aa];rfl
  ·rw[Ag4,Ki,Ph,Adi Bpo,Aa];simp only;rw[Adi F2,Aa];simp only;rw[Adi F2,Aa,Adi F2]
 obtain⟨r,rfl⟩:=Anz (show 0<=R by omega);have hl:=Q7 (r:=r) F0 n n Au [] hn4' (An6 _) F8 F7;rw[Abu (show ¬n=0 by omega),Awv,We]at hl;have hcount:∃z:Int,Hj (r:Int) (n:Int)=some (z,if 1000<(n-1)/Ak r+1 then 4 else 0):=by
  rw[Hj,Vz,Pe,Axi F0 F0,Aa];simp only;rw[Abu Bqc,DS,hl,Aa];split<;>exact⟨_,rfl⟩
 obtain⟨z,hz⟩:=hcount;have h24:=Bce z _ hz;rw[mP F0 F0 hn1 hn4',Aa]at Ag4;by_cases hk:1000<(n-1)/Ak r+1
 ·rw[Adi hk]at h24 Ag4;exact .inl ⟨h24,Ag4⟩
 ·rw[Abu hk]at h24 Ag4;have hw:∃w:Nat,W=(w:Int):=by
   rcases hb with rfl|rfl|rfl
   ·exact⟨8,rfl⟩
   ·exact⟨16,rfl⟩
   ·exact⟨24,rfl⟩
  obtain⟨w,rfl⟩:=hw;exact .inr ⟨c,w,r,n,rfl,rfl,rfl,⟨⟨hc1,F0⟩,hb,F0,⟨hn1,hn4⟩,hxn,F0,lE hb hx4 h18⟩,h24,Ag4⟩
theorem At3(C W R:Int)(h:4000<x.length):Da C W R x=some 8:=by
 have key:∃e:Int,e≠0/\Ce C W x=some e:=by
  rw[Ce,Dd];by_cases h1:((Cj C 1)||(Dx C 6))=true
  ·rw[Adi h1,Aa,Adi F2];exact⟨2,F2,rfl⟩
  ·rw[Abu h1];by_cases hb:Bd W
   ·have hh:=JL W;have h18:Ay W x=some 4:=by
     rw[Ay,Dw,WI hb,Aa,Abu Bpm,Adi F9]
    rw[WI hb,Aa,Abu Bpm,Aa,Abu F2,h18,Aa,Adi F2,Aa];exact⟨4,F2,rfl⟩
   ·rw[(I6 hb).1,Aa,Adi F2,Aa,Adi F2];exact⟨2,F2,rfl⟩
 obtain⟨e,he,h1⟩:=key;rw[Da,Ft,Aa];simp only;rw[h1,Aa,Adi (by rw[Ah];simpa using he)]
theorem sQ(C W R:Int)(x:LX):(Da C W R x=some 8/\ (x.length<4611686018427387904->Cl C W R x=some 8))\/
  (∃c w r n:Nat,C=(c:Int)/\W=(w:Int)/\R=(r:Int)/\ClipOk c w r n x/\Da C W R x=some 0/\Cl C W R x=some 0):=by
 by_cases hx:x.length<4611686018427387904
 ·rcases Apn C W R x hx with⟨h1,h2⟩|h
  ·exact .inl ⟨h1,λ_=>h2⟩
  ·exact .inr h
 ·exact .inl ⟨At3 C W R F0,λh=>absurd h hx⟩
theorem Bqr{p:Prop}(h:p:=by simp[Az,Pu]):p:=h
end Go.Pl
namespace Go.Pl
open Go Go.Lv
def Y4(f c w r n:Nat):LB:=Pu++Fg f 2++Fg c 2++Fg w 2++Fg r 4++Fg n 4
def LR(f c w r n:Nat):LB:=Y4 f c w r n++Fg (Eu (Y4 f c w r n)).toNat 4
theorem jX(f c w r n:Nat):(Y4 f c w r n).length=18:=by simp only[Y4,Pu,Afz,Az];rfl
theorem cS(f c w r n:Nat):(LR f c w r n).length=22:=by rw[LR,Afz,jX,Az]
theorem Adj(b f g h k:Int)(m v w q:Nat)(a:LB)(hm:m<5)(hv:Am ([b,f,g,h,k]:LI) (m:Int)=some (v:Int))(hw:Am ([2,2,2,4,4]:LI) (m:Int)=some (w:Int))(h1:1<=w)(h8:w<=8)(hlt:v<256^w)(h64:v<18446744073709551616)(ha:a.length<=100):
  Oh b f g h k (q+1) (m:Int) a=Oh b f g h k q ((m+1:Nat):Int) (a++Fg v w):=by
 have e64:(UInt64.ofNat v).toNat=v:=eE F0;have hi1:Ae (m:Int) 1=((m+1:Nat):Int):=by rw[Ag];omega
 rw[Oh,FM,Adi Bpi,hv,Aa,hw,Aa,Mx,MB _ w h1 h8 (by rw[e64];exact hlt),Aa];simp only;rw[Bf Bql,Aa,hi1,e64]
theorem M8{f c w r n:Nat}(h1:Fs f c w r n=true)(h2:Xn c r n=true):LD (f:Int) (c:Int) (w:Int) (r:Int) (n:Int)=some (LR f c w r n,0):=by
 have hs:(f=1\/f=2)/\ (1<=c/\c<=6)/\ (w=8\/w=16\/w=24)/\ (1<=r/\r<=1048576)/\1<=n:=by simpa only[Fs,Ahz]using h1
 have hn:n<=4000:=by
  simp only[Xn,Ahz]at h2;have:=Ayq 4000 c;omega
 have hck:Pg (f:Int) (c:Int) (w:Int) (r:Int) (n:Int)=some 0:=by
  rw[Pg,dP,Aa,h1,Abu F2,vS h1,Aa,h2,Abu F2]
 have hF:Au=(Au-6)+1+1+1+1+1+1:=by have:=As;omega
 have hlt:=(Eu (Y4 f c w r n)).toNat_lt;have e64:(UInt64.ofNat (Eu (Y4 f c w r n)).toNat).toNat=(Eu (Y4 f c w r n)).toNat:=eE F0;have hfin:FO (Y4 f c w r n)=some (LR f c w r n,0):=by
  rw[FO,oW,T2 _ (by rw[jX];omega),Aa];simp only;rw[Ed,show(4:Int)=((4:Nat):Int)from rfl,MB _ 4 F0 F0 (by rw[e64];omega),Aa];simp only;rw[Bf (by rw[jX,Az];omega),Aa,e64];rfl
 rw[LD,VT,hck,Aa,Abu F2,pH,hF];have s0:=Adj (f:Int) (c:Int) (w:Int) (r:Int) (n:Int) 0 f 2 ((Au-6)+1+1+1+1+1) Pu F0 rfl rfl F0 F0 F0 F0 F2;have s1:=Adj (f:Int) (c:Int) (w:Int) (r:Int) (n:Int) 1 c 2 ((Au-6)+1+1+1+1) (Pu++Fg f 2) F0 rfl rfl F0 F0 F0 F0 Bqr;have s2:=Adj (f:Int) (c:Int) (w:Int) (r:Int) (n:Int) 2 w 2 ((Au-6)+1+1+1) (Pu++Fg f 2++Fg c 2) F0 rfl rfl F0 F0 F0 F0 Bqr;have s3:=Adj (f:Int) (c:Int) (w:Int) (r:Int) (n:Int) 3 r 4 ((Au-6)+1+1) (Pu++Fg f 2++Fg c 2++Fg w 2) F0 rfl rfl F0 F0 F0 F0 Bqr;have s4:=Adj (f:Int) (c:Int) (w:Int) (r:Int) (n:Int) 4 n 4 ((Au-6)+1) (Pu++Fg f 2++Fg c 2++Fg w 2++Fg r 4) F0 rfl rfl F0 F0 F0 F0 Bqr;refine s0.trans (s1.trans (s2.trans (s3.trans (s4.trans ?_))));rw[Oh,FM,Abu F2];exact hfin
def cX(l:LI):LB:=l.flatMap λx=>Fg x.toNat 4
def qJ(l:LI):LB:=cX l++Fg (Eu (cX l)).toNat 4
theorem RW(l:LI):(cX l).length=4*l.length:=by
 induction l with
 |nil=>rfl
 |cons x l ih=>rw[cX,List.flatMap_cons,Afz,Az,show(l.flatMap λx=>Fg x.toNat 4)=cX l from rfl,ih,Ary];omega
theorem tT(l:LI):(qJ l).length=4*l.length+4:=by rw[qJ,Afz,RW,Az]
theorem Aup(l:LI)(x:Int):cX (l++[x])=cX l++Fg x.toNat 4:=by simp[cX]
theorem kr(l:LI)(hl:l.length<=1000)(h5:∀x∈l,5<=x/\x<=100000):∀(j i q:Nat),i+j=l.length->j<q->Up l q (i:Int) (cX (l.take i))=some (qJ l,0)
 |j,i,0,_,h=>absurd h (Bix _)
 |0,i,q+1,hi,_=>by
  have hlt:=(Eu (cX l)).toNat_lt;have e64:(UInt64.ofNat (Eu (cX l)).toNat).toNat=(Eu (cX l)).toNat:=eE F0;rw[Up,MT,Abu F3,Awy F0,UT,oX,T2 _ (by rw[RW];omega),Aa];simp only;rw[Ed,show(4:Int)=((4:Nat):Int)from rfl,MB _ 4 F0 F0 (by rw[e64];omega),Aa];simp only;rw[Bf (by rw[RW,Az];omega),Aa,e64];rfl
 |j+1,i,q+1,hi,hq=>by
  have ih:=kr l hl h5 j (i+1) q F0 F0;obtain⟨x5,x6⟩:=h5 l[i] (Avu _);obtain⟨v,hv⟩:=Anz (show 0<=l[i] by omega);have e64:(UInt64.ofNat v).toNat=v:=eE F0;have hi1:Ae (i:Int) 1=((i+1:Nat):Int):=by rw[Ag];omega
  rw[Up,MT,Adi F3,Bn,Aa,hv,Mx,show(4:Int)=((4:Nat):Int)from rfl,MB _ 4 F0 F0 (by rw[e64];omega),Aa];simp only;rw[Bf (by rw[RW,Az,Anb];omega),Aa,VC,pO,hi1,e64];rw[Jq F0,Aup,hv,Ajx]at ih;exact ih
theorem nk(l:LI):IC l=some (if Vy l=true then(qJ l,0)else([],8)):=by
 rw[IC,ZW,YX,Aa];by_cases h:Vy l=true
 ·rw[Adi h,Adi h,Abu F2];simp only[Vy,Ajo,Ahz]at h;obtain⟨⟨h1,h2⟩,h3⟩:=h;have h4:=(FI l 100000 F0).1 h3;have h6:=P5 h4.1;have hl:=kr l h2 (λx hx=>⟨h4.1 x hx,by have:=h6 x hx;omega⟩) l.length 0 Au F0 F8;exact hl
 ·rw[Abu h,Abu h,Adi F2]
theorem Agw(l:List LB)(hl:l.length<=100000)(hf:l.flatten.length<=1000000):∀(j i q:Nat),i+j=l.length->j<q->Wa l q (i:Int) (l.take i).flatten=some l.flatten
 |j,i,0,_,h=>absurd h (Bix _)
 |0,i,q+1,hi,_=>by
  rw[Wa,LN,Abu F3,Awy F0];rfl
 |j+1,i,q+1,hi,hq=>by
  have ih:=Agw l hl hf j (i+1) q F0 F0;have hi1:Ae (i:Int) 1=((i+1:Nat):Int):=by rw[Ag];omega
  have hsn:(l.take (i+1)).flatten=(l.take i).flatten++l[i]:=by rw[Jq F0,Bmp];simp
  have hsp:l.flatten=(l.take (i+1)).flatten++(l.drop (i+1)).flatten:=by rw[<-Bmp,Bj4]
  have hle:((l.take i).flatten).length+(l[i]).length<=1000000:=by
   rw[hsp,Afz,hsn,Afz]at hf;omega
  rw[Wa,LN,Adi F3,Bn,Aa,Bf,Aa,hi1,<-hsn];exact ih
theorem join_eq(l:List LB)(hl:l.length<=100000)(hf:l.flatten.length<=1000000):uP l=some l.flatten:=by
 have h:=Agw l hl hf l.length 0 Au F0 F8;exact h
def Hz(c:Nat):LX->LI->List LX
 |_,[]=>[]
 |x,m::l=>x.take (m.toNat*c)::Hz c (x.drop (m.toNat*c)) l
theorem cP(c:Nat):∀(l:LI) (x:LX),(Hz c x l).length=l.length
 |[],x=>rfl
 |m::l,x=>by rw[Hz,Ary,Ary,cP c l]
theorem jl(c:Nat):∀(l:LI) (x:LX),(∀m∈l,0<=m)->x.length=l.sum.toNat*c-> (Hz c x l).flatten=x
 |[],x,_,h=>by
  have:x=[]:=Aw6 (by simpa using h);rw[this];rfl
 |m::l,x,h0,h=>by
  have hm:=h0 m Bdj;have hl:0<=l.sum:=by
   have:∀l:LI,(∀m∈l,0<=m)->0<=l.sum:=by
    intro l
    induction l with
    |nil=>intro _;simp
    |cons a l ih=>intro h;have:=ih (λm hm=>h m (Avl _ hm));have:=h a Bdj;rw[Bha];omega
   exact this l λm hm=>h0 m (Avl _ hm)
  rw[Bha,show(m+l.sum).toNat=m.toNat+l.sum.toNat by omega,An5]at h;have ih:=jl c l (x.drop (m.toNat*c)) (λm hm=>h0 m (Avl _ hm)) Bpy;rw[Hz,Bm5,ih,Bj4]
theorem yF(c:Nat)(x:LX)(hx:x.length<=4000):∀(l:LI) (a:Nat),(∀m∈l,1<=m)->a+l.sum.toNat*c=x.length->Tw (c:Int) x l (a:Int)=some (Hz c (x.drop a) l)
 |[],a,_,_=>rfl
 |m::l,a,h1,ha=>by
  have hm:=h1 m Bdj;have hl:=h1;have hs:0<=l.sum:=by
   have:∀l:LI,(∀m∈l,1<=m)->0<=l.sum:=by
    intro l
    induction l with
    |nil=>intro _;simp
    |cons a l ih=>intro h;have:=ih (λm hm=>h m (Avl _ hm));have:=h a Bdj;rw[Bha];omega
   exact this l λm hm=>h1 m (Avl _ hm)
  obtain⟨k,rfl⟩:=Anz (show 0<=m by omega);rw[Bha,show((k:Int)+l.sum).toNat=k+l.sum.toNat by omega,An5]at ha;have hkc:Bi (k:Int) (c:Int)=((k*c:Nat):Int):=by rw[Fa Bps Bps,<-Aw3]
  have hadd:Ae (a:Int) ((k*c:Nat):Int)=((a+k*c:Nat):Int):=by rw[Ag];omega
  have ih:=yF c x hx l (a+k*c) (λm hm=>h1 m (Avl _ hm)) F0;rw[Tw,hkc,hadd,Qn,Aa,ih,Aa,Hz,Ajx,Ajx,Ajx,Bk5,Boq,Bj7]
theorem Asm(w c:Nat)(hb:Bd (w:Int))(h1:1<=c)(h6:c<=6)(t:LX)(ht:t.length=16):∀(xs:List LX) (o:List LB),o.length+xs.length<=10000-> (∀y∈xs,1<=y.length/\y.length<=4000/\y.length %c=0/\uh (w:Int) y)->
  Ts (c:Int) (w:Int) t xs o=some (o++xs.map (Pz (w:Int) c t),0)
 |[],o,_,_=>by rw[Ts];simp
 |x::xs,o,ho,h=>by
  obtain⟨a1,a2,a3,a4⟩:=h x Bdj;rw[Ary]at ho;have ih:=Asm w c hb h1 h6 t ht xs (o++[Pz (w:Int) c t x]) F7 (λy hy=>h y (Avl _ hy));rw[Ts,nQ hb ht h1 h6 a1 a2 a3 a4,Aa,Abu Bqe,Bf F7,Aa,ih,Bmd];simp
theorem lQ(c:Nat)(h1:1<=c):∀(l:LI) (x:LX),(∀m∈l,1<=m)->x.length=l.sum.toNat*c->∀y∈Hz c x l,1<=y.length/\y.length<=x.length/\y.length %c=0/\∀v∈y,v∈x
 |[],x,_,_=>λy hy=>by simp[Hz]at hy
 |m::l,x,hm,hx=>by
  have hm1:=hm m Bdj;have hl:0<=l.sum:=by
   have:∀l:LI,(∀m∈l,1<=m)->0<=l.sum:=by
    intro l
    induction l with
    |nil=>intro _;simp
    |cons a l ih=>intro h;have:=ih (λm hm=>h m (Avl _ hm));have:=h a Bdj;rw[Bha];omega
   exact this l λm hm'=>hm m (Avl _ hm')
  rw[Bha,show(m+l.sum).toNat=m.toNat+l.sum.toNat by omega,An5]at hx;have hpos:1<=m.toNat*c:=Boi F0 h1;intro y hy;rw[Hz,List.mem_cons]at hy;rcases hy with rfl|hy
  ·have hlen:(x.take (m.toNat*c)).length=m.toNat*c:=by rw[Anb];omega
   rw[hlen];exact⟨hpos,F0,Bj2 _ _,λv hv=>Bos hv⟩
  ·obtain⟨a1,a2,a3,a4⟩:=lQ c h1 l (x.drop (m.toNat*c)) (λm hm'=>hm m (Avl _ hm')) Bpy y hy;rw[Anx]at a2;exact⟨a1,F0,a3,λv hv=>Bms (a4 v hv)⟩
theorem zo(bits:Int)(ch:Nat)(t x:LX)(h0:1<=x.length)(h4:x.length<=4000):5<= (Pz bits ch t x).length/\ (Pz bits ch t x).length<=15*x.length:=by
 have h5:=I5 bits ch t x h0 h4;have h:=jB ch (Nf bits ch t x) x.length;refine⟨h5.1,?_⟩;rw[Pz,Afz,Az,XT,Xw];omega
def Dg(fs:List LB):LI:=fs.map λf=>(f.length:Int)
theorem Oi(fs:List LB):(Dg fs).length=fs.length:=by rw[Dg,List.length_map]
theorem PL:∀fs:List LB,(Dg fs).sum=(fs.flatten.length:Int)
 |[]=>rfl
 |f::fs=>by rw[Dg,Bmd,Bha,Bm5,Afz,show(fs.map λf=>(f.length:Int))=Dg fs from rfl,PL fs];omega
theorem Axa(bits:Int)(ch:Nat)(t:LX):∀ys:List LX,(∀y∈ys,1<=y.length/\y.length<=4000)-> ((ys.map (Pz bits ch t)).flatten).length<=15*ys.flatten.length
 |[],_=>by simp
 |y::ys,h=>by
  have ih:=Axa bits ch t ys λy hy=>h y (Avl _ hy);obtain⟨h1,h4⟩:=h y Bdj;have:=(zo bits ch t y h1 h4).2;rw[Bmd,Bm5,Bm5,Afz,Afz];omega
def Mc(p:LB):Nat:=if p=[]then 1 else 2
def cY(p:LB):LB:=if p=[]then []else Fg (Uo p).toNat 8
theorem Ac4(p:LB):Mc p=1\/Mc p=2:=by unfold Mc;split<;>simp
theorem uZ(p:LB):(cY p).length=if Mc p=2 then 8 else 0:=by
 unfold cY Mc;by_cases h:p=[]
 ·rw[Adi h,Adi h];rfl
 ·rw[Abu h,Abu h,Az];rfl
def dC(c r n:Nat)(x:LX):List LX:=Hz c x (Al (Ak r) n)
def PF(c w r n:Nat)(x:LX)(p:LB):List LB:=(dC c r n x).map (Pz (w:Int) c (Mn p))
def Tx(c w r n:Nat)(x:LX)(p:LB):LB:=LR (Mc p) c w r n++(cY p++(qJ (Dg (PF c w r n x p))++(PF c w r n x p).flatten))
theorem IB{g n:Nat}(hg:1<=g)(h1:1<=n):∀m∈Al g n,1<=m:=by
 intro m hm;rw[Al,List.mem_append,List.mem_replicate,List.mem_singleton]at hm;have h:=Bjv (n-1) g;rcases hm with⟨_,rfl⟩|rfl
 ·omega
 ·omega
section
variable {c w r n:Nat} {x:LX} (h:ClipOk c w r n x)
include h
theorem ClipOk.sum:(Al (Ak r) n).sum=(n:Int):=sW h.cnt.1
omit h in
theorem Ad8:(dC c r n x).length=(Al (Ak r) n).length:=cP _ _ _
theorem Afa:(dC c r n x).flatten=x:=by
 refine jl _ _ _ (λm hm=>?_) ?_
 ·have:=IB (Eh r) h.cnt.1 m hm;omega
 ·rw[h.sum,h.len,Ajx]
theorem lA:∀y∈dC c r n x,1<=y.length/\y.length<=4000/\y.length %c=0/\uh (w:Int) y:=by
 intro y hy;obtain⟨a1,a2,a3,a4⟩:=lQ c h.ch.1 _ _ (IB (Eh r) h.cnt.1) (by rw[h.sum,h.len,Ajx]) y hy;have:=h.le;exact⟨a1,F0,a3,λv hv=>h.rng v (a4 v hv)⟩
omit h in
theorem O2(p:LB):(PF c w r n x p).length=(Al (Ak r) n).length:=by rw[PF,List.length_map];exact cP _ _ _
theorem Aq6(p:LB):1<= (PF c w r n x p).length/\ (PF c w r n x p).length<=1000:=by
 rw[O2,We];exact⟨Nat.le_add_left _ _,h.fr⟩
theorem Anf(p:LB):((PF c w r n x p).flatten).length<=15*x.length:=by
 have:=Axa (w:Int) c (Mn p) (dC c r n x) λy hy=>⟨(lA h y hy).1,(lA h y hy).2.1⟩;rw[Afa h]at this;exact this
theorem Bbw(p:LB):∀f∈PF c w r n x p,5<=f.length:=by
 intro f hf;rw[PF,List.mem_map]at hf;obtain⟨y,hy,rfl⟩:=hf;exact(zo _ _ _ _ (lA h y hy).1 (lA h y hy).2.1).1
theorem Aal(p:LB):Vy (Dg (PF c w r n x p))=true:=by
 have h1:=Aq6 h p;have h2:=Anf h p;have h3:=h.le;simp only[Vy,Ajo,Ahz];rw[FI _ _ F0,Oi,PL];refine⟨F0,λz hz=>?_,F0⟩;rw[Dg,List.mem_map]at hz;obtain⟨f,hf,rfl⟩:=hz;have:=Bbw h p f hf;omega
omit h in
theorem Ae7(p:LB):(Tx c w r n x p).length=22+(if Mc p=2 then 8 else 0)+(4*(PF c w r n x p).length+4)+(PF c w r n x p).flatten.length:=by
 rw[Tx,Afz,Afz,Afz,cS,uZ,tT,Oi];omega
theorem Anm(p:LB):(Tx c w r n x p).length<=34+4*(PF c w r n x p).length+15*x.length:=by
 have h1:=Ae7 (c:=c) (w:=w) (r:=r) (n:=n) (x:=x) p;have h2:=Anf h p;split at h1<;>omega
theorem U9(p:LB):(Tx c w r n x p).length<=64034:=by
 have:=Anm h p;have:=Aq6 h p;have:=h.le;omega
theorem Axc(hk:Cl (c:Int) (w:Int) (r:Int) x=some 0)(p:LB)(hp:p.length<=64):fC (c:Int) (w:Int) (r:Int) x p=some ((Mc p:Int),(c:Int),(w:Int),(r:Int),(n:Int),0):=by
 have hc:=h.ch;have hq:Bq (Ac x) (c:Int)=(n:Int):=by rw[Ac,GM (by have:=h.le;omega),h.len,Bnc _ F0]
 rw[fC,IK,hk,Aa,Abu F2,Abu F9,Bk Bpl,Aa,aU,sS,hq,Mc];by_cases h0:p=[]
 ·rw[Abu (by simp[h0]),Adi h0];rfl
 ·rw[Adi (by simpa using h0),Abu h0];rfl
theorem om(hk:Cl (c:Int) (w:Int) (r:Int) x=some 0)(p:LB)(hp:p.length<=64):SU (c:Int) (w:Int) (r:Int) x p=some (PF c w r n x p,0):=by
 have hc:=h.ch;have hle:=h.le;have hr:=h.rate;have hq:Bq (Ac x) (c:Int)=(n:Int):=by rw[Ac,GM,h.len,Bnc _ F0]
 have hcut:bT (c:Int) (r:Int) x=some (dC c r n x):=by
  have hp:=yF c x F0 (Al (Ak r) n) 0 (IB (Eh r) h.cnt.1) (by rw[h.sum,h.len,Ajx];omega);rw[bT,Bk Bpl,Aa,hq,Anh hr.1 hr.2 h.cnt.1 F0 h.fr,Aa,Bk (by have:=h.fr;simp only[Ac,We,Ahz];omega),Aa];exact hp
 have hfs:=Asm w c h.bits hc.1 hc.2 (Mn p) (Ks p) (dC c r n x) [] (by rw[Ad8,We];exact Boy (Nat.add_le_add_left h.fr _) Bpj) (lA h);rw[SU,hk,Aa,Abu F2,YN p hp,Aa];simp only;rw[Abu F2,hcut,Aa,hfs];rfl
omit h in
theorem Abc(a:List LB)(b f:LB)(v:LB)(ha:a.length<=1000)(hfin:Xu (Dg a) a b f=some (v,0)):∀(j i q:Nat),i+j=a.length->j<q->Vx a b f q (i:Int) (Dg (a.take i)++List.replicate j 0)=some (v,0)
 |j,i,0,_,h=>absurd h (Bix _)
 |0,i,q+1,hi,_=>by
  rw[Vx,KW,Abu F3,Awy F0,List.replicate_zero,Ap3];exact hfin
 |j+1,i,q+1,hi,hq=>by
  have ih:=Abc a b f v ha hfin j (i+1) q F0 F0;have hi1:Ae (i:Int) 1=((i+1:Nat):Int):=by rw[Ag];omega
  have hll:(Dg (a.take i)).length=i:=by rw[Oi,Anb];omega
  have hset:(Dg (a.take i)++List.replicate (j+1) (0:Int)).set i (Ac a[i])=Dg (a.take (i+1))++List.replicate j 0:=by
   rw[Bj5,lO hll,Jq F0,Dg,Dg,Bod,Ajp];rfl
  rw[Vx,KW,Adi F3,Bn,Aa,Aa,gL,Aa,Bn (by rw[Afz,hll,Aw4];omega),Aa,Tk _ (by rw[Afz,hll,Aw4];omega),Aa,hset,VB,oO,hi1];exact ih
theorem Aj1(hk:Cl (c:Int) (w:Int) (r:Int) x=some 0)(p:LB)(hp:p.length<=64):fQ (c:Int) (w:Int) (r:Int) x p=some (Tx c w r n x p,0):=by
 have hn:=Aq6 h p;have hfin:Xu (Dg (PF c w r n x p)) (PF c w r n x p) (LR (Mc p) c w r n) (cY p)=some (Tx c w r n x p,0):=by
  have hl:=U9 h p;rw[Xu,oT,nk,Adi (Aal h p),Aa];simp only;rw[pP,oS,Abu F2,Bf F7,Aa,join_eq _ F7 (by
   have:(([LR (Mc p) c w r n,cY p,qJ (Dg (PF c w r n x p))]++PF c w r n x p).flatten)=Tx c w r n x p:=by simp[Tx]
   rw[this];omega),Aa]
  simp[Tx]
 have hlp:=Abc (PF c w r n x p) (LR (Mc p) c w r n) (cY p) _ F0 hfin (PF c w r n x p).length 0 Au F0 F8;have h8:aJ (PF c w r n x p) (LR (Mc p) c w r n) (cY p)=some (Tx c w r n x p,0):=by
  rw[aJ,ZB,pM Bpt Bpt,Aa,Bk Bqa,Aa];exact hlp
 rw[fQ,ZP,Axc h hk p hp,Aa];simp only;rw[Abu F2,om h hk p hp,Aa];simp only;rw[Abu F2,M8 (h.shape _ (Ac4 p)) h.fit,Aa];simp only;rw[Abu F2];by_cases h0:p=[]
 ·have e1:Mc p=1:=by rw[Mc,Adi h0]
  have e2:cY p=[]:=by rw[cY,Adi h0]
  rw[e2]at h8;rw[Abu (by rw[e1];decide)];exact h8
 ·have e1:Mc p=2:=by rw[Mc,Abu h0]
  have e2:cY p=Fg (Uo p).toNat 8:=by rw[cY,Abu h0]
  rw[e2]at h8;rw[Adi (by rw[e1];decide),jL p hp,Aa];exact h8
end
theorem Bqt{p:Prop}(h:p:=by simp[Pu,Az]):p:=h
end Go.Pl
namespace Go.Pl
open Go Go.Lv
variable{e bits:Int}{l:LI}
theorem BK{a m z:LB}{i k:Nat}(hi:a.length=i)(hk:m.length=k):part (a++(m++z)) i k=m:=by
 subst hi hk;rw[part,List.take_append,Awy F0,List.drop_left',Bj7,Bg6 (An6 _),Bd0];rfl
theorem PN(f c w r n:Nat)(z:LB):LR f c w r n++z=Pu++(Fg f 2++(Fg c 2++(Fg w 2++(Fg r 4++(Fg n 4++(Fg (Eu (Y4 f c w r n)).toNat 4++z)))))):=by
 simp only[LR,Y4,Ajp]
theorem At7{f c w r n:Nat}(h1:Fs f c w r n=true)(h2:Xn c r n=true)(z:LB):Eo (LR f c w r n++z)=((f:Int),(c:Int),(w:Int),(r:Int),(n:Int),0):=by
 have hs:(f=1\/f=2)/\ (1<=c/\c<=6)/\ (w=8\/w=16\/w=24)/\ (1<=r/\r<=1048576)/\1<=n:=by simpa only[Fs,Ahz]using h1
 have hn:n<=4000:=by
  simp only[Xn,Ahz]at h2;have:=Ayq 4000 c;omega
 have hlen:22<= (LR f c w r n++z).length:=by rw[Afz,cS];omega
 have m4:min 4 (LR f c w r n++z).length=4:=F0
 have e4:(LR f c w r n++z).take 4=Pu:=by rw[PN];rfl
 have e18:(LR f c w r n++z).take 18=Y4 f c w r n:=by
  rw[LR,Ajp,Bg6 (by rw[jX];omega),Awy (by rw[jX];omega)]
 have hlt:=(Eu (Y4 f c w r n)).toNat_lt;have p18:part (LR f c w r n++z) 18 4=Fg (Eu (Y4 f c w r n)).toNat 4:=by
  rw[LR,Ajp];exact BK (jX _ _ _ _ _) (Az _ _)
 have q0:f0 (LR f c w r n++z)=f:=by
  rw[f0,PN,BK (a:=Pu) (i:=4) (k:=2) rfl (Az _ _),Xa];omega
 have q1:f1 (LR f c w r n++z)=c:=by
  rw[f1,PN,<-Ajp,BK Bqt (Az _ _),Xa];omega
 have q2:f2 (LR f c w r n++z)=w:=by
  rw[f2,PN,<-Ajp,<-Ajp,BK Bqt (Az _ _),Xa];omega
 have q3:f3 (LR f c w r n++z)=r:=by
  rw[f3,PN,<-Ajp,<-Ajp,<-Ajp,BK Bqt (Az _ _),Xa];omega
 have q4:f4 (LR f c w r n++z)=n:=by
  rw[f4,PN,<-Ajp,<-Ajp,<-Ajp,<-Ajp,BK Bqt (Az _ _),Xa];omega
 have h:=rs6 (b:=LR f c w r n++z) (by rw[m4,e4];rfl) F0 (by rw[e18,p18,Xa];omega) (by rw[q0,q1,q2,q3,q4];exact h1) (by rw[q1,q3,q4];exact h2);rw[q0,q1,q2,q3,q4]at h;exact h
theorem Axz(l:LI)(z:LB){i:Nat}(hi:i<l.length):part (cX l++z) (4*i) 4=Fg (l[i]).toNat 4:=by
 have hs:cX l=cX (l.take i)++(Fg (l[i]).toNat 4++cX (l.drop (i+1))):=by
  conv=>lhs;rw[<-Bj4 i l,drop_cons hi]
  rw[cX,cX,cX,List.flatMap_append,List.flatMap_cons]
 rw[hs,Ajp,Ajp];exact BK (by rw[RW,Anb];omega) (Az _ _)
theorem At4(ht:Vy l=true)(z:LB):En (qJ l++z) l.length=(l,0):=by
 have h:=ht;simp only[Vy,Ajo,Ahz]at h;obtain⟨hn,h3⟩:=h;have h4:=(FI l 100000 F0).1 h3;have h6:=P5 h4.1;have hlt:=(Eu (cX l)).toNat_lt;have e1:(qJ l++z).take (4*l.length)=cX l:=by
  rw[qJ,Ajp,Bg6 (by rw[RW];omega),Awy (by rw[RW];omega)]
 have e2:part (qJ l++z) (4*l.length) 4=Fg (Eu (cX l)).toNat 4:=by
  rw[qJ,Ajp];exact BK (RW _) (Az _ _)
 have e3:UM (qJ l++z) l.length=l:=by
  apply Bit
  ·rw[Vr]
  ·intro i h1 h2;have hx:=h4.1 l[i] (Avu _);have hy:=h6 l[i] (Avu _);simp only[UM,Bnl,Bnb];rw[qJ,Ajp,Axz l _ h2,Xa];omega
 rw[ss4 hn (by rw[Afz,tT];omega) (by rw[e1,e2,Xa];omega),e3,Adi ht]
theorem Bae{b p:LB}{f c w r n T:Nat}{z:LB}(hp:p.length<=64)(hf:f=Mc p)(h1:Fs f c w r n=true)(h2:Xn c r n=true)(hT:Bs b=((T:Int),0))(hb:b.length<=100000)(hd:b.drop T=LR f c w r n++(cY p++(qJ l++z)))
  (hl:l.length=(Al (Ak r) n).length) (ht:Vy l=true):Opn b p f c w r n (T+22+(if f=2 then 8 else 0)+4*l.length+4) l:=by
 have hlen:=congrArg List.length hd;rw[Anx,Afz,Afz,Afz,cS,uZ,tT,<-hf]at hlen;have Boa:l.length<=1000/\1<=l.length:=by
  have h:=ht;simp only[Vy,Ajo,Ahz]at h;omega
 have hread:Eo (b.drop T)=((f:Int),(c:Int),(w:Int),(r:Int),(n:Int),0):=by rw[hd];exact At7 h1 h2 _
 have t22:Ae (T:Int) 22=((T+22:Nat):Int):=by rw[Ag];omega
 have t30:Ae ((T+22:Nat):Int) 8=((T+30:Nat):Int):=by rw[Ag];omega
 have d22:b.drop (T+22)=cY p++(qJ l++z):=by
  rw[<-Bk5,hd,<-cS f c w r n,Bmu]
 have dA:b.drop (T+22+(if f=2 then 8 else 0))=qJ l++z:=by
  rw[<-Bk5,d22,hf,<-uZ p,Bmu]
 have hend:∀A:Nat,A<=b.length->A=T+22+(if f=2 then 8 else 0)->Dl b p=Qq b (f:Int) (c:Int) (w:Int) (r:Int) (n:Int) (A:Int)->Dl b p=some ((f:Int),(c:Int),(w:Int),(r:Int),(n:Int),((A+4*l.length+4:Nat):Int),l,0):=by
  intro A hA hA2 e;rw[e,vU h1 h2 b F0 A hA,hA2,dA,<-hl,At4 ht,Abu Bpj]
 have hprog:Dl b p=some ((f:Int),(c:Int),(w:Int),(r:Int),(n:Int),((T+22+(if f=2 then 8 else 0)+4*l.length+4:Nat):Int),l,0):=by
  refine hend (T+22+(if f=2 then 8 else 0)) F0 rfl ?_;rw[Dl,Uz,Abu F9,Abu F9,Qi b F0,hT,Aa];simp only;rw[Abu F2,Bp,Aa,Ajx,QI _ Bpy,Aa,hread];simp only;rw[Abu F2];by_cases h0:p=[]
  ·have e1:f=1:=by rw[hf,Mc,Adi h0]
   rw[Abu (by rw[h0,e1];decide),Abu (by rw[h0];decide),t22,e1];rfl
  ·have e1:f=2:=by rw[hf,Mc,Abu h0]
   have hne:(p !=([]:LB))=true:=by simpa using h0
   have hne2:(p==([]:LB))=false:=by simpa using h0
   have hdg:cY p=Fg (Uo p).toNat 8:=by rw[cY,Abu h0]
   have hseg:(b.take (T+30)).drop (T+22)=Fg (Uo p).toNat 8:=by
    rw[Boq,show T+30-(T+22)=8 by omega,d22,hdg,Bg6 Bql,Awy Bql]
   rw[e1,Adi rfl]at hlen;rw[Abu (by rw[hne2,e1];decide),Adi hne,t22,t30,Abu F3,Qn,Aa,Ajx,Ajx,hseg,G8 (Az _ _) hp,Aa];simp only;rw[Abu F2,Abu Bpj,e1];rfl
 rcases N2 b p F0 hp with⟨e,he,h,_⟩|⟨f',c',w',r',n',A',l',o⟩
 ·rw[hprog]at h;have:=congrArg (λo=>(o.getD (VD 0)).2.2.2.2.2.2.2) h;simp only[Option.getD_some,VD]at this;exact absurd this.symm he
 ·have h:=o.prog;rw[hprog]at h;simp only[Ajq,Aki]at h;obtain⟨i1,i2,i3,i4,i5,i6,i7,_⟩:=h;have j1:f=f':=F0
  have j2:c=c':=F0
  have j3:w=w':=F0
  have j4:r=r':=F0
  have j5:n=n':=F0
  have j6:=Int.ofNat.inj i6;subst j1 j2 j3 j4 j5 i7;rw[j6];exact o
theorem Ajv{b:LB}(h:b.take 4=Pu):Bs b=(0,0):=by
 have h4:4<=b.length:=by
  have:=congrArg List.length h;rw[Anb]at this;simp only[Pu,Ary,Bom]at this;omega
 have h3:b.take 3≠ [73,68,51]:=by
  intro e;have:(b.take 4).take 3=[73,68,51]:=by rw[Bor];exact e
  rw[h]at this;exact absurd this F2
 have h8:b.take 8≠oz:=by
  intro e;have:(b.take 8).take 4=Pu:=by rw[Bor];exact h
  rw[e]at this;exact absurd this F2
 have hs:Df b=(0,6):=by
  have h1:Zi b=(0,6):=by rw[Zi,Adi (by intro hh;exact h3 hh.2)]
  rw[Df,h1,Abu F2,fa1 (by intro hh;exact h8 hh.2)]
 rw[Bs,Aao,Cn,List.drop_zero,hs];rfl
theorem rP:∀{l:LI},(∀x∈l,0<=x)->∀k,0<= (l.take k).sum
 |[],_,k=>by simp
 |x::l,h,0=>by simp
 |x::l,h,k+1=>by
  have:=rP (l:=l) (λy hy=>h y (Avl _ hy)) k;have:=h x Bdj;rw[List.take_succ_cons,Bha];omega
theorem S4(fs:List LB)(k:Nat):(Dg fs).take k=Dg (fs.take k):=by rw[Dg,Dg,List.map_take]
theorem Bhj{b z:LB}{A:Nat}{fs:List LB}(hd:b.drop A=fs.flatten++z){k:Nat}(hk:k<fs.length):qh b A (Dg fs) k=fs[k]:=by
 have e0:fs.flatten=(fs.take k).flatten++(fs[k]++(fs.drop (k+1)).flatten):=by
  conv=>lhs;rw[<-Bj4 k fs,drop_cons hk]
  rw[Bmp,Bm5]
 have s1:((Dg fs).take k).sum=((fs.take k).flatten.length:Int):=by rw[S4,PL]
 have s2:((Dg fs).take (k+1)).sum=((fs.take k).flatten.length+fs[k].length:Nat):=by rw[S4,PL,Jq hk,Bmp];simp
 rw[qh,s1,s2,show((A:Int)+((fs.take k).flatten.length+fs[k].length:Nat)).toNat=A+((fs.take k).flatten.length+fs[k].length) by omega,show((A:Int)+((fs.take k).flatten.length:Int)).toNat=A+(fs.take k).flatten.length by omega,
  Boq,<-Bk5,hd,e0,Ajp,Bmu,Nat.add_sub_add_left,Bj7,Ajp,List.take_left]
theorem Av6{b z:LB}{A:Nat}{fs:List LB}(hd:b.drop A=fs.flatten++z)(hA:A<=b.length)(k:Nat):(A:Int)+((Dg fs).take k).sum<=b.length:=by
 have h:=congrArg List.length hd;rw[Anx,Afz]at h;have h2:(fs.take k).flatten.length<=fs.flatten.length:=by
  conv=>rhs;rw[<-Bj4 k fs,Bmp,Afz]
  omega
 rw[S4,PL];omega
theorem Auw{b z:LB}{A:Nat}{fs:List LB}(hd:b.drop A=fs.flatten++z):YB b A (Dg fs)=(Nx z).2:=by
 rw[YB,PL,show((A:Int)+(fs.flatten.length:Int)).toNat=A+fs.flatten.length by omega,<-Bk5,hd,Bmu]
theorem Apu:Nx []=(0,0):=rfl
section
variable {b p:LB} {f c w r n A:Nat} {fs:List LB} {z:LB} (o:Opn b p f c w r n A (Dg fs)) (hd:b.drop A=fs.flatten++z)
include o hd
theorem Bjp{k:Nat}(hk:k<fs.length){y:LX}{m:Nat}(hm:Am (Al (Ak r) n) (k:Int)=some (m:Int))(hdec:Kj (c:Int) (w:Int) (Mn p) (m:Int) fs[k]=some (y,e)):
  (Il b p f c w r n A (Dg fs) k).2=e/\ (e=0->Il b p f c w r n A (Dg fs) k=(Dk (w:Int) y,0)/\O9 w (Il b p f c w r n A (Dg fs) k)=y):=by
 have hkl:k<(Dg fs).length:=by rw[Oi];exact hk
 obtain⟨m',x',s',e',g⟩:=BO o k hkl;have hin:=Av6 hd o.at' (k+1);have hmm:m'=m:=by
  have:=g.mom;rw[hm]at this;have:=Axh this;omega
 subst hmm;rcases g.way with⟨h1,_⟩|⟨_,h2,_⟩
 ·omega
 ·rw[Bhj hd hk,hdec]at h2;simp only[Ajq,Aki]at h2;obtain⟨rfl,rfl⟩:=h2;refine⟨by rw[g.eq],λhe=>?_⟩;have:=g.J1 (Kn o.shape).2.1;obtain⟨h3,_⟩:=g.some' he;rw[g.eq,this,h3,he];exact⟨rfl,rfl⟩
end
theorem zT(c:Nat)(h1:1<=c):∀(l:LI) (x:LX),(∀m∈l,1<=m)->x.length=l.sum.toNat*c->∀(k:Nat) (hk:k<l.length) (hk':k<(Hz c x l).length),(Hz c x l)[k].length=l[k].toNat*c
 |[],x,_,_=>λk hk=>absurd hk (Bix _)
 |m::l,x,hm,hx=>by
  have hm1:=hm m Bdj;have hl:0<=l.sum:=by
   have:=rP (l:=l) (λy hy=>by have:=hm y (Avl _ hy);omega) l.length;rw[Bd0]at this;exact this
  rw[Bha,show(m+l.sum).toNat=m.toNat+l.sum.toNat by omega,An5]at hx;intro k hk hk';cases k with
  |zero=>simp only[Hz,List.getElem_cons_zero,Anb];omega
  |succ k=>
   simp only[Hz,List.getElem_cons_succ];exact zT c h1 l (x.drop (m.toNat*c)) (λm hm'=>hm m (Avl _ hm')) Bpy k (by simpa using hk) _
structure FileOf (c w r n:Nat) (x:LX) (p:LB) (T:Nat) (fs:List LB) (z b:LB):Prop where
 clip:ClipOk c w r n x
 pass:p.length<=64
 front:Bs b=((T:Int),0)
 le:b.length<=100000
 lens:Dg fs=Dg (PF c w r n x p)
 form:b.drop T=LR (Mc p) c w r n++(cY p++(qJ (Dg (PF c w r n x p))++(fs.flatten++z)))
def O0(T:Nat)(p:LB)(K:Nat):Nat:=T+22+(if Mc p=2 then 8 else 0)+4*K+4
section
variable {c w r n:Nat} {x:LX} {p:LB} {T:Nat} {fs:List LB} {z b:LB} (h:FileOf c w r n x p T fs z b)
include h
theorem FileOf.cnt:fs.length=(PF c w r n x p).length:=by
 have:=congrArg List.length h.lens;rw[Oi,Oi]at this;exact this
theorem FileOf.Gm:Opn b p (Mc p) c w r n (O0 T p fs.length) (Dg fs):=by
 have hc:=h.clip;have hl:(Dg fs).length=(Al (Ak r) n).length:=by rw[Oi,h.cnt];exact O2 p
 have ht:Vy (Dg fs)=true:=by rw[h.lens];exact Aal hc p
 have hd:=h.form;rw[<-h.lens]at hd;have:=Bae (z:=fs.flatten++z) h.pass rfl (hc.shape _ (Ac4 p)) hc.fit h.front h.le hd hl ht;rw[Oi]at this;exact this
theorem FileOf.Bgp:b.drop (O0 T p fs.length)=fs.flatten++z:=by
 have hd:=h.form;rw[<-h.lens]at hd;have e:O0 T p fs.length=T+(22+((if Mc p=2 then 8 else 0)+(4*fs.length+4))):=by unfold O0;omega
 have e2:4*fs.length+4=(qJ (Dg fs)).length:=by rw[tT,Oi]
 rw[e,<-Bk5,hd,<-Bk5]
 conv=>lhs;rw[<-cS (Mc p) c w r n,Bmu,<-Bk5,<-uZ p,Bmu,e2,Bmu]
theorem FileOf.mom{k:Nat}(hk:k<fs.length):∃(m:Nat) (hk':k<(dC c r n x).length),Am (Al (Ak r) n) (k:Int)=some (m:Int)/\1<=m/\m<=4000/c/\ ((dC c r n x)[k]).length=m*c/\uh (w:Int) (dC c r n x)[k]/\ (PF c w r n x p)[k]'(by rw[<-h.cnt];exact hk)=Pz (w:Int) c (Mn p) (dC c r n x)[k]:=by
 have hc:=h.clip;have hlen:fs.length=(Al (Ak r) n).length:=by rw[h.cnt];exact O2 p
 have hkf:k<(Al (Ak r) n).length:=F0
 have hk':k<(dC c r n x).length:=by rw[Ad8];exact hkf
 have hm1:=IB (Eh r) hc.cnt.1 _ (Avu hkf);obtain⟨m,hm⟩:=Anz (show 0<= (Al (Ak r) n)[k] by omega);have hg:=zT c hc.ch.1 _ x (IB (Eh r) hc.cnt.1) (by rw[hc.sum,hc.len,Ajx]) k hkf hk';rw[hm,Ajx]at hg;have hmem:=lA hc _ (Avu hk');have hx:=lQ c hc.ch.1 _ x (IB (Eh r) hc.cnt.1) (by rw[hc.sum,hc.len,Ajx]) _ (Avu hk');have hg':((dC c r n x)[k]).length=m*c:=hg;refine⟨m,hk',by rw[Bn hkf,hm],F0,?_,hg',hmem.2.2.2,?_⟩
 ·have h1:=hx.2.1;have h2:m*c<=n*c:=by rw[<-hg',<-hc.len];exact h1
  have h3:m<=n:=Nat.le_of_mul_le_mul_right h2 hc.ch.1;exact Boy h3 hc.cnt.2
 ·simp only[PF,Bnl]
theorem FileOf.Bmw{k:Nat}(hk:k<fs.length)(he:fs[k]=(PF c w r n x p)[k]'(by rw[<-h.cnt];exact hk)):
  Il b p (Mc p) c w r n (O0 T p fs.length) (Dg fs) k=(Dk (w:Int) ((dC c r n x).getD k []),0)/\O9 w (Il b p (Mc p) c w r n (O0 T p fs.length) (Dg fs) k)=(dC c r n x).getD k []:=by
 have hc:=h.clip;obtain⟨m,hk',h1,h2,h3,h4,h5,h6⟩:=h.mom hk;have hd:=(Apw hc.bits (Ks p) hc.ch.1 hc.ch.2 h2 h3 h4 h5).1;have hg:=Bjp h.Gm h.Bgp hk h1 (by rw[he,h6];exact hd);have e:(dC c r n x).getD k []=(dC c r n x)[k]:=by rw[List.getD_eq_getElem?_getD,List.getElem?_eq_getElem hk'];rfl
 rw[e];exact hg.2 rfl
theorem FileOf.beh:YB b (O0 T p fs.length) (Dg fs)=(Nx z).2:=Auw h.Bgp
end
theorem At2{c w r n:Nat}{x:LX}(h:ClipOk c w r n x){p:LB}(hp:p.length<=64):FileOf c w r n x p 0 (PF c w r n x p) [] (Tx c w r n x p):=by
 refine⟨h,hp,Ajv ?_,by have:=U9 h p;omega,rfl,by rw[Ap3];rfl⟩;rw[Tx,PN];rfl
theorem Adh:∀(ys:List LX) (G:Nat->LX) (k:Nat),(∀i,i<ys.length->G (k+i)=ys.getD i [])->Wb G ys.length k=ys.flatten
 |[],G,k,_=>rfl
 |y::ys,G,k,h=>by
  have h0:=h 0 Bpj;have ih:=Adh ys G (k+1) (λi hi=>by have:=h (i+1) F7;rw[show k+1+i=k+(i+1) by omega,this];simp);rw[Ary,Wb,ih,Bm5,show k=k+0 from rfl,h0];rfl
theorem Akr(h:∀x∈l,0<=x){i j:Nat}(hij:i<=j):(l.take i).sum<= (l.take j).sum:=by
 obtain⟨d,rfl⟩:=Boz hij;rw[List.take_add,List.sum_append];have:=rP (l:=l.drop i) (λx hx=>h x (Bms hx)) d;omega
def Cd(e:Int):Prop:=e=0\/e=4\/e=12\/e=16\/e=22\/e=24\/e=26\/e=38
instance(e:Int):Decidable (Cd e):=by unfold Cd;infer_instance
theorem Cd.nn(h:Cd e):0<=e:=by unfold Cd at h;omega
theorem Bhk(p:LB)(N a k:Nat):Cd (YY p N a k).2.2:=by
 unfold YY
 repeat' split
 all_goals first|decide|exact .inl rfl
theorem Bjj(p:LB)(N a k l:Nat):Cd (iL p N a k l).2.2:=by
 have h:=Bhk p N (a+1) l;unfold iL
 repeat' split
 all_goals first|exact h|decide|exact .inl rfl
theorem Are(ch:Nat)(p:LB)(N:Nat):∀(j a:Nat) (out:LU),Cd (Xt ch p N j a out).2.2
 |0,a,out=>by rw[Xt];exact .inl rfl
 |j+1,a,out=>by
  rw[Xt];split
  ·exact Bjj ..
  ·exact Are ch p N j _ _
theorem Ax4(b:LB):Cd (Wd b):=by
 unfold Wd
 repeat' split
 all_goals first|decide|exact .inl rfl
theorem Agn(a:LX)(b:Int):∀(q:Nat) (i e:Int),Ba a b q i=some e->Cd e
 |0,_,_,h=>by rw[Ba]at h;cases h
 |q+1,i,e,h=>by
  rw[Ba,Cy]at h;split at h
  ·cases hg:Am a i with
   |none=>rw[hg]at h;cases h
   |some g=>
    rw[hg,Aa]at h;split at h
    ·cases h;decide
    ·rw[Aa]at h;split at h
     ·cases h;decide
     ·exact Agn a b q _ e h
  ·cases h;decide
theorem Aor{a:LX}(hb:Bd bits)(h:Ay bits a=some e):Cd e:=by
 rw[Ay,Dw]at h;rw[WI hb,Aa,Abu (by have:=JL bits;rw[Ar];simp;omega)]at h;split at h
 ·cases h;decide
 ·exact Agn a _ _ _ e h
theorem Af5{ch n:Nat}{t:LX}{b:LB}(hb:Bd bits)(ht:t.length=16)(h1:1<=ch)(h6:ch<=6)(n1:1<=n)(n2:n<=4000/ch){l:LX}
  (h:Dq (ch:Int) bits t (n:Int) b=some (l,e)):Cd e:=by
 have hn:n*ch<=4000:=by
  have:=Ajr ch n2;have h2:=Bjv 4000 ch;omega
 have hq4:=D9 h1 h6;generalize 4000/ch=mm at*
 have hh:=JL bits;have Aej:Dm (ch:Int) bits (n:Int)=some 0:=by
  rw[Dm,Dd,Abu Bpo,WI hb,Aa,Abu Bpm,Aa,Abu Bp4,Bk Bpl,Aa,hq4,Abu Bpn]
 rw[Dq,Pr,Aej,Aa,Abu Bpk,zJ,Aa]at h;by_cases hs:Wd b≠0
 ·rw[Adi (by rw[Ah];simpa using hs)]at h;simp only[Aa]at h;cases h;exact Ax4 b
 have hs0:Wd b=0:=by simpa using hs
 have hlen:=Ana hs0;have e4:Aq (Ac b) 4=((b.length-4:Nat):Int):=by rw[Ac,Bv];omega
 rw[Abu (by rw[Ah,hs0];simp),e4,Ct,Aa,show((b.length-4:Nat):Int).toNat=b.length-4 from rfl]at h;have hpl:(b.take (b.length-4)).length=b.length-4:=by simp
 generalize b.take (b.length-4)=p at*
 have hr:=Aic (N:=8*p.length) (p:=p) rfl F0 h1 h6 hn;have hV:=Are ch p (8*p.length) (n*ch) 0 [];have hat:=qz (ch:=ch) (p:=p) (N:=8*p.length) (n*ch) 0 [] F0;rw[hr,Aa]at h;generalize Xt ch p (8*p.length) (n*ch) 0 []=V at*
 obtain⟨v,at',er⟩:=V;simp only at*
 by_cases he:er≠0
 ·rw[Adi he]at h;simp only at h;rw[Hx,Ie,Adi (by rw[Ah];simpa using he)]at h;cases h;exact hV
 have he0:er=0:=by simpa using he
 have hvl:=hat.2.2 he0;simp only[Bom,Bg2]at hvl;rw[Abu he]at h;simp only at h;rw[Hx,Ie]at h;split at h
 ·cases h;decide
 ·rw[Abu F2]at h;have hm:v.length %ch=0:=by rw[hvl];exact Bj2 n ch
  obtain⟨l',e',g1,g2,g3,g4,g5⟩:=I9 (v:=v) hb ht h1 h6 F0 hm;rw[g1,Aa,g2,Aa]at h;have:=Aor hb g4;by_cases hl:e'≠0
  ·rw[Adi hl]at h;cases h;exact this
  ·rw[Abu hl]at h;cases h;decide
theorem vM{ch n:Nat}{t:LX}{b:LB}(hb:Bd bits)(ht:t.length=16)(h1:1<=ch)(h6:ch<=6)(n1:1<=n)(n2:n<=4000/ch){l:LX}
  (h:Dq (ch:Int) bits t (n:Int) b=some (l,e)):0<=e:=(Af5 hb ht h1 h6 n1 n2 h).nn
def shI(f c w r n:Int):Bool:=decide ((f=1\/f=2)/\ (1<=c/\c<=6)/\ (w=8\/w=16\/w=24)/\ (1<=r/\r<=1048576)/\1<=n)
theorem Bba(f c w r n:Int):Th f c w r n=some (shI f c w r n):=by
 have e2:Vo f c w r n=some (decide ((f=1\/f=2)/\ (1<=c/\c<=6)/\ (1<=r/\r<=1048576)/\1<=n)):=by
  rw[Vo,PO];congr 1;rw[An7];simp only[Ar,Ap,OG,Ajo,Biu,Bcg,Ahz];omega
 have g:∀k:Int,geq w k=decide (w=k):=λk=>by rw[Ar,An7];simp
 rw[Th,PB,e2,g,g,g,shI];by_cases h8:w=8
 ·subst h8;simp
 ·by_cases h16:w=16
  ·subst h16;simp
  ·by_cases h24:w=24
   ·subst h24;simp
   ·simp[h8,h16,h24]
theorem Bfl(f c w r n:Int):Ll f c w r n=some (shI f c w r n):=by
 rw[Ll,shI];simp only[Ar,Ec,OG,Ajo,Biu,Bcg,Ahz,Bop];split
 ·rename_i h;congr 1;rw[An7];simp only[Ajo,Biu,Bcg,Ahz];omega
 ·rename_i h;congr 1;symm;rw[Bh4];omega
structure HdI (f c w r n:Int) (F C W R N:Nat):Prop where
 ef:f=F
 ec:c=C
 ew:w=W
 er:r=R
 en:n=N
 shape:Fs F C W R N=true
 fit:Xn C R N=true
theorem Awn(f c w r n:Int):(∃F C W R N:Nat,HdI f c w r n F C W R N)\/ (Mu f c w r n=some 8/\Eb f c w r n=some ([],8)):=by
 by_cases h:shI f c w r n=true
 ·have h':=h;simp only[shI,Ahz]at h';obtain⟨F,rfl⟩:=Anz (show 0<=f by omega);obtain⟨C,rfl⟩:=Anz (show 0<=c by omega);obtain⟨W,rfl⟩:=Anz (show 0<=w by omega);obtain⟨R,rfl⟩:=Anz (show 0<=r by omega);obtain⟨N,rfl⟩:=Anz (show 0<=n by omega);have hs:Fs F C W R N=true:=by simp only[Fs,Ahz];omega
  by_cases hf:Xn C R N=true
  ·exact .inl ⟨F,C,W,R,N,rfl,rfl,rfl,rfl,rfl,hs,hf⟩
  ·have hf':Xn C R N=false:=by simpa using hf
   refine .inr ⟨?_,?_⟩
   ·rw[Mu,C6,Aa,hs,Abu Bpj,Aef hs,Aa,hf'];rfl
   ·rw[Eb,Pg,dP,Aa,hs,Abu Bpj,vS hs,Aa,hf'];rfl
 ·have h':shI f c w r n=false:=by simpa using h
  refine .inr ⟨?_,?_⟩
  ·rw[Mu,Bfl,Aa,h'];rfl
  ·rw[Eb,Pg,Bba,Aa,h'];rfl
theorem HdI.check{f c w r n:Int}{F C W R N:Nat}(h:HdI f c w r n F C W R N):Mu f c w r n=some 0:=by
 obtain⟨rfl,rfl,rfl,rfl,rfl,hs,hf⟩:=h;rw[Mu,C6,Aa,hs,Abu Bpj,Aef hs,Aa,hf];rfl
theorem HdI.P4{f c w r n:Int}{F C W R N:Nat}(h:HdI f c w r n F C W R N):Eb f c w r n=some (Al (Ak R) N,0):=by
 obtain⟨rfl,rfl,rfl,rfl,rfl,hs,hf⟩:=h;exact sV hs hf
theorem HdI.num{f c w r n:Int}{F C W R N:Nat}(h:HdI f c w r n F C W R N):(F=1\/F=2)/\ (1<=C/\C<=6)/\ (W=8\/W=16\/W=24)/\ (1<=R/\R<=1048576)/\1<=N/\N<=4000/C/\N<=4000/\ (N-1)/Ak R+1<=1000:=by
 obtain⟨rfl,rfl,rfl,rfl,rfl,hs,hf⟩:=h;simp only[Fs,Ahz]at hs;simp only[Xn,Ahz]at hf;have hd:4000/C<=4000:=Ayq _ _;omega
theorem HdI.Aie{f c w r n:Int}{F C W R N:Nat}(h:HdI f c w r n F C W R N):Hm f c w r n=some (Al (Ak R) N):=by
 have hn:=h.num;obtain⟨rfl,rfl,rfl,rfl,rfl,hs,hf⟩:=h;rw[Hm,jW F0 F0 F0];rfl
section
variable {f c w r n:Nat} (h1:Fs f c w r n=true) (h2:Xn c r n=true)
include h1 h2
theorem Afi(k:Nat)(hk:k<= (Al (Ak r) n).length):∀(j i q:Nat),i+j=k->j<q->Nj (k:Int) (f:Int) (c:Int) (w:Int) (r:Int) (n:Int) (Al (Ak r) n) q (((Al (Ak r) n).take i).sum) (i:Int)=some (ID c w (Al (Ak r) n) k)
 |0,i,q+1,hi,_=>by
  obtain⟨hc,hw,hr,hn,_⟩:=Kn h1;obtain⟨g1,g2,g3⟩:=QJ h1 h2;have b:=nP g1 i;obtain rfl:i=k:=F0
  have hb:((Al (Ak r) n).take i).sum.toNat*(c*wB (w:Int))<=4000*(6*3):=Bhr F0 (Bhr hc.2 (Z6 (w:Int)).2);rw[Nj,AJ,Abu Bpr,RX,TQ,Fx,Aa];simp only;rw[WS,Bi1 hc.2 hw,Aa,ID];have e:((Al (Ak r) n).take i).sum=((((Al (Ak r) n).take i).sum.toNat:Nat):Int):=F0
  rw[e,Fa Bps Bps,<-Aw3];rfl
 |j+1,i,q+1,hi,hq=>by
  obtain⟨g1,g2,g3⟩:=QJ h1 h2;have hK:=Aca h2;have hlt:i<(Al (Ak r) n).length:=F0
  have b1:=nP g1 i;have b2:=nP g1 (i+1);have e:=Kh hlt;have ih:=Afi k hk j (i+1) q F0 F0;rw[e]at ih;rw[Nj,AJ,Adi Bpi,Bn hlt,Aa,Aa,Ag,Ag];exact ih
theorem Aj3(k:Nat)(hk:k<= (Al (Ak r) n).length):Zo (f:Int) (c:Int) (w:Int) (r:Int) (n:Int) (k:Int)=some (ID c w (Al (Ak r) n) k):=by
 have hK:=Aca h2;obtain⟨g1,g2,g3⟩:=QJ h1 h2;obtain⟨hc,hw,hr,hn,_⟩:=Kn h1;have h:=Afi h1 h2 k hk k 0 Au F0 F8;rw[Bj8,Bog]at h;rw[Zo,TD,Hm,jW hr.2 hn g3,Aa,Aa];exact h
theorem Aot{i:Nat}(hlt:i<(Al (Ak r) n).length):Ae (ID c w (Al (Ak r) n) i) (Bq (Bi (Bi ((Al (Ak r) n)[i]) (c:Int)) (w:Int)) 8)=ID c w (Al (Ak r) n) (i+1):=by
 obtain⟨hc,hw,hr,hn,_⟩:=Kn h1;obtain⟨g1,g2,g3⟩:=QJ h1 h2;have b1:=nP g1 i;have b2:=nP g1 (i+1);have e:=Kh hlt;have h0:=g1 _ (Avu hlt);have e2:(Al (Ak r) n)[i]=(((Al (Ak r) n)[i].toNat:Nat):Int):=F0
 have hb:((Al (Ak r) n).take (i+1)).sum.toNat*(c*wB (w:Int))<=4000*(6*3):=Bhr F0 (Bhr hc.2 (Z6 (w:Int)).2);rw[e2,Bjn F0 hc.2 hw,ID,ID];have e3:((Al (Ak r) n).take (i+1)).sum.toNat=((Al (Ak r) n).take i).sum.toNat+(Al (Ak r) n)[i].toNat:=F0
 rw[e3,An5]at hb⊢;rw[Ag];omega
theorem Afn(a:Nat)(ha:a<= (Al (Ak r) n).length)(o p:LB)(m:LI)(a':Int)(N:LB)(u:Bool)(v:Int):∀(j i q:Nat),i+j=a->j<q->
  Sa ((Al (Ak r) n).take a) o p (f:Int) (c:Int) (w:Int) (r:Int) (n:Int) m a' N u v q (ID c w (Al (Ak r) n) i) (i:Int)=some (T5 (Ac N) (ID c w (Al (Ak r) n) a))
 |0,i,q+1,hi,_=>by
  obtain rfl:i=a:=F0
  rw[Sa,FB,Abu (by rw[Af,Ac,Anb];simp;omega),VJ,oR]
 |j+1,i,q+1,hi,hq=>by
  have hK:=Aca h2;have hlt:i<(Al (Ak r) n).length:=F0
  have hlt2:i<((Al (Ak r) n).take a).length:=by rw[Anb];omega
  have ih:=Afn a ha o p m a' N u v j (i+1) q F0 F0;rw[Sa,FB,Adi F3,Bn hlt2,Aa,List.getElem_take,Aot h1 h2 hlt,Ag];exact ih
end
theorem Bp9{p:Prop}(h:p:=by simp[Ah,Af,Ap,Ac];omega):p:=h
end Go.Pl
namespace Go.Pl
open Go Go.Lv
variable{p:Prop}{α:Type}
theorem sw(l:List α):geq (Ac l) 0=decide (l=[]):=by
 cases l with
 |nil=>rfl
 |cons x l=>rw[Ar,Ac,Ary,Bj6 Bpj,beq_eq_false_iff_ne];omega
theorem Aho(l:List α):Dx (Ac l) 0=decide (l≠ []):=by
 cases l with
 |nil=>rfl
 |cons x l=>rw[Ap,Ac,Ary,Bk9 Bpj];simp
inductive FitD (o:LB) (f c w r n:Int) (g:LI) (a:Int) (x:LB):Prop
 |new:f=0->c=0->w=0->r=0->n=0->g=[]->a=0->x=[]->FitD o f c w r n g a x
 |head (F C W R N:Nat):HdI f c w r n F C W R N-> (o==([]:LB))=decide (F=1)->g=[]->a=0->x=[]->FitD o f c w r n g a x
 |tab (F C W R N A:Nat):HdI f c w r n F C W R N-> (o==([]:LB))=decide (F=1)->Vy g=true->g.length=(Al (Ak R) N).length->a=A->A<=g.length->FitD o f c w r n g a x
theorem Apv(f c w r n:Int)(o:LB):Qp f c w r n o=Ey f c w r n o:=rfl
theorem Aob(o p:LB)(f c w r n:Int)(g:LI)(a:Int)(x:LB)(u:Bool)(v:Int):
  (BT o p f c w r n g a x u v=some false/\Mt o p f c w r n g a x u v=some false)\/
  (BT o p f c w r n g a x u v=some true/\Mt o p f c w r n g a x u v=Cx o p f c w r n g a x u v/\FitD o f c w r n g a x):=by
 rw[BT,VO,Mt,Yv];by_cases hz:f=0/\c=0/\w=0/\r=0/\n=0
 ·obtain⟨rfl,rfl,rfl,rfl,rfl⟩:=hz;rw[Adi F2,Adi F2,sw,sw,Aho,Aho];by_cases h:g=[]/\a=0/\x=[]
  ·obtain⟨rfl,rfl,rfl⟩:=h;exact .inr ⟨rfl,by rw[Abu F2], .new rfl rfl rfl rfl rfl rfl rfl rfl⟩
  ·refine .inl ⟨?_,?_⟩
   ·congr 1;rw[Bool.eq_false_iff];intro e;simp only[Ajo,Ahz,Ar,Bcg]at e;exact h ⟨e.1.1,e.1.2,e.2⟩
   ·rw[Adi];simp only[Biu,Ahz,Ah,Box];by_cases e1:g=[]
    ·by_cases e2:a=0
     ·exact .inr λe3=>h ⟨e1,e2,e3⟩
     ·exact .inl (.inr e2)
    ·exact .inl (.inl e1)
 ·have hz2:¬(((geq f 0)&&((geq c 0)&&((geq w 0)&&((geq r 0)&&((geq n 0)&&true)))))=true):=by
   simp only[Ajo,Ar,Bcg,Bpb];exact hz
  rw[Abu hz2,Abu hz2];rcases Awn f c w r n with⟨F,C,W,R,N,h⟩|⟨e1,e2⟩
  ·rw[h.P4,h.check,Aa,Aa,Apv];simp only;rw[Abu F2,Abu F2,Ey];have hf:geq f 1=decide (F=1):=by rw[h.ef,Ar,An7];simp;omega
   rw[hf];by_cases hp:(o==([]:LB))=decide (F=1)
   ·rw[Abu (by rw[hp];simp),Aa,Aa,Abu F2,Abu F2,pK,VI,Rk,Ri,sw,sw,Aho];by_cases hg:g=[]
    ·subst hg;rw[Adi Bpj,Adi Bpj];by_cases h':a=0/\x=[]
     ·obtain⟨rfl,rfl⟩:=h';exact .inr ⟨rfl,by rw[Abu F2], .head F C W R N h hp rfl rfl rfl⟩
     ·refine .inl ⟨?_,?_⟩
      ·congr 1;rw[Bool.eq_false_iff];intro e;simp only[Ajo,Ahz,Ar,Bcg]at e;exact h' e
      ·rw[Adi];simp only[Biu,Ahz,Ah,Box];by_cases e2:a=0
       ·exact .inr λe3=>h' ⟨e2,e3⟩
       ·exact .inl e2
    ·rw[Abu (by simpa using hg),Abu (by simpa using hg),YX,gP,Aa,Aa];by_cases ht:Vy g=true
     ·rw[Adi ht,h.Aie];simp only[Aa];by_cases hl:g.length=(Al (Ak R) N).length/\0<=a/\a<=g.length
      ·obtain⟨hl,ha0,ha1⟩:=hl;obtain⟨A,rfl⟩:=Anz ha0;have hA:A<= (Al (Ak R) N).length:=F0
       rw[Abu Bp9,Abu F2,Abu Bp9,Ct,Aa,pN];have hh:=h;clear hf;obtain⟨rfl,rfl,rfl,rfl,rfl,hs,hf⟩:=hh;have hlp:=Afn hs hf A hA o p g (A:Int) x u v A 0 Au F0 (by have:=As;have:=Aca hf;omega);have h0:ID C W (Al (Ak R) N) 0=0:=by rw[ID,Bj8,Bog];simp
       rw[h0,show((0:Nat):Int)=0 from rfl]at hlp;rw[show((A:Int)).toNat=A from rfl,hlp,Aj3 hs hf A hA,Aa];by_cases hx:(x.length:Int)<=ID C W (Al (Ak R) N) A
       ·refine .inr ⟨?_,?_, .tab F C W R N A h hp ht hl rfl F0⟩
        ·rw[OG,Ac,Bk9 hx]
        ·rw[Abu F9]
       ·refine .inl ⟨?_,?_⟩
        ·rw[OG,Ac,Bj6 hx]
        ·rw[Adi F9]
      ·refine .inl ⟨?_,?_⟩
       ·rw[Adi Bp9]
       ·rw[Abu F2,Adi Bp9]
     ·refine .inl ⟨?_,?_⟩
      ·rw[Abu ht,Adi Bqe]
      ·rw[Abu ht,Adi F2,Adi Bpj]
   ·rw[Adi (by simpa using hp),Aa,Aa,Adi F2,Adi F2];exact .inl ⟨rfl,rfl⟩
  ·rw[e1,e2,Aa,Aa];simp only;rw[Adi F2,Adi F2];exact .inl ⟨rfl,rfl⟩
theorem Azt(b:LB)(n:Int):Cd (jO b n).2:=by
 unfold jO
 repeat' split
 all_goals first|decide|exact .inl rfl
theorem Aye(b:LB):(Zi b).2=6\/Cd (Zi b).2:=by
 unfold Zi jy
 repeat' split
 all_goals first|exact .inl rfl|exact .inr (Azt _ _)|exact .inr F2
theorem At6(b:LB):(Lt b).2=6\/Cd (Lt b).2:=by
 unfold Lt
 repeat' split
 all_goals first|exact .inl rfl|exact .inr (.inl rfl)|exact .inr F2
theorem Az6(b:LB):(Df b).2=6\/Cd (Df b).2:=by
 unfold Df;split
 ·exact Aye b
 ·exact At6 b
theorem Ae0(b:LB):∀(j p:Nat),p<=b.length->b.length<j+p->Cd (Cn b j p).2
 |0,p,h1,h2=>by omega
 |j+1,p,h1,h2=>by
  rw[Cn];split
  ·exact .inl rfl
  ·rename_i h6;split
   ·exact(Az6 _).resolve_left h6
   ·rename_i h0;split
    ·exact(by decide:Cd 4)
    ·have hz:Df (b.drop p)=((Df (b.drop p)).1,0):=by rw[Prod.ext_iff];exact⟨rfl,by simpa using h0⟩
     obtain⟨k1,k2⟩:=tP hz;rw[Anx]at k2;split
     ·exact .inl rfl
     ·exact Ae0 b j _ F0 F0
theorem R5(b:LB):Cd (Bs b).2:=by
 unfold Bs Aao;split
 ·exact .inl rfl
 ·exact Ae0 b _ _ F0 F0
theorem Q4(b:LB):0<= (Bs b).2:=(R5 b).nn
theorem Ad9(b:LB):Cd (Eo b).2.2.2.2.2:=by
 unfold Eo
 repeat' split
 all_goals first|decide|exact .inl rfl
theorem Adg(b:LB):0<= (Eo b).2.2.2.2.2:=(Ad9 b).nn
theorem Bby(b:LB){n:Nat}(h:1<=n/\n<=1000):Cd (En b n).2:=by
 unfold En;rw[Abu (λe=>e h)]
 repeat' split
 all_goals first|decide|exact .inl rfl
theorem Adq(b:LB)(n:Nat):0<= (En b n).2:=by
 unfold En
 repeat' split
 all_goals simp
def Y8:LB:=[73,68,51]
def og:LB:=[65,80,69,84,65,71,69,88]
def Pq(b s:LB):Bool:=decide (b.length<s.length)&&(b==s.take b.length)
theorem Agt(b s:LB):Uj b s=some (Pq b s):=by
 rw[Uj,Pq];by_cases h:b.length<s.length
 ·rw[Adi Bpw,Ac,Ct,Aa,Bk9 h,Bmz];rfl
 ·rw[Abu Bpw,Bj6 h];rfl
theorem Bak(b s:LB)(h:b.length<s.length):Kl s b=some (Pq b s):=by
 rw[Kl,Ia,Adi Bqi,Ac,Ct,Aa,Aa,Pq,Bk9 h,Bmz,Ajx];congr 1;rw[An7,Bcg,Bcg];exact eq_comm
theorem vJ{b s:LB}(h:¬b.length<s.length):Pq b s=false:=by rw[Pq,Bj6 h];rfl
theorem Az2(b:LB):Tf b=some (Pq b Y8||Pq b og):=by
 obtain⟨q,hq⟩:∃q,Au=q+3:=⟨Au-3,by have:=As;omega⟩;have l3:Lp b (q+1) 2=some false:=by rw[Lp,Xm,Abu F2];rfl
 have l2:Lp b (q+2) 1=some (Pq b og):=by
  rw[Lp,Xm,Adi F2,show Am ([([73,68,51]:LB),([65,80,69,84,65,71,69,88]:LB)]:List LB) 1=some og from rfl,Aa,show Ae (1:Int) 1=2 from rfl];by_cases h:b.length<og.length
  ·rw[Adi Bpw,Bak b og h,Aa];by_cases hb:Pq b og=true
   ·rw[Adi hb,hb]
   ·rw[Abu hb,l3];simpa using hb
  ·rw[Abu Bpw,l3,vJ h]
 rw[Tf,VM,pA,hq,Lp,Xm,Adi F2,show Am ([([73,68,51]:LB),([65,80,69,84,65,71,69,88]:LB)]:List LB) 0=some Y8 from rfl,Aa,show Ae (0:Int) 1=1 from rfl];by_cases h:b.length<Y8.length
 ·rw[Adi Bpw,Bak b Y8 h,Aa];by_cases hb:Pq b Y8=true
  ·rw[Adi hb,hb];rfl
  ·rw[Abu hb,l2,Bool.eq_false_iff.2 hb];rfl
 ·rw[Abu Bpw,l2,vJ h];rfl
def stS(b:LB):Int×Int×Int×Int×Int×Int×Int:=
 if(Bs b).2=24 then(0,0,0,0,0,0, -1)else if(Bs b).2≠0 then(0,0,0,0,0,0,(Bs b).2)else
 if(Pq (Iv b) Y8||Pq (Iv b) og)=true then(0,0,0,0,0,0, -1)else
 if(Eo (Iv b)).2.2.2.2.2=24 then(0,0,0,0,0,0, -1)else((Bs b).1+22,(Eo (Iv b)).1,(Eo (Iv b)).2.1,(Eo (Iv b)).2.2.1,(Eo (Iv b)).2.2.2.1,(Eo (Iv b)).2.2.2.2.1,(Eo (Iv b)).2.2.2.2.2)
theorem AF(b:LB)(hb:b.length<=100000):AX b=some (stS b):=by
 rw[AX,HB,CE b F0,Aa,stS];have hok:=BP (b:=b);simp only;by_cases h1:(Bs b).2=24
 ·rw[Adi (by rw[Ar];simpa using h1),Adi h1]
 rw[Abu (by rw[Ar];simpa using h1),Abu h1];by_cases h2:(Bs b).2≠0
 ·rw[Adi (by rw[Ah];simpa using h2),Adi h2]
 have h0:(Bs b).2=0:=by simpa using h2
 obtain⟨k1,k2,k3⟩:=hok h0;rw[Abu (by rw[Ah,h0];simp),Abu h2,Bp,Aa,Agt,Aa,show b.drop (Bs b).1.toNat=Iv b from rfl,show([73,68,51]:LB)=Y8 from rfl,show([65,80,69,84,65,71,69,88]:LB)=og from rfl];by_cases h3:Pq (Iv b) Y8=true
 ·rw[Adi h3,h3,Bool.true_or,Adi rfl]
 rw[Abu h3,Agt,Aa,Bool.eq_false_iff.2 h3,Bool.false_or];by_cases h4:Pq (Iv b) og=true
 ·rw[Adi h4,Adi h4]
 have hl:(Iv b).length<=b.length:=by rw[Iv,Anx];omega
 rw[Abu h4,Abu h4,GY,HJ,jE _ F0,Aa];simp only;by_cases h5:(Eo (Iv b)).2.2.2.2.2=24
 ·rw[Adi (by rw[Ar];simpa using h5),Adi h5]
 ·rw[Abu (by rw[Ar];simpa using h5),Abu h5,Ag]
theorem Bqw(h:p:=by simp[Y8];omega):p:=h
theorem Bqx(h:p:=by simp[og];omega):p:=h
end Go.Pl
namespace Go.Pl
open Go Go.Lv
variable{p q:LB}
theorem Pc{n:Nat}(h:n<=p.length):(p++q).take n=p.take n:=by rw[Bg6 h]
theorem G1{i:Nat}(h:i<p.length):(p++q).getD i 0=p.getD i 0:=by
 rw[List.getD_eq_getElem?_getD,List.getElem?_append_left h,<-List.getD_eq_getElem?_getD]
theorem Tc{a w:Nat}(h:a+w<=p.length:=by omega):part (p++q) a w=part p a w:=by rw[part,Pc h,part]
theorem Ax0{s:LB}(h:Pq p s=false)(hl:p.length<s.length):(p++q).take s.length≠s:=by
 intro e;rw[Pq,Bk9 hl,Bmz]at h;have h1:p=s.take p.length:=by
  have:=congrArg (List.take p.length) e;rw[Bor,Bhu F0,Pc (An6 _),Bd0]at this;exact this
 rw[<-h1]at h;simp at h
theorem Ae3(q:LB)(h:(Zi p).2≠24)(h6:Pq p Y8=false):Zi (p++q)=Zi p:=by
 unfold Zi at h⊢;by_cases h3:3<=p.length/\p.take 3=[73,68,51]
 ·have h3':3<= (p++q).length/\ (p++q).take 3=[73,68,51]:=⟨by rw[Afz];omega,by rw[Pc h3.1];exact h3.2⟩;have n1:¬ ¬(3<=p.length/\p.take 3=[73,68,51]):=λf=>f h3;have n2:¬ ¬(3<= (p++q).length/\ (p++q).take 3=[73,68,51]):=λf=>f h3';rw[Abu n1]at h;rw[Abu n1,Abu n2];by_cases h10:p.length<10
  ·rw[Adi h10]at h;exact absurd rfl h
  ·have h10':¬(p++q).length<10:=by rw[Afz];omega
   rw[Abu h10]at h;rw[Abu h10,Abu h10',Tc,G1 F0,G1 F0,G1 F0];split
   ·rfl
   ·rename_i hc;rw[Abu hc]at h;unfold jy jO at h⊢;rw[G1 F0];generalize(gQ (part p 6 4) 0).1+10+(if p.getD 5 0=16 then 10 else 0)=n at h⊢;by_cases c1:4000<n
    ·rw[Adi c1,Adi c1]
    ·rw[Abu c1]at h;rw[Abu c1,Abu c1];by_cases c2:(p.length:Int)<n
     ·rw[Adi c2]at h;exact absurd rfl h
     ·have c2':¬((p++q).length:Int)<n:=by rw[Afz];omega
      rw[Abu c2,Abu c2',Pc F0,Tc]
 ·rw[Adi h3,Adi];rintro⟨_,h5⟩;by_cases hl:3<=p.length
  ·rw[Pc hl]at h5;exact h3 ⟨hl,h5⟩
  ·exact Ax0 h6 Bqw h5
theorem Ao3(q:LB)(h:(Lt p).2≠24)(h6:Pq p og=false):Lt (p++q)=Lt p:=by
 unfold Lt at h⊢;by_cases h3:8<=p.length/\p.take 8=oz
 ·have h3':8<= (p++q).length/\ (p++q).take 8=oz:=⟨by rw[Afz];omega,by rw[Pc h3.1];exact h3.2⟩;have n1:¬ ¬(8<=p.length/\p.take 8=oz):=λf=>f h3;have n2:¬ ¬(8<= (p++q).length/\ (p++q).take 8=oz):=λf=>f h3';rw[Abu n1]at h;rw[Abu n1,Abu n2];by_cases h10:p.length<32
  ·rw[Adi h10]at h;exact absurd rfl h
  ·have h10':¬(p++q).length<32:=by rw[Afz];omega
   have eb:IH (p++q)=IH p:=by rw[IH,IH,Tc,Tc]
   rw[Abu h10]at h;rw[Abu h10,Abu h10',Tc,Tc,eb,Pc (n:=32) F0];split
   ·rfl
   ·rename_i hc;rw[Abu hc]at h;by_cases c2:p.length<Ga (part p 12 4)+32
    ·rw[Adi c2]at h;exact absurd rfl h
    ·have c2':¬(p++q).length<Ga (part p 12 4)+32:=by rw[Afz];omega
     rw[Abu c2,Abu c2',Pc F0]
 ·rw[Adi h3,Adi];rintro⟨_,h5⟩;by_cases hl:8<=p.length
  ·rw[Pc hl]at h5;exact h3 ⟨hl,h5⟩
  ·exact Ax0 h6 Bqx h5
theorem P2(q:LB)(h:(Df p).2≠24)(h6:(Df p).2=6->Pq p Y8=false/\Pq p og=false):Df (p++q)=Df p:=by
 have Bjy:∀s:LB,s.length<=p.length->Pq p s=false:=λs hs=>vJ F0;unfold Df at h h6⊢;by_cases hT:(Zi p).2≠6
 ·rw[Adi hT]at h⊢;have h3:Pq p Y8=false:=by
   refine Bjy _ ?_;unfold Zi at hT;by_cases h3:3<=p.length/\p.take 3=[73,68,51]
   ·simp[Y8];omega
   ·rw[Adi h3]at hT;exact absurd rfl hT
  rw[Ae3 q h h3,Adi hT]
 ·rw[Abu hT]at h h6⊢;have hb:Pq p Y8=false/\Pq p og=false:=by
   by_cases hA:(Lt p).2=6
   ·exact h6 hA
   ·unfold Lt at hA;by_cases h3:8<=p.length/\p.take 8=oz
    ·exact⟨Bjy _ Bqw,Bjy _ Bqx⟩
    ·rw[Adi h3]at hA;exact absurd rfl hA
  have hT':¬(Zi (p++q)).2≠6:=by
   rw[Ae3 q (by simp only[ne_eq,Classical.not_not]at hT;rw[hT];decide) hb.1];exact hT
  rw[Abu hT',Ao3 q h hb.2]
theorem Aap{p:LB}(q:LB):∀(j s j':Nat),s<=p.length->p.length-s<j->p.length+q.length-s<j'-> (Cn p j s).2≠24->
  ((Cn p j s).2=0->Pq (p.drop (s+(Cn p j s).1.sum.toNat)) Y8=false/\Pq (p.drop (s+(Cn p j s).1.sum.toNat)) og=false)->Cn (p++q) j' s=Cn p j s
 |0,s,j',_,hj,_,_,_=>absurd hj (Bix _)
 |j+1,s,0,_,_,hj,_,_=>absurd hj (Bix _)
 |j+1,s,j'+1,hs,hj,hj',h,hb=>by
  have ed:(p++q).drop s=p.drop s++q:=Bch hs;rw[Cn]at h hb⊢;rw[Cn,ed];by_cases h6:(Df (p.drop s)).2=6
  ·rw[Adi h6]at h hb⊢;have hb':=hb rfl;simp only[Bog,Int.toNat_zero,Bli]at hb';rw[P2 q (by rw[h6];decide) (λ_=>hb'),Adi h6]
  ·rw[Abu h6]at h hb⊢;by_cases h0:(Df (p.drop s)).2≠0
   ·rw[Adi h0]at h⊢;rw[P2 q h (λe=>absurd e h6),Abu h6,Adi h0]
   ·rw[Abu h0]at h hb⊢;have h0':(Df (p.drop s)).2=0:=by simpa using h0
    have e1:Df (p.drop s++q)=Df (p.drop s):=P2 q (by rw[h0'];decide) (λe=>absurd e h6);rw[e1,Abu h6,Abu h0];have hok:=tP (b:=p.drop s) (n:=(Df (p.drop s)).1) (by rw[<-h0']);rw[Anx]at hok;by_cases hm:4000<(s:Int)+(Df (p.drop s)).1
    ·rw[Adi hm,Adi hm]
    ·rw[Abu hm]at h hb⊢;rw[Abu hm];have hl1:s+(Df (p.drop s)).1.toNat<=p.length:=F0
     have ih:=Aap (p:=p) q j (s+(Df (p.drop s)).1.toNat) j' hl1 F0 F0;by_cases hr:(Cn p j (s+(Df (p.drop s)).1.toNat)).2=0
     ·rw[Adi hr]at hb⊢;have hle1:s+(Df (p.drop s)).1.toNat<=p.length:=F0
      have hle2:s+(Df (p.drop s)).1.toNat<=4000:=F0
      have hi:=(wS p j (s+(Df (p.drop s)).1.toNat) hle1 hle2 hr).1;have hsum:(0:Int)<= (Cn p j (s+(Df (p.drop s)).1.toNat)).1.sum:=by
       have:∀l:LI,(∀x∈l,10<=x)->0<=l.sum:=by
        intro l
        induction l with
        |nil=>intro _;simp
        |cons a l ih=>intro h;rw[Bha];have:=h a Bpj;have:=ih (λx hx=>h x (by simp[hx]));omega
       exact this _ hi
      rw[ih (by rw[hr];decide) (λ_=>by
       have:=hb rfl;simp only[Bha]at this;rw[show s+((Df (p.drop s)).1+(Cn p j (s+(Df (p.drop s)).1.toNat)).1.sum).toNat=s+(Df (p.drop s)).1.toNat+(Cn p j (s+(Df (p.drop s)).1.toNat)).1.sum.toNat by omega]at this;exact this),Adi hr]
     ·rw[Abu hr]at h⊢;rw[ih h (λe=>absurd e hr),Abu hr]
theorem wo(q:LB)(h:(Bs p).2≠24)(hb:(Bs p).2=0->Pq (Iv p) Y8=false/\Pq (Iv p) og=false):Bs (p++q)=Bs p:=by
 have key:Cn (p++q) ((p++q).length+1) 0=Cn p (p.length+1) 0:=by
  refine Aap q (p.length+1) 0 ((p++q).length+1) (Nat.zero_le _) F0 Bpx ?_ ?_
  ·unfold Bs Aao at h;by_cases h0:(Cn p (p.length+1) 0).2=0
   ·rw[h0];decide
   ·rw[Abu h0]at h;exact h
  ·intro h0;have e:Bs p=(((0:Nat):Int)+(Cn p (p.length+1) 0).1.sum,0):=by unfold Bs Aao;rw[Adi h0]
   have:=hb (by rw[e]);rw[Iv,e]at this;simpa using this
 unfold Bs Aao;rw[key]
theorem Av4(q:LB)(h:(Eo p).2.2.2.2.2≠24):Eo (p++q)=Eo p:=by
 unfold Eo at h⊢;by_cases h1:p.take (min 4 p.length)≠Pu.take (min 4 p.length)
 ·have h1':(p++q).take (min 4 (p++q).length)≠Pu.take (min 4 (p++q).length):=by
   intro e;have hle:min 4 p.length<=min 4 (p++q).length:=by rw[Afz];omega
   have:=congrArg (List.take (min 4 p.length)) e;rw[Bor,Bor,Bhu hle,Pc F0]at this;exact h1 this
  rw[Adi h1,Adi h1']
 ·rw[Abu h1]at h;by_cases h2:p.length<22
  ·rw[Adi h2]at h;exact absurd rfl h
  ·have h2':¬(p++q).length<22:=by rw[Afz];omega
   have h1':¬(p++q).take (min 4 (p++q).length)≠Pu.take (min 4 (p++q).length):=by
    rw[Bhu F0]at h1⊢;rw[Pc F0];exact h1
   have e0:f0 (p++q)=f0 p:=by unfold f0;rw[Tc]
   have e1:f1 (p++q)=f1 p:=by unfold f1;rw[Tc]
   have e2:f2 (p++q)=f2 p:=by unfold f2;rw[Tc]
   have e3:f3 (p++q)=f3 p:=by unfold f3;rw[Tc]
   have e4:f4 (p++q)=f4 p:=by unfold f4;rw[Tc]
   rw[Abu h1,Abu h1',Abu h2,Abu h2',e0,e1,e2,e3,e4,Pc F0,Tc]
theorem Bdc(q:LB)(h:(stS p).2.2.2.2.2.2≠ -1):stS (p++q)=stS p:=by
 unfold stS at h⊢;by_cases h1:(Bs p).2=24
 ·rw[Adi h1]at h;exact absurd rfl h
 rw[Abu h1]at h;by_cases h2:(Bs p).2≠0
 ·rw[wo q h1 (λe=>absurd e h2),Abu h1,Adi h2,Abu h1,Adi h2]
 rw[Abu h2]at h;have h0:(Bs p).2=0:=by simpa using h2
 by_cases h3:(Pq (Iv p) Y8||Pq (Iv p) og)=true
 ·rw[Adi h3]at h;exact absurd rfl h
 rw[Abu h3]at h;have h3f:Pq (Iv p) Y8=false/\Pq (Iv p) og=false:=by
  simp only[Bool.not_eq_true,Boj]at h3;exact h3
 have eF:=wo q h1 (λ_=>h3f);obtain⟨k1,k2,k3⟩:=BP h0;have eH:Iv (p++q)=Iv p++q:=by rw[Iv,eF,Iv,Bch F0]
 by_cases h5:(Eo (Iv p)).2.2.2.2.2=24
 ·rw[Adi h5]at h;exact absurd rfl h
 have eR:Eo (Iv p++q)=Eo (Iv p):=Av4 q h5;have beg:∀s:LB,Pq (Iv p) s=false-> (s=Y8\/s=og)->Pq (Iv p++q) s=false:=by
  intro s hs hk;by_cases hl:(Iv p++q).length<s.length
  ·have hp:(Iv p).length<s.length:=by rw[Afz]at hl;omega
   rw[Pq,Bk9 hp,Bmz]at hs;rw[Pq,Bk9 hl,Bmz];refine beq_eq_false_iff_ne.2 λe=>?_;have:=congrArg (List.take (Iv p).length) e;rw[Pc (An6 _),Bd0,Bor,Bhu Bpx]at this;rw[<-this]at hs;simp at hs
  ·exact vJ hl
 rw[eF,eH,eR,Abu h1,Abu h2,beg _ h3f.1 (.inl rfl),beg _ h3f.2 (.inr rfl),Abu F2,Abu h5,Abu h1,Abu h2,Abu h3]
theorem Av3(q:LB)(n:Nat)(h:(En p n).2≠24):En (p++q) n=En p n:=by
 unfold En at h⊢;by_cases h1:1<=n/\n<=1000
 ·have n1:¬ ¬(1<=n/\n<=1000):=λf=>f h1;rw[Abu n1]at h;rw[Abu n1,Abu n1];by_cases h2:p.length<4*n+4
  ·rw[Adi h2]at h;exact absurd rfl h
  ·have h2':¬(p++q).length<4*n+4:=by rw[Afz];omega
   have et:UM (p++q) n=UM p n:=by
    unfold UM;refine Bn6 λi hi=>?_;rw[List.mem_range]at hi;rw[Tc]
   rw[Abu h2,Abu h2',Pc F0,Tc,et]
 ·rw[Adi h1,Adi h1]
def Aol(g a:LB)(k p o u v:Int)(f:LI)(b:Int)(h:LB)(m:Bool)(n:Int):Option Int:=
if(geq k 0)then
(Ju a).bind λ(al,ba)=>
if(geq ba 24)then
Fj true 0
else
if(Bg ba 0)then
(Ao ba).bind λ(bx,bz)=>
Fj bx bz
else
(Br a al (Ac a)).bind λda=>
(Tf da).bind λan=>
if an then
Fj true 0
else
(Br a al (Ac a)).bind λdb=>
(Nh db).bind λ(ae,af,aa,ag,ab,bb)=>
if(geq bb 24)then
Fj true 0
else
if(Bg bb 0)then
(Ao bb).bind λ(dc,dd)=>
Fj dc dd
else
(
(Br a (Ae al 22) (Ac a)).bind λak=>
(
Ze g ak ae af aa ag ab b m n f h))
else
if(geq (Ac f) 0)then
if(geq k 2)then
if(Cj (Ac a) 8)then
Kw true 0
else
Zb g a k p o u v b m n f h
else
Lj g a k p o u v b m n f h 0
else
if(Cj b (Ac f))then
(Am f b).bind λ_=>
(Am f b).bind λw=>
if(Cj (Ac a) w)then
Gt true 0
else
(Oa g).bind λ(ap,am)=>
if(Bg am 0)then
(Ao am).bind λ(de,df)=>
Gt de df
else
(Eb k p o u v).bind λ(ad,dg)=>
if((Bg dg 0)||(Mk b (Ac ad)))then
(Ao 8).bind λ(dh,di)=>
Gt dh di
else
IX w g a k p o u v b m n ap ad f h
else
if(Dx (Ac a) 4000)then
(Ao 38).bind λ(dj,bf)=>
Bz ((dj==true)&&((geq bf 0)&&true))
else
Zm
theorem zM(d:Bool)(e:Int):Fj d e=Bz (d&&geq e 0):=by
 rw[Fj,dE];cases d<;>simp
theorem Aea(d:Bool)(e:Int):Kw d e=Bz (d&&geq e 0):=by
 rw[Kw,dY];cases d<;>simp
theorem Apz(d:Bool)(e:Int):Gt d e=Bz (d&&geq e 0):=by
 rw[Gt,dN];cases d<;>simp
theorem rp4{o:LB}{f c w r n:Int}{g:LI}{a:Int}{x:LB}{u:Bool}{v:Int}{t1 t2:LB}{t3 t4 t5 t6 t7:Int}{t8:LI}{t9:Int}{t10:LB}{t11:Bool}{t12 e:Int}
  (h:Aj o p f c w r n g a x u v=some (t1,t2,t3,t4,t5,t6,t7,t8,t9,t10,t11,t12,e)):Cx o p f c w r n g a x u v=some (geq e (-1)):=by
 rw[Cx,Yy,h,Aa]
theorem mT{e:Int}(h:0<=e):geq e (-1)=false:=by rw[Ar,beq_eq_false_iff_ne];omega
theorem Auk(o p:LB)(c w r n:Int)(g:LI)(a:Int)(x:LB)(u:Bool)(v:Int)(hp:p.length<=100000):
  ∃B:Bool,Aol o p 0 c w r n g a x u v=Bz B/\Cx o p 0 c w r n g a x u v=some B:=by
 have hT:Aj o p 0 c w r n g a x u v=Aj o p 0 c w r n g a x u v:=rfl
 conv at hT=>rhs;rw[Aj,Bt,Adi F2,AF p hp,Aa,stS]
 have hfn:=Q4 p;have hrn:=Adg (Iv p);rw[Aol,Adi F2,Qi p F0,Aa];have hok:=BP (b:=p);simp only at hT⊢;by_cases h1:(Bs p).2=24
 ·rw[Adi h1]at hT;simp only at hT;rw[Adi F2]at hT;rw[Adi (by rw[Ar];simpa using h1),zM];exact⟨_,rfl,rp4 hT⟩
 rw[Abu h1]at hT;rw[Abu (by rw[Ar];simpa using h1)];by_cases h2:(Bs p).2≠0
 ·rw[Adi h2]at hT;simp only at hT;rw[Adi (by rw[Ah];simpa using h2)]at hT;rw[Adi (by rw[Ah];simpa using h2),Ao,Aa];simp only;rw[zM];exact⟨_,rfl,(rp4 hT).trans (by rw[mT hfn];rfl)⟩
 have h0:(Bs p).2=0:=by simpa using h2
 obtain⟨k1,k2,k3⟩:=hok h0;have hl:(Iv p).length=p.length-(Bs p).1.toNat:=by rw[Iv,Anx]
 rw[Abu h2]at hT;rw[Abu (by rw[Ah,h0];simp),Bp,Aa,Aa,show p.drop (Bs p).1.toNat=Iv p from rfl,Az2,Aa];by_cases h3:(Pq (Iv p) Y8||Pq (Iv p) og)=true
 ·rw[Adi h3]at hT⊢;simp only at hT;rw[Adi F2]at hT;rw[zM];exact⟨_,rfl,rp4 hT⟩
 rw[Abu h3]at hT⊢;rw[QI _ F0,Aa];by_cases h5:(Eo (Iv p)).2.2.2.2.2=24
 ·rw[Adi h5]at hT;simp only at hT;rw[Adi F2]at hT;rw[Adi (by rw[Ar];simpa using h5),zM];exact⟨_,rfl,rp4 hT⟩
 rw[Abu h5]at hT;rw[Abu (by rw[Ar];simpa using h5)];simp only at hT;by_cases h6:(Eo (Iv p)).2.2.2.2.2≠0
 ·rw[Adi (by rw[Ah];simpa using h6)]at hT⊢;rw[Ao,Aa];simp only;rw[zM];exact⟨_,rfl,(rp4 hT).trans (by rw[mT hrn];rfl)⟩
 have h7:(Eo (Iv p)).2.2.2.2.2=0:=by simpa using h6
 have h22:=(tX h7).2.1;rw[Abu (by rw[Ah,h7];simp),Bp,Aa,Hk,Hi,Ey]at hT;rw[Abu (by rw[Ah,h7];simp),Ag,Bp,Aa,Ze,fV,Qp];simp only;by_cases h8:((o==([]:LB)) !=geq (Eo (Iv p)).1 1)=true
 ·rw[Adi h8]at hT⊢;rw[Aa]at hT⊢;rw[Ao,Aa];simp only;rw[zM];exact⟨_,rfl,rp4 hT⟩
 ·rw[Abu h8]at hT⊢;rw[Aa]at hT⊢;rw[Ao,Aa];simp only;rw[zM];exact⟨_,rfl,rp4 hT⟩
section
variable {f c w r n:Int} {F C W R N:Nat} (hd:HdI f c w r n F C W R N)
include hd
theorem HdI.ne0:¬(geq f 0=true):=by
 have:=hd.num;rw[Ar,Bcg,hd.ef];omega
theorem S2(o p:LB)(hp:p.length<=100000)(A:Nat)(hA:A<=p.length)(a:Int)(x:LB)(u:Bool)(v:Int):
  (Lj o p f c w r n a u v [] x (A:Int)=Bz (decide ((En (p.drop A) (Al (Ak R) N).length).2=24)))/\
  Ea p f c w r n (A:Int)=some (if(En (p.drop A) (Al (Ak R) N).length).2=24 then(0,[], -1)else((A:Int)+(4*((En (p.drop A) (Al (Ak R) N).length).1.length:Int)+4),(En (p.drop A) (Al (Ak R) N).length).1,(En (p.drop A) (Al (Ak R) N).length).2))/\
  ((En (p.drop A) (Al (Ak R) N).length).2=0-> (A:Int)+(4*((En (p.drop A) (Al (Ak R) N).length).1.length:Int)+4)<=p.length):=by
 have hs:=wV (p.drop A) (Al (Ak R) N).length Bpy;have hr:=Adv (p.drop A) (Al (Ak R) N).length Bpy;have hok:=jJ (b:=p.drop A) (n:=(Al (Ak R) N).length);have hlen:(En (p.drop A) (Al (Ak R) N).length).1.length<=1000:=by
  unfold En
  repeat' split
  all_goals simp[Vr]
  all_goals omega
 have hfit:(En (p.drop A) (Al (Ak R) N).length).2=0-> (A:Int)+(4*((En (p.drop A) (Al (Ak R) N).length).1.length:Int)+4)<=p.length:=by
  intro h0;obtain⟨k1,k2,k3,k4,_⟩:=hok h0;rw[k1];simp only[Vr];rw[Anx]at k4;omega
 refine⟨?_,?_,hfit⟩
 ·rw[Lj,dO,hd.P4,Aa];simp only;rw[Abu F2,Bp,Aa,Ajx,Ac,hs,Aa];generalize En (p.drop A) (Al (Ak R) N).length=z at*
  obtain⟨z1,z2⟩:=z;simp only at*
  by_cases h1:z2=24
  ·rw[Adi (by rw[Ar];simpa using h1),Aea,Bk9 h1];rfl
  rw[Abu (by rw[Ar];simpa using h1),Bj6 h1];by_cases h2:z2≠0
  ·rw[Adi (by rw[Ah];simpa using h2),Ao,Aa];simp only;rw[Aea];rfl
  ·have h0:z2=0:=by simpa using h2
   have:=hfit h0;rw[Abu (by rw[Ah,h0];simp),Ac,Ad4 A z1.length F0 F0,Bp,Aa,Aea];rfl
 ·rw[Ea,MX,Bp,Aa,hd.Aie,Aa,Ac,Ajx,hr,Aa];generalize En (p.drop A) (Al (Ak R) N).length=z at*
  obtain⟨z1,z2⟩:=z;simp only at*
  rw[LM,ML];by_cases h1:z2=24
  ·rw[Adi (by rw[Ar];simpa using h1),Adi h1]
  ·rw[Abu (by rw[Ar];simpa using h1),Abu h1,Ac,Ad4 A z1.length F0 F0];congr 2
theorem Bcm(o p:LB)(ho:o.length<=64)(hp:p.length<=100000)(a:Int)(x:LB)(u:Bool)(v:Int):
  ∃B:Bool,Aol o p f c w r n [] a x u v=Bz B/\Cx o p f c w r n [] a x u v=some B:=by
 have hT:Aj o p f c w r n [] a x u v=Aj o p f c w r n [] a x u v:=rfl
 conv at hT=>rhs;rw[Aj,Bt,Abu hd.ne0,By,Bw,Adi F2,Fe,Ic]
 rw[Aol,Abu hd.ne0,Adi F2];have fin:∀A:Nat,A<=p.length->Aj o p f c w r n [] a x u v=(Ea p f c w r n (A:Int)).bind (λ(ag,ak,w1)=>
   if(Bg w1 0)then some (o,p,f,c,w,r,n,[],a,x,u,v,w1)else(Br p ag (Ac p)).bind λal=>some (o,al,f,c,w,r,n,ak,a,x,u,v,0))->
   ∃B:Bool,Lj o p f c w r n a u v [] x (A:Int)=Bz B/\Cx o p f c w r n [] a x u v=some B:=by
  intro A hA hT;obtain⟨t1,t2,t3⟩:=S2 hd o p hp A hA a x u v;have hnn:=Adq (p.drop A) (Al (Ak R) N).length;rw[t2,Aa]at hT;rw[t1];generalize En (p.drop A) (Al (Ak R) N).length=z at*
  obtain⟨z1,z2⟩:=z;simp only at*
  by_cases h1:z2=24
  ·rw[Adi h1]at hT;simp only at hT;rw[Adi F2]at hT;exact⟨_,rfl,(rp4 hT).trans (by rw[Bk9 h1];rfl)⟩
  rw[Abu h1]at hT;simp only at hT;by_cases h2:z2≠0
  ·rw[Adi (by rw[Ah];simpa using h2)]at hT;exact⟨_,rfl,(rp4 hT).trans (by rw[Bj6 h1,mT hnn])⟩
  ·have h0:z2=0:=by simpa using h2
   have:=t3 h0;rw[Abu (by rw[Ah,h0];simp),Bp,Aa]at hT;exact⟨_,rfl,(rp4 hT).trans (by rw[Bj6 h1];rfl)⟩
 by_cases h2:geq f 2=true
 ·rw[Adi h2]at hT⊢;by_cases h8:p.length<8
  ·rw[Adi F3]at hT⊢;rw[Aa]at hT;simp only at hT;rw[Adi F2]at hT;rw[Aea];exact⟨_,rfl,rp4 hT⟩
  ·rw[Abu F3]at hT⊢;have h8':(p.take 8).length=8:=by rw[Anb];omega
   rw[Ct,Aa,iO o ho,Aa]at hT;rw[Zb,fP,Ct,Aa,show(8:Int).toNat=8 from rfl,G8 h8' ho,Aa];rw[show(8:Int).toNat=8 from rfl]at hT;simp only;rw[fK,dS,Abu F2];by_cases he:(p.take 8==Fg (Uo o).toNat 8)=true
   ·rw[Abu (by rw[bne,he];decide)]at hT;rw[Abu (by rw[he];decide)];exact fin 8 F0 hT
   ·have he':(p.take 8==Fg (Uo o).toNat 8)=false:=by simpa using he
    rw[Adi (by rw[bne,he'];decide),Aa]at hT;simp only at hT;rw[Adi F2]at hT;rw[Adi (by rw[he'];decide),Ao,Aa];simp only;rw[Aea];exact⟨_,rfl,rp4 hT⟩
 ·rw[Abu h2]at hT⊢;exact fin 0 F0 hT
end
theorem Bp5{p:Prop}(h:p:=by rw[Ar,Ac];simp;omega):p:=h
theorem Bqp{p:Prop}(h:p:=by rw[Ar,Ac];simp):p:=h
end Go.Pl
namespace Go.Pl
open Go Go.Lv
theorem Awh{f c w r n:Int}{F C W R N:Nat}(hd:HdI f c w r n F C W R N)(o p:LB)(ho:o.length<=64)(hp:p.length<=100000)(g:LI)(hg:Vy g=true)(hl:g.length=(Al (Ak R) N).length)(A:Nat)(hA:A<=g.length)(x:LB)(hx:x.length<=14000000)(u:Bool)(v:Int):
  ∃B:Bool,Aol o p f c w r n g (A:Int) x u v=Bz B/\Cx o p f c w r n g (A:Int) x u v=some B:=by
 have hc:=hd.ec;subst hc;have hg':=hg;rw[Vy,Ajo,Ahz,FI g 100000 F0]at hg';obtain⟨⟨g1,g2⟩,g5,g6⟩:=hg';have hT:Aj o p f (C:Int) w r n g (A:Int) x u v=Aj o p f (C:Int) w r n g (A:Int) x u v:=rfl
 conv at hT=>rhs;rw[Aj,Bt,Abu hd.ne0,By,Bw,Abu (by rw[Ar,Ac];simp;intro e;subst e;simp at g1)]
 rw[Aol,Abu hd.ne0,Abu (by rw[Ar,Ac];simp;intro e;subst e;simp at g1)];by_cases hA2:A=g.length
 ·subst hA2;rw[Adi Bqp]at hT;rw[Abu Bp6];by_cases h4:4000<p.length
  ·rw[Adi F9]at hT⊢;rw[Ao,Aa];simp only;exact⟨_,rfl,rp4 hT⟩
  ·rw[Abu F9]at hT⊢;rw[Zm,fA];exact⟨_,rfl,rp4 hT⟩
 ·have hlt:A<g.length:=F0
  have h5:=g5 g[A] (Avu hlt);have hsum:=P5 g5 g[A] (Avu hlt);rw[Abu Bp5,Dp,Et,Bn hlt,Aa]at hT;rw[Adi F3,Bn hlt,Aa,Aa];by_cases hw:(p.length:Int)<g[A]
  ·rw[Adi (by rw[Af,Ac];simpa using hw)]at hT⊢;rw[Aa]at hT;simp only at hT;rw[Adi F2]at hT;rw[Apz];exact⟨_,rfl,rp4 hT⟩
  rw[Abu (by rw[Af,Ac];simpa using hw)]at hT⊢;have FA:=hd.num;have hlt2:A<(Al (Ak R) N).length:=F0
  obtain⟨m,hm,m1,m2⟩:=Wn (Eh R) FA.2.2.2.2.1 (Avu hlt2);have hb:Bd w:=by rw[hd.ew];unfold Bd;omega
  obtain⟨xs,e,d1,d2,d3,d4⟩:=HM (bits:=w) (ch:=C) (n:=m) (t:=Mn o) (p.take g[A].toNat) hb (Ks o) FA.2.1.1 FA.2.1.2 m1 F0;have hnn:=vM hb (Ks o) FA.2.1.1 FA.2.1.2 m1 F0 d2;rw[YN o ho,Aa];simp only;rw[Abu F2,hd.P4,Aa];simp only;rw[Abu (by simp[Ah,Ec,Ac];omega),IX,KV,Bn hlt2,Aa,Ct,Aa,Aa,EI,Aa];simp only;rw[hm,d1,Aa];simp only;rw[TO o ho,Aa]at hT;simp only at hT;rw[Ct,Aa,Fx,Aa]at hT;simp only at hT;rw[hd.Aie,Aa,Bn hlt2,Aa,Aa,hm]at hT;rw[d2,Aa]at hT;simp only at hT;rw[Ev,Er]at hT;rw[NA,Zp];by_cases he:e≠0
  ·rw[Adi (by rw[Ah];simpa using he)]at hT⊢;rw[Aa]at hT;simp only at hT;rw[Adi (by rw[Ah];simpa using he)]at hT;rw[Ao,Aa];simp only;rw[Apz];exact⟨_,rfl,(rp4 hT).trans (by rw[mT hnn];rfl)⟩
  ·have he0:e=0:=by simpa using he
   obtain⟨k1,k2,k3⟩:=d3 he0;have hbl:=BL w xs;rw[Abu (by rw[Ah,he0];simp)]at hT⊢;rw[QC hb k2 k1,Aa,Aa]at hT;simp only at hT;rw[Abu F2,Bf F7,Aa,Awv,Bf,Aa,Aa,Bp,Aa]at hT;rw[bC hb k2 k1,Aa];simp only;rw[Abu F2,Bf,Aa,Bp,Aa,Apz];exact⟨_,rfl,rp4 hT⟩
theorem Alj(a:LI)(b:Int)(ha:a.length<=100):∀(j i q:Nat),i+j=a.length->j<q->∃r,Cg a b q (i:Int)=some r/\Mk r 0=(a.drop i).any λy=>b==y
 |0,i,q+1,hi,_=>by
  refine⟨-1,?_,?_⟩
  ·rw[Cg,Fl,Abu F3];rfl
  ·rw[show i=a.length by omega,Bl3];rfl
 |j+1,i,q+1,hi,hq=>by
  have hlt:i<a.length:=F0
  obtain⟨r,h1,h2⟩:=Alj a b ha j (i+1) q F0 F0;rw[Cg,Fl,Adi F3,Bn hlt,Aa,drop_cons hlt,List.any_cons];by_cases h:b=a[i]
  ·rw[Adi (by rw[Ar];simpa using h)];refine⟨_,rfl,?_⟩;rw[Ec,Bk9 F0,h];simp
  ·rw[Abu (by rw[Ar];simpa using h),Ag];refine⟨r,h1,?_⟩;rw[h2,beq_eq_false_iff_ne.2 h,Bool.false_or]
theorem Azg(v:Int):∃B:Bool,Tl v=some B/\AW v=some B:=by
 obtain⟨r,h1,h2⟩:=Alj [4,12,16,22,24,26,38] v F2 7 0 Au rfl F8;refine⟨_,?_,rfl⟩;rw[Tl,Iw,Kv,Jc,Pw];have h1':Cg [4,12,16,22,24,26,38] v Au 0=some r:=h1;rw[h1',Aa,Aa,h2];simp only[List.drop_zero,List.any_cons,List.any_nil,Bool.or_false,Ar,Bool.or_assoc]
theorem A8(B:Bool):Bz B=some (if B=true then 0 else 8):=by
 rw[Bz,fR];cases B<;>rfl
theorem Bek(a b:LB)(f g h k m:Int)(n:LI)(o:Int)(p:LB)(u:Bool)(v:Int)(hb:b.length<=16000000)(hn:n.length<=16000000)(hp:p.length<=16000000):
  Es a b f g h k m n o p u v=some (a,b,f,g,h,k,m,n,o,p,u,v):=by
 rw[Es,Ir,Bf F7,Aa,Aa,Ir,Bf F7,Aa,Aa,Hq,Bf F7,Aa,Aa];rfl
theorem Ad3(o p:LB)(f c w r n:Int)(g:LI)(a:Int)(x:LB)(u:Bool)(v:Int)(hp:p.length<=100000)(hg:g.length<=100000)(hx:x.length<=14000000):
  ∃E,Pv o p f c w r n g a x u v=some E/\Eg o p f c w r n g a x u v=some E:=by
 rw[Pv,CI,Eg];by_cases ho:64<o.length
 ·rw[Adi F9,Adi F9];exact⟨8,rfl,rfl⟩
 have hO:¬(Dx (Ac o) 64=true):=by rw[Ap,Ac];simp;omega
 rw[Abu hO,Abu hO];by_cases hw:(geq v 0&& !u)=true
 ·rw[Adi hw,Adi hw,Bek o p f c w r n g a x u v F0 F0 F0,Aa];simp only;rcases Aob o p f c w r n g a x u v with⟨e1,e2⟩|⟨e1,e2,hd⟩
  ·rw[e1,e2,Aa,Aa,Abu F2,Adi F2,A8];exact⟨8,rfl,rfl⟩
  ·rw[e1,e2,Aa,Adi rfl];have key:∃B:Bool,Aol o p f c w r n g a x u v=Bz B/\Cx o p f c w r n g a x u v=some B:=by
    cases hd with
    |new e1 e2 e3 e4 e5 e6 e7 e8=>subst e1;exact Auk o p c w r n g a x u v hp
    |head F C W R N h hpw e6 e7 e8=>subst e6;exact Bcm h o p F0 hp a x u v
    |tab F C W R N A h hpw ht hl ea hA=>subst ea;exact Awh h o p F0 hp g ht hl A hA x hx u v
   obtain⟨B,k1,k2⟩:=key;rw[k2,Aa];refine⟨if B=true then 0 else 8,k1.trans (A8 B),?_⟩;cases B<;>rfl
 ·rw[Abu hw,Abu hw];by_cases hl:(geq (Ac p) 0&&geq (Ac g) 0)=true
  ·rw[Adi hl,Adi hl];generalize(geq f 0&&(geq c 0&&(geq w 0&&(geq r 0&&(geq n 0&&true)))))=z;by_cases hz:((z&&geq a 0)&&T5 (Ac x) 12000)=true
   ·rw[Adi hz];simp only[Ajo,OG,Ac,Ahz]at hz;obtain⟨⟨z1,z2⟩,z3⟩:=hz;have hN:¬((!(z&&geq a 0)||Dx (Ac x) 12000)=true):=by rw[z1,z2,Ap,Ac];simp;omega
    rw[Abu hN];by_cases hv:v=0
    ·have v1:geq v 0=true:=by rw[Ar];simpa using hv
     have v2:¬(Bg v 0=true):=by rw[Ah];simpa using hv
     rw[Adi v1,Abu v2,A8];exact⟨0,rfl,rfl⟩
    ·have v1:¬(geq v 0=true):=by rw[Ar];simpa using hv
     have v2:Bg v 0=true:=by rw[Ah];simpa using hv
     rw[Abu v1,Adi v2];obtain⟨B,k1,k2⟩:=Azg v;rw[k1,k2,Aa,Aa,A8,A8];cases u
     ·refine⟨if B=true then 0 else 8,Bpj,?_⟩;cases B<;>rfl
     ·exact⟨8,rfl,rfl⟩
   ·rw[Abu hz,Adi,A8]
    ·exact⟨8,rfl,rfl⟩
    ·simp only[Ajo,OG,Ac,Ahz]at hz;simp only[Biu,Bgu,Ap,Ac,Ahz];by_cases hz2:(z&&geq a 0)=true
     ·rw[Ajo]at hz2;exact .inr (by have hq:¬((x.length:Int)<=12000):=λh=>hz ⟨hz2,h⟩;omega)
     ·exact .inl (by simpa using hz2)
  ·rw[Abu hl,Abu hl,Abu Bpj,Adi Bpj,A8];exact⟨8,rfl,rfl⟩
def ZV(bk:LB->Int->Int->Int->Int->Int->Int->LI->LB->Ax)(o:LB)(u:Bool)(v:Int):LB->Int->Int->Int->Int->Int->Int->LI->LB->Ax:=
 Jn (Qd bk o u v) (Ut bk o u v) (Mr bk o u v) (BR bk o u v) (Qe bk o u v) (Qc bk o u v) (CW bk o u v) (Cq bk o u v) (CN bk o u v) o u v
structure SzD (p:LB) (g:LI) (a:Int) (x:LB):Prop where
 hp:p.length<=100000
 hg:g.length<=1000
 hx:x.length+12000*(g.length-a.toNat)<=13000000
def muD(f:Int)(g:LI)(a:Int):Nat:=if f=0 then 1003 else if g=[]then 1002 else g.length-a.toNat+1
section
variable {bk:LB->Int->Int->Int->Int->Int->Int->LI->LB->Ax} {o p:LB} {f c w r n:Int} {g:LI} {a:Int} {x:LB} {u:Bool} {v:Int}
theorem Ba1(hp:p.length<=100000)(hg:g.length<=1000)(hx:x.length<=13000000):Es o p f c w r n g a x u v=some (o,p,f,c,w,r,n,g,a,x,u,v):=by
 rw[Es,Ir,Bf F7,Aa,Aa,Ir,Bf F7,Aa,Aa,Hq,Bf F7,Aa,Aa];rfl
theorem Bly(h:SzD p g a x)(e:Int):Cq bk o u v p f c w r n a true e g x=some (o,p,f,c,w,r,n,g,a,x,u,v,0):=by
 rw[Cq,OT,Adi rfl,Ba1 h.hp h.hg (by have:=h.hx;omega),Aa]
theorem Bkt{e:Int}(h:e≠0):Cq bk o u v p f c w r n a false e g x=some (o,[],0,0,0,0,0,[],0,x,false,e,e):=by
 rw[Cq,OT,Abu F2,Adi (by rw[Ah];simpa using h)];rfl
inductive StepR (bk:LB->Int->Int->Int->Int->Int->Int->LI->LB->Ax) (o p:LB) (f c w r n:Int) (g:LI) (a:Int) (x:LB) (u:Bool) (v:Int):Prop
 |wait:ZV bk o u v p f c w r n a g x=some (o,p,f,c,w,r,n,g,a,x,u,v,0)->Aj o p f c w r n g a x u v=some (o,p,f,c,w,r,n,g,a,x,u,v, -1)->StepR bk o p f c w r n g a x u v
 |err (e:Int) {t1 t2:LB} {t3 t4 t5 t6 t7:Int} {t8:LI} {t9:Int} {t10:LB} {t11:Bool} {t12:Int}:0<e->ZV bk o u v p f c w r n a g x=some (o,[],0,0,0,0,0,[],0,x,false,e,e)->
   Aj o p f c w r n g a x u v=some (t1,t2,t3,t4,t5,t6,t7,t8,t9,t10,t11,t12,e)->StepR bk o p f c w r n g a x u v
 |next (p':LB) (f' c' w' r' n':Int) (g':LI) (a':Int) (x':LB):ZV bk o u v p f c w r n a g x=bk p' f' c' w' r' n' a' g' x'->Aj o p f c w r n g a x u v=some (o,p',f',c',w',r',n',g',a',x',u,v,0)->
   FitD o f' c' w' r' n' g' a' x'->SzD p' g' a' x'->p'.length<=p.length->muD f' g' a'<muD f g a->StepR bk o p f c w r n g a x u v
theorem f62{d:Bool}{e:Int}:Qd bk o u v a g x d e p f c w r n=Cq bk o u v p f c w r n a d e g x:=rfl
theorem f75{d:Bool}{e:Int}:Mr bk o u v f c w r n a x d e p g=Cq bk o u v p f c w r n a d e g x:=rfl
theorem f78{d:Bool}{e:Int}:Qc bk o u v f c w r n g d e p a x=Cq bk o u v p f c w r n a d e g x:=rfl
theorem mkW(hZ:SzD p g a x)(hF:ZV bk o u v p f c w r n a g x=Cq bk o u v p f c w r n a true 0 g x)(hT:Aj o p f c w r n g a x u v=some (o,p,f,c,w,r,n,g,a,x,u,v, -1)):StepR bk o p f c w r n g a x u v:=
 .wait (hF.trans (Bly hZ 0)) hT
theorem mkE{e:Int}{p2:LB}{f2 c2 w2 r2 n2 a2:Int}{g2:LI}{t1 t2:LB}{t3 t4 t5 t6 t7:Int}{t8:LI}{t9:Int}{t10:LB}{t11:Bool}{t12:Int}(he:0<e)(hF:ZV bk o u v p f c w r n a g x=Cq bk o u v p2 f2 c2 w2 r2 n2 a2 false e g2 x)
  (hT:Aj o p f c w r n g a x u v=some (t1,t2,t3,t4,t5,t6,t7,t8,t9,t10,t11,t12,e)):StepR bk o p f c w r n g a x u v:= .err e he (hF.trans (Bkt F0)) hT
theorem HdI.fnz{F C W R N:Nat}(h:HdI f c w r n F C W R N):f≠0:=by
 have:=h.num;rw[h.ef];omega
theorem Ayy(hp:p.length<=100000):StepR bk o p 0 0 0 0 0 [] 0 [] u v:=by
 have hZ:SzD p [] 0 []:=⟨hp,Bpj,Bpj⟩;have hT:Aj o p 0 0 0 0 0 [] 0 [] u v=Aj o p 0 0 0 0 0 [] 0 [] u v:=rfl
 conv at hT=>rhs;rw[Aj,Bt,Adi F2,AF p hp,Aa,stS]
 have hF:ZV bk o u v p 0 0 0 0 0 0 [] []=ZV bk o u v p 0 0 0 0 0 0 [] []:=rfl
 conv at hF=>rhs;rw[ZV,Jn,Adi F2,Qi p F0,Aa]
 have hfn:=Q4 p;have hrn:=Adg (Iv p);have hok:=BP (b:=p);simp only at hT hF;by_cases h1:(Bs p).2=24
 ·rw[Adi h1]at hT;simp only at hT;rw[Adi F2]at hT;rw[Adi (by rw[Ar];simpa using h1)]at hF;exact mkW hZ hF hT
 rw[Abu h1]at hT;rw[Abu (by rw[Ar];simpa using h1)]at hF;by_cases h2:(Bs p).2≠0
 ·rw[Adi h2]at hT;simp only at hT;rw[Adi (by rw[Ah];simpa using h2)]at hT;rw[Adi (by rw[Ah];simpa using h2),Ao,Aa]at hF;exact mkE F0 hF hT
 have h0:(Bs p).2=0:=by simpa using h2
 obtain⟨k1,k2,k3⟩:=hok h0;have hl:(Iv p).length=p.length-(Bs p).1.toNat:=by rw[Iv,Anx]
 rw[Abu h2]at hT;rw[Abu (by rw[Ah,h0];simp),Bp,Aa,Aa,show p.drop (Bs p).1.toNat=Iv p from rfl,Az2,Aa]at hF;by_cases h3:(Pq (Iv p) Y8||Pq (Iv p) og)=true
 ·rw[Adi h3]at hT hF;simp only at hT;rw[Adi F2]at hT;exact mkW hZ hF hT
 rw[Abu h3]at hT hF;rw[QI _ F0,Aa]at hF;by_cases h5:(Eo (Iv p)).2.2.2.2.2=24
 ·rw[Adi h5]at hT;simp only at hT;rw[Adi F2]at hT;rw[Adi (by rw[Ar];simpa using h5)]at hF;exact mkW hZ hF hT
 rw[Abu h5]at hT;rw[Abu (by rw[Ar];simpa using h5)]at hF;simp only at hT;by_cases h6:(Eo (Iv p)).2.2.2.2.2≠0
 ·rw[Adi (by rw[Ah];simpa using h6)]at hT hF;rw[Ao,Aa]at hF;exact mkE (by have:=hrn;generalize(Eo (Iv p)).2.2.2.2.2=z at *;omega) (hF.trans f62) hT
 have h7:(Eo (Iv p)).2.2.2.2.2=0:=by simpa using h6
 obtain⟨r1,h22,r3,r4⟩:=tX h7;rw[Abu (by rw[Ah,h7];simp),Bp,Aa,Hk,Hi,Ey]at hT;rw[Abu (by rw[Ah,h7];simp),Ag,Bp,Aa,Ut,kO,Qp]at hF;simp only at hT hF;by_cases h8:((o==([]:LB)) !=geq (Eo (Iv p)).1 1)=true
 ·rw[Adi h8]at hT hF;rw[Aa]at hT hF;rw[Ao,Aa]at hF;simp only at hF;exact mkE F2 (hF.trans f62) hT
 ·rw[Abu h8]at hT hF;rw[Aa]at hT hF;rw[Ao,Aa]at hF;have hd:HdI (Eo (Iv p)).1 (Eo (Iv p)).2.1 (Eo (Iv p)).2.2.1 (Eo (Iv p)).2.2.2.1 (Eo (Iv p)).2.2.2.2.1 (f0 (Iv p)) (f1 (Iv p)) (f2 (Iv p)) (f3 (Iv p)) (f4 (Iv p)):=by
   constructor<;>first|(rw[r1])|assumption
  refine .next _ _ _ _ _ _ [] 0 [] (by exact hF) hT (.head _ _ _ _ _ hd ?_ rfl rfl rfl) ⟨by rw[Anx];omega,Bpj,Bpj⟩ Bpy ?_
  ·have e:geq (Eo (Iv p)).1 1=decide (f0 (Iv p)=1):=by rw[hd.ef,Ar,An7];simp;omega
   rw[<-e];simpa using h8
  ·rw[muD,muD,Abu hd.fnz,Adi rfl,Adi rfl];omega
section
variable {F C W R N:Nat} (hd:HdI f c w r n F C W R N)
include hd
theorem Asy(hp:p.length<=100000)(hpw:(o==([]:LB))=decide (F=1))(A:Nat)(hA:A<=p.length)
  (hT:Aj o p f c w r n [] 0 [] u v=(Ea p f c w r n (A:Int)).bind (λ(ag,ak,w1)=>if(Bg w1 0)then some (o,p,f,c,w,r,n,([]:LI),(0:Int),([]:LB),u,v,w1)else(Br p ag (Ac p)).bind λal=>some (o,al,f,c,w,r,n,ak,(0:Int),([]:LB),u,v,(0:Int))))
  (hF:ZV bk o u v p f c w r n 0 [] []=Qe bk o u v p f c w r n 0 [] [] (A:Int)):StepR bk o p f c w r n [] 0 [] u v:=by
 have hZ:SzD p [] 0 []:=⟨hp,Bpj,Bpj⟩;obtain⟨_,t2,t3⟩:=S2 hd o p hp A hA 0 [] u v;have hs:=wV (p.drop A) (Al (Ak R) N).length Bpy;have hnn:=Adq (p.drop A) (Al (Ak R) N).length;have hok:=jJ (b:=p.drop A) (n:=(Al (Ak R) N).length);rw[t2,Aa]at hT;rw[Qe,CX,hd.P4,Aa]at hF;simp only at hF;rw[Abu F2,Bp,Aa,Ajx,Ac,hs,Aa]at hF;generalize hz:En (p.drop A) (Al (Ak R) N).length=z at*
 obtain⟨z1,z2⟩:=z;simp only at*
 by_cases h1:z2=24
 ·rw[Adi h1]at hT;simp only at hT;rw[Adi F2]at hT;rw[Adi (by rw[Ar];simpa using h1)]at hF;exact mkW hZ hF hT
 rw[Abu h1]at hT;rw[Abu (by rw[Ar];simpa using h1)]at hF;simp only at hT;by_cases h2:z2≠0
 ·rw[Adi (by rw[Ah];simpa using h2)]at hT hF;rw[Ao,Aa]at hF;exact mkE F0 hF hT
 ·have h0:z2=0:=by simpa using h2
  subst h0;have h3:=t3 rfl;obtain⟨k1,k2,k3,k4,k5,k6⟩:=hok rfl;simp only[Aki,Bpb]at k1;have hl:z1.length=(Al (Ak R) N).length:=by rw[k1];exact Vr _ _
  rw[<-k1]at k5 k6;rw[Abu F2,Bp,Aa]at hT;rw[Abu F2,Ac,Ad4 A z1.length F0 F0,Bp,Aa]at hF;have hne:z1≠ []:=by intro e;rw[e]at hl;simp at hl;omega
  refine .next _ _ _ _ _ _ z1 0 [] (by exact hF) hT (.tab _ _ _ _ _ 0 hd hpw ?_ hl rfl F0) ⟨by rw[Anx];omega,F0,by simp;omega⟩ Bpy ?_
  ·rw[Vy,Ajo,Ahz,FI z1 100000 F0];exact⟨F0,k5,k6⟩
  ·rw[muD,muD,Abu hd.fnz,Abu hd.fnz,Adi rfl,Abu hne];simp;omega
theorem Avx(ho:o.length<=64)(hp:p.length<=100000)(hpw:(o==([]:LB))=decide (F=1)):StepR bk o p f c w r n [] 0 [] u v:=by
 have hZ:SzD p [] 0 []:=⟨hp,Bpj,Bpj⟩;have hT:Aj o p f c w r n [] 0 [] u v=Aj o p f c w r n [] 0 [] u v:=rfl
 conv at hT=>rhs;rw[Aj,Bt,Abu hd.ne0,By,Bw,Adi F2,Fe,Ic]
 have hF:ZV bk o u v p f c w r n 0 [] []=ZV bk o u v p f c w r n 0 [] []:=rfl
 conv at hF=>rhs;rw[ZV,Jn,Abu hd.ne0,Adi F2]
 by_cases h2:geq f 2=true
 ·rw[Adi h2]at hT hF;by_cases h8:p.length<8
  ·rw[Adi F3]at hT hF;rw[Aa]at hT;simp only at hT;rw[Adi F2]at hT;exact mkW hZ hF hT
  ·rw[Abu F3]at hT hF;have h8':(p.take 8).length=8:=by rw[Anb];omega
   rw[Ct,Aa,iO o ho,Aa]at hT;rw[BR,OZ,Ct,Aa,show(8:Int).toNat=8 from rfl,G8 h8' ho,Aa]at hF;rw[show(8:Int).toNat=8 from rfl]at hT;simp only at hF;rw[iQ,QS,Abu F2]at hF;by_cases he:(p.take 8==Fg (Uo o).toNat 8)=true
   ·rw[Abu (by rw[bne,he];decide)]at hT;rw[Abu (by rw[he];decide)]at hF;exact Asy hd hp hpw 8 F0 hT hF
   ·have he':(p.take 8==Fg (Uo o).toNat 8)=false:=by simpa using he
    rw[Adi (by rw[bne,he'];decide),Aa]at hT;simp only at hT;rw[Adi F2]at hT;rw[Adi (by rw[he'];decide),Ao,Aa]at hF;simp only at hF;exact mkE F2 (hF.trans f75) hT
 ·rw[Abu h2]at hT hF;exact Asy hd hp hpw 0 F0 hT hF
theorem Bbc(ho:o.length<=64)(hpw:(o==([]:LB))=decide (F=1))(hg:Vy g=true)(hl:g.length=(Al (Ak R) N).length)(A:Nat)(hA:A<=g.length)(hZ:SzD p g (A:Int) x):StepR bk o p f c w r n g (A:Int) x u v:=by
 have hp:=hZ.hp;have hx:=hZ.hx;have hc:=hd.ec;subst hc;have hg':=hg;rw[Vy,Ajo,Ahz,FI g 100000 F0]at hg';obtain⟨⟨g1,g2⟩,g5,g6⟩:=hg';have hgn:¬(geq (Ac g) 0=true):=by rw[Ar,Ac];simp;intro e;subst e;simp at g1
 have hT:Aj o p f (C:Int) w r n g (A:Int) x u v=Aj o p f (C:Int) w r n g (A:Int) x u v:=rfl
 conv at hT=>rhs;rw[Aj,Bt,Abu hd.ne0,By,Bw,Abu hgn]
 have hF:ZV bk o u v p f (C:Int) w r n (A:Int) g x=ZV bk o u v p f (C:Int) w r n (A:Int) g x:=rfl
 conv at hF=>rhs;rw[ZV,Jn,Abu hd.ne0,Abu hgn]
 by_cases hA2:A=g.length
 ·subst hA2;rw[Adi Bqp]at hT;rw[Abu Bp6]at hF;by_cases h4:4000<p.length
  ·rw[Adi F9]at hT hF;rw[Ao,Aa]at hF;exact mkE F2 hF hT
  ·rw[Abu F9]at hT hF;exact mkW hZ hF hT
 ·have hlt:A<g.length:=F0
  have h5:=g5 g[A] (Avu hlt);have hsum:=P5 g5 g[A] (Avu hlt);rw[Abu Bp5,Dp,Et,Bn hlt,Aa]at hT;rw[Adi F3,Bn hlt,Aa,Aa]at hF;by_cases hw:(p.length:Int)<g[A]
  ·rw[Adi (by rw[Af,Ac];simpa using hw)]at hT hF;rw[Aa]at hT;simp only at hT;rw[Adi F2]at hT;exact mkW hZ hF hT
  rw[Abu (by rw[Af,Ac];simpa using hw)]at hT hF;have FA:=hd.num;have hlt2:A<(Al (Ak R) N).length:=F0
  obtain⟨m,hm,m1,m2⟩:=Wn (Eh R) FA.2.2.2.2.1 (Avu hlt2);have hb:Bd w:=by rw[hd.ew];unfold Bd;omega
  obtain⟨xs,e,d1,d2,d3,d4⟩:=HM (bits:=w) (ch:=C) (n:=m) (t:=Mn o) (p.take g[A].toNat) hb (Ks o) FA.2.1.1 FA.2.1.2 m1 F0;have hnn:=vM hb (Ks o) FA.2.1.1 FA.2.1.2 m1 F0 d2;rw[YN o ho,Aa]at hF;simp only at hF;rw[Abu F2,hd.P4,Aa]at hF;simp only at hF;rw[Abu (by simp[Ah,Ec,Ac];omega),CW,OY,Bn hlt2,Aa,Ct,Aa,Aa,EI,Aa]at hF;simp only at hF;rw[hm,d1,Aa]at hF;simp only at hF;rw[TO o ho,Aa]at hT;simp only at hT;rw[Ct,Aa,Fx,Aa]at hT;simp only at hT;rw[hd.Aie,Aa,Bn hlt2,Aa,Aa,hm]at hT;rw[d2,Aa]at hT;simp only at hT;rw[Ev,Er]at hT;rw[PX,CF]at hF;by_cases he:e≠0
  ·rw[Adi (by rw[Ah];simpa using he)]at hT hF;rw[Aa]at hT;simp only at hT;rw[Adi (by rw[Ah];simpa using he)]at hT;rw[Ao,Aa]at hF;exact mkE F0 hF hT
  ·have he0:e=0:=by simpa using he
   obtain⟨k1,k2,k3⟩:=d3 he0;have hbl:=BL w xs;have ht:((A:Int)).toNat=A:=rfl;rw[ht]at hx;rw[Abu (by rw[Ah,he0];simp)]at hT hF;rw[QC hb k2 k1,Aa,Aa]at hT;simp only at hT;rw[Abu F2,Bf F7,Aa,Awv,Bf,Aa,Aa,Bp,Aa,Ag]at hT;rw[bC hb k2 k1,Aa]at hF;simp only at hF;rw[Abu F2,Bf,Aa,Bp,Aa,Ag]at hF;have e1:((A:Int)+1).toNat=A+1:=rfl;refine .next _ _ _ _ _ _ _ _ _ (by exact hF) hT (.tab _ _ _ _ _ (A+1) hd hpw hg hl rfl F0) ⟨by rw[Anx];omega,hZ.hg,by rw[e1,Afz];omega⟩ Bpy ?_
   have hne:g≠ []:=by intro e;subst e;simp at g1
   rw[muD,muD,Abu hd.fnz,Abu hd.fnz,Abu hne,Abu hne,e1,ht];omega
end
theorem Abr(hf:FitD o f c w r n g a x)(ho:o.length<=64)(hZ:SzD p g a x):StepR bk o p f c w r n g a x u v:=by
 cases hf with
 |new e1 e2 e3 e4 e5 e6 e7 e8=>subst e1 e2 e3 e4 e5 e6 e7 e8;exact Ayy hZ.hp
 |head F C W R N h hpw e6 e7 e8=>subst e6 e7 e8;exact Avx h ho hZ.hp hpw
 |tab F C W R N A h hpw ht hl ea hA=>subst ea;exact Bbc h ho hpw ht hl A hA hZ
end
abbrev Bk1:=LB×LB×Int×Int×Int×Int×Int×LI×Int×LB×Bool×Int×Int
theorem Bbg:∀(j:Nat) (b:LB) (a:Nat),(Aik j b a).2=0\/ (Aik j b a).2=38
 |0,_,_=> .inr rfl
 |j+1,b,a=>by
  rw[Aik];split
  ·exact .inl rfl
  ·split
   ·exact .inr rfl
   ·exact Bbg j _ _
theorem Afv(b:LB):(Nx b).2=0\/ (Nx b).2=38:=by
 rw[Nx];split
 ·exact .inr rfl
 ·exact Bbg _ _ _
theorem bP{o p:LB}{f c w r n:Int}{g:LI}{a:Int}{x:LB}{u:Bool}{v:Int}(hp:p.length<=100000)(hg:g.length<=2000)(hx:x.length<=13000000):Zc o p f c w r n g a x u v=some (o,p,f,c,w,r,n,g,a,x,u,v):=by
 rw[Zc,RT,Bf F7,Aa,Bf F7,Aa,SR,SM,Bf F7,Aa];rfl
theorem Au3{o p:LB}{f c w r n:Int}{g:LI}{a:Int}{x:LB}{u:Bool}{v:Int}(hp:p.length<=100000)(hg:g.length<=2000)(hx:x.length<=13000000):Es o p f c w r n g a x u v=some (o,p,f,c,w,r,n,g,a,x,u,v):=by
 rw[Es,Ir,Bf F7,Aa,Aa,Ir,Bf F7,Aa,Aa,Hq,Bf F7,Aa,Aa];rfl
theorem zV{o p:LB}{f c w r n:Int}{g:LI}{a:Int}{x:LB}{u:Bool}{v e:Int}(hx:x.length<=13000000):EC o p f c w r n g a x u v e=some (o,[],0,0,0,0,0,[],0,x,false,e,e):=by
 rw[EC,fM,Bf F7,Aa];rfl
theorem Bah{p:LB}{f:Int}{g:LI}{a:Int}{x:LB}(h:SzD p g a x):muD f g a<1004:=by
 have:=h.hg;unfold muD;split
 ·omega
 ·split<;>omega
section
variable {o p:LB} {f c w r n:Int} {g:LI} {a:Int} {x:LB} {u:Bool} {v:Int} (hp:p.length<=20000) (hg:g.length<=2000) (hx:x.length<=13000000)
include hp hg hx
theorem sO{E:Int}(hE:Pv o p f c w r n g a x u v=some E):Tv o p f c w r n g a x u v=if E≠0 then some ([],[],0,0,0,0,0,[],0,[],false,0,E)else some (o,p,f,c,w,r,n,g,a,x,u,v,if v≠0 then v else if u=true then 36 else 0):=by
 rw[Tv,hE,Aa];by_cases h:E≠0
 ·rw[Adi (by rw[Ah];simpa using h),Adi h]
 rw[Abu (by rw[Ah];simpa using h),Abu h,Au3 F0 hg F0];by_cases hv:v≠0
 ·rw[Adi (by rw[Ah];simpa using hv),Adi hv,Aa]
 ·rw[Abu (by rw[Ah];simpa using hv),Abu hv];cases u<;>simp[Aa]
omit hg hx in
theorem iq:∃e,JU o p f c w r n g a x u v=some e/\De o p f c w r n g a x u v=some e:=by
 rw[JU,De];by_cases h0:geq f 0=true
 ·rw[Adi h0,Adi h0,Qi p F0,CE p F0,Aa,Aa];have hok:=BP (b:=p);simp only;by_cases h2:(Bs p).2≠0
  ·rw[Adi (by rw[Ah];simpa using h2),Adi (by rw[Ah];simpa using h2)];exact⟨_,rfl,rfl⟩
  have h3:(Bs p).2=0:=by simpa using h2
  obtain⟨k1,k2,k3⟩:=hok h3;have hl:(Iv p).length<=p.length:=by rw[Iv,Anx];omega
  rw[Abu (by rw[Ah,h3];simp),Abu (by rw[Ah,h3];simp),Bp,Aa,Aa,show p.drop (Bs p).1.toNat=Iv p from rfl,QI _ F0,jE _ F0,Aa];exact⟨_,rfl,rfl⟩
 ·rw[Abu h0,Abu h0,Bool.or_comm];by_cases h1:(geq (Ac g) 0||Cj a (Ac g))=true
  ·rw[Adi h1,Adi h1];exact⟨_,rfl,rfl⟩
  ·rw[Abu h1,Abu h1,jk p F0,D0 p F0,Aa,Aa];simp only;refine⟨(Nx p).2,rfl,?_⟩;rcases Afv p with h|h
   ·rw[Abu (by rw[h];decide),h]
   ·rw[Adi (by rw[h];decide),h]
end
theorem dW{α β:Type}{o:Option α}{f:α->Option β}{r:β}(h:Option.bind o f=some r):∃x,o=some x/\f x=some r:=by
 cases o with
 |none=>cases h
 |some x=>exact⟨x,rfl,h⟩
theorem Bb0{α:Type}{l:List α}{i:Int}{x:α}(h:Go.Lv.Am l i=some x):x∈l:=by
 unfold Go.Lv.Am at h;split at h
 ·exact List.mem_of_getElem? h
 ·cases h
theorem Ac1{o p:LB}(q:LB){f c w r n:Int}{g:LI}{a:Int}{x:LB}{u:Bool}{v:Int}{y:LB}{e:Int}(hg:∀z∈g,0<=z)(h:Dp o p f c w r n g a x u v=some (y,e))(he:e≠ -1):Dp o (p++q) f c w r n g a x u v=some (y,e):=by
 rw[Dp,Et]at h⊢;obtain⟨l,hl,h⟩:=dW h;have hl0:=hg l (Bb0 hl);rw[hl,Aa];by_cases hc:(p.length:Int)<l
 ·rw[Adi (by rw[Af,Ac];simpa using hc)]at h;cases h;exact absurd rfl he
 ·have hc':¬(Cj (Ac (p++q)) l=true):=by rw[Af,Ac,Afz];simp;omega
  rw[Abu (by rw[Af,Ac];simpa using hc)]at h;rw[Abu hc',Ct hl0 Bpx,Pc F0];rw[Ct hl0]at h;simpa only[Ev,Er]using h
theorem Anr{f c w r n:Int}{F C W R N:Nat}(hd:HdI f c w r n F C W R N){p:LB}(q:LB)(hp:(p++q).length<=100000){A:Nat}(hA:A<=p.length){k:Int}{l:LI}{e:Int}(h:Ea p f c w r n (A:Int)=some (k,l,e))(he:e≠ -1):
  Ea (p++q) f c w r n (A:Int)=some (k,l,e)/\ (e=0->0<=k/\k<=p.length):=by
 have hp':p.length<=100000:=by rw[Afz]at hp;omega
 obtain⟨_,t2,t3⟩:=S2 hd [] p hp' A hA 0 [] false 0;obtain⟨_,s2,_⟩:=S2 hd [] (p++q) hp A Bpx 0 [] false 0;rw[t2]at h;rw[s2,Bch hA];by_cases h1:(En (p.drop A) (Al (Ak R) N).length).2=24
 ·rw[Adi h1]at h;cases h;exact absurd rfl he
 ·rw[Abu h1]at h;rw[Av3 q _ h1,Abu h1];refine⟨h,λe0=>?_⟩;cases h;have:=t3 e0;constructor
  ·omega
  ·exact this
theorem Ace{f c w r n:Int}{F C W R N:Nat}(hd:HdI f c w r n F C W R N){o p:LB}(q:LB)(hp:(p++q).length<=100000){k:Int}{l:LI}{e:Int}(h:Fe p f c w r n o=some (k,l,e))(he:e≠ -1):
  Fe (p++q) f c w r n o=some (k,l,e)/\ (e=0->0<=k/\k<=p.length):=by
 rw[Fe,Ic]at h⊢;by_cases hf:geq f 2=true
 ·rw[Adi hf]at h⊢;by_cases h8:p.length<8
  ·rw[Adi F3]at h;cases h;exact absurd rfl he
  ·have n1:¬(Cj (Ac p) 8=true):=by rw[Af,Ac];simp;omega
   have n2:¬(Cj (Ac (p++q)) 8=true):=by rw[Af,Ac,Afz];simp;omega
   rw[Abu n1,Ct F2,Aa]at h;rw[Abu n2,Ct F2 Bpx,Aa,Pc (show(8:Int).toNat<=p.length from by simp;omega)];obtain⟨y,hy,h⟩:=dW h;rw[hy,Aa];by_cases hm:(p.take (8:Int).toNat !=y)=true
   ·rw[Adi hm]at h⊢;cases h;exact⟨rfl,λe=>by cases e⟩
   ·rw[Abu hm]at h⊢;exact Anr hd q hp (A:=8) F0 h he
 ·rw[Abu hf]at h⊢;exact Anr hd q hp (A:=0) F0 h he
theorem mF{p q af:LB}{n:Int}(h:Br p n (Ac p)=some af):Br (p++q) n (Ac (p++q))=some (af++q):=by
 unfold Br Ac at h⊢;split at h
 ·rename_i hc;cases h;rw[Adi ⟨hc.1,by rw[Afz];omega,F0⟩];simp only[Ajx,Bd0];rw[Bch F0]
 ·cases h
theorem sN{o p:LB}(q:LB){f c w r n:Int}{g:LI}{a:Int}{x:LB}{u:Bool}{v:Int}(hf:FitD o f c w r n g a x)(hp:(p++q).length<=100000){t1 t2:LB}{t3 t4 t5 t6 t7:Int}{t8:LI}{t9:Int}{t10:LB}{t11:Bool}{t12 e:Int}
  (h:Aj o p f c w r n g a x u v=some (t1,t2,t3,t4,t5,t6,t7,t8,t9,t10,t11,t12,e)) (he:e≠ -1):
  (e=0->Aj o (p++q) f c w r n g a x u v=some (t1,t2++q,t3,t4,t5,t6,t7,t8,t9,t10,t11,t12,0))/\
  (e≠0->∃(s1 s2:LB) (s3 s4 s5 s6 s7:Int) (s8:LI) (s9:Int) (s10:LB) (s11:Bool) (s12:Int),Aj o (p++q) f c w r n g a x u v=some (s1,s2,s3,s4,s5,s6,s7,s8,s9,s10,s11,s12,e)):=by
 have hp':p.length<=100000:=by rw[Afz]at hp;omega
 have zero:¬(Bg (0:Int) 0=true):=F2
 rw[Aj,Bt]at h⊢;cases hf with
 |new e1 e2 e3 e4 e5 e6 e7 e8=>
  subst e1;rw[Adi F2,AF p hp',Aa]at h;rw[Adi F2,AF (p++q) hp,Aa];have hst:(stS p).2.2.2.2.2.2≠ -1->stS (p++q)=stS p:=Bdc q;generalize stS p=z at h hst;obtain⟨z1,z2,z3,z4,z5,z6,z7⟩:=z;simp only at h hst;by_cases hz:Bg z7 0=true
  ·rw[Adi hz]at h;simp only[Ajq,Aki]at h;obtain⟨-, -, -, -, -, -, -, -, -, -, -, -,rfl⟩:=h;rw[hst he];simp only;rw[Adi hz];refine⟨λe0=>?_,λ_=>⟨_,_,_,_,_,_,_,_,_,_,_,_,rfl⟩⟩;rw[e0]at hz;exact absurd hz zero
  ·rw[Abu hz]at h;have z70:z7=0:=by rw[Ah]at hz;simpa using hz
   rw[hst (by rw[z70];decide)];simp only;rw[Abu hz];obtain⟨af,h1,h⟩:=dW h;rw[mF h1,Aa];rw[Hk,Hi]at h⊢;obtain⟨aw,h2,h⟩:=dW h;rw[h2,Aa];simp only[Ajq,Aki]at h;obtain⟨rfl,rfl,rfl,rfl,rfl,rfl,rfl,rfl,rfl,rfl,rfl,rfl,rfl⟩:=h;exact⟨λe0=>by rw[e0],λ_=>⟨_,_,_,_,_,_,_,_,_,_,_,_,rfl⟩⟩
 |head F C W R N hd hpw e6 e7 e8=>
  subst e6;have hfn:¬(geq f 0=true):=by rw[Ar];simpa using hd.fnz
  rw[Abu hfn,By,Bw,Adi F2]at h⊢;obtain⟨⟨k,l,e1⟩,h1,h⟩:=dW h;simp only at h;by_cases hz:Bg e1 0=true
  ·rw[Adi hz]at h;simp only[Ajq,Aki]at h;obtain⟨-, -, -, -, -, -, -, -, -, -, -, -,rfl⟩:=h;rw[(Ace hd q hp h1 he).1,Aa];simp only;rw[Adi hz];refine⟨λe0=>?_,λ_=>⟨_,_,_,_,_,_,_,_,_,_,_,_,rfl⟩⟩;rw[e0]at hz;exact absurd hz zero
  ·rw[Abu hz]at h;have z70:e1=0:=by rw[Ah]at hz;simpa using hz
   rw[(Ace hd q hp h1 (by rw[z70];decide)).1,Aa];simp only;rw[Abu hz];obtain⟨af,h2,h⟩:=dW h;rw[mF h2,Aa];simp only[Ajq,Aki]at h;obtain⟨rfl,rfl,rfl,rfl,rfl,rfl,rfl,rfl,rfl,rfl,rfl,rfl,rfl⟩:=h;exact⟨λe0=>rfl,λe0=>absurd rfl e0⟩
 |tab F C W R N A hd hpw ht hl ea hA=>
  have hfn:¬(geq f 0=true):=by rw[Ar];simpa using hd.fnz
  have ht':=ht;rw[Vy,Ajo,Ahz]at ht';have hgl:¬(geq (Ac g) 0=true):=by
   intro e;rw[Ar,Ac]at e;have hl1:=ht'.1.1;simp only[Bcg,Ahz]at e;omega
  rw[Abu hfn,By,Bw,Abu hgl]at h⊢;by_cases hend:geq a (Ac g)=true
  ·rw[Adi hend]at h⊢;by_cases hm:Dx (Ac p) 4000=true
   ·have hm':Dx (Ac (p++q)) 4000=true:=by rw[Ap,Ac]at hm⊢;simp only[Ahz]at hm⊢;rw[Afz];omega
    rw[Adi hm]at h;rw[Adi hm'];simp only[Ajq,Aki]at h;obtain⟨-, -, -, -, -, -, -, -, -, -, -, -,rfl⟩:=h;exact⟨(λe0=>by cases e0),λ_=>⟨_,_,_,_,_,_,_,_,_,_,_,_,rfl⟩⟩
   ·rw[Abu hm]at h;simp only[Ajq,Aki]at h;obtain⟨-, -, -, -, -, -, -, -, -, -, -, -,rfl⟩:=h;exact absurd rfl he
  ·rw[Abu hend]at h⊢;have hpos:∀z∈g,0<=z:=by
    have:=(FI g 100000 F0).1 ht'.2;intro z hz;have:=this.1 z hz;omega
   obtain⟨⟨y,e1⟩,h1,h⟩:=dW h;simp only at h;by_cases hz:Bg e1 0=true
   ·rw[Adi hz]at h;simp only[Ajq,Aki]at h;obtain⟨-, -, -, -, -, -, -, -, -, -, -, -,rfl⟩:=h;rw[Ac1 q hpos h1 he,Aa];simp only;rw[Adi hz];refine⟨λe0=>?_,λ_=>⟨_,_,_,_,_,_,_,_,_,_,_,_,rfl⟩⟩;rw[e0]at hz;exact absurd hz zero
   ·rw[Abu hz]at h;have z70:e1=0:=by rw[Ah]at hz;simpa using hz
    rw[Ac1 q hpos h1 (by rw[z70];decide),Aa];simp only;rw[Abu hz];obtain⟨an,h2,h⟩:=dW h;rw[h2,Aa];obtain⟨ah,h3,h⟩:=dW h;rw[h3,Aa];obtain⟨ad,h4,h⟩:=dW h;rw[h4,Aa];obtain⟨ae,h5,h⟩:=dW h;rw[mF h5,Aa];simp only[Ajq,Aki]at h;obtain⟨rfl,rfl,rfl,rfl,rfl,rfl,rfl,rfl,rfl,rfl,rfl,rfl,rfl⟩:=h;exact⟨λe0=>rfl,λe0=>absurd rfl e0⟩
theorem Bp8{p:Prop}(h:p:=by rw[mT (by omega)];decide):p:=h
end Go.Pl
namespace Go.Pl
open Go Go.Lv
variable{u t11:Bool}{F C W R N A:Nat}
def Blr(o:LB)(K:Nat)(u:Bool)(v:Int)(X Y:Option Bk1):Prop:=∃(t1 t2:LB) (t3 t4 t5 t6 t7:Int) (t8:LI) (t9:Int) (t10:LB) (t11:Bool) (t12 e:Int),X=some (t1,t2,t3,t4,t5,t6,t7,t8,t9,t10,t11,t12,e)/\Y=some (t1,t2,t3,t4,t5,t6,t7,t8,t9,t10,t11,t12,e)/\t10.length<=13000000/\
 (e=0->t1=o/\t2.length<=K/\FitD o t3 t4 t5 t6 t7 t8 t9 t10/\SzD t2 t8 t9 t10/\t11=u/\t12=v)
theorem Ack(K:Nat):∀(k q1 q2:Nat) (o p:LB) (f c w r n:Int) (g:LI) (a:Int) (x:LB) (u:Bool) (v:Int),FitD o f c w r n g a x->o.length<=64->SzD p g a x->p.length<=K->muD f g a<k->k<=q1->k<=q2->
  Blr o K u v (Bj o u v q1 p f c w r n a g x) (Bm q2 o p f c w r n g a x u v)
 |0,_,_,_,_,_,_,_,_,_,_,_,_,_,_,_,_,_,_,h,_,_=>by omega
 |k+1,q1,q2,o,p,f,c,w,r,n,g,a,x,u,v,hf,ho,hZ,hK,hm,h1,h2=>by
  obtain⟨q1,rfl⟩:∃q,q1=q+1:=⟨q1-1,F0⟩;obtain⟨q2,rfl⟩:∃q,q2=q+1:=⟨q2-1,F0⟩;have hx:x.length<=13000000:=by have:=hZ.hx;omega
  rw[Bj,Bm,Cp];have hS:StepR (Bj o u v q1) o p f c w r n g a x u v:=Abr hf ho hZ;cases hS with
  |wait hF hT=>
   rw[hT,Aa];simp only;rw[Adi F2,bP hZ.hp (by have:=hZ.hg;omega) hx,Aa];exact⟨_,_,_,_,_,_,_,_,_,_,_,_,_,hF,rfl,hx,λ_=>⟨rfl,hK,hf,hZ,rfl,rfl⟩⟩
  |err e he hF hT=>
   rw[hT,Aa];simp only;rw[Abu Bp8,Adi Bpl,zV hx,Aa];exact⟨_,_,_,_,_,_,_,_,_,_,_,_,_,hF,rfl,hx,λh=>absurd h F0⟩
  |next p' f' c' w' r' n' g' a' x' hF hT hf' hZ' hle hmu=>
   rw[hT,Aa];simp only;rw[Abu F2,Abu F2];have ih:=Ack K k q1 q2 o p' f' c' w' r' n' g' a' x' u v hf' ho hZ' F0 F0 F0 F0;have hF':Jn (Qd (Bj o u v q1) o u v) (Ut (Bj o u v q1) o u v) (Mr (Bj o u v q1) o u v) (BR (Bj o u v q1) o u v) (Qe (Bj o u v q1) o u v) (Qc (Bj o u v q1) o u v) (CW (Bj o u v q1) o u v) (Cq (Bj o u v q1) o u v) (CN (Bj o u v q1) o u v) o u v p f c w r n a g x=Bj o u v q1 p' f' c' w' r' n' a' g' x':=hF;rw[hF'];exact ih
theorem Blo{o p:LB}{f c w r n:Int}{g:LI}{a:Int}{x:LB}(ho:o.length<=64)(hf:FitD o f c w r n g a x)(hZ:SzD p g a x)(b:LB)(hp:p.length<=20000)(hb:b.length<=20000):
  Blr o (p.length+b.length) false 0 (Ku o p f c w r n g a x false 0 b) (Kq o p f c w r n g a x false 0 b):=by
 have hx:x.length<=13000000:=by have:=hZ.hx;omega
 have hg:g.length<=2000:=by have:=hZ.hg;omega
 obtain⟨E,e1,e2⟩:=Ad3 o p f c w r n g a x false 0 F0 F0 F0;rw[Ku,Xs,sO hp hg hx e1,Kq,Sy,e2,Aa];by_cases h:E≠0
 ·rw[Adi h,Aa,Adi (by rw[Ah];simpa using h)];simp only;rw[Adi (by rw[Ah];simpa using h)];exact⟨_,_,_,_,_,_,_,_,_,_,_,_,_,rfl,rfl,Bpj,λh'=>absurd h' h⟩
 have h0:E=0:=by simpa using h
 subst h0;have hE:¬(Bg (0:Int) 0=true):=F2
 rw[Abu h,Aa,Abu hE,bP F0 hg F0,Aa];simp only;have hF:¬(false=true):=F2
 rw[Sr,Abu (show ¬((0:Int)≠0)from λh=>h rfl),Abu hF]
 repeat (first|rw[Aa]|rw[Abu hE]|rw[Abu hF])
 rw[Bf];rw[Aa,Aa];have hZ':SzD (p++b) g a x:=⟨by rw[Afz];omega,hZ.hg,hZ.hx⟩;exact Ack _ 1004 Au Au o (p++b) f c w r n g a x false 0 hf ho hZ' (by rw[Afz];exact An6 _) (Bah hZ') F8 F8
def OutB(f c w r n:Int)(g:LI)(a:Int)(x:LB):Prop:=∀(F C W R N A:Nat),HdI f c w r n F C W R N->g≠ []->a=(A:Int)-> (x.length:Int)<=ID C W (Al (Ak R) N) A
theorem OutB.nil{f c w r n:Int}{a:Int}{x:LB}:OutB f c w r n [] a x:=λ_ _ _ _ _ _ _ h=>absurd rfl h
theorem OutB.zero{f c w r n:Int}{g:LI}:OutB f c w r n g 0 []:=λF C W R N A h hg ha=>by
 obtain rfl:A=0:=F0
 rw[Apj];simp
theorem Aqh{o p:LB}{f c w r n:Int}(hd:HdI f c w r n F C W R N)(ho:o.length<=64)(hp:p.length<=100000){g:LI}(ht:Vy g=true)(hl:g.length=(Al (Ak R) N).length)(hA:A<g.length){x:LB}{v:Int}{y:LB}{e:Int}
  (h:Dp o p f c w r n g (A:Int) x u v=some (y,e)) (he:e=0):∃m:Nat,(Al (Ak R) N)[A]' F0=(m:Int)/\y.length=m*C*wB (W:Int):=by
 subst he;have hlt2:A<(Al (Ak R) N).length:=F0
 have FA:=hd.num;rw[Vy,Ajo,Ahz,FI g 100000 F0]at ht;obtain⟨ht1,g5,gs⟩:=ht;have h5:=g5 g[A] (Avu hA);rw[Dp,Et,Bn hA,Aa]at h;by_cases hw:(p.length:Int)<g[A]
 ·rw[Adi (by rw[Af,Ac];simpa using hw)]at h;cases h
 rw[Abu (by rw[Af,Ac];simpa using hw)]at h;obtain⟨m,hm,m1,m2⟩:=Wn (Eh R) FA.2.2.2.2.1 (Avu hlt2);have hb:Bd w:=by rw[hd.ew];unfold Bd;omega
 obtain⟨xs,e,d1,d2,d3,d4⟩:=HM (bits:=w) (ch:=C) (n:=m) (t:=Mn o) (p.take g[A].toNat) hb (Ks o) FA.2.1.1 FA.2.1.2 m1 F0;rw[TO o ho,Aa]at h;simp only at h;rw[Ct,Aa,Fx,Aa]at h;simp only at h;rw[hd.Aie,Aa,Bn hlt2,Aa,Aa,hm,hd.ec]at h;rw[d2,Aa]at h;simp only at h;rw[Ev,Er]at h;by_cases he:e≠0
 ·rw[Adi (by rw[Ah];simpa using he)]at h;cases h;exact absurd rfl he
 ·have he0:e=0:=by simpa using he
  obtain⟨k1,k2,k3⟩:=d3 he0;rw[Abu (by rw[Ah,he0];simp),QC hb k2 k1,Aa]at h;cases h;refine⟨m,hm,?_⟩;rw[AA hb,k3,hd.ew]
theorem Ba3{o p:LB}{f c w r n:Int}{g:LI}{a:Int}{x:LB}{v:Int}(hf:FitD o f c w r n g a x)(ho:o.length<=64)(hZ:SzD p g a x)(hO:OutB f c w r n g a x){t1 t2:LB}{t3 t4 t5 t6 t7:Int}{t8:LI}{t9:Int}{t10:LB}{t12:Int}
  (h:Aj o p f c w r n g a x u v=some (t1,t2,t3,t4,t5,t6,t7,t8,t9,t10,t11,t12,0)):OutB t3 t4 t5 t6 t7 t8 t9 t10:=by
 have hp':=hZ.hp;have zero:¬(Bg (0:Int) 0=true):=F2
 rw[Aj,Bt]at h;cases hf with
 |new e1 e2 e3 e4 e5 e6 e7 e8=>
  subst e1 e6 e7 e8;rw[Adi F2,AF p hp',Aa]at h;generalize stS p=z at h;obtain⟨z1,z2,z3,z4,z5,z6,z7⟩:=z;simp only at h;by_cases hz:Bg z7 0=true
  ·rw[Adi hz]at h;simp only[Ajq,Aki]at h;obtain⟨-, -, -, -, -, -, -,rfl, -⟩:=h;exact OutB.nil
  ·rw[Abu hz]at h;obtain⟨af,h1,h⟩:=dW h;rw[Hk,Hi]at h;obtain⟨aw,h2,h⟩:=dW h;simp only[Ajq,Aki]at h;obtain⟨-, -, -, -, -, -, -,rfl, -⟩:=h;exact OutB.nil
 |head F C W R N hd hpw e6 e7 e8=>
  subst e6 e7 e8;have hfn:¬(geq f 0=true):=by rw[Ar];simpa using hd.fnz
  rw[Abu hfn,By,Bw,Adi F2]at h;obtain⟨⟨k,l,e1⟩,h1,h⟩:=dW h;simp only at h;by_cases hz:Bg e1 0=true
  ·rw[Adi hz]at h;simp only[Ajq,Aki]at h;obtain⟨-, -, -, -, -, -, -,rfl, -⟩:=h;exact OutB.nil
  ·rw[Abu hz]at h;obtain⟨af,h2,h⟩:=dW h;simp only[Ajq,Aki]at h;obtain⟨-, -, -, -, -, -, -, -,rfl,rfl, -⟩:=h;exact OutB.zero
 |tab F C W R N A hd hpw ht hl ea hA=>
  subst ea;have hfn:¬(geq f 0=true):=by rw[Ar];simpa using hd.fnz
  have ht':=ht;rw[Vy,Ajo,Ahz]at ht';have hgl:¬(geq (Ac g) 0=true):=by
   intro e;rw[Ar,Ac]at e;have hl1:=ht'.1.1;simp only[Bcg,Ahz]at e;omega
  have hne:g≠ []:=by intro e;subst e;simp at ht'
  rw[Abu hfn,By,Bw,Abu hgl]at h;by_cases hend:geq (A:Int) (Ac g)=true
  ·rw[Adi hend]at h;by_cases hm:Dx (Ac p) 4000=true
   ·rw[Adi hm]at h;simp only[Ajq,Aki]at h;exact absurd h.2.2.2.2.2.2.2.2.2.2.2.2 F2
   ·rw[Abu hm]at h;simp only[Ajq,Aki]at h;exact absurd h.2.2.2.2.2.2.2.2.2.2.2.2 F2
  ·rw[Abu hend]at h;have hlt:A<g.length:=by
    rw[Ar,Ac]at hend;simp only[Bcg]at hend;omega
   obtain⟨⟨y,e1⟩,h1,h⟩:=dW h;simp only at h;by_cases hz:Bg e1 0=true
   ·rw[Adi hz]at h;simp only[Ajq,Aki]at h;have:=h.2.2.2.2.2.2.2.2.2.2.2.2;rw[this]at hz;exact absurd hz zero
   ·rw[Abu hz]at h;have z70:e1=0:=by rw[Ah]at hz;simpa using hz
    obtain⟨m,hm,hy⟩:=Aqh hd ho hp' ht hl hlt h1 z70;obtain⟨an,h2,h⟩:=dW h;obtain⟨ah,h3,h⟩:=dW h;obtain⟨ad,h4,h⟩:=dW h;obtain⟨ae,h5,h⟩:=dW h;simp only[Ajq,Aki]at h;obtain⟨-, -,rfl,rfl,rfl,rfl,rfl,rfl,rfl,rfl, -⟩:=h;intro F' C' W' R' N' A' hd' _ ha';have eqs:C'=C/\W'=W/\R'=R/\N'=N:=by
     have q1:=hd.ec.symm.trans hd'.ec;have q2:=hd.ew.symm.trans hd'.ew;have q3:=hd.er.symm.trans hd'.er;have q4:=hd.en.symm.trans hd'.en;omega
    obtain⟨rfl,rfl,rfl,rfl⟩:=eqs;have hold:=hO F C' W' R' N' A hd hne rfl;have e2:Ae (A:Int) 1=((A+1:Nat):Int):=by rw[Ag];omega
    rw[e2]at ha';obtain rfl:A'=A+1:=F0
    have hah:ah.length=x.length+y.length:=by
     unfold Dt at h2 h3;split at h2
     ·cases h2;split at h3
      ·cases h3;simp
      ·cases h3
     ·cases h2
    have hpos:∀z∈Al (Ak R') N',0<=z:=by
     intro z hz;obtain⟨m,hm,m1,m2⟩:=Wn (Eh R') hd.num.2.2.2.2.1 hz;omega
    rw[Api C' W' hpos F0 hm,hah,hy];omega
theorem Abn{o p:LB}{f c w r n:Int}{g:LI}{a:Int}{x:LB}(hf:FitD o f c w r n g a x)(ho:o.length<=64)(hO:OutB f c w r n g a x){t1 t2:LB}{t3 t4 t5 t6 t7:Int}{t8:LI}{t9:Int}{t10:LB}{t12:Int}
  (h:Aj o p f c w r n g a x false 0=some (t1,t2,t3,t4,t5,t6,t7,t8,t9,t10,t11,t12, -1)):Eg o p f c w r n g a x false 0=some 0:=by
 have h4:Cx o p f c w r n g a x false 0=some true:=by
  rw[Cx,Yy,h,Aa];rfl
 have hr:Mt o p f c w r n g a x false 0=some true:=by
  rw[Mt,Yv];cases hf with
  |new e1 e2 e3 e4 e5 e6 e7 e8=>
   subst e1 e2 e3 e4 e5 e6 e7 e8;rw[Adi F2,Abu F2];exact h4
  |head F C W R N hd hpw e6 e7 e8=>
   subst e6 e7 e8;have hz:¬(((geq f 0)&&((geq c 0)&&((geq w 0)&&((geq r 0)&&((geq n 0)&&true)))))=true):=by
    simp only[Ajo,Ar,Bcg,Bpb];exact λe=>hd.fnz e.1
   have hff:geq f 1=decide (F=1):=by rw[hd.ef,Ar,An7];simp;omega
   rw[Abu hz,hd.check,Aa,Abu F2,Ey,hff,hpw,Abu Bpj,Aa,Abu F2,Rk,Ri,Adi F2,Abu F2];exact h4
  |tab F C W R N A hd hpw ht hl ea hA=>
   subst ea;have hz:¬(((geq f 0)&&((geq c 0)&&((geq w 0)&&((geq r 0)&&((geq n 0)&&true)))))=true):=by
    simp only[Ajo,Ar,Bcg,Bpb];exact λe=>hd.fnz e.1
   have hff:geq f 1=decide (F=1):=by rw[hd.ef,Ar,An7];simp;omega
   have ht':=ht;rw[Vy,Ajo,Ahz]at ht';have hgl:¬(geq (Ac g) 0=true):=by
    intro e;rw[Ar,Ac]at e;have hl1:=ht'.1.1;simp only[Bcg,Ahz]at e;omega
   have hne:g≠ []:=by intro e;subst e;simp at ht'
   have hout:=hO F C W R N A hd hne rfl;rw[Abu hz,hd.check,Aa,Abu F2,Ey,hff,hpw,Abu Bpj,Aa,Abu F2,Rk,Ri,Abu hgl,gP,Aa,Adi ht,Abu F2,hd.Aie,Aa];rw[Abu Bp9];obtain⟨rfl,rfl,rfl,rfl,rfl,hs,hfit⟩:=hd;rw[Aj3 hs hfit A F0,Aa,Abu F9];exact h4
 have hO':¬(Dx (Ac o) 64=true):=by rw[Ap,Ac];simp;omega
 rw[Eg,Abu hO',Adi F2,hr,Aa];rfl
theorem Avc{o p:LB}{f c w r n:Int}(hd:HdI f c w r n F C W R N)(ho:o.length<=64)(hp:p.length<=100000){g:LI}(ht:Vy g=true)(hl:g.length=(Al (Ak R) N).length)(hA:A<g.length){x:LB}{v:Int}{y:LB}{e:Int}
  (h:Dp o p f c w r n g (A:Int) x u v=some (y,e)) (he:e≠ -1):Cd e:=by
 have hlt2:A<(Al (Ak R) N).length:=F0
 have FA:=hd.num;rw[Vy,Ajo,Ahz,FI g 100000 F0]at ht;obtain⟨ht1,g5,gs⟩:=ht;have h5:=g5 g[A] (Avu hA);rw[Dp,Et,Bn hA,Aa]at h;by_cases hw:(p.length:Int)<g[A]
 ·rw[Adi (by rw[Af,Ac];simpa using hw)]at h;cases h;exact absurd rfl he
 rw[Abu (by rw[Af,Ac];simpa using hw)]at h;obtain⟨m,hm,m1,m2⟩:=Wn (Eh R) FA.2.2.2.2.1 (Avu hlt2);have hb:Bd w:=by rw[hd.ew];unfold Bd;omega
 obtain⟨xs,e',d1,d2,d3,d4⟩:=HM (bits:=w) (ch:=C) (n:=m) (t:=Mn o) (p.take g[A].toNat) hb (Ks o) FA.2.1.1 FA.2.1.2 m1 F0;have hcd:=Af5 hb (Ks o) FA.2.1.1 FA.2.1.2 m1 F0 d2;rw[TO o ho,Aa]at h;simp only at h;rw[Ct,Aa,Fx,Aa]at h;simp only at h;rw[hd.Aie,Aa,Bn hlt2,Aa,Aa,hm,hd.ec]at h;rw[d2,Aa]at h;simp only at h;rw[Ev,Er]at h;by_cases he:e'≠0
 ·rw[Adi (by rw[Ah];simpa using he)]at h;cases h;exact hcd
 ·have he0:e'=0:=by simpa using he
  obtain⟨k1,k2,k3⟩:=d3 he0;rw[Abu (by rw[Ah,he0];simp),QC hb k2 k1,Aa]at h;cases h;exact .inl rfl
theorem Ark{f c w r n:Int}(hd:HdI f c w r n F C W R N){p:LB}(hp:p.length<=100000)(hA:A<=p.length){k:Int}{l:LI}{e:Int}(h:Ea p f c w r n (A:Int)=some (k,l,e))(he:e≠ -1):Cd e:=by
 obtain⟨_,t2,t3⟩:=S2 hd [] p hp A hA 0 [] false 0;rw[t2]at h;by_cases h1:(En (p.drop A) (Al (Ak R) N).length).2=24
 ·rw[Adi h1]at h;cases h;exact absurd rfl he
 ·rw[Abu h1]at h;cases h;exact Bby _ (Aca hd.fit)
theorem Atx{f c w r n:Int}(hd:HdI f c w r n F C W R N){o p:LB}(hp:p.length<=100000){k:Int}{l:LI}{e:Int}(h:Fe p f c w r n o=some (k,l,e))(he:e≠ -1):Cd e:=by
 rw[Fe,Ic]at h;by_cases hf:geq f 2=true
 ·rw[Adi hf]at h;by_cases h8:p.length<8
  ·rw[Adi F3]at h;cases h;exact absurd rfl he
  ·have n1:¬(Cj (Ac p) 8=true):=by rw[Af,Ac];simp;omega
   rw[Abu n1]at h;obtain⟨z,hz,h⟩:=dW h;obtain⟨y,hy,h⟩:=dW h;by_cases hm:(z !=y)=true
   ·rw[Adi hm]at h;cases h;decide
   ·rw[Abu hm]at h;exact Ark hd hp (A:=8) F0 h he
 ·rw[Abu hf]at h;exact Ark hd hp (A:=0) F0 h he
theorem Bh3(p:LB):(stS p).2.2.2.2.2.2= -1\/Cd (stS p).2.2.2.2.2.2:=by
 unfold stS
 repeat' split
 ·exact .inl rfl
 ·exact .inr (R5 p)
 ·exact .inl rfl
 ·exact .inl rfl
 ·exact .inr (Ad9 _)
theorem Bfg{o p:LB}{f c w r n:Int}{g:LI}{a:Int}{x:LB}{v:Int}(hf:FitD o f c w r n g a x)(ho:o.length<=64)(hp':p.length<=100000){t1 t2:LB}{t3 t4 t5 t6 t7:Int}{t8:LI}{t9:Int}{t10:LB}{t12 e:Int}
  (h:Aj o p f c w r n g a x u v=some (t1,t2,t3,t4,t5,t6,t7,t8,t9,t10,t11,t12,e)) (he:e≠ -1):Cd e:=by
 have zero:¬(Bg (0:Int) 0=true):=F2
 rw[Aj,Bt]at h;cases hf with
 |new e1 e2 e3 e4 e5 e6 e7 e8=>
  subst e1 e6 e7 e8;rw[Adi F2,AF p hp',Aa]at h;have hcd:=Bh3 p;generalize stS p=z at h hcd;obtain⟨z1,z2,z3,z4,z5,z6,z7⟩:=z;simp only at h hcd;by_cases hz:Bg z7 0=true
  ·rw[Adi hz]at h;simp only[Ajq,Aki]at h;obtain⟨-, -, -, -, -, -, -, -, -, -, -, -,rfl⟩:=h;exact hcd.resolve_left he
  ·rw[Abu hz]at h;obtain⟨af,h1,h⟩:=dW h;rw[Hk,Hi,Ey]at h;obtain⟨aw,h2,h⟩:=dW h;simp only[Ajq,Aki]at h;obtain⟨-, -, -, -, -, -, -, -, -, -, -, -,rfl⟩:=h;split at h2
   ·cases h2;decide
   ·cases h2;decide
 |head F C W R N hd hpw e6 e7 e8=>
  subst e6 e7 e8;have hfn:¬(geq f 0=true):=by rw[Ar];simpa using hd.fnz
  rw[Abu hfn,By,Bw,Adi F2]at h;obtain⟨⟨k,l,e1⟩,h1,h⟩:=dW h;simp only at h;by_cases hz:Bg e1 0=true
  ·rw[Adi hz]at h;simp only[Ajq,Aki]at h;obtain⟨-, -, -, -, -, -, -, -, -, -, -, -,rfl⟩:=h;exact Atx hd hp' h1 he
  ·rw[Abu hz]at h;obtain⟨af,h2,h⟩:=dW h;simp only[Ajq,Aki]at h;obtain⟨-, -, -, -, -, -, -, -, -, -, -, -,rfl⟩:=h;exact .inl rfl
 |tab F C W R N A hd hpw ht hl ea hA=>
  subst ea;have hfn:¬(geq f 0=true):=by rw[Ar];simpa using hd.fnz
  have ht':=ht;rw[Vy,Ajo,Ahz]at ht';have hgl:¬(geq (Ac g) 0=true):=by
   intro e;rw[Ar,Ac]at e;have hl1:=ht'.1.1;simp only[Bcg,Ahz]at e;omega
  rw[Abu hfn,By,Bw,Abu hgl]at h;by_cases hend:geq (A:Int) (Ac g)=true
  ·rw[Adi hend]at h;by_cases hm:Dx (Ac p) 4000=true
   ·rw[Adi hm]at h;simp only[Ajq,Aki]at h;obtain⟨-, -, -, -, -, -, -, -, -, -, -, -,rfl⟩:=h;decide
   ·rw[Abu hm]at h;simp only[Ajq,Aki]at h;exact absurd h.2.2.2.2.2.2.2.2.2.2.2.2.symm he
  ·rw[Abu hend]at h;have hlt:A<g.length:=by
    rw[Ar,Ac]at hend;simp only[Bcg]at hend;omega
   obtain⟨⟨y,e1⟩,h1,h⟩:=dW h;simp only at h;by_cases hz:Bg e1 0=true
   ·rw[Adi hz]at h;simp only[Ajq,Aki]at h;obtain⟨-, -, -, -, -, -, -, -, -, -, -, -,rfl⟩:=h;exact Avc hd ho hp' ht hl hlt h1 he
   ·rw[Abu hz]at h;obtain⟨an,h2,h⟩:=dW h;obtain⟨ah,h3,h⟩:=dW h;obtain⟨ad,h4,h⟩:=dW h;obtain⟨ae,h5,h⟩:=dW h;simp only[Ajq,Aki]at h;obtain⟨-, -, -, -, -, -, -, -, -, -, -, -,rfl⟩:=h;exact .inl rfl
theorem Ay2{o:LB}{f c w r n:Int}{g:LI}{a:Int}{x:LB}(hf:FitD o f c w r n g a x)(hO:OutB f c w r n g a x):x.length<=12000:=by
 cases hf with
 |new e1 e2 e3 e4 e5 e6 e7 e8=>subst e8;simp
 |head F C W R N hd hpw e6 e7 e8=>subst e8;simp
 |tab F C W R N A hd hpw ht hl ea hA=>
  have hne:g≠ []:=by intro e;subst e;simp[Vy]at ht
  have h:=hO F C W R N A hd hne ea;obtain⟨g1,g2,g3⟩:=QJ hd.shape hd.fit;have b:=nP g1 A;have FA:=hd.num;have hw:=(Z6 (W:Int)).2;have hN:N*C<=4000:=by
   have h1:=Ajr C FA.2.2.2.2.2.1;have h2:=Bjv 4000 C;omega
  have hs:((Al (Ak R) N).take A).sum.toNat<=N:=F0
  rw[ID]at h;have hb:((Al (Ak R) N).take A).sum.toNat*(C*wB (W:Int))<=4000*3:=by
   have h1:=Ajr (C*wB (W:Int)) hs;have h2:=Bhr hN hw;rw[<-Bg8 N]at h1;omega
  omega
theorem Ae9{o x:LB}{e:Int}(ho:o.length<=64)(hx:x.length<=12000)(he:Cd e)(h0:0<e):Eg o [] 0 0 0 0 0 [] 0 x false e=some 0:=by
 have hO':¬(Dx (Ac o) 64=true):=by rw[Ap,Ac];simp;omega
 have hX:Dx (Ac x) 12000=false:=by rw[Ap,Ac];simp;omega
 rw[Eg,Abu hO',Abu Bpm,Adi F2,hX,Abu F2,Adi Bpl,Abu F2];obtain rfl|rfl|rfl|rfl|rfl|rfl|rfl|rfl:=he
 ·omega
 all_goals rfl
theorem Aez:∀(k q1 q2:Nat) (o p:LB) (f c w r n:Int) (g:LI) (a:Int) (x:LB) (u:Bool) (v:Int),FitD o f c w r n g a x->o.length<=64->SzD p g a x->muD f g a<k->k<=q1->k<=q2->
  Bm q1 o p f c w r n g a x u v=Bm q2 o p f c w r n g a x u v
 |0,_,_,_,_,_,_,_,_,_,_,_,_,_,_,_,_,_,h,_,_=>by omega
 |k+1,q1,q2,o,p,f,c,w,r,n,g,a,x,u,v,hf,ho,hZ,hm,h1,h2=>by
  obtain⟨q1,rfl⟩:∃q,q1=q+1:=⟨q1-1,F0⟩;obtain⟨q2,rfl⟩:∃q,q2=q+1:=⟨q2-1,F0⟩;rw[Bm,Bm,Cp,Cp];have hS:StepR (Bj o u v q1) o p f c w r n g a x u v:=Abr hf ho hZ;cases hS with
  |wait hF hT=>
   rw[hT,Aa,Aa];simp only;rw[Adi F2,Adi F2]
  |err e he hF hT=>
   rw[hT,Aa,Aa];simp only;rw[Abu Bp8,Adi Bpl,Abu Bp8,Adi Bpl]
  |next p' f' c' w' r' n' g' a' x' hF hT hf' hZ' hle hmu=>
   rw[hT,Aa,Aa];simp only;rw[Abu F2,Abu F2,Abu F2,Abu F2];exact Aez k q1 q2 o p' f' c' w' r' n' g' a' x' u v hf' ho hZ' F0 F0 F0
structure Wt (o p:LB) (f c w r n:Int) (g:LI) (a:Int) (x:LB):Prop where
 fit:FitD o f c w r n g a x
 sz:SzD p g a x
 out:OutB f c w r n g a x
 wait:Aj o p f c w r n g a x false 0=some (o,p,f,c,w,r,n,g,a,x,false,0, -1)
abbrev Li(q:Nat)(o p:LB)(f c w r n:Int)(g:LI)(a:Int)(x:LB):=Bm q o p f c w r n g a x false 0
theorem Al9:∀(k q:Nat) (o p:LB) (f c w r n:Int) (g:LI) (a:Int) (x:LB),FitD o f c w r n g a x->o.length<=64->SzD p g a x->OutB f c w r n g a x->p.length<=100000->muD f g a<k->k<=q->
  (∃(t2:LB) (t3 t4 t5 t6 t7:Int) (t8:LI) (t9:Int) (t10:LB),Li q o p f c w r n g a x=some (o,t2,t3,t4,t5,t6,t7,t8,t9,t10,false,0,0)/\Wt o t2 t3 t4 t5 t6 t7 t8 t9 t10/\t2.length<=p.length/\muD t3 t8 t9<k/\
   ∀b:LB,(p++b).length<=100000->Li q o (p++b) f c w r n g a x=Li q o (t2++b) t3 t4 t5 t6 t7 t8 t9 t10)\/
  (∃(x':LB) (e:Int),0<e/\Cd e/\x'.length<=12000/\∀b:LB,(p++b).length<=100000->Li q o (p++b) f c w r n g a x=some (o,[],0,0,0,0,0,[],0,x',false,e,e))
 |0,_,_,_,_,_,_,_,_,_,_,_,_,_,_,_,_,h,_=>by omega
 |k+1,q,o,p,f,c,w,r,n,g,a,x,hf,ho,hZ,hO,hp,hm,h1=>by
  obtain⟨q,rfl⟩:∃q',q=q'+1:=⟨q-1,F0⟩;have hx:x.length<=13000000:=by have:=hZ.hx;omega
  have hS:StepR (Bj o false 0 q) o p f c w r n g a x false 0:=Abr hf ho hZ;cases hS with
  |wait hF hT=>
   refine .inl ⟨p,f,c,w,r,n,g,a,x,?_,⟨hf,hZ,hO,hT⟩,An6 _,hm,λb _=>rfl⟩;rw[Li,Bm,Cp,hT,Aa];simp only;rw[Adi F2,bP hZ.hp (by have:=hZ.hg;omega) hx,Aa]
  |err e he hF hT=>
   refine .inr ⟨x,e,he,Bfg hf ho hp hT F0,Ay2 hf hO,λb hL=>?_⟩;obtain⟨s1,s2,s3,s4,s5,s6,s7,s8,s9,s10,s11,s12,hs⟩:=(sN b hf hL hT F0).2 F0;rw[Li,Bm,Cp,hs,Aa];simp only;rw[Abu Bp8,Adi Bpl,zV hx,Aa]
  |next p' f' c' w' r' n' g' a' x' hF hT hf' hZ' hle hmu=>
   have hp':p'.length<=100000:=F0
   rcases Al9 k q o p' f' c' w' r' n' g' a' x' hf' ho hZ' (Ba3 hf ho hZ hO hT) hp' F0 F0 with⟨t2,t3,t4,t5,t6,t7,t8,t9,t10,k1,k2,k3,k4,k5⟩|⟨x2,e,k1,k2,k3,k4⟩
   ·refine .inl ⟨t2,t3,t4,t5,t6,t7,t8,t9,t10,?_,k2,F0,F0,λb hL=>?_⟩
    ·rw[Li,Bm,Cp,hT,Aa];simp only;rw[Abu F2,Abu F2];exact k1
    ·have hs:=(sN b hf hL hT F2).1 rfl;have hL':(p'++b).length<=100000:=by rw[Afz]at hL⊢;omega
     rw[Li,Bm,Cp,hs,Aa];simp only;rw[Abu F2,Abu F2];refine(k5 b hL').trans ?_;exact Aez k q (q+1) o (t2++b) t3 t4 t5 t6 t7 t8 t9 t10 false 0 k2.fit ho ⟨by rw[Afz]at hL⊢;omega,k2.sz.hg,k2.sz.hx⟩ k4 F0 F0
   ·refine .inr ⟨x2,e,k1,k2,k3,λb hL=>?_⟩;have hs:=(sN b hf hL hT F2).1 rfl;have hL':(p'++b).length<=100000:=by rw[Afz]at hL⊢;omega
    rw[Li,Bm,Cp,hs,Aa];simp only;rw[Abu F2,Abu F2];exact k4 b hL'
abbrev Fd(o s:LB):=Li Au o s 0 0 0 0 0 [] 0 []
inductive Bh (o s:LB):LB->Int->Int->Int->Int->Int->LI->Int->LB->Int->Prop
 |wt {p:LB} {f c w r n:Int} {g:LI} {a:Int} {x:LB}:Wt o p f c w r n g a x->p.length<=s.length-> (∀b:LB,(s++b).length<=100000->Fd o (s++b)=Li Au o (p++b) f c w r n g a x)->Bh o s p f c w r n g a x 0
 |er {x:LB} {e:Int}:0<e->Cd e->x.length<=12000-> (∀b:LB,(s++b).length<=100000->Fd o (s++b)=some (o,[],0,0,0,0,0,[],0,x,false,e,e))->Bh o s [] 0 0 0 0 0 [] 0 x e
variable {o s p:LB} {f c w r n:Int} {g:LI} {a:Int} {x:LB} {e:Int}
theorem Wt.stop(W:Wt o p f c w r n g a x):Li Au o p f c w r n g a x=some (o,p,f,c,w,r,n,g,a,x,false,0,0):=by
 obtain⟨q,hq⟩:∃q,Au=q+1:=⟨Au-1,by have:=As;omega⟩;have hx:x.length<=13000000:=by have:=W.sz.hx;omega
 rw[Li,hq,Bm,Cp,W.wait,Aa];simp only;rw[Adi F2,bP W.sz.hp (by have:=W.sz.hg;omega) hx,Aa]
theorem Bh.fd(h:Bh o s p f c w r n g a x e)(hs:s.length<=100000):Fd o s=some (o,p,f,c,w,r,n,g,a,x,false,e,e):=by
 cases h with
 |wt W hl hb=>
  have:=hb [] (by simpa using hs);rw[Ap3,Ap3]at this;rw[this,W.stop]
 |er h0 hc hx hb=>
  have:=hb [] (by simpa using hs);rw[Ap3]at this;exact this
theorem Bh.new(ho:o.length<=64):Bh o [] [] 0 0 0 0 0 [] 0 [] 0:=by
 refine .wt ⟨.new rfl rfl rfl rfl rfl rfl rfl rfl,⟨Bpj,Bpj,Bpj⟩,OutB.nil,?_⟩ (An6 _) λb _=>rfl;rw[Aj,Bt,Adi F2,AF [] Bpj,Aa];rfl
theorem Bf8(ho:o.length<=64)(W:Wt o p f c w r n g a x)(b:LB)(hp:p.length<=20000)(hb:b.length<=20000):
  Ku o p f c w r n g a x false 0 b=Li Au o (p++b) f c w r n g a x/\Kq o p f c w r n g a x false 0 b=Li Au o (p++b) f c w r n g a x:=by
 have hR:Kq o p f c w r n g a x false 0 b=Li Au o (p++b) f c w r n g a x:=by
  have hx:x.length<=13000000:=by have:=W.sz.hx;omega
  have hg:g.length<=2000:=by have:=W.sz.hg;omega
  have hE:¬(Bg (0:Int) 0=true):=F2
  have hF:¬(false=true):=F2
  rw[Kq,Sy,Abn W.fit ho W.out W.wait,Aa,Abu hE,bP F0 hg hx,Aa];simp only;rw[Sr]
  repeat (first|rw[Aa]|rw[Abu hE]|rw[Abu hF])
  rw[Bf,Aa];rfl
 obtain⟨t1,t2,t3,t4,t5,t6,t7,t8,t9,t10,t11,t12,e,h1,h2,_⟩:=Blo ho W.fit W.sz b hp hb;exact⟨h1.trans (h2.symm.trans hR),hR⟩
theorem Bh.check(ho:o.length<=64)(h:Bh o s p f c w r n g a x e)(hp:p.length<=100000):Pv o p f c w r n g a x false e=some 0/\Eg o p f c w r n g a x false e=some 0:=by
 have key:Eg o p f c w r n g a x false e=some 0/\g.length<=1000/\x.length<=13000000:=by
  cases h with
  |wt W hl hb=>exact⟨Abn W.fit ho W.out W.wait,W.sz.hg,by have:=W.sz.hx;omega⟩
  |er h0 hc hx hb=>exact⟨Ae9 ho hx hc h0,Bpj,F0⟩
 obtain⟨k1,k2,k3⟩:=key;obtain⟨E,e1,e2⟩:=Ad3 o p f c w r n g a x false e hp F0 F0;rw[k1]at e2;cases e2;exact⟨e1,k1⟩
theorem Bh.feed(ho:o.length<=64)(h:Bh o s p f c w r n g a x e)(hp:p.length<=20000)(b:LB)(hb:b.length<=20000)(hs:(s++b).length<=100000):
  ∃(p':LB) (f' c' w' r' n':Int) (g':LI) (a':Int) (x':LB) (e':Int),Ku o p f c w r n g a x false e b=some (o,p',f',c',w',r',n',g',a',x',false,e',e')/\
   Kq o p f c w r n g a x false e b=some (o,p',f',c',w',r',n',g',a',x',false,e',e')/\Bh o (s++b) p' f' c' w' r' n' g' a' x' e':=by
 have hck:=h.check ho F0;cases h with
 |wt W hl hB=>
  obtain⟨h1,h2⟩:=Bf8 ho W b hp hb;have hpb:(p++b).length<=100000:=by rw[Afz];omega
  have hZ:SzD (p++b) g a x:=⟨hpb,W.sz.hg,W.sz.hx⟩;rcases Al9 1004 Au o (p++b) f c w r n g a x W.fit ho hZ W.out hpb (Bah hZ) F8 with⟨t2,t3,t4,t5,t6,t7,t8,t9,t10,k1,k2,k3,k4,k5⟩|⟨x2,e,k1,k2,k3,k4⟩
  ·refine⟨t2,t3,t4,t5,t6,t7,t8,t9,t10,0,h1.trans k1,h2.trans k1, .wt k2 ?_ λb2 hL=>?_⟩
   ·rw[Afz]at k3⊢;omega
   ·rw[Ajp,hB (b++b2) (by rw[<-Ajp];exact hL),<-Ajp];refine k5 b2 ?_;rw[Afz,Afz]at hL⊢;omega
  ·have k4':=k4 [] (by simpa using hpb);rw[Ap3]at k4';refine⟨_,_,_,_,_,_,_,_,_,_,h1.trans k4',h2.trans k4', .er k1 k2 k3 λb2 hL=>?_⟩;rw[Ajp,hB (b++b2) (by rw[<-Ajp];exact hL),<-Ajp];refine k4 b2 ?_;rw[Afz,Afz]at hL⊢;omega
 |er h0 hc hx hB=>
  have hne:Bg e 0=true:=by rw[Ah];simp;omega
  refine⟨_,_,_,_,_,_,_,_,_,_,?_,?_, .er h0 hc hx λb2 hL=>?_⟩
  ·rw[Ku,Xs,sO Bpj Bpj F0 hck.1,Abu F2,Aa];simp only;rw[Adi (show e≠0 by omega),Adi hne]
  ·rw[Kq,Sy,hck.2,Aa,Abu F2,bP Bpj Bpj F0,Aa];simp only;rw[Sr,Adi hne,Aa,Adi hne]
  ·rw[Ajp];exact hB (b++b2) (by rw[<-Ajp];exact hL)
end Go.Pl
namespace Go.Pl
open Go Go.Lv
section
variable {o s p:LB} {f c w r n:Int} {g:LI} {a:Int} {x:LB} {e:Int}
theorem FitD.drop(h:FitD o f c w r n g a x)(t:Nat):FitD o f c w r n g a (x.drop t):=by
 cases h with
 |new e1 e2 e3 e4 e5 e6 e7 e8=>subst e8;exact .new e1 e2 e3 e4 e5 e6 e7 Bpj
 |head F C W R N hd hpw e6 e7 e8=>subst e8;exact .head F C W R N hd hpw e6 e7 Bpj
 |tab F C W R N A hd hpw ht hl ea hA=>exact .tab F C W R N A hd hpw ht hl ea hA
theorem OutB.drop(h:OutB f c w r n g a x)(t:Nat):OutB f c w r n g a (x.drop t):=by
 intro F C W R N A hd hg ha;have:=h F C W R N A hd hg ha;rw[Anx];omega
theorem Bh.Bgh(h:Bh o s p f c w r n g a x e):p.length<=s.length/\g.length<=1000/\x.length<=12000:=by
 cases h with
 |wt W hl hb=>exact⟨hl,W.sz.hg,Ay2 W.fit W.out⟩
 |er h0 hc hx hb=>exact⟨Bpj,Bpj,hx⟩
end
section
variable {o s p:LB} {f c w r n:Int} {g:LI} {a:Int} {x:LB} {e:Int}
theorem Awe{u:Bool}{v:Int}(hp:p.length<=20000)(h:De o p f c w r n g a x u v=some e):Cd e:=by
 rw[De]at h;split at h
 ·rw[CE p F0,Aa]at h;have hok:=BP (b:=p);simp only at h;by_cases h2:(Bs p).2≠0
  ·rw[Adi (by rw[Ah];simpa using h2)]at h;cases h;exact R5 p
  ·have h3:(Bs p).2=0:=by simpa using h2
   obtain⟨k1,k2,k3⟩:=hok h3;have hl:(Iv p).length<=p.length:=by rw[Iv,Anx];omega
   rw[Abu (by rw[Ah,h3];simp),Bp,Aa,show p.drop (Bs p).1.toNat=Iv p from rfl,jE _ F0,Aa]at h;cases h;exact Ad9 _
 ·split at h
  ·cases h;decide
  ·obtain⟨⟨z1,z2⟩,hz,h⟩:=dW h;simp only at h;split at h<;>(cases h;decide)
theorem Bia{u:Bool}{v k:Int}(ho:o.length<=64)(hx:x.length<=12000)(hk:(u=false/\v=k/\0<k/\Cd k)\/ (u=true/\v=0/\k=36)):
  Pv o [] 0 0 0 0 0 [] 0 x u v=some 0/\ (∀b,Ku o [] 0 0 0 0 0 [] 0 x u v b=some (o,[],0,0,0,0,0,[],0,x,u,v,k))/\Hp o [] 0 0 0 0 0 [] 0 x u v=some (o,[],0,0,0,0,0,[],0,x,u,v,k):=by
 have key:Eg o [] 0 0 0 0 0 [] 0 x u v=some 0:=by
  rcases hk with⟨rfl,rfl,h1,h2⟩|⟨rfl,rfl,rfl⟩
  ·exact Ae9 ho hx h2 h1
  ·have hX:Dx (Ac x) 12000=false:=by rw[Ap,Ac];simp;omega
   rw[Eg,Abu F9,Abu F2,Adi F2,hX,Abu F2,Abu F2]
 obtain⟨E,e1,e2⟩:=Ad3 o [] 0 0 0 0 0 [] 0 x u v Bpj Bpj F0;rw[key]at e2;cases e2;have hv:(if v≠0 then v else if u=true then 36 else 0)=k:=by
  rcases hk with⟨rfl,rfl,h1,h2⟩|⟨rfl,rfl,rfl⟩
  ·rw[Adi F0]
  ·rfl
 have hk0:Bg k 0=true:=by
  rw[Ah];rcases hk with⟨rfl,rfl,h1,h2⟩|⟨rfl,rfl,rfl⟩
  ·simp;omega
  ·rfl
 have hb:=sO (o:=o) (p:=[]) (f:=0) (c:=0) (w:=0) (r:=0) (n:=0) (g:=[]) (a:=0) (x:=x) (u:=u) (v:=v) Bpj Bpj F0 e1;rw[Abu F2,hv]at hb;refine⟨e1,λb=>?_,?_⟩
 ·rw[Ku,Xs,hb,Aa];simp only;rw[Adi hk0]
 ·rw[Hp,hb,Aa];simp only;rw[Adi hk0]
theorem Bh.finish(ho:o.length<=64)(h:Bh o s p f c w r n g a x e)(hp:p.length<=20000):
  ∃(u:Bool) (v k:Int),Hp o p f c w r n g a x false e=some (o,[],0,0,0,0,0,[],0,x,u,v,k)/\ ((u=false/\v=k/\0<k/\Cd k/\ (e=0\/e=k))\/ (u=true/\v=0/\k=0)):=by
 have hs:=h.Bgh;have hck:=(h.check ho F0).1;have hb:=sO (o:=o) (p:=p) (f:=f) (c:=c) (w:=w) (r:=r) (n:=n) (g:=g) (a:=a) (x:=x) (u:=false) (v:=e) F0 F0 F0 hck;rw[Abu F2]at hb;cases h with
 |wt W hl hB=>
  obtain⟨e1,d1,d2⟩:=iq (o:=o) (p:=p) (f:=f) (c:=c) (w:=w) (r:=r) (n:=n) (a:=a) (u:=false) (v:=0) (g:=g) (x:=x) hp;have hcd:=Awe hp d2;rw[Hp,hb,Aa];simp only;rw[Abu F2,d1,Aa];by_cases he:Bg e1 0=true
  ·rw[Adi he];refine⟨false,e1,e1,rfl, .inl ⟨rfl,rfl,?_,hcd,Bpj⟩⟩;have:=hcd.nn;rw[Ah]at he;simp only[Box]at he;omega
  ·rw[Abu he];exact⟨true,0,0,rfl, .inr ⟨rfl,rfl,rfl⟩⟩
 |er h0 hc hx hB=>
  have hne:Bg e 0=true:=by rw[Ah];simp;omega
  rw[Hp,hb,Aa];simp only;rw[Adi (show e≠0 by omega),Adi hne];exact⟨false,e,e,rfl, .inl ⟨rfl,rfl,h0,hc, .inr rfl⟩⟩
end
section
variable {o p:LB} {f c w r n:Int} {g:LI} {a:Int} {x:LB} {q:Nat}
theorem BQ(hp:p.length<=100000)(hg:g.length<=1000)(hx:x.length<=13000000)(h:Aj o p f c w r n g a x false 0=some (o,p,f,c,w,r,n,g,a,x,false,0, -1)):Li (q+1) o p f c w r n g a x=some (o,p,f,c,w,r,n,g,a,x,false,0,0):=by
 rw[Li,Bm,Cp,h,Aa];simp only;rw[Adi F2,bP hp F0 hx,Aa]
theorem TT(hx:x.length<=13000000){e:Int}(he:0<e){t2:LB}{t3 t4 t5 t6 t7:Int}{t8:LI}{t9:Int}{t11:Bool}{t12:Int}(h:Aj o p f c w r n g a x false 0=some (o,t2,t3,t4,t5,t6,t7,t8,t9,x,t11,t12,e)):Li (q+1) o p f c w r n g a x=some (o,[],0,0,0,0,0,[],0,x,false,e,e):=by
 rw[Li,Bm,Cp,h,Aa];simp only;rw[Abu Bp8,Adi Bpl,zV hx,Aa]
theorem vO{p':LB}{f' c' w' r' n':Int}{g':LI}{a':Int}{x':LB}(h:Aj o p f c w r n g a x false 0=some (o,p',f',c',w',r',n',g',a',x',false,0,0)):Li (q+1) o p f c w r n g a x=Li q o p' f' c' w' r' n' g' a' x':=by
 rw[Li,Bm,Cp,h,Aa];simp only;rw[Abu F2,Abu F2]
end
def Ends(o:LB)(R:Option Bk1)(x:LB)(e:Int):Prop:=(0<e/\R=some (o,[],0,0,0,0,0,[],0,x,false,e,e))\/ (∃(p:LB) (f c w r n:Int) (g:LI) (a:Int),p.length<=100000/\R=some (o,p,f,c,w,r,n,g,a,x,false,0,0)/\De o p f c w r n g a x false 0=some e)
theorem Abk(b p:LB)(hb:b.length<=20000)(hp:p.length<=64)(q:Nat):
  (∃e:Int,e≠0/\Dl b p=some (VD e)/\Ends p (Li (q+2) p b 0 0 0 0 0 [] 0 []) [] e)\/ (∃f c w r n A l,Opn b p f c w r n A l/\Li (q+2) p b 0 0 0 0 0 [] 0 []=Li q p (b.drop A) (f:Int) (c:Int) (w:Int) (r:Int) (n:Int) l 0 []):=by
 have hx0:([]:LB).length<=13000000:=by simp
 have hg0:([]:LI).length<=1000:=by simp
 have hT:Aj p b 0 0 0 0 0 [] 0 [] false 0=Aj p b 0 0 0 0 0 [] 0 [] false 0:=rfl
 conv at hT=>rhs;rw[Aj,Bt,Adi F2,AF b F0,Aa,stS]
 have hE:De p b 0 0 0 0 0 [] 0 [] false 0=De p b 0 0 0 0 0 [] 0 [] false 0:=rfl
 conv at hE=>rhs;rw[De,Adi F2,CE b F0,Aa]
 have hP:Dl b p=Dl b p:=rfl
 conv at hP=>rhs;rw[Dl,Uz,Abu F9,Abu F9,Qi b F0,Aa]
 have hfn:=Q4 b;have hrn:=Adg (Iv b);have hopen:=N2 b p F0 hp;simp only at hE;by_cases h2:(Bs b).2=0
 ·obtain⟨p0,p1,p2⟩:=BP h2;have hc:=Bp (l:=b) p0 p1;have hlen:(Iv b).length=b.length-(Bs b).1.toNat:=by simp[Iv]
  simp only[h2]at hP hE;rw[Abu (show ¬(Bs b).2=24 by omega),Abu (show ¬(Bs b).2≠0 by omega)]at hT;rw[Abu Bpk,hc,Aa,show b.drop (Bs b).1.toNat=Iv b from rfl,QI _ Bqd,Aa]at hP;rw[Abu Bpk,hc,Aa,show b.drop (Bs b).1.toNat=Iv b from rfl,jE _ Bqd,Aa]at hE;by_cases h3:(Eo (Iv b)).2.2.2.2.2=0
  ·obtain⟨g1,g2,g3,g4⟩:=tX h3;have Bgf:¬((Pq (Iv b) Y8||Pq (Iv b) og)=true):=by
    have i1:Pq (Iv b) Y8=false:=by rw[Pq,Bj6 Bqw];rfl
    have i2:Pq (Iv b) og=false:=by rw[Pq,Bj6 Bqx];rfl
    rw[i1,i2];decide
   rw[Abu Bgf,Abu (show ¬(Eo (Iv b)).2.2.2.2.2=24 by omega),h3]at hT;simp only at hT;rw[Abu F2]at hT;have hd:HdI (f0 (Iv b):Int) (f1 (Iv b):Int) (f2 (Iv b):Int) (f3 (Iv b):Int) (f4 (Iv b):Int) (f0 (Iv b)) (f1 (Iv b)) (f2 (Iv b)) (f3 (Iv b)) (f4 (Iv b)):=⟨rfl,rfl,rfl,rfl,rfl,g3,g4⟩;generalize hF:(Bs b).1.toNat=F at*
   have hF':(Bs b).1=(F:Int):=F0
   rw[g1,hF']at hP hT;simp only at hP hT;generalize f0 (Iv b)=f at*
   generalize f1 (Iv b)=c at*
   generalize f2 (Iv b)=w at*
   generalize f3 (Iv b)=r at*
   generalize f4 (Iv b)=n at*
   have t22:Ae (F:Int) 22=((F+22:Nat):Int):=by rw[Ag];omega
   have t30:Ae ((F+22:Nat):Int) 8=((F+30:Nat):Int):=by rw[Ag];omega
   have Bmh:f=1\/f=2:=by simp only[Fs,Ahz]at g3;omega
   have hf1:geq (f:Int) 1=decide (f=1):=by rw[Ar,An7];simp;omega
   rw[Abu Bpk,t22,t30]at hP;rw[Bp,Aa,Hk,Hi,Ey,show((F:Int)+22).toNat=F+22 by omega]at hT;by_cases NF:((p==([]:LB)) !=(geq (f:Int) (1:Int)))=true
   ·rw[Adi NF]at hP hT;rw[Aa]at hT;exact .inl ⟨26,F0,hP, .inl ⟨F0,TT (q:=q+1) hx0 F2 hT⟩⟩
   ·rw[Abu NF]at hP hT;rw[Aa]at hT;have hl1:=vO (q:=q+1) hT;have hpf:(p=[]↔f=1):=by
     rw[Ar]at NF;have h5:(p==([]:LB))=((f:Int)==1):=by simpa using NF
     have h6:(p==([]:LB))=true↔((f:Int)==1)=true:=by rw[h5]
     rw[Bcg,Bcg]at h6;rw[h6];omega
    have hpw:(p==([]:LB))=decide (f=1):=by rw[<-hf1];simpa using NF
    have hdl:(b.drop (F+22)).length=b.length-(F+22):=Anx;have hE2:De p (b.drop (F+22)) (f:Int) (c:Int) (w:Int) (r:Int) (n:Int) [] 0 [] false 0=some 24:=by
     rw[De,Abu Bpm,Adi F2]
    have hT2:Aj p (b.drop (F+22)) (f:Int) (c:Int) (w:Int) (r:Int) (n:Int) [] 0 [] false 0=Aj p (b.drop (F+22)) (f:Int) (c:Int) (w:Int) (r:Int) (n:Int) [] 0 [] false 0:=rfl
    conv at hT2=>rhs;rw[Aj,Bt,Abu Bpm,By,Bw,Adi F2,Fe,Ic]
    have hend:∀D:Nat,F+22+D<=b.length->D=(if f=2 then 8 else 0)->Dl b p=Qq b (f:Int) (c:Int) (w:Int) (r:Int) (n:Int) ((F+22+D:Nat):Int)->
      Aj p (b.drop (F+22)) (f:Int) (c:Int) (w:Int) (r:Int) (n:Int) [] 0 [] false 0=((Ea (b.drop (F+22)) (f:Int) (c:Int) (w:Int) (r:Int) (n:Int) (D:Int)).bind (λ(ag,ak,w1)=>if(Bg w1 0)then some (p,b.drop (F+22),(f:Int),(c:Int),(w:Int),(r:Int),(n:Int),([]:LI),(0:Int),([]:LB),false,(0:Int),w1)else(Br (b.drop (F+22)) ag (Ac (b.drop (F+22)))).bind λal=>some (p,al,(f:Int),(c:Int),(w:Int),(r:Int),(n:Int),ak,(0:Int),([]:LB),false,(0:Int),(0:Int))))->
      (∃e:Int,e≠0/\Dl b p=some (VD e)/\Ends p (Li (q+2) p b 0 0 0 0 0 [] 0 []) [] e)\/ (∃f c w r n A l,Opn b p f c w r n A l/\Li (q+2) p b 0 0 0 0 0 [] 0 []=Li q p (b.drop A) (f:Int) (c:Int) (w:Int) (r:Int) (n:Int) l 0 []):=by
     intro D hD hD2 e1 e2;obtain⟨_,k2,k3⟩:=S2 hd p (b.drop (F+22)) F0 D F0 0 [] false 0;rw[vU g3 g4 b F0 (F+22+D) hD]at e1;rw[k2,Aa]at e2;have hnn:=Adq ((b.drop (F+22)).drop D) (Al (Ak r) n).length;have hok:=jJ (b:=(b.drop (F+22)).drop D) (n:=(Al (Ak r) n).length);rw[Bk5]at e2 hnn hok k3;generalize hz:En (b.drop (F+22+D)) (Al (Ak r) n).length=z at*
     obtain⟨z1,z2⟩:=z;simp only at e1 e2 hnn hok k3;by_cases h:z2≠0
     ·rw[Adi h]at e1;refine .inl ⟨z2,h,e1,?_⟩;by_cases h24:z2=24
      ·rw[Adi h24]at e2;simp only at e2;rw[Adi F2]at e2;rw[h24];exact .inr ⟨_,_,_,_,_,_,_,_,F0,hl1.trans (BQ F0 hg0 hx0 e2),hE2⟩
      ·rw[Abu h24]at e2;simp only at e2;rw[Adi (by rw[Ah];simpa using h)]at e2;exact .inl ⟨F0,hl1.trans (TT hx0 F0 e2)⟩
     ·have h0:z2=0:=by simpa using h
      subst h0;obtain⟨k1,m2,m3,m4,m5,m6⟩:=hok rfl;have hk3:=k3 rfl;simp only[Aki,Bpb]at k1;have gl:z1.length=(Al (Ak r) n).length:=by rw[k1];exact Vr _ _
      rw[Abu (show ¬((0:Int)≠0) by decide)]at e1;rw[Abu (show ¬((0:Int)=24) by decide)]at e2;simp only at e2;rw[Abu F2,Bp,Aa,Bk5]at e2;rcases hopen with⟨e,he,h1,_⟩|⟨f',c',w',r',n',A',l',o'⟩
      ·rw[e1]at h1;have:=Axh h1;simp only[VD,Aki]at this;exact absurd this.2.2.2.2.2.2.2.symm he
      ·have hpr:=o'.prog;rw[e1]at hpr;simp only[Ajq,Aki]at hpr;obtain⟨v1,v2,v3,v4,v5,v6,v7,_⟩:=hpr;refine .inr ⟨f',c',w',r',n',A',l',o',?_⟩;rw[<-v1,<-v2,<-v3,<-v4,<-v5,<-v7];refine hl1.trans ((vO e2).trans ?_);congr 2;omega
    by_cases h5:f=2
    ·have Aw2:p≠ []:=λe=>by have:=hpf.1 e;omega
     have h64:(p !=([]:LB))=true:=by simpa using Aw2
     rw[Adi h64]at hP;rw[Adi (by rw[Ar,h5];rfl)]at hT2;by_cases h6:b.length<F+30
     ·rw[Adi F3]at hP hT2;rw[Aa]at hT2;simp only at hT2;rw[Adi F2]at hT2;exact .inl ⟨24,F0,hP, .inr ⟨_,_,_,_,_,_,_,_,F0,hl1.trans (BQ F0 hg0 hx0 hT2),hE2⟩⟩
     ·have hseg:((b.take (F+30)).drop (F+22)).length=8:=by simp;omega
      have Boc:(b.drop (F+22)).take 8=(b.take (F+30)).drop (F+22):=by rw[Boq];congr 1;omega
      rw[Abu F3,Qn,Aa]at hP;rw[Abu (by rw[Af,Ac,hdl];simp;omega),Ct,Aa,iO p hp,Aa,show(8:Int).toNat=8 from rfl,Boc]at hT2;rw[Pn,jL p hp,Aa]at hP;simp only at hP;rw[Abu (by rw[Ah,Ah,Ac,Ac,Az,show((F+30:Nat):Int).toNat=F+30 from rfl,show((F+22:Nat):Int).toNat=F+22 from rfl,hseg];simp),Fp,Aa,Aa]at hP;simp only at hP;rw[Abu Bpk,show((F+30:Nat):Int).toNat=F+30 from rfl,show((F+22:Nat):Int).toNat=F+22 from rfl]at hP;generalize(b.take (F+30)).drop (F+22)=seg at*
      by_cases h7:seg=Fg (Uo p).toNat 8
      ·rw[Abu (by simp[h7])]at hP hT2;exact hend 8 F0 (by rw[Adi h5]) hP hT2
      ·rw[Adi (by simpa using h7)]at hP;rw[Adi (by simpa using h7),Aa]at hT2;simp only at hT2;rw[Adi F2]at hT2;exact .inl ⟨26,F0,hP, .inl ⟨F0,hl1.trans (TT hx0 F2 hT2)⟩⟩
    ·have hpe:p=[]:=hpf.2 F0;rw[Abu (by rw[hpe];simp)]at hP;rw[Abu Bpm]at hT2;exact hend 0 F0 (by rw[Abu h5]) hP hT2
  ·have h3':=h3;generalize Eo (Iv b)=v at*
   obtain⟨v1,v2,v3,v4,v5,v6⟩:=v;simp only at h3 hP hE hrn;rw[Adi (by rw[Ah];simpa using h3)]at hP;refine .inl ⟨v6,h3,hP,?_⟩;by_cases Bgf:(Pq (Iv b) Y8||Pq (Iv b) og)=true
   ·rw[Adi Bgf]at hT;simp only at hT;rw[Adi F2]at hT;exact .inr ⟨_,_,_,_,_,_,_,_,F0,BQ F0 hg0 hx0 hT,hE⟩
   ·rw[Abu Bgf]at hT;by_cases h24:v6=24
    ·rw[Adi h24]at hT;simp only at hT;rw[Adi F2]at hT;exact .inr ⟨_,_,_,_,_,_,_,_,F0,BQ F0 hg0 hx0 hT,hE⟩
    ·rw[Abu h24]at hT;simp only at hT;rw[Adi (by rw[Ah];simpa using h3)]at hT;exact .inl ⟨F0,TT hx0 F0 hT⟩
 ·have h2':=h2;generalize Bs b=v at*
  obtain⟨v,e⟩:=v;simp only at h2 hP hT hE hfn;rw[Adi (by rw[Ah];simpa using h2)]at hP hE;refine .inl ⟨e,h2,hP,?_⟩;by_cases h24:e=24
  ·rw[Adi h24]at hT;simp only at hT;rw[Adi F2]at hT;exact .inr ⟨_,_,_,_,_,_,_,_,F0,BQ F0 hg0 hx0 hT,hE⟩
  ·rw[Abu h24,Adi h2]at hT;simp only at hT;rw[Adi (by rw[Ah];simpa using h2)]at hT;exact .inl ⟨F0,TT hx0 F0 hT⟩
section
variable {b p:LB} {f c w r n A:Nat} {l:LI} (o:Opn b p f c w r n A l) (hb:b.length<=20000)
include o hb
theorem jo:∀(j k q:Nat) (acc:LB),k+j=l.length->j<q-> (A:Int)+(l.take k).sum<=b.length->acc.length<=12000*k->
  ∃X,Ends p (Li q p (b.drop ((A:Int)+(l.take k).sum).toNat) (f:Int) (c:Int) (w:Int) (r:Int) (n:Int) l (k:Int) acc) X (pD (Il b p f c w r n A l) (YB b A l) j k acc).2/\
   ((pD (Il b p f c w r n A l) (YB b A l) j k acc).2=0->X=(pD (Il b p f c w r n A l) (YB b A l) j k acc).1)
 |j,k,0,_,_,h,_,_=>absurd h (Bix _)
 |j,k,q+1,acc,hk,hq,hA,ha=>by
  have hd:HdI (f:Int) (c:Int) (w:Int) (r:Int) (n:Int) f c w r n:=⟨rfl,rfl,rfl,rfl,rfl,o.shape,o.fit⟩;have hs1:=o.some1;have hsum:=o.sum;have FA:=hd.num;have hlen:=o.len;have b1:=Ik o.five k;have hfn:¬(geq (f:Int) 0=true):=by rw[Ar];simp;omega
  have hgl:¬(geq (Ac l) 0=true):=by rw[Ar,Ac,Bcg];omega
  have hgf:geq (Ac l) 0=false:=by simpa using hgl
  generalize hIn:b.drop ((A:Int)+(l.take k).sum).toNat=In;have Bjz:In.length=b.length-((A:Int)+(l.take k).sum).toNat:=by rw[<-hIn,Anx]
  have hT:Aj p In (f:Int) (c:Int) (w:Int) (r:Int) (n:Int) l (k:Int) acc false 0=Aj p In (f:Int) (c:Int) (w:Int) (r:Int) (n:Int) l (k:Int) acc false 0:=rfl
  conv at hT=>rhs;rw[Aj,Bt,Abu hfn,By,Bw,Abu hgl]
  have hE:De p In (f:Int) (c:Int) (w:Int) (r:Int) (n:Int) l (k:Int) acc false 0=De p In (f:Int) (c:Int) (w:Int) (r:Int) (n:Int) l (k:Int) acc false 0:=rfl
  conv at hE=>rhs;rw[De,Abu hfn]
  cases j with
  |zero=>
   obtain rfl:k=l.length:=F0
   rw[Bd0]at hIn Bjz;have hbe:YB b A l=(Nx In).2:=by rw[YB,hIn]
   rw[Adi Bqp]at hT;have hgt:Cj (l.length:Int) (Ac l)=false:=by rw[Af,Ac,Bh4];omega
   rw[Abu (by rw[hgf,hgt];decide),D0 In F0,Aa]at hE;rw[pD,hbe];have hbz:=Afv In;have hb4:4000<In.length-> (Nx In).2=38:=λh4=>by rw[Nx,Adi h4]
   generalize Nx In=z at*
   obtain⟨z1,z2⟩:=z;simp only at hE hbz hb4⊢;by_cases h4:4000<In.length
   ·rw[Adi F9]at hT;rw[hb4 h4,Adi F2];exact⟨acc, .inl ⟨F2,TT F0 F2 hT⟩,λh=>by cases h⟩
   ·rw[Abu F9]at hT;have hlw:=BQ (q:=q) (by omega:In.length<=100000) hs1.2 F0 hT;rcases hbz with h|h
    ·rw[h,Abu F2];rw[h,Abu F2]at hE;exact⟨acc, .inr ⟨_,_,_,_,_,_,_,_,F0,hlw,hE⟩,λ_=>rfl⟩
    ·rw[h,Adi F2];rw[h,Adi F2]at hE;exact⟨acc, .inr ⟨_,_,_,_,_,_,_,_,F0,hlw,hE⟩,λh=>by cases h⟩
  |succ j=>
   have hlt:k<l.length:=F0
   have hlt2:k<(Al (Ak r) n).length:=F0
   obtain⟨m,x,s,e,g⟩:=BO o k hlt;have hw:Bd (w:Int):=(Kn o.shape).2.1;have Bcf:=g.lens hw;have b2:=Ik o.five (k+1);have e1:=Kh hlt;have h5:=o.five l[k] (Avu _);have hm:=g.mom;rw[Abu Bp5,Dp,Et,Bn hlt,Aa]at hT;have hgt:Cj (k:Int) (Ac l)=true:=by rw[Af,Ac,Ahz];omega
   rw[Adi (by rw[hgf,hgt];decide)]at hE;rw[pD,g.eq];simp only;rcases g.way with⟨w1,rfl⟩|⟨w1,_,w2⟩
   ·rw[Adi F3,Aa]at hT;simp only at hT;rw[Adi F2]at hT;rw[Adi F2];exact⟨acc, .inr ⟨_,_,_,_,_,_,_,_,F0,BQ F0 hs1.2 F0 hT,hE⟩,λh=>by cases h⟩
   ·have hseg:In.take l[k].toNat=qh b A l k:=by
     rw[qh,<-hIn,Boq];congr 1;omega
    have hnn:=vM hw (Ks p) FA.2.1.1 FA.2.1.2 g.pos.1 (by
     have hlt3:=Bn hlt2;rw[hlt3]at hm;have hm':=Axh hm;obtain⟨m',hm2,m1,m2⟩:=Wn (Eh r) FA.2.2.2.2.1 (Avu hlt2);omega) w2
    rw[Abu F3,TO p o.pass,Aa]at hT;simp only at hT;rw[Ct,Aa,hseg,Fx,Aa]at hT;simp only at hT;rw[hd.Aie,Aa,hm,Aa,Aa,w2,Aa]at hT;simp only at hT;rw[Ev,Er]at hT;by_cases he:e≠0
    ·rw[Adi (by rw[Ah];simpa using he),Aa]at hT;simp only at hT;rw[Adi (by rw[Ah];simpa using he)]at hT;rw[Adi he];exact⟨acc, .inl ⟨by simp only;omega,TT F0 F0 hT⟩,λh=>absurd h he⟩
    ·have he0:e=0:=by simpa using he
     obtain⟨q1,q2,q3,q4,q5⟩:=g.some' he0;rw[Abu (by rw[Ah];simpa using he),QC hw F0 q3,<-q1,Aa,Aa]at hT;simp only at hT;rw[Abu F2,Bf F7,Aa,Awv,Bf,Aa,Aa,Bp,Aa,Ag]at hT;rw[Abu he,vO hT];have Bj0:In.drop l[k].toNat=b.drop ((A:Int)+(l.take (k+1)).sum).toNat:=by rw[<-hIn,Bk5];congr 1;omega
     rw[Bj0];exact jo j (k+1) q (acc++s) F0 F0 q5 Bpx
end
theorem Avt(b p:LB)(hb:b.length<=20000)(hp:p.length<=64):∃(X:LB) (x1 x2 x3:Int) (x4:LX) (E:Int),Ends p (Fd p b) X E/\Kx b p=some (x1,x2,x3,x4,E)/\ (E=0->Jy x2 x4=some (X,0)):=by
 obtain⟨q,hq⟩:∃q,Au=q+1002+2:=⟨Au-1004,by have:=As;omega⟩;rw[Fd,hq];rcases Abk b p hb hp (q+1002)with⟨e,he,h1,h2⟩|⟨f,c,w,r,n,A,l,o,h2⟩
 ·rcases vL b p F0 hp with⟨e',he',k1,_,k3,_⟩|⟨f,c,w,r,n,A,l,o,_,_⟩
  ·rw[h1]at k1;have:=Axh k1;simp only[VD,Aki]at this;obtain rfl:=this.2.2.2.2.2.2.2;exact⟨[],0,0,0,[],e,h2,k3,λh=>absurd h he⟩
  ·have:=o.prog;rw[h1]at this;have:=Axh this;simp only[VD,Aki]at this;exact absurd this.2.2.2.2.2.2.2 he
 ·rcases vL b p F0 hp with⟨e',he',k1,_,k3,_⟩|⟨f',c',w',r',n',A',l',o',k3,_⟩
  ·have:=o.prog;rw[k1]at this;have:=Axh this;simp only[VD,Aki]at this;exact absurd this.2.2.2.2.2.2.2 he'
  ·have hpr:=o'.prog;rw[o.prog]at hpr;simp only[Ajq,Aki]at hpr;obtain⟨v1,v2,v3,v4,v5,v6,v7,_⟩:=hpr;obtain rfl:f=f':=F0
   obtain rfl:c=c':=F0
   obtain rfl:w=w':=F0
   obtain rfl:r=r':=F0
   obtain rfl:n=n':=F0
   obtain rfl:A=A':=F0
   subst v7;have hs1:=o.some1;have hat:=o.at';obtain⟨X,g1,g2⟩:=jo o hb l.length 0 (q+1002) [] F0 F0 (by rw[Bj8,Bog];omega) Bpj;rw[Bj8,Bog,Int.add_zero,Ajx]at g1;have hrc:=Aax w (Il b p f c w r n A l) (YB b A l) l.length 0 [] [];have hgd:=uE (λk=>O9 w (Il b p f c w r n A l k)) (λk=>(Il b p f c w r n A l k).2) (YB b A l) l.length 0 [];rw[lH,NQ]at k3;rw[h2];by_cases hC:(cW (λk=>O9 w (Il b p f c w r n A l k)) (λk=>(Il b p f c w r n A l k).2) (YB b A l) l.length 0 []).2≠0
   ·rw[Adi hC,wX]at k3;rw[<-hrc]at hC k3;exact⟨X,0,0,0,[],_,g1,k3,λh=>absurd h hC⟩
   ·have hC0:(cW (λk=>O9 w (Il b p f c w r n A l k)) (λk=>(Il b p f c w r n A l k).2) (YB b A l) l.length 0 []).2=0:=by simpa using hC
    obtain⟨hbe,hE',hC1⟩:=hgd hC0;have hE:∀i,i<l.length-> (Il b p f c w r n A l i).2=0:=λi hi=>hE' i F0 F0;rw[Awv]at hC1;rw[Abu hC,hC1]at k3;rw[hC0]at hrc;have hX:=g2 hrc;rw[hbe,S1 _ _ _ _ λi h1 h2=>hE i F0,Awv]at hX;rw[hrc]at g1;exact⟨X,_,_,_,_,0,g1,k3,λ_=>by rw[hX];exact Aty o hE⟩
section
variable {b p:LB} {f c w r n A:Nat} {l:LI} (o:Opn b p f c w r n A l) (hb:b.length<=20000)
include o hb
theorem Abf{k:Nat}(hk:k<l.length)(h0:(A:Int)+(l.take k).sum<=b.length)(acc:LB)(hacc:acc.length<=12000*k):
  (b.length<(A:Int)+(l.take (k+1)).sum->∀q,Li (q+1) p (b.drop ((A:Int)+(l.take k).sum).toNat) (f:Int) (c:Int) (w:Int) (r:Int) (n:Int) l (k:Int) acc=some (p,b.drop ((A:Int)+(l.take k).sum).toNat,(f:Int),(c:Int),(w:Int),(r:Int),(n:Int),l,(k:Int),acc,false,0,0))/\
  ((A:Int)+(l.take (k+1)).sum<=b.length-> ((Il b p f c w r n A l k).2=0->∀q,Li (q+1) p (b.drop ((A:Int)+(l.take k).sum).toNat) (f:Int) (c:Int) (w:Int) (r:Int) (n:Int) l (k:Int) acc=Li q p (b.drop ((A:Int)+(l.take (k+1)).sum).toNat) (f:Int) (c:Int) (w:Int) (r:Int) (n:Int) l ((k+1:Nat):Int) (acc++(Il b p f c w r n A l k).1))/\
   ((Il b p f c w r n A l k).2≠0->∀q,Li (q+1) p (b.drop ((A:Int)+(l.take k).sum).toNat) (f:Int) (c:Int) (w:Int) (r:Int) (n:Int) l (k:Int) acc=some (p,[],0,0,0,0,0,[],0,acc,false,(Il b p f c w r n A l k).2,(Il b p f c w r n A l k).2))):=by
 have hd:HdI (f:Int) (c:Int) (w:Int) (r:Int) (n:Int) f c w r n:=⟨rfl,rfl,rfl,rfl,rfl,o.shape,o.fit⟩;have hs1:=o.some1;have hsum:=o.sum;have FA:=hd.num;have hlen:=o.len;have b1:=Ik o.five k;have hfn:¬(geq (f:Int) 0=true):=by rw[Ar];simp;omega
 have hgl:¬(geq (Ac l) 0=true):=by rw[Ar,Ac,Bcg];omega
 generalize hIn:b.drop ((A:Int)+(l.take k).sum).toNat=In;have Bjz:In.length=b.length-((A:Int)+(l.take k).sum).toNat:=by rw[<-hIn,Anx]
 have hT:Aj p In (f:Int) (c:Int) (w:Int) (r:Int) (n:Int) l (k:Int) acc false 0=Aj p In (f:Int) (c:Int) (w:Int) (r:Int) (n:Int) l (k:Int) acc false 0:=rfl
 conv at hT=>rhs;rw[Aj,Bt,Abu hfn,By,Bw,Abu hgl]
 have hlt2:k<(Al (Ak r) n).length:=F0
 obtain⟨m,x,s,e,g⟩:=BO o k hk;have hw:Bd (w:Int):=(Kn o.shape).2.1;have Bcf:=g.lens hw;have b2:=Ik o.five (k+1);have e1:=Kh hk;have h5:=o.five l[k] (Avu _);have hm:=g.mom;rw[Abu Bp5,Dp,Et,Bn hk,Aa]at hT;rw[g.eq];simp only;refine⟨λhlt q=>?_,λhge=>?_⟩
 ·rw[Adi F3,Aa]at hT;simp only at hT;rw[Adi F2]at hT;exact BQ F0 hs1.2 F0 hT
 rcases g.way with⟨w1,_⟩|⟨w1,_,w2⟩
 ·omega
 have hseg:In.take l[k].toNat=qh b A l k:=by
  rw[qh,<-hIn,Boq];congr 1;omega
 have hnn:=vM hw (Ks p) FA.2.1.1 FA.2.1.2 g.pos.1 (by
  have hlt3:=Bn hlt2;rw[hlt3]at hm;have hm':=Axh hm;obtain⟨m',hm2,m1,m2⟩:=Wn (Eh r) FA.2.2.2.2.1 (Avu hlt2);omega) w2
 rw[Abu F3,TO p o.pass,Aa]at hT;simp only at hT;rw[Ct,Aa,hseg,Fx,Aa]at hT;simp only at hT;rw[hd.Aie,Aa,hm,Aa,Aa,w2,Aa]at hT;simp only at hT;rw[Ev,Er]at hT;refine⟨λhe q=>?_,λhe q=>?_⟩
 ·obtain⟨q1,q2,q3,q4,q5⟩:=g.some' he;rw[Abu (by rw[Ah];simpa using he),QC hw F0 q3,<-q1,Aa,Aa]at hT;simp only at hT;rw[Abu F2,Bf F7,Aa,Awv,Bf,Aa,Aa,Bp,Aa,Ag]at hT;rw[vO hT];have Bj0:In.drop l[k].toNat=b.drop ((A:Int)+(l.take (k+1)).sum).toNat:=by rw[<-hIn,Bk5];congr 1;omega
  rw[Bj0];rfl
 ·rw[Adi (by rw[Ah];simpa using he),Aa]at hT;simp only at hT;rw[Adi (by rw[Ah];simpa using he)]at hT;exact TT F0 F0 hT
theorem Acx:∀(j k q:Nat) (acc:LB),k+j<=l.length-> (A:Int)+(l.take (k+j)).sum<=b.length-> (∀i,k<=i->i<k+j-> (Il b p f c w r n A l i).2=0)->acc.length<=12000*k->
  Li (q+j) p (b.drop ((A:Int)+(l.take k).sum).toNat) (f:Int) (c:Int) (w:Int) (r:Int) (n:Int) l (k:Int) acc=Li q p (b.drop ((A:Int)+(l.take (k+j)).sum).toNat) (f:Int) (c:Int) (w:Int) (r:Int) (n:Int) l ((k+j:Nat):Int) (acc++Wb (λi=>(Il b p f c w r n A l i).1) j k)
 |0,k,q,acc,_,_,_,_=>by simp[Wb]
 |j+1,k,q,acc,hk,hA,hg,hacc=>by
  have hnn:∀z∈l,0<=z:=λz hz=>by have:=o.five z hz;omega
  have m0:=Akr hnn (show k<=k+(j+1) by omega);have m1:=Akr hnn (show k+1<=k+(j+1) by omega);obtain⟨_,h2⟩:=Abf (hb:=hb) o (k:=k) F0 F0 acc hacc;have h3:=(h2 F0).1 (hg k F0 F0) (q+j);obtain⟨m,x,s,e,g⟩:=BO o k F0;have Bcf:=g.lens (Kn o.shape).2.1;have hs:(Il b p f c w r n A l k).1.length<=12000:=by rw[g.eq];exact Bcf.1
  have ih:=Acx j (k+1) q (acc++(Il b p f c w r n A l k).1) F0 (by rw[show k+1+j=k+(j+1) by omega];exact hA) (λi h1 h2=>hg i F0 F0) Bpx;rw[show q+(j+1)=q+j+1 by omega,h3,ih,show k+1+j=k+(j+1) by omega,Wb,Ajp]
theorem Axt{acc:LB}(hacc:acc.length<=13000000)(h0:(A:Int)+l.sum<=b.length)(h4:b.length<= (A:Int)+l.sum+4000)(q:Nat):Li (q+1) p (b.drop ((A:Int)+l.sum).toNat) (f:Int) (c:Int) (w:Int) (r:Int) (n:Int) l (l.length:Int) acc=some (p,b.drop ((A:Int)+l.sum).toNat,(f:Int),(c:Int),(w:Int),(r:Int),(n:Int),l,(l.length:Int),acc,false,0,0):=by
 have hd:HdI (f:Int) (c:Int) (w:Int) (r:Int) (n:Int) f c w r n:=⟨rfl,rfl,rfl,rfl,rfl,o.shape,o.fit⟩;have hs1:=o.some1;have FA:=hd.num;have hfn:¬(geq (f:Int) 0=true):=by rw[Ar];simp;omega
 have hgl:¬(geq (Ac l) 0=true):=by rw[Ar,Ac,Bcg];omega
 have hl0:0<=l.sum:=Aos l o.five;generalize hIn:b.drop ((A:Int)+l.sum).toNat=In;have Bjz:In.length=b.length-((A:Int)+l.sum).toNat:=by rw[<-hIn,Anx]
 have hT:Aj p In (f:Int) (c:Int) (w:Int) (r:Int) (n:Int) l (l.length:Int) acc false 0=Aj p In (f:Int) (c:Int) (w:Int) (r:Int) (n:Int) l (l.length:Int) acc false 0:=rfl
 conv at hT=>rhs;rw[Aj,Bt,Abu hfn,By,Bw,Abu hgl]
 rw[Adi Bqp,Abu F9]at hT;exact BQ F0 hs1.2 hacc hT
theorem Au2(q:Nat):Li (q+2) p b 0 0 0 0 0 [] 0 []=Li q p (b.drop A) (f:Int) (c:Int) (w:Int) (r:Int) (n:Int) l 0 []:=by
 rcases Abk b p hb o.pass q with⟨e,he,h1,_⟩|⟨f',c',w',r',n',A',l',o',h2⟩
 ·have:=o.prog;rw[h1]at this;have:=Axh this;simp only[VD,Aki]at this;exact absurd this.2.2.2.2.2.2.2 he
 ·have hpr:=o'.prog;rw[o.prog]at hpr;simp only[Ajq,Aki]at hpr;obtain⟨v1,v2,v3,v4,v5,v6,v7,_⟩:=hpr;obtain rfl:f=f':=F0
  obtain rfl:c=c':=F0
  obtain rfl:w=w':=F0
  obtain rfl:r=r':=F0
  obtain rfl:n=n':=F0
  obtain rfl:A=A':=F0
  subst v7;exact h2
theorem Be8{K:Nat}(hK:K<=l.length)(hA:(A:Int)+(l.take K).sum<=b.length)(hg:∀i,i<K-> (Il b p f c w r n A l i).2=0)(hend:(K<l.length/\b.length<(A:Int)+(l.take (K+1)).sum)\/ (K=l.length/\b.length<= (A:Int)+l.sum+4000)):
  Fd p b=some (p,b.drop ((A:Int)+(l.take K).sum).toNat,(f:Int),(c:Int),(w:Int),(r:Int),(n:Int),l,(K:Int),Wb (λi=>(Il b p f c w r n A l i).1) K 0,false,0,0):=by
 obtain⟨q,hq⟩:∃q,Au=(q+1+K)+2:=⟨Au-(K+3),by have:=As;have:=o.some1;omega⟩;have hr:=Acx o hb K 0 (q+1) [] F0 (by rw[Bg2];exact hA) (λi _ h2=>hg i F0) Bpj;rw[Bj8,Bog,Int.add_zero,Ajx,Bg2,Awv,show((0:Nat):Int)=0 from rfl]at hr;have hcl:(Wb (λi=>(Il b p f c w r n A l i).1) K 0).length<=12000*K:=by
  have:∀j,j<=l.length-> (Wb (λi=>(Il b p f c w r n A l i).1) j 0).length<=12000*j:=by
   intro j
   induction j with
   |zero=>intro _;simp[Wb]
   |succ j ih=>
    intro hj;obtain⟨m,x,s,e,g⟩:=BO o j F0;have Bcf:=g.lens (Kn o.shape).2.1;have:=ih F0;have hs:(Il b p f c w r n A l j).1.length<=12000:=by rw[g.eq];exact Bcf.1
    rw[Agy,Afz,Bg2];omega
  exact this K hK
 rw[Fd,hq,Au2 o hb,hr];rcases hend with⟨h1,h2⟩|⟨rfl,h2⟩
 ·exact(Abf o hb h1 hA _ hcl).1 h2 q
 ·rw[Bd0]at hA⊢;exact Axt o hb (by have:=o.some1;omega) hA h2 q
end
theorem Bh.Blx{o s p:LB}{f c w r n:Int}{g:LI}{a:Int}{x:LB}{e:Int}(ho:o.length<=64)(h:Bh o s p f c w r n g a x e)(hp:p.length<=20000)(b:LB)(hb:b.length<=20000)(hs:(s++b).length<=100000)
  {p':LB} {f' c' w' r' n':Int} {g':LI} {a':Int} {x':LB} {e':Int} (hk:Fd o (s++b)=some (o,p',f',c',w',r',n',g',a',x',false,e',e')):
  Ku o p f c w r n g a x false e b=some (o,p',f',c',w',r',n',g',a',x',false,e',e')/\Bh o (s++b) p' f' c' w' r' n' g' a' x' e':=by
 obtain⟨p2,f2,c2,w2,r2,n2,g2,a2,x2,e2,h1,_,h3⟩:=h.feed ho hp b hb hs;have h4:=h3.fd hs;rw[hk]at h4;simp only[Ajq,Aki]at h4;obtain⟨_,rfl,rfl,rfl,rfl,rfl,rfl,rfl,rfl,rfl,_,rfl,_⟩:=h4;exact⟨h1,h3⟩
theorem Adz{w:Nat}(hw:Bd (w:Int)){X:LX}(hl:X.length<=4000)(hr:uh (w:Int) X):Jy (w:Int) X=some (Dk (w:Int) X,0):=bC hw hl (YO hw hl hr)
section
variable {c w r n:Nat} {x:LX} (h:ClipOk c w r n x) {p:LB} (hp:p.length<=64) (h4:x.length<=400)
include h hp h4
omit hp in
theorem Aoz:(Tx c w r n x p).length<=8000:=by
 have h1:=Anm h p;have h2:=O2 (c:=c) (w:=w) (r:=r) (n:=n) (x:=x) p;rw[We]at h2;have h3:(n-1)/Ak r<=n-1:=Ayq _ _;have h5:n*1<=n*c:=Bmo n h.ch.1;have h6:=h.len;have:=h.cnt;omega
end
theorem Bfs{b p:LB}{f c w r n A:Nat}{l:LI}(o:Opn b p f c w r n A l)(h0:(lH b p f c w r n A l).2.2.2.2=0):
  ∃(x:LX) (m:Nat),lH b p f c w r n A l=((c:Int),(w:Int),(r:Int),x,0)/\ClipOk c w r m x/\Cl (c:Int) (w:Int) (r:Int) x=some 0:=by
 unfold lH NQ at h0⊢;by_cases hy:(cW (λk=>O9 w (Il b p f c w r n A l k)) (λk=>(Il b p f c w r n A l k).2) (YB b A l) l.length 0 []).2=0
 ·obtain⟨_,hE,hX⟩:=uE _ _ _ l.length 0 [] hy;have hE':∀i,i<l.length-> (Il b p f c w r n A l i).2=0:=λi hi=>hE i F0 F0;rw[Abu (by rw[hy];simp),hX,Awv];have ht:=T0 o hE';have hi:=uy o hE' l.length 0 F0;have hn:=(Kn o.shape).2.2.2.1;have hc:=Bfb o hn (An6 _) ht hi;rcases sQ (c:Int) (w:Int) (r:Int) (Wb (λi=>O9 w (Il b p f c w r n A l i)) l.length 0)with⟨e8,_⟩|⟨c',w',r',m,e1,e2,e3,hk,_,e⟩
  ·rw[hc]at e8;cases e8
  ·obtain rfl:c=c':=F0
   obtain rfl:w=w':=F0
   obtain rfl:r=r':=F0
   exact⟨_,m,rfl,hk,e⟩
 ·rw[Adi hy]at h0;exact absurd h0 hy
theorem T4{t z:LB}{i:Nat}(h:i<t.length):Ty (t++z) i=Ty t i:=by
 rw[Ty,Ty,List.getD_eq_getElem?_getD,List.getD_eq_getElem?_getD,List.getElem?_append_left h]
theorem wQ(t:LB)(a i:Nat):Ty (t.drop a) i=Ty t (a+i):=by
 rw[Ty,Ty,List.getD_eq_getElem?_getD,List.getD_eq_getElem?_getD,List.getElem?_drop]
theorem Bhg{w:Nat}(hw:Bd (w:Int)){t z:LB}{a:Nat}(h:a+wB (w:Int)<=t.length):sx (wB (w:Int)) (t++z) a=sx (wB (w:Int)) t a:=by
 rcases hw with hw|hw|hw
 ·rw[hw]at h⊢;have e:wB 8=1:=rfl;rw[e]at h⊢;rw[sx,sx,Adi rfl,Adi rfl,T4 F0]
 ·rw[hw]at h⊢;have e:wB 16=2:=rfl;rw[e]at h⊢;rw[sx2,sx2,T4 F0,T4 F0]
 ·rw[hw]at h⊢;have e:wB 24=3:=rfl;rw[e]at h⊢;rw[sx3,sx3,T4 F0,T4 F0,T4 F0]
theorem Bfc{w:Nat}(hw:Bd (w:Int))(t:LB)(a b:Nat):sx (wB (w:Int)) (t.drop a) b=sx (wB (w:Int)) t (a+b):=by
 rcases hw with hw|hw|hw
 ·rw[hw,show wB 8=1 from rfl,sx,sx,Adi rfl,Adi rfl,wQ]
 ·rw[hw,show wB 16=2 from rfl,sx2,sx2,wQ,wQ];rfl
 ·rw[hw,show wB 24=3 from rfl,sx3,sx3,wQ,wQ,wQ];rfl
theorem Arx{w:Nat}(hw:Bd (w:Int)){t z:LB}{m:Nat}(h:m*wB (w:Int)<=t.length):qG (wB (w:Int)) m (t++z)=qG (wB (w:Int)) m t:=by
 rw[qG,qG];apply Bn6;intro x hx;have hx:=List.mem_range.1 hx;have h2:(x+1)*wB (w:Int)<=m*wB (w:Int):=Ajr _ hx;rw[An5,Bjg]at h2;rw[Bhg hw F0]
theorem Bdx{w:Nat}(hw:Bd (w:Int))(t:LB)(m j:Nat):qG (wB (w:Int)) (m+j) t=qG (wB (w:Int)) m t++qG (wB (w:Int)) j (t.drop (m*wB (w:Int))):=by
 rw[qG,qG,qG,List.range_add,Bod,List.map_map];congr 1;apply Bn6;intro x hx
 show Int32.ofInt (sx (wB (w:Int)) t ((m+x)*wB (w:Int)))=_;rw[Bfc hw,An5]
theorem Bh0{w:Nat}(hw:Bd (w:Int))(t:LB)(a:Nat): -(hB (w:Int))<=sx (wB (w:Int)) t a/\sx (wB (w:Int)) t a<hB (w:Int):=by
 have b0:=M4 t a;have b1:=M4 t (a+1);have b2:=M4 t (a+2);rcases hw with hw|hw|hw
 ·rw[hw,show wB 8=1 from rfl,show hB 8=128 from rfl,sx,Adi rfl];omega
 ·rw[hw,show wB 16=2 from rfl,show hB 16=32768 from rfl,sx2];split<;>omega
 ·rw[hw,show wB 24=3 from rfl,show hB 24=8388608 from rfl,sx3];split<;>omega
theorem Aro{w:Nat}(hw:Bd (w:Int))(m:Nat)(t:LB):uh (w:Int) (qG (wB (w:Int)) m t):=by
 intro x hx;rw[qG,List.mem_map]at hx;obtain⟨k,_,rfl⟩:=hx;have h:=Bh0 hw t (k*wB (w:Int));have hh:=JL (w:Int);rw[tU F0 F0];exact h
theorem wD(c L:Nat):∀(k:Nat) (x y:LX),k*(L*c)<=x.length->Hz c (x++y) (List.replicate k (L:Int))=Hz c x (List.replicate k (L:Int))
 |0,x,y,_=>rfl
 |k+1,x,y,h=>by
  rw[An5,Bjg]at h;rw[Bj5,Hz,Hz,Ajx,Bg6 F0,Bch F0,wD c L k _ y Bpy]
theorem Q3(c:Nat):∀(l m:LI) (x:LX),(∀z∈l,0<=z)->Hz c x (l++m)=Hz c x l++Hz c (x.drop (l.sum.toNat*c)) m
 |[],m,x,_=>by simp[Hz]
 |z::l,m,x,h=>by
  have hz:=h z Bdj;have hl:0<=l.sum:=Ai4 λy hy=>h y (Avl _ hy);rw[Bmf,Hz,Hz,Q3 c l m _ (λy hy=>h y (Avl _ hy)),Bmf,Bk5,Bha,show(z+l.sum).toNat=z.toNat+l.sum.toNat by omega,An5]
theorem Axw(k L:Nat):∀z∈List.replicate k (L:Int),0<=z:=λz hz=>by rw[(List.mem_replicate.1 hz).2];omega
theorem Ads(k L c:Nat):(List.replicate k (L:Int)).sum.toNat*c=k*(L*c):=by rw[Aha,Ajx,Bg8]
theorem Aox(c L k:Nat)(x:LX)(h:x.length=(k+1)*(L*c)):Hz c x (List.replicate (k+1) (L:Int))=Hz c x (List.replicate k (L:Int))++[x.drop (k*(L*c))]:=by
 rw[List.replicate_succ',Q3 c _ _ _ (Axw k L),Ads,Hz,Hz,Ajx,Awy (by rw[Anx,h,An5];omega)]
theorem Bp0{p:Prop}(h:p:=by rw[An5,Bjg];omega):p:=h
end Go.Pl
namespace Go.Pl
open Go Go.Lv
variable{C W R:Int}{a:LQ}{x:LX}{M x0 x3 x4 x6 x7 x8 v:UInt64}{b:UInt8}
structure EncOk (c w r:Nat) (p:LB):Prop where
 ch:1<=c/\c<=6
 bits:Bd (w:Int)
 rate:1<=r/\r<=1048576
 pass:p.length<=64
def D6(c w:Nat):Nat:=c*wB (w:Int)
def nE(c w:Nat)(t:LB):Nat:=t.length/D6 c w
def XE(c w:Nat)(t:LB):LX:=qG (wB (w:Int)) (nE c w t*c) t
def RE(c w:Nat)(t:LB):LB:=t.drop (nE c w t*D6 c w)
def kE(c w r:Nat)(t:LB):Nat:=nE c w t/Ak r
def SE(c w r:Nat)(t:LB):LX:=(XE c w t).drop (kE c w r t*(Ak r*c))
def FE(c w r:Nat)(p t:LB):List LB:=(Hz c (XE c w t) (List.replicate (kE c w r t) (Ak r:Int))).map (Pz (w:Int) c (Mn p))
def SI(c r n:Nat):Prop:=n*c<=4000/\ (n=0\/ (n-1)/Ak r+1<=1000)
instance(c r n:Nat):Decidable (SI c r n):=by unfold SI;exact inferInstance
theorem SI.mono{c r n m:Nat}(h:SI c r n)(hm:m<=n):SI c r m:=by
 obtain⟨h1,h2⟩:=h;have h3:=Ajr c hm;have h4:(m-1)/Ak r<= (n-1)/Ak r:=Nat.div_le_div_right F0;refine⟨F0,?_⟩;omega
section
variable {c w r:Nat} {p:LB} (h:EncOk c w r p) (t:LB)
include h
theorem U7:1<=D6 c w/\D6 c w<=18:=by
 have h1:=Z6 (w:Int);have h2:=h.ch;have h3:=Boi (show 0<c by omega) (show 0<wB (w:Int) by omega);have h4:c*wB (w:Int)<=6*3:=Bhr h2.2 h1.2;unfold D6;omega
theorem Ar1:JM (c:Int) (w:Int)=some (D6 c w:Int):=by
 have h2:=h.ch;have hw3:w=8\/w=16\/w=24:=by have:=h.bits;unfold Bd at this;omega
 rcases hw3 with rfl|rfl|rfl
 ·show some (Bq (Bi (c:Int) (8:Int)) 8)=_;rw[Fa,show(c:Int)*8=((c*8:Nat):Int) by omega,show(8:Int)=((8:Nat):Int)from rfl,GM,D6,show wB ((8:Nat):Int)=1 from rfl];congr 2;omega
 ·show some (Bq (Bi (c:Int) (16:Int)) 8)=_;rw[Fa,show(c:Int)*16=((c*16:Nat):Int) by omega,show(8:Int)=((8:Nat):Int)from rfl,GM,D6,show wB ((16:Nat):Int)=2 from rfl];congr 2;omega
 ·show some (Bq (Bi (c:Int) (24:Int)) 8)=_;rw[Fa,show(c:Int)*24=((c*24:Nat):Int) by omega,show(8:Int)=((8:Nat):Int)from rfl,GM,D6,show wB ((24:Nat):Int)=3 from rfl];congr 2;omega
theorem Akl:t.length=nE c w t*D6 c w+(RE c w t).length/\ (RE c w t).length<D6 c w:=by
 have hs:=U7 h;have h1:=Bm9 t.length (D6 c w);have h2:=Bl6 t.length (show 0<D6 c w by omega);rw[Aw7]at h1;have e:(RE c w t).length=t.length-nE c w t*D6 c w:=by rw[RE,Anx]
 have e2:nE c w t*D6 c w=t.length/D6 c w*D6 c w:=rfl;omega
omit h in
theorem B0:(XE c w t).length=nE c w t*c:=vZ _ _ _
theorem Aiw:uh (w:Int) (XE c w t):=Aro h.bits _ _
theorem Aff:nE c w t=kE c w r t*Ak r+nE c w t %Ak r/\nE c w t %Ak r<Ak r:=by
 have _:=h;have hp:=Eh r;have h1:=Bm9 (nE c w t) (Ak r);rw[Aw7]at h1;exact⟨h1.symm,Bl6 _ F0⟩
theorem zO:(SE c w r t).length=nE c w t %Ak r*c:=by
 have h1:=(Aff h t).1;rw[SE,Anx,B0]
 conv=>lhs;rw[h1]
 rw[An5,<-Bg8,Bj7]
omit h in
theorem Aa4:(FE c w r p t).length=kE c w r t:=by rw[FE,List.length_map,cP,Aw4]
theorem Bgv(b:UInt8)(hl:(RE c w t).length+1<D6 c w):nE c w (t++[b])=nE c w t/\XE c w (t++[b])=XE c w t/\RE c w (t++[b])=RE c w t++[b]:=by
 have h1:=Akl h t;have hs:=U7 h;have hn:nE c w (t++[b])=nE c w t:=by
  rw[nE,Afz,Bkw];exact Bm0 F0 Bp0
 refine⟨hn,?_,?_⟩
 ·rw[XE,hn,XE];exact Arx h.bits (by
   have e:nE c w t*c*wB (w:Int)=nE c w t*D6 c w:=by rw[D6,Bg8]
   rw[e];omega)
 ·rw[RE,hn,RE,Bch F0]
theorem Bgt(b:UInt8)(hl:¬(RE c w t).length+1<D6 c w):(RE c w t).length+1=D6 c w/\nE c w (t++[b])=nE c w t+1/\XE c w (t++[b])=XE c w t++qG (wB (w:Int)) c (RE c w t++[b])/\RE c w (t++[b])=[]:=by
 have h1:=Akl h t;have hs:=U7 h;have hn:nE c w (t++[b])=nE c w t+1:=by
  rw[nE,Afz,Bkw];exact Bm0 Bp0 (by rw[An5,An5,Bjg];omega)
 have e:nE c w t*c*wB (w:Int)=nE c w t*D6 c w:=by rw[D6,Bg8]
 refine⟨F0,hn,?_,?_⟩
 ·rw[XE,hn,An5,Bjg,Bdx h.bits,Arx h.bits (by rw[e];omega),e,Bch F0];rfl
 ·rw[RE,hn,Blj];rw[Afz,Bkw,An5,Bjg];omega
theorem Ahd:kE c w r t*(Ak r*c)<= (XE c w t).length:=by
 have h1:=(Aff h t).1;rw[B0]
 conv=>rhs;rw[h1]
 rw[An5,<-Bg8];omega
theorem Bkb(hl:(RE c w t).length+1<D6 c w):kE c w r (t++[b])=kE c w r t/\SE c w r (t++[b])=SE c w r t/\FE c w r p (t++[b])=FE c w r p t:=by
 obtain⟨h1,h2,h3⟩:=Bgv h t b hl;have hk:kE c w r (t++[b])=kE c w r t:=by rw[kE,h1,kE]
 exact⟨hk,by rw[SE,hk,h2,SE],by rw[FE,hk,h2,FE]⟩
theorem Bld(hl:¬(RE c w t).length+1<D6 c w):
  ((SE c w r t++qG (wB (w:Int)) c (RE c w t++[b])).length<Ak r*c->kE c w r (t++[b])=kE c w r t/\SE c w r (t++[b])=SE c w r t++qG (wB (w:Int)) c (RE c w t++[b])/\FE c w r p (t++[b])=FE c w r p t)/\
  (¬(SE c w r t++qG (wB (w:Int)) c (RE c w t++[b])).length<Ak r*c-> (SE c w r t++qG (wB (w:Int)) c (RE c w t++[b])).length=Ak r*c/\kE c w r (t++[b])=kE c w r t+1/\SE c w r (t++[b])=[]/\FE c w r p (t++[b])=FE c w r p t++[Pz (w:Int) c (Mn p) (SE c w r t++qG (wB (w:Int)) c (RE c w t++[b]))]):=by
 obtain⟨_,h1,h2,h3⟩:=Bgt h t b hl;obtain⟨d1,d2⟩:=Aff h t;have hsl:=zO h t;have hc:=h.ch;have hp:=Eh r;have hdk:=Ahd h t;have hlen:(SE c w r t++qG (wB (w:Int)) c (RE c w t++[b])).length=(nE c w t %Ak r+1)*c:=by rw[Afz,hsl,vZ,An5,Bjg]
 rw[hlen];constructor
 ·intro hlt;have hlt2:nE c w t %Ak r+1<Ak r:=Nat.lt_of_mul_lt_mul_right hlt;have hk:kE c w r (t++[b])=kE c w r t:=by
   rw[kE,h1];exact Bm0 F0 Bp0
  refine⟨hk,?_,?_⟩
  ·rw[SE,hk,h2,Bch hdk,SE]
  ·rw[FE,hk,h2,wD c (Ak r) _ _ _ hdk,FE]
 ·intro hge;have Bq1:Ak r<=nE c w t %Ak r+1:=by
   refine Nat.le_of_not_lt λhh=>hge ?_;exact Nat.mul_lt_mul_of_pos_right hh hc.1
  have heq:nE c w t %Ak r+1=Ak r:=F0
  have hk:kE c w r (t++[b])=kE c w r t+1:=by
   rw[kE,h1];exact Bm0 Bp0 (by rw[An5,An5,Bjg];omega)
  have hXl:(XE c w (t++[b])).length=(kE c w r t+1)*(Ak r*c):=by
   rw[B0,h1,<-Bg8];congr 1;rw[An5,Bjg];omega
  refine⟨by rw[heq],hk,?_,?_⟩
  ·rw[SE,hk,<-hXl,Bl3]
  ·rw[FE,hk,Aox c (Ak r) _ _ hXl,Bod,h2,wD c (Ak r) _ _ _ hdk,Bch hdk,FE];rfl
theorem Bao(hR:SI c r (nE c w t)):∀f∈FE c w r p t,5<=f.length/\f.length<= (81*(Ak r*c)+7)/8+4:=by
 intro f hf;obtain⟨y,hy,rfl⟩:=List.mem_map.1 hf;have hx:(XE c w t).take (kE c w r t*(Ak r*c))++(XE c w t).drop (kE c w r t*(Ak r*c))=XE c w t:=Bj4 _ _;have hdk:=Ahd h t;have hpr:=wD c (Ak r) (kE c w r t) ((XE c w t).take (kE c w r t*(Ak r*c))) ((XE c w t).drop (kE c w r t*(Ak r*c))) Bp2;rw[hx]at hpr;rw[hpr]at hy;have hp:=Eh r;obtain⟨k,hk,hk2⟩:=List.getElem_of_mem hy;have hl1:∀z∈List.replicate (kE c w r t) (Ak r:Int),1<=z:=λz hz=>by rw[(List.mem_replicate.1 hz).2];omega
 have hlx:((XE c w t).take (kE c w r t*(Ak r*c))).length=(List.replicate (kE c w r t) (Ak r:Int)).sum.toNat*c:=by rw[Ads,Anb];omega
 have hg:=zT c h.ch.1 _ _ hl1 hlx k (by rw[cP]at hk;exact hk) hk;rw[hk2,List.getElem_replicate,Ajx]at hg;obtain⟨a1,a2,_,_⟩:=lQ c h.ch.1 _ _ hl1 hlx y hy;have hle:y.length<=4000:=by
  have:=hR.1;have h2:((XE c w t).take (kE c w r t*(Ak r*c))).length<= (XE c w t).length:=by rw[Anb];omega
  rw[B0]at h2;omega
 have h5:=I5 (w:Int) c (Mn p) y a1 hle;have he:=jB c (Nf (w:Int) c (Mn p) y) y.length;refine⟨h5.1,?_⟩;rw[Pz,Afz,Az,XT,Xw,<-hg];omega
omit h in
theorem Agk(b:List LB)(f a M:Int)(hM:Ae (Bq (Ae (Bi (Bi 81 f) a) 7) 8) 4=M)(hb:b.length<=100000)(hm:∀y∈b,5<=y.length/\ (y.length:Int)<=M):∀(j i q:Nat),i+j=b.length->j<q->Lm b f a q (i:Int)=some true
 |j,i,0,_,h=>absurd h (Bix _)
 |0,i,q+1,hi,_=>by
  rw[Lm,Uf,Abu F3];rfl
 |j+1,i,q+1,hi,hq=>by
  have ih:=Agk b f a M hM hb hm j (i+1) q F0 F0;have hy:=hm b[i] (Avu _);have hi1:Ae (i:Int) 1=((i+1:Nat):Int):=by rw[Ag];omega
  rw[Lm,Uf,Adi F3,Bn,Aa,DE,WY,hM,Abu (by simp[Af,Ap,Ac];omega),WK,WR,hi1];exact ih
theorem Afq:EO (c:Int) (w:Int) (r:Int) p=some ((Ak r:Int),true):=by
 have hp:=h.pass;rw[EO,vG h.rate.1 h.rate.2,Aa];simp only;rw[Apk h.bits h.ch.1 h.ch.2,Aa];simp[Ar,OG,Ac];omega
theorem V9(hR:SI c r (nE c w t))(p' m' n':LB)(u:Bool)(v k o:Int):Xy (c:Int) k o p' m' (SE c w r t) (FE c w r p t) n' u v (Ak r:Int)=some (nE c w t:Int):=by
 have hc:=h.ch;obtain⟨d1,d2⟩:=Aff h t;have hsl:=zO h t;have hlt:=TG h.rate.2;have hn:nE c w t<=4000:=by
  have:=hR.1;have:nE c w t*1<=nE c w t*c:=Bmo _ hc.1;omega
 have e1:Bi (Ac (FE c w r p t)) (Ak r:Int)=((kE c w r t*Ak r:Nat):Int):=by
  rw[Ac,Aa4,Fa Bps Bps,<-Aw3]
 have e2:Bq (Ac (SE c w r t)) (c:Int)=((nE c w t %Ak r:Nat):Int):=by
  rw[Ac,hsl,GM (by
   have:nE c w t %Ak r*c<=nE c w t*c:=Ajr _ (Bow _ _);have:=hR.1;omega),Bnc _ F0]
 rw[Xy,Bk Bpl,Aa,e1,e2,Ag];congr 1;omega
theorem Aus(hR:SI c r (nE c w t)):RB (c:Int) (w:Int) (r:Int) p (RE c w t) (SE c w r t) (FE c w r p t) [] false 0=some 0:=by
 have hc:=h.ch;have hw:=h.bits;obtain⟨d1,d2⟩:=Aff h t;have hsl:=zO h t;have htl:=Akl h t;have hlt:=TG h.rate.2;have hp:=Eh r;have hfl:=Aa4 (c:=c) (w:=w) (r:=r) (p:=p) t;have hn4:=hR.1;have hmod:nE c w t %Ak r*c<=nE c w t*c:=Ajr _ (Bow _ _);have hn:nE c w t<=4000:=by
  have:nE c w t*1<=nE c w t*c:=Bmo _ hc.1;omega
 have hfr:kE c w r t+(if 0<nE c w t %Ak r then 1 else 0)<=1000:=by
  rcases hR.2 with h0|h0
  ·have:kE c w r t=0:=by rw[kE,h0];exact Nat.zero_div _
   rw[h0,Nat.zero_mod,this];decide
  ·generalize hq:Ak r=L at*
   have hk:kE c w r t=nE c w t/L:=by rw[kE,hq]
   by_cases hz:0<nE c w t %L
   ·rw[Adi hz];have:(nE c w t-1)/L=kE c w r t:=Bm0 F0 Bp0;omega
   ·rw[Abu hz];by_cases hk0:kE c w r t=0
    ·omega
    ·obtain⟨k',hk'⟩:∃k',kE c w r t=k'+1:=⟨kE c w r t-1,F0⟩;rw[hk',An5,Bjg]at d1;have:(nE c w t-1)/L=k':=Bm0 F0 Bp0;omega
 have hcnt:=V9 h t hR p (RE c w t) [] false 0 (w:Int) (r:Int);have hin:uh (w:Int) (SE c w r t):=λv hv=>Aiw h t v (Bms hv);have hwc:Sm (w:Int) (SE c w r t)=some 0:=by rw[bL hw _ F0,YO hw F0 hin]
 have hroom:∀k:Int,k<=1000->Xi (c:Int) (w:Int) (r:Int) p (RE c w t) (SE c w r t) (FE c w r p t) [] false 0 k (nE c w t:Int)=some true:=by
  intro k hk;rw[Xi,Fa Bps Bps,<-Aw3];simp[OG];omega
 have hLc:Ak r*c<=1100000*6:=Bhr F0 hc.2;have hM:Ae (Bq (Ae (Bi (Bi 81 (Ak r:Int)) (c:Int)) 7) 8) 4=(((81*(Ak r*c)+7)/8+4:Nat):Int):=by
  have e1:Bi 81 (Ak r:Int)=((81*Ak r:Nat):Int):=by rw[Fa];omega
  have e2:Bi ((81*Ak r:Nat):Int) (c:Int)=((81*(Ak r*c):Nat):Int):=by
   rw[Fa (by rw[<-Aw3,Bg8];omega) (by rw[<-Aw3,Bg8];omega),<-Aw3,Bg8]
  rw[e1,e2,Ag (a:=((81*(Ak r*c):Nat):Int)) (b:=7) F0 F0,show((81*(Ak r*c):Nat):Int)+7=((81*(Ak r*c)+7:Nat):Int) by omega,show(8:Int)=((8:Nat):Int)from rfl,GM,Ag];omega
 have hloop:=Agk (FE c w r p t) (Ak r:Int) (c:Int) _ hM F0 (λy hy=>by
  have:=Bao h t hR y hy;omega) (FE c w r p t).length 0 Au F0 F8
 have Bmk:FH (c:Int) (w:Int) (r:Int) p (RE c w t) (SE c w r t) (FE c w r p t) [] false 0 (Ak r:Int)=some true:=by
  have Boe:Bq (Ac (SE c w r t)) (c:Int)=((nE c w t %Ak r:Nat):Int):=by
   rw[Ac,hsl,GM,Bnc _ F0]
  have Bgg:Ha (Ac (SE c w r t)) (c:Int)=0:=by rw[Ac,hsl,DF,Bj2];rfl
  have hkk:kE c w r t<=1000:=by split at hfr<;>omega
  rw[FH,FU,Abu F2,Ar1 h,Aa,Abu (by rw[Ec,Ac];simp;omega),Bk Bpl,Aa,Bgg,Abu F2,Aa,Boe,Abu (by simp[Ec,Ap,Ac,hfl];omega),DJ,DQ,hwc,Aa,Abu F2];by_cases hz:0<nE c w t %Ak r
  ·rw[Adi hz]at hfr;have hpos:=Boi hz (show 0<c by omega);rw[Adi F9,DL,Ub,hcnt,Aa,Ac,hfl,Ag,hroom _ F0,Aa,Abu F2,EA,Ua,DG];exact hloop
  ·have h0:nE c w t %Ak r=0:=F0
   rw[h0,Bpc]at hsl;rw[Abu (by rw[Ap,Ac];simp only[Ahz];omega),DL,Ub,hcnt,Aa,Ac,hfl,hroom _ F0,Aa,Abu F2,EA,Ua,DG];exact hloop
 rw[RB,Afq h,Aa];simp only;rw[Abu F2,Abu F2,Abu F2,Bmk,Aa,Abu F2]
end
theorem yB(a:List LB)(ha:∀y∈a,y.length<=17179869184)(w:List LB)(hw:w.length=a.length)(ha2:a.length<=100000)(b f g:Int)(h:LB)(k:Bool)(m:Int)(n:LB)(o:LX)(p:LB):∀(j i q:Nat),i+j=a.length->j<q->Sd w a b f g h k m n o p q (i:Int) a=some (b,f,g,h,n,o,a,p,k,m)
 |j,i,0,_,h=>absurd h (Bix _)
 |0,i,q+1,hi,_=>by
  have hc:WZ w a=a:=by rw[WZ,hw,Bd0,Blj F0,Ap3]
  rw[Sd,FP,hc,Abu F3];rfl
 |j+1,i,q+1,hi,hq=>by
  have ih:=yB a ha w hw ha2 b f g h k m n o p j (i+1) q F0 F0;have hc:WZ w a=a:=by rw[WZ,hw,Bd0,Blj F0,Ap3]
  have hi1:Ae (i:Int) 1=((i+1:Nat):Int):=by rw[Ag];omega
  have hy:=ha a[i] (Avu _);rw[Sd,FP,hc,Adi F3,Bn,Aa,Aa,Cb,Bf (by simpa using hy),Aa,Aa,Aa,Awv,Tk _ F0,Aa,List.set_getElem_self,hi1];exact ih
theorem Bag{a:List LB}(ha:∀y∈a,y.length<=17179869184)(ha2:a.length<=100000)(b f g:Int)(h:LB){x:LB}{s:LX}{z:LB}(hx:x.length<=17179869184)(hs:s.length<=17179869184)(hz:z.length<=17179869184)(k:Bool)(m:Int):XY b f g h x s a z k m=some (b,f,g,h,x,s,a,z,k,m):=by
 have hl:=yB a ha (List.replicate a.length []) (by rw[Aw4]) ha2 b f g h k m x s z a.length 0 Au F0 F8;have hc:WZ (List.replicate a.length []) a=a:=by rw[WZ,Aw4,Bd0,Blj (by rw[Aw4];omega),Ap3]
 rw[XY,UU,Cb,Bf (by simpa using hx),Aa,Aa,Dr,Bf (by simpa using hs),Aa,Aa,Cb,Bf (by simpa using hz),Aa,Aa,pG,VG,pM Bpt Bpt,Aa,Bk Bqa,Aa];simp only[Awv,Ac,Ajx,hc];exact hl
section
variable {c w r:Nat} {p:LB} (h:EncOk c w r p)
include h
theorem Ae4(t:LB)(hR:SI c r (nE c w t)):EV (c:Int) (w:Int) (r:Int) p (RE c w t) (SE c w r t) (FE c w r p t) [] false 0=some ((c:Int),(w:Int),(r:Int),p,RE c w t,SE c w r t,FE c w r p t,[],false,0,(Ak r:Int),0):=by
 have h1:=Akl h t;have hs:=U7 h;have hsl:=zO h t;have hfl:=Aa4 (c:=c) (w:=w) (r:=r) (p:=p) t;have hn4:=hR.1;have hmod:nE c w t %Ak r*c<=nE c w t*c:=Ajr _ (Bow _ _);have hn:nE c w t<=4000:=by
  have:nE c w t*1<=nE c w t*c:=Bmo _ h.ch.1;omega
 have hk:kE c w r t<=nE c w t:=Ayq _ _;have hlt:=TG h.rate.2;have hLc:Ak r*c<=1100000*6:=Bhr F0 h.ch.2;have htw:=Bag (a:=FE c w r p t) (λy hy=>by have:=Bao h t hR y hy;omega) F0 (c:Int) (w:Int) (r:Int) p (x:=RE c w t) (s:=SE c w r t) (z:=[]) F0 F0 Bpj false 0;rw[EV,iT,Aus h t hR,Aa,Abu F2,vG h.rate.1 h.rate.2,Aa];simp only;rw[Abu F2,Abu F2,lJ,jC,htw,Aa]
abbrev Bmv:=Int×Int×Int×LB×LB×LX×(List LB)×LB×Bool×Int×Int
def Azf(c w r:Nat)(p t:LB):Bmv:=if SI c r (nE c w t)then((c:Int),(w:Int),(r:Int),p,RE c w t,SE c w r t,FE c w r p t,[],false,0,0)else((c:Int),(w:Int),(r:Int),p,[],[],[],[],false,18,18)
theorem yW(t b:LB)(hb:b.length<=1000000):∀(j u q:Nat) (T:LB),u+j=b.length->j<q->T=t++b.take u->SI c r (nE c w T)->Jo (D6 c w:Int) b (c:Int) (w:Int) (r:Int) p false 0 (Ak r:Int) [] q (u:Int) (RE c w T) (SE c w r T) (FE c w r p T)=some (Azf c w r p (t++b))
 |j,u,0,T,_,h,_,_=>absurd h (Bix _)
 |0,u,q+1,T,hu,_,hT,hR=>by
  rw[Awy F0]at hT;rw[Jo,CO,Abu F3,QU,jD,Azf,<-hT,Adi hR]
 |j+1,u,q+1,T,hu,hq,hT,hR=>by
  have hc:=h.ch;have hs:=U7 h;have hu1:Ae (u:Int) 1=((u+1:Nat):Int):=by rw[Ag];omega
  have hT':T++[b[u]' F0]=t++b.take (u+1):=by rw[hT,Jq F0,Ajp]
  have hpre:(T++[b[u]' F0]).length<= (t++b).length:=by rw[hT',Afz,Afz,Anb];omega
  have hmono:nE c w (T++[b[u]' F0])<=nE c w (t++b):=Nat.div_le_div_right hpre;have hgd:Am b (u:Int)=some (b[u]' F0):=Bn;generalize b[u]' F0=d at hT' hpre hmono hgd⊢;have ih:=yW t b hb j (u+1) q (T++[d]) F0 F0 hT';have htl:=Akl h T;have hsl:=zO h T;have hfl:=Aa4 (c:=c) (w:=w) (r:=r) (p:=p) T;have hn4:=hR.1;have hmod:nE c w T %Ak r*c<=nE c w T*c:=Ajr _ (Bow _ _);have hn:nE c w T<=4000:=by
   have:nE c w T*1<=nE c w T*c:=Bmo _ hc.1;omega
  have hk:kE c w r T<=nE c w T:=Ayq _ _;have hlt:=TG h.rate.2;rw[Jo,CO,Adi F3,hgd,Aa,Bf F7,Aa];by_cases hlt1:(RE c w T).length+1<D6 c w
  ·obtain⟨m1,m2,m3⟩:=Bgv h T d hlt1;obtain⟨g1,g2,g3⟩:=Bkb h T (b:=d) hlt1;rw[m1,m3,g2,g3]at ih;rw[Adi (by rw[Af,Ac,Afz,Bkw];simp;omega),Px,BY,hu1];exact ih hR
  ·obtain⟨m0,m1,m2,m3⟩:=Bgt h T d hlt1;obtain⟨g1,g2⟩:=Bld h T (b:=d) hlt1;have hcnt:=V9 h T hR p (RE c w T++[d]) [] false 0 (w:Int) (r:Int);have hroom:Xi (c:Int) (w:Int) (r:Int) p (RE c w T++[d]) (SE c w r T) (FE c w r p T) [] false 0 (Ae (Ac (FE c w r p T)) 1) (Ae (nE c w T:Int) 1)=some (decide ((kE c w r T:Int)+1<=1000)&&decide ((((nE c w T+1)*c:Nat):Int)<=4000)):=by
    have hle:(nE c w T+1)*c<=4001*6:=Bhr F0 hc.2;rw[Xi,Ac,hfl,Ag,Ag,show(nE c w T:Int)+1=((nE c w T+1:Nat):Int) by omega,Fa Bps Bps,<-Aw3,OG,OG]
   rw[Abu (by rw[Af,Ac,Afz,Bkw];simp;omega),hcnt,Aa,hroom,Aa];by_cases hok:kE c w r T+1<=1000/\ (nE c w T+1)*c<=4000
   ·have hR':SI c r (nE c w (T++[d])):=by rw[m1];exact⟨hok.2, .inr (by rw[Nat.add_sub_cancel];exact hok.1)⟩
    have ih:=ih hR';have Bof:=lL (RE c w T++[d]) h.bits (m:=c) (by rw[Afz,Bkw,m0];rfl) F0;have hLc:Ak r*c<=1100000*6:=Bhr F0 hc.2;have hmul:Bi (Ak r:Int) (c:Int)=((Ak r*c:Nat):Int):=by rw[Fa Bps Bps,<-Aw3]
    rw[Abu (by rw[Bk9 (show(kE c w r T:Int)+1<=1000 by omega),Bk9 (show(((nE c w T+1)*c:Nat):Int)<=4000 by omega)];decide),PC,jG,Bof,Aa];simp only;rw[Abu F2,Bf (by rw[vZ];omega),Aa,hmul];by_cases hfull:(SE c w r T++qG (wB (w:Int)) c (RE c w T++[d])).length<Ak r*c
    ·obtain⟨k1,k2,k3⟩:=g1 hfull;rw[m3,k2,k3]at ih;rw[Adi (by rw[Af,Ac];simp only[Ahz];omega),Jz,CA,Abu F2,Px,BY,hu1];exact ih
    ·obtain⟨k0,k1,k2,k3⟩:=g2 hfull;rw[m3,k2,k3]at ih;have hXl:Ak r*c<=4000:=by
      have e:=hR'.1;have hlen:(XE c w (T++[d])).length=nE c w (T++[d])*c:=B0 (T++[d]);have hdk:=Ahd (r:=r) h (T++[d]);rw[k1,An5,Bjg]at hdk;omega
     have hin:uh (w:Int) (SE c w r T++qG (wB (w:Int)) c (RE c w T++[d])):=by
      intro v hv;rw[List.mem_append]at hv;rcases hv with hv|hv
      ·exact Aiw h T v (Bms hv)
      ·exact Aro h.bits _ _ v hv
     have hLp:=Boi (Eh r) hc.1;have henc:=nQ (t:=Mn p) (x:=SE c w r T++qG (wB (w:Int)) c (RE c w T++[d])) h.bits (Ks p) hc.1 hc.2 F0 F0 (by rw[k0];exact Bj2 _ _) hin;rw[Abu (by rw[Af,Ac];simp only[Ahz];omega),YN p h.pass,Aa];simp only;rw[Abu F2,henc,Aa];simp only;rw[Abu F2,Bf F7,Aa,jN,kL,Jz,CA,Abu F2,Px,BY,hu1];exact ih
   ·have hno:¬SI c r (nE c w (t++b)):=by
     intro hh;have:=hh.mono hmono;rw[m1]at this;obtain⟨z1,z2⟩:=this;apply hok;rw[Nat.add_sub_cancel]at z2;have hkE:kE c w r T=nE c w T/Ak r:=rfl;omega
    rw[Adi (by
     rw[Bgu,Bool.and_eq_false_iff,Bh4,Bh4];omega),Jz,CA,Adi F2,Xd,Aa,Azf,Abu hno]
theorem Bbr(t b:LB)(hb:b.length<=1000000)(hR:SI c r (nE c w t)):XJ (c:Int) (w:Int) (r:Int) p (RE c w t) (SE c w r t) (FE c w r p t) [] false 0 b=some (Azf c w r p (t++b)):=by
 have hl:=yW h t b hb b.length 0 Au t F0 F8 Bpj hR;rw[XJ,VS,Ae4 h t hR,Aa];simp only;rw[Abu F2,Ar1 h,Aa,kD];exact hl
theorem Bft:eW (c:Int) (w:Int) (r:Int) p=some ((c:Int),(w:Int),(r:Int),p,RE c w [],SE c w r [],FE c w r p [],[],false,0,0):=by
 have h0:nE c w []=0:=Nat.zero_div _;have hk:kE c w r []=0:=by rw[kE,h0];exact Nat.zero_div _
 rw[eW,Afq h,Aa];simp only;rw[Abu F2,RE,SE,FE,XE,hk,h0];simp[qG,Hz]
omit h in
theorem Av7(c r:Nat):SI c r 0:=⟨F0, .inl rfl⟩
end
theorem Ac7(l:List LB)(hf:l.flatten.length<=1000000)(hl:l.length<=1000000)(v:LB)(hfin:Gy l (l.flatten.length:Int)=some v):∀(j i q:Nat),i+j=l.length->j<q->Db l q (((l.take i).flatten.length:Nat):Int) (i:Int)=some v
 |j,i,0,_,h=>absurd h (Bix _)
 |0,i,q+1,hi,_=>by
  rw[Db,Ef,Abu F3,Awy F0];exact hfin
 |j+1,i,q+1,hi,hq=>by
  have ih:=Ac7 l hf hl v hfin j (i+1) q F0 F0;have hi1:Ae (i:Int) 1=((i+1:Nat):Int):=by rw[Ag];omega
  have hsn:(l.take (i+1)).flatten=(l.take i).flatten++l[i]:=by rw[Jq F0,Bmp];simp
  have hsp:l.flatten=(l.take (i+1)).flatten++(l.drop (i+1)).flatten:=by rw[<-Bmp,Bj4]
  have hle:((l.take i).flatten).length+(l[i]).length<=1000000:=by
   rw[hsp,Afz,hsn,Afz]at hf;omega
  have hadd:Ae (((l.take i).flatten.length:Nat):Int) (Ac l[i])=(((l.take (i+1)).flatten.length:Nat):Int):=by
   rw[Ac,Ag,hsn,Afz];omega
  rw[Db,Ef,Adi F3,Bn,Aa,hadd,Abu (by rw[Af];simp only[Ahz];omega),hi1];exact ih
theorem Abo(l:List LB)(hf:l.flatten.length<=1000000)(hl:l.length<=1000000):∀(j i q:Nat),i+j=l.length->j<q->Cs l q (i:Int) (l.take i).flatten=some l.flatten
 |j,i,0,_,h=>absurd h (Bix _)
 |0,i,q+1,hi,_=>by
  rw[Cs,Dz,Abu F3,Awy F0];rfl
 |j+1,i,q+1,hi,hq=>by
  have ih:=Abo l hf hl j (i+1) q F0 F0;have hi1:Ae (i:Int) 1=((i+1:Nat):Int):=by rw[Ag];omega
  have hsn:(l.take (i+1)).flatten=(l.take i).flatten++l[i]:=by rw[Jq F0,Bmp];simp
  have hsp:l.flatten=(l.take (i+1)).flatten++(l.drop (i+1)).flatten:=by rw[<-Bmp,Bj4]
  have hle:((l.take i).flatten).length+(l[i]).length<=1000000:=by
   rw[hsp,Afz,hsn,Afz]at hf;omega
  rw[Cs,Dz,Adi F3,Bn,Aa,Bf,Aa,hi1,<-hsn];exact ih
theorem Ap7(l:List LB)(hf:l.flatten.length<=1000000)(hl:l.length<=1000000):Fi l=some l.flatten:=by
 have h3:Gx l []=some l.flatten:=by
  rw[Gx,Kb,Ka];exact Abo l hf hl l.length 0 Au F0 F8
 have h11:Gy l (l.flatten.length:Int)=some l.flatten:=by
  have z:Aq (0:Int) 0=0:=F2
  rw[Gy,Ke,Abu (by rw[Af];simp only[Ahz];omega),Po,Kf,z,Bv,Int.sub_zero];by_cases hp:0<l.flatten.length
  ·rw[Adi (by rw[Ap];simp only[Ahz];omega),show jT (0:Int) 0 0=some ()from rfl,Aa,pM,Aa,Bf (by simp only[Bom,Aw4];omega),Aa];rw[show jT (Ac ([]++List.replicate ((l.flatten.length:Nat):Int).toNat (0:UInt8))) 0 0=some () by rw[jT,Bk];simp[Ac],Aa];simp only[dB,Int.sub_self,Int.toNat_zero,Bj8];exact h3
  ·rw[Abu (by rw[Ap];simp only[Ahz];omega)];exact h3
 have:=Ac7 l hf hl _ h11 l.length 0 Au F0 F8;exact this
theorem Aoc{p:LB}(hp:p.length<=64):RQ p=some ((Mc p:Int),0):=by
 rw[RQ,Abu F9,Mc];by_cases h:p=[]
 ·rw[Adi (by rw[Ar,Ac,h];rfl),Adi h];rfl
 ·have:p.length≠0:=λe=>h (Aw6 e);rw[Abu (by rw[Ar,Ac,Bcg];omega),Abu h];rfl
theorem Acf(a:List LB)(ha:a.length<=100000)(f g h:Int)(b k:LB)(m:LX)(n:LB)(o:Bool)(p:Int)(u v:LB)(hfin:Xp f g h b k m a n o p u (Dg a)=some (v,0)):∀(j i q:Nat),i+j=a.length->j<q->Sc a f g h b k m n o p u q (i:Int) (Dg (a.take i))=some (v,0)
 |j,i,0,_,h=>absurd h (Bix _)
 |0,i,q+1,hi,_=>by
  rw[Sc,FG,Abu F3,Awy F0];exact hfin
 |j+1,i,q+1,hi,hq=>by
  have ih:=Acf a ha f g h b k m n o p u v hfin j (i+1) q F0 F0;have hi1:Ae (i:Int) 1=((i+1:Nat):Int):=by rw[Ag];omega
  have hll:(Dg (a.take i)).length=i:=by rw[Oi,Anb];omega
  have hsn:Dg (a.take i)++[Ac a[i]]=Dg (a.take (i+1)):=by rw[Jq F0,Dg,Dg,Bod];rfl
  rw[Sc,FG,Adi F3,Bn,Aa,Bf F7,Aa,hsn,hi1];exact ih
theorem Al8{c w r n:Nat}(h:ClipOk c w r n x){p:LB}(hp:p.length<=64)(k:LB)(m:LX)(n':LB)(o:Bool)(e:Int):YE (c:Int) (w:Int) (r:Int) p k m (PF c w r n x p) n' o e (n:Int)=some (Tx c w r n x p,0):=by
 have hn:=Aq6 h p;have hl:=U9 h p;have hlen:=Ae7 (c:=c) (w:=w) (r:=r) (n:=n) (x:=x) p;have hdl:=uZ p;have hfin:Xp (c:Int) (w:Int) (r:Int) p k m (PF c w r n x p) n' o e (LR (Mc p) c w r n++cY p) (Dg (PF c w r n x p))=some (Tx c w r n x p,0):=by
  have hh:=cS (Mc p) c w r n;have ht:=tT (Dg (PF c w r n x p));have hll:=Oi (PF c w r n x p);rw[Xp,FF,nk,Adi (Aal h p),Aa];simp only;rw[Abu F2,Bf Bpx,Aa,Ap7 _ F0 F0,Aa,Bf (by rw[Afz,Afz];omega),Aa];simp[Tx]
 have hlp:=Acf (PF c w r n x p) F0 (c:Int) (w:Int) (r:Int) p k m n' o e (LR (Mc p) c w r n++cY p) _ hfin (PF c w r n x p).length 0 Au F0 F8;rw[YE,UQ,Aoc hp,Aa];simp only;rw[Abu F2,M8 (h.shape _ (Ac4 p)) h.fit,Aa];simp only;rw[Abu F2];by_cases h0:p=[]
 ·have e2:cY p=[]:=by rw[cY,Adi h0]
  rw[e2,Ap3]at hlp;rw[Abu (by simp[h0]),UO,FQ];exact hlp
 ·have e2:cY p=Fg (Uo p).toNat 8:=by rw[cY,Abu h0]
  rw[e2]at hlp;rw[Adi (by simpa using h0),jL p hp,Aa];simp only;rw[Abu F2,Bf (by rw[cS,Az];omega),Aa,UO,FQ];exact hlp
section
variable {c w r:Nat} {p:LB} (h:EncOk c w r p) (t:LB) (hR:SI c r (nE c w t))
include h hR
theorem Bax(h1:1<=nE c w t):ClipOk c w r (nE c w t) (XE c w t):=by
 have hc:=h.ch;refine⟨hc,h.bits,h.rate,⟨h1,?_⟩,B0 t,?_,Aiw h t⟩
 ·rw[Nat.le_div_iff_mul_le F0];exact hR.1
 ·rcases hR.2 with h0|h0
  ·omega
  ·exact h0
omit hR in
theorem Aou(h1:1<=nE c w t):PF c w r (nE c w t) (XE c w t) p=FE c w r p t++(if SE c w r t=[]then []else [Pz (w:Int) c (Mn p) (SE c w r t)]):=by
 have hc:=h.ch;have hp:=Eh r;obtain⟨d1,d2⟩:=Aff h t;have hsl:=zO h t;have key:dC c r (nE c w t) (XE c w t)=Hz c (XE c w t) (List.replicate (kE c w r t) (Ak r:Int))++(if SE c w r t=[]then []else [SE c w r t]):=by
  by_cases hz:nE c w t %Ak r=0
  ·have hS:SE c w r t=[]:=Aw6 (by rw[hsl,hz,Bpc]);rw[Adi hS,Ap3,dC];congr 1;rw[hz,Bli]at d1;have hk1:1<=kE c w r t:=by
    rcases Bon (kE c w r t)with h0|h0
    ·rw[h0,Bpc]at d1;omega
    ·exact h0
   obtain⟨k',hk'⟩:∃k',kE c w r t=k'+1:=⟨kE c w r t-1,F0⟩;have hd:(nE c w t-1)/Ak r=k':=by
    rw[hk',An5,Bjg]at d1;exact Bm0 F0 Bp0
   rw[Al,hd,hk',List.replicate_succ'];congr 2;rw[hk',An5,Bjg]at d1;omega
  ·have hS:SE c w r t≠ []:=by
    intro e;have:=congrArg List.length e;rw[hsl,Bom]at this;rcases Nat.mul_eq_zero.1 this with h0|h0<;>omega
   have hd:(nE c w t-1)/Ak r=kE c w r t:=Bm0 F0 Bp0;have hdk:=Ahd (r:=r) h t;rw[Abu hS,dC,Al,hd,Q3 c _ _ _ (Axw _ _),Ads,Hz,Hz,Ajx];congr 2;rw[Awy]
   ·rfl
   ·rw[Anx,B0,<-Bg8,<-Bo7];exact An6 _
 rw[PF,key,Bod,FE];congr 1;split<;>rfl
theorem Ap1:JF (c:Int) (w:Int) (r:Int) p (RE c w t) (SE c w r t) (FE c w r p t) [] false 0=
  some (if RE c w t≠ []\/nE c w t=0 then((c:Int),(w:Int),(r:Int),p,[],[],[],[],false,24,24)else((c:Int),(w:Int),(r:Int),p,[],[],[],Tx c w r (nE c w t) (XE c w t) p,true,0,0)):=by
 have hc:=h.ch;have hsl:=zO h t;have hfl:=Aa4 (c:=c) (w:=w) (r:=r) (p:=p) t;have hn4:=hR.1;have hmod:nE c w t %Ak r*c<=nE c w t*c:=Ajr _ (Bow _ _);have hn:nE c w t<=4000:=by
  have:nE c w t*1<=nE c w t*c:=Bmo _ hc.1;omega
 have hk:kE c w r t<=nE c w t:=Ayq _ _;rw[JF,fO,Ae4 h t hR,Aa];simp only;rw[Abu F2,V9 h t hR,Aa];by_cases hbad:RE c w t≠ []\/nE c w t=0
 ·have hcond:((Dx (Ac (RE c w t)) 0)||(geq (nE c w t:Int) 0))=true:=by
   rcases hbad with h0|h0
   ·have:RE c w t≠ []:=h0;have hl:0<(RE c w t).length:=List.length_pos_iff.2 this;rw[Ap,Ac,Biu];left;simpa using hl
   ·rw[h0];simp[Ar]
  rw[Adi hbad,Adi hcond,Xd,Aa]
 ·have hR0:RE c w t=[]:=by
   by_cases h0:RE c w t=[]
   ·exact h0
   ·exact absurd (.inl h0) hbad
  have hn1:1<=nE c w t:=by
   rcases Bon (nE c w t)with h0|h0
   ·exact absurd (.inr h0) hbad
   ·exact h0
  have hcl:=Bax h t hR hn1;have hfr:=Aou h t hn1;have hcond:¬(((Dx (Ac (RE c w t)) 0)||(geq (nE c w t:Int) 0))=true):=by rw[hR0];simp[Ap,Ar,Ac];omega
  rw[Abu hbad,Abu hcond];by_cases hS:SE c w r t=[]
  ·rw[Adi hS,Ap3]at hfr;have hf:=Al8 hcl h.pass (RE c w t) (SE c w r t) [] false 0;rw[hfr]at hf;rw[Abu (by rw[hS];decide),Zn,JN,hf,Aa];simp only;rw[Abu F2]
  ·rw[Abu hS]at hfr;have hl:0<(SE c w r t).length:=List.length_pos_iff.2 hS;have hin:uh (w:Int) (SE c w r t):=λv hv=>Aiw h t v (Bms hv);have henc:=nQ (t:=Mn p) (x:=SE c w r t) h.bits (Ks p) hc.1 hc.2 F0 F0 (by rw[hsl];exact Bj2 _ _) hin;have hf:=Al8 hcl h.pass (RE c w t) [] [] false 0;rw[hfr]at hf;rw[Adi (by rw[Ap,Ac];simpa using hl),YN p h.pass,Aa];simp only;rw[Abu F2,henc,Aa];simp only;rw[Abu F2,Bf F7,Aa,eJ,dU,Abu F2,Zn,JN,hf,Aa];simp only;rw[Abu F2]
end
inductive Pl (S D A:Int) (G:Nat->Int) (l:LI) (a:Int):UInt8->Int->Int->Prop
 |t:a<S->Pl S D A G l a 1 0 0
 |h:S<=a->a<S+22->Pl S D A G l a 2 0 0
 |d:S+22<=a->a<D->Pl S D A G l a 3 0 0
 |s:S+22<=a->D<=a->a<A->Pl S D A G l a 4 0 0
 |f (i:Nat):S+22<=a->D<=a->A<=a->i<l.length->A+(l.take i).sum<=a->a<A+(l.take (i+1)).sum->Pl S D A G l a 5 i (G i)
 |b:S+22<=a->D<=a->A<=a->A+l.sum<=a->Pl S D A G l a 6 0 0
theorem Bbh{o b X:LB}{E:Int}(ho:o.length<=64)(hb:b.length<=20000)(Bj1:Ends o (Fd o b) X E):∃(p2:LB) (f2 c2 w2 r2 n2:Int) (g2:LI) (a2 e3:Int) (u:Bool) (v:Int),Ku o [] 0 0 0 0 0 [] 0 [] false 0 b=some (o,p2,f2,c2,w2,r2,n2,g2,a2,X,false,e3,e3)/\Hp o p2 f2 c2 w2 r2 n2 g2 a2 X false e3=some (o,[],0,0,0,0,0,[],0,X,u,v,E)/\ (e3=0\/e3=E):=by
 obtain⟨p2,f2,c2,w2,r2,n2,g2,a2,y2,e3,d1,_,d3⟩:=(Bh.new ho).feed ho Bpj b F0 F7;rw[Awv]at d3;have hs:=d3.Bgh;have hfd:=d3.fd F0;have hck:=d3.check ho F0;rcases Bj1 with⟨h0,h1⟩|⟨p,f,c,w,r,n,g,a,hpl,h1,h2⟩
 ·rw[hfd]at h1;simp only[Ajq,Aki]at h1;obtain⟨_,rfl,rfl,rfl,rfl,rfl,rfl,rfl,rfl,rfl,_,rfl,_⟩:=h1;obtain⟨u,v,k,k1,k2⟩:=d3.finish ho Bpj;rcases k2 with⟨rfl,rfl,k3,_,k4⟩|⟨rfl,rfl,rfl⟩
  ·have hk:v=e3:=by rcases k4 with h|h<;>omega
   subst hk;exact⟨_,_,_,_,_,_,_,_,_,_,_,d1,k1, .inr rfl⟩
  ·
   exfalso;cases d3 with
   |wt W=>omega
   |er h0 hc hx hB=>
    have:=(Bia (o:=o) (u:=false) (v:=e3) (k:=e3) ho hx (.inl ⟨rfl,rfl,h0,hc⟩)).2.2;rw[this]at k1;simp only[Ajq,Aki]at k1;exact absurd k1.2.2.2.2.2.2.2.2.2.2.1 F2
 ·rw[hfd]at h1;simp only[Ajq,Aki]at h1;obtain⟨_,rfl,rfl,rfl,rfl,rfl,rfl,rfl,rfl,rfl,_,rfl,_⟩:=h1;have hbg:=sO (o:=o) (p:=p2) (f:=f2) (c:=c2) (w:=w2) (r:=r2) (n:=n2) (g:=g2) (a:=a2) (x:=y2) (u:=false) (v:=0) F0 F0 F0 hck.1;rw[Abu F2]at hbg;obtain⟨e1,q1,q2⟩:=iq (o:=o) (p:=p2) (f:=f2) (c:=c2) (w:=w2) (r:=r2) (n:=n2) (a:=a2) (u:=false) (v:=0) (g:=g2) (x:=y2) F0;rw[h2]at q2;cases q2;have hF:Hp o p2 f2 c2 w2 r2 n2 g2 a2 y2 false 0=Hp o p2 f2 c2 w2 r2 n2 g2 a2 y2 false 0:=rfl
  conv at hF=>rhs;rw[Hp,hbg,Aa]
  simp only at hF;rw[Abu F2,q1,Aa]at hF;by_cases he:Bg E 0=true
  ·rw[Adi he,YD,Aa]at hF;exact⟨_,_,_,_,_,_,_,_,_,_,_,d1,hF, .inl rfl⟩
  ·have hE0:E=0:=by rw[Ah]at he;simpa using he
   rw[Abu he,<-hE0]at hF;exact⟨_,_,_,_,_,_,_,_,_,_,_,d1,by rw[hE0]at hF⊢;exact hF, .inl rfl⟩
theorem M5{w:Nat}(hw:Bd (w:Int)){X:LX}(hX:X.length<=4000)(hr:uh (w:Int) X):Nb (w:Int) (Dk (w:Int) X)=some (X,0):=by
 have h:=lL (Dk (w:Int) X) hw (m:=X.length) (AA hw X) hX;rw[Adx hw X hr]at h;exact h
theorem tI{b p:LB}(hb:b.length<=20000)(hp:p.length<=64):∃(x1 x2 x3:Int) (x4:LX) (E:Int),Nr b p=some (x1,x2,x3,x4,E)/\Kx b p=some (x1,x2,x3,x4,E)/\x4.length<=4000000:=by
 obtain⟨X,y1,y2,y3,y4,E,Bj1,ny,_⟩:=Avt b p hb hp;obtain⟨p2,f2,c2,w2,r2,n2,g2,a2,e3,u,v,k1,k2,k3⟩:=Bbh hp hb Bj1;by_cases hE:E=0
 rotate_left
 ·have hbad:Kx b p=some (wX E):=by
   rcases vL b p F0 hp with⟨e,he,h1,_,h3,_⟩|⟨f,c,w,r,n,A,l,o,h3,_⟩
   ·rw[h3]at ny⊢;have:=Axh ny;simp only[wX,Aki]at this;rw[this.2.2.2.2]
   ·rw[h3]at ny⊢;have hce:=Axh ny;rw[lH,NQ]at hce⊢;by_cases hne:(cW (λk=>O9 w (Il b p f c w r n A l k)) (λk=>(Il b p f c w r n A l k).2) (YB b A l) l.length 0 []).2≠0
    ·rw[Adi hne]at hce⊢;simp only[wX,Aki]at hce;rw[hce.2.2.2.2]
    ·rw[Abu hne]at hce;simp only[Aki]at hce;exact absurd hce.2.2.2.2.symm hE
  refine⟨0,0,0,[],E,?_,hbad,Bpj⟩;rw[Nr,eX,Abu F9,Aa];simp only;rw[Abu F2,k1,Aa];simp only;by_cases h0:e3=0
  ·rw[Abu (by rw[h0];decide),k2,Aa];simp only;rw[Adi (by rw[Ah];simpa using hE)]
  ·have:e3=E:=by
    rcases k3 with h|h
    ·exact absurd h h0
    ·exact h
   rw[Adi (by rw[Ah];simpa using h0),this]
 ·subst hE;have he3:e3=0:=by rcases k3 with h|h<;>exact h
  subst he3;rcases vL b p F0 hp with⟨e,he,h1,_,h3,_⟩|⟨f,c,w,r,n,A,l,o,h3,_⟩
  ·rw[h3]at ny;have:=Axh ny;simp only[wX,Aki]at this;exact absurd this.2.2.2.2 he
  rw[h3]at ny;have hce:=Axh ny;have hs1:=o.some1;have hlen:=o.len;obtain⟨hcc,hw,hr,hn,_⟩:=Kn o.shape;have hfit:n<=4000/c:=by have:=o.fit;simp only[Xn,Ahz]at this;exact this.1
  have hnc:n*c<=4000:=by
   have a1:=Ajr c hfit;have a2:=Bjv 4000 c;omega
  have hcl0:(cW (λk=>O9 w (Il b p f c w r n A l k)) (λk=>(Il b p f c w r n A l k).2) (YB b A l) l.length 0 []).2=0:=by
   refine Bmy λhne=>?_;rw[lH,NQ,Adi hne]at hce;simp only[wX,Aki]at hce;exact hne hce.2.2.2.2
  obtain⟨b0,hall,hX4⟩:=uE _ _ _ _ _ _ hcl0;rw[Awv]at hX4;have hgood:∀i,i<l.length-> (Il b p f c w r n A l i).2=0:=λi hi=>hall i F0 F0;have hAl:(A:Int)+l.sum<=b.length:=Axx o (by rw[hce]);have hbl:b.length<= (A:Int)+l.sum+4000:=by
   refine Int.not_lt.1 λhlt=>?_;have:(Nx (b.drop ((A:Int)+l.sum).toNat)).2=38:=by rw[Nx,Adi (by rw[Anx];have:=Aos l o.five;omega)]
   rw[YB,this]at b0;exact absurd b0 F2
  have hfd:=Be8 o hb (K:=l.length) (An6 _) (by rw[Bd0];exact hAl) hgood (.inr ⟨rfl,hbl⟩);have hbh:=((Bh.new hp).Blx hp Bpj b F0 F7 (by rw[Awv];exact hfd)).1;rw[k1]at hbh;simp only[Ajq,Aki]at hbh;obtain⟨_,rfl,rfl,rfl,rfl,rfl,rfl,i8,rfl,rfl,_⟩:=hbh;have i8:=i8.symm;subst i8;have hw8:¬(((geq (f:Int) 0)&&((geq (c:Int) 0)&&((geq (w:Int) 0)&&((geq (r:Int) 0)&&((geq (n:Int) 0)&&true)))))=true):=by
   have:geq (n:Int) 0=false:=by rw[Ar,beq_eq_false_iff_ne];omega
   rw[this];simp
  have htot:=T0 o hgood;have hin:=uy o hgood l.length 0 F0;have hby:=T8 o hgood l.length 0 F0;have hsb:=M5 hw (X:=Wb (λi=>O9 w (Il b p f c w r n A l i)) l.length 0) F0 hin;rw[hby]at hsb;refine⟨(c:Int),(w:Int),(r:Int),Wb (λi=>O9 w (Il b p f c w r n A l i)) l.length 0,0,?_,?_,F0⟩
  ·rw[Nr,eX,Abu F9,Aa];simp only;rw[Abu F2,k1,Aa];simp only;rw[Abu F2,k2,Aa];simp only;rw[Abu F2,Abu hw8,hsb,Aa];simp only;rw[Abu F2]
  ·rw[h3,lH,NQ,Abu (by rw[hcl0];simp),hX4]
theorem Aql{c w r n:Nat}(h:ClipOk c w r n x){p:LB}(hp:p.length<=64):Kx (Tx c w r n x p) p=some ((c:Int),(w:Int),(r:Int),x,0):=by
 have fo:=At2 h hp;have o:=fo.Gm;have hle:=fo.le;have hlf:=Oi (PF c w r n x p);have hgood:∀i,(hi:i<(PF c w r n x p).length)-> _:=λi hi=>fo.Bmw (k:=i) hi rfl;have hbe:YB (Tx c w r n x p) (O0 0 p (PF c w r n x p).length) (Dg (PF c w r n x p))=0:=by rw[fo.beh,Apu]
 have hcl:lH (Tx c w r n x p) p (Mc p) c w r n (O0 0 p (PF c w r n x p).length) (Dg (PF c w r n x p))=((c:Int),(w:Int),(r:Int),x,0):=by
  have hr:=S1 (Il (Tx c w r n x p) p (Mc p) c w r n (O0 0 p (PF c w r n x p).length) (Dg (PF c w r n x p))) (Dg (PF c w r n x p)).length 0 [] (λi _ hi=>by rw[(hgood i F0).1]);have hcl:=Aax w (Il (Tx c w r n x p) p (Mc p) c w r n (O0 0 p (PF c w r n x p).length) (Dg (PF c w r n x p))) (YB (Tx c w r n x p) (O0 0 p (PF c w r n x p).length) (Dg (PF c w r n x p))) (Dg (PF c w r n x p)).length 0 [] [];rw[hbe,hr]at hcl;have hg:=uE _ _ _ _ _ _ hcl.symm;have hPl:=Ad8 (c:=c) (r:=r) (n:=n) (x:=x);have hfl:=O2 (c:=c) (w:=w) (r:=r) (n:=n) (x:=x) p;have Bml:=Adh (dC c r n x) (λi=>O9 w (Il (Tx c w r n x p) p (Mc p) c w r n (O0 0 p (PF c w r n x p).length) (Dg (PF c w r n x p)) i)) 0 (λi hi=>by rw[Bg2,(hgood i F0).2]);rw[Afa h,<-show(PF c w r n x p).length=(dC c r n x).length by omega]at Bml;rw[lH,NQ,hbe,Abu (by rw[<-hcl];simp),hg.2.2,Awv,hlf,Bml]
 rcases vL (Tx c w r n x p) p F0 hp with⟨e,he,k1,_⟩|⟨f',c',w',r',n',A',l',o',k3,_⟩
 ·have:=o.prog;rw[k1]at this;have:=Axh this;simp only[VD,Aki]at this;exact absurd this.2.2.2.2.2.2.2 he
 ·have hpr:=o'.prog;rw[o.prog]at hpr;simp only[Ajq,Aki]at hpr;obtain⟨v1,v2,v3,v4,v5,v6,v7,_⟩:=hpr;have j1:Mc p=f':=F0
  have j2:c=c':=F0
  have j3:w=w':=F0
  have j4:r=r':=F0
  have j5:n=n':=F0
  have j6:O0 0 p (PF c w r n x p).length=A':=F0
  subst j1 j2 j3 j4 j5 v7;rw[<-j6,hcl]at k3;exact k3
theorem ClipOk.enc{c w r n:Nat}(h:ClipOk c w r n x){p:LB}(hp:p.length<=64):EncOk c w r p:=⟨h.ch,h.bits,h.rate,hp⟩
theorem Bbo{c w r n:Nat}(h:ClipOk c w r n x){p:LB}(hp:p.length<=64):nE c w (Dk (w:Int) x)=n/\XE c w (Dk (w:Int) x)=x/\RE c w (Dk (w:Int) x)=[]/\SI c r n:=by
 have he:=h.enc hp;have hs:=U7 he;have hbl:(Dk (w:Int) x).length=n*D6 c w:=by rw[AA h.bits,h.len,D6,Bg8]
 have hn:nE c w (Dk (w:Int) x)=n:=by rw[nE,hbl,Bnc _ F0]
 have hle:=h.le;refine⟨hn,?_,?_,hle.2.1, .inr h.fr⟩
 ·rw[XE,hn,<-h.len];exact Adx h.bits x h.rng
 ·rw[RE,hn,<-hbl,Bl3]
theorem Ab7{c w r n:Nat}(h:ClipOk c w r n x)(hk:Cl (c:Int) (w:Int) (r:Int) x=some 0){p:LB}(hp:p.length<=64):Zz (c:Int) (w:Int) (r:Int) x p=some (Tx c w r n x p,0):=by
 have he:=h.enc hp;obtain⟨f1,f2,f3,f4⟩:=Bbo h hp;have hle:=h.le;have hbl:=BL (w:Int) x;have hf:=Bbr he [] (Dk (w:Int) x) F0 (by rw[show nE c w []=0 from Nat.zero_div _];exact Av7 c r);rw[Awv,Azf,f1,Adi f4]at hf;have hfin:=Ap1 he (Dk (w:Int) x) (by rw[f1];exact f4);rw[f1,f2,f3,Abu (by have:=h.cnt.1;simp;omega)]at hfin;rw[f3]at hf;rw[Zz,eK,hk,Aa,Abu F2,Adz h.bits F0 h.rng,Aa];simp only;rw[Abu F2,Bft he,Aa];simp only;rw[Abu F2,hf,Aa];simp only;rw[fH,dG,Abu F2,hfin,Aa];simp only;rw[eQ,fS,MJ,dR,Abu F2]
def zN(c w r:Int)(ext:Bool)(M:UInt64):LB:=if ext=true then Ao9 c w r 65534++[22,0]++Fg (Ad w:UInt64).toNat 2++Fg M.toNat 4++Ach else Ao9 c w r 1
theorem Adp{c w r:Nat}(h1:1<=c)(h6:c<=6)(hw:Bd (w:Int))(hr1:1<=r)(hr:r<=1048576)(ext:Bool)(m2:M.toNat<4294967296):
  EW (c:Int) (w:Int) (r:Int) ext M=some (zN c w r ext M):=by
 have hR:(Ad (r:Int):UInt64).toNat=r:=by rw[Mx,Ajs];omega
 obtain⟨b1,b2,b3,b4⟩:=Bap h1 h6 hw (R:=(Ad (r:Int):UInt64)) F0;rw[EW,OX];cases ext with
 |true=>
  rw[Adi rfl,show Am _ 0=some (1:UInt64)from rfl,Aa,show Mv _ 0 65534=some ((65534:UInt64)::_)from rfl,Aa,QT,CR];obtain⟨q,hq⟩:=Bgq (v0:=65534) (t:=[22,Ad (w:Int),M]) F2 b1 (by rw[hR];omega) b4 b2 b3 true 9 F0;rw[hq,CT (k:=2) _ F0 (show _=some (22:UInt64)from rfl) rfl F0 F0 F2 Bpu,show Ae (6:Int) 1=7 from by decide,
   CT (k:=2) _ F0 (show _=some (Ad (w:Int):UInt64)from rfl) rfl F0 F0 b3 Bpu,show Ae (7:Int) 1=8 from by decide,
   CT (k:=4) _ F0 (show _=some M from rfl) rfl F0 F0 m2 Bpu,show Ae (8:Int) 1=9 from by decide,Awm Bpu]
  rfl
 |false=>
  rw[Abu F2,QT,CR];obtain⟨q,hq⟩:=Bgq (v0:=1) (t:=[22,Ad (w:Int),M]) F2 b1 (by rw[hR];omega) b4 b2 b3 false 6 F0;rw[hq,Azv];rfl
theorem Amh(c w r:Int)(ext:Bool)(M:UInt64):(zN c w r ext M).length<=100:=by
 unfold zN;split<;>simp[wu,Az,Ach]
theorem Aph{c w r:Nat}(h1:1<=c)(h6:c<=6)(hw:Bd (w:Int))(hr1:1<=r)(hr:r<=1048576):
  MW (c:Int) (w:Int) (r:Int)=some (zN c w r (Dx (c:Int) 2||Dx (w:Int) 16) (Aq (Du (1:UInt64) (GI.toZ (c:Int)).toNat) 1),0):=by
 have hok:Jg (Mk (c:Int) 0)=some ():=Bk Bpq;rw[MW,gS,X1 h1 h6 hw hr1 hr,Aa,Abu F2,Aa];simp only;rw[Abu F2,hok,Aa,Adp h1 h6 hw hr1 hr _ (Ar9 h1 h6).2,Aa]
def P9(b:LB)(g k i:Nat)(a:LQ):LQ:=if g+k<=b.length then a.set i (eS (part b g k))else a
theorem KF(b:LB)(g k i:Nat)(a:LQ):(P9 b g k i a).length=a.length:=by unfold P9;split<;>simp
theorem XG{b:LB}(hb:b.length<=20000){g i k:Nat}(q:Nat)(hi:i<9)(hw:Am ([(2:Int),(2:Int),(4:Int),(4:Int),(2:Int),(2:Int),(2:Int),(2:Int),(4:Int)]:LI) (i:Int)=some (k:Int))
  (h1:1<=k) (h8:k<=8) (ha:a.length=9) (hg:g<=1000):Jv b (q+1) (g:Int) (i:Int) a=Jv b q ((g+k:Nat):Int) ((i+1:Nat):Int) (P9 b g k i a):=by
 have e1:Ae (g:Int) (k:Int)=((g+k:Nat):Int):=by rw[Ag];omega
 have e2:Ae (i:Int) 1=((i+1:Nat):Int):=by rw[Ag];omega
 rw[Jv,CG,Adi Bpi,hw,Aa,e1,e2];by_cases h:g+k<=b.length
 ·rw[Adi (by rw[OG,Ac];simp;omega),rH b g k h1 h8 h F0,Aa];simp only;rw[Bn,Aa,Tk _ F0,Aa,P9,Adi h]
 ·rw[Abu (by rw[OG,Ac];simp;omega),P9,Abu h]
def rdA(b:LB):LQ:=P9 b 20 4 8 (P9 b 18 2 7 (P9 b 16 2 6 (P9 b 14 2 5 (P9 b 12 2 4 (P9 b 8 4 3 (P9 b 4 4 2 (P9 b 2 2 1 (P9 b 0 2 0 [0,0,0,0,0,0,0,0,0]))))))))
theorem Bas{b:LB}(hb:b.length<=20000):Tn b=Mm b (rdA b):=by
 obtain⟨q,hq⟩:=Ayr;rw[Tn,OQ,iS,hq,
  show Jv b (q+1+1+1+1+1+1+1+1+1+1) 0 0 _=_ from XG (g:=0) (i:=0) (k:=2) hb _ F0 rfl F0 F0 Bpj F0,
  XG (k:=2) hb _ F0 rfl F0 F0 (by simp[KF]) F0,XG (k:=4) hb _ F0 rfl F0 F0 (by simp[KF]) F0,
  XG (k:=4) hb _ F0 rfl F0 F0 (by simp[KF]) F0,XG (k:=2) hb _ F0 rfl F0 F0 (by simp[KF]) F0,
  XG (k:=2) hb _ F0 rfl F0 F0 (by simp[KF]) F0,XG (k:=2) hb _ F0 rfl F0 F0 (by simp[KF]) F0,
  XG (k:=2) hb _ F0 rfl F0 F0 (by simp[KF]) F0,XG (k:=4) hb _ F0 rfl F0 F0 (by simp[KF]) F0,
  Jv,CG,Abu Bpr]
 rfl
theorem RD(b:LB)(g k i:Nat)(a:LQ)(j:Nat)(hj:j≠i):(P9 b g k i a).getD j 0=a.getD j 0:=by
 unfold P9;split
 ·simp[List.getD,List.getElem?_set_ne (Bpf hj)]
 ·rfl
theorem Ay3(b:LB):((rdA b).getD 8 0).toNat<4294967296:=by
 unfold rdA;generalize hA:P9 b 18 2 7 _=A;have h0:A.getD 8 0=0:=by
  rw[<-hA];simp only[RD _ _ _ _ _ 8 (show(8:Nat)≠7 by decide),RD _ _ _ _ _ 8 (show(8:Nat)≠6 by decide),RD _ _ _ _ _ 8 (show(8:Nat)≠5 by decide),RD _ _ _ _ _ 8 (show(8:Nat)≠4 by decide),
   RD _ _ _ _ _ 8 (show(8:Nat)≠3 by decide),RD _ _ _ _ _ 8 (show(8:Nat)≠2 by decide),RD _ _ _ _ _ 8 (show(8:Nat)≠1 by decide),RD _ _ _ _ _ 8 (show(8:Nat)≠0 by decide)]
  rfl
 have hl:A.length=9:=by rw[<-hA];simp[KF]
 unfold P9;split
 ·rename_i h;have hp:(part b 20 4).length=4:=Ek h;have e:(A.set 8 (eS (part b 20 4))).getD 8 0=eS (part b 20 4):=by simp[List.getD,hl]
  rw[e,RP F0];exact um F0
 ·rw[h0];decide
theorem Bg3(h:a.length=9):∃x0 x1 x2 x3 x4 x5 x6 x7 x8,a=[x0,x1,x2,x3,x4,x5,x6,x7,x8]:=by
 match a,h with
 |[x0,x1,x2,x3,x4,x5,x6,x7,x8],_=>exact⟨x0,x1,x2,x3,x4,x5,x6,x7,x8,rfl⟩
theorem Bd9(b:LB):(rdA b).length=9:=by unfold rdA;simp[KF]
theorem Ahm(h:¬(1<=C/\C<=6/\1<=R/\R<=1048576/\Bd W)):Ra C W R=some 8:=by
 rw[Ra];by_cases h1:1<=C/\C<=6/\1<=R/\R<=1048576
 ·have hw:¬Bd W:=λhw=>h ⟨h1.1,h1.2.1,h1.2.2.1,h1.2.2.2,hw⟩;unfold Bd at hw;rw[Abu Bpo,Abu Bpm,Abu Bpm,Abu Bpm]
 ·rw[Adi Bpo]
theorem Beh{b:LB}{x1 x2 x5:UInt64}(hm:x8.toNat<4294967296):(∃e,e≠0/\Mm b [x0,x1,x2,x3,x4,x5,x6,x7,x8]=some (0,0,0,e))\/
  ∃c w r:Nat,1<=c/\c<=6/\Bd (w:Int)/\1<=r/\r<=1048576/\Mm b [x0,x1,x2,x3,x4,x5,x6,x7,x8]=some ((c:Int),(w:Int),(r:Int),0):=by
 rw[Mm,show Am [x0,x1,x2,x3,x4,x5,x6,x7,x8] 1=some x1 from rfl,Aa,Aa,show Am [x0,x1,x2,x3,x4,x5,x6,x7,x8] 5=some x5 from rfl,Aa,Aa,show Am [x0,x1,x2,x3,x4,x5,x6,x7,x8] 2=some x2 from rfl,Aa,Aa,
  show Am [x0,x1,x2,x3,x4,x5,x6,x7,x8] 0=some x0 from rfl,show Am [x0,x1,x2,x3,x4,x5,x6,x7,x8] 8=some x8 from rfl]
 generalize(Ad x1:Int)=C;generalize(Ad x5:Int)=W;generalize(Ad x2:Int)=R;by_cases h:1<=C/\C<=6/\1<=R/\R<=1048576/\Bd W
 ·obtain⟨h1,h6,r1,r2,hw⟩:=h;obtain⟨c,rfl⟩:=Anz (show 0<=C by omega);obtain⟨w,rfl⟩:=Anz (show 0<=W by unfold Bd at hw;omega);obtain⟨r,rfl⟩:=Anz (show 0<=R by omega);rw[X1 F0 F0 hw F0 F0,Aa,Abu F2,Aa,Aa,Aa,Aa,Adp F0 F0 hw F0 F0 _ hm,Aa,Fp,Aa];by_cases he:(!(b==zN (c:Int) (w:Int) (r:Int) (geq x0 65534) x8))=true
  ·exact .inl ⟨12,F2,by rw[Adi he]⟩
  ·exact .inr ⟨c,w,r,F0,F0,hw,F0,F0,by rw[Abu he]⟩
 ·rw[Ahm h,Aa,Adi F2];exact .inl ⟨12,F2,rfl⟩
theorem Aja{b:LB}(hb:b.length<=20000):(∃e,e≠0/\Tn b=some (0,0,0,e))\/∃c w r:Nat,1<=c/\c<=6/\Bd (w:Int)/\1<=r/\r<=1048576/\Tn b=some ((c:Int),(w:Int),(r:Int),0):=by
 rw[Bas hb];have hm:=Ay3 b;obtain⟨x0,x1,x2,x3,x4,x5,x6,x7,x8,e⟩:=Bg3 (Bd9 b);rw[e]at hm⊢;exact Beh hm
theorem Bem{k:Nat}(h:v.toNat<256^k):eS (Fg v.toNat k)=v:=by
 rw[eS,Xa,Ajb h,UInt64.ofNat_toNat]
theorem mU{b:LB}{g k i:Nat}{x z:LB}(hb:b=x++(Fg v.toNat k++z))(hx:x.length=g)(hv:v.toNat<256^k):P9 b g k i a=a.set i v:=by
 subst hb;rw[P9,Adi (by simp[Az,hx]),BK hx (Az _ _),Bem hv]
theorem Bkh{b z:LB}{v0 v1 v2 v3 v4 v5:UInt64}(h0:v0.toNat<65536)(h1:v1.toNat<65536)(h2:v2.toNat<4294967296)(h3:v3.toNat<4294967296)(h4:v4.toNat<65536)(h5:v5.toNat<65536)
  (hb:b=Fg v0.toNat 2++Fg v1.toNat 2++Fg v2.toNat 4++Fg v3.toNat 4++Fg v4.toNat 2++Fg v5.toNat 2++z):
  rdA b=P9 b 20 4 8 (P9 b 18 2 7 (P9 b 16 2 6 [v0,v1,v2,v3,v4,v5,0,0,0])):=by
 unfold rdA;rw[mU (i:=0) (g:=0) (x:=[]) (v:=v0) (z:=Fg v1.toNat 2++Fg v2.toNat 4++Fg v3.toNat 4++Fg v4.toNat 2++Fg v5.toNat 2++z) (by rw[hb];simp only[Ajp,Awv]) rfl F0,
  mU (i:=1) (g:=2) (x:=Fg v0.toNat 2) (v:=v1) (z:=Fg v2.toNat 4++Fg v3.toNat 4++Fg v4.toNat 2++Fg v5.toNat 2++z) (by rw[hb];simp only[Ajp]) Bpu F0,
  mU (i:=2) (g:=4) (x:=Fg v0.toNat 2++Fg v1.toNat 2) (v:=v2) (z:=Fg v3.toNat 4++Fg v4.toNat 2++Fg v5.toNat 2++z) (by rw[hb];simp only[Ajp]) Bpu F0,
  mU (i:=3) (g:=8) (x:=Fg v0.toNat 2++Fg v1.toNat 2++Fg v2.toNat 4) (v:=v3) (z:=Fg v4.toNat 2++Fg v5.toNat 2++z) (by rw[hb];simp only[Ajp]) Bpu F0,
  mU (i:=4) (g:=12) (x:=Fg v0.toNat 2++Fg v1.toNat 2++Fg v2.toNat 4++Fg v3.toNat 4) (v:=v4) (z:=Fg v5.toNat 2++z) (by rw[hb];simp only[Ajp]) Bpu F0,
  mU (i:=5) (g:=14) (x:=Fg v0.toNat 2++Fg v1.toNat 2++Fg v2.toNat 4++Fg v3.toNat 4++Fg v4.toNat 2) (v:=v5) (z:=z) (by rw[hb];simp only[Ajp]) Bpu F0]
 rfl
theorem Aqz{c w r:Nat}(h1:1<=c)(h6:c<=6)(hw:Bd (w:Int))(hr1:1<=r)(hr:r<=1048576)(hm:x8.toNat<4294967296)(ext:Bool)(he:geq x0 65534=ext):
  Mm (zN (c:Int) (w:Int) (r:Int) ext x8) [x0,Ad (c:Int),Ad (r:Int),x3,x4,Ad (w:Int),x6,x7,x8]=some ((c:Int),(w:Int),(r:Int),0):=by
 have hw':w=8\/w=16\/w=24:=by unfold Bd at hw;omega
 have back:∀n:Nat,n<=1048576-> (Ad (Ad (n:Int):UInt64):Int)=(n:Int):=λn hn=>by
  rw[Mx,wU (by rw[Ajs];omega),Ajs,Ajb F0]
 have g0:∀(l:LQ) (k:Nat) (x:UInt64),l[k]? =some x->Am l (k:Int)=some x:=λl k x h=>by simpa [Am]using h
 rw[Mm,show Am _ 1=some (Ad (c:Int):UInt64)from rfl,Aa,Aa,show Am _ 5=some (Ad (w:Int):UInt64)from rfl,Aa,Aa,show Am _ 2=some (Ad (r:Int):UInt64)from rfl,Aa,Aa,
  back c F0,back w F0,back r F0,X1 h1 h6 hw hr1 hr,Aa,Abu F2,show Am _ 0=some x0 from rfl,Aa,Aa,show Am _ 8=some x8 from rfl,Aa,Aa,he,Adp h1 h6 hw hr1 hr ext hm,Aa,Fp,Aa,Abu Bpj]
theorem Azr{c w r:Nat}(h1:1<=c)(h6:c<=6)(hw:Bd (w:Int))(hr1:1<=r)(hr:r<=1048576)(ext:Bool)(hM:M.toNat<4294967296):
  Tn (zN (c:Int) (w:Int) (r:Int) ext M)=some ((c:Int),(w:Int),(r:Int),0):=by
 have hR:(Ad (r:Int):UInt64).toNat=r:=by rw[Mx,Ajs];omega
 obtain⟨b1,b2,b3,b4⟩:=Bap h1 h6 hw (R:=(Ad (r:Int):UInt64)) F0;rw[Bas (by have:=Amh (c:Int) (w:Int) (r:Int) ext M;omega)];cases ext with
 |true=>
  have hb:zN (c:Int) (w:Int) (r:Int) true M=Fg (65534:UInt64).toNat 2++Fg (Ad (c:Int):UInt64).toNat 2++Fg (Ad (r:Int):UInt64).toNat 4++Fg (Bi (Ad (r:Int):UInt64) (Ad (Bq (Bi (c:Int) (w:Int)) 8):UInt64)).toNat 4++Fg (Ad (Bq (Bi (c:Int) (w:Int)) 8):UInt64).toNat 2++Fg (Ad (w:Int):UInt64).toNat 2++([22,0]++Fg (Ad (w:Int):UInt64).toNat 2++Fg M.toNat 4++Ach):=by
   rw[zN,Adi rfl,Ao9];simp only[Ajp]
  rw[Bkh F2 b1 (by rw[hR];omega) b4 b2 b3 hb];generalize hA:P9 _ 18 2 7 _=A;have hl:A.length=9:=by rw[<-hA];simp[KF]
  rw[mU (v:=M) (i:=8) (x:=Ao9 (c:Int) (w:Int) (r:Int) 65534++[22,0]++Fg (Ad (w:Int):UInt64).toNat 2) (z:=Ach) (by rw[zN,Adi rfl];simp only[Ajp]) (by simp[wu,Az]) F0];have e:∀j:Nat,j<=5->A.getD j 0=[65534,Ad (c:Int),Ad (r:Int),Bi (Ad (r:Int):UInt64) (Ad (Bq (Bi (c:Int) (w:Int)) 8):UInt64),Ad (Bq (Bi (c:Int) (w:Int)) 8),Ad (w:Int),(0:UInt64),0,0].getD j 0:=λj hj=>by
   rw[<-hA,RD _ _ _ _ _ j F0,RD _ _ _ _ _ j F0]
  obtain⟨x0,x1,x2,x3,x4,x5,x6,x7,x8,rfl⟩:=Bg3 hl;have e0:x0=65534:=e 0 F0;have e1:x1=Ad (c:Int):=e 1 F0;have e2:x2=Ad (r:Int):=e 2 F0;have e5:x5=Ad (w:Int):=e 5 F0;subst e0 e1 e2 e5;exact Aqz h1 h6 hw hr1 hr hM true F2
 |false=>
  have hb:zN (c:Int) (w:Int) (r:Int) false M=Fg (1:UInt64).toNat 2++Fg (Ad (c:Int):UInt64).toNat 2++Fg (Ad (r:Int):UInt64).toNat 4++Fg (Bi (Ad (r:Int):UInt64) (Ad (Bq (Bi (c:Int) (w:Int)) 8):UInt64)).toNat 4++Fg (Ad (Bq (Bi (c:Int) (w:Int)) 8):UInt64).toNat 2++Fg (Ad (w:Int):UInt64).toNat 2++[]:=by
   rw[zN,Abu F2,Ao9];simp only[Ap3]
  have hl:(zN (c:Int) (w:Int) (r:Int) false M).length=16:=by rw[zN,Abu F2,wu]
  rw[Bkh F2 b1 (by rw[hR];omega) b4 b2 b3 hb,P9,Abu F0,P9,Abu F0,P9,Abu F0];exact Aqz (x8:=0) h1 h6 hw hr1 hr F2 false F2
theorem Af9(a:LB)(ha:a.length<=100000):∀(j i q:Nat),i+j=a.length->j<q->∃t,Vw a q (i:Int)=some t
 |0,i,q+1,hi,_=>by
  rw[Vw,KY,Abu F3];exact⟨_,rfl⟩
 |j+1,i,q+1,hi,hq=>by
  have hlt:i<a.length:=F0
  rw[Vw,KY,Adi F3,Bn hlt,Aa,Aa];by_cases hb:(Cj a[i] 32||Dx a[i] 126)=true
  ·rw[Adi hb];exact⟨_,rfl⟩
  ·rw[Abu hb,show Ae (i:Int) 1=((i+1:Nat):Int) by rw[Ag];omega];exact Af9 a ha j (i+1) q F0 F0
theorem Al3{a:LB}(ha:a.length<=100000):∃t,Sg a=some t:=
 Af9 a ha a.length 0 Au F0 F8
theorem Ac9{l:LB}(h:l.length<=100000):(Ad (Ac l):UInt64).toNat=l.length:=by
 rw[Ac,Mx,Ajs];omega
theorem Amt{a:LB}(h:a.length<=100000):Ir a=some a:=by
 rw[Ir,Bf F7,Aa];rfl
theorem Blh{b g:LB}{f:UInt64}(hb:b.length<=100000):IQ b f g=some ([],[],[],false)\/
  (f.toNat<=b.length/\∃o,IQ b f g=some (g,b.take f.toNat,o,true)/\o.length<=b.length):=by
 rw[IQ];by_cases hf:b.length<f.toNat
 ·rw[Adi (by rw[Uc,Ac9 hb];simpa using hf)];exact .inl rfl
 ·rw[Abu (by rw[Uc,Ac9 hb];simpa using hf),Is,Ct,Aa,Amt Bp2,Aa,Bp,Aa,Ajx];by_cases h1:geq (CU f 2) 1=true
  ·rw[Adi h1];by_cases h2:geq (Ac (b.drop f.toNat)) 0=true
   ·rw[Adi h2];exact .inl rfl
   ·have hd:0<(b.drop f.toNat).length:=by
     rw[Ar,Ac]at h2;simp at h2⊢;omega
    rw[Abu h2,show Am (b.drop f.toNat) 0=some ((b.drop f.toNat)[0]'hd)from Bn hd,Aa];by_cases h3:Bg ((b.drop f.toNat)[0]'hd) 0=true
    ·rw[Adi h3];exact .inl rfl
    ·rw[Abu h3,Bp,Aa];exact .inr ⟨F0,_,rfl,Bpj⟩
  ·rw[Abu h1];exact .inr ⟨F0,_,rfl,Bpj⟩
theorem Aza{h:LB}(hh:h.length<=100000):∃m n o p,YJ h=some (m,n,o,p)/\ (p=true->o.length+8<=h.length/\n.length<=h.length):=by
 rw[YJ,oJ];by_cases h8:h.length<8
 ·rw[Adi F3];exact⟨_,_,_,_,rfl,λe=>by cases e⟩
 ·rw[Abu F3,Ct,Aa];obtain⟨t,ht⟩:=Al3 (a:=h.take (4:Int).toNat) Bp2;rw[ht,Aa];cases t with
  |false=>exact⟨_,_,_,_,rfl,λe=>by cases e⟩
  |true=>
   rw[Abu F2,lP,mK,show HZ h 4 4=_ from rH h 4 4 F0 F0 F0 F0,Aa];simp only;rw[Ct,Aa,Bp,Aa,mG];have hl:(h.drop (8:Int).toNat).length=h.length-8:=by simp
   rcases Blh (b:=h.drop (8:Int).toNat) (g:=h.take (4:Int).toNat) (f:=eS (part h 4 4)) F0 with e|⟨e1,o,e,e2⟩
   ·exact⟨_,_,_,_,e,λe=>by cases e⟩
   ·exact⟨_,_,_,_,e,λ_=>⟨F0,by rw[Anb];omega⟩⟩
theorem Af3{a f:LB}{b:UInt64}:∀(q:Nat) (h:LB) (g:List (LB×LB×Unit)),h.length<q->h.length<=20000->g.length<=20-> (∀c∈g,c.2.1.length<=20000)->
  ∃y G e,Tg a b f q h g=some (y,G,e)/\G.length<=20/\ (∀c∈G,c.2.1.length<=20000)/\ (∀L,h.length<=L-> (∀c∈g,c.2.1.length<=L)->∀c∈G,c.2.1.length<=L)
 |q+1,h,g,hq,hh,hg,hgc=>by
  rw[Tg,CK];by_cases h0:0<h.length
  ·rw[Adi F9];by_cases h20:g.length=20
   ·rw[Adi (by rw[Ar,Ac];simp[h20])];exact⟨_,_,_,rfl,Bpj,Bpj,Bpj⟩
   ·rw[Abu Bp5];obtain⟨m,n,o,p,e,hp⟩:=Aza (h:=h) F0;rw[e,Aa];simp only;cases p with
    |false=>exact⟨_,_,_,rfl,Bpj,Bpj,Bpj⟩
    |true=>
     obtain⟨h1,h2⟩:=hp rfl;rw[Abu F2,Bf F7,Aa];have hgc':∀c∈g++[(m,n,())],c.2.1.length<=20000:=λc hc=>by
      rcases List.mem_append.1 hc with hc|hc
      ·exact hgc c hc
      ·simp at hc;subst hc;simp only;omega
     obtain⟨y,G,e,k1,k2,k3,k4⟩:=Af3 (a:=a) (f:=f) (b:=b) q o (g++[(m,n,())]) F0 F0 F7 hgc';refine⟨y,G,e,k1,k2,k3,λL hL hgL=>k4 L F0 λc hc=>?_⟩;rcases List.mem_append.1 hc with hc|hc
     ·exact hgL c hc
     ·simp at hc;subst hc;simp only;omega
  ·rw[Abu (by rw[Ap,Ac];simp;exact Aw6 F0),QY,iI];by_cases hm:Dx (Ad (Ac a):UInt64) (Ae b 8)=true
   ·rw[Adi hm];exact⟨_,_,_,rfl,Bpj,Bpj,Bpj⟩
   ·rw[Abu hm];exact⟨_,_,_,rfl,hg,hgc,λL _ h=>h⟩
theorem Arp{b:UInt64}{k:Nat}(h:b.toNat<4294967296)(hk:k<=100):(Ae b (UInt64.ofNat k)).toNat=b.toNat+k:=by
 have e:Ae b (UInt64.ofNat k)=UInt64.ofNat (b.toNat+(UInt64.ofNat k).toNat):=by
  show GI.ofZ (((b.toNat:Nat):Int)+(((UInt64.ofNat k).toNat:Nat):Int))=_;rw[<-Int.natCast_add];exact Gj _
 rw[e,Ajs,Ajs];omega
theorem Ays{a:LB}(ha:a.length<=2000):∃y G e,YP a=some (y,G,e)/\G.length<=20/\∀c∈G,c.2.1.length<=2000:=by
 rw[YP,XZ];by_cases h12:a.length<12
 ·rw[Adi F3];exact⟨_,_,_,rfl,Bpj,Bpj⟩
 rw[Abu F3,show HZ a 4 4=_ from rH a 4 4 F0 F0 F0 F0,Aa];simp only;rw[Qn,Aa,Ct,Aa];have hb:(eS (part a 4 4)).toNat<4294967296:=by
  have hp:(part a 4 4).length=4:=Ek;rw[RP F0];exact um F0
 generalize eS (part a 4 4)=b at hb;have hb8:(Ae b 8).toNat=b.toNat+8:=Arp (k:=8) hb F0;have six:∀(f:LB) (k:Bool),(k=false->4<=b.toNat)->∃y G e,XV a b f k=some (y,G,e)/\G.length<=20/\∀c∈G,c.2.1.length<=2000:=by
  intro f k hk;rw[XV,YA];cases k with
  |true=>exact⟨_,_,_,rfl,Bpj,Bpj⟩
  |false=>
   have h4:=hk rfl;rw[Abu F2];by_cases h1:Dx (Ae b 8) 100000=true
   ·rw[Adi h1];exact⟨_,_,_,rfl,Bpj,Bpj⟩
   rw[Abu h1];by_cases h2:a.length<b.toNat+8
   ·rw[Adi (by rw[Uc,Ac9 F0,hb8];simpa using h2)];exact⟨_,_,_,rfl,Bpj,Bpj⟩
   rw[Abu (by rw[Uc,Ac9 F0,hb8];simpa using h2),oF,XM,Is,hb8,Qn,Aa,nM];obtain⟨y,G,e,k1,k2,_,k4⟩:=Af3 (a:=a) (b:=b) (f:=f) Au ((a.take ((b.toNat+8:Nat):Int).toNat).drop (12:Int).toNat) [] (by have:=As;simp;omega) F7 Bpj Bpj;exact⟨y,G,e,k1,k2,k4 2000 F7 Bpj⟩
 have h4b:∀x:Bool,(x||Cj b 4)=false->4<=b.toNat:=λx hx=>by
  rw[Boj,wI]at hx;have:=hx.2;simp at this;exact this
 by_cases hr:(a.take (4:Int).toNat != [82,73,70,70])=true
 ·rw[Adi hr];exact six _ _ (h4b true)
 ·rw[Abu hr];obtain⟨t,ht⟩:=Al3 (a:=(a.take (12:Int).toNat).drop (8:Int).toNat) F7;rw[ht,Aa];exact six _ _ (h4b _)
theorem Afr{a:List (LB×LB×Unit)}{n:LB}(ha:a.length<=20):∀(j i q:Nat),i+j=a.length->j<q-> (∃f:Nat,f<a.length/\Wr a n q (i:Int)=some ((f:Int),0))\/Wr a n q (i:Int)=some (0,6)
 |0,i,q+1,hi,_=>by
  rw[Wr,YC,Abu F3,iE,xN,RC,gK,Adi F2];exact .inr rfl
 |j+1,i,q+1,hi,hq=>by
  have hlt:i<a.length:=F0
  rw[Wr,YC,Adi F3,Bn hlt,Aa,gD,xQ];by_cases hb:(a[i].1==n)=true
  ·rw[Adi hb,RC,gK,Abu Bpr];exact .inl ⟨i,hlt,rfl⟩
  ·rw[Abu hb,yT,xV,show Ae (i:Int) 1=((i+1:Nat):Int) by rw[Ag];omega];exact Afr ha j (i+1) q F0 F0
theorem Ak3{a:List (LB×LB×Unit)}{n:LB}(ha:a.length<=20):(∃f:Nat,f<a.length/\kH a n=some ((f:Int),0))\/kH a n=some (0,6):=
 Afr ha a.length 0 Au F0 F8
theorem Azd{a:List (LB×LB×Unit)}{n:LB}(ha:a.length<=20):(∃f:Nat,f<a.length/\JR a n=some ((f:Int),0))\/∃e,e≠0/\JR a n=some (0,e):=by
 rw[JR];rcases Ak3 (n:=n) ha with⟨f,hf,e⟩|e
 ·rw[e,Aa];simp only;rw[Abu F2,Ag,Bp,Aa];rcases Ak3 (a:=a.drop ((f:Int)+1).toNat) (n:=n) F7 with⟨k,_,e'⟩|e'
  ·rw[e',Aa];exact .inr ⟨12,F2,rfl⟩
  ·rw[e',Aa];exact .inl ⟨f,hf,rfl⟩
 ·rw[e,Aa];exact .inr ⟨6,F2,rfl⟩
theorem Ahw{c w:Nat}(h1:1<=c)(h6:c<=6)(hw:Bd (w:Int)):Bq (Bi (c:Int) (w:Int)) 8=((c*wB (w:Int):Nat):Int)/\1<=wB (w:Int):=by
 have hc:c=1\/c=2\/c=3\/c=4\/c=5\/c=6:=F0
 have hw':w=8\/w=16\/w=24:=by unfold Bd at hw;omega
 rcases hc with rfl|rfl|rfl|rfl|rfl|rfl<;>rcases hw' with rfl|rfl|rfl<;>exact⟨F2,F2⟩
theorem Bde{c w r:Nat}(h1:1<=c)(h6:c<=6)(hw:Bd (w:Int)){d:LB}(hd:d.length<=2000){F:LX->Int->Option (Int×Int×Int×LX×Int)}(hF:∀v ab,F v ab=if Bg ab 0=true then some (0,0,0,[],4)else
   (Cl (c:Int) (w:Int) (r:Int) v).bind λac=>if Bg ac 0=true then some (0,0,0,[],4)else some ((c:Int),(w:Int),(r:Int),v,0)) (hm:d.length %(c*wB (w:Int))=0):
  ((Nb (w:Int) d).bind λx=>F x.1 x.2)=some (0,0,0,[],4)\/∃(n:Nat) (x:LX),ClipOk c w r n x/\Cl (c:Int) (w:Int) (r:Int) x=some 0/\ ((Nb (w:Int) d).bind λx=>F x.1 x.2)=some ((c:Int),(w:Int),(r:Int),x,0):=by
 obtain⟨-,hB⟩:=Ahw h1 h6 hw;have hdv:wB (w:Int)∣d.length:=Nat.dvd_trans (Nat.dvd_mul_left _ _) (Nat.dvd_of_mod_eq_zero hm);obtain⟨m,hm'⟩:=hdv;have hml:m<=d.length:=by rw[hm'];exact Nat.le_mul_of_pos_left _ F0
 rw[lL d hw (m:=m) (by rw[hm',Aw7]) F0,Aa,hF,Abu (show ¬Bg (0:Int) 0=true by decide)];rcases sQ (c:Int) (w:Int) (r:Int) (qG (wB (w:Int)) m d)with⟨_,e8⟩|⟨c',w',r',n,e1,e2,e3,hk,_,e⟩
 ·rw[e8 (by rw[vZ];omega),Aa,Adi F2];exact .inl rfl
 ·obtain rfl:c=c':=F0
  obtain rfl:w=w':=F0
  obtain rfl:r=r':=F0
  refine .inr ⟨n,_,hk,e,?_⟩;rw[e,Aa,Abu F2]
theorem Bef{b:LB}(hb:b.length<=2000):(∃e,e≠0/\MS b=some (0,0,0,[],e))\/∃(c w r n:Nat) (x:LX),ClipOk c w r n x/\Cl (c:Int) (w:Int) (r:Int) x=some 0/\MS b=some ((c:Int),(w:Int),(r:Int),x,0):=by
 obtain⟨y,G,e,k1,k2,k3⟩:=Ays hb;rw[MS,k1,Aa];simp only;by_cases he:e=0
 rotate_left
 ·rw[Adi (by rw[Ah];simpa using he)];exact .inl ⟨e,he,rfl⟩
 subst he;rw[Abu F2];by_cases hy:(y != [87,65,86,69])=true
 ·rw[Adi hy];exact .inl ⟨12,F2,rfl⟩
 rw[Abu hy];have on:∀n:LB,∃g o:Int,JR G n=some (g,o)/\ (o=0->∃k:Nat,g=(k:Int)/\k<G.length):=λn=>by
  rcases Azd (a:=G) (n:=n) k2 with⟨f,hf,e⟩|⟨e,he,e'⟩
  ·exact⟨_,_,e,λ_=>⟨f,rfl,hf⟩⟩
  ·exact⟨_,_,e',λh=>absurd h he⟩
 obtain⟨g,n,e1,hg⟩:=on [102,109,116,32];obtain⟨h,o,e2,hh⟩:=on [100,97,116,97];rw[e1,Aa];simp only;rw[e2,Aa];simp only;by_cases h6:(geq n 6||geq o 6)=true
 ·rw[Adi h6];exact .inl ⟨6,F2,rfl⟩
 rw[Abu h6];by_cases h7:((Bg n 0||Bg o 0)||Dx g h)=true
 ·rw[Adi h7];exact .inl ⟨12,F2,rfl⟩
 rw[Abu h7];simp only[Biu,not_or,Ah]at h7;obtain⟨g,rfl,hgl⟩:=hg (by simpa using h7.1.1);obtain⟨h,rfl,hhl⟩:=hh (by simpa using h7.1.2);rw[Bn hgl,Aa,Aa];rcases Aja (b:=G[g].2.1) (by have:=k3 _ (Avu hgl);omega)with⟨e,he,e'⟩|⟨c,w,r,c1,c6,hw,r1,r2,e'⟩
 ·rw[e',Aa];simp only;rw[Adi (by rw[Ah];simpa using he)];exact .inl ⟨e,he,rfl⟩
 rw[e',Aa];simp only;rw[Abu F2,Bn hhl,Aa,Aa];have hd:=k3 _ (Avu hhl);generalize G[h].2.1=d at hd;by_cases h0:geq (Ac d) 0=true
 ·rw[Adi h0];exact .inl ⟨12,F2,rfl⟩
 obtain⟨hS,hB⟩:=Ahw c1 c6 hw;have hpos:1<=c*wB (w:Int):=Boi c1 hB;rw[Abu h0,hS,Bk Bpl,Aa,Ac,DF];by_cases hm:d.length %(c*wB (w:Int))=0
 rotate_left
 ·rw[Adi (by rw[Ap];exact Bk9 (Int.natCast_pos.2 (Nat.pos_of_ne_zero hm)))];exact .inl ⟨12,F2,rfl⟩
 rw[Abu (by rw[Ap,hm];decide)];rcases Bde (r:=r) c1 c6 hw hd (F:=λv ab=>if Bg ab 0=true then some (0,0,0,[],4)else(Cl (c:Int) (w:Int) (r:Int) v).bind λac=>if Bg ac 0=true then some (0,0,0,[],4)else some ((c:Int),(w:Int),(r:Int),v,0)) (λ_ _=>rfl) hm with e|⟨n,x,hk,hc,e⟩
 ·exact .inl ⟨4,F2,e⟩
 ·exact .inr ⟨c,w,r,n,x,hk,hc,e⟩
theorem Ayj{n:Nat}(h:n %2=0):xM n=[]:=by rw[xM,h];rfl
theorem Bes{n:Nat}(h:n %2=1):xM n=[0]:=by rw[xM,h];rfl
theorem Asp{c k rest:LB}(hc:c.length=4)(hn:Sg c=some true)(hk:k.length<=20000)(hr:rest.length<=60000):YJ (Y3 c k++rest)=some (c,k,rest,true):=by
 have hpl:(xM k.length).length=k.length %2:=by simp[xM]
 have hl:(Y3 c k++rest).length=8+k.length+k.length %2+rest.length:=by
  simp only[Y3,Afz,hc,Az,hpl]
 have e4:(Y3 c k++rest).take 4=c:=by
  rw[Y3,Ajp,Ajp,Ajp,Bg6 F0,Awy F0]
 have e8:(Y3 c k++rest).drop 8=k++(xM k.length++rest):=by
  rw[show Y3 c k++rest=(c++Fg k.length 4)++(k++(xM k.length++rest)) by simp only[Y3,Ajp]];rw[Bch (by simp[hc,Az]),Blj (by simp[hc,Az])];rfl
 have hp:part (Y3 c k++rest) 4 4=Fg k.length 4:=by
  rw[show Y3 c k++rest=c++(Fg k.length 4++(k++(xM k.length++rest))) by simp only[Y3,Ajp]];exact BK hc (Az _ _)
 have hU:eS (Fg k.length 4)=UInt64.ofNat k.length:=by rw[eS,Xa,Ajb F0]
 have hUn:(UInt64.ofNat k.length).toNat=k.length:=by rw[Ajs];omega
 rw[YJ,oJ,Abu (by rw[Af,Ac,hl];simp;omega),Ct,Aa,show(4:Int).toNat=4 from rfl,e4,hn,Aa,Abu F2,lP,mK,
  show HZ (Y3 c k++rest) 4 4=_ from rH _ 4 4 F0 F0 F0 F0,Aa,hp,hU]
 simp only;rw[Ct,Aa,show(4:Int).toNat=4 from rfl,e4,Bp,Aa,show(8:Int).toNat=8 from rfl,e8,mG,IQ];have hbl:(k++(xM k.length++rest)).length=k.length+(k.length %2+rest.length):=by simp only[Afz,hpl]
 rw[Abu (by rw[Uc,Ac9 F0,hUn,hbl];simp),Is,hUn,Ct,Aa,Ajx,Bg6 F0,Bd0,Amt F0,Aa,Bp,Aa,Ajx,Bch F0,Bl3,Awv];have Bgg:(CU (UInt64.ofNat k.length) 2).toNat=k.length %2:=by
  have e:CU (UInt64.ofNat k.length) 2=UInt64.ofNat ((UInt64.ofNat k.length).toNat %(2:UInt64).toNat):=by
   show GI.ofZ (((UInt64.ofNat k.length).toNat:Int).tmod (((2:UInt64).toNat:Nat):Int))=_;rw[<-Bpa];exact Gj _
  rw[e,Ajs,hUn,show(2:UInt64).toNat=2 from rfl];omega
 rcases Nat.mod_two_eq_zero_or_one k.length with h0|h1
 ·rw[Abu (by rw[vQ,Bcg];intro e;rw[e]at Bgg;have:(1:UInt64).toNat=1:=rfl;omega),Ayj h0];rfl
 ·rw[Adi (by rw[vQ,Bcg,<-Bng,Bgg,h1];rfl),Bes h1,Abu Bp5,show Am ([0]++rest) 0=some (0:UInt8)from rfl,Aa,Abu F2,Bp F0 F7,Aa];rfl
theorem Au9{k m:LB}(hk:k.length<=100)(hm:m.length<=20000):YP (cR k m)=some ([87,65,86,69],two k m,0):=by
 have hN:Xq k m=4+(Y3 [102,109,116,32] k++Y3 [100,97,116,97] m).length:=by
  simp[Xq,Y3,xM,Az];omega
 have hN2:Xq k m<=30000:=by unfold Xq;omega
 generalize hz:Y3 [102,109,116,32] k++Y3 [100,97,116,97] m=z at hN;have hS:cR k m=[82,73,70,70]++(Fg (Xq k m) 4++([87,65,86,69]++z)):=by rw[<-hz,cR];simp only[Ajp]
 have hl:(cR k m).length=Xq k m+8:=by rw[hS];simp[Az];omega
 have hp:part (cR k m) 4 4=Fg (Xq k m) 4:=by rw[hS];exact BK rfl (Az _ _)
 have hU:eS (Fg (Xq k m) 4)=UInt64.ofNat (Xq k m):=by rw[eS,Xa,Ajb F0]
 have hUn:(UInt64.ofNat (Xq k m)).toNat=Xq k m:=by rw[Ajs];omega
 have e4:(cR k m).take 4=[82,73,70,70]:=by rw[hS];rfl
 have h8:(cR k m).drop 8=[87,65,86,69]++z:=by
  rw[hS,show(8:Nat)=([82,73,70,70]++Fg (Xq k m) 4:LB).length by simp[Az],<-Ajp,Bmu]
 have e12:((cR k m).take 12).drop 8=[87,65,86,69]:=by
  rw[Boq,h8];rfl
 have ez:(cR k m).drop 12=z:=by
  rw[show(12:Nat)=8+4 from rfl,<-Bk5,h8];rfl
 have hb8:(Ae (UInt64.ofNat (Xq k m)) 8).toNat=Xq k m+8:=by rw[show(8:UInt64)=UInt64.ofNat 8 from rfl,Arp (by rw[hUn];omega) F0,hUn]
 rw[YP,XZ,Abu (by rw[Af,Ac,hl];simp;unfold Xq;omega),show HZ (cR k m) 4 4=_ from rH _ 4 4 F0 F0 F0 F0,Aa,hp,hU];simp only;rw[Qn F0 F0 (by rw[hl];unfold Xq;omega),Aa,show(12:Int).toNat=12 from rfl,show(8:Int).toNat=8 from rfl,e12,Ct F0 (by rw[hl];omega),Aa,show(4:Int).toNat=4 from rfl,e4,Abu F2,
  show Sg [87,65,86,69]=some true from by kernel_rfl,Aa,XV,YA,Abu (by rw[wI,hUn];simp;unfold Xq;omega),Abu (by rw[Uc,hb8];simp;omega),
  Abu (by rw[Uc,hb8,Ac9 F0,hl];simp),oF,XM,Is,hb8,<-hl,show(((cR k m).length:Nat):Int)=Ac (cR k m)from rfl,Bp F0 (by rw[hl];unfold Xq;omega),Aa,show(12:Int).toNat=12 from rfl,ez,nM]
 obtain⟨q,hq⟩:=Bat;have hc1:(Y3 [102,109,116,32] k).length=8+k.length+k.length %2:=by simp[Y3,xM,Az];omega
 have hc2:(Y3 [100,97,116,97] m).length=8+m.length+m.length %2:=by simp[Y3,xM,Az];omega
 rw[hq,<-hz,Tg,CK,Adi (by rw[Ap,Ac,Afz];simp;omega),Abu F2,Asp rfl (by kernel_rfl) F0 F0,Aa];simp only;rw[Abu F2,Bf Bpj,Aa,Tg,CK,Adi F9,Abu (by simp[Ar,Ac]),<-Ap3 (Y3 [100,97,116,97] m),Asp rfl (by kernel_rfl) hm Bpj,Aa];simp only;rw[Abu F2,Bf Bpj,Aa,Tg,CK,Abu F2,QY,iI,Abu (by rw[Uc,hb8,Ac9 F0,hl];simp)];rfl
theorem Bjf(k m:LB):JR (two k m) [102,109,116,32]=some (0,0):=by kernel_rfl
theorem Bic(k m:LB):JR (two k m) [100,97,116,97]=some (1,0):=by kernel_rfl
theorem Am8{c w r n:Nat}(h:ClipOk c w r n x)(hc:Cl (c:Int) (w:Int) (r:Int) x=some 0):∃b:LB,IA (c:Int) (w:Int) (r:Int) x=some (b,0)/\MS b=some ((c:Int),(w:Int),(r:Int),x,0):=by
 have hx:=h.le.2.2.2;have hb:=BL (w:Int) x;have hbl:(Dk (w:Int) x).length<=20000:=F0
 have hb':=AA h.bits x;obtain⟨hS,hB⟩:=Ahw h.ch.1 h.ch.2 h.bits;have hk:=Amh (c:Int) (w:Int) (r:Int) (Dx (c:Int) 2||Dx (w:Int) 16) (Aq (Du (1:UInt64) (GI.toZ (c:Int)).toNat) 1);have hkr:=Azr h.ch.1 h.ch.2 h.bits h.rate.1 h.rate.2 (Dx (c:Int) 2||Dx (w:Int) 16) (Ar9 h.ch.1 h.ch.2).2;have hkw:=Aph h.ch.1 h.ch.2 h.bits h.rate.1 h.rate.2;generalize zN (c:Int) (w:Int) (r:Int) (Dx (c:Int) 2||Dx (w:Int) 16) (Aq (Du (1:UInt64) (GI.toZ (c:Int)).toNat) 1)=k at hk hkr hkw;refine⟨cR k (Dk (w:Int) x),?_,?_⟩
 ·rw[IA,hc,Aa,Abu F2,hkw,Aa];simp only;rw[Adz h.bits hx h.rng,Aa];simp only;rw[Ao1 hk hbl,Aa]
 ·have c1:=h.ch.1;have hpos:1<=c*wB (w:Int):=Boi h.ch.1 hB;have hlx:1<=x.length:=h.le.2.2.1;have hlb:1<= (Dk (w:Int) x).length:=by rw[hb'];exact Boi hlx hB
  have hmod:(Dk (w:Int) x).length %(c*wB (w:Int))=0:=by rw[hb',h.len,Bg8];exact Bj2 _ _
  rw[MS,Au9 hk hbl,Aa];simp only;rw[Abu F2,Abu F2,Bjf,Aa];simp only;rw[Bic,Aa];simp only;rw[Abu F2,Abu F2,Ba8,Aa,Aa,hkr,Aa];simp only;rw[Abu F2,Bac,Aa,Aa,Abu (by rw[Ar,Ac];simp;intro e;rw[e]at hlb;simp at hlb),hS,Bk Bpl,Aa,Ac,DF,hmod,Abu F2,M5 h.bits hx h.rng,Aa];simp only;rw[Abu F2,hc,Aa,Abu F2]
theorem Bc7:FX=some true:=by kernel_rfl
theorem Axk{b p:LB}(hb:b.length<=100100)(hp:p.length<=64){x1 x2 x3:Int}{x4:LX}(h:Kx b p=some (x1,x2,x3,x4,0)):∃y:LB,IA x1 x2 x3 x4=some (y,0):=by
 rcases vL b p hb hp with⟨e,he,_,_,h1,_⟩|⟨f,c,w,r,n,A,l,o,h1,_⟩
 ·rw[h]at h1;simp only[wX,Ajq,Aki]at h1;exact absurd h1.2.2.2.2.symm he
 ·rw[h]at h1;have h1':=(Axh h1).symm;obtain⟨x,m,e,hk,hc⟩:=Bfs o (by rw[h1']);rw[h1']at e;simp only[Aki]at e;obtain⟨rfl,rfl,rfl,rfl,_⟩:=e;obtain⟨y,hy,_⟩:=Am8 hk hc;exact⟨y,hy⟩
theorem Agm{y p:LB}{c w r n:Nat}(h:ClipOk c w r n x)(hc:Cl (c:Int) (w:Int) (r:Int) x=some 0)(hp:p.length<=64)(hr:MS y=some ((c:Int),(w:Int),(r:Int),x,0)):Oe y p=some (Tx c w r n x p,0):=by
 rw[Oe,GW,hr,Aa];simp only;rw[GF,GK,Abu F2,Ab7 h hc hp,Aa];rfl
theorem Avh{b p:LB}(hb:b.length<=2000)(hp:p.length<=64):∃u v,Oe b p=some (u,v)/\aF b p=some (u,v):=by
 rcases Bef hb with⟨e,he,e1⟩|⟨c,w,r,n,x,h,hc,e1⟩
 ·refine⟨[],e,?_,?_⟩
  ·rw[Oe,GW,e1,Aa];simp only;rw[GF,GK,Adi (by rw[Ah];simpa using he)];rfl
  ·rw[aF,e1,Aa];simp only;rw[Adi (by rw[Ah];simpa using he)]
 ·refine⟨_,_,Agm h hc hp e1,?_⟩;rw[aF,e1,Aa];simp only;rw[Abu F2,Aj1 h hc p hp,Aa]
theorem Asn{y b p:LB}(hd:Nr b p=some (C,W,R,x,0))(hw:IA C W R x=some (y,0)):Tr b p=some (y,0):=by
 rw[Tr,QL,hd,Aa];simp only;rw[QQ,PH,Abu F2,hw,Aa];rfl
theorem Be9{b p:LB}(hb:b.length<=20000)(hp:p.length<=64):∃u v,Tr b p=some (u,v)/\iP b p=some (u,v):=by
 obtain⟨x1,x2,x3,x4,e,hd,hv,_⟩:=tI hb hp;by_cases he:e=0
 ·subst he;obtain⟨y,hw⟩:=Axk F0 hp hv;refine⟨y,0,Asn hd hw,?_⟩;rw[iP,hv,Aa];simp only;rw[Abu F2,hw,Aa]
 ·refine⟨[],e,?_,?_⟩
  ·rw[Tr,QL,hd,Aa];simp only;rw[QQ,PH,Adi (by rw[Ah];simpa using he)];rfl
  ·rw[iP,hv,Aa];simp only;rw[Adi (by rw[Ah];simpa using he)]
theorem law_OneshotWavs(C W R:Int)(x:LX)(p b:LB):Tj C W R x p b=some true:=by
 rw[Tj,Bc7,Aa];rcases sQ C W R x with⟨e8,_⟩|⟨c,w,r,n,rfl,rfl,rfl,h,e24,eck⟩
 ·rw[e8,Aa,Adi Bqe]
 rw[e24,Aa];by_cases hx:x.length<=400/\p.length<=64/\b.length<=2000
 rotate_left
 ·rw[Adi (by simp[Ap,Ac];omega)]
 obtain⟨hx,hp,hb⟩:=hx;rw[Abu (by simp[Ah,Ap,Ac];omega)];obtain⟨y,w1,w2⟩:=Am8 h eck;have hsm:=Aoz h (p:=p) hx;obtain⟨x1,x2,x3,x4,e,hd,hv,_⟩:=tI (b:=Tx c w r n x p) (p:=p) F0 hp;rw[Aql h hp]at hv;have hv:=Axh hv;simp only[Aki]at hv;obtain⟨rfl,rfl,rfl,rfl,rfl⟩:=hv;obtain⟨u1,v1,f1,f2⟩:=Avh hb hp;obtain⟨u2,v2,t1,t2⟩:=Be9 (b:=b) F0 hp;rw[w1,Aa];simp only;rw[Agm h eck hp w2,Aa];simp only;rw[Asn hd w1,Aa];simp only;rw[f1,Aa];simp only;rw[f2,Aa];simp only;rw[t1,Aa];simp only;rw[t2,Aa];simp[Ar]
end Go.Pl
