/- A part of a proof (see the text that ends in Proof). No conditions. -/
import Derived.Test.YtfndponlpdejaaaGreatDoorTpWA
import Derived.KernelRfl
set_option linter.unusedVariables false
set_option linter.unusedSimpArgs false
namespace Go.Pl
open Go Go.Lv
variable{α:Type}
theorem At.cat{p:LB}{a:Nat}{c d:List Bool}(h:At p a (c++d)):At p a c/\At p (a+c.length) d:=⟨h.left,h.right⟩
theorem Ak7(p:LB):∀(q a:Nat),At p a (List.replicate q true)->Cp p a q+1=2^q
 |0,a,_=>by rw[Cp]
 |q+1,a,h=>by
  rw[LY]at h;obtain⟨h0,h1⟩:=h.cons;have:=Ak7 p q (a+1) h1;rw[Cp,h0,F_,B2 rfl];omega
theorem Z1{x:UInt64}{p:LB}{m n:Nat}(hn:n<=63)(h:x.toNat=Cp p m n):x=Tm p m n:=by
 apply UInt64.toNat_inj.1;rw[h,DZ p m n F0]
theorem iB{n:Nat}(h:n<2^64):(UInt64.ofNat n).toNat=n:=by rw[E_];exact C! h
theorem Ada{p:LB}{m q:Nat}(hq:q<=48)(hm:m+48<=300000)(h:At p m (List.replicate q true++(if q=48 then []else [false]))):
  iU (Ul p 0 m) (m:Int) (q:Int)=some (Ul p 0 (m+min (q+1) 48),((m+min (q+1) 48:Nat):Int),0):=by
 have h1:=h.left;have hv:=Ak7 p q m h1;have Boc:2^q<=2^48:=E1 F0 hq;have hval:Cp p m (min (q+1) 48)+1=2^q:=by
  by_cases h48:q=48
  ·subst h48;exact hv
  ·rw[A_ h48]at h;have h2:=h.right;rw[J?]at h2;have h0:=h2.cons.1;rw[show min (q+1) 48=q+1 by omega,yM,h0];simpa using hv
 have hx:(Aq (Eh (1:UInt64) q) (1:UInt64)).toNat=Cp p m (min (q+1) 48):=by
  have e1:(Eh (1:UInt64) q).toNat=2^q:=by rw[fQ];show 1*2^q %_=_;rw[JK];exact C! F0
  have hpos:0<2^q:=KQ F0;rw[U8,v? _ _ (by rw[vB,e1];exact hpos),e1]
  show 2^q-1=_;omega
 rw[iU,EX (O4 p 0 m F0),Aa,A_ F2,qW,A_ EE,Aa];simp only;have e2:Fq (Ae (q:Int) 1) 48=((min (q+1) 48:Nat):Int):=by rw[CO,Ah];omega
 rw[A_ F2,Br IE,Aa,e2,show(GI.toZ (q:Int)).toNat=q from rfl,Z1 F0 hx,put_eq p m _ F0 F0,Aa]
theorem Awx{p:LB}{m l:Nat}{v:UInt32}(hl:l<=24)(hm:m+81<=300000)(h:At p m (cU l v.toNat)):
  qC (Ul p 0 m) (m:Int) v (l:Int)=some (Ul p 0 (m+(cU l v.toNat).length),((m+(cU l v.toNat).length:Nat):Int),0):=by
 have hvl:=v.toNat_lt;have hz:(GI.toZ (l:Int)).toNat=l:=rfl;have hlp:2^l<=2^24:=E1 F0 hl;have hpos:0<2^l:=KQ F0;have Blv:FO v (l:Int)=some (decide (48<=v.toNat/2^l)):=by
  rw[FO,Br IE,Aa,hz,Apo,VJ];rfl
 rw[qC,A8,EX (O4 p 0 m F0),Aa,A_ F2,A_ EE,Br IE,Aa,Aa,Blv,Aa];rw[cU]at h⊢;by_cases h48:48<=v.toNat/2^l
 ·rw[B2 h48]at h⊢;obtain⟨h1,h2⟩:=h.cat;rw[J?]at h2;have hval:=TB p 32 (m+48) v.toNat h2;rw[C! F0]at hval;have hu:=Ada (p:=p) (m:=m) (q:=48) (C9 _) F0 (by rw[B2 rfl,E0];exact h1);rw[B2 (by simpa using h48),kJ,kU,show(48:Int)=((48:Nat):Int)from rfl,hu,Aa];simp only;rw[A_ F2,En,Z1 (x:=UInt64.ofNat v.toNat) (p:=p) (m:=m+48) (n:=32) F0 (by rw[iB F0,hval]),show(32:Int)=((32:Nat):Int)from rfl,show m+min (48+1) 48=m+48 by omega,put_eq p (m+48) 32 F0 F0,Aa,B6,J?,Wx,I5]
 ·rw[A_ h48]at h⊢;generalize hq:v.toNat/2^l=q at*
  obtain⟨h1,h2⟩:=h.cat;rw[J?]at h2;obtain⟨h3,h4⟩:=h2.cons;have hval:=TB p l (m+q+1) (v.toNat %2^l) h4;rw[X8]at hval;have hqa:At p m (List.replicate q true++[false]):=by
   have:List.replicate q true++(false::rT (v.toNat %2^l) l)=(List.replicate q true++[false])++rT (v.toNat %2^l) l:=by simp
   rw[this]at h;exact h.left
  have hu:=Ada (p:=p) (m:=m) (q:=q) F0 F0 (by rw[A_ F0];exact hqa);have hgq:(Ag (Cy v l):Int)=(q:Int):=by rw[Bkj,VJ,hq]
  have hrest:(Ag (Fy v (Aq (Eh (1:UInt32) l) 1)):UInt64)=Tm p (m+q+1) l:=by
   apply Z1 F0;have e1:(Eh (1:UInt32) l).toNat=2^l:=by rw[uM];show 1*2^l %_=_;rw[JK];exact C! F0
   have e2:(Aq (Eh (1:UInt32) l) (1:UInt32)).toNat=2^l-1:=by
    rw[e!,vC _ _ (by rw[vE,e1];exact hpos),e1];rfl
   have e3:(Fy v (Aq (Eh (1:UInt32) l) 1)).toNat=v.toNat %2^l:=by
    rw[H?,jE,e2,aD]
   rw[En,iB (by rw[e3];have:=HW v.toNat hpos;omega),e3,hval]
  rw[A_ (by simpa using h48),kJ,kU,hz,hgq,hu,Aa];simp only;rw[A_ F2,hrest,show m+min (q+1) 48=m+q+1 by omega,put_eq p (m+q+1) l F0 F0,Aa,B6,J?,D_,Wx,show m+q+1+l=m+(q+(l+1)) by omega]
theorem Azf{k l:Nat}{s t:UInt64}(h:okD k l s t)(v:UInt32):pQ [] 0 (k:Int) (l:Int) s t v=
  some (Oa (Wa k l v),((Wa k l v).length:Int),((kS k (CJ s (c_ v)):Nat):Int),((lK l t k v:Nat):Int),CJ s (c_ v),lT t k v,0):=by
 obtain⟨h1,h2,h3,h4⟩:=h;have hvl:=v.toNat_lt;have hAt:At (Oa (Wa k l v)) 0 (Wa k l v):=λi hi=>by rw[HM,KZ]
 have hlen:=lL v h1 h2;have hfull:Ul (Oa (Wa k l v)) 0 (Wa k l v).length=Oa (Wa k l v):=by
  apply Aib (by rw[Lj,AD]);intro i hi;rw[N0,HM,KZ];by_cases hlt:i<(Wa k l v).length
  ·rw[B2 hlt]
  ·rw[A_ hlt,eT F0]
 generalize hP:Oa (Wa k l v)=P at*
 have h0:Ul P 0 0=[]:=rfl;have Bka:∀(x:Int) (y:UInt64) (aj ai:Int),HI v (k:Int) s ai P x y=some (P,ai,((kS k (CJ s (c_ v)):Nat):Int),x,CJ s (c_ v),y,0):=by
  intro x y aj ai;rw[HI,jR,En,lJ,gP k h1];rw[Aat,kD,fK,QQ,En,lJ];rfl
 have hp7:∀ai:Int,kH v (k:Int) (l:Int) s t 0 ai P=some (P,ai,((kS k (CJ s (c_ v)):Nat):Int),((lK l t k v:Nat):Int),CJ s (c_ v),lT t k v,0):=by
  intro ai;rw[kH,jP,A_ F2,z! k l s t h1,Aa];by_cases hv:v.toNat<2^k
  ·rw[B2 hv];simp only;rw[A_ Qz,Bka _ _ 0,lK,B2 hv,lT,B2 hv]
  ·rw[A_ hv];simp only;rw[B2 OB,En,lJ,gP l h2 _ (λx=>HI v (k:Int) s ai P x (CJ t (UInt64.ofNat (sM k v).toNat))),Bka _ _ 0,lK,A_ hv,lT,A_ hv];rfl
 rw[pQ,kW,show Mc [] 0=some 0 from rfl,Aa,A_ F2,Avn ⟨h1,h2,h3,h4⟩,Aa,A_ F2,Aa0,kO,z! k l s t h1,Aa];have hput:=put_eq P 0 1 F0 F0;rw[h0,HM,show((0:Nat):Int)=0 from rfl,show((1:Nat):Int)=1 from rfl]at hput;by_cases hv:v.toNat<2^k
 ·have hc:Wa k l v=false::rT v.toNat k:=by rw[Wa,B2 hv]
  rw[hc]at hAt hfull;obtain⟨b0,b1⟩:=hAt.cons;have hval:=TB P k 1 v.toNat b1;rw[C! hv]at hval;have hz:(Ag (0:Int):UInt64)=Tm P 0 1:=Z1 F0 (by rw[Q4,b0];rfl);rw[B2 hv];simp only;rw[hz,hput,Aa];simp only;rw[B2 F2,En,Z1 (x:=UInt64.ofNat v.toNat) (p:=P) (m:=1) (n:=k) F0 (by rw[iB F0,hval]),show(1:Int)=((1:Nat):Int)from rfl,put_eq P 1 k F0 F0,Aa];simp only;rw[D_,Wx,M_ k 1]at hfull;rw[hfull,hp7,hc,D_,Wx,M_ k 1]
 ·have hc:Wa k l v=true::cU l (v.toNat-2^k):=by rw[Wa,A_ hv]
  rw[hc]at hAt hfull;obtain⟨b0,b1⟩:=hAt.cons;have hsub:=Nat.sub_le v.toNat (2^k);have hlv:(sM k v).toNat=v.toNat-2^k:=by rw[sM,gY F0]
  have hz:(Ag (1:Int):UInt64)=Tm P 0 1:=Z1 F0 (by rw[Q4,b0];rfl);have hr:=Awx (p:=P) (m:=1) (l:=l) (v:=sM k v) h2 F0 (by rw[hlv];exact b1);rw[hlv,show((1:Nat):Int)=1 from rfl]at hr;rw[A_ hv];simp only;rw[hz,hput,Aa];simp only;rw[A_ F2,B2 F2,hr,Aa];simp only;rw[D_,M_ _ 1]at hfull;rw[hfull,hp7,hc,D_,M_ _ 1]
section
variable (ch:Nat) (x:LX)
theorem gU{at' i:Nat}(ha:at' %ch=0)(hi:i<ch)(h:at'+i<x.length):(mx ch x).getD (at'+i) 0=mxV (λi=>x.getD (at'+i) 0) ch i:=by
 have hb:(at'+i) %ch=i:=by rw[Nat.add_mod,ha,HM,X8,C! hi]
 rw[Awn h,hb,show at'+i-i=at' by omega]
theorem Ak3(bk:Int->LX->Option (LX×Int))(at':Nat)(h1:1<=ch)(h6:ch<=6)(hm:at' %ch=0)(hl:at'+ch<=x.length)(hl2:x.length<=4000):∀(j i q:Nat),i+j=ch-1->j<q->
  MA bk (ch:Int) (at':Int) q (i:Int) (pR (λk=>decide (k<at'+i)) (mx ch x) x)=bk ((at'+ch:Nat):Int) (pR (λk=>decide (k<at'+ch)) (mx ch x) x)
 |j,i,0,_,h=>absurd h (HU _)
 |0,i,q+1,hi,_=>by
  have hlen:=cN ch x;have e1:Aq (Ae (at':Int) (ch:Int)-(at':Int)) 1=((ch-1:Nat):Int):=by rw[Ah,Cb];omega
  have e2:Ae (at':Int) (ch:Int)-(at':Int)=(ch:Int):=by rw[Ah];omega
  have e4:Ae (at':Int) (ch:Int)=((at'+ch:Nat):Int):=by rw[Ah];omega
  rw[MA,gC,e1,A_ C1,uS,Abb,e1,e2];obtain rfl:i=ch-1:=F0
  by_cases h2:1<ch
  ·have e3:Aq ((ch-1:Nat):Int) 1=((ch-2:Nat):Int):=by rw[Cb];omega
   have hv:Aq (x.getD (at'+(ch-1)) 0) (Ca ((mx ch x).getD (at'+(ch-2)) 0) 2)=(mx ch x).getD (at'+(ch-1)) 0:=by
    rw[gU ch x hm F0 F0,gU ch x hm F0 F0,mxV,mxV,B2 F0,A_ F0,B2 h2,dJ,show ch-2+1=ch-1 by omega]
   rw[B2 E7,B9 F0,Aa,e3,B9 F0,Aa,
    show(at':Int)+((ch-1:Nat):Int)=((at'+(ch-1):Nat):Int) by omega,show(at':Int)+((ch-2:Nat):Int)=((at'+(ch-2):Nat):Int) by omega,
    IY F0,Aa,IY F0,Aa,Aa,A_ B3,B2 B5,hv,qZ F0,Aa,xD,vA,e4]
   congr 1;apply AG;intro k _;rw[D0];simp;omega
  ·obtain rfl:ch=1:=F0
   have hlast:x.getD at' 0=(mx 1 x).getD at' 0:=by
    have:=gU 1 x (i:=0) hm F0 F0;rw[K4]at this;rw[this,mxV,A_ F0,A_ F0];rfl
   rw[A_ O7,xD,vA,e4];congr 1;apply KN (by rw[UW,UW]);intro k g1 g2;rw[Yk,Yk];by_cases hk:k<at'
   ·rw[B2 B5,B2 B5]
   ·by_cases hk2:k=at'
    ·subst hk2;rw[A_ B3,B2 B3];exact hlast
    ·rw[A_ B5,A_ B5]
 |j+1,i,q+1,hi,hq=>by
  have hlen:=cN ch x;have e1:Aq (Ae (at':Int) (ch:Int)-(at':Int)) 1=((ch-1:Nat):Int):=by rw[Ah,Cb];omega
  have e2:Ae (at':Int) (ch:Int)-(at':Int)=(ch:Int):=by rw[Ah];omega
  have e3:Ae (i:Int) 1=((i+1:Nat):Int):=by rw[Ah];omega
  have hv:Aq (x.getD (at'+(i+1)) 0) (x.getD (at'+i) 0)=(mx ch x).getD (at'+i) 0:=by
   rw[gU ch x hm F0 F0,mxV,B2 F0,dJ]
  rw[MA,gC,e1,B2 C1,e2,e3,B9 F0,Aa,B9 F0,Aa,
   show(at':Int)+((i+1:Nat):Int)=((at'+(i+1):Nat):Int) by omega,show(at':Int)+(i:Int)=((at'+i:Nat):Int) by omega,
   IY F0,Aa,IY F0,Aa,Aa,A_ B3,A_ B3,hv,qZ F0,Aa]
  have ih:=Ak3 bk at' h1 h6 hm hl hl2 j (i+1) q F0 F0;rw[<-ih];congr 1;apply AG;intro k _;rw[D0];simp;omega
theorem Bj9(h1:1<=ch)(h6:ch<=6)(hm:x.length %ch=0)(hl2:x.length<=4000):∀(j at' q:Nat),at' %ch=0->at'<=x.length->x.length-at'<=j->j<q->
  MI (ch:Int) q (at':Int) (pR (λk=>decide (k<at')) (mx ch x) x)=some (mx ch x,0)
 |j,at',0,_,_,_,h=>absurd h (HU _)
 |j,at',q+1,ha,hle,hj,hq=>by
  have hlen:=cN ch x;have hl:Ac (pR (λk=>decide (k<at')) (mx ch x) x)=(x.length:Int):=by rw[Ac,UW,hlen]
  rw[MI,uX,hl];by_cases h:at'<x.length
  ·have hb:=S2 ha hm h;obtain⟨j,rfl⟩:∃k,j=k+1:=⟨j-1,F0⟩;have e4:Ae (at':Int) (ch:Int)=((at'+ch:Nat):Int):=by rw[Ah];omega
   have hi:=Ak3 ch x (MI (ch:Int) q) at' h1 h6 ha hb hl2 (ch-1) 0 Ax F0 B_;have hrest:=Bj9 h1 h6 hm hl2 j (at'+ch) q (by rw[WO,ha]) hb F0 F0;rw[K4]at hi;rw[B2 C1,show dZ (x.length:Int) (at':Int) (Ae (at':Int) (ch:Int))=some () by rw[e4,dZ,B9];omega,Aa];exact F? hi hrest
  ·rw[A_ C1,zC (λk hk=>by simp;omega)];rfl
theorem Aun(h1:1<=ch)(h6:ch<=6)(hm:x.length %ch=0)(hl2:x.length<=4000):q_ (ch:Int) x=some (mx ch x,0):=by
 have hlen:=cN ch x;have h:=Bj9 ch x h1 h6 hm hl2 x.length 0 Ax B3 F0 F0 B_;rw[q_,I1,Aix ch x h1 h6 hm hl2,Aa,A_ C0,Dy,Bg B5,Aa,Aa,D8,Bju];rw[uV hlen.symm (λk _=>by simp)]at h;exact h
end
theorem Axl(a:Int32):yN a=some (xJ a):=by
 have h:=GR a;have hc:(Ag a:UInt32)=UInt32.ofNat (a.toInt %4294967296).toNat:=rfl;have hs:(Cy a (GI.toZ (31:UInt64)).toNat)=if 0<=a.toInt then(0:Int32)else -1:=by
  have e:Cy a 31=Int32.ofInt (a.toInt.fdiv (2^31)):=rfl;rw[show(GI.toZ (31:UInt64)).toNat=31 from rfl,e];by_cases h0:0<=a.toInt
  ·rw[B2 h0,show a.toInt.fdiv (2^31)=0 by rw[LM _ F2];omega];rfl
  ·rw[A_ h0,show a.toInt.fdiv (2^31)= -1 by rw[LM _ F2];omega];rfl
 rw[yN,hs,hc,xJ];congr 1;have hsh:(Eh (UInt32.ofNat (a.toInt %4294967296).toNat) (GI.toZ (1:UInt64)).toNat).toNat=2*(a.toInt %4294967296).toNat %4294967296:=by
  rw[show(GI.toZ (1:UInt64)).toNat=1 from rfl,uM,H!,C! (show(a.toInt %4294967296).toNat<2^32 by omega)];omega
 by_cases h0:0<=a.toInt
 ·rw[B2 h0,B2 h0,show(Ag (0:Int32):UInt32)=0 from rfl];apply UInt32.toNat_inj.1;rw[show∀z:UInt32,DY z (0:UInt32)=z^^^0 from λz=>by rw[lQ],WS,hsh,H!,C! (show 2*a.toInt.toNat<2^32 by omega)]
  show _^^^0=_;rw[Nat.xor_zero];omega
 ·rw[A_ h0,A_ h0,show(Ag (-1:Int32):UInt32)=4294967295 from rfl];apply UInt32.toNat_inj.1;rw[show∀z:UInt32,DY z (4294967295:UInt32)=z^^^4294967295 from λz=>by rw[lQ],WS,hsh,H!,C! (show 2*(-a.toInt-1).toNat+1<2^32 by omega)]
  show _^^^4294967295=_;have key:∀n:Nat,n<4294967296->n^^^4294967295=4294967295-n:=by
   intro n hn;have:=lH (x:=BitVec.ofNat 32 n);rw[<-BitVec.xor_allOnes,jD,BitVec.toNat_ofNat,C! F0]at this;simpa using this
  rw[key _ F0];omega
theorem Awk{bits:Int}(h:Bn bits){t p:LX}(hF:OkF (sB bits) t p)(last x:Int32):
  AB bits last (sB bits) t p x=some (H_ bits (last,t,p) x,bits,x,sB bits,E! t p (H_ bits (last,t,p) x),(x-gs (shB bits) last)::p.take 15,0):=by
 rw[AB,yh h,Aa,A_ C0,Axg h,Aa];simp only;rw[dJ,jL,Aj6 hF,Aa];simp only;rw[A_ C0,dJ,cE,Ajv hF,Aa];simp only;rw[Ao5 (s:=sB bits) (t:=E! t p _) (p:=p) ⟨hF.1,PY _ _ _,hF.2.2⟩,Aa,Aa];rfl
theorem l!(bits:Int)(ch:Nat)(t x:LX):(Oh bits ch t x).length=x.length:=zG _ _ _ _ _
theorem Awy{bits:Int}{ch:Nat}{t x:LX}{i:Nat}(h:i<x.length):(Oh bits ch t x).getD i 0=xJ (H_ bits (cst bits ch t (Oh bits ch t x) (i %ch) i) ((mx ch x).getD i 0)):=by
 obtain⟨w,hw⟩:=qg bits ch t (mx ch x) (x.length-(i+1)) (i+1);rw[show i+1+(x.length-(i+1))=x.length by omega,evl,C6]at hw;have hli:=zG bits ch t (mx ch x) i;have hw':Oh bits ch t x=_:=hw;have hg:(Oh bits ch t x).getD i 0=xJ (H_ bits (cst bits ch t (evl bits ch t (mx ch x) i) (i %ch) i) ((mx ch x).getD i 0)):=by
  rw[hw',List.getD_eq_getElem?_getD,List.getElem?_append_right F0,hli,mG];rfl
 have hc:cst bits ch t (Oh bits ch t x) (i %ch) i=cst bits ch t (evl bits ch t (mx ch x) i) (i %ch) i:=by rw[hw',Aql _ _ _ _ _ _ _ F0]
 rw[hg,hc]
section
variable {bits:Int} {ch:Nat} {t x:LX} (hb:Bn bits) (ht:t.length=16) (h1:1<=ch) (h6:ch<=6) (hx1:1<=x.length) (hx4:x.length<=4000) (hm:x.length %ch=0)
include hb ht h1 h6 hx1 hx4 hm
omit ht in
theorem Bfo(hr:inR bits x):UN (ch:Int) bits x=some 0:=by
 rw[UN,sW hb h1 h6,Aa,A_ F2,UA hb x hx4,nJ hb hx4 hr,Aa,A_ F2,A_ (by rw[As,Ac,D4];omega),Br D2,Aa,Ac,JJ,hm,A_ F2]
omit hm in
theorem Adl:∀(j i q:Nat),i+j=x.length->j<q->
  Nr (mx ch x) (ch:Int) bits q (i:Int) (cts bits ch t (Oh bits ch t x) i) ((Oh bits ch t x).take i)=some (Oh bits ch t x,0)
 |j,i,0,_,h=>absurd h (HU _)
 |0,i,q+1,hi,_=>by
  have hl:=cN ch x;have hV:=l! bits ch t x;rw[Nr,Zl,A_ F4,H3 F0];rfl
 |j+1,i,q+1,hi,hq=>by
  have hl:=cN ch x;have hV:=l! bits ch t x;have hc:i %ch<6:=G4 (HW _ F0) h6;have hok:=eC bits ch ht (Oh bits ch t x) (i %ch) i;have hs:=Aqo (bits:=bits) (ch:=ch) (t:=t) (v:=Oh bits ch t x) (i:=i) hc rfl;have hg:=Awy (bits:=bits) (ch:=ch) (t:=t) (x:=x) (i:=i) F0;have ih:=Adl j (i+1) q F0 F0;have htk:(Oh bits ch t x).take i++[(Oh bits ch t x).getD i 0]=(Oh bits ch t x).take (i+1):=by
   have:(Oh bits ch t x).getD i 0=(Oh bits ch t x)[i]' F0:=by rw[List.getD_eq_getElem?_getD,List.getElem?_eq_getElem F0];rfl
   rw[this,Iq F0]
  have hfw:=Awk hb hok (cst bits ch t (Oh bits ch t x) (i %ch) i).1 ((mx ch x).getD i 0);rw[Nr,Zl,B2 F4,g32 F0,Aa,Aa,Br D2,Aa,JJ,Ara hc,Aa,Aa];refine F? (congrArg (λo=>Option.bind o _) hfw) ?_;rw[Aa];simp only;rw[A_ F2];have hst:((bits,(mx ch x).getD i 0,(sB bits,E! (cst bits ch t (Oh bits ch t x) (i %ch) i).2.1 (cst bits ch t (Oh bits ch t x) (i %ch) i).2.2 (H_ bits (cst bits ch t (Oh bits ch t x) (i %ch) i) ((mx ch x).getD i 0)),((mx ch x).getD i 0-gs (shB bits) (cst bits ch t (Oh bits ch t x) (i %ch) i).1)::(cst bits ch t (Oh bits ch t x) (i %ch) i).2.2.take 15,()),()):CL)=toC bits (T9 bits (cst bits ch t (Oh bits ch t x) (i %ch) i) (bY ((Oh bits ch t x).getD i 0))):=by
   rw[hg,Axm,toC,T9,Adf];simp only;rw[H_,iM]
  refine F? (congrArg (λo=>Option.bind o _) ((congrArg (λz=>Pc (cts bits ch t (Oh bits ch t x) i) ((i %ch:Nat):Int) z) hst).trans hs)) ?_;rw[Aa,Axl,Aa];have hg2:xJ (H_ bits ((cst bits ch t (Oh bits ch t x) (i %ch) i).1,(cst bits ch t (Oh bits ch t x) (i %ch) i).2.1,(cst bits ch t (Oh bits ch t x) (i %ch) i).2.2) ((mx ch x).getD i 0))=(Oh bits ch t x).getD i 0:=hg.symm;rw[hg2,Bg (by rw[C8];simp;omega),Aa,htk,Ah];exact ih
theorem An5(hr:inR bits x):NU (ch:Int) bits t x=some (Oh bits ch t x,0):=by
 have hl:=cN ch x;have h:=Adl hb ht h1 h6 hx1 hx4 x.length 0 Ax F0 B_;have e:Ax=(Ax-7)+1+1+1+1+1+1+1:=by have:=Ar;omega
 have hs:QT (ch:Int) bits t (mx ch x) 0 (List.replicate 6 ((0:Int),(0:Int32),((0:Int),(List.replicate 16 (0:Int32)),(List.replicate 16 (0:Int32)),()),()))=Avv (ch:Int) bits (mx ch x) (cts bits ch t (Oh bits ch t x) 0):=by
  rw[QT,e];obtain rfl|rfl|rfl:=hb<;>rfl
 rw[NU,NV,Bfo hb h1 h6 hx1 hx4 hm hr,Aa,A_ F2,Aun ch x h1 h6 hm hx4,Aa];simp only;rw[A_ F2];refine F? hs ?_;exact h
end
theorem Anz(ch:Nat):PA=some (sts ch []):=by
 have e:Ax=(Ax-7)+1+1+1+1+1+1+1:=by have:=Ar;omega
 rw[PA,NO,Az4,e];rfl
theorem Ajf(c:List Bool){n:Nat}(h:n<=c.length):Ul (Oa c) 0 n=Oa (c.take n):=by
 have hl:(c.take n).length=n:=by rw[C8];omega
 apply Aib (by rw[Lj,AD,hl]);intro i hi;rw[N0,HM,KZ,KZ];by_cases hlt:i<n
 ·rw[B2 hlt,tb,tb,List.getD_eq_getElem?_getD,List.getD_eq_getElem?_getD,List.getElem?_take,B2 hlt]
 ·rw[A_ hlt,eT F0]
theorem Bg1(a:UInt8){k:Nat}(hk:k<8):Fy (Cy a k) (1:UInt8)=UInt8.ofNat (a.toNat/2^k %2):=by
 apply UInt8.toNat_inj.1;rw[Ao8,w?,qc,HT]
 show _&&&1=_;rw[kR];generalize a.toNat/2^k=X;omega
theorem Al9(E code:List Bool)(hE:E.length+code.length<=330000)(bk:Int->List (Int×Int×UInt64×UInt64×Unit)->Int->LB->Ci)(V:LU)(b f g:Int)(k:List (Int×Int×UInt64×UInt64×Unit)):∀(j o q:Nat),o+j=code.length->j<q->
  Ih bk V b f (code.length:Int) g k (Oa code) q (o:Int) ((E.length+o:Nat):Int) (Ul (Oa (E++code)) 0 (E.length+o))=bk (Ae g 1) k ((E.length+code.length:Nat):Int) (Oa (E++code))
 |j,o,0,_,h=>absurd h (HU _)
 |0,o,q+1,ho,_=>by
  obtain rfl:o=code.length:=F0
  rw[Ih,Zn,A_ J9,KF,Asg,Ajf _ KO,H3 KO]
 |j+1,o,q+1,ho,hq=>by
  generalize hP:Oa (E++code)=P;have hPo:Im P (E.length+o)=Im (Oa code) o:=by rw[<-hP,KZ,KZ,pH]
  have ih:=Al9 E code hE bk V b f g k j (o+1) q F0 F0;rw[hP,<-I5]at ih;generalize hn:E.length+o=n at*
  have hq8:Ca (n:Int) 8=((n/8:Nat):Int):=by rw[show(8:Int)=((8:Nat):Int)from rfl,Tv]
  have hr8:Ge (n:Int) 8=((n %8:Nat):Int):=by rw[show(8:Int)=((8:Nat):Int)from rfl,JJ]
  have hqo:Ca (o:Int) 8=((o/8:Nat):Int):=by rw[show(8:Int)=((8:Nat):Int)from rfl,Tv]
  have hro:Ge (o:Int) 8=((o %8:Nat):Int):=by rw[show(8:Int)=((8:Nat):Int)from rfl,JJ]
  have hroom:Ih bk V b f (code.length:Int) g k (Oa code) (q+1) (o:Int) (n:Int) (Ul P 0 n)=Yx (Ih bk V b f (code.length:Int) g k (Oa code) q) (code.length:Int) V g b f k (Oa code) (o:Int) (n:Int) (room P 0 n):=by
   rw[Ih,Zn,B2 C1,hr8,room];by_cases h0:n %8=0
   ·rw[B2 (by rw[As,h0];rfl),Bg n?,Aa,B2 h0]
   ·rw[A_ E6,A_ h0]
  have hcl:=AD code;have hgm:Ao (Oa code) ((o/8:Nat):Int)=some ((Oa code).getD (o/8) 0):=by
   rw[Bq,List.getD_eq_getElem?_getD,List.getElem?_eq_getElem F0];rfl
  have hg:Ao (room P 0 n) ((n/8:Nat):Int)=some (UInt8.ofNat (Cp P (0+8*(n/8)) (n %8))):=by
   rw[Bq XA,yU]
  have hbit:Fy (Cy ((Oa code).getD (o/8) 0) (o %8)) (1:UInt8)=UInt8.ofNat (Im P n):=by
   rw[Bg1 _ F0,hPo,Im]
  have hlt:=Y0 P (0+8*(n/8)) (n %8+1) F0;have hsn:=yM P (0+8*(n/8)) (n %8);rw[show 0+8*(n/8)+n %8=n by omega]at hsn;have hnew:I7 (UInt8.ofNat (Cp P (0+8*(n/8)) (n %8))) (Eh (UInt8.ofNat (Im P n)) (n %8))=UInt8.ofNat (Cp P (0+8*(n/8)) (n %8+1)):=by
   rw[or8 (Tg _ _ _) bQ F0,hsn,D9 (2^(n %8))]
  rw[hroom,Yx,As1,hqo,hro,hq8,hr8,hgm,Aa,Aa,Br ID,Aa,hg,Aa,Br ID,Aa,Aa,Aa,
   show(GI.toZ ((o %8:Nat):Int)).toNat=o %8 from rfl,show(GI.toZ ((n %8:Nat):Int)).toNat=n %8 from rfl,hbit,hnew,Yb _ XA,Aa,U4 P 0 n 1 F0 F0,At9,Au9,Ah,Ah]
  exact ih
theorem Bkx(l m:LB)(h:l.length+m.length<=1000000):Gd [l,m]=some (l++m):=by
 have hF:Ax=(Ax-3)+1+1+1:=by have:=Ar;omega
 rw[Gd,Sp,Aai];have g0:Ao [l,m] (0:Int)=some l:=rfl;have g1:Ao [l,m] (1:Int)=some m:=rfl;have l2:Ac [l,m]=2:=rfl;have h3:Hq [l,m] []=some (l++m):=by
  rw[Hq,Kz,Ky,hF,Dc,Ek,l2,B2 F2,g0,Aa,Bg B5,Aa,D8,show Ae (0:Int) 1=1 by decide,
   Dc,Ek,l2,B2 F2,g1,Aa,Bg,Aa,show Ae (1:Int) 1=2 by decide,Dc,Ek,l2,A_ F2]
  rfl
 rw[hF,Dj,Er,l2,B2 F2,g0,Aa,Ah LK LK,A_ RP,show Ae (0:Int) 1=1 by decide,
  Dj,Er,l2,B2 F2,g1,Aa,Ah LK LK,A_ PK,show Ae (1:Int) 1=2 by decide,
  Dj,Er,l2,A_ F2,Ht,La,A_ PK,Qu,Lb]
 have z:Aq (0:Int) 0=0:=F2
 have n0:(0:Int)+Ac l+Ac m=((l.length+m.length:Nat):Int):=by simp[Ac]
 rw[z,n0,Cb,Int.sub_zero];by_cases hp:0<l.length+m.length
 ·rw[B2 E7,show dZ (0:Int) 0 0=some ()from rfl,Aa,xI,Aa,Bg B5,Aa];rw[show dZ (Ac ([]++List.replicate ((l.length+m.length:Nat):Int).toNat (0:UInt8))) 0 0=some () by rw[dZ,Br];simp[Ac];omega,Aa];simp only[QY,mP,WM,J'];exact h3
 ·rw[A_ E7];exact h3
theorem Alw(bits:Int)(ch:Nat)(h1:1<=ch)(h6:ch<=6)(V:LU)(hV:V.length<=4000):∀(j i q:Nat),i+j=V.length->j<q->
  Kh V (ch:Int) bits q (i:Int) (sts ch (V.take i)) ((Vp ch V i).length:Int) (Oa (Vp ch V i))=some (Oa (Vp ch V V.length)++Uc (Ff (Oa (Vp ch V V.length))).toNat 4,0)
 |j,i,0,_,h=>absurd h (HU _)
 |0,i,q+1,hi,_=>by
  obtain rfl:i=V.length:=F0
  have hel:=lR ch V V.length;have hpl:=AD (Vp ch V V.length);have hlt:=(Ff (Oa (Vp ch V V.length))).toNat_lt;rw[Kh,Zf,A_ RP,JR,Atx,lu _ F0,Aa];simp only;have e64:(UInt64.ofNat (Ff (Oa (Vp ch V V.length))).toNat).toNat=(Ff (Oa (Vp ch V V.length))).toNat:=iB F0;rw[A_ F2,En,show(4:Int)=((4:Nat):Int)from rfl,eU _ 4 F0 F0 (by rw[e64];omega),Aa];simp only;rw[A_ F2,e64,Bkx _ _ bR,Aa]
 |j+1,i,q+1,hi,hq=>by
  have hc:i %ch<6:=G4 (HW _ F0) h6;have hvl:(V.take i).length=i:=by rw[C8];omega
  have hel:=lR ch V i;have hk:=cJ ch (V.take i);have hcl:=lL (V.getD i 0) hk.1 hk.2;have ih:=Alw bits ch h1 h6 V hV j (i+1) q F0 F0;have hvi:V.getD i 0=V[i]' F0:=by rw[List.getD_eq_getElem?_getD,List.getElem?_eq_getElem F0];rfl
  have htk:V.take i++[V.getD i 0]=V.take (i+1):=by rw[hvi,Iq F0]
  have hst:=oV (ch:=ch) (v:=V.take i) hc;have hset:=Ard (ch:=ch) (v:=V.take i) (V.getD i 0) hc (by rw[hvl]);have Blw:tY ch (V.take i) (i %ch) (V.take i).length=now ch (V.take i):=Bdw (by rw[hvl]);rw[Blw]at hst hset;rw[htk]at hset;have hdp:=Azf (k:=(now ch (V.take i)).1) (l:=(now ch (V.take i)).2.1) (s:=(now ch (V.take i)).2.2.1) (t:=(now ch (V.take i)).2.2.2) (wL ch (V.take i) _ _) (V.getD i 0);have hpc:=Al9 (Vp ch V i) (Wa (now ch (V.take i)).1 (now ch (V.take i)).2.1 (V.getD i 0)) F0 (Kh V (ch:Int) bits q) V (ch:Int) bits (i:Int) (sts ch (V.take (i+1))) (Wa (now ch (V.take i)).1 (now ch (V.take i)).2.1 (V.getD i 0)).length 0 Ax F0 B_;rw[show(Vp ch V i).length+0=(Vp ch V i).length from rfl,Ajf _ KO,WK,show((0:Nat):Int)=0 from rfl]at hpc;rw[Kh,Zf,B2 F4,U9 F0,Aa,Aa,Br D2,Aa,JJ,hst,Aa,Aa];refine F? (congrArg (λo=>Option.bind o _) hdp) ?_;rw[Aa];simp only;rw[A_ F2,Aa,Aa];refine F? (congrArg (λo=>Option.bind o _) hset) ?_;rw[Aa];refine F? hpc ?_;rw[Ah];rw[Vp,B6]at ih;exact ih
theorem qP{bits:Int}{ch:Nat}{t x:LX}(hb:Bn bits)(ht:t.length=16)(h1:1<=ch)(h6:ch<=6)(hx1:1<=x.length)(hx4:x.length<=4000)(hm:x.length %ch=0)(hr:inR bits x):
  Oz (ch:Int) bits t x=some (Rg bits ch t x,0):=by
 have hV:=l! bits ch t x;have h:=Alw bits ch h1 h6 (Oh bits ch t x) F0 (Oh bits ch t x).length 0 Ax F0 B_;have e0:Oa (Vp ch (Oh bits ch t x) 0)=[]:=by simp[Vp,Oa]
 have e1:((Vp ch (Oh bits ch t x) 0).length:Int)=0:=rfl;rw[e0,e1,J',hV,show((0:Nat):Int)=0 from rfl]at h;rw[Oz,NI,An5 hb ht h1 h6 hx1 hx4 hm hr,Aa];simp only;rw[A_ F2,Anz ch,Aa,Rg,aX,Ar0];exact h
theorem Be9{r:Nat}(h1:1<=r)(h:r<=1048576):Gg (r:Int)=some ((Ak r:Int),0):=by
 have hv:=nk h;have e:Bm (r:Int) 256=Bm 256 (r:Int):=by rw[Ex,Ex];omega
 rw[Gg,A_ EE,e];have hq:0<=Ca (Bm 256 (r:Int)) 245:=by
  have e2:Bm 256 (r:Int)=((256*r:Nat):Int):=by rw[Ex];omega
  rw[e2,show(245:Int)=((245:Nat):Int)from rfl,Tv];omega
 rw[qd]at hv;by_cases hz:Ca (Bm 256 (r:Int)) 245=0
 ·rw[B2 (by rw[As];simpa using hz)];rw[hz]at hv;have:(1:Int)=(Ak r:Int):=F0
  rw[this]
 ·rw[A_ (by rw[As];simpa using hz)];have:Ca (Bm 256 (r:Int)) 245=(Ak r:Int):=F0
  rw[this]
theorem cD{p:Prop}(h:p:=by rw[As,D4];omega):p:=h
theorem N3{p:Prop}(h:p:=by simp[Aj]):p:=h
structure ClipOk (c w r n:Nat) (x:LX):Prop where
 ch:1<=c/\c<=6
 bits:Bn (w:Int)
 rate:1<=r/\r<=1048576
 cnt:1<=n/\n<=4000/c
 len:x.length=n*c
 fr:(n-1)/Ak r+1<=1000
 rng:inR (w:Int) x
theorem ClipOk.le{c w r n:Nat}{x:LX}(h:ClipOk c w r n x):n<=4000/\n*c<=4000/\1<=x.length/\x.length<=4000:=by
 have h1:=C? c h.cnt.2;have h2:=MJ 4000 c;have h3:=FU 4000 c;have h4:=QU h.cnt.1 h.ch.1;have h5:=h.len;have:=h.cnt;omega
theorem ClipOk.w3{c w r n:Nat}{x:LX}(h:ClipOk c w r n x):w=8\/w=16\/w=24:=by
 have:=h.bits;unfold Bn at this;omega
theorem ClipOk.shape{c w r n:Nat}{x:LX}(h:ClipOk c w r n x)(f:Nat)(hf:f=1\/f=2):Gn f c w r n=true:=by
 have:=h.w3;have:=h.ch;have:=h.rate;have:=h.cnt;simp only[Gn,B7];omega
theorem ClipOk.fit{c w r n:Nat}{x:LX}(h:ClipOk c w r n x):CI c r n=true:=by
 have:=h.cnt;have:=h.fr;simp only[CI,B7];omega
theorem Biq{bits:Int}(h:Bn bits){l:LX}(hl:l.length<=4000):Au bits l=some 0\/Au bits l=some 16:=by
 have hh:=NK bits;have key:∀(j i q:Nat),i+j=l.length->j<q->Be l (hB bits) q (i:Int)=some 0\/Be l (hB bits) q (i:Int)=some 16:=by
  intro j
  induction j with
  |zero=>
   intro i q hi hq;obtain⟨q,rfl⟩:∃q',q=q'+1:=⟨q-1,F0⟩;rw[Be,Df,A_ F4];exact .inl rfl
  |succ j ih=>
   intro i q hi hq;obtain⟨q,rfl⟩:∃q',q=q'+1:=⟨q-1,F0⟩;have ih:=ih (i+1) q F0 F0;have hi1:Ae (i:Int) 1=((i+1:Nat):Int):=by rw[Ah];omega
   rw[Be,Df,B2 F4,Bq,Aa,Aa,hi1];split
   ·exact .inr rfl
   ·split
    ·exact .inr rfl
    ·exact ih
 have hk:=key l.length 0 Ax F0 B_;rw[Au,Ed,ZU h,Aa,A_ E6,A_ C3];exact hk
theorem Q3{bits:Int}(h:¬Bn bits):Hs bits=some 0/\Pb bits=some (0,0,2):=by
 unfold Bn at h;constructor
 ·rw[Hs,A_ cD,A_ cD,A_ cD]
 ·have e:(geq bits 24)=false:=by rw[As,vS];omega
  rw[Pb,dS,A_ cD,A_ cD,e,fI,cQ,A_ F2]
theorem eu{r:Nat}(h:r<=1048576):∀(j n q:Nat) (acc:LI),n<=4000->n<=j->j<q->acc.length+n<=10000->
  Mk (Ak r:Int) q (n:Int) acc=some (if 1000<(acc++(if n=0 then []else Al (Ak r) n)).length then([],4)else(acc++(if n=0 then []else Al (Ak r) n),0))
 |j,n,0,acc,_,_,h,_=>absurd h (HU _)
 |j,n,q+1,acc,hn,hj,hq,ha=>by
  have hp:=Du r;by_cases h0:n=0
  ·subst h0;rw[B2 rfl,E0,Mk,Wo,A_ O7,GK,Apx,Ap,Ac];by_cases hk:1000<acc.length
   ·rw[B2 hk,B2 B5]
   ·rw[A_ hk,A_ B5]
  ·obtain⟨j,rfl⟩:∃j',j=j'+1:=⟨j-1,F0⟩;rw[Mk,Wo,B2 E7,Bg B5,Aa,CO];by_cases hs:n<=Ak r
   ·rw[show min (n:Int) (Ak r:Int)=(n:Int) by omega,Cb,mP];have ih:=eu h j 0 q (acc++[(n:Int)]) F0 F0 F0 B5;rw[B2 rfl,E0]at ih;rw[A_ h0,Aaw hs F0];exact ih
   ·rw[show min (n:Int) (Ak r:Int)=(Ak r:Int) by omega,Cb,show(n:Int)-(Ak r:Int)=((n-Ak r:Nat):Int) by omega];have e:acc++Al (Ak r) n=(acc++[(Ak r:Int)])++Al (Ak r) (n-Ak r):=by rw[Abh hp (show Ak r<n by omega)];simp
    have ih:=eu h j (n-Ak r) q (acc++[(Ak r:Int)]) F0 F0 F0 B5;rw[A_ (show ¬n-Ak r=0 by omega),<-e]at ih;rw[A_ h0];exact ih
theorem Ant(C W R:Int)(x:LX)(hlen:x.length<4611686018427387904):(Ee C W R x=some 8/\Ga C W R x=some 8)\/
  (∃c w r n:Nat,C=(c:Int)/\W=(w:Int)/\R=(r:Int)/\ClipOk c w r n x/\Ee C W R x=some 0/\Ga C W R x=some 0):=by
 have RV:∀e:Int,e≠0->Dk C W x=some e->Ee C W R x=some 8:=by
  intro e he h;rw[Ee,Kf,Aa];simp only;rw[h,Aa,B2 (by rw[Aj];simpa using he)]
 by_cases hC:C<1
 ·refine .inl ⟨RV 2 F2 ?_,?_⟩
  ·rw[Dk,Cv,B2 EE,Aa,B2 F2]
  ·rw[Ga,B2 (by rw[Ad];simpa using hC)]
 obtain⟨c,rfl⟩:=FT (show 0<=C by omega);have hc1:1<=c:=F0
 have hq:Ca (Ac x) (c:Int)=((x.length/c:Nat):Int):=by rw[Ac,Tv]
 have hr0:Ge (Ac x) (c:Int)=((x.length %c:Nat):Int):=by rw[Ac,JJ]
 have ZR:(∀m:Nat,x.length=m*c->SV (c:Int) W R x (m:Int)=some 8)->Ga (c:Int) W R x=some 8:=by
  intro h;rw[Ga,A_ (by rw[Ad];simpa using hC),Br D2,Aa,hr0];by_cases hm:x.length %c=0
  ·have hx:x.length=x.length/c*c:=by have:=MK x.length c;rw[hm,D9]at this;omega
   rw[hm,A_ F2,Aa,hq,h _ hx,Aa,B2 F2]
  ·rw[B2 D2]
 by_cases h6:6<c
 ·refine .inl ⟨RV 2 F2 ?_,ZR λm hm=>?_⟩
  ·rw[Dk,Cv,B2 EE,Aa,B2 F2]
  ·rw[SV,TA,Aa];simp only;have:Fl (c:Int) W=some 2:=by
    rw[Fl];by_cases hb:Bn W
    ·rw[ji hb,Aa];simp only;rw[B2 X?]
    ·rw[(Q3 hb).2,Aa];simp only;rw[B2 N3]
   rw[this,Aa,B2 N3]
 by_cases hb:Bn W
 rotate_left
 ·refine .inl ⟨RV 2 F2 ?_,ZR λm hm=>?_⟩
  ·rw[Dk,Cv,A_ EE,(Q3 hb).1,Aa,B2 F2,Aa,B2 F2]
  ·rw[SV,TA,Aa];simp only;have:Fl (c:Int) W=some 2:=by
    rw[Fl,(Q3 hb).2,Aa];simp only;rw[B2 N3]
   rw[this,Aa,B2 N3]
 have hhB:=NK W;have e20:Cv (c:Int) W=some 0:=by
  rw[Cv,A_ EE,ZU hb,Aa,A_ E6]
 have hq4:=X_ hc1 (show c<=6 by omega);have ecf:=sW hb hc1 (show c<=6 by omega);have gN:∀m:Nat,SV (c:Int) W R x (m:Int)=if m<1\/4000/c<m then some 8 else Option.bind (Lh R (m:Int)) λy=>if(Bd y.2 0)=true then some 8 else some 0:=by
  intro m;rw[SV,TA,Aa];simp only;rw[ecf,Aa];by_cases hm:m<1
  ·rw[B2 XC,B2 (.inl hm)]
  ·rw[A_ XC,Br D2,Aa,hq4];by_cases hm2:4000/c<m
   ·rw[B2 (by rw[Ap,B7,gt_iff_lt,Int.ofNat_lt];exact hm2),B2 (.inr hm2)]
   ·rw[A_ (by rw[Ap,B7,gt_iff_lt,Int.ofNat_lt];exact hm2),A_ F0]
 by_cases hx4:4000<x.length
 ·refine .inl ⟨RV 4 F2 ?_,ZR λm hm=>?_⟩
  ·have:Au W x=some 4:=by
    rw[Au,Ed,ZU hb,Aa,A_ E6,B2 C3]
   rw[Dk,e20,Aa,A_ F2,this,Aa,B2 F2,Aa]
  ·rw[gN,B2];refine .inr ?_;rw[aG F0];omega
 have hx4:x.length<=4000:=F0
 have hsame:=UA hb x hx4;rcases Biq hb hx4 with h18|h18
 rotate_left
 ·refine .inl ⟨RV 16 F2 ?_,?_⟩
  ·rw[Dk,e20,Aa,A_ F2,h18,Aa,B2 F2,Aa]
  ·rw[Ga,A_ (by rw[Ad];simpa using hC),Br D2,Aa,hr0];by_cases hm:x.length %c=0
   ·rw[hm,A_ F2,Aa,hq,gN];split
    ·rw[Aa,B2 F2]
    ·rename_i hh;by_cases hR:1<=R/\R<=1048576
     ·obtain⟨r,rfl⟩:=FT (show 0<=R by omega);have hd:=FU x.length c;rw[pT F0 F0 F0 F0,Aa];split
      ·rw[B2 F2,Aa,B2 F2]
      ·rw[A_ N3,Aa,A_ F2,hsame,h18,Aa,B2 F2]
     ·rw[Lh,Li,B2 EE,Aa];simp only;rw[B2 F2,Aa];simp only;rw[B2 F2,Aa,B2 F2]
   ·rw[B2 D2]
 by_cases hx1:x.length<1
 ·refine .inl ⟨RV 2 F2 ?_,ZR λm hm=>?_⟩
  ·rw[Dk,e20,Aa,A_ F2,h18,Aa,A_ F2,B2 F4]
  ·have h0:m*c=0:=F0
   have:m=0:=by rcases Nat.mul_eq_zero.1 h0 with h|h<;>omega
   rw[gN,B2 (.inl F0)]
 have hA:x.length %c=0->Dk (c:Int) W x=some 0:=by
  intro hm;rw[Dk,e20,Aa,A_ F2,h18,Aa,A_ F2,A_ F4,Br D2,Aa,hr0,hm,A_ F2]
 by_cases hm:x.length %c=0
 rotate_left
 ·refine .inl ⟨RV 2 F2 ?_,?_⟩
  ·rw[Dk,e20,Aa,A_ F2,h18,Aa,A_ F2,A_ F4,Br D2,Aa,hr0,B2 E7]
  ·rw[Ga,A_ (by rw[Ad];simpa using hC),Br D2,Aa,hr0,B2 D2]
 have hxn:x.length=x.length/c*c:=by have:=MK x.length c;rw[hm,D9]at this;omega
 generalize hN:x.length/c=n at*
 have hn1:1<=n:=by
  by_cases h0:n=0
  ·rw[h0]at hxn;omega
  ·omega
 have hn4:n<=4000/c:=by rw[<-hN];exact WA hx4
 have hn4':n<=4000:=PD hn4 (FU _ _);have e21:Eu (c:Int) W (n:Int)=some 0:=by
  rw[Eu,e20,Aa,A_ XC,Br D2,Aa,hq4,A_ (by rw[Ap,B7,gt_iff_lt,Int.ofNat_lt];omega)]
 have Bad:∀z e:Int,Nk R (n:Int)=some (z,e)->Ee (c:Int) W R x=some (if e=0 then 0 else 8):=by
  intro z e hz;rw[Ee,Kf,Aa];simp only;rw[hA hm,Aa,A_ F2,Br D2,Aa,hq,QV,Kf,Aa];simp only;rw[e21,Aa,A_ F2,hz,Aa,Aa,As];by_cases he:e=0
  ·subst he;rfl
  ·rw[A_ he,B2 (by simpa using he)]
 have U5:Ga (c:Int) W R x=Option.bind (Option.bind (Lh R (n:Int)) λy=>if(Bd y.2 0)=true then some 8 else some 0) λg=>if(Bd g 0)=true then some g else some 0:=by
  rw[Ga,A_ (by rw[Ad];simpa using hC),Br D2,Aa,hr0,hm,A_ F2,Aa,hq,gN,A_ F0,hsame,h18];rfl
 by_cases hR:1<=R/\R<=1048576
 rotate_left
 ·refine .inl ⟨?_,?_⟩
  ·refine Bad 0 2 ?_;rw[Nk,FN,Wp,Gg,B2 EE,Aa];simp only;rw[B2 N3,Aa];rfl
  ·rw[U5,Lh,Li,B2 EE,Aa];simp only;rw[B2 F2,Aa];simp only;rw[B2 F2,Aa,B2 F2]
 obtain⟨r,rfl⟩:=FT (show 0<=R by omega);have hl:=eu (r:=r) F0 n n Ax [] hn4' (C9 _) B_ B5;rw[A_ (show ¬n=0 by omega),D8,DE]at hl;have hcount:∃z:Int,Nk (r:Int) (n:Int)=some (z,if 1000<(n-1)/Ak r+1 then 4 else 0):=by
  rw[Nk,FN,Wp,Be9 F0 F0,Aa];simp only;rw[A_ X?,Aot,hl,Aa];split<;>exact⟨_,rfl⟩
 obtain⟨z,hz⟩:=hcount;have h24:=Bad z _ hz;rw[pT F0 F0 hn1 hn4',Aa]at U5;by_cases hk:1000<(n-1)/Ak r+1
 ·rw[B2 hk]at h24 U5;exact .inl ⟨h24,U5⟩
 ·rw[A_ hk]at h24 U5;have hw:∃w:Nat,W=(w:Int):=by
   rcases hb with rfl|rfl|rfl
   ·exact⟨8,rfl⟩
   ·exact⟨16,rfl⟩
   ·exact⟨24,rfl⟩
  obtain⟨w,rfl⟩:=hw;exact .inr ⟨c,w,r,n,rfl,rfl,rfl,⟨⟨hc1,F0⟩,hb,F0,⟨hn1,hn4⟩,hxn,F0,oJ hb hx4 h18⟩,h24,U5⟩
theorem Ar7(C W R:Int){x:LX}(h:4000<x.length):Ee C W R x=some 8:=by
 have key:∃e:Int,e≠0/\Dk C W x=some e:=by
  rw[Dk,Cv];by_cases h1:((Cj C 1)||(Dz C 6))=true
  ·rw[B2 h1,Aa,B2 F2];exact⟨2,F2,rfl⟩
  ·rw[A_ h1];by_cases hb:Bn W
   ·have hh:=NK W;have h18:Au W x=some 4:=by
     rw[Au,Ed,ZU hb,Aa,A_ E6,B2 C3]
    rw[ZU hb,Aa,A_ E6,Aa,A_ F2,h18,Aa,B2 F2,Aa];exact⟨4,F2,rfl⟩
   ·rw[(Q3 hb).1,Aa,B2 F2,Aa,B2 F2];exact⟨2,F2,rfl⟩
 obtain⟨e,he,h1⟩:=key;rw[Ee,Kf,Aa];simp only;rw[h1,Aa,B2 (by rw[Aj];simpa using he)]
theorem Ajc(C W R:Int)(x:LX):(Ee C W R x=some 8/\ (x.length<4611686018427387904->Ga C W R x=some 8))\/
  (∃c w r n:Nat,C=(c:Int)/\W=(w:Int)/\R=(r:Int)/\ClipOk c w r n x/\Ee C W R x=some 0/\Ga C W R x=some 0):=by
 by_cases hx:x.length<4611686018427387904
 ·rcases Ant C W R x hx with⟨h1,h2⟩|h
  ·exact .inl ⟨h1,λ_=>h2⟩
  ·exact .inr h
 ·exact .inl ⟨Ar7 C W R F0,λh=>absurd h hx⟩
theorem nP{p:Prop}(h:p:=by simp[Cn,Kt]):p:=h
def su(f c w r n:Nat):LB:=Kt++Uc f 2++Uc c 2++Uc w 2++Uc r 4++Uc n 4
def HQ(f c w r n:Nat):LB:=su f c w r n++Uc (Ff (su f c w r n)).toNat 4
theorem mW(f c w r n:Nat):(su f c w r n).length=18:=by simp only[su,Kt,B6,Cn];rfl
theorem EC(f c w r n:Nat):(HQ f c w r n).length=22:=by rw[HQ,B6,mW,Cn]
theorem RQ(b f g h k:Int)(m v w q:Nat)(a:LB)(hm:m<5)(hv:Ao ([b,f,g,h,k]:LI) (m:Int)=some (v:Int))(hw:Ao ([2,2,2,4,4]:LI) (m:Int)=some (w:Int))(h1:1<=w)(h8:w<=8)(hlt:v<256^w)(h64:v<18446744073709551616)(ha:a.length<=100):
  Po b f g h k (q+1) (m:Int) a=Po b f g h k q ((m+1:Nat):Int) (a++Uc v w):=by
 have e64:(UInt64.ofNat v).toNat=v:=iB F0;have hi1:Ae (m:Int) 1=((m+1:Nat):Int):=by rw[Ah];omega
 rw[Po,JA,B2 C1,hv,Aa,hw,Aa,AQ,eU _ w h1 h8 (by rw[e64];exact hlt),Aa];simp only;rw[Bg bR,Aa,hi1,e64]
theorem Ahl{f c w r n:Nat}(h1:Gn f c w r n=true)(h2:CI c r n=true):OY (f:Int) (c:Int) (w:Int) (r:Int) (n:Int)=some (HQ f c w r n,0):=by
 have hs:(f=1\/f=2)/\ (1<=c/\c<=6)/\ (w=8\/w=16\/w=24)/\ (1<=r/\r<=1048576)/\1<=n:=by simpa only[Gn,B7]using h1
 have hn:n<=4000:=by
  simp only[CI,B7]at h2;have:=FU 4000 c;omega
 have hck:Qk (f:Int) (c:Int) (w:Int) (r:Int) (n:Int)=some 0:=by
  rw[Qk,gL,Aa,h1,A_ F2,yQ h1,Aa,h2,A_ F2]
 have hF:Ax=(Ax-6)+1+1+1+1+1+1:=by have:=Ar;omega
 have hlt:=(Ff (su f c w r n)).toNat_lt;have e64:(UInt64.ofNat (Ff (su f c w r n)).toNat).toNat=(Ff (su f c w r n)).toNat:=iB F0;have hfin:JC (su f c w r n)=some (HQ f c w r n,0):=by
  rw[JC,Bgs,lu _ (by rw[mW];omega),Aa];simp only;rw[En,show(4:Int)=((4:Nat):Int)from rfl,eU _ 4 F0 F0 (by rw[e64];omega),Aa];simp only;rw[Bg (by rw[mW,Cn];omega),Aa,e64];rfl
 rw[OY,ZG,hck,Aa,A_ F2,Bhj,hF];have s0:=RQ (f:Int) (c:Int) (w:Int) (r:Int) (n:Int) 0 f 2 ((Ax-6)+1+1+1+1+1) Kt F0 rfl rfl F0 F0 F0 F0 F2;have s1:=RQ (f:Int) (c:Int) (w:Int) (r:Int) (n:Int) 1 c 2 ((Ax-6)+1+1+1+1) (Kt++Uc f 2) F0 rfl rfl F0 F0 F0 F0 nP;have s2:=RQ (f:Int) (c:Int) (w:Int) (r:Int) (n:Int) 2 w 2 ((Ax-6)+1+1+1) (Kt++Uc f 2++Uc c 2) F0 rfl rfl F0 F0 F0 F0 nP;have s3:=RQ (f:Int) (c:Int) (w:Int) (r:Int) (n:Int) 3 r 4 ((Ax-6)+1+1) (Kt++Uc f 2++Uc c 2++Uc w 2) F0 rfl rfl F0 F0 F0 F0 nP;have s4:=RQ (f:Int) (c:Int) (w:Int) (r:Int) (n:Int) 4 n 4 ((Ax-6)+1) (Kt++Uc f 2++Uc c 2++Uc w 2++Uc r 4) F0 rfl rfl F0 F0 F0 F0 nP;refine s0.trans (s1.trans (s2.trans (s3.trans (s4.trans ?_))));rw[Po,JA,A_ F2];exact hfin
def fV(l:LI):LB:=l.flatMap λx=>Uc x.toNat 4
def kB(l:LI):LB:=fV l++Uc (Ff (fV l)).toNat 4
theorem VD(l:LI):(fV l).length=4*l.length:=by
 induction l with
 |nil=>rfl
 |cons x l ih=>rw[fV,l?,B6,Cn,show(l.flatMap λx=>Uc x.toNat 4)=fV l from rfl,ih,D_];omega
theorem nF(l:LI):(kB l).length=4*l.length+4:=by rw[kB,B6,VD,Cn]
theorem Asy(l:LI)(x:Int):fV (l++[x])=fV l++Uc x.toNat 4:=by simp[fV]
theorem Bmm(l:LI)(hl:l.length<=1000)(h5:∀x∈l,5<=x/\x<=100000):∀(j i q:Nat),i+j=l.length->j<q->Wu l q (i:Int) (fV (l.take i))=some (kB l,0)
 |j,i,0,_,h=>absurd h (HU _)
 |0,i,q+1,hi,_=>by
  have hlt:=(Ff (fV l)).toNat_lt;have e64:(UInt64.ofNat (Ff (fV l)).toNat).toNat=(Ff (fV l)).toNat:=iB F0;rw[Wu,QJ,A_ F4,H3 F0,YD,Bgu,lu _ (by rw[VD];omega),Aa];simp only;rw[En,show(4:Int)=((4:Nat):Int)from rfl,eU _ 4 F0 F0 (by rw[e64];omega),Aa];simp only;rw[Bg (by rw[VD,Cn];omega),Aa,e64];rfl
 |j+1,i,q+1,hi,hq=>by
  have ih:=Bmm l hl h5 j (i+1) q F0 F0;obtain⟨x5,x6⟩:=h5 l[i] (D5 _);obtain⟨v,hv⟩:=FT (show 0<=l[i] by omega);have e64:(UInt64.ofNat v).toNat=v:=iB F0;have hi1:Ae (i:Int) 1=((i+1:Nat):Int):=by rw[Ah];omega
  rw[Wu,QJ,B2 F4,Bq,Aa,hv,AQ,show(4:Int)=((4:Nat):Int)from rfl,eU _ 4 F0 F0 (by rw[e64];omega),Aa];simp only;rw[Bg (by rw[VD,Cn,C8];omega),Aa,YM,Bhr,hi1,e64];rw[Iq F0,Asy,hv,C2]at ih;exact ih
theorem Ad1(l:LI):MG l=some (if Vm l=true then(kB l,0)else([],8)):=by
 rw[MG,cW,bS,Aa];by_cases h:Vm l=true
 ·rw[B2 h,B2 h,A_ F2];simp only[Vm,B8,B7]at h;obtain⟨⟨h1,h2⟩,h3⟩:=h;have h4:=(FG l 100000 F0).1 h3;have h6:=G2 h4.1;have hl:=Bmm l h2 (λx hx=>⟨h4.1 x hx,by have:=h6 x hx;omega⟩) l.length 0 Ax F0 B_;exact hl
 ·rw[A_ h,A_ h,B2 F2]
theorem Aex(l:List LB)(hl:l.length<=100000)(hf:l.flatten.length<=1000000):∀(j i q:Nat),i+j=l.length->j<q->Ye l q (i:Int) (l.take i).flatten=some l.flatten
 |j,i,0,_,h=>absurd h (HU _)
 |0,i,q+1,hi,_=>by
  rw[Ye,PH,A_ F4,H3 F0];rfl
 |j+1,i,q+1,hi,hq=>by
  have ih:=Aex l hl hf j (i+1) q F0 F0;have hi1:Ae (i:Int) 1=((i+1:Nat):Int):=by rw[Ah];omega
  have hsn:(l.take (i+1)).flatten=(l.take i).flatten++l[i]:=by rw[Iq F0,NR];simp
  have hsp:l.flatten=(l.take (i+1)).flatten++(l.drop (i+1)).flatten:=by rw[<-NR,JY]
  have hle:((l.take i).flatten).length+(l[i]).length<=1000000:=by
   rw[hsp,B6,hsn,B6]at hf;omega
  rw[Ye,PH,B2 F4,Bq,Aa,Bg,Aa,hi1,<-hsn];exact ih
theorem join_eq(l:List LB)(hl:l.length<=100000)(hf:l.flatten.length<=1000000):xU l=some l.flatten:=by
 have h:=Aex l hl hf l.length 0 Ax F0 B_;exact h
def It(c:Nat):LX->LI->List LX
 |_,[]=>[]
 |x,m::l=>x.take (m.toNat*c)::It c (x.drop (m.toNat*c)) l
theorem fR(c:Nat):∀(l:LI) (x:LX),(It c x l).length=l.length
 |[],x=>rfl
 |m::l,x=>by rw[It,D_,D_,fR c l]
theorem Bmd(c:Nat):∀(l:LI) (x:LX),(∀m∈l,0<=m)->x.length=l.sum.toNat*c-> (It c x l).flatten=x
 |[],x,_,h=>by
  have:x=[]:=ME (by simpa using h);rw[this];rfl
 |m::l,x,h0,h=>by
  have hm:=h0 m I_;have hl:0<=l.sum:=by
   have:∀l:LI,(∀m∈l,0<=m)->0<=l.sum:=by
    intro l
    induction l with
    |nil=>intro _;simp
    |cons a l ih=>intro h;have:=ih (λm hm=>h m (G! _ hm));have:=h a I_;rw[H'];omega
   exact this l λm hm=>h0 m (G! _ hm)
  rw[H',show(m+l.sum).toNat=m.toNat+l.sum.toNat by omega,C7]at h;have ih:=Bmd c l (x.drop (m.toNat*c)) (λm hm=>h0 m (G! _ hm)) IC;rw[It,P9,ih,JY]
theorem Aag(c:Nat)(x:LX)(hx:x.length<=4000):∀(l:LI) (a:Nat),(∀m∈l,1<=m)->a+l.sum.toNat*c=x.length->Vx (c:Int) x l (a:Int)=some (It c (x.drop a) l)
 |[],a,_,_=>rfl
 |m::l,a,h1,ha=>by
  have hm:=h1 m I_;have hl:=h1;have hs:0<=l.sum:=by
   have:∀l:LI,(∀m∈l,1<=m)->0<=l.sum:=by
    intro l
    induction l with
    |nil=>intro _;simp
    |cons a l ih=>intro h;have:=ih (λm hm=>h m (G! _ hm));have:=h a I_;rw[H'];omega
   exact this l λm hm=>h1 m (G! _ hm)
  obtain⟨k,rfl⟩:=FT (show 0<=m by omega);rw[H',show((k:Int)+l.sum).toNat=k+l.sum.toNat by omega,C7]at ha;have hkc:Bm (k:Int) (c:Int)=((k*c:Nat):Int):=by rw[Ex K6 K6,<-JO]
  have hadd:Ae (a:Int) ((k*c:Nat):Int)=((a+k*c:Nat):Int):=by rw[Ah];omega
  have ih:=Aag c x hx l (a+k*c) (λm hm=>h1 m (G! _ hm)) F0;rw[Vx,hkc,hadd,Sa,Aa,ih,Aa,It,C2,C2,C2,K?,RH,P']
theorem Aqa(w c:Nat)(hb:Bn (w:Int))(h1:1<=c)(h6:c<=6)(t:LX)(ht:t.length=16):∀(xs:List LX) (o:List LB),o.length+xs.length<=10000-> (∀y∈xs,1<=y.length/\y.length<=4000/\y.length %c=0/\inR (w:Int) y)->
  Vs (c:Int) (w:Int) t xs o=some (o++xs.map (Rg (w:Int) c t),0)
 |[],o,_,_=>by rw[Vs];simp
 |x::xs,o,ho,h=>by
  obtain⟨a1,a2,a3,a4⟩:=h x I_;rw[D_]at ho;have ih:=Aqa w c hb h1 h6 t ht xs (o++[Rg (w:Int) c t x]) B5 (λy hy=>h y (G! _ hy));rw[Vs,qP hb ht h1 h6 a1 a2 a3 a4,Aa,A_ N3,Bg B5,Aa,ih,K5];simp
theorem oU(c:Nat)(h1:1<=c):∀(l:LI) (x:LX),(∀m∈l,1<=m)->x.length=l.sum.toNat*c->∀y∈It c x l,1<=y.length/\y.length<=x.length/\y.length %c=0/\∀v∈y,v∈x
 |[],x,_,_=>λy hy=>by simp[It]at hy
 |m::l,x,hm,hx=>by
  have hm1:=hm m I_;have hl:0<=l.sum:=by
   have:∀l:LI,(∀m∈l,1<=m)->0<=l.sum:=by
    intro l
    induction l with
    |nil=>intro _;simp
    |cons a l ih=>intro h;have:=ih (λm hm=>h m (G! _ hm));have:=h a I_;rw[H'];omega
   exact this l λm hm'=>hm m (G! _ hm')
  rw[H',show(m+l.sum).toNat=m.toNat+l.sum.toNat by omega,C7]at hx;have hpos:1<=m.toNat*c:=QU F0 h1;intro y hy;rw[It,RI]at hy;rcases hy with rfl|hy
  ·have hlen:(x.take (m.toNat*c)).length=m.toNat*c:=by rw[C8];omega
   rw[hlen];exact⟨hpos,F0,LN _ _,λv hv=>aH hv⟩
  ·obtain⟨a1,a2,a3,a4⟩:=oU c h1 l (x.drop (m.toNat*c)) (λm hm'=>hm m (G! _ hm')) IC y hy;rw[D3]at a2;exact⟨a1,F0,a3,λv hv=>P1 (a4 v hv)⟩
theorem Ame(bits:Int)(ch:Nat)(t x:LX)(h0:1<=x.length)(h4:x.length<=4000):5<= (Rg bits ch t x).length/\ (Rg bits ch t x).length<=15*x.length:=by
 have h5:=Q1 bits ch t x h0 h4;have h:=lR ch (Oh bits ch t x) x.length;refine⟨h5.1,?_⟩;rw[Rg,B6,Cn,aX,AD];omega
def By(fs:List LB):LI:=fs.map λf=>(f.length:Int)
theorem Gb(fs:List LB):(By fs).length=fs.length:=by rw[By,lO]
theorem DF:∀fs:List LB,(By fs).sum=(fs.flatten.length:Int)
 |[]=>rfl
 |f::fs=>by rw[By,K5,H',P9,B6,show(fs.map λf=>(f.length:Int))=By fs from rfl,DF fs];omega
theorem Avh(bits:Int)(ch:Nat)(t:LX):∀ys:List LX,(∀y∈ys,1<=y.length/\y.length<=4000)-> ((ys.map (Rg bits ch t)).flatten).length<=15*ys.flatten.length
 |[],_=>by simp
 |y::ys,h=>by
  have ih:=Avh bits ch t ys λy hy=>h y (G! _ hy);obtain⟨h1,h4⟩:=h y I_;have:=(Ame bits ch t y h1 h4).2;rw[K5,P9,P9,B6,B6];omega
def Ep(p:LB):Nat:=if p=[]then 1 else 2
def VW(p:LB):LB:=if p=[]then []else Uc (Vy p).toNat 8
theorem wY(p:LB):Ep p=1\/Ep p=2:=by unfold Ep;split<;>simp
theorem XV(p:LB):(VW p).length=if Ep p=2 then 8 else 0:=by
 unfold VW Ep;by_cases h:p=[]
 ·rw[B2 h,B2 h];rfl
 ·rw[A_ h,A_ h,Cn];rfl
def Yc(c r n:Nat)(x:LX):List LX:=It c x (Al (Ak r) n)
def Mz(c w r n:Nat)(x:LX)(p:LB):List LB:=(Yc c r n x).map (Rg (w:Int) c (Ld p))
def Ck(c w r n:Nat)(x:LX)(p:LB):LB:=HQ (Ep p) c w r n++(VW p++(kB (By (Mz c w r n x p))++(Mz c w r n x p).flatten))
theorem Rb{g n:Nat}(hg:1<=g)(h1:1<=n):∀m∈Al g n,1<=m:=by
 intro m hm;rw[Al,WH,List.mem_replicate,jv]at hm;have h:=MJ (n-1) g;rcases hm with⟨_,rfl⟩|rfl
 ·omega
 ·omega
section
variable {c w r n:Nat} {x:LX} (h:ClipOk c w r n x)
include h
theorem ClipOk.sum:(Al (Ak r) n).sum=(n:Int):=iH h.cnt.1
omit h in
theorem oM:(Yc c r n x).length=(Al (Ak r) n).length:=fR _ _ _
theorem Z0:(Yc c r n x).flatten=x:=by
 refine Bmd _ _ _ (λm hm=>?_) ?_
 ·have:=Rb (Du r) h.cnt.1 m hm;omega
 ·rw[h.sum,h.len,C2]
theorem oE:∀y∈Yc c r n x,1<=y.length/\y.length<=4000/\y.length %c=0/\inR (w:Int) y:=by
 intro y hy;obtain⟨a1,a2,a3,a4⟩:=oU c h.ch.1 _ _ (Rb (Du r) h.cnt.1) (by rw[h.sum,h.len,C2]) y hy;have:=h.le;exact⟨a1,F0,a3,λv hv=>h.rng v (a4 v hv)⟩
omit h in
theorem bD(p:LB):(Mz c w r n x p).length=(Al (Ak r) n).length:=by rw[Mz,lO];exact fR _ _ _
theorem gA(p:LB):1<= (Mz c w r n x p).length/\ (Mz c w r n x p).length<=1000:=by
 rw[bD,DE];exact⟨Nat.le_add_left _ _,h.fr⟩
theorem Alp(p:LB):((Mz c w r n x p).flatten).length<=15*x.length:=by
 have:=Avh (w:Int) c (Ld p) (Yc c r n x) λy hy=>⟨(oE h y hy).1,(oE h y hy).2.1⟩;rw[Z0 h]at this;exact this
theorem Azx(p:LB):∀f∈Mz c w r n x p,5<=f.length:=by
 intro f hf;rw[Mz,bG]at hf;obtain⟨y,hy,rfl⟩:=hf;exact(Ame _ _ _ _ (oE h y hy).1 (oE h y hy).2.1).1
theorem O5(p:LB):Vm (By (Mz c w r n x p))=true:=by
 have h1:=gA h p;have h2:=Alp h p;have h3:=h.le;simp only[Vm,B8,B7];rw[FG _ _ F0,Gb,DF];refine⟨F0,λz hz=>?_,F0⟩;rw[By,bG]at hz;obtain⟨f,hf,rfl⟩:=hz;have:=Azx h p f hf;omega
omit h in
theorem zW(p:LB):(Ck c w r n x p).length=22+(if Ep p=2 then 8 else 0)+(4*(Mz c w r n x p).length+4)+(Mz c w r n x p).flatten.length:=by
 rw[Ck,B6,B6,B6,EC,XV,nF,Gb];omega
theorem Aly(p:LB):(Ck c w r n x p).length<=34+4*(Mz c w r n x p).length+15*x.length:=by
 have h1:=zW (c:=c) (w:=w) (r:=r) (n:=n) (x:=x) p;have h2:=Alp h p;split at h1<;>omega
theorem nD(p:LB):(Ck c w r n x p).length<=64034:=by
 have:=Aly h p;have:=gA h p;have:=h.le;omega
theorem Avl(hk:Ga (c:Int) (w:Int) (r:Int) x=some 0)(p:LB)(hp:p.length<=64):iQ (c:Int) (w:Int) (r:Int) x p=some ((Ep p:Int),(c:Int),(w:Int),(r:Int),(n:Int),0):=by
 have hc:=h.ch;have hq:Ca (Ac x) (c:Int)=(n:Int):=by rw[Ac,Tv (by have:=h.le;omega),h.len,RB _ F0]
 rw[iQ,MP,hk,Aa,A_ F2,A_ C3,Br D2,Aa,dO,Bkr,hq,Ep];by_cases h0:p=[]
 ·rw[A_ (by simp[h0]),B2 h0];rfl
 ·rw[B2 (by simpa using h0),A_ h0];rfl
theorem Bmz(hk:Ga (c:Int) (w:Int) (r:Int) x=some 0)(p:LB)(hp:p.length<=64):VV (c:Int) (w:Int) (r:Int) x p=some (Mz c w r n x p,0):=by
 have hc:=h.ch;have hle:=h.le;have hr:=h.rate;have hq:Ca (Ac x) (c:Int)=(n:Int):=by rw[Ac,Tv,h.len,RB _ F0]
 have hcut:eW (c:Int) (r:Int) x=some (Yc c r n x):=by
  have hp:=Aag c x F0 (Al (Ak r) n) 0 (Rb (Du r) h.cnt.1) (by rw[h.sum,h.len,C2];omega);rw[eW,Br D2,Aa,hq,Alr hr.1 hr.2 h.cnt.1 F0 h.fr,Aa,Br (by have:=h.fr;simp only[Ac,DE,B7];omega),Aa];exact hp
 have hfs:=Aqa w c h.bits hc.1 hc.2 (Ld p) (Lq p) (Yc c r n x) [] (by rw[oM,DE];exact PD (Nat.add_le_add_left h.fr _) B3) (oE h);rw[VV,hk,Aa,A_ F2,UC p hp,Aa];simp only;rw[A_ F2,hcut,Aa,hfs];rfl
omit h in
theorem Abi (a:List LB)(b f:LB)(v:LB)(ha:a.length<=1000)(hfin:Zz (By a) a b f=some (v,0)):∀(j i q:Nat),i+j=a.length->j<q->Yd a b f q (i:Int) (By (a.take i)++List.replicate j 0)=some (v,0)
 |j,i,0,_,h=>absurd h (HU _)
 |0,i,q+1,hi,_=>by
  rw[Yd,OT,A_ F4,H3 F0,List.replicate_zero,E0];exact hfin
 |j+1,i,q+1,hi,hq=>by
  have ih:=Abi a b f v ha hfin j (i+1) q F0 F0;have hi1:Ae (i:Int) 1=((i+1:Nat):Int):=by rw[Ah];omega
  have hll:(By (a.take i)).length=i:=by rw[Gb,C8];omega
  have hset:(By (a.take i)++List.replicate (j+1) (0:Int)).set i (Ac a[i])=By (a.take (i+1))++List.replicate j 0:=by
   rw[LY,oT hll,Iq F0,By,By,NZ,C6];rfl
  rw[Yd,OT,B2 F4,Bq,Aa,Aa,jU,Aa,Bq (by rw[B6,hll,J?];omega),Aa,Yb _ (by rw[B6,hll,J?];omega),Aa,hset,YL,Bfm,hi1];exact ih
theorem Ah4(hk:Ga (c:Int) (w:Int) (r:Int) x=some 0)(p:LB)(hp:p.length<=64):jC (c:Int) (w:Int) (r:Int) x p=some (Ck c w r n x p,0):=by
 have hn:=gA h p;have hfin:Zz (By (Mz c w r n x p)) (Mz c w r n x p) (HQ (Ep p) c w r n) (VW p)=some (Ck c w r n x p,0):=by
  have hl:=nD h p;rw[Zz,Bgj,Ad1,B2 (O5 h p),Aa];simp only;rw[Bht,Bg9,A_ F2,Bg B5,Aa,join_eq _ B5 (by
   have:(([HQ (Ep p) c w r n,VW p,kB (By (Mz c w r n x p))]++Mz c w r n x p).flatten)=Ck c w r n x p:=by simp[Ck]
   rw[this];omega),Aa]
  simp[Ck]
 have hlp:=Abi (Mz c w r n x p) (HQ (Ep p) c w r n) (VW p) _ F0 hfin (Mz c w r n x p).length 0 Ax F0 B_;have h8:dH (Mz c w r n x p) (HQ (Ep p) c w r n) (VW p)=some (Ck c w r n x p,0):=by
  rw[dH,bX,xI LK LK,Aa,Br Qz,Aa];exact hlp
 rw[jC,cP,Avl h hk p hp,Aa];simp only;rw[A_ F2,Bmz h hk p hp,Aa];simp only;rw[A_ F2,Ahl (h.shape _ (wY p)) h.fit,Aa];simp only;rw[A_ F2];by_cases h0:p=[]
 ·have e1:Ep p=1:=by rw[Ep,B2 h0]
  have e2:VW p=[]:=by rw[VW,B2 h0]
  rw[e2]at h8;rw[A_ (by rw[e1];decide)];exact h8
 ·have e1:Ep p=2:=by rw[Ep,A_ h0]
  have e2:VW p=Uc (Vy p).toNat 8:=by rw[VW,A_ h0]
  rw[e2]at h8;rw[B2 (by rw[e1];decide),mE p hp,Aa];exact h8
end
theorem nQ{p:Prop}(h:p:=by simp[Kt,Cn]):p:=h
theorem XQ{a m z:LB}{i k:Nat}(hi:a.length=i)(hk:m.length=k):part (a++(m++z)) i k=m:=by
 subst hi hk;rw[part,vX,H3 F0,List.drop_left',P',O_ (C9 _),FX];rfl
theorem AH(f c w r n:Nat)(z:LB):HQ f c w r n++z=Kt++(Uc f 2++(Uc c 2++(Uc w 2++(Uc r 4++(Uc n 4++(Uc (Ff (su f c w r n)).toNat 4++z)))))):=by
 simp only[HQ,su,C6]
theorem zV{f c w r n:Nat}(h1:Gn f c w r n=true)(h2:CI c r n=true)(z:LB):Eg (HQ f c w r n++z)=((f:Int),(c:Int),(w:Int),(r:Int),(n:Int),0):=by
 have hs:(f=1\/f=2)/\ (1<=c/\c<=6)/\ (w=8\/w=16\/w=24)/\ (1<=r/\r<=1048576)/\1<=n:=by simpa only[Gn,B7]using h1
 have hn:n<=4000:=by
  simp only[CI,B7]at h2;have:=FU 4000 c;omega
 have hlen:22<= (HQ f c w r n++z).length:=by rw[B6,EC];omega
 have m4:min 4 (HQ f c w r n++z).length=4:=F0
 have e4:(HQ f c w r n++z).take 4=Kt:=by rw[AH];rfl
 have e18:(HQ f c w r n++z).take 18=su f c w r n:=by
  rw[HQ,C6,O_ (by rw[mW];omega),H3 (by rw[mW];omega)]
 have hlt:=(Ff (su f c w r n)).toNat_lt;have p18:part (HQ f c w r n++z) 18 4=Uc (Ff (su f c w r n)).toNat 4:=by
  rw[HQ,C6];exact XQ (mW _ _ _ _ _) (Cn _ _)
 have q0:f0 (HQ f c w r n++z)=f:=by
  rw[f0,AH,XQ (a:=Kt) (i:=4) (k:=2) rfl (Cn _ _),IW];omega
 have q1:f1 (HQ f c w r n++z)=c:=by
  rw[f1,AH,<-C6,XQ nQ (Cn _ _),IW];omega
 have q2:f2 (HQ f c w r n++z)=w:=by
  rw[f2,AH,<-C6,<-C6,XQ nQ (Cn _ _),IW];omega
 have q3:f3 (HQ f c w r n++z)=r:=by
  rw[f3,AH,<-C6,<-C6,<-C6,XQ nQ (Cn _ _),IW];omega
 have q4:f4 (HQ f c w r n++z)=n:=by
  rw[f4,AH,<-C6,<-C6,<-C6,<-C6,XQ nQ (Cn _ _),IW];omega
 have h:=rs6 (b:=HQ f c w r n++z) (by rw[m4,e4];rfl) F0 (by rw[e18,p18,IW];omega) (by rw[q0,q1,q2,q3,q4];exact h1) (by rw[q1,q3,q4];exact h2);rw[q0,q1,q2,q3,q4]at h;exact h
theorem Av6(l:LI)(z:LB){i:Nat}(hi:i<l.length):part (fV l++z) (4*i) 4=Uc (l[i]).toNat 4:=by
 have hs:fV l=fV (l.take i)++(Uc (l[i]).toNat 4++fV (l.drop (i+1))):=by
  conv=>lhs;rw[<-JY i l,drop_cons hi]
  rw[fV,fV,fV,jH,l?]
 rw[hs,C6,C6];exact XQ (by rw[VD,C8];omega) (Cn _ _)
theorem Ar8{l:LI}(ht:Vm l=true)(z:LB):Ez (kB l++z) l.length=(l,0):=by
 have h:=ht;simp only[Vm,B8,B7]at h;obtain⟨hn,h3⟩:=h;have h4:=(FG l 100000 F0).1 h3;have h6:=G2 h4.1;have hlt:=(Ff (fV l)).toNat_lt;have e1:(kB l++z).take (4*l.length)=fV l:=by
  rw[kB,C6,O_ (by rw[VD];omega),H3 (by rw[VD];omega)]
 have e2:part (kB l++z) (4*l.length) 4=Uc (Ff (fV l)).toNat 4:=by
  rw[kB,C6];exact XQ (VD _) (Cn _ _)
 have e3:XW (kB l++z) l.length=l:=by
  apply KN
  ·rw[Xu]
  ·intro i h1 h2;have hx:=h4.1 l[i] (D5 _);have hy:=h6 l[i] (D5 _);simp only[XW,QP,RA];rw[kB,C6,Av6 l _ h2,IW];omega
 rw[ss4 hn (by rw[B6,nF];omega) (by rw[e1,e2,IW];omega),e3,B2 ht]
theorem Akh{b p:LB}{f c w r n T:Nat}{l:LI}{z:LB}(hp:p.length<=64)(hf:f=Ep p)(h1:Gn f c w r n=true)(h2:CI c r n=true)(hT:Bw b=((T:Int),0))(hb:b.length<=100000)(hd:b.drop T=HQ f c w r n++(VW p++(kB l++z)))
  (hl:l.length=(Al (Ak r) n).length) (ht:Vm l=true):Opn b p f c w r n (T+22+(if f=2 then 8 else 0)+4*l.length+4) l:=by
 have hlen:=congrArg List.length hd;rw[D3,B6,B6,B6,EC,XV,nF,<-hf]at hlen;have Blx:l.length<=1000/\1<=l.length:=by
  have h:=ht;simp only[Vm,B8,B7]at h;omega
 have hread:Eg (b.drop T)=((f:Int),(c:Int),(w:Int),(r:Int),(n:Int),0):=by rw[hd];exact zV h1 h2 _
 have t22:Ae (T:Int) 22=((T+22:Nat):Int):=by rw[Ah];omega
 have t30:Ae ((T+22:Nat):Int) 8=((T+30:Nat):Int):=by rw[Ah];omega
 have d22:b.drop (T+22)=VW p++(kB l++z):=by
  rw[<-K?,hd,<-EC f c w r n,M6]
 have dA:b.drop (T+22+(if f=2 then 8 else 0))=kB l++z:=by
  rw[<-K?,d22,hf,<-XV p,M6]
 have hend:∀A:Nat,A<=b.length->A=T+22+(if f=2 then 8 else 0)->Cf b p=On b (f:Int) (c:Int) (w:Int) (r:Int) (n:Int) (A:Int)->Cf b p=some ((f:Int),(c:Int),(w:Int),(r:Int),(n:Int),((A+4*l.length+4:Nat):Int),l,0):=by
  intro A hA hA2 e;rw[e,mM h1 h2 b F0 A hA,hA2,dA,<-hl,Ar8 ht,A_ B3]
 have hprog:Cf b p=some ((f:Int),(c:Int),(w:Int),(r:Int),(n:Int),((T+22+(if f=2 then 8 else 0)+4*l.length+4:Nat):Int),l,0):=by
  refine hend (T+22+(if f=2 then 8 else 0)) F0 rfl ?_;rw[Cf,Of,A_ C3,A_ C3,Ll b F0,hT,Aa];simp only;rw[A_ F2,Bu,Aa,C2,FI _ IC,Aa,hread];simp only;rw[A_ F2];by_cases h0:p=[]
  ·have e1:f=1:=by rw[hf,Ep,B2 h0]
   rw[A_ (by rw[h0,e1];decide),A_ (by rw[h0];decide),t22,e1];rfl
  ·have e1:f=2:=by rw[hf,Ep,A_ h0]
   have hne:(p !=([]:LB))=true:=by simpa using h0
   have hne2:(p==([]:LB))=false:=by simpa using h0
   have hdg:VW p=Uc (Vy p).toNat 8:=by rw[VW,A_ h0]
   have hseg:(b.take (T+30)).drop (T+22)=Uc (Vy p).toNat 8:=by
    rw[RH,show T+30-(T+22)=8 by omega,d22,hdg,O_ bR,H3 bR]
   rw[e1,B2 rfl]at hlen;rw[A_ (by rw[hne2,e1];decide),B2 hne,t22,t30,A_ F4,Sa,Aa,C2,C2,hseg,vU (Cn _ _) hp,Aa];simp only;rw[A_ F2,A_ B3,e1];rfl
 rcases V9 b p F0 hp with⟨e,he,h,_⟩|⟨f',c',w',r',n',A',l',o⟩
 ·rw[hprog]at h;have:=congrArg (λo=>(o.getD (HO 0)).2.2.2.2.2.2.2) h;simp only[Option.getD_some,HO]at this;exact absurd this.symm he
 ·have h:=o.prog;rw[hprog]at h;simp only[B?,BS]at h;obtain⟨i1,i2,i3,i4,i5,i6,i7,_⟩:=h;have j1:f=f':=F0
  have j2:c=c':=F0
  have j3:w=w':=F0
  have j4:r=r':=F0
  have j5:n=n':=F0
  have j6:=Int.ofNat.inj i6;subst j1 j2 j3 j4 j5 i7;rw[j6];exact o
theorem uK{b:LB}(h:b.take 4=Kt):Bw b=(0,0):=by
 have h4:4<=b.length:=by
  have:=congrArg List.length h;rw[C8]at this;simp only[Kt,D_,WG]at this;omega
 have h3:b.take 3≠ [73,68,51]:=by
  intro e;have:(b.take 4).take 3=[73,68,51]:=by rw[LD];exact e
  rw[h]at this;exact absurd this F2
 have h8:b.take 8≠yu:=by
  intro e;have:(b.take 8).take 4=Kt:=by rw[LD];exact h
  rw[e]at this;exact absurd this F2
 have hs:Dh b=(0,6):=by
  have h1:Yl b=(0,6):=by rw[Yl,B2 (by intro hh;exact h3 hh.2)]
  rw[Dh,h1,A_ F2,fa1 (by intro hh;exact h8 hh.2)]
 rw[Bw,G_,Cu,LG,hs];rfl
theorem Oj:∀{l:LI},(∀x∈l,0<=x)->∀k,0<= (l.take k).sum
 |[],_,k=>by simp
 |x::l,h,0=>by simp
 |x::l,h,k+1=>by
  have:=Oj (l:=l) (λy hy=>h y (G! _ hy)) k;have:=h x I_;rw[aI,H'];omega
theorem kg(fs:List LB)(k:Nat):(By fs).take k=By (fs.take k):=by rw[By,By,List.map_take]
theorem Be8{b z:LB}{A:Nat}{fs:List LB}(hd:b.drop A=fs.flatten++z){k:Nat}(hk:k<fs.length):xL b A (By fs) k=fs[k]:=by
 have e0:fs.flatten=(fs.take k).flatten++(fs[k]++(fs.drop (k+1)).flatten):=by
  conv=>lhs;rw[<-JY k fs,drop_cons hk]
  rw[NR,P9]
 have s1:((By fs).take k).sum=((fs.take k).flatten.length:Int):=by rw[kg,DF]
 have s2:((By fs).take (k+1)).sum=((fs.take k).flatten.length+fs[k].length:Nat):=by rw[kg,DF,Iq hk,NR];simp
 rw[xL,s1,s2,show((A:Int)+((fs.take k).flatten.length+fs[k].length:Nat)).toNat=A+((fs.take k).flatten.length+fs[k].length) by omega,show((A:Int)+((fs.take k).flatten.length:Int)).toNat=A+(fs.take k).flatten.length by omega,
  RH,<-K?,hd,e0,C6,M6,Nat.add_sub_add_left,P',C6,WK]
theorem Aeq{b z:LB}{A:Nat}{fs:List LB}(hd:b.drop A=fs.flatten++z)(hA:A<=b.length)(k:Nat):(A:Int)+((By fs).take k).sum<=b.length:=by
 have h:=congrArg List.length hd;rw[D3,B6]at h;have h2:(fs.take k).flatten.length<=fs.flatten.length:=by
  conv=>rhs;rw[<-JY k fs,NR,B6]
  omega
 rw[kg,DF];omega
theorem As5{b z:LB}{A:Nat}{fs:List LB}(hd:b.drop A=fs.flatten++z):YV b A (By fs)=(Qs z).2:=by
 rw[YV,DF,show((A:Int)+(fs.flatten.length:Int)).toNat=A+fs.flatten.length by omega,<-K?,hd,M6]
theorem xq:Qs []=(0,0):=rfl
section
variable {b p:LB} {f c w r n A:Nat} {fs:List LB} {z:LB} (o:Opn b p f c w r n A (By fs)) (hd:b.drop A=fs.flatten++z)
include o hd
theorem Bhe{k:Nat}(hk:k<fs.length){y:LX}{e:Int}{m:Nat}(hm:Ao (Al (Ak r) n) (k:Int)=some (m:Int))(hdec:Jn (c:Int) (w:Int) (Ld p) (m:Int) fs[k]=some (y,e)):
  (Iv b p f c w r n A (By fs) k).2=e/\ (e=0->Iv b p f c w r n A (By fs) k=(Az (w:Int) y,0)/\W? w (Iv b p f c w r n A (By fs) k)=y):=by
 have hkl:k<(By fs).length:=by rw[Gb];exact hk
 obtain⟨m',x',s',e',g⟩:=Ua o k hkl;have hin:=Aeq hd o.at' (k+1);have hmm:m'=m:=by
  have:=g.mom;rw[hm]at this;have:=G? this;omega
 subst hmm;rcases g.way with⟨h1,_⟩|⟨_,h2,_⟩
 ·omega
 ·rw[Be8 hd hk,hdec]at h2;simp only[B?,BS]at h2;obtain⟨rfl,rfl⟩:=h2;refine⟨by rw[g.eq],λhe=>?_⟩;have:=g.Q8 (My o.shape).2.1;obtain⟨h3,_⟩:=g.some' he;rw[g.eq,this,h3,he];exact⟨rfl,rfl⟩
end
theorem pY(c:Nat)(h1:1<=c):∀(l:LI) (x:LX),(∀m∈l,1<=m)->x.length=l.sum.toNat*c->∀(k:Nat) (hk:k<l.length) (hk':k<(It c x l).length),(It c x l)[k].length=l[k].toNat*c
 |[],x,_,_=>λk hk=>absurd hk (HU _)
 |m::l,x,hm,hx=>by
  have hm1:=hm m I_;have hl:0<=l.sum:=by
   have:=Oj (l:=l) (λy hy=>by have:=hm y (G! _ hy);omega) l.length;rw[FX]at this;exact this
  rw[H',show(m+l.sum).toNat=m.toNat+l.sum.toNat by omega,C7]at hx;intro k hk hk';cases k with
  |zero=>simp only[It,List.getElem_cons_zero,C8];omega
  |succ k=>
   simp only[It,List.getElem_cons_succ];exact pY c h1 l (x.drop (m.toNat*c)) (λm hm'=>hm m (G! _ hm')) IC k (by simpa using hk) _
structure FileOf (c w r n:Nat) (x:LX) (p:LB) (T:Nat) (fs:List LB) (z b:LB):Prop where
 clip:ClipOk c w r n x
 pass:p.length<=64
 front:Bw b=((T:Int),0)
 le:b.length<=100000
 lens:By fs=By (Mz c w r n x p)
 form:b.drop T=HQ (Ep p) c w r n++(VW p++(kB (By (Mz c w r n x p))++(fs.flatten++z)))
def Zp(T:Nat)(p:LB)(K:Nat):Nat:=T+22+(if Ep p=2 then 8 else 0)+4*K+4
section
variable {c w r n:Nat} {x:LX} {p:LB} {T:Nat} {fs:List LB} {z b:LB} (h:FileOf c w r n x p T fs z b)
include h
theorem FileOf.cnt:fs.length=(Mz c w r n x p).length:=by
 have:=congrArg List.length h.lens;rw[Gb,Gb]at this;exact this
theorem FileOf.Fm:Opn b p (Ep p) c w r n (Zp T p fs.length) (By fs):=by
 have hc:=h.clip;have hl:(By fs).length=(Al (Ak r) n).length:=by rw[Gb,h.cnt];exact bD p
 have ht:Vm (By fs)=true:=by rw[h.lens];exact O5 hc p
 have hd:=h.form;rw[<-h.lens]at hd;have:=Akh (z:=fs.flatten++z) h.pass rfl (hc.shape _ (wY p)) hc.fit h.front h.le hd hl ht;rw[Gb]at this;exact this
theorem FileOf.XJ:b.drop (Zp T p fs.length)=fs.flatten++z:=by
 have hd:=h.form;rw[<-h.lens]at hd;have e:Zp T p fs.length=T+(22+((if Ep p=2 then 8 else 0)+(4*fs.length+4))):=by unfold Zp;omega
 have e2:4*fs.length+4=(kB (By fs)).length:=by rw[nF,Gb]
 rw[e,<-K?,hd,<-K?]
 conv=>lhs;rw[<-EC (Ep p) c w r n,M6,<-K?,<-XV p,M6,e2,M6]
theorem FileOf.mom{k:Nat}(hk:k<fs.length):∃(m:Nat) (hk':k<(Yc c r n x).length),Ao (Al (Ak r) n) (k:Int)=some (m:Int)/\1<=m/\m<=4000/c/\ ((Yc c r n x)[k]).length=m*c/\inR (w:Int) (Yc c r n x)[k]/\ (Mz c w r n x p)[k]'(by rw[<-h.cnt];exact hk)=Rg (w:Int) c (Ld p) (Yc c r n x)[k]:=by
 have hc:=h.clip;have hlen:fs.length=(Al (Ak r) n).length:=by rw[h.cnt];exact bD p
 have hkf:k<(Al (Ak r) n).length:=F0
 have hk':k<(Yc c r n x).length:=by rw[oM];exact hkf
 have hm1:=Rb (Du r) hc.cnt.1 _ (D5 hkf);obtain⟨m,hm⟩:=FT (show 0<= (Al (Ak r) n)[k] by omega);have hg:=pY c hc.ch.1 _ x (Rb (Du r) hc.cnt.1) (by rw[hc.sum,hc.len,C2]) k hkf hk';rw[hm,C2]at hg;have hmem:=oE hc _ (D5 hk');have hx:=oU c hc.ch.1 _ x (Rb (Du r) hc.cnt.1) (by rw[hc.sum,hc.len,C2]) _ (D5 hk');have hg':((Yc c r n x)[k]).length=m*c:=hg;refine⟨m,hk',by rw[Bq hkf,hm],F0,?_,hg',hmem.2.2.2,?_⟩
 ·have h1:=hx.2.1;have h2:m*c<=n*c:=by rw[<-hg',<-hc.len];exact h1
  have h3:m<=n:=Nat.le_of_mul_le_mul_right h2 hc.ch.1;exact PD h3 hc.cnt.2
 ·simp only[Mz,QP]
theorem FileOf.Bh2{k:Nat}(hk:k<fs.length)(he:fs[k]=(Mz c w r n x p)[k]'(by rw[<-h.cnt];exact hk)):
  Iv b p (Ep p) c w r n (Zp T p fs.length) (By fs) k=(Az (w:Int) ((Yc c r n x).getD k []),0)/\W? w (Iv b p (Ep p) c w r n (Zp T p fs.length) (By fs) k)=(Yc c r n x).getD k []:=by
 have hc:=h.clip;obtain⟨m,hk',h1,h2,h3,h4,h5,h6⟩:=h.mom hk;have hd:=(An3 hc.bits (Lq p) hc.ch.1 hc.ch.2 h2 h3 h4 h5).1;have hg:=Bhe h.Fm h.XJ hk h1 (by rw[he,h6];exact hd);have e:(Yc c r n x).getD k []=(Yc c r n x)[k]:=by rw[List.getD_eq_getElem?_getD,List.getElem?_eq_getElem hk'];rfl
 rw[e];exact hg.2 rfl
theorem FileOf.beh:YV b (Zp T p fs.length) (By fs)=(Qs z).2:=As5 h.XJ
end
theorem bI{c w r n:Nat}{x:LX}(h:ClipOk c w r n x){p:LB}(hp:p.length<=64):FileOf c w r n x p 0 (Mz c w r n x p) [] (Ck c w r n x p):=by
 refine⟨h,hp,uK ?_,by have:=nD h p;omega,rfl,by rw[E0];rfl⟩;rw[Ck,AH];rfl
theorem xF:∀(ys:List LX) (G:Nat->LX) (k:Nat),(∀i,i<ys.length->G (k+i)=ys.getD i [])->Rm G ys.length k=ys.flatten
 |[],G,k,_=>rfl
 |y::ys,G,k,h=>by
  have h0:=h 0 B3;have ih:=xF ys G (k+1) (λi hi=>by have:=h (i+1) B5;rw[show k+1+i=k+(i+1) by omega,this];simp);rw[D_,Rm,ih,P9,show k=k+0 from rfl,h0];rfl
theorem Adp{α:Type}(G H:Nat->List α):∀(j k:Nat),(∀i,k<=i->i<k+j->G i=H i)->Rm G j k=Rm H j k
 |0,k,_=>rfl
 |j+1,k,h=>by rw[Rm,Rm,h k F0 F0,Adp G H j (k+1) (λi h1 h2=>h i F0 F0)]
theorem O6{l:LI}(h:∀x∈l,0<=x){i j:Nat}(hij:i<=j):(l.take i).sum<= (l.take j).sum:=by
 obtain⟨d,rfl⟩:=j! hij;rw[SD,RF];have:=Oj (l:=l.drop i) (λx hx=>h x (P1 hx)) d;omega
theorem rY(fs:List LB):∀x∈By fs,0<=x:=by
 intro x hx;rw[By,bG]at hx;obtain⟨f,_,rfl⟩:=hx;omega
section
variable {c w r n:Nat} {x:LX} (h:ClipOk c w r n x)
include h
theorem Azj{k:Nat}(hk:k<(Yc c r n x).length)(hk':k<(Al (Ak r) n).length):((Yc c r n x)[k]).length=((Al (Ak r) n)[k]).toNat*c:=
 pY c h.ch.1 _ x (Rb (Du r) h.cnt.1) (by rw[h.sum,h.len,C2]) k hk' hk
theorem Aaa:∀K:Nat,K<= (Yc c r n x).length-> ((Yc c r n x).take K).flatten.length=((Al (Ak r) n).take K).sum.toNat*c
 |0,_=>by simp
 |K+1,hK=>by
  have hl:=oM (c:=c) (r:=r) (n:=n) (x:=x);have hk':K<(Al (Ak r) n).length:=F0
  have h1:=Rb (Du r) h.cnt.1 _ (D5 hk');have h2:=Oj (l:=Al (Ak r) n) (λm hm=>by have:=Rb (Du r) h.cnt.1 m hm;omega) K;rw[Iq (show K<(Yc c r n x).length by omega),NR,B6,Aaa K F0,Iq hk',RF,List.sum_singleton,List.flatten_singleton,Azj h F0 hk',<-C7];congr 1;omega
end
def Cd(e:Int):Prop:=e=0\/e=4\/e=12\/e=16\/e=22\/e=24\/e=26\/e=38
instance(e:Int):Decidable (Cd e):=by unfold Cd;infer_instance
theorem Cd.nn{e:Int}(h:Cd e):0<=e:=by unfold Cd at h;omega
theorem Bfa(p:LB)(N a k:Nat):Cd (bU p N a k).2.2:=by
 unfold bU
 repeat' split
 all_goals first|decide|exact .inl rfl
theorem Bg7(p:LB)(N a k l:Nat):Cd (kZ p N a k l).2.2:=by
 have h:=Bfa p N (a+1) l;unfold kZ
 repeat' split
 all_goals first|exact h|decide|exact .inl rfl
theorem Apj(ch:Nat)(p:LB)(N:Nat):∀(j a:Nat) (out:LU),Cd (Zy ch p N j a out).2.2
 |0,a,out=>by rw[Zy];exact .inl rfl
 |j+1,a,out=>by
  rw[Zy];split
  ·exact Bg7 ..
  ·exact Apj ch p N j _ _
theorem Awb(b:LB):Cd (Yj b):=by
 unfold Yj
 repeat' split
 all_goals first|decide|exact .inl rfl
theorem Aem(a:LX)(b:Int):∀(q:Nat) (i e:Int),Be a b q i=some e->Cd e
 |0,_,_,h=>by rw[Be]at h;cases h
 |q+1,i,e,h=>by
  rw[Be,Df]at h;split at h
  ·cases hg:Ao a i with
   |none=>rw[hg]at h;cases h
   |some g=>
    rw[hg,Aa]at h;split at h
    ·cases h;decide
    ·rw[Aa]at h;split at h
     ·cases h;decide
     ·exact Aem a b q _ e h
  ·cases h;decide
theorem Am4{bits:Int}{a:LX}{e:Int}(hb:Bn bits)(h:Au bits a=some e):Cd e:=by
 rw[Au,Ed]at h;rw[ZU hb,Aa,A_ (by have:=NK bits;rw[As];simp;omega)]at h;split at h
 ·cases h;decide
 ·exact Aem a _ _ _ e h
theorem Ad3{bits:Int}{ch n:Nat}{t:LX}{b:LB}(hb:Bn bits)(ht:t.length=16)(h1:1<=ch)(h6:ch<=6)(n1:1<=n)(n2:n<=4000/ch){l:LX}{e:Int}
  (h:Dx (ch:Int) bits t (n:Int) b=some (l,e)):Cd e:=by
 have hn:n*ch<=4000:=by
  have:=C? ch n2;have h2:=MJ 4000 ch;omega
 have hq4:=X_ h1 h6;generalize 4000/ch=mm at*
 have hh:=NK bits;have XF:Eu (ch:Int) bits (n:Int)=some 0:=by
  rw[Eu,Cv,A_ EE,ZU hb,Aa,A_ E6,Aa,A_ XC,Br D2,Aa,hq4,A_ E7]
 rw[Dx,Qx,XF,Aa,A_ C0,H2,Aa]at h;by_cases hs:Yj b≠0
 ·rw[B2 (by rw[Aj];simpa using hs)]at h;simp only[Aa]at h;cases h;exact Awb b
 have hs0:Yj b=0:=by simpa using hs
 have hlen:=Alk hs0;have e4:Aq (Ac b) 4=((b.length-4:Nat):Int):=by rw[Ac,Cb];omega
 rw[A_ (by rw[Aj,hs0];simp),e4,Cx,Aa,show((b.length-4:Nat):Int).toNat=b.length-4 from rfl]at h;have hpl:(b.take (b.length-4)).length=b.length-4:=by simp
 generalize b.take (b.length-4)=p at*
 have hr:=qp (N:=8*p.length) (p:=p) rfl F0 h1 h6 hn;have hV:=Apj ch p (8*p.length) (n*ch) 0 [];have hat:=b_ (ch:=ch) (p:=p) (N:=8*p.length) (n*ch) 0 [] F0;rw[hr,Aa]at h;generalize Zy ch p (8*p.length) (n*ch) 0 []=V at*
 obtain⟨v,at',er⟩:=V;simp only at*
 by_cases he:er≠0
 ·rw[B2 he]at h;simp only at h;rw[Ir,Iz,B2 (by rw[Aj];simpa using he)]at h;cases h;exact hV
 have he0:er=0:=by simpa using he
 have hvl:=hat.2.2 he0;simp only[WG,HM]at hvl;rw[A_ he]at h;simp only at h;rw[Ir,Iz]at h;split at h
 ·cases h;decide
 ·rw[A_ F2]at h;have hm:v.length %ch=0:=by rw[hvl];exact LN n ch
  obtain⟨l',e',g1,g2,g3,g4,g5⟩:=Afd (v:=v) hb ht h1 h6 F0 hm;rw[g1,Aa,g2,Aa]at h;have:=Am4 hb g4;by_cases hl:e'≠0
  ·rw[B2 hl]at h;cases h;exact this
  ·rw[A_ hl]at h;cases h;decide
theorem yJ{bits:Int}{ch n:Nat}{t:LX}{b:LB}(hb:Bn bits)(ht:t.length=16)(h1:1<=ch)(h6:ch<=6)(n1:1<=n)(n2:n<=4000/ch){l:LX}{e:Int}
  (h:Dx (ch:Int) bits t (n:Int) b=some (l,e)):0<=e:=(Ad3 hb ht h1 h6 n1 n2 h).nn
def shI(f c w r n:Int):Bool:=decide ((f=1\/f=2)/\ (1<=c/\c<=6)/\ (w=8\/w=16\/w=24)/\ (1<=r/\r<=1048576)/\1<=n)
theorem Aza(f c w r n:Int):Vh f c w r n=some (shI f c w r n):=by
 have e2:Xs f c w r n=some (decide ((f=1\/f=2)/\ (1<=c/\c<=6)/\ (1<=r/\r<=1048576)/\1<=n)):=by
  rw[Xs,TH];congr 1;rw[D0];simp only[As,Ap,Qh,B8,I',D4,B7];omega
 have g:∀k:Int,geq w k=decide (w=k):=λk=>by rw[As,D0];simp
 rw[Vh,SY,e2,g,g,g,shI];by_cases h8:w=8
 ·subst h8;simp
 ·by_cases h16:w=16
  ·subst h16;simp
  ·by_cases h24:w=24
   ·subst h24;simp
   ·simp[h8,h16,h24]
theorem Bdh(f c w r n:Int):Mi f c w r n=some (shI f c w r n):=by
 rw[Mi,shI];simp only[As,Dq,Qh,B8,I',D4,B7,RG];split
 ·rename_i h;congr 1;rw[D0];simp only[B8,I',D4,B7];omega
 ·rename_i h;congr 1;symm;rw[KV];omega
structure HdI (f c w r n:Int) (F C W R N:Nat):Prop where
 ef:f=F
 ec:c=C
 ew:w=W
 er:r=R
 en:n=N
 shape:Gn F C W R N=true
 fit:CI C R N=true
theorem Auv(f c w r n:Int):(∃F C W R N:Nat,HdI f c w r n F C W R N)\/ (Nv f c w r n=some 8/\Ec f c w r n=some ([],8)):=by
 by_cases h:shI f c w r n=true
 ·have h':=h;simp only[shI,B7]at h';obtain⟨F,rfl⟩:=FT (show 0<=f by omega);obtain⟨C,rfl⟩:=FT (show 0<=c by omega);obtain⟨W,rfl⟩:=FT (show 0<=w by omega);obtain⟨R,rfl⟩:=FT (show 0<=r by omega);obtain⟨N,rfl⟩:=FT (show 0<=n by omega);have hs:Gn F C W R N=true:=by simp only[Gn,B7];omega
  by_cases hf:CI C R N=true
  ·exact .inl ⟨F,C,W,R,N,rfl,rfl,rfl,rfl,rfl,hs,hf⟩
  ·have hf':CI C R N=false:=by simpa using hf
   refine .inr ⟨?_,?_⟩
   ·rw[Nv,K7,Aa,hs,A_ B3,oD hs,Aa,hf'];rfl
   ·rw[Ec,Qk,gL,Aa,hs,A_ B3,yQ hs,Aa,hf'];rfl
 ·have h':shI f c w r n=false:=by simpa using h
  refine .inr ⟨?_,?_⟩
  ·rw[Nv,Bdh,Aa,h'];rfl
  ·rw[Ec,Qk,Aza,Aa,h'];rfl
theorem HdI.check{f c w r n:Int}{F C W R N:Nat}(h:HdI f c w r n F C W R N):Nv f c w r n=some 0:=by
 obtain⟨rfl,rfl,rfl,rfl,rfl,hs,hf⟩:=h;rw[Nv,K7,Aa,hs,A_ B3,oD hs,Aa,hf];rfl
theorem HdI.Y7{f c w r n:Int}{F C W R N:Nat}(h:HdI f c w r n F C W R N):Ec f c w r n=some (Al (Ak R) N,0):=by
 obtain⟨rfl,rfl,rfl,rfl,rfl,hs,hf⟩:=h;exact iG hs hf
theorem HdI.num{f c w r n:Int}{F C W R N:Nat}(h:HdI f c w r n F C W R N):(F=1\/F=2)/\ (1<=C/\C<=6)/\ (W=8\/W=16\/W=24)/\ (1<=R/\R<=1048576)/\1<=N/\N<=4000/C/\N<=4000/\ (N-1)/Ak R+1<=1000:=by
 obtain⟨rfl,rfl,rfl,rfl,rfl,hs,hf⟩:=h;simp only[Gn,B7]at hs;simp only[CI,B7]at hf;have hd:4000/C<=4000:=FU _ _;omega
theorem HdI.Q0{f c w r n:Int}{F C W R N:Nat}(h:HdI f c w r n F C W R N):Ic f c w r n=some (Al (Ak R) N):=by
 have hn:=h.num;obtain⟨rfl,rfl,rfl,rfl,rfl,hs,hf⟩:=h;rw[Ic,eB F0 F0 F0];rfl
section
variable {f c w r n:Nat} (h1:Gn f c w r n=true) (h2:CI c r n=true)
include h1 h2
theorem Ade(k:Nat)(hk:k<= (Al (Ak r) n).length):∀(j i q:Nat),i+j=k->j<q->Oo (k:Int) (f:Int) (c:Int) (w:Int) (r:Int) (n:Int) (Al (Ak r) n) q (((Al (Ak r) n).take i).sum) (i:Int)=some (MH c w (Al (Ak r) n) k)
 |0,i,q+1,hi,_=>by
  obtain⟨hc,hw,hr,hn,_⟩:=My h1;obtain⟨g1,g2,g3⟩:=UB h1 h2;have b:=qO g1 i;obtain rfl:i=k:=F0
  have hb:((Al (Ak r) n).take i).sum.toNat*(c*wB (w:Int))<=4000*(6*3):=HG F0 (HG hc.2 (vo (w:Int)).2);rw[Oo,DB,A_ J9,Ahs,Amc,Gq,Aa];simp only;rw[Fw,eZ hc.2 hw,Aa,MH];have e:((Al (Ak r) n).take i).sum=((((Al (Ak r) n).take i).sum.toNat:Nat):Int):=F0
  rw[e,Ex K6 K6,<-JO];rfl
 |j+1,i,q+1,hi,hq=>by
  obtain⟨g1,g2,g3⟩:=UB h1 h2;have hK:=s? h2;have hlt:i<(Al (Ak r) n).length:=F0
  have b1:=qO g1 i;have b2:=qO g1 (i+1);have e:=Fj hlt;have ih:=Ade k hk j (i+1) q F0 F0;rw[e]at ih;rw[Oo,DB,B2 C1,Bq hlt,Aa,Aa,Ah,Ah];exact ih
theorem Ah6(k:Nat)(hk:k<= (Al (Ak r) n).length):CE (f:Int) (c:Int) (w:Int) (r:Int) (n:Int) (k:Int)=some (MH c w (Al (Ak r) n) k):=by
 have hK:=s? h2;obtain⟨g1,g2,g3⟩:=UB h1 h2;obtain⟨hc,hw,hr,hn,_⟩:=My h1;have h:=Ade h1 h2 k hk k 0 Ax F0 B_;rw[J',M7]at h;rw[CE,Alx,Ic,eB hr.2 hn g3,Aa,Aa];exact h
theorem Am5{i:Nat}(hlt:i<(Al (Ak r) n).length):Ae (MH c w (Al (Ak r) n) i) (Ca (Bm (Bm ((Al (Ak r) n)[i]) (c:Int)) (w:Int)) 8)=MH c w (Al (Ak r) n) (i+1):=by
 obtain⟨hc,hw,hr,hn,_⟩:=My h1;obtain⟨g1,g2,g3⟩:=UB h1 h2;have b1:=qO g1 i;have b2:=qO g1 (i+1);have e:=Fj hlt;have h0:=g1 _ (D5 hlt);have e2:(Al (Ak r) n)[i]=(((Al (Ak r) n)[i].toNat:Nat):Int):=F0
 have hb:((Al (Ak r) n).take (i+1)).sum.toNat*(c*wB (w:Int))<=4000*(6*3):=HG F0 (HG hc.2 (vo (w:Int)).2);rw[e2,Bhc F0 hc.2 hw,MH,MH];have e3:((Al (Ak r) n).take (i+1)).sum.toNat=((Al (Ak r) n).take i).sum.toNat+(Al (Ak r) n)[i].toNat:=F0
 rw[e3,C7]at hb⊢;rw[Ah];omega
theorem Adi(a:Nat)(ha:a<= (Al (Ak r) n).length)(o p:LB)(m:LI)(a':Int)(N:LB)(u:Bool)(v:Int):∀(j i q:Nat),i+j=a->j<q->
  Tz ((Al (Ak r) n).take a) o p (f:Int) (c:Int) (w:Int) (r:Int) (n:Int) m a' N u v q (MH c w (Al (Ak r) n) i) (i:Int)=some (tZ (Ac N) (MH c w (Al (Ak r) n) a))
 |0,i,q+1,hi,_=>by
  obtain rfl:i=a:=F0
  rw[Tz,II,A_ (by rw[Ad,Ac,C8];simp;omega),YU,Bg8]
 |j+1,i,q+1,hi,hq=>by
  have hK:=s? h2;have hlt:i<(Al (Ak r) n).length:=F0
  have hlt2:i<((Al (Ak r) n).take a).length:=by rw[C8];omega
  have ih:=Adi a ha o p m a' N u v j (i+1) q F0 F0;rw[Tz,II,B2 F4,Bq hlt2,Aa,ku,Am5 h1 h2 hlt,Ah];exact ih
end
theorem bZ{p:Prop}(h:p:=by simp[Aj,Ad,Ap,Ac];omega):p:=h
theorem Q2(l:List α):geq (Ac l) 0=decide (l=[]):=by
 cases l with
 |nil=>rfl
 |cons x l=>rw[As,Ac,D_,E5 B3,vS];omega
theorem gV(l:List α):Dz (Ac l) 0=decide (l≠ []):=by
 cases l with
 |nil=>rfl
 |cons x l=>rw[Ap,Ac,D_,K! B3];simp
inductive FitD (o:LB) (f c w r n:Int) (g:LI) (a:Int) (x:LB):Prop
 |new:f=0->c=0->w=0->r=0->n=0->g=[]->a=0->x=[]->FitD o f c w r n g a x
 |head (F C W R N:Nat):HdI f c w r n F C W R N-> (o==([]:LB))=decide (F=1)->g=[]->a=0->x=[]->FitD o f c w r n g a x
 |tab (F C W R N A:Nat):HdI f c w r n F C W R N-> (o==([]:LB))=decide (F=1)->Vm g=true->g.length=(Al (Ak R) N).length->a=A->A<=g.length->FitD o f c w r n g a x
theorem An1(f c w r n:Int)(o:LB):Se f c w r n o=Es f c w r n o:=rfl
theorem Amo(o p:LB)(f c w r n:Int)(g:LI)(a:Int)(x:LB)(u:Bool)(v:Int):
  (EM o p f c w r n g a x u v=some false/\Nt o p f c w r n g a x u v=some false)\/
  (EM o p f c w r n g a x u v=some true/\Nt o p f c w r n g a x u v=De o p f c w r n g a x u v/\FitD o f c w r n g a x):=by
 rw[EM,ZA,Nt,BL];by_cases hz:f=0/\c=0/\w=0/\r=0/\n=0
 ·obtain⟨rfl,rfl,rfl,rfl,rfl⟩:=hz;rw[B2 F2,B2 F2,Q2,Q2,gV,gV];by_cases h:g=[]/\a=0/\x=[]
  ·obtain⟨rfl,rfl,rfl⟩:=h;exact .inr ⟨rfl,by rw[A_ F2], .new rfl rfl rfl rfl rfl rfl rfl rfl⟩
  ·refine .inl ⟨?_,?_⟩
   ·congr 1;rw[vJ];intro e;simp only[B8,B7,As,D4]at e;exact h ⟨e.1.1,e.1.2,e.2⟩
   ·rw[B2];simp only[I',B7,Aj,LJ];by_cases e1:g=[]
    ·by_cases e2:a=0
     ·exact .inr λe3=>h ⟨e1,e2,e3⟩
     ·exact .inl (.inr e2)
    ·exact .inl (.inl e1)
 ·have hz2:¬(((geq f 0)&&((geq c 0)&&((geq w 0)&&((geq r 0)&&((geq n 0)&&true)))))=true):=by
   simp only[B8,As,D4,M?];exact hz
  rw[A_ hz2,A_ hz2];rcases Auv f c w r n with⟨F,C,W,R,N,h⟩|⟨e1,e2⟩
  ·rw[h.Y7,h.check,Aa,Aa,An1];simp only;rw[A_ F2,A_ F2,Es];have hf:geq f 1=decide (F=1):=by rw[h.ef,As,D0];simp;omega
   rw[hf];by_cases hp:(o==([]:LB))=decide (F=1)
   ·rw[A_ (by rw[hp];simp),Aa,Aa,A_ F2,A_ F2,Bhm,YT,Th,Tf,Q2,Q2,gV];by_cases hg:g=[]
    ·subst hg;rw[B2 B3,B2 B3];by_cases h':a=0/\x=[]
     ·obtain⟨rfl,rfl⟩:=h';exact .inr ⟨rfl,by rw[A_ F2], .head F C W R N h hp rfl rfl rfl⟩
     ·refine .inl ⟨?_,?_⟩
      ·congr 1;rw[vJ];intro e;simp only[B8,B7,As,D4]at e;exact h' e
      ·rw[B2];simp only[I',B7,Aj,LJ];by_cases e2:a=0
       ·exact .inr λe3=>h' ⟨e2,e3⟩
       ·exact .inl e2
    ·rw[A_ (by simpa using hg),A_ (by simpa using hg),bS,jY,Aa,Aa];by_cases ht:Vm g=true
     ·rw[B2 ht,h.Q0];simp only[Aa];by_cases hl:g.length=(Al (Ak R) N).length/\0<=a/\a<=g.length
      ·obtain⟨hl,ha0,ha1⟩:=hl;obtain⟨A,rfl⟩:=FT ha0;have hA:A<= (Al (Ak R) N).length:=F0
       rw[A_ bZ,A_ F2,A_ bZ,Cx,Aa,Bho];have hh:=h;clear hf;obtain⟨rfl,rfl,rfl,rfl,rfl,hs,hf⟩:=hh;have hlp:=Adi hs hf A hA o p g (A:Int) x u v A 0 Ax F0 (by have:=Ar;have:=s? hf;omega);have h0:MH C W (Al (Ak R) N) 0=0:=by rw[MH,J',M7];simp
       rw[h0,show((0:Nat):Int)=0 from rfl]at hlp;rw[show((A:Int)).toNat=A from rfl,hlp,Ah6 hs hf A hA,Aa];by_cases hx:(x.length:Int)<=MH C W (Al (Ak R) N) A
       ·refine .inr ⟨?_,?_, .tab F C W R N A h hp ht hl rfl F0⟩
        ·rw[Qh,Ac,K! hx]
        ·rw[A_ C3]
       ·refine .inl ⟨?_,?_⟩
        ·rw[Qh,Ac,E5 hx]
        ·rw[B2 C3]
      ·refine .inl ⟨?_,?_⟩
       ·rw[B2 bZ]
       ·rw[A_ F2,B2 bZ]
     ·refine .inl ⟨?_,?_⟩
      ·rw[A_ ht,B2 N3]
      ·rw[A_ ht,B2 F2,B2 B3]
   ·rw[B2 (by simpa using hp),Aa,Aa,B2 F2,B2 F2];exact .inl ⟨rfl,rfl⟩
  ·rw[e1,e2,Aa,Aa];simp only;rw[B2 F2,B2 F2];exact .inl ⟨rfl,rfl⟩
theorem Axu(b:LB)(n:Int):Cd (mH b n).2:=by
 unfold mH
 repeat' split
 all_goals first|decide|exact .inl rfl
theorem Awm(b:LB):(Yl b).2=6\/Cd (Yl b).2:=by
 unfold Yl zi
 repeat' split
 all_goals first|exact .inl rfl|exact .inr (Axu _ _)|exact .inr F2
theorem Asa(b:LB):(Mp b).2=6\/Cd (Mp b).2:=by
 unfold Mp
 repeat' split
 all_goals first|exact .inl rfl|exact .inr (.inl rfl)|exact .inr F2
theorem Aya(b:LB):(Dh b).2=6\/Cd (Dh b).2:=by
 unfold Dh;split
 ·exact Awm b
 ·exact Asa b
theorem zk(b:LB):∀(j p:Nat),p<=b.length->b.length<j+p->Cd (Cu b j p).2
 |0,p,h1,h2=>by omega
 |j+1,p,h1,h2=>by
  rw[Cu];split
  ·exact .inl rfl
  ·rename_i h6;split
   ·exact(Aya _).resolve_left h6
   ·rename_i h0;split
    ·exact(by decide:Cd 4)
    ·have hz:Dh (b.drop p)=((Dh (b.drop p)).1,0):=by rw[mL];exact⟨rfl,by simpa using h0⟩
     obtain⟨k1,k2⟩:=xA hz;rw[D3]at k2;split
     ·exact .inl rfl
     ·exact zk b j _ F0 F0
theorem jk(b:LB):Cd (Bw b).2:=by
 unfold Bw G_;split
 ·exact .inl rfl
 ·exact zk b _ _ F0 F0
theorem Z8(b:LB):0<= (Bw b).2:=(jk b).nn
theorem oP(b:LB):Cd (Eg b).2.2.2.2.2:=by
 unfold Eg
 repeat' split
 all_goals first|decide|exact .inl rfl
theorem nT(b:LB):0<= (Eg b).2.2.2.2.2:=(oP b).nn
theorem Azy(b:LB){n:Nat}(h:1<=n/\n<=1000):Cd (Ez b n).2:=by
 unfold Ez;rw[A_ (λe=>e h)]
 repeat' split
 all_goals first|decide|exact .inl rfl
theorem oI(b:LB)(n:Nat):0<= (Ez b n).2:=by
 unfold Ez
 repeat' split
 all_goals simp
def uh:LB:=[73,68,51]
def C_:LB:=[65,80,69,84,65,71,69,88]
def Qw(b s:LB):Bool:=decide (b.length<s.length)&&(b==s.take b.length)
theorem Aeu(b s:LB):Wn b s=some (Qw b s):=by
 rw[Wn,Qw];by_cases h:b.length<s.length
 ·rw[B2 PK,Ac,Cx,Aa,K! h,M8];rfl
 ·rw[A_ PK,E5 h];rfl
theorem Ayn(b s:LB)(h:b.length<s.length):Lk s b=some (Qw b s):=by
 rw[Lk,Iu,B2 wO,Ac,Cx,Aa,Aa,Qw,K! h,M8,C2];congr 1;rw[D0,D4,D4];exact eq_comm
theorem yH{b s:LB}(h:¬b.length<s.length):Qw b s=false:=by rw[Qw,E5 h];rfl
theorem Ax4(b:LB):Vg b=some (Qw b uh||Qw b C_):=by
 obtain⟨q,hq⟩:∃q,Ax=q+3:=⟨Ax-3,by have:=Ar;omega⟩;have l3:Ml b (q+1) 2=some false:=by rw[Ml,Zt,A_ F2];rfl
 have l2:Ml b (q+2) 1=some (Qw b C_):=by
  rw[Ml,Zt,B2 F2,show Ao ([([73,68,51]:LB),([65,80,69,84,65,71,69,88]:LB)]:List LB) 1=some C_ from rfl,Aa,show Ae (1:Int) 1=2 from rfl];by_cases h:b.length<C_.length
  ·rw[B2 PK,Ayn b C_ h,Aa];by_cases hb:Qw b C_=true
   ·rw[B2 hb,hb]
   ·rw[A_ hb,l3];simpa using hb
  ·rw[A_ PK,l3,yH h]
 rw[Vg,YY,Bh0,hq,Ml,Zt,B2 F2,show Ao ([([73,68,51]:LB),([65,80,69,84,65,71,69,88]:LB)]:List LB) 0=some uh from rfl,Aa,show Ae (0:Int) 1=1 from rfl];by_cases h:b.length<uh.length
 ·rw[B2 PK,Ayn b uh h,Aa];by_cases hb:Qw b uh=true
  ·rw[B2 hb,hb];rfl
  ·rw[A_ hb,l2,Bool.eq_false_iff.2 hb];rfl
 ·rw[A_ PK,l2,yH h];rfl
def stS(b:LB):Int×Int×Int×Int×Int×Int×Int:=
 if(Bw b).2=24 then(0,0,0,0,0,0, -1)else if(Bw b).2≠0 then(0,0,0,0,0,0,(Bw b).2)else
 if(Qw (Jl b) uh||Qw (Jl b) C_)=true then(0,0,0,0,0,0, -1)else
 if(Eg (Jl b)).2.2.2.2.2=24 then(0,0,0,0,0,0, -1)else((Bw b).1+22,(Eg (Jl b)).1,(Eg (Jl b)).2.1,(Eg (Jl b)).2.2.1,(Eg (Jl b)).2.2.2.1,(Eg (Jl b)).2.2.2.2.1,(Eg (Jl b)).2.2.2.2.2)
theorem CW(b:LB)(hb:b.length<=100000):DQ b=some (stS b):=by
 rw[DQ,Abp,EY b F0,Aa,stS];have hok:=EI (b:=b);simp only;by_cases h1:(Bw b).2=24
 ·rw[B2 (by rw[As];simpa using h1),B2 h1]
 rw[A_ (by rw[As];simpa using h1),A_ h1];by_cases h2:(Bw b).2≠0
 ·rw[B2 (by rw[Aj];simpa using h2),B2 h2]
 have h0:(Bw b).2=0:=by simpa using h2
 obtain⟨k1,k2,k3⟩:=hok h0;rw[A_ (by rw[Aj,h0];simp),A_ h2,Bu,Aa,Aeu,Aa,show b.drop (Bw b).1.toNat=Jl b from rfl,show([73,68,51]:LB)=uh from rfl,show([65,80,69,84,65,71,69,88]:LB)=C_ from rfl];by_cases h3:Qw (Jl b) uh=true
 ·rw[B2 h3,h3,Bool.true_or,B2 rfl]
 rw[A_ h3,Aeu,Aa,Bool.eq_false_iff.2 h3,wM];by_cases h4:Qw (Jl b) C_=true
 ·rw[B2 h4,B2 h4]
 have hl:(Jl b).length<=b.length:=by rw[Jl,D3];omega
 rw[A_ h4,A_ h4,Abk,Abu,lW _ F0,Aa];simp only;by_cases h5:(Eg (Jl b)).2.2.2.2.2=24
 ·rw[B2 (by rw[As];simpa using h5),B2 h5]
 ·rw[A_ (by rw[As];simpa using h5),A_ h5,Ah]
theorem wh{p:Prop}(h:p:=by simp[uh];omega):p:=h
theorem wo{p:Prop}(h:p:=by simp[C_];omega):p:=h
theorem Qf{p q:LB}{n:Nat}(h:n<=p.length):(p++q).take n=p.take n:=by rw[O_ h]
theorem N8{p q:LB}{i:Nat}(h:i<p.length):(p++q).getD i 0=p.getD i 0:=by
 rw[List.getD_eq_getElem?_getD,List.getElem?_append_left h,<-List.getD_eq_getElem?_getD]
theorem Uz{p q:LB}{a w:Nat}(h:a+w<=p.length:=by omega):part (p++q) a w=part p a w:=by rw[part,Qf h,part]
theorem Av7{p q s:LB}(h:Qw p s=false)(hl:p.length<s.length):(p++q).take s.length≠s:=by
 intro e;rw[Qw,K! hl,M8]at h;have h1:p=s.take p.length:=by
  have:=congrArg (List.take p.length) e;rw[LD,I? F0,Qf (C9 _),FX]at this;exact this
 rw[<-h1]at h;simp at h
theorem zn{p:LB}(q:LB)(h:(Yl p).2≠24)(h6:Qw p uh=false):Yl (p++q)=Yl p:=by
 unfold Yl at h⊢;by_cases h3:3<=p.length/\p.take 3=[73,68,51]
 ·have h3':3<= (p++q).length/\ (p++q).take 3=[73,68,51]:=⟨by rw[B6];omega,by rw[Qf h3.1];exact h3.2⟩;have n1:¬ ¬(3<=p.length/\p.take 3=[73,68,51]):=λf=>f h3;have n2:¬ ¬(3<= (p++q).length/\ (p++q).take 3=[73,68,51]):=λf=>f h3';rw[A_ n1]at h;rw[A_ n1,A_ n2];by_cases h10:p.length<10
  ·rw[B2 h10]at h;exact absurd rfl h
  ·have h10':¬(p++q).length<10:=by rw[B6];omega
   rw[A_ h10]at h;rw[A_ h10,A_ h10',Uz,N8 F0,N8 F0,N8 F0];split
   ·rfl
   ·rename_i hc;rw[A_ hc]at h;unfold zi mH at h⊢;rw[N8 F0];generalize(jZ (part p 6 4) 0).1+10+(if p.getD 5 0=16 then 10 else 0)=n at h⊢;by_cases c1:4000<n
    ·rw[B2 c1,B2 c1]
    ·rw[A_ c1]at h;rw[A_ c1,A_ c1];by_cases c2:(p.length:Int)<n
     ·rw[B2 c2]at h;exact absurd rfl h
     ·have c2':¬((p++q).length:Int)<n:=by rw[B6];omega
      rw[A_ c2,A_ c2',Qf F0,Uz]
 ·rw[B2 h3,B2];rintro⟨_,h5⟩;by_cases hl:3<=p.length
  ·rw[Qf hl]at h5;exact h3 ⟨hl,h5⟩
  ·exact Av7 h6 wh h5
theorem Anb{p:LB}(q:LB)(h:(Mp p).2≠24)(h6:Qw p C_=false):Mp (p++q)=Mp p:=by
 unfold Mp at h⊢;by_cases h3:8<=p.length/\p.take 8=yu
 ·have h3':8<= (p++q).length/\ (p++q).take 8=yu:=⟨by rw[B6];omega,by rw[Qf h3.1];exact h3.2⟩;have n1:¬ ¬(8<=p.length/\p.take 8=yu):=λf=>f h3;have n2:¬ ¬(8<= (p++q).length/\ (p++q).take 8=yu):=λf=>f h3';rw[A_ n1]at h;rw[A_ n1,A_ n2];by_cases h10:p.length<32
  ·rw[B2 h10]at h;exact absurd rfl h
  ·have h10':¬(p++q).length<32:=by rw[B6];omega
   have eb:ML (p++q)=ML p:=by rw[ML,ML,Uz,Uz]
   rw[A_ h10]at h;rw[A_ h10,A_ h10',Uz,Uz,eb,Qf (n:=32) F0];split
   ·rfl
   ·rename_i hc;rw[A_ hc]at h;by_cases c2:p.length<Gw (part p 12 4)+32
    ·rw[B2 c2]at h;exact absurd rfl h
    ·have c2':¬(p++q).length<Gw (part p 12 4)+32:=by rw[B6];omega
     rw[A_ c2,A_ c2',Qf F0]
 ·rw[B2 h3,B2];rintro⟨_,h5⟩;by_cases hl:8<=p.length
  ·rw[Qf hl]at h5;exact h3 ⟨hl,h5⟩
  ·exact Av7 h6 wo h5
theorem Y5{p:LB}(q:LB)(h:(Dh p).2≠24)(h6:(Dh p).2=6->Qw p uh=false/\Qw p C_=false):Dh (p++q)=Dh p:=by
 have uT:∀s:LB,s.length<=p.length->Qw p s=false:=λs hs=>yH F0;unfold Dh at h h6⊢;by_cases hT:(Yl p).2≠6
 ·rw[B2 hT]at h⊢;have h3:Qw p uh=false:=by
   refine uT _ ?_;unfold Yl at hT;by_cases h3:3<=p.length/\p.take 3=[73,68,51]
   ·simp[uh];omega
   ·rw[B2 h3]at hT;exact absurd rfl hT
  rw[zn q h h3,B2 hT]
 ·rw[A_ hT]at h h6⊢;have hb:Qw p uh=false/\Qw p C_=false:=by
   by_cases hA:(Mp p).2=6
   ·exact h6 hA
   ·unfold Mp at hA;by_cases h3:8<=p.length/\p.take 8=yu
    ·exact⟨uT _ wh,uT _ wo⟩
    ·rw[B2 h3]at hA;exact absurd rfl hA
  have hT':¬(Yl (p++q)).2≠6:=by
   rw[zn q (by simp only[ne_eq,Classical.not_not]at hT;rw[hT];decide) hb.1];exact hT
  rw[A_ hT',Anb q h hb.2]
theorem Bfk{p:LB}(q:LB):∀(j s j':Nat),s<=p.length->p.length-s<j->p.length+q.length-s<j'-> (Cu p j s).2≠24->
  ((Cu p j s).2=0->Qw (p.drop (s+(Cu p j s).1.sum.toNat)) uh=false/\Qw (p.drop (s+(Cu p j s).1.sum.toNat)) C_=false)->Cu (p++q) j' s=Cu p j s
 |0,s,j',_,hj,_,_,_=>absurd hj (HU _)
 |j+1,s,0,_,_,hj,_,_=>absurd hj (HU _)
 |j+1,s,j'+1,hs,hj,hj',h,hb=>by
  have ed:(p++q).drop s=p.drop s++q:=NN hs;rw[Cu]at h hb⊢;rw[Cu,ed];by_cases h6:(Dh (p.drop s)).2=6
  ·rw[B2 h6]at h hb⊢;have hb':=hb rfl;simp only[M7,WM,K4]at hb';rw[Y5 q (by rw[h6];decide) (λ_=>hb'),B2 h6]
  ·rw[A_ h6]at h hb⊢;by_cases h0:(Dh (p.drop s)).2≠0
   ·rw[B2 h0]at h⊢;rw[Y5 q h (λe=>absurd e h6),A_ h6,B2 h0]
   ·rw[A_ h0]at h hb⊢;have h0':(Dh (p.drop s)).2=0:=by simpa using h0
    have e1:Dh (p.drop s++q)=Dh (p.drop s):=Y5 q (by rw[h0'];decide) (λe=>absurd e h6);rw[e1,A_ h6,A_ h0];have hok:=xA (b:=p.drop s) (n:=(Dh (p.drop s)).1) (by rw[<-h0']);rw[D3]at hok;by_cases hm:4000<(s:Int)+(Dh (p.drop s)).1
    ·rw[B2 hm,B2 hm]
    ·rw[A_ hm]at h hb⊢;rw[A_ hm];have hl1:s+(Dh (p.drop s)).1.toNat<=p.length:=F0
     have ih:=Bfk (p:=p) q j (s+(Dh (p.drop s)).1.toNat) j' hl1 F0 F0;by_cases hr:(Cu p j (s+(Dh (p.drop s)).1.toNat)).2=0
     ·rw[B2 hr]at hb⊢;have hle1:s+(Dh (p.drop s)).1.toNat<=p.length:=F0
      have hle2:s+(Dh (p.drop s)).1.toNat<=4000:=F0
      have hi:=(zL p j (s+(Dh (p.drop s)).1.toNat) hle1 hle2 hr).1;have hsum:(0:Int)<= (Cu p j (s+(Dh (p.drop s)).1.toNat)).1.sum:=by
       have:∀l:LI,(∀x∈l,10<=x)->0<=l.sum:=by
        intro l
        induction l with
        |nil=>intro _;simp
        |cons a l ih=>intro h;rw[H'];have:=h a B3;have:=ih (λx hx=>h x (by simp[hx]));omega
       exact this _ hi
      rw[ih (by rw[hr];decide) (λ_=>by
       have:=hb rfl;simp only[H']at this;rw[show s+((Dh (p.drop s)).1+(Cu p j (s+(Dh (p.drop s)).1.toNat)).1.sum).toNat=s+(Dh (p.drop s)).1.toNat+(Cu p j (s+(Dh (p.drop s)).1.toNat)).1.sum.toNat by omega]at this;exact this),B2 hr]
     ·rw[A_ hr]at h⊢;rw[ih h (λe=>absurd e hr),A_ hr]
theorem Bl8{p:LB}(q:LB)(h:(Bw p).2≠24)(hb:(Bw p).2=0->Qw (Jl p) uh=false/\Qw (Jl p) C_=false):Bw (p++q)=Bw p:=by
 have key:Cu (p++q) ((p++q).length+1) 0=Cu p (p.length+1) 0:=by
  refine Bfk q (p.length+1) 0 ((p++q).length+1) (SJ _) F0 KO ?_ ?_
  ·unfold Bw G_ at h;by_cases h0:(Cu p (p.length+1) 0).2=0
   ·rw[h0];decide
   ·rw[A_ h0]at h;exact h
  ·intro h0;have e:Bw p=(((0:Nat):Int)+(Cu p (p.length+1) 0).1.sum,0):=by unfold Bw G_;rw[B2 h0]
   have:=hb (by rw[e]);rw[Jl,e]at this;simpa using this
 unfold Bw G_;rw[key]
theorem Auf{p:LB}(q:LB)(h:(Eg p).2.2.2.2.2≠24):Eg (p++q)=Eg p:=by
 unfold Eg at h⊢;by_cases h1:p.take (min 4 p.length)≠Kt.take (min 4 p.length)
 ·have h1':(p++q).take (min 4 (p++q).length)≠Kt.take (min 4 (p++q).length):=by
   intro e;have hle:min 4 p.length<=min 4 (p++q).length:=by rw[B6];omega
   have:=congrArg (List.take (min 4 p.length)) e;rw[LD,LD,I? hle,Qf F0]at this;exact h1 this
  rw[B2 h1,B2 h1']
 ·rw[A_ h1]at h;by_cases h2:p.length<22
  ·rw[B2 h2]at h;exact absurd rfl h
  ·have h2':¬(p++q).length<22:=by rw[B6];omega
   have h1':¬(p++q).take (min 4 (p++q).length)≠Kt.take (min 4 (p++q).length):=by
    rw[I? F0]at h1⊢;rw[Qf F0];exact h1
   have e0:f0 (p++q)=f0 p:=by unfold f0;rw[Uz]
   have e1:f1 (p++q)=f1 p:=by unfold f1;rw[Uz]
   have e2:f2 (p++q)=f2 p:=by unfold f2;rw[Uz]
   have e3:f3 (p++q)=f3 p:=by unfold f3;rw[Uz]
   have e4:f4 (p++q)=f4 p:=by unfold f4;rw[Uz]
   rw[A_ h1,A_ h1',A_ h2,A_ h2',e0,e1,e2,e3,e4,Qf F0,Uz]
theorem Bbf{p:LB}(q:LB)(h:(stS p).2.2.2.2.2.2≠ -1):stS (p++q)=stS p:=by
 unfold stS at h⊢;by_cases h1:(Bw p).2=24
 ·rw[B2 h1]at h;exact absurd rfl h
 rw[A_ h1]at h;by_cases h2:(Bw p).2≠0
 ·rw[Bl8 q h1 (λe=>absurd e h2),A_ h1,B2 h2,A_ h1,B2 h2]
 rw[A_ h2]at h;have h0:(Bw p).2=0:=by simpa using h2
 by_cases h3:(Qw (Jl p) uh||Qw (Jl p) C_)=true
 ·rw[B2 h3]at h;exact absurd rfl h
 rw[A_ h3]at h;have h3f:Qw (Jl p) uh=false/\Qw (Jl p) C_=false:=by
  simp only[Bool.not_eq_true,V_]at h3;exact h3
 have eF:=Bl8 q h1 (λ_=>h3f);obtain⟨k1,k2,k3⟩:=EI h0;have eH:Jl (p++q)=Jl p++q:=by rw[Jl,eF,Jl,NN F0]
 by_cases h5:(Eg (Jl p)).2.2.2.2.2=24
 ·rw[B2 h5]at h;exact absurd rfl h
 have eR:Eg (Jl p++q)=Eg (Jl p):=Auf q h5;have beg:∀s:LB,Qw (Jl p) s=false-> (s=uh\/s=C_)->Qw (Jl p++q) s=false:=by
  intro s hs hk;by_cases hl:(Jl p++q).length<s.length
  ·have hp:(Jl p).length<s.length:=by rw[B6]at hl;omega
   rw[Qw,K! hp,M8]at hs;rw[Qw,K! hl,M8];refine beq_eq_false_iff_ne.2 λe=>?_;have:=congrArg (List.take (Jl p).length) e;rw[Qf (C9 _),FX,LD,I? KO]at this;rw[<-this]at hs;simp at hs
  ·exact yH hl
 rw[eF,eH,eR,A_ h1,A_ h2,beg _ h3f.1 (.inl rfl),beg _ h3f.2 (.inr rfl),A_ F2,A_ h5,A_ h1,A_ h2,A_ h3]
theorem Aue{p:LB}(q:LB)(n:Nat)(h:(Ez p n).2≠24):Ez (p++q) n=Ez p n:=by
 unfold Ez at h⊢;by_cases h1:1<=n/\n<=1000
 ·have n1:¬ ¬(1<=n/\n<=1000):=λf=>f h1;rw[A_ n1]at h;rw[A_ n1,A_ n1];by_cases h2:p.length<4*n+4
  ·rw[B2 h2]at h;exact absurd rfl h
  ·have h2':¬(p++q).length<4*n+4:=by rw[B6];omega
   have et:XW (p++q) n=XW p n:=by
    unfold XW;refine S9 λi hi=>?_;rw[lS]at hi;rw[Uz]
   rw[A_ h2,A_ h2',Qf F0,Uz,et]
 ·rw[B2 h1,B2 h1]
def RX(g a:LB)(k p o u v:Int)(f:LI)(b:Int)(h:LB)(m:Bool)(n:Int):Option Int:=
if(geq k 0)then
(Ku a).bind λ(al,ba)=>
if(geq ba 24)then
Gf true 0
else
if(Bd ba 0)then
(Am ba).bind λ(bx,bz)=>
Gf bx bz
else
(Bp a al (Ac a)).bind λda=>
(Vg da).bind λan=>
if an then
Gf true 0
else
(Bp a al (Ac a)).bind λdb=>
(Ok db).bind λ(ae,af,aa,ag,ab,bb)=>
if(geq bb 24)then
Gf true 0
else
if(Bd bb 0)then
(Am bb).bind λ(dc,dd)=>
Gf dc dd
else
(
(Bp a (Ae al 22) (Ac a)).bind λak=>
(
BT g ak ae af aa ag ab b m n f h))
else
if(geq (Ac f) 0)then
if(geq k 2)then
if(Cj (Ac a) 8)then
Lt true 0
else
BR g a k p o u v b m n f h
else
Mf g a k p o u v b m n f h 0
else
if(Cj b (Ac f))then
(Ao f b).bind λ_=>
(Ao f b).bind λw=>
if(Cj (Ac a) w)then
Hm true 0
else
(Nu g).bind λ(ap,am)=>
if(Bd am 0)then
(Am am).bind λ(de,df)=>
Hm de df
else
(Ec k p o u v).bind λ(ad,dg)=>
if((Bd dg 0)||(Le b (Ac ad)))then
(Am 8).bind λ(dh,di)=>
Hm dh di
else
MX w g a k p o u v b m n ap ad f h
else
if(Dz (Ac a) 4000)then
(Am 38).bind λ(dj,bf)=>
Ch ((dj==true)&&((geq bf 0)&&true))
else
CB
theorem H5(d:Bool)(e:Int):Gf d e=Ch (d&&geq e 0):=by
 rw[Gf,Avc];cases d<;>simp
theorem XH(d:Bool)(e:Int):Lt d e=Ch (d&&geq e 0):=by
 rw[Lt,Axq];cases d<;>simp
theorem sR(d:Bool)(e:Int):Hm d e=Ch (d&&geq e 0):=by
 rw[Hm,Aw2];cases d<;>simp
theorem rp4{o p:LB}{f c w r n:Int}{g:LI}{a:Int}{x:LB}{u:Bool}{v:Int}{t1 t2:LB}{t3 t4 t5 t6 t7:Int}{t8:LI}{t9:Int}{t10:LB}{t11:Bool}{t12 e:Int}
  (h:Af o p f c w r n g a x u v=some (t1,t2,t3,t4,t5,t6,t7,t8,t9,t10,t11,t12,e)):De o p f c w r n g a x u v=some (geq e (-1)):=by
 rw[De,BO,h,Aa]
theorem pW{e:Int}(h:0<=e):geq e (-1)=false:=by rw[As,vS];omega
theorem Asr(o p:LB)(c w r n:Int)(g:LI)(a:Int)(x:LB)(u:Bool)(v:Int)(hp:p.length<=100000):
  ∃B:Bool,RX o p 0 c w r n g a x u v=Ch B/\De o p 0 c w r n g a x u v=some B:=by
 have hT:Af o p 0 c w r n g a x u v=Af o p 0 c w r n g a x u v:=rfl
 conv at hT=>rhs;rw[Af,Bo,B2 F2,CW p hp,Aa,stS]
 have hfn:=Z8 p;have hrn:=nT (Jl p);rw[RX,B2 F2,Ll p F0,Aa];have hok:=EI (b:=p);simp only at hT⊢;by_cases h1:(Bw p).2=24
 ·rw[B2 h1]at hT;simp only at hT;rw[B2 F2]at hT;rw[B2 (by rw[As];simpa using h1),H5];exact⟨_,rfl,rp4 hT⟩
 rw[A_ h1]at hT;rw[A_ (by rw[As];simpa using h1)];by_cases h2:(Bw p).2≠0
 ·rw[B2 h2]at hT;simp only at hT;rw[B2 (by rw[Aj];simpa using h2)]at hT;rw[B2 (by rw[Aj];simpa using h2),Am,Aa];simp only;rw[H5];exact⟨_,rfl,(rp4 hT).trans (by rw[pW hfn];rfl)⟩
 have h0:(Bw p).2=0:=by simpa using h2
 obtain⟨k1,k2,k3⟩:=hok h0;have hl:(Jl p).length=p.length-(Bw p).1.toNat:=by rw[Jl,D3]
 rw[A_ h2]at hT;rw[A_ (by rw[Aj,h0];simp),Bu,Aa,Aa,show p.drop (Bw p).1.toNat=Jl p from rfl,Ax4,Aa];by_cases h3:(Qw (Jl p) uh||Qw (Jl p) C_)=true
 ·rw[B2 h3]at hT⊢;simp only at hT;rw[B2 F2]at hT;rw[H5];exact⟨_,rfl,rp4 hT⟩
 rw[A_ h3]at hT⊢;rw[FI _ F0,Aa];by_cases h5:(Eg (Jl p)).2.2.2.2.2=24
 ·rw[B2 h5]at hT;simp only at hT;rw[B2 F2]at hT;rw[B2 (by rw[As];simpa using h5),H5];exact⟨_,rfl,rp4 hT⟩
 rw[A_ h5]at hT;rw[A_ (by rw[As];simpa using h5)];simp only at hT;by_cases h6:(Eg (Jl p)).2.2.2.2.2≠0
 ·rw[B2 (by rw[Aj];simpa using h6)]at hT⊢;rw[Am,Aa];simp only;rw[H5];exact⟨_,rfl,(rp4 hT).trans (by rw[pW hrn];rfl)⟩
 have h7:(Eg (Jl p)).2.2.2.2.2=0:=by simpa using h6
 have h22:=(nI h7).2.1;rw[A_ (by rw[Aj,h7];simp),Bu,Aa,Gk,Gj,Es]at hT;rw[A_ (by rw[Aj,h7];simp),Ah,Bu,Aa,BT,Bac,Se];simp only;by_cases h8:((o==([]:LB)) !=geq (Eg (Jl p)).1 1)=true
 ·rw[B2 h8]at hT⊢;rw[Aa]at hT⊢;rw[Am,Aa];simp only;rw[H5];exact⟨_,rfl,rp4 hT⟩
 ·rw[A_ h8]at hT⊢;rw[Aa]at hT⊢;rw[Am,Aa];simp only;rw[H5];exact⟨_,rfl,rp4 hT⟩
section
variable {f c w r n:Int} {F C W R N:Nat} (hd:HdI f c w r n F C W R N)
include hd
theorem HdI.ne0:¬(geq f 0=true):=by
 have:=hd.num;rw[As,D4,hd.ef];omega
theorem jw(o p:LB)(hp:p.length<=100000)(A:Nat)(hA:A<=p.length)(a:Int)(x:LB)(u:Bool)(v:Int):
  (Mf o p f c w r n a u v [] x (A:Int)=Ch (decide ((Ez (p.drop A) (Al (Ak R) N).length).2=24)))/\
  El p f c w r n (A:Int)=some (if(Ez (p.drop A) (Al (Ak R) N).length).2=24 then(0,[], -1)else((A:Int)+(4*((Ez (p.drop A) (Al (Ak R) N).length).1.length:Int)+4),(Ez (p.drop A) (Al (Ak R) N).length).1,(Ez (p.drop A) (Al (Ak R) N).length).2))/\
  ((Ez (p.drop A) (Al (Ak R) N).length).2=0-> (A:Int)+(4*((Ez (p.drop A) (Al (Ak R) N).length).1.length:Int)+4)<=p.length):=by
 have hs:=zN (p.drop A) (Al (Ak R) N).length IC;have hr:=oL (p.drop A) (Al (Ak R) N).length IC;have hok:=mC (b:=p.drop A) (n:=(Al (Ak R) N).length);have hlen:(Ez (p.drop A) (Al (Ak R) N).length).1.length<=1000:=by
  unfold Ez
  repeat' split
  all_goals simp[Xu]
  all_goals omega
 have hfit:(Ez (p.drop A) (Al (Ak R) N).length).2=0-> (A:Int)+(4*((Ez (p.drop A) (Al (Ak R) N).length).1.length:Int)+4)<=p.length:=by
  intro h0;obtain⟨k1,k2,k3,k4,_⟩:=hok h0;rw[k1];simp only[Xu];rw[D3]at k4;omega
 refine⟨?_,?_,hfit⟩
 ·rw[Mf,Awd,hd.Y7,Aa];simp only;rw[A_ F2,Bu,Aa,C2,Ac,hs,Aa];generalize Ez (p.drop A) (Al (Ak R) N).length=z at*
  obtain⟨z1,z2⟩:=z;simp only at*
  by_cases h1:z2=24
  ·rw[B2 (by rw[As];simpa using h1),XH,K! h1];rfl
  rw[A_ (by rw[As];simpa using h1),E5 h1];by_cases h2:z2≠0
  ·rw[B2 (by rw[Aj];simpa using h2),Am,Aa];simp only;rw[XH];rfl
  ·have h0:z2=0:=by simpa using h2
   have:=hfit h0;rw[A_ (by rw[Aj,h0];simp),Ac,XG A z1.length F0 F0,Bu,Aa,XH];rfl
 ·rw[El,Afi,Bu,Aa,hd.Q0,Aa,Ac,C2,hr,Aa];generalize Ez (p.drop A) (Al (Ak R) N).length=z at*
  obtain⟨z1,z2⟩:=z;simp only at*
  rw[Af4,Afg];by_cases h1:z2=24
  ·rw[B2 (by rw[As];simpa using h1),B2 h1]
  ·rw[A_ (by rw[As];simpa using h1),A_ h1,Ac,XG A z1.length F0 F0];congr 2
theorem Bap(o p:LB)(ho:o.length<=64)(hp:p.length<=100000)(a:Int)(x:LB)(u:Bool)(v:Int):
  ∃B:Bool,RX o p f c w r n [] a x u v=Ch B/\De o p f c w r n [] a x u v=some B:=by
 have hT:Af o p f c w r n [] a x u v=Af o p f c w r n [] a x u v:=rfl
 conv at hT=>rhs;rw[Af,Bo,A_ hd.ne0,Bt,Ba,B2 F2,Fv,Iy]
 rw[RX,A_ hd.ne0,B2 F2];have fin:∀A:Nat,A<=p.length->Af o p f c w r n [] a x u v=(El p f c w r n (A:Int)).bind (λ(ag,ak,w1)=>
   if(Bd w1 0)then some (o,p,f,c,w,r,n,[],a,x,u,v,w1)else(Bp p ag (Ac p)).bind λal=>some (o,al,f,c,w,r,n,ak,a,x,u,v,0))->
   ∃B:Bool,Mf o p f c w r n a u v [] x (A:Int)=Ch B/\De o p f c w r n [] a x u v=some B:=by
  intro A hA hT;obtain⟨t1,t2,t3⟩:=jw hd o p hp A hA a x u v;have hnn:=oI (p.drop A) (Al (Ak R) N).length;rw[t2,Aa]at hT;rw[t1];generalize Ez (p.drop A) (Al (Ak R) N).length=z at*
  obtain⟨z1,z2⟩:=z;simp only at*
  by_cases h1:z2=24
  ·rw[B2 h1]at hT;simp only at hT;rw[B2 F2]at hT;exact⟨_,rfl,(rp4 hT).trans (by rw[K! h1];rfl)⟩
  rw[A_ h1]at hT;simp only at hT;by_cases h2:z2≠0
  ·rw[B2 (by rw[Aj];simpa using h2)]at hT;exact⟨_,rfl,(rp4 hT).trans (by rw[E5 h1,pW hnn])⟩
  ·have h0:z2=0:=by simpa using h2
   have:=t3 h0;rw[A_ (by rw[Aj,h0];simp),Bu,Aa]at hT;exact⟨_,rfl,(rp4 hT).trans (by rw[E5 h1];rfl)⟩
 by_cases h2:geq f 2=true
 ·rw[B2 h2]at hT⊢;by_cases h8:p.length<8
  ·rw[B2 F4]at hT⊢;rw[Aa]at hT;simp only at hT;rw[B2 F2]at hT;rw[XH];exact⟨_,rfl,rp4 hT⟩
  ·rw[A_ F4]at hT⊢;have h8':(p.take 8).length=8:=by rw[C8];omega
   rw[Cx,Aa,lD o ho,Aa]at hT;rw[BR,Ba5,Cx,Aa,show(8:Int).toNat=8 from rfl,vU h8' ho,Aa];rw[show(8:Int).toNat=8 from rfl]at hT;simp only;rw[Az6,Axe,A_ F2];by_cases he:(p.take 8==Uc (Vy o).toNat 8)=true
   ·rw[A_ (by rw[bne,he];decide)]at hT;rw[A_ (by rw[he];decide)];exact fin 8 F0 hT
   ·have he':(p.take 8==Uc (Vy o).toNat 8)=false:=by simpa using he
    rw[B2 (by rw[bne,he'];decide),Aa]at hT;simp only at hT;rw[B2 F2]at hT;rw[B2 (by rw[he'];decide),Am,Aa];simp only;rw[XH];exact⟨_,rfl,rp4 hT⟩
 ·rw[A_ h2]at hT⊢;exact fin 0 F0 hT
end
theorem mY{p:Prop}(h:p:=by rw[As,Ac];simp;omega):p:=h
theorem nM{p:Prop}(h:p:=by rw[As,Ac];simp):p:=h
theorem Auq{f c w r n:Int}{F C W R N:Nat}(hd:HdI f c w r n F C W R N)(o p:LB)(ho:o.length<=64)(hp:p.length<=100000)(g:LI)(hg:Vm g=true)(hl:g.length=(Al (Ak R) N).length)(A:Nat)(hA:A<=g.length)(x:LB)(hx:x.length<=14000000)(u:Bool)(v:Int):
  ∃B:Bool,RX o p f c w r n g (A:Int) x u v=Ch B/\De o p f c w r n g (A:Int) x u v=some B:=by
 have hc:=hd.ec;subst hc;have hg':=hg;rw[Vm,B8,B7,FG g 100000 F0]at hg';obtain⟨⟨g1,g2⟩,g5,g6⟩:=hg';have hT:Af o p f (C:Int) w r n g (A:Int) x u v=Af o p f (C:Int) w r n g (A:Int) x u v:=rfl
 conv at hT=>rhs;rw[Af,Bo,A_ hd.ne0,Bt,Ba,A_ (by rw[As,Ac];simp;intro e;subst e;simp at g1)]
 rw[RX,A_ hd.ne0,A_ (by rw[As,Ac];simp;intro e;subst e;simp at g1)];by_cases hA2:A=g.length
 ·subst hA2;rw[B2 nM]at hT;rw[A_ RP];by_cases h4:4000<p.length
  ·rw[B2 C3]at hT⊢;rw[Am,Aa];simp only;exact⟨_,rfl,rp4 hT⟩
  ·rw[A_ C3]at hT⊢;rw[CB,Ayy];exact⟨_,rfl,rp4 hT⟩
 ·have hlt:A<g.length:=F0
  have h5:=g5 g[A] (D5 hlt);have hsum:=G2 g5 g[A] (D5 hlt);rw[A_ mY,Cw,Fe,Bq hlt,Aa]at hT;rw[B2 F4,Bq hlt,Aa,Aa];by_cases hw:(p.length:Int)<g[A]
  ·rw[B2 (by rw[Ad,Ac];simpa using hw)]at hT⊢;rw[Aa]at hT;simp only at hT;rw[B2 F2]at hT;rw[sR];exact⟨_,rfl,rp4 hT⟩
  rw[A_ (by rw[Ad,Ac];simpa using hw)]at hT⊢;have IH:=hd.num;have hlt2:A<(Al (Ak R) N).length:=F0
  obtain⟨m,hm,m1,m2⟩:=Yt (Du R) IH.2.2.2.2.1 (D5 hlt2);have hb:Bn w:=by rw[hd.ew];unfold Bn;omega
  obtain⟨xs,e,d1,d2,d3,d4⟩:=LH (bits:=w) (ch:=C) (n:=m) (t:=Ld o) (p.take g[A].toNat) hb (Lq o) IH.2.1.1 IH.2.1.2 m1 F0;have hnn:=yJ hb (Lq o) IH.2.1.1 IH.2.1.2 m1 F0 d2;rw[UC o ho,Aa];simp only;rw[A_ F2,hd.Y7,Aa];simp only;rw[A_ (by simp[Aj,Dq,Ac];omega),MX,OS,Bq hlt2,Aa,Cx,Aa,Aa,HK,Aa];simp only;rw[hm,d1,Aa];simp only;rw[WT o ho,Aa]at hT;simp only at hT;rw[Cx,Aa,Gq,Aa]at hT;simp only at hT;rw[hd.Q0,Aa,Bq hlt2,Aa,Aa,hm]at hT;rw[d2,Aa]at hT;simp only at hT;rw[Fg,Fc]at hT;rw[QS,CF];by_cases he:e≠0
  ·rw[B2 (by rw[Aj];simpa using he)]at hT⊢;rw[Aa]at hT;simp only at hT;rw[B2 (by rw[Aj];simpa using he)]at hT;rw[Am,Aa];simp only;rw[sR];exact⟨_,rfl,(rp4 hT).trans (by rw[pW hnn];rfl)⟩
  ·have he0:e=0:=by simpa using he
   obtain⟨k1,k2,k3⟩:=d3 he0;have hbl:=Vu w xs;rw[A_ (by rw[Aj,he0];simp)]at hT⊢;rw[TR hb k2 k1,Aa,Aa]at hT;simp only at hT;rw[A_ F2,Bg B5,Aa,D8,Bg,Aa,Aa,Bu,Aa]at hT;rw[dX hb k2 k1,Aa];simp only;rw[A_ F2,Bg,Aa,Bu,Aa,sR];exact⟨_,rfl,rp4 hT⟩
theorem Ajo(a:LI)(b:Int)(ha:a.length<=100):∀(j i q:Nat),i+j=a.length->j<q->∃r,Cq a b q (i:Int)=some r/\Le r 0=(a.drop i).any λy=>b==y
 |0,i,q+1,hi,_=>by
  refine⟨-1,?_,?_⟩
  ·rw[Cq,Gi,A_ F4];rfl
  ·rw[show i=a.length by omega,L?];rfl
 |j+1,i,q+1,hi,hq=>by
  have hlt:i<a.length:=F0
  obtain⟨r,h1,h2⟩:=Ajo a b ha j (i+1) q F0 F0;rw[Cq,Gi,B2 F4,Bq hlt,Aa,drop_cons hlt,List.any_cons];by_cases h:b=a[i]
  ·rw[B2 (by rw[As];simpa using h)];refine⟨_,rfl,?_⟩;rw[Dq,K! F0,h];simp
  ·rw[A_ (by rw[As];simpa using h),Ah];refine⟨r,h1,?_⟩;rw[h2,beq_eq_false_iff_ne.2 h,wM]
theorem Axi(v:Int):∃B:Bool,Vn v=some B/\DP v=some B:=by
 obtain⟨r,h1,h2⟩:=Ajo [4,12,16,22,24,26,38] v F2 7 0 Ax rfl B_;refine⟨_,?_,rfl⟩;rw[Vn,Jp,Ls,Ju,Agn];have h1':Cq [4,12,16,22,24,26,38] v Ax 0=some r:=h1;rw[h1',Aa,Aa,h2];simp only[LG,List.any_cons,List.any_nil,Bool.or_false,As,Bool.or_assoc]
theorem J0(B:Bool):Ch B=some (if B=true then 0 else 8):=by
 rw[Ch,Baa];cases B<;>rfl
theorem Bcl(a b:LB)(f g h k m:Int)(n:LI)(o:Int)(p:LB)(u:Bool)(v:Int)(hb:b.length<=16000000)(hn:n.length<=16000000)(hp:p.length<=16000000):
  Ev a b f g h k m n o p u v=some (a,b,f,g,h,k,m,n,o,p,u,v):=by
 rw[Ev,Ks,Bg B5,Aa,Aa,Ks,Bg B5,Aa,Aa,Ig,Bg B5,Aa,Aa];rfl
theorem W9(o p:LB)(f c w r n:Int)(g:LI)(a:Int)(x:LB)(u:Bool)(v:Int)(hp:p.length<=100000)(hg:g.length<=100000)(hx:x.length<=14000000):
  ∃E,Jv o p f c w r n g a x u v=some E/\Ef o p f c w r n g a x u v=some E:=by
 rw[Jv,FD,Ef];by_cases ho:64<o.length
 ·rw[B2 C3,B2 C3];exact⟨8,rfl,rfl⟩
 have hO:¬(Dz (Ac o) 64=true):=by rw[Ap,Ac];simp;omega
 rw[A_ hO,A_ hO];by_cases hw:(geq v 0&& !u)=true
 ·rw[B2 hw,B2 hw,Bcl o p f c w r n g a x u v F0 F0 F0,Aa];simp only;rcases Amo o p f c w r n g a x u v with⟨e1,e2⟩|⟨e1,e2,hd⟩
  ·rw[e1,e2,Aa,Aa,A_ F2,B2 F2,J0];exact⟨8,rfl,rfl⟩
  ·rw[e1,e2,Aa,B2 rfl];have key:∃B:Bool,RX o p f c w r n g a x u v=Ch B/\De o p f c w r n g a x u v=some B:=by
    cases hd with
    |new e1 e2 e3 e4 e5 e6 e7 e8=>subst e1;exact Asr o p c w r n g a x u v hp
    |head F C W R N h hpw e6 e7 e8=>subst e6;exact Bap h o p F0 hp a x u v
    |tab F C W R N A h hpw ht hl ea hA=>subst ea;exact Auq h o p F0 hp g ht hl A hA x hx u v
   obtain⟨B,k1,k2⟩:=key;rw[k2,Aa];refine⟨if B=true then 0 else 8,k1.trans (J0 B),?_⟩;cases B<;>rfl
 ·rw[A_ hw,A_ hw];by_cases hl:(geq (Ac p) 0&&geq (Ac g) 0)=true
  ·rw[B2 hl,B2 hl];generalize(geq f 0&&(geq c 0&&(geq w 0&&(geq r 0&&(geq n 0&&true)))))=z;by_cases hz:((z&&geq a 0)&&tZ (Ac x) 12000)=true
   ·rw[B2 hz];simp only[B8,Qh,Ac,B7]at hz;obtain⟨⟨z1,z2⟩,z3⟩:=hz;have hN:¬((!(z&&geq a 0)||Dz (Ac x) 12000)=true):=by rw[z1,z2,Ap,Ac];simp;omega
    rw[A_ hN];by_cases hv:v=0
    ·have v1:geq v 0=true:=by rw[As];simpa using hv
     have v2:¬(Bd v 0=true):=by rw[Aj];simpa using hv
     rw[B2 v1,A_ v2,J0];exact⟨0,rfl,rfl⟩
    ·have v1:¬(geq v 0=true):=by rw[As];simpa using hv
     have v2:Bd v 0=true:=by rw[Aj];simpa using hv
     rw[A_ v1,B2 v2];obtain⟨B,k1,k2⟩:=Axi v;rw[k1,k2,Aa,Aa,J0,J0];cases u
     ·refine⟨if B=true then 0 else 8,B3,?_⟩;cases B<;>rfl
     ·exact⟨8,rfl,rfl⟩
   ·rw[A_ hz,B2,J0]
    ·exact⟨8,rfl,rfl⟩
    ·simp only[B8,Qh,Ac,B7]at hz;simp only[I',HE,Ap,Ac,B7];by_cases hz2:(z&&geq a 0)=true
     ·rw[B8]at hz2;exact .inr (by have hq:¬((x.length:Int)<=12000):=λh=>hz ⟨hz2,h⟩;omega)
     ·exact .inl (by simpa using hz2)
  ·rw[A_ hl,A_ hl,A_ B3,B2 B3,J0];exact⟨8,rfl,rfl⟩
def cV(bk:LB->Int->Int->Int->Int->Int->Int->LI->LB->Ay)(o:LB)(u:Bool)(v:Int):LB->Int->Int->Int->Int->Int->Int->LI->LB->Ay:=
 Kl (Rp bk o u v) (Xc bk o u v) (Ns bk o u v) (EK bk o u v) (Rq bk o u v) (Rn bk o u v) (FQ bk o u v) (Da bk o u v) (FJ bk o u v) o u v
structure SzD (p:LB) (g:LI) (a:Int) (x:LB):Prop where
 hp:p.length<=100000
 hg:g.length<=1000
 hx:x.length+12000*(g.length-a.toNat)<=13000000
def muD(f:Int)(g:LI)(a:Int):Nat:=if f=0 then 1003 else if g=[]then 1002 else g.length-a.toNat+1
section
variable {bk:LB->Int->Int->Int->Int->Int->Int->LI->LB->Ay} {o p:LB} {f c w r n:Int} {g:LI} {a:Int} {x:LB} {u:Bool} {v:Int}
theorem Ayz(hp:p.length<=100000)(hg:g.length<=1000)(hx:x.length<=13000000):Ev o p f c w r n g a x u v=some (o,p,f,c,w,r,n,g,a,x,u,v):=by
 rw[Ev,Ks,Bg B5,Aa,Aa,Ks,Bg B5,Aa,Aa,Ig,Bg B5,Aa,Aa];rfl
theorem Bjo(h:SzD p g a x)(e:Int):Da bk o u v p f c w r n a true e g x=some (o,p,f,c,w,r,n,g,a,x,u,v,0):=by
 rw[Da,SO,B2 rfl,Ayz h.hp h.hg (by have:=h.hx;omega),Aa]
theorem Bij{e:Int}(h:e≠0):Da bk o u v p f c w r n a false e g x=some (o,[],0,0,0,0,0,[],0,x,false,e,e):=by
 rw[Da,SO,A_ F2,B2 (by rw[Aj];simpa using h)];rfl
inductive StepR (bk:LB->Int->Int->Int->Int->Int->Int->LI->LB->Ay) (o p:LB) (f c w r n:Int) (g:LI) (a:Int) (x:LB) (u:Bool) (v:Int):Prop
 |wait:cV bk o u v p f c w r n a g x=some (o,p,f,c,w,r,n,g,a,x,u,v,0)->Af o p f c w r n g a x u v=some (o,p,f,c,w,r,n,g,a,x,u,v, -1)->StepR bk o p f c w r n g a x u v
 |err (e:Int) {t1 t2:LB} {t3 t4 t5 t6 t7:Int} {t8:LI} {t9:Int} {t10:LB} {t11:Bool} {t12:Int}:0<e->cV bk o u v p f c w r n a g x=some (o,[],0,0,0,0,0,[],0,x,false,e,e)->
   Af o p f c w r n g a x u v=some (t1,t2,t3,t4,t5,t6,t7,t8,t9,t10,t11,t12,e)->StepR bk o p f c w r n g a x u v
 |next (p':LB) (f' c' w' r' n':Int) (g':LI) (a':Int) (x':LB):cV bk o u v p f c w r n a g x=bk p' f' c' w' r' n' a' g' x'->Af o p f c w r n g a x u v=some (o,p',f',c',w',r',n',g',a',x',u,v,0)->
   FitD o f' c' w' r' n' g' a' x'->SzD p' g' a' x'->p'.length<=p.length->muD f' g' a'<muD f g a->StepR bk o p f c w r n g a x u v
theorem f62{d:Bool}{e:Int}:Rp bk o u v a g x d e p f c w r n=Da bk o u v p f c w r n a d e g x:=rfl
theorem f75{d:Bool}{e:Int}:Ns bk o u v f c w r n a x d e p g=Da bk o u v p f c w r n a d e g x:=rfl
theorem f78{d:Bool}{e:Int}:Rn bk o u v f c w r n g d e p a x=Da bk o u v p f c w r n a d e g x:=rfl
theorem mkW(hZ:SzD p g a x)(hF:cV bk o u v p f c w r n a g x=Da bk o u v p f c w r n a true 0 g x)(hT:Af o p f c w r n g a x u v=some (o,p,f,c,w,r,n,g,a,x,u,v, -1)):StepR bk o p f c w r n g a x u v:=
 .wait (hF.trans (Bjo hZ 0)) hT
theorem mkE{e:Int}{p2:LB}{f2 c2 w2 r2 n2 a2:Int}{g2:LI}{t1 t2:LB}{t3 t4 t5 t6 t7:Int}{t8:LI}{t9:Int}{t10:LB}{t11:Bool}{t12:Int}(he:0<e)(hF:cV bk o u v p f c w r n a g x=Da bk o u v p2 f2 c2 w2 r2 n2 a2 false e g2 x)
  (hT:Af o p f c w r n g a x u v=some (t1,t2,t3,t4,t5,t6,t7,t8,t9,t10,t11,t12,e)):StepR bk o p f c w r n g a x u v:= .err e he (hF.trans (Bij F0)) hT
theorem HdI.fnz{F C W R N:Nat}(h:HdI f c w r n F C W R N):f≠0:=by
 have:=h.num;rw[h.ef];omega
theorem Aw1(hp:p.length<=100000):StepR bk o p 0 0 0 0 0 [] 0 [] u v:=by
 have hZ:SzD p [] 0 []:=⟨hp,B3,B3⟩;have hT:Af o p 0 0 0 0 0 [] 0 [] u v=Af o p 0 0 0 0 0 [] 0 [] u v:=rfl
 conv at hT=>rhs;rw[Af,Bo,B2 F2,CW p hp,Aa,stS]
 have hF:cV bk o u v p 0 0 0 0 0 0 [] []=cV bk o u v p 0 0 0 0 0 0 [] []:=rfl
 conv at hF=>rhs;rw[cV,Kl,B2 F2,Ll p F0,Aa]
 have hfn:=Z8 p;have hrn:=nT (Jl p);have hok:=EI (b:=p);simp only at hT hF;by_cases h1:(Bw p).2=24
 ·rw[B2 h1]at hT;simp only at hT;rw[B2 F2]at hT;rw[B2 (by rw[As];simpa using h1)]at hF;exact mkW hZ hF hT
 rw[A_ h1]at hT;rw[A_ (by rw[As];simpa using h1)]at hF;by_cases h2:(Bw p).2≠0
 ·rw[B2 h2]at hT;simp only at hT;rw[B2 (by rw[Aj];simpa using h2)]at hT;rw[B2 (by rw[Aj];simpa using h2),Am,Aa]at hF;exact mkE F0 hF hT
 have h0:(Bw p).2=0:=by simpa using h2
 obtain⟨k1,k2,k3⟩:=hok h0;have hl:(Jl p).length=p.length-(Bw p).1.toNat:=by rw[Jl,D3]
 rw[A_ h2]at hT;rw[A_ (by rw[Aj,h0];simp),Bu,Aa,Aa,show p.drop (Bw p).1.toNat=Jl p from rfl,Ax4,Aa]at hF;by_cases h3:(Qw (Jl p) uh||Qw (Jl p) C_)=true
 ·rw[B2 h3]at hT hF;simp only at hT;rw[B2 F2]at hT;exact mkW hZ hF hT
 rw[A_ h3]at hT hF;rw[FI _ F0,Aa]at hF;by_cases h5:(Eg (Jl p)).2.2.2.2.2=24
 ·rw[B2 h5]at hT;simp only at hT;rw[B2 F2]at hT;rw[B2 (by rw[As];simpa using h5)]at hF;exact mkW hZ hF hT
 rw[A_ h5]at hT;rw[A_ (by rw[As];simpa using h5)]at hF;simp only at hT;by_cases h6:(Eg (Jl p)).2.2.2.2.2≠0
 ·rw[B2 (by rw[Aj];simpa using h6)]at hT hF;rw[Am,Aa]at hF;exact mkE (by have:=hrn;generalize(Eg (Jl p)).2.2.2.2.2=z at *;omega) (hF.trans f62) hT
 have h7:(Eg (Jl p)).2.2.2.2.2=0:=by simpa using h6
 obtain⟨r1,h22,r3,r4⟩:=nI h7;rw[A_ (by rw[Aj,h7];simp),Bu,Aa,Gk,Gj,Es]at hT;rw[A_ (by rw[Aj,h7];simp),Ah,Bu,Aa,Xc,Bep,Se]at hF;simp only at hT hF;by_cases h8:((o==([]:LB)) !=geq (Eg (Jl p)).1 1)=true
 ·rw[B2 h8]at hT hF;rw[Aa]at hT hF;rw[Am,Aa]at hF;simp only at hF;exact mkE F2 (hF.trans f62) hT
 ·rw[A_ h8]at hT hF;rw[Aa]at hT hF;rw[Am,Aa]at hF;have hd:HdI (Eg (Jl p)).1 (Eg (Jl p)).2.1 (Eg (Jl p)).2.2.1 (Eg (Jl p)).2.2.2.1 (Eg (Jl p)).2.2.2.2.1 (f0 (Jl p)) (f1 (Jl p)) (f2 (Jl p)) (f3 (Jl p)) (f4 (Jl p)):=by
   constructor<;>first|(rw[r1])|assumption
  refine .next _ _ _ _ _ _ [] 0 [] (by exact hF) hT (.head _ _ _ _ _ hd ?_ rfl rfl rfl) ⟨by rw[D3];omega,B3,B3⟩ IC ?_
  ·have e:geq (Eg (Jl p)).1 1=decide (f0 (Jl p)=1):=by rw[hd.ef,As,D0];simp;omega
   rw[<-e];simpa using h8
  ·rw[muD,muD,A_ hd.fnz,B2 rfl,B2 rfl];omega
section
variable {F C W R N:Nat} (hd:HdI f c w r n F C W R N)
include hd
theorem Aq4(hp:p.length<=100000)(hpw:(o==([]:LB))=decide (F=1))(A:Nat)(hA:A<=p.length)
  (hT:Af o p f c w r n [] 0 [] u v=(El p f c w r n (A:Int)).bind (λ(ag,ak,w1)=>if(Bd w1 0)then some (o,p,f,c,w,r,n,([]:LI),(0:Int),([]:LB),u,v,w1)else(Bp p ag (Ac p)).bind λal=>some (o,al,f,c,w,r,n,ak,(0:Int),([]:LB),u,v,(0:Int))))
  (hF:cV bk o u v p f c w r n 0 [] []=Rq bk o u v p f c w r n 0 [] [] (A:Int)):StepR bk o p f c w r n [] 0 [] u v:=by
 have hZ:SzD p [] 0 []:=⟨hp,B3,B3⟩;obtain⟨_,t2,t3⟩:=jw hd o p hp A hA 0 [] u v;have hs:=zN (p.drop A) (Al (Ak R) N).length IC;have hnn:=oI (p.drop A) (Al (Ak R) N).length;have hok:=mC (b:=p.drop A) (n:=(Al (Ak R) N).length);rw[t2,Aa]at hT;rw[Rq,FR,hd.Y7,Aa]at hF;simp only at hF;rw[A_ F2,Bu,Aa,C2,Ac,hs,Aa]at hF;generalize hz:Ez (p.drop A) (Al (Ak R) N).length=z at*
 obtain⟨z1,z2⟩:=z;simp only at*
 by_cases h1:z2=24
 ·rw[B2 h1]at hT;simp only at hT;rw[B2 F2]at hT;rw[B2 (by rw[As];simpa using h1)]at hF;exact mkW hZ hF hT
 rw[A_ h1]at hT;rw[A_ (by rw[As];simpa using h1)]at hF;simp only at hT;by_cases h2:z2≠0
 ·rw[B2 (by rw[Aj];simpa using h2)]at hT hF;rw[Am,Aa]at hF;exact mkE F0 hF hT
 ·have h0:z2=0:=by simpa using h2
  subst h0;have h3:=t3 rfl;obtain⟨k1,k2,k3,k4,k5,k6⟩:=hok rfl;simp only[BS,M?]at k1;have hl:z1.length=(Al (Ak R) N).length:=by rw[k1];exact Xu _ _
  rw[<-k1]at k5 k6;rw[A_ F2,Bu,Aa]at hT;rw[A_ F2,Ac,XG A z1.length F0 F0,Bu,Aa]at hF;have hne:z1≠ []:=by intro e;rw[e]at hl;simp at hl;omega
  refine .next _ _ _ _ _ _ z1 0 [] (by exact hF) hT (.tab _ _ _ _ _ 0 hd hpw ?_ hl rfl F0) ⟨by rw[D3];omega,F0,by simp;omega⟩ IC ?_
  ·rw[Vm,B8,B7,FG z1 100000 F0];exact⟨F0,k5,k6⟩
  ·rw[muD,muD,A_ hd.fnz,A_ hd.fnz,B2 rfl,A_ hne];simp;omega
theorem At8(ho:o.length<=64)(hp:p.length<=100000)(hpw:(o==([]:LB))=decide (F=1)):StepR bk o p f c w r n [] 0 [] u v:=by
 have hZ:SzD p [] 0 []:=⟨hp,B3,B3⟩;have hT:Af o p f c w r n [] 0 [] u v=Af o p f c w r n [] 0 [] u v:=rfl
 conv at hT=>rhs;rw[Af,Bo,A_ hd.ne0,Bt,Ba,B2 F2,Fv,Iy]
 have hF:cV bk o u v p f c w r n 0 [] []=cV bk o u v p f c w r n 0 [] []:=rfl
 conv at hF=>rhs;rw[cV,Kl,A_ hd.ne0,B2 F2]
 by_cases h2:geq f 2=true
 ·rw[B2 h2]at hT hF;by_cases h8:p.length<8
  ·rw[B2 F4]at hT hF;rw[Aa]at hT;simp only at hT;rw[B2 F2]at hT;exact mkW hZ hF hT
  ·rw[A_ F4]at hT hF;have h8':(p.take 8).length=8:=by rw[C8];omega
   rw[Cx,Aa,lD o ho,Aa]at hT;rw[EK,SX,Cx,Aa,show(8:Int).toNat=8 from rfl,vU h8' ho,Aa]at hF;rw[show(8:Int).toNat=8 from rfl]at hT;simp only at hF;rw[Bai,UH,A_ F2]at hF;by_cases he:(p.take 8==Uc (Vy o).toNat 8)=true
   ·rw[A_ (by rw[bne,he];decide)]at hT;rw[A_ (by rw[he];decide)]at hF;exact Aq4 hd hp hpw 8 F0 hT hF
   ·have he':(p.take 8==Uc (Vy o).toNat 8)=false:=by simpa using he
    rw[B2 (by rw[bne,he'];decide),Aa]at hT;simp only at hT;rw[B2 F2]at hT;rw[B2 (by rw[he'];decide),Am,Aa]at hF;simp only at hF;exact mkE F2 (hF.trans f75) hT
 ·rw[A_ h2]at hT hF;exact Aq4 hd hp hpw 0 F0 hT hF
theorem Azd(ho:o.length<=64)(hpw:(o==([]:LB))=decide (F=1))(hg:Vm g=true)(hl:g.length=(Al (Ak R) N).length)(A:Nat)(hA:A<=g.length)(hZ:SzD p g (A:Int) x):StepR bk o p f c w r n g (A:Int) x u v:=by
 have hp:=hZ.hp;have hx:=hZ.hx;have hc:=hd.ec;subst hc;have hg':=hg;rw[Vm,B8,B7,FG g 100000 F0]at hg';obtain⟨⟨g1,g2⟩,g5,g6⟩:=hg';have hgn:¬(geq (Ac g) 0=true):=by rw[As,Ac];simp;intro e;subst e;simp at g1
 have hT:Af o p f (C:Int) w r n g (A:Int) x u v=Af o p f (C:Int) w r n g (A:Int) x u v:=rfl
 conv at hT=>rhs;rw[Af,Bo,A_ hd.ne0,Bt,Ba,A_ hgn]
 have hF:cV bk o u v p f (C:Int) w r n (A:Int) g x=cV bk o u v p f (C:Int) w r n (A:Int) g x:=rfl
 conv at hF=>rhs;rw[cV,Kl,A_ hd.ne0,A_ hgn]
 by_cases hA2:A=g.length
 ·subst hA2;rw[B2 nM]at hT;rw[A_ RP]at hF;by_cases h4:4000<p.length
  ·rw[B2 C3]at hT hF;rw[Am,Aa]at hF;exact mkE F2 hF hT
  ·rw[A_ C3]at hT hF;exact mkW hZ hF hT
 ·have hlt:A<g.length:=F0
  have h5:=g5 g[A] (D5 hlt);have hsum:=G2 g5 g[A] (D5 hlt);rw[A_ mY,Cw,Fe,Bq hlt,Aa]at hT;rw[B2 F4,Bq hlt,Aa,Aa]at hF;by_cases hw:(p.length:Int)<g[A]
  ·rw[B2 (by rw[Ad,Ac];simpa using hw)]at hT hF;rw[Aa]at hT;simp only at hT;rw[B2 F2]at hT;exact mkW hZ hF hT
  rw[A_ (by rw[Ad,Ac];simpa using hw)]at hT hF;have IH:=hd.num;have hlt2:A<(Al (Ak R) N).length:=F0
  obtain⟨m,hm,m1,m2⟩:=Yt (Du R) IH.2.2.2.2.1 (D5 hlt2);have hb:Bn w:=by rw[hd.ew];unfold Bn;omega
  obtain⟨xs,e,d1,d2,d3,d4⟩:=LH (bits:=w) (ch:=C) (n:=m) (t:=Ld o) (p.take g[A].toNat) hb (Lq o) IH.2.1.1 IH.2.1.2 m1 F0;have hnn:=yJ hb (Lq o) IH.2.1.1 IH.2.1.2 m1 F0 d2;rw[UC o ho,Aa]at hF;simp only at hF;rw[A_ F2,hd.Y7,Aa]at hF;simp only at hF;rw[A_ (by simp[Aj,Dq,Ac];omega),FQ,SW,Bq hlt2,Aa,Cx,Aa,Aa,HK,Aa]at hF;simp only at hF;rw[hm,d1,Aa]at hF;simp only at hF;rw[WT o ho,Aa]at hT;simp only at hT;rw[Cx,Aa,Gq,Aa]at hT;simp only at hT;rw[hd.Q0,Aa,Bq hlt2,Aa,Aa,hm]at hT;rw[d2,Aa]at hT;simp only at hT;rw[Fg,Fc]at hT;rw[TN,FB]at hF;by_cases he:e≠0
  ·rw[B2 (by rw[Aj];simpa using he)]at hT hF;rw[Aa]at hT;simp only at hT;rw[B2 (by rw[Aj];simpa using he)]at hT;rw[Am,Aa]at hF;exact mkE F0 hF hT
  ·have he0:e=0:=by simpa using he
   obtain⟨k1,k2,k3⟩:=d3 he0;have hbl:=Vu w xs;have ht:((A:Int)).toNat=A:=rfl;rw[ht]at hx;rw[A_ (by rw[Aj,he0];simp)]at hT hF;rw[TR hb k2 k1,Aa,Aa]at hT;simp only at hT;rw[A_ F2,Bg B5,Aa,D8,Bg,Aa,Aa,Bu,Aa,Ah]at hT;rw[dX hb k2 k1,Aa]at hF;simp only at hF;rw[A_ F2,Bg,Aa,Bu,Aa,Ah]at hF;have e1:((A:Int)+1).toNat=A+1:=rfl;refine .next _ _ _ _ _ _ _ _ _ (by exact hF) hT (.tab _ _ _ _ _ (A+1) hd hpw hg hl rfl F0) ⟨by rw[D3];omega,hZ.hg,by rw[e1,B6];omega⟩ IC ?_
   have hne:g≠ []:=by intro e;subst e;simp at g1
   rw[muD,muD,A_ hd.fnz,A_ hd.fnz,A_ hne,A_ hne,e1,ht];omega
end
theorem V? (hf:FitD o f c w r n g a x)(ho:o.length<=64)(hZ:SzD p g a x):StepR bk o p f c w r n g a x u v:=by
 cases hf with
 |new e1 e2 e3 e4 e5 e6 e7 e8=>subst e1 e2 e3 e4 e5 e6 e7 e8;exact Aw1 hZ.hp
 |head F C W R N h hpw e6 e7 e8=>subst e6 e7 e8;exact At8 h ho hZ.hp hpw
 |tab F C W R N A h hpw ht hl ea hA=>subst ea;exact Azd h ho hpw ht hl A hA hZ
end
abbrev Bis:=LB×LB×Int×Int×Int×Int×Int×LI×Int×LB×Bool×Int×Int
theorem Azh:∀(j:Nat) (b:LB) (a:Nat),(Q5 j b a).2=0\/ (Q5 j b a).2=38
 |0,_,_=> .inr rfl
 |j+1,b,a=>by
  rw[Q5];split
  ·exact .inl rfl
  ·split
   ·exact .inr rfl
   ·exact Azh j _ _
theorem Ado(b:LB):(Qs b).2=0\/ (Qs b).2=38:=by
 rw[Qs];split
 ·exact .inr rfl
 ·exact Azh _ _ _
theorem eQ{o p:LB}{f c w r n:Int}{g:LI}{a:Int}{x:LB}{u:Bool}{v:Int}(hp:p.length<=100000)(hg:g.length<=2000)(hx:x.length<=13000000):Pd o p f c w r n g a x u v=some (o,p,f,c,w,r,n,g,a,x,u,v):=by
 rw[Pd,Uj,Bg B5,Aa,Bg B5,Aa,Uo,Un,Bg B5,Aa];rfl
theorem Ads{o p:LB}{f c w r n:Int}{g:LI}{a:Int}{x:LB}{u:Bool}{v:Int}(hp:p.length<=100000)(hg:g.length<=2000)(hx:x.length<=13000000):Ev o p f c w r n g a x u v=some (o,p,f,c,w,r,n,g,a,x,u,v):=by
 rw[Ev,Ks,Bg B5,Aa,Aa,Ks,Bg B5,Aa,Aa,Ig,Bg B5,Aa,Aa];rfl
theorem I3{o p:LB}{f c w r n:Int}{g:LI}{a:Int}{x:LB}{u:Bool}{v e:Int}(hx:x.length<=13000000):Qj o p f c w r n g a x u v e=some (o,[],0,0,0,0,0,[],0,x,false,e,e):=by
 rw[Qj,CH,Bg B5,Aa];rfl
theorem Ayj{p:LB}{f:Int}{g:LI}{a:Int}{x:LB}(h:SzD p g a x):muD f g a<1004:=by
 have:=h.hg;unfold muD;split
 ·omega
 ·split<;>omega
section
variable {o p:LB} {f c w r n:Int} {g:LI} {a:Int} {x:LB} {u:Bool} {v:Int} (hp:p.length<=20000) (hg:g.length<=2000) (hx:x.length<=13000000)
include hp hg hx
theorem mI{E:Int}(hE:Jv o p f c w r n g a x u v=some E):Vw o p f c w r n g a x u v=if E≠0 then some ([],[],0,0,0,0,0,[],0,[],false,0,E)else some (o,p,f,c,w,r,n,g,a,x,u,v,if v≠0 then v else if u=true then 36 else 0):=by
 rw[Vw,hE,Aa];by_cases h:E≠0
 ·rw[B2 (by rw[Aj];simpa using h),B2 h]
 rw[A_ (by rw[Aj];simpa using h),A_ h,Ads F0 hg F0];by_cases hv:v≠0
 ·rw[B2 (by rw[Aj];simpa using hv),B2 hv,Aa]
 ·rw[A_ (by rw[Aj];simpa using hv),A_ hv];cases u<;>simp[Aa]
omit hg hx in
theorem vH:∃e,DD o p f c w r n g a x u v=some e/\Dn o p f c w r n g a x u v=some e:=by
 rw[DD,Dn];by_cases h0:geq f 0=true
 ·rw[B2 h0,B2 h0,Ll p F0,EY p F0,Aa,Aa];have hok:=EI (b:=p);simp only;by_cases h2:(Bw p).2≠0
  ·rw[B2 (by rw[Aj];simpa using h2),B2 (by rw[Aj];simpa using h2)];exact⟨_,rfl,rfl⟩
  have h3:(Bw p).2=0:=by simpa using h2
  obtain⟨k1,k2,k3⟩:=hok h3;have hl:(Jl p).length<=p.length:=by rw[Jl,D3];omega
  rw[A_ (by rw[Aj,h3];simp),A_ (by rw[Aj,h3];simp),Bu,Aa,Aa,show p.drop (Bw p).1.toNat=Jl p from rfl,FI _ F0,lW _ F0,Aa];exact⟨_,rfl,rfl⟩
 ·rw[A_ h0,A_ h0,Bool.or_comm];by_cases h1:(geq (Ac g) 0||Cj a (Ac g))=true
  ·rw[B2 h1,B2 h1];exact⟨_,rfl,rfl⟩
  ·rw[A_ h1,A_ h1,wF p F0,L4 p F0,Aa,Aa];simp only;refine⟨(Qs p).2,rfl,?_⟩;rcases Ado p with h|h
   ·rw[A_ (by rw[h];decide),h]
   ·rw[B2 (by rw[h];decide),h]
end
theorem AF{β:Type}{o:Option α}{f:α->Option β}{r:β}(h:Option.bind o f=some r):∃x,o=some x/\f x=some r:=by
 cases o with
 |none=>cases h
 |some x=>exact⟨x,rfl,h⟩
theorem Az0{l:List α}{i:Int}{x:α}(h:Go.Lv.Ao l i=some x):x∈l:=by
 unfold Go.Lv.Ao at h;split at h
 ·exact List.mem_of_getElem? h
 ·cases h
theorem xW{o p:LB}(q:LB){f c w r n:Int}{g:LI}{a:Int}{x:LB}{u:Bool}{v:Int}{y:LB}{e:Int}(hg:∀z∈g,0<=z)(h:Cw o p f c w r n g a x u v=some (y,e))(he:e≠ -1):Cw o (p++q) f c w r n g a x u v=some (y,e):=by
 rw[Cw,Fe]at h⊢;obtain⟨l,hl,h⟩:=AF h;have hl0:=hg l (Az0 hl);rw[hl,Aa];by_cases hc:(p.length:Int)<l
 ·rw[B2 (by rw[Ad,Ac];simpa using hc)]at h;cases h;exact absurd rfl he
 ·have hc':¬(Cj (Ac (p++q)) l=true):=by rw[Ad,Ac,B6];simp;omega
  rw[A_ (by rw[Ad,Ac];simpa using hc)]at h;rw[A_ hc',Cx hl0 KO,Qf F0];rw[Cx hl0]at h;simpa only[Fg,Fc]using h
theorem Al6{f c w r n:Int}{F C W R N:Nat}(hd:HdI f c w r n F C W R N){p:LB}(q:LB)(hp:(p++q).length<=100000){A:Nat}(hA:A<=p.length){k:Int}{l:LI}{e:Int}(h:El p f c w r n (A:Int)=some (k,l,e))(he:e≠ -1):
  El (p++q) f c w r n (A:Int)=some (k,l,e)/\ (e=0->0<=k/\k<=p.length):=by
 have hp':p.length<=100000:=by rw[B6]at hp;omega
 obtain⟨_,t2,t3⟩:=jw hd [] p hp' A hA 0 [] false 0;obtain⟨_,s2,_⟩:=jw hd [] (p++q) hp A KO 0 [] false 0;rw[t2]at h;rw[s2,NN hA];by_cases h1:(Ez (p.drop A) (Al (Ak R) N).length).2=24
 ·rw[B2 h1]at h;cases h;exact absurd rfl he
 ·rw[A_ h1]at h;rw[Aue q _ h1,A_ h1];refine⟨h,λe0=>?_⟩;cases h;have:=t3 e0;constructor
  ·omega
  ·exact this
theorem Bjw {f c w r n:Int}{F C W R N:Nat}(hd:HdI f c w r n F C W R N){o p:LB}(q:LB)(hp:(p++q).length<=100000){k:Int}{l:LI}{e:Int}(h:Fv p f c w r n o=some (k,l,e))(he:e≠ -1):
  Fv (p++q) f c w r n o=some (k,l,e)/\ (e=0->0<=k/\k<=p.length):=by
 rw[Fv,Iy]at h⊢;by_cases hf:geq f 2=true
 ·rw[B2 hf]at h⊢;by_cases h8:p.length<8
  ·rw[B2 F4]at h;cases h;exact absurd rfl he
  ·have n1:¬(Cj (Ac p) 8=true):=by rw[Ad,Ac];simp;omega
   have n2:¬(Cj (Ac (p++q)) 8=true):=by rw[Ad,Ac,B6];simp;omega
   rw[A_ n1,Cx F2,Aa]at h;rw[A_ n2,Cx F2 KO,Aa,Qf (show(8:Int).toNat<=p.length from by simp;omega)];obtain⟨y,hy,h⟩:=AF h;rw[hy,Aa];by_cases hm:(p.take (8:Int).toNat !=y)=true
   ·rw[B2 hm]at h⊢;cases h;exact⟨rfl,λe=>by cases e⟩
   ·rw[A_ hm]at h⊢;exact Al6 hd q hp (A:=8) F0 h he
 ·rw[A_ hf]at h⊢;exact Al6 hd q hp (A:=0) F0 h he
theorem pK{p q af:LB}{n:Int}(h:Bp p n (Ac p)=some af):Bp (p++q) n (Ac (p++q))=some (af++q):=by
 unfold Bp Ac at h⊢;split at h
 ·rename_i hc;cases h;rw[B2 ⟨hc.1,by rw[B6];omega,F0⟩];simp only[C2,FX];rw[NN F0]
 ·cases h
theorem wE{o p:LB}(q:LB){f c w r n:Int}{g:LI}{a:Int}{x:LB}{u:Bool}{v:Int}(hf:FitD o f c w r n g a x)(hp:(p++q).length<=100000){t1 t2:LB}{t3 t4 t5 t6 t7:Int}{t8:LI}{t9:Int}{t10:LB}{t11:Bool}{t12 e:Int}
  (h:Af o p f c w r n g a x u v=some (t1,t2,t3,t4,t5,t6,t7,t8,t9,t10,t11,t12,e)) (he:e≠ -1):
  (e=0->Af o (p++q) f c w r n g a x u v=some (t1,t2++q,t3,t4,t5,t6,t7,t8,t9,t10,t11,t12,0))/\
  (e≠0->∃(s1 s2:LB) (s3 s4 s5 s6 s7:Int) (s8:LI) (s9:Int) (s10:LB) (s11:Bool) (s12:Int),Af o (p++q) f c w r n g a x u v=some (s1,s2,s3,s4,s5,s6,s7,s8,s9,s10,s11,s12,e)):=by
 have hp':p.length<=100000:=by rw[B6]at hp;omega
 have zero:¬(Bd (0:Int) 0=true):=F2
 rw[Af,Bo]at h⊢;cases hf with
 |new e1 e2 e3 e4 e5 e6 e7 e8=>
  subst e1;rw[B2 F2,CW p hp',Aa]at h;rw[B2 F2,CW (p++q) hp,Aa];have hst:(stS p).2.2.2.2.2.2≠ -1->stS (p++q)=stS p:=Bbf q;generalize stS p=z at h hst;obtain⟨z1,z2,z3,z4,z5,z6,z7⟩:=z;simp only at h hst;by_cases hz:Bd z7 0=true
  ·rw[B2 hz]at h;simp only[B?,BS]at h;obtain⟨-, -, -, -, -, -, -, -, -, -, -, -,rfl⟩:=h;rw[hst he];simp only;rw[B2 hz];refine⟨λe0=>?_,λ_=>⟨_,_,_,_,_,_,_,_,_,_,_,_,rfl⟩⟩;rw[e0]at hz;exact absurd hz zero
  ·rw[A_ hz]at h;have z70:z7=0:=by rw[Aj]at hz;simpa using hz
   rw[hst (by rw[z70];decide)];simp only;rw[A_ hz];obtain⟨af,h1,h⟩:=AF h;rw[pK h1,Aa];rw[Gk,Gj]at h⊢;obtain⟨aw,h2,h⟩:=AF h;rw[h2,Aa];simp only[B?,BS]at h;obtain⟨rfl,rfl,rfl,rfl,rfl,rfl,rfl,rfl,rfl,rfl,rfl,rfl,rfl⟩:=h;exact⟨λe0=>by rw[e0],λ_=>⟨_,_,_,_,_,_,_,_,_,_,_,_,rfl⟩⟩
 |head F C W R N hd hpw e6 e7 e8=>
  subst e6;have hfn:¬(geq f 0=true):=by rw[As];simpa using hd.fnz
  rw[A_ hfn,Bt,Ba,B2 F2]at h⊢;obtain⟨⟨k,l,e1⟩,h1,h⟩:=AF h;simp only at h;by_cases hz:Bd e1 0=true
  ·rw[B2 hz]at h;simp only[B?,BS]at h;obtain⟨-, -, -, -, -, -, -, -, -, -, -, -,rfl⟩:=h;rw[(Bjw hd q hp h1 he).1,Aa];simp only;rw[B2 hz];refine⟨λe0=>?_,λ_=>⟨_,_,_,_,_,_,_,_,_,_,_,_,rfl⟩⟩;rw[e0]at hz;exact absurd hz zero
  ·rw[A_ hz]at h;have z70:e1=0:=by rw[Aj]at hz;simpa using hz
   rw[(Bjw hd q hp h1 (by rw[z70];decide)).1,Aa];simp only;rw[A_ hz];obtain⟨af,h2,h⟩:=AF h;rw[pK h2,Aa];simp only[B?,BS]at h;obtain⟨rfl,rfl,rfl,rfl,rfl,rfl,rfl,rfl,rfl,rfl,rfl,rfl,rfl⟩:=h;exact⟨λe0=>rfl,λe0=>absurd rfl e0⟩
 |tab F C W R N A hd hpw ht hl ea hA=>
  have hfn:¬(geq f 0=true):=by rw[As];simpa using hd.fnz
  have ht':=ht;rw[Vm,B8,B7]at ht';have hgl:¬(geq (Ac g) 0=true):=by
   intro e;rw[As,Ac]at e;have hl1:=ht'.1.1;simp only[D4,B7]at e;omega
  rw[A_ hfn,Bt,Ba,A_ hgl]at h⊢;by_cases hend:geq a (Ac g)=true
  ·rw[B2 hend]at h⊢;by_cases hm:Dz (Ac p) 4000=true
   ·have hm':Dz (Ac (p++q)) 4000=true:=by rw[Ap,Ac]at hm⊢;simp only[B7]at hm⊢;rw[B6];omega
    rw[B2 hm]at h;rw[B2 hm'];simp only[B?,BS]at h;obtain⟨-, -, -, -, -, -, -, -, -, -, -, -,rfl⟩:=h;exact⟨(λe0=>by cases e0),λ_=>⟨_,_,_,_,_,_,_,_,_,_,_,_,rfl⟩⟩
   ·rw[A_ hm]at h;simp only[B?,BS]at h;obtain⟨-, -, -, -, -, -, -, -, -, -, -, -,rfl⟩:=h;exact absurd rfl he
  ·rw[A_ hend]at h⊢;have hpos:∀z∈g,0<=z:=by
    have:=(FG g 100000 F0).1 ht'.2;intro z hz;have:=this.1 z hz;omega
   obtain⟨⟨y,e1⟩,h1,h⟩:=AF h;simp only at h;by_cases hz:Bd e1 0=true
   ·rw[B2 hz]at h;simp only[B?,BS]at h;obtain⟨-, -, -, -, -, -, -, -, -, -, -, -,rfl⟩:=h;rw[xW q hpos h1 he,Aa];simp only;rw[B2 hz];refine⟨λe0=>?_,λ_=>⟨_,_,_,_,_,_,_,_,_,_,_,_,rfl⟩⟩;rw[e0]at hz;exact absurd hz zero
   ·rw[A_ hz]at h;have z70:e1=0:=by rw[Aj]at hz;simpa using hz
    rw[xW q hpos h1 (by rw[z70];decide),Aa];simp only;rw[A_ hz];obtain⟨an,h2,h⟩:=AF h;rw[h2,Aa];obtain⟨ah,h3,h⟩:=AF h;rw[h3,Aa];obtain⟨ad,h4,h⟩:=AF h;rw[h4,Aa];obtain⟨ae,h5,h⟩:=AF h;rw[pK h5,Aa];simp only[B?,BS]at h;obtain⟨rfl,rfl,rfl,rfl,rfl,rfl,rfl,rfl,rfl,rfl,rfl,rfl,rfl⟩:=h;exact⟨λe0=>rfl,λe0=>absurd rfl e0⟩
theorem bV{p:Prop}(h:p:=by rw[pW (by omega)];decide):p:=h
def Bjg(o:LB)(K:Nat)(u:Bool)(v:Int)(X Y:Option Bis):Prop:=∃(t1 t2:LB) (t3 t4 t5 t6 t7:Int) (t8:LI) (t9:Int) (t10:LB) (t11:Bool) (t12 e:Int),X=some (t1,t2,t3,t4,t5,t6,t7,t8,t9,t10,t11,t12,e)/\Y=some (t1,t2,t3,t4,t5,t6,t7,t8,t9,t10,t11,t12,e)/\t10.length<=13000000/\
 (e=0->t1=o/\t2.length<=K/\FitD o t3 t4 t5 t6 t7 t8 t9 t10/\SzD t2 t8 t9 t10/\t11=u/\t12=v)
theorem Bmg (K:Nat):∀(k q1 q2:Nat) (o p:LB) (f c w r n:Int) (g:LI) (a:Int) (x:LB) (u:Bool) (v:Int),FitD o f c w r n g a x->o.length<=64->SzD p g a x->p.length<=K->muD f g a<k->k<=q1->k<=q2->
  Bjg o K u v (Bj o u v q1 p f c w r n a g x) (Bb q2 o p f c w r n g a x u v)
 |0,_,_,_,_,_,_,_,_,_,_,_,_,_,_,_,_,_,_,h,_,_=>by omega
 |k+1,q1,q2,o,p,f,c,w,r,n,g,a,x,u,v,hf,ho,hZ,hK,hm,h1,h2=>by
  obtain⟨q1,rfl⟩:∃q,q1=q+1:=⟨q1-1,F0⟩;obtain⟨q2,rfl⟩:∃q,q2=q+1:=⟨q2-1,F0⟩;have hx:x.length<=13000000:=by have:=hZ.hx;omega
  rw[Bj,Bb,Bv];have hS:StepR (Bj o u v q1) o p f c w r n g a x u v:=V? hf ho hZ;cases hS with
  |wait hF hT=>
   rw[hT,Aa];simp only;rw[B2 F2,eQ hZ.hp (by have:=hZ.hg;omega) hx,Aa];exact⟨_,_,_,_,_,_,_,_,_,_,_,_,_,hF,rfl,hx,λ_=>⟨rfl,hK,hf,hZ,rfl,rfl⟩⟩
  |err e he hF hT=>
   rw[hT,Aa];simp only;rw[A_ bV,B2 D2,I3 hx,Aa];exact⟨_,_,_,_,_,_,_,_,_,_,_,_,_,hF,rfl,hx,λh=>absurd h F0⟩
  |next p' f' c' w' r' n' g' a' x' hF hT hf' hZ' hle hmu=>
   rw[hT,Aa];simp only;rw[A_ F2,A_ F2];have ih:=Bmg K k q1 q2 o p' f' c' w' r' n' g' a' x' u v hf' ho hZ' F0 F0 F0 F0;have hF':Kl (Rp (Bj o u v q1) o u v) (Xc (Bj o u v q1) o u v) (Ns (Bj o u v q1) o u v) (EK (Bj o u v q1) o u v) (Rq (Bj o u v q1) o u v) (Rn (Bj o u v q1) o u v) (FQ (Bj o u v q1) o u v) (Da (Bj o u v q1) o u v) (FJ (Bj o u v q1) o u v) o u v p f c w r n a g x=Bj o u v q1 p' f' c' w' r' n' a' g' x':=hF;rw[hF'];exact ih
theorem Bje{o p:LB}{f c w r n:Int}{g:LI}{a:Int}{x:LB}(ho:o.length<=64)(hf:FitD o f c w r n g a x)(hZ:SzD p g a x)(b:LB)(hp:p.length<=20000)(hb:b.length<=20000):
  Bjg o (p.length+b.length) false 0 (Di o p f c w r n g a x false 0 b) (Lo o p f c w r n g a x false 0 b):=by
 have hx:x.length<=13000000:=by have:=hZ.hx;omega
 have hg:g.length<=2000:=by have:=hZ.hg;omega
 obtain⟨E,e1,e2⟩:=W9 o p f c w r n g a x false 0 F0 F0 F0;rw[Di,Zx,mI hp hg hx e1,Lo,Ux,e2,Aa];by_cases h:E≠0
 ·rw[B2 h,Aa,B2 (by rw[Aj];simpa using h)];simp only;rw[B2 (by rw[Aj];simpa using h)];exact⟨_,_,_,_,_,_,_,_,_,_,_,_,_,rfl,rfl,B3,λh'=>absurd h' h⟩
 have h0:E=0:=by simpa using h
 subst h0;have hE:¬(Bd (0:Int) 0=true):=F2
 rw[A_ h,Aa,A_ hE,eQ F0 hg F0,Aa];simp only;have hF:¬(false=true):=F2
 rw[Uv,A_ (show ¬((0:Int)≠0)from λh=>h rfl),A_ hF]
 repeat (first|rw[Aa]|rw[A_ hE]|rw[A_ hF])
 rw[Bg];rw[Aa,Aa];have hZ':SzD (p++b) g a x:=⟨by rw[B6];omega,hZ.hg,hZ.hx⟩;exact Bmg _ 1004 Ax Ax o (p++b) f c w r n g a x false 0 hf ho hZ' (by rw[B6];exact C9 _) (Ayj hZ') B_ B_
def OutB(f c w r n:Int)(g:LI)(a:Int)(x:LB):Prop:=∀(F C W R N A:Nat),HdI f c w r n F C W R N->g≠ []->a=(A:Int)-> (x.length:Int)<=MH C W (Al (Ak R) N) A
theorem OutB.nil{f c w r n:Int}{a:Int}{x:LB}:OutB f c w r n [] a x:=λ_ _ _ _ _ _ _ h=>absurd rfl h
theorem OutB.zero{f c w r n:Int}{g:LI}:OutB f c w r n g 0 []:=λF C W R N A h hg ha=>by
 obtain rfl:A=0:=F0
 rw[Anp];simp
theorem Aom{o p:LB}{f c w r n:Int}{F C W R N:Nat}(hd:HdI f c w r n F C W R N)(ho:o.length<=64)(hp:p.length<=100000){g:LI}(ht:Vm g=true)(hl:g.length=(Al (Ak R) N).length){A:Nat}(hA:A<g.length){x:LB}{u:Bool}{v:Int}{y:LB}{e:Int}
  (h:Cw o p f c w r n g (A:Int) x u v=some (y,e)) (he:e=0):∃m:Nat,(Al (Ak R) N)[A]' F0=(m:Int)/\y.length=m*C*wB (W:Int):=by
 subst he;have hlt2:A<(Al (Ak R) N).length:=F0
 have IH:=hd.num;rw[Vm,B8,B7,FG g 100000 F0]at ht;obtain⟨ht1,g5,gs⟩:=ht;have h5:=g5 g[A] (D5 hA);rw[Cw,Fe,Bq hA,Aa]at h;by_cases hw:(p.length:Int)<g[A]
 ·rw[B2 (by rw[Ad,Ac];simpa using hw)]at h;cases h
 rw[A_ (by rw[Ad,Ac];simpa using hw)]at h;obtain⟨m,hm,m1,m2⟩:=Yt (Du R) IH.2.2.2.2.1 (D5 hlt2);have hb:Bn w:=by rw[hd.ew];unfold Bn;omega
 obtain⟨xs,e,d1,d2,d3,d4⟩:=LH (bits:=w) (ch:=C) (n:=m) (t:=Ld o) (p.take g[A].toNat) hb (Lq o) IH.2.1.1 IH.2.1.2 m1 F0;rw[WT o ho,Aa]at h;simp only at h;rw[Cx,Aa,Gq,Aa]at h;simp only at h;rw[hd.Q0,Aa,Bq hlt2,Aa,Aa,hm,hd.ec]at h;rw[d2,Aa]at h;simp only at h;rw[Fg,Fc]at h;by_cases he:e≠0
 ·rw[B2 (by rw[Aj];simpa using he)]at h;cases h;exact absurd rfl he
 ·have he0:e=0:=by simpa using he
  obtain⟨k1,k2,k3⟩:=d3 he0;rw[A_ (by rw[Aj,he0];simp),TR hb k2 k1,Aa]at h;cases h;refine⟨m,hm,?_⟩;rw[KS hb,k3,hd.ew]
theorem Ay1{o p:LB}{f c w r n:Int}{g:LI}{a:Int}{x:LB}{u:Bool}{v:Int}(hf:FitD o f c w r n g a x)(ho:o.length<=64)(hZ:SzD p g a x)(hO:OutB f c w r n g a x){t1 t2:LB}{t3 t4 t5 t6 t7:Int}{t8:LI}{t9:Int}{t10:LB}{t11:Bool}{t12:Int}
  (h:Af o p f c w r n g a x u v=some (t1,t2,t3,t4,t5,t6,t7,t8,t9,t10,t11,t12,0)):OutB t3 t4 t5 t6 t7 t8 t9 t10:=by
 have hp':=hZ.hp;have zero:¬(Bd (0:Int) 0=true):=F2
 rw[Af,Bo]at h;cases hf with
 |new e1 e2 e3 e4 e5 e6 e7 e8=>
  subst e1 e6 e7 e8;rw[B2 F2,CW p hp',Aa]at h;generalize stS p=z at h;obtain⟨z1,z2,z3,z4,z5,z6,z7⟩:=z;simp only at h;by_cases hz:Bd z7 0=true
  ·rw[B2 hz]at h;simp only[B?,BS]at h;obtain⟨-, -, -, -, -, -, -,rfl, -⟩:=h;exact OutB.nil
  ·rw[A_ hz]at h;obtain⟨af,h1,h⟩:=AF h;rw[Gk,Gj]at h;obtain⟨aw,h2,h⟩:=AF h;simp only[B?,BS]at h;obtain⟨-, -, -, -, -, -, -,rfl, -⟩:=h;exact OutB.nil
 |head F C W R N hd hpw e6 e7 e8=>
  subst e6 e7 e8;have hfn:¬(geq f 0=true):=by rw[As];simpa using hd.fnz
  rw[A_ hfn,Bt,Ba,B2 F2]at h;obtain⟨⟨k,l,e1⟩,h1,h⟩:=AF h;simp only at h;by_cases hz:Bd e1 0=true
  ·rw[B2 hz]at h;simp only[B?,BS]at h;obtain⟨-, -, -, -, -, -, -,rfl, -⟩:=h;exact OutB.nil
  ·rw[A_ hz]at h;obtain⟨af,h2,h⟩:=AF h;simp only[B?,BS]at h;obtain⟨-, -, -, -, -, -, -, -,rfl,rfl, -⟩:=h;exact OutB.zero
 |tab F C W R N A hd hpw ht hl ea hA=>
  subst ea;have hfn:¬(geq f 0=true):=by rw[As];simpa using hd.fnz
  have ht':=ht;rw[Vm,B8,B7]at ht';have hgl:¬(geq (Ac g) 0=true):=by
   intro e;rw[As,Ac]at e;have hl1:=ht'.1.1;simp only[D4,B7]at e;omega
  have hne:g≠ []:=by intro e;subst e;simp at ht'
  rw[A_ hfn,Bt,Ba,A_ hgl]at h;by_cases hend:geq (A:Int) (Ac g)=true
  ·rw[B2 hend]at h;by_cases hm:Dz (Ac p) 4000=true
   ·rw[B2 hm]at h;simp only[B?,BS]at h;exact absurd h.2.2.2.2.2.2.2.2.2.2.2.2 F2
   ·rw[A_ hm]at h;simp only[B?,BS]at h;exact absurd h.2.2.2.2.2.2.2.2.2.2.2.2 F2
  ·rw[A_ hend]at h;have hlt:A<g.length:=by
    rw[As,Ac]at hend;simp only[D4]at hend;omega
   obtain⟨⟨y,e1⟩,h1,h⟩:=AF h;simp only at h;by_cases hz:Bd e1 0=true
   ·rw[B2 hz]at h;simp only[B?,BS]at h;have:=h.2.2.2.2.2.2.2.2.2.2.2.2;rw[this]at hz;exact absurd hz zero
   ·rw[A_ hz]at h;have z70:e1=0:=by rw[Aj]at hz;simpa using hz
    obtain⟨m,hm,hy⟩:=Aom hd ho hp' ht hl hlt h1 z70;obtain⟨an,h2,h⟩:=AF h;obtain⟨ah,h3,h⟩:=AF h;obtain⟨ad,h4,h⟩:=AF h;obtain⟨ae,h5,h⟩:=AF h;simp only[B?,BS]at h;obtain⟨-, -,rfl,rfl,rfl,rfl,rfl,rfl,rfl,rfl, -⟩:=h;intro F' C' W' R' N' A' hd' _ ha';have eqs:C'=C/\W'=W/\R'=R/\N'=N:=by
     have q1:=hd.ec.symm.trans hd'.ec;have q2:=hd.ew.symm.trans hd'.ew;have q3:=hd.er.symm.trans hd'.er;have q4:=hd.en.symm.trans hd'.en;omega
    obtain⟨rfl,rfl,rfl,rfl⟩:=eqs;have hold:=hO F C' W' R' N' A hd hne rfl;have e2:Ae (A:Int) 1=((A+1:Nat):Int):=by rw[Ah];omega
    rw[e2]at ha';obtain rfl:A'=A+1:=F0
    have hah:ah.length=x.length+y.length:=by
     unfold Dm at h2 h3;split at h2
     ·cases h2;split at h3
      ·cases h3;simp
      ·cases h3
     ·cases h2
    have hpos:∀z∈Al (Ak R') N',0<=z:=by
     intro z hz;obtain⟨m,hm,m1,m2⟩:=Yt (Du R') hd.num.2.2.2.2.1 hz;omega
    rw[Ann C' W' hpos F0 hm,hah,hy];omega
theorem I0{o p:LB}{f c w r n:Int}{g:LI}{a:Int}{x:LB}(hf:FitD o f c w r n g a x)(ho:o.length<=64)(hO:OutB f c w r n g a x){t1 t2:LB}{t3 t4 t5 t6 t7:Int}{t8:LI}{t9:Int}{t10:LB}{t11:Bool}{t12:Int}
  (h:Af o p f c w r n g a x false 0=some (t1,t2,t3,t4,t5,t6,t7,t8,t9,t10,t11,t12, -1)):Ef o p f c w r n g a x false 0=some 0:=by
 have h4:De o p f c w r n g a x false 0=some true:=by
  rw[De,BO,h,Aa];rfl
 have hr:Nt o p f c w r n g a x false 0=some true:=by
  rw[Nt,BL];cases hf with
  |new e1 e2 e3 e4 e5 e6 e7 e8=>
   subst e1 e2 e3 e4 e5 e6 e7 e8;rw[B2 F2,A_ F2];exact h4
  |head F C W R N hd hpw e6 e7 e8=>
   subst e6 e7 e8;have hz:¬(((geq f 0)&&((geq c 0)&&((geq w 0)&&((geq r 0)&&((geq n 0)&&true)))))=true):=by
    simp only[B8,As,D4,M?];exact λe=>hd.fnz e.1
   have hff:geq f 1=decide (F=1):=by rw[hd.ef,As,D0];simp;omega
   rw[A_ hz,hd.check,Aa,A_ F2,Es,hff,hpw,A_ B3,Aa,A_ F2,Th,Tf,B2 F2,A_ F2];exact h4
  |tab F C W R N A hd hpw ht hl ea hA=>
   subst ea;have hz:¬(((geq f 0)&&((geq c 0)&&((geq w 0)&&((geq r 0)&&((geq n 0)&&true)))))=true):=by
    simp only[B8,As,D4,M?];exact λe=>hd.fnz e.1
   have hff:geq f 1=decide (F=1):=by rw[hd.ef,As,D0];simp;omega
   have ht':=ht;rw[Vm,B8,B7]at ht';have hgl:¬(geq (Ac g) 0=true):=by
    intro e;rw[As,Ac]at e;have hl1:=ht'.1.1;simp only[D4,B7]at e;omega
   have hne:g≠ []:=by intro e;subst e;simp at ht'
   have hout:=hO F C W R N A hd hne rfl;rw[A_ hz,hd.check,Aa,A_ F2,Es,hff,hpw,A_ B3,Aa,A_ F2,Th,Tf,A_ hgl,jY,Aa,B2 ht,A_ F2,hd.Q0,Aa];rw[A_ bZ];obtain⟨rfl,rfl,rfl,rfl,rfl,hs,hfit⟩:=hd;rw[Ah6 hs hfit A F0,Aa,A_ C3];exact h4
 have hO':¬(Dz (Ac o) 64=true):=by rw[Ap,Ac];simp;omega
 rw[Ef,A_ hO',B2 F2,hr,Aa];rfl
theorem Atn{o p:LB}{f c w r n:Int}{F C W R N:Nat}(hd:HdI f c w r n F C W R N)(ho:o.length<=64)(hp:p.length<=100000){g:LI}(ht:Vm g=true)(hl:g.length=(Al (Ak R) N).length){A:Nat}(hA:A<g.length){x:LB}{u:Bool}{v:Int}{y:LB}{e:Int}
  (h:Cw o p f c w r n g (A:Int) x u v=some (y,e)) (he:e≠ -1):Cd e:=by
 have hlt2:A<(Al (Ak R) N).length:=F0
 have IH:=hd.num;rw[Vm,B8,B7,FG g 100000 F0]at ht;obtain⟨ht1,g5,gs⟩:=ht;have h5:=g5 g[A] (D5 hA);rw[Cw,Fe,Bq hA,Aa]at h;by_cases hw:(p.length:Int)<g[A]
 ·rw[B2 (by rw[Ad,Ac];simpa using hw)]at h;cases h;exact absurd rfl he
 rw[A_ (by rw[Ad,Ac];simpa using hw)]at h;obtain⟨m,hm,m1,m2⟩:=Yt (Du R) IH.2.2.2.2.1 (D5 hlt2);have hb:Bn w:=by rw[hd.ew];unfold Bn;omega
 obtain⟨xs,e',d1,d2,d3,d4⟩:=LH (bits:=w) (ch:=C) (n:=m) (t:=Ld o) (p.take g[A].toNat) hb (Lq o) IH.2.1.1 IH.2.1.2 m1 F0;have hcd:=Ad3 hb (Lq o) IH.2.1.1 IH.2.1.2 m1 F0 d2;rw[WT o ho,Aa]at h;simp only at h;rw[Cx,Aa,Gq,Aa]at h;simp only at h;rw[hd.Q0,Aa,Bq hlt2,Aa,Aa,hm,hd.ec]at h;rw[d2,Aa]at h;simp only at h;rw[Fg,Fc]at h;by_cases he:e'≠0
 ·rw[B2 (by rw[Aj];simpa using he)]at h;cases h;exact hcd
 ·have he0:e'=0:=by simpa using he
  obtain⟨k1,k2,k3⟩:=d3 he0;rw[A_ (by rw[Aj,he0];simp),TR hb k2 k1,Aa]at h;cases h;exact .inl rfl
theorem Apn{f c w r n:Int}{F C W R N:Nat}(hd:HdI f c w r n F C W R N){p:LB}(hp:p.length<=100000){A:Nat}(hA:A<=p.length){k:Int}{l:LI}{e:Int}(h:El p f c w r n (A:Int)=some (k,l,e))(he:e≠ -1):Cd e:=by
 obtain⟨_,t2,t3⟩:=jw hd [] p hp A hA 0 [] false 0;rw[t2]at h;by_cases h1:(Ez (p.drop A) (Al (Ak R) N).length).2=24
 ·rw[B2 h1]at h;cases h;exact absurd rfl he
 ·rw[A_ h1]at h;cases h;exact Azy _ (s? hd.fit)
theorem Ar3{f c w r n:Int}{F C W R N:Nat}(hd:HdI f c w r n F C W R N){o p:LB}(hp:p.length<=100000){k:Int}{l:LI}{e:Int}(h:Fv p f c w r n o=some (k,l,e))(he:e≠ -1):Cd e:=by
 rw[Fv,Iy]at h;by_cases hf:geq f 2=true
 ·rw[B2 hf]at h;by_cases h8:p.length<8
  ·rw[B2 F4]at h;cases h;exact absurd rfl he
  ·have n1:¬(Cj (Ac p) 8=true):=by rw[Ad,Ac];simp;omega
   rw[A_ n1]at h;obtain⟨z,hz,h⟩:=AF h;obtain⟨y,hy,h⟩:=AF h;by_cases hm:(z !=y)=true
   ·rw[B2 hm]at h;cases h;decide
   ·rw[A_ hm]at h;exact Apn hd hp (A:=8) F0 h he
 ·rw[A_ hf]at h;exact Apn hd hp (A:=0) F0 h he
theorem Bfv(p:LB):(stS p).2.2.2.2.2.2= -1\/Cd (stS p).2.2.2.2.2.2:=by
 unfold stS
 repeat' split
 ·exact .inl rfl
 ·exact .inr (jk p)
 ·exact .inl rfl
 ·exact .inl rfl
 ·exact .inr (oP _)
theorem Bdd{o p:LB}{f c w r n:Int}{g:LI}{a:Int}{x:LB}{u:Bool}{v:Int}(hf:FitD o f c w r n g a x)(ho:o.length<=64)(hp':p.length<=100000){t1 t2:LB}{t3 t4 t5 t6 t7:Int}{t8:LI}{t9:Int}{t10:LB}{t11:Bool}{t12 e:Int}
  (h:Af o p f c w r n g a x u v=some (t1,t2,t3,t4,t5,t6,t7,t8,t9,t10,t11,t12,e)) (he:e≠ -1):Cd e:=by
 have zero:¬(Bd (0:Int) 0=true):=F2
 rw[Af,Bo]at h;cases hf with
 |new e1 e2 e3 e4 e5 e6 e7 e8=>
  subst e1 e6 e7 e8;rw[B2 F2,CW p hp',Aa]at h;have hcd:=Bfv p;generalize stS p=z at h hcd;obtain⟨z1,z2,z3,z4,z5,z6,z7⟩:=z;simp only at h hcd;by_cases hz:Bd z7 0=true
  ·rw[B2 hz]at h;simp only[B?,BS]at h;obtain⟨-, -, -, -, -, -, -, -, -, -, -, -,rfl⟩:=h;exact hcd.resolve_left he
  ·rw[A_ hz]at h;obtain⟨af,h1,h⟩:=AF h;rw[Gk,Gj,Es]at h;obtain⟨aw,h2,h⟩:=AF h;simp only[B?,BS]at h;obtain⟨-, -, -, -, -, -, -, -, -, -, -, -,rfl⟩:=h;split at h2
   ·cases h2;decide
   ·cases h2;decide
 |head F C W R N hd hpw e6 e7 e8=>
  subst e6 e7 e8;have hfn:¬(geq f 0=true):=by rw[As];simpa using hd.fnz
  rw[A_ hfn,Bt,Ba,B2 F2]at h;obtain⟨⟨k,l,e1⟩,h1,h⟩:=AF h;simp only at h;by_cases hz:Bd e1 0=true
  ·rw[B2 hz]at h;simp only[B?,BS]at h;obtain⟨-, -, -, -, -, -, -, -, -, -, -, -,rfl⟩:=h;exact Ar3 hd hp' h1 he
  ·rw[A_ hz]at h;obtain⟨af,h2,h⟩:=AF h;simp only[B?,BS]at h;obtain⟨-, -, -, -, -, -, -, -, -, -, -, -,rfl⟩:=h;exact .inl rfl
 |tab F C W R N A hd hpw ht hl ea hA=>
  subst ea;have hfn:¬(geq f 0=true):=by rw[As];simpa using hd.fnz
  have ht':=ht;rw[Vm,B8,B7]at ht';have hgl:¬(geq (Ac g) 0=true):=by
   intro e;rw[As,Ac]at e;have hl1:=ht'.1.1;simp only[D4,B7]at e;omega
  rw[A_ hfn,Bt,Ba,A_ hgl]at h;by_cases hend:geq (A:Int) (Ac g)=true
  ·rw[B2 hend]at h;by_cases hm:Dz (Ac p) 4000=true
   ·rw[B2 hm]at h;simp only[B?,BS]at h;obtain⟨-, -, -, -, -, -, -, -, -, -, -, -,rfl⟩:=h;decide
   ·rw[A_ hm]at h;simp only[B?,BS]at h;exact absurd h.2.2.2.2.2.2.2.2.2.2.2.2.symm he
  ·rw[A_ hend]at h;have hlt:A<g.length:=by
    rw[As,Ac]at hend;simp only[D4]at hend;omega
   obtain⟨⟨y,e1⟩,h1,h⟩:=AF h;simp only at h;by_cases hz:Bd e1 0=true
   ·rw[B2 hz]at h;simp only[B?,BS]at h;obtain⟨-, -, -, -, -, -, -, -, -, -, -, -,rfl⟩:=h;exact Atn hd ho hp' ht hl hlt h1 he
   ·rw[A_ hz]at h;obtain⟨an,h2,h⟩:=AF h;obtain⟨ah,h3,h⟩:=AF h;obtain⟨ad,h4,h⟩:=AF h;obtain⟨ae,h5,h⟩:=AF h;simp only[B?,BS]at h;obtain⟨-, -, -, -, -, -, -, -, -, -, -, -,rfl⟩:=h;exact .inl rfl
theorem Aw6{o:LB}{f c w r n:Int}{g:LI}{a:Int}{x:LB}(hf:FitD o f c w r n g a x)(hO:OutB f c w r n g a x):x.length<=12000:=by
 cases hf with
 |new e1 e2 e3 e4 e5 e6 e7 e8=>subst e8;simp
 |head F C W R N hd hpw e6 e7 e8=>subst e8;simp
 |tab F C W R N A hd hpw ht hl ea hA=>
  have hne:g≠ []:=by intro e;subst e;simp[Vm]at ht
  have h:=hO F C W R N A hd hne ea;obtain⟨g1,g2,g3⟩:=UB hd.shape hd.fit;have b:=qO g1 A;have IH:=hd.num;have hw:=(vo (W:Int)).2;have hN:N*C<=4000:=by
   have h1:=C? C IH.2.2.2.2.2.1;have h2:=MJ 4000 C;omega
  have hs:((Al (Ak R) N).take A).sum.toNat<=N:=F0
  rw[MH]at h;have hb:((Al (Ak R) N).take A).sum.toNat*(C*wB (W:Int))<=4000*3:=by
   have h1:=C? (C*wB (W:Int)) hs;have h2:=HG hN hw;rw[<-I6 N]at h1;omega
  omega
theorem Y9{o x:LB}{e:Int}(ho:o.length<=64)(hx:x.length<=12000)(he:Cd e)(h0:0<e):Ef o [] 0 0 0 0 0 [] 0 x false e=some 0:=by
 have hO':¬(Dz (Ac o) 64=true):=by rw[Ap,Ac];simp;omega
 have hX:Dz (Ac x) 12000=false:=by rw[Ap,Ac];simp;omega
 rw[Ef,A_ hO',A_ E6,B2 F2,hX,A_ F2,B2 D2,A_ F2];obtain rfl|rfl|rfl|rfl|rfl|rfl|rfl|rfl:=he
 ·omega
 all_goals rfl
theorem zf:∀(k q1 q2:Nat) (o p:LB) (f c w r n:Int) (g:LI) (a:Int) (x:LB) (u:Bool) (v:Int),FitD o f c w r n g a x->o.length<=64->SzD p g a x->muD f g a<k->k<=q1->k<=q2->
  Bb q1 o p f c w r n g a x u v=Bb q2 o p f c w r n g a x u v
 |0,_,_,_,_,_,_,_,_,_,_,_,_,_,_,_,_,_,h,_,_=>by omega
 |k+1,q1,q2,o,p,f,c,w,r,n,g,a,x,u,v,hf,ho,hZ,hm,h1,h2=>by
  obtain⟨q1,rfl⟩:∃q,q1=q+1:=⟨q1-1,F0⟩;obtain⟨q2,rfl⟩:∃q,q2=q+1:=⟨q2-1,F0⟩;rw[Bb,Bb,Bv,Bv];have hS:StepR (Bj o u v q1) o p f c w r n g a x u v:=V? hf ho hZ;cases hS with
  |wait hF hT=>
   rw[hT,Aa,Aa];simp only;rw[B2 F2,B2 F2]
  |err e he hF hT=>
   rw[hT,Aa,Aa];simp only;rw[A_ bV,B2 D2,A_ bV,B2 D2]
  |next p' f' c' w' r' n' g' a' x' hF hT hf' hZ' hle hmu=>
   rw[hT,Aa,Aa];simp only;rw[A_ F2,A_ F2,A_ F2,A_ F2];exact zf k q1 q2 o p' f' c' w' r' n' g' a' x' u v hf' ho hZ' F0 F0 F0
structure Wt (o p:LB) (f c w r n:Int) (g:LI) (a:Int) (x:LB):Prop where
 fit:FitD o f c w r n g a x
 sz:SzD p g a x
 out:OutB f c w r n g a x
 wait:Af o p f c w r n g a x false 0=some (o,p,f,c,w,r,n,g,a,x,false,0, -1)
abbrev Me(q:Nat)(o p:LB)(f c w r n:Int)(g:LI)(a:Int)(x:LB):=Bb q o p f c w r n g a x false 0
theorem Ake:∀(k q:Nat) (o p:LB) (f c w r n:Int) (g:LI) (a:Int) (x:LB),FitD o f c w r n g a x->o.length<=64->SzD p g a x->OutB f c w r n g a x->p.length<=100000->muD f g a<k->k<=q->
  (∃(t2:LB) (t3 t4 t5 t6 t7:Int) (t8:LI) (t9:Int) (t10:LB),Me q o p f c w r n g a x=some (o,t2,t3,t4,t5,t6,t7,t8,t9,t10,false,0,0)/\Wt o t2 t3 t4 t5 t6 t7 t8 t9 t10/\t2.length<=p.length/\muD t3 t8 t9<k/\
   ∀b:LB,(p++b).length<=100000->Me q o (p++b) f c w r n g a x=Me q o (t2++b) t3 t4 t5 t6 t7 t8 t9 t10)\/
  (∃(x':LB) (e:Int),0<e/\Cd e/\x'.length<=12000/\∀b:LB,(p++b).length<=100000->Me q o (p++b) f c w r n g a x=some (o,[],0,0,0,0,0,[],0,x',false,e,e))
 |0,_,_,_,_,_,_,_,_,_,_,_,_,_,_,_,_,h,_=>by omega
 |k+1,q,o,p,f,c,w,r,n,g,a,x,hf,ho,hZ,hO,hp,hm,h1=>by
  obtain⟨q,rfl⟩:∃q',q=q'+1:=⟨q-1,F0⟩;have hx:x.length<=13000000:=by have:=hZ.hx;omega
  have hS:StepR (Bj o false 0 q) o p f c w r n g a x false 0:=V? hf ho hZ;cases hS with
  |wait hF hT=>
   refine .inl ⟨p,f,c,w,r,n,g,a,x,?_,⟨hf,hZ,hO,hT⟩,C9 _,hm,λb _=>rfl⟩;rw[Me,Bb,Bv,hT,Aa];simp only;rw[B2 F2,eQ hZ.hp (by have:=hZ.hg;omega) hx,Aa]
  |err e he hF hT=>
   refine .inr ⟨x,e,he,Bdd hf ho hp hT F0,Aw6 hf hO,λb hL=>?_⟩;obtain⟨s1,s2,s3,s4,s5,s6,s7,s8,s9,s10,s11,s12,hs⟩:=(wE b hf hL hT F0).2 F0;rw[Me,Bb,Bv,hs,Aa];simp only;rw[A_ bV,B2 D2,I3 hx,Aa]
  |next p' f' c' w' r' n' g' a' x' hF hT hf' hZ' hle hmu=>
   have hp':p'.length<=100000:=F0
   rcases Ake k q o p' f' c' w' r' n' g' a' x' hf' ho hZ' (Ay1 hf ho hZ hO hT) hp' F0 F0 with⟨t2,t3,t4,t5,t6,t7,t8,t9,t10,k1,k2,k3,k4,k5⟩|⟨x2,e,k1,k2,k3,k4⟩
   ·refine .inl ⟨t2,t3,t4,t5,t6,t7,t8,t9,t10,?_,k2,F0,F0,λb hL=>?_⟩
    ·rw[Me,Bb,Bv,hT,Aa];simp only;rw[A_ F2,A_ F2];exact k1
    ·have hs:=(wE b hf hL hT F2).1 rfl;have hL':(p'++b).length<=100000:=by rw[B6]at hL⊢;omega
     rw[Me,Bb,Bv,hs,Aa];simp only;rw[A_ F2,A_ F2];refine(k5 b hL').trans ?_;exact zf k q (q+1) o (t2++b) t3 t4 t5 t6 t7 t8 t9 t10 false 0 k2.fit ho ⟨by rw[B6]at hL⊢;omega,k2.sz.hg,k2.sz.hx⟩ k4 F0 F0
   ·refine .inr ⟨x2,e,k1,k2,k3,λb hL=>?_⟩;have hs:=(wE b hf hL hT F2).1 rfl;have hL':(p'++b).length<=100000:=by rw[B6]at hL⊢;omega
    rw[Me,Bb,Bv,hs,Aa];simp only;rw[A_ F2,A_ F2];exact k4 b hL'
abbrev Fd(o s:LB):=Me Ax o s 0 0 0 0 0 [] 0 []
inductive Bh (o s:LB):LB->Int->Int->Int->Int->Int->LI->Int->LB->Int->Prop
 |wt {p:LB} {f c w r n:Int} {g:LI} {a:Int} {x:LB}:Wt o p f c w r n g a x->p.length<=s.length-> (∀b:LB,(s++b).length<=100000->Fd o (s++b)=Me Ax o (p++b) f c w r n g a x)->Bh o s p f c w r n g a x 0
 |er {x:LB} {e:Int}:0<e->Cd e->x.length<=12000-> (∀b:LB,(s++b).length<=100000->Fd o (s++b)=some (o,[],0,0,0,0,0,[],0,x,false,e,e))->Bh o s [] 0 0 0 0 0 [] 0 x e
variable {o s p:LB} {f c w r n:Int} {g:LI} {a:Int} {x:LB} {e:Int}
theorem Wt.stop(W:Wt o p f c w r n g a x):Me Ax o p f c w r n g a x=some (o,p,f,c,w,r,n,g,a,x,false,0,0):=by
 obtain⟨q,hq⟩:∃q,Ax=q+1:=⟨Ax-1,by have:=Ar;omega⟩;have hx:x.length<=13000000:=by have:=W.sz.hx;omega
 rw[Me,hq,Bb,Bv,W.wait,Aa];simp only;rw[B2 F2,eQ W.sz.hp (by have:=W.sz.hg;omega) hx,Aa]
theorem Bh.fd(h:Bh o s p f c w r n g a x e)(hs:s.length<=100000):Fd o s=some (o,p,f,c,w,r,n,g,a,x,false,e,e):=by
 cases h with
 |wt W hl hb=>
  have:=hb [] (by simpa using hs);rw[E0,E0]at this;rw[this,W.stop]
 |er h0 hc hx hb=>
  have:=hb [] (by simpa using hs);rw[E0]at this;exact this
theorem Bh.new(ho:o.length<=64):Bh o [] [] 0 0 0 0 0 [] 0 [] 0:=by
 refine .wt ⟨.new rfl rfl rfl rfl rfl rfl rfl rfl,⟨B3,B3,B3⟩,OutB.nil,?_⟩ (C9 _) λb _=>rfl;rw[Af,Bo,B2 F2,CW [] B3,Aa];rfl
theorem rX(ho:o.length<=64)(W:Wt o p f c w r n g a x)(b:LB)(hp:p.length<=20000)(hb:b.length<=20000):
  Di o p f c w r n g a x false 0 b=Me Ax o (p++b) f c w r n g a x/\Lo o p f c w r n g a x false 0 b=Me Ax o (p++b) f c w r n g a x:=by
 have hR:Lo o p f c w r n g a x false 0 b=Me Ax o (p++b) f c w r n g a x:=by
  have hx:x.length<=13000000:=by have:=W.sz.hx;omega
  have hg:g.length<=2000:=by have:=W.sz.hg;omega
  have hE:¬(Bd (0:Int) 0=true):=F2
  have hF:¬(false=true):=F2
  rw[Lo,Ux,I0 W.fit ho W.out W.wait,Aa,A_ hE,eQ F0 hg hx,Aa];simp only;rw[Uv]
  repeat (first|rw[Aa]|rw[A_ hE]|rw[A_ hF])
  rw[Bg,Aa];rfl
 obtain⟨t1,t2,t3,t4,t5,t6,t7,t8,t9,t10,t11,t12,e,h1,h2,_⟩:=Bje ho W.fit W.sz b hp hb;exact⟨h1.trans (h2.symm.trans hR),hR⟩
theorem Bh.check(ho:o.length<=64)(h:Bh o s p f c w r n g a x e)(hp:p.length<=100000):Jv o p f c w r n g a x false e=some 0/\Ef o p f c w r n g a x false e=some 0:=by
 have key:Ef o p f c w r n g a x false e=some 0/\g.length<=1000/\x.length<=13000000:=by
  cases h with
  |wt W hl hb=>exact⟨I0 W.fit ho W.out W.wait,W.sz.hg,by have:=W.sz.hx;omega⟩
  |er h0 hc hx hb=>exact⟨Y9 ho hx hc h0,B3,F0⟩
 obtain⟨k1,k2,k3⟩:=key;obtain⟨E,e1,e2⟩:=W9 o p f c w r n g a x false e hp F0 F0;rw[k1]at e2;cases e2;exact⟨e1,k1⟩
theorem Bh.feed(ho:o.length<=64)(h:Bh o s p f c w r n g a x e)(hp:p.length<=20000)(b:LB)(hb:b.length<=20000)(hs:(s++b).length<=100000):
  ∃(p':LB) (f' c' w' r' n':Int) (g':LI) (a':Int) (x':LB) (e':Int),Di o p f c w r n g a x false e b=some (o,p',f',c',w',r',n',g',a',x',false,e',e')/\
   Lo o p f c w r n g a x false e b=some (o,p',f',c',w',r',n',g',a',x',false,e',e')/\Bh o (s++b) p' f' c' w' r' n' g' a' x' e':=by
 have hck:=h.check ho F0;cases h with
 |wt W hl hB=>
  obtain⟨h1,h2⟩:=rX ho W b hp hb;have hpb:(p++b).length<=100000:=by rw[B6];omega
  have hZ:SzD (p++b) g a x:=⟨hpb,W.sz.hg,W.sz.hx⟩;rcases Ake 1004 Ax o (p++b) f c w r n g a x W.fit ho hZ W.out hpb (Ayj hZ) B_ with⟨t2,t3,t4,t5,t6,t7,t8,t9,t10,k1,k2,k3,k4,k5⟩|⟨x2,e,k1,k2,k3,k4⟩
  ·refine⟨t2,t3,t4,t5,t6,t7,t8,t9,t10,0,h1.trans k1,h2.trans k1, .wt k2 ?_ λb2 hL=>?_⟩
   ·rw[B6]at k3⊢;omega
   ·rw[C6,hB (b++b2) (by rw[<-C6];exact hL),<-C6];refine k5 b2 ?_;rw[B6,B6]at hL⊢;omega
  ·have k4':=k4 [] (by simpa using hpb);rw[E0]at k4';refine⟨_,_,_,_,_,_,_,_,_,_,h1.trans k4',h2.trans k4', .er k1 k2 k3 λb2 hL=>?_⟩;rw[C6,hB (b++b2) (by rw[<-C6];exact hL),<-C6];refine k4 b2 ?_;rw[B6,B6]at hL⊢;omega
 |er h0 hc hx hB=>
  have hne:Bd e 0=true:=by rw[Aj];simp;omega
  refine⟨_,_,_,_,_,_,_,_,_,_,?_,?_, .er h0 hc hx λb2 hL=>?_⟩
  ·rw[Di,Zx,mI B3 B3 F0 hck.1,A_ F2,Aa];simp only;rw[B2 (show e≠0 by omega),B2 hne]
  ·rw[Lo,Ux,hck.2,Aa,A_ F2,eQ B3 B3 F0,Aa];simp only;rw[Uv,B2 hne,Aa,B2 hne]
  ·rw[C6];exact hB (b++b2) (by rw[<-C6];exact hL)
theorem Ayk{u:Bool}{v:Int}{y:LB}(hf:FitD o f c w r n g a x){t1 t2:LB}{t3 t4 t5 t6 t7:Int}{t8:LI}{t9:Int}{t10:LB}{t11:Bool}{t12:Int}
  (h:Af o p f c w r n g a x u v=some (t1,t2,t3,t4,t5,t6,t7,t8,t9,t10,t11,t12, -1)) (hp:p.length<=100000):Af o p f c w r n g a y u v=some (o,p,f,c,w,r,n,g,a,y,u,v, -1):=by
 have zero:¬(Bd (0:Int) 0=true):=F2
 rw[Af,Bo]at h⊢;by_cases hz:geq f 0=true
 ·rw[B2 hz]at h⊢;obtain⟨⟨z1,z2,z3,z4,z5,z6,z7⟩,hz1,h⟩:=AF h;rw[hz1,Aa];simp only at h⊢;by_cases h7:Bd z7 0=true
  ·rw[B2 h7]at h⊢;simp only[B?,BS]at h;rw[h.2.2.2.2.2.2.2.2.2.2.2.2]
  ·rw[A_ h7]at h;obtain⟨af,h1,h⟩:=AF h;rw[Gk,Gj,Es]at h;obtain⟨aw,h2,h⟩:=AF h;simp only[B?,BS]at h;obtain⟨-, -, -, -, -, -, -, -, -, -, -, -,rfl⟩:=h;split at h2<;>cases h2
 ·rw[A_ hz]at h⊢;rw[Bt,Ba]at h⊢;by_cases hg:geq (Ac g) 0=true
  ·rw[B2 hg]at h⊢;obtain⟨⟨z1,z2,z3⟩,hz1,h⟩:=AF h;rw[hz1,Aa];simp only at h⊢;by_cases h7:Bd z3 0=true
   ·rw[B2 h7]at h⊢;simp only[B?,BS]at h;rw[h.2.2.2.2.2.2.2.2.2.2.2.2]
   ·rw[A_ h7]at h;obtain⟨af,h1,h⟩:=AF h;simp only[B?,BS]at h;exact absurd h.2.2.2.2.2.2.2.2.2.2.2.2 F2
  ·rw[A_ hg]at h⊢;by_cases he:geq a (Ac g)=true
   ·rw[B2 he]at h⊢;by_cases hm:Dz (Ac p) 4000=true
    ·rw[B2 hm]at h;simp only[B?,BS]at h;exact absurd h.2.2.2.2.2.2.2.2.2.2.2.2 F2
    ·rw[A_ hm]
   ·rw[A_ he]at h⊢;obtain⟨⟨z1,z2⟩,hz1,h⟩:=AF h;have hz2:Cw o p f c w r n g a y u v=some (z1,z2):=hz1;rw[hz2,Aa];simp only at h⊢;by_cases h7:Bd z2 0=true
    ·rw[B2 h7]at h⊢;simp only[B?,BS]at h;rw[h.2.2.2.2.2.2.2.2.2.2.2.2]
    ·rw[A_ h7]at h;obtain⟨an,h2,h⟩:=AF h;obtain⟨ah,h3,h⟩:=AF h;obtain⟨ad,h4,h⟩:=AF h;obtain⟨ae,h5,h⟩:=AF h;simp only[B?,BS]at h;exact absurd h.2.2.2.2.2.2.2.2.2.2.2.2 F2
end Go.Pl
namespace Go.Pl
open Go Go.Lv
variable{u t11:Bool}{α:Type}
section
variable {o s p:LB} {f c w r n:Int} {g:LI} {a:Int} {x:LB} {e:Int}
theorem FitD.drop(h:FitD o f c w r n g a x)(t:Nat):FitD o f c w r n g a (x.drop t):=by
 cases h with
 |new e1 e2 e3 e4 e5 e6 e7 e8=>subst e8;exact .new e1 e2 e3 e4 e5 e6 e7 B3
 |head F C W R N hd hpw e6 e7 e8=>subst e8;exact .head F C W R N hd hpw e6 e7 B3
 |tab F C W R N A hd hpw ht hl ea hA=>exact .tab F C W R N A hd hpw ht hl ea hA
theorem OutB.drop(h:OutB f c w r n g a x)(t:Nat):OutB f c w r n g a (x.drop t):=by
 intro F C W R N A hd hg ha;have:=h F C W R N A hd hg ha;rw[D3];omega
theorem Bh.gH(h:Bh o s p f c w r n g a x e):p.length<=s.length/\g.length<=1000/\x.length<=12000:=by
 cases h with
 |wt W hl hb=>exact⟨hl,W.sz.hg,Aw6 W.fit W.out⟩
 |er h0 hc hx hb=>exact⟨B3,B3,hx⟩
theorem Bh.A!(ho:o.length<=64)(h:Bh o s p f c w r n g a x e)(hp:p.length<=100000)(t:Nat):Jv o p f c w r n g a (x.drop t) false e=some 0:=by
 have hs:=h.gH;have key:Ef o p f c w r n g a (x.drop t) false e=some 0:=by
  cases h with
  |wt W hl hb=>exact I0 (W.fit.drop t) ho (W.out.drop t) (Ayk W.fit W.wait hp)
  |er h0 hc hx hb=>exact Y9 ho IC hc h0
 obtain⟨E,e1,e2⟩:=W9 o p f c w r n g a (x.drop t) false e hp F0 IC;rw[key]at e2;cases e2;exact e1
theorem Aiv(hck:Jv o p f c w r n g a x u e=some 0)(hp:p.length<=20000)(hg:g.length<=2000)(hx:x.length<=12000)(m:Nat):
  Vk o p f c w r n g a x u e (m:Int)=some (o,p,f,c,w,r,n,g,a,x.drop (min m x.length),u,e,x.take (min m x.length),0):=by
 rw[Vk,hck,Aa,A_ F2,A_ J9,Ads F0 hg F0,Aa];simp only;have hk:Fq (m:Int) (Ac x)=((min m x.length:Nat):Int):=by rw[CO,Ac];omega
 rw[hk,Cx,Aa,Ks,Bg B5,Aa,Aa,Bu,Aa];rfl
end
section
variable {o s p:LB} {f c w r n:Int} {g:LI} {a:Int} {x:LB} {e:Int}
theorem Aey{v:Int}(hp:p.length<=20000)(h:Dn o p f c w r n g a x u v=some e):Cd e:=by
 rw[Dn]at h;split at h
 ·rw[EY p F0,Aa]at h;have hok:=EI (b:=p);simp only at h;by_cases h2:(Bw p).2≠0
  ·rw[B2 (by rw[Aj];simpa using h2)]at h;cases h;exact jk p
  ·have h3:(Bw p).2=0:=by simpa using h2
   obtain⟨k1,k2,k3⟩:=hok h3;have hl:(Jl p).length<=p.length:=by rw[Jl,D3];omega
   rw[A_ (by rw[Aj,h3];simp),Bu,Aa,show p.drop (Bw p).1.toNat=Jl p from rfl,lW _ F0,Aa]at h;cases h;exact oP _
 ·split at h
  ·cases h;decide
  ·obtain⟨⟨z1,z2⟩,hz,h⟩:=AF h;simp only at h;split at h<;>(cases h;decide)
theorem YF{v k:Int}(ho:o.length<=64)(hx:x.length<=12000)(hk:(u=false/\v=k/\0<k/\Cd k)\/ (u=true/\v=0/\k=36)):
  Jv o [] 0 0 0 0 0 [] 0 x u v=some 0/\ (∀b,Di o [] 0 0 0 0 0 [] 0 x u v b=some (o,[],0,0,0,0,0,[],0,x,u,v,k))/\Cg o [] 0 0 0 0 0 [] 0 x u v=some (o,[],0,0,0,0,0,[],0,x,u,v,k):=by
 have key:Ef o [] 0 0 0 0 0 [] 0 x u v=some 0:=by
  rcases hk with⟨rfl,rfl,h1,h2⟩|⟨rfl,rfl,rfl⟩
  ·exact Y9 ho hx h2 h1
  ·have hX:Dz (Ac x) 12000=false:=by rw[Ap,Ac];simp;omega
   rw[Ef,A_ C3,A_ F2,B2 F2,hX,A_ F2,A_ F2]
 obtain⟨E,e1,e2⟩:=W9 o [] 0 0 0 0 0 [] 0 x u v B3 B3 F0;rw[key]at e2;cases e2;have hv:(if v≠0 then v else if u=true then 36 else 0)=k:=by
  rcases hk with⟨rfl,rfl,h1,h2⟩|⟨rfl,rfl,rfl⟩
  ·rw[B2 F0]
  ·rfl
 have hk0:Bd k 0=true:=by
  rw[Aj];rcases hk with⟨rfl,rfl,h1,h2⟩|⟨rfl,rfl,rfl⟩
  ·simp;omega
  ·rfl
 have hb:=mI (o:=o) (p:=[]) (f:=0) (c:=0) (w:=0) (r:=0) (n:=0) (g:=[]) (a:=0) (x:=x) (u:=u) (v:=v) B3 B3 F0 e1;rw[A_ F2,hv]at hb;refine⟨e1,λb=>?_,?_⟩
 ·rw[Di,Zx,hb,Aa];simp only;rw[B2 hk0]
 ·rw[Cg,hb,Aa];simp only;rw[B2 hk0]
theorem Bh.finish(ho:o.length<=64)(h:Bh o s p f c w r n g a x e)(hp:p.length<=20000):
  ∃(u:Bool) (v k:Int),Cg o p f c w r n g a x false e=some (o,[],0,0,0,0,0,[],0,x,u,v,k)/\ ((u=false/\v=k/\0<k/\Cd k/\ (e=0\/e=k))\/ (u=true/\v=0/\k=0)):=by
 have hs:=h.gH;have hck:=(h.check ho F0).1;have hb:=mI (o:=o) (p:=p) (f:=f) (c:=c) (w:=w) (r:=r) (n:=n) (g:=g) (a:=a) (x:=x) (u:=false) (v:=e) F0 F0 F0 hck;rw[A_ F2]at hb;cases h with
 |wt W hl hB=>
  obtain⟨e1,d1,d2⟩:=vH (o:=o) (p:=p) (f:=f) (c:=c) (w:=w) (r:=r) (n:=n) (a:=a) (u:=false) (v:=0) (g:=g) (x:=x) hp;have hcd:=Aey hp d2;rw[Cg,hb,Aa];simp only;rw[A_ F2,d1,Aa];by_cases he:Bd e1 0=true
  ·rw[B2 he];refine⟨false,e1,e1,rfl, .inl ⟨rfl,rfl,?_,hcd,B3⟩⟩;have:=hcd.nn;rw[Aj]at he;simp only[LJ]at he;omega
  ·rw[A_ he];exact⟨true,0,0,rfl, .inr ⟨rfl,rfl,rfl⟩⟩
 |er h0 hc hx hB=>
  have hne:Bd e 0=true:=by rw[Aj];simp;omega
  rw[Cg,hb,Aa];simp only;rw[B2 (show e≠0 by omega),B2 hne];exact⟨false,e,e,rfl, .inl ⟨rfl,rfl,h0,hc, .inr rfl⟩⟩
end
section
variable {o p:LB} {f c w r n:Int} {g:LI} {a:Int} {x:LB} {q:Nat}
theorem EJ(hp:p.length<=100000)(hg:g.length<=1000)(hx:x.length<=13000000)(h:Af o p f c w r n g a x false 0=some (o,p,f,c,w,r,n,g,a,x,false,0, -1)):Me (q+1) o p f c w r n g a x=some (o,p,f,c,w,r,n,g,a,x,false,0,0):=by
 rw[Me,Bb,Bv,h,Aa];simp only;rw[B2 F2,eQ hp F0 hx,Aa]
theorem WY(hx:x.length<=13000000){e:Int}(he:0<e){t2:LB}{t3 t4 t5 t6 t7:Int}{t8:LI}{t9:Int}{t12:Int}(h:Af o p f c w r n g a x false 0=some (o,t2,t3,t4,t5,t6,t7,t8,t9,x,t11,t12,e)):Me (q+1) o p f c w r n g a x=some (o,[],0,0,0,0,0,[],0,x,false,e,e):=by
 rw[Me,Bb,Bv,h,Aa];simp only;rw[A_ bV,B2 D2,I3 hx,Aa]
theorem yL{p':LB}{f' c' w' r' n':Int}{g':LI}{a':Int}{x':LB}(h:Af o p f c w r n g a x false 0=some (o,p',f',c',w',r',n',g',a',x',false,0,0)):Me (q+1) o p f c w r n g a x=Me q o p' f' c' w' r' n' g' a' x':=by
 rw[Me,Bb,Bv,h,Aa];simp only;rw[A_ F2,A_ F2]
end
def Ends(o:LB)(R:Option Bis)(x:LB)(e:Int):Prop:=(0<e/\R=some (o,[],0,0,0,0,0,[],0,x,false,e,e))\/ (∃(p:LB) (f c w r n:Int) (g:LI) (a:Int),p.length<=100000/\R=some (o,p,f,c,w,r,n,g,a,x,false,0,0)/\Dn o p f c w r n g a x false 0=some e)
theorem Af1 (b p:LB)(hb:b.length<=20000)(hp:p.length<=64)(q:Nat):
  (∃e:Int,e≠0/\Cf b p=some (HO e)/\Ends p (Me (q+2) p b 0 0 0 0 0 [] 0 []) [] e)\/ (∃f c w r n A l,Opn b p f c w r n A l/\Me (q+2) p b 0 0 0 0 0 [] 0 []=Me q p (b.drop A) (f:Int) (c:Int) (w:Int) (r:Int) (n:Int) l 0 []):=by
 have hx0:([]:LB).length<=13000000:=by simp
 have hg0:([]:LI).length<=1000:=by simp
 have hT:Af p b 0 0 0 0 0 [] 0 [] false 0=Af p b 0 0 0 0 0 [] 0 [] false 0:=rfl
 conv at hT=>rhs;rw[Af,Bo,B2 F2,CW b F0,Aa,stS]
 have hE:Dn p b 0 0 0 0 0 [] 0 [] false 0=Dn p b 0 0 0 0 0 [] 0 [] false 0:=rfl
 conv at hE=>rhs;rw[Dn,B2 F2,EY b F0,Aa]
 have hP:Cf b p=Cf b p:=rfl
 conv at hP=>rhs;rw[Cf,Of,A_ C3,A_ C3,Ll b F0,Aa]
 have hfn:=Z8 b;have hrn:=nT (Jl b);have hopen:=V9 b p F0 hp;simp only at hE;by_cases h2:(Bw b).2=0
 ·obtain⟨p0,p1,p2⟩:=EI h2;have hc:=Bu (l:=b) p0 p1;have hlen:(Jl b).length=b.length-(Bw b).1.toNat:=by simp[Jl]
  simp only[h2]at hP hE;rw[A_ (show ¬(Bw b).2=24 by omega),A_ (show ¬(Bw b).2≠0 by omega)]at hT;rw[A_ C0,hc,Aa,show b.drop (Bw b).1.toNat=Jl b from rfl,FI _ nK,Aa]at hP;rw[A_ C0,hc,Aa,show b.drop (Bw b).1.toNat=Jl b from rfl,lW _ nK,Aa]at hE;by_cases h3:(Eg (Jl b)).2.2.2.2.2=0
  ·obtain⟨g1,g2,g3,g4⟩:=nI h3;have iR:¬((Qw (Jl b) uh||Qw (Jl b) C_)=true):=by
    have i1:Qw (Jl b) uh=false:=by rw[Qw,E5 wh];rfl
    have i2:Qw (Jl b) C_=false:=by rw[Qw,E5 wo];rfl
    rw[i1,i2];decide
   rw[A_ iR,A_ (show ¬(Eg (Jl b)).2.2.2.2.2=24 by omega),h3]at hT;simp only at hT;rw[A_ F2]at hT;have hd:HdI (f0 (Jl b):Int) (f1 (Jl b):Int) (f2 (Jl b):Int) (f3 (Jl b):Int) (f4 (Jl b):Int) (f0 (Jl b)) (f1 (Jl b)) (f2 (Jl b)) (f3 (Jl b)) (f4 (Jl b)):=⟨rfl,rfl,rfl,rfl,rfl,g3,g4⟩;generalize hF:(Bw b).1.toNat=F at*
   have hF':(Bw b).1=(F:Int):=F0
   rw[g1,hF']at hP hT;simp only at hP hT;generalize f0 (Jl b)=f at*
   generalize f1 (Jl b)=c at*
   generalize f2 (Jl b)=w at*
   generalize f3 (Jl b)=r at*
   generalize f4 (Jl b)=n at*
   have t22:Ae (F:Int) 22=((F+22:Nat):Int):=by rw[Ah];omega
   have t30:Ae ((F+22:Nat):Int) 8=((F+30:Nat):Int):=by rw[Ah];omega
   have Bj7:f=1\/f=2:=by simp only[Gn,B7]at g3;omega
   have hf1:geq (f:Int) 1=decide (f=1):=by rw[As,D0];simp;omega
   rw[A_ C0,t22,t30]at hP;rw[Bu,Aa,Gk,Gj,Es,show((F:Int)+22).toNat=F+22 by omega]at hT;by_cases QX:((p==([]:LB)) !=(geq (f:Int) (1:Int)))=true
   ·rw[B2 QX]at hP hT;rw[Aa]at hT;exact .inl ⟨26,F0,hP, .inl ⟨F0,WY (q:=q+1) hx0 F2 hT⟩⟩
   ·rw[A_ QX]at hP hT;rw[Aa]at hT;have hl1:=yL (q:=q+1) hT;have hpf:(p=[]↔f=1):=by
     rw[As]at QX;have h5:(p==([]:LB))=((f:Int)==1):=by simpa using QX
     have h6:(p==([]:LB))=true↔((f:Int)==1)=true:=by rw[h5]
     rw[D4,D4]at h6;rw[h6];omega
    have hpw:(p==([]:LB))=decide (f=1):=by rw[<-hf1];simpa using QX
    have hdl:(b.drop (F+22)).length=b.length-(F+22):=D3;have hE2:Dn p (b.drop (F+22)) (f:Int) (c:Int) (w:Int) (r:Int) (n:Int) [] 0 [] false 0=some 24:=by
     rw[Dn,A_ E6,B2 F2]
    have hT2:Af p (b.drop (F+22)) (f:Int) (c:Int) (w:Int) (r:Int) (n:Int) [] 0 [] false 0=Af p (b.drop (F+22)) (f:Int) (c:Int) (w:Int) (r:Int) (n:Int) [] 0 [] false 0:=rfl
    conv at hT2=>rhs;rw[Af,Bo,A_ E6,Bt,Ba,B2 F2,Fv,Iy]
    have hend:∀D:Nat,F+22+D<=b.length->D=(if f=2 then 8 else 0)->Cf b p=On b (f:Int) (c:Int) (w:Int) (r:Int) (n:Int) ((F+22+D:Nat):Int)->
      Af p (b.drop (F+22)) (f:Int) (c:Int) (w:Int) (r:Int) (n:Int) [] 0 [] false 0=((El (b.drop (F+22)) (f:Int) (c:Int) (w:Int) (r:Int) (n:Int) (D:Int)).bind (λ(ag,ak,w1)=>if(Bd w1 0)then some (p,b.drop (F+22),(f:Int),(c:Int),(w:Int),(r:Int),(n:Int),([]:LI),(0:Int),([]:LB),false,(0:Int),w1)else(Bp (b.drop (F+22)) ag (Ac (b.drop (F+22)))).bind λal=>some (p,al,(f:Int),(c:Int),(w:Int),(r:Int),(n:Int),ak,(0:Int),([]:LB),false,(0:Int),(0:Int))))->
      (∃e:Int,e≠0/\Cf b p=some (HO e)/\Ends p (Me (q+2) p b 0 0 0 0 0 [] 0 []) [] e)\/ (∃f c w r n A l,Opn b p f c w r n A l/\Me (q+2) p b 0 0 0 0 0 [] 0 []=Me q p (b.drop A) (f:Int) (c:Int) (w:Int) (r:Int) (n:Int) l 0 []):=by
     intro D hD hD2 e1 e2;obtain⟨_,k2,k3⟩:=jw hd p (b.drop (F+22)) F0 D F0 0 [] false 0;rw[mM g3 g4 b F0 (F+22+D) hD]at e1;rw[k2,Aa]at e2;have hnn:=oI ((b.drop (F+22)).drop D) (Al (Ak r) n).length;have hok:=mC (b:=(b.drop (F+22)).drop D) (n:=(Al (Ak r) n).length);rw[K?]at e2 hnn hok k3;generalize hz:Ez (b.drop (F+22+D)) (Al (Ak r) n).length=z at*
     obtain⟨z1,z2⟩:=z;simp only at e1 e2 hnn hok k3;by_cases h:z2≠0
     ·rw[B2 h]at e1;refine .inl ⟨z2,h,e1,?_⟩;by_cases h24:z2=24
      ·rw[B2 h24]at e2;simp only at e2;rw[B2 F2]at e2;rw[h24];exact .inr ⟨_,_,_,_,_,_,_,_,F0,hl1.trans (EJ F0 hg0 hx0 e2),hE2⟩
      ·rw[A_ h24]at e2;simp only at e2;rw[B2 (by rw[Aj];simpa using h)]at e2;exact .inl ⟨F0,hl1.trans (WY hx0 F0 e2)⟩
     ·have h0:z2=0:=by simpa using h
      subst h0;obtain⟨k1,m2,m3,m4,m5,m6⟩:=hok rfl;have hk3:=k3 rfl;simp only[BS,M?]at k1;have gl:z1.length=(Al (Ak r) n).length:=by rw[k1];exact Xu _ _
      rw[A_ (show ¬((0:Int)≠0) by decide)]at e1;rw[A_ (show ¬((0:Int)=24) by decide)]at e2;simp only at e2;rw[A_ F2,Bu,Aa,K?]at e2;rcases hopen with⟨e,he,h1,_⟩|⟨f',c',w',r',n',A',l',o'⟩
      ·rw[e1]at h1;have:=G? h1;simp only[HO,BS]at this;exact absurd this.2.2.2.2.2.2.2.symm he
      ·have hpr:=o'.prog;rw[e1]at hpr;simp only[B?,BS]at hpr;obtain⟨v1,v2,v3,v4,v5,v6,v7,_⟩:=hpr;refine .inr ⟨f',c',w',r',n',A',l',o',?_⟩;rw[<-v1,<-v2,<-v3,<-v4,<-v5,<-v7];refine hl1.trans ((yL e2).trans ?_);congr 2;omega
    by_cases h5:f=2
    ·have VR:p≠ []:=λe=>by have:=hpf.1 e;omega
     have h64:(p !=([]:LB))=true:=by simpa using VR
     rw[B2 h64]at hP;rw[B2 (by rw[As,h5];rfl)]at hT2;by_cases h6:b.length<F+30
     ·rw[B2 F4]at hP hT2;rw[Aa]at hT2;simp only at hT2;rw[B2 F2]at hT2;exact .inl ⟨24,F0,hP, .inr ⟨_,_,_,_,_,_,_,_,F0,hl1.trans (EJ F0 hg0 hx0 hT2),hE2⟩⟩
     ·have hseg:((b.take (F+30)).drop (F+22)).length=8:=by simp;omega
      have Blz:(b.drop (F+22)).take 8=(b.take (F+30)).drop (F+22):=by rw[RH];congr 1;omega
      rw[A_ F4,Sa,Aa]at hP;rw[A_ (by rw[Ad,Ac,hdl];simp;omega),Cx,Aa,lD p hp,Aa,show(8:Int).toNat=8 from rfl,Blz]at hT2;rw[Qt,mE p hp,Aa]at hP;simp only at hP;rw[A_ (by rw[Aj,Aj,Ac,Ac,Cn,show((F+30:Nat):Int).toNat=F+30 from rfl,show((F+22:Nat):Int).toNat=F+22 from rfl,hseg];simp),Jj,Aa,Aa]at hP;simp only at hP;rw[A_ C0,show((F+30:Nat):Int).toNat=F+30 from rfl,show((F+22:Nat):Int).toNat=F+22 from rfl]at hP;generalize(b.take (F+30)).drop (F+22)=seg at*
      by_cases h7:seg=Uc (Vy p).toNat 8
      ·rw[A_ (by simp[h7])]at hP hT2;exact hend 8 F0 (by rw[B2 h5]) hP hT2
      ·rw[B2 (by simpa using h7)]at hP;rw[B2 (by simpa using h7),Aa]at hT2;simp only at hT2;rw[B2 F2]at hT2;exact .inl ⟨26,F0,hP, .inl ⟨F0,hl1.trans (WY hx0 F2 hT2)⟩⟩
    ·have hpe:p=[]:=hpf.2 F0;rw[A_ (by rw[hpe];simp)]at hP;rw[A_ E6]at hT2;exact hend 0 F0 (by rw[A_ h5]) hP hT2
  ·have h3':=h3;generalize Eg (Jl b)=v at*
   obtain⟨v1,v2,v3,v4,v5,v6⟩:=v;simp only at h3 hP hE hrn;rw[B2 (by rw[Aj];simpa using h3)]at hP;refine .inl ⟨v6,h3,hP,?_⟩;by_cases iR:(Qw (Jl b) uh||Qw (Jl b) C_)=true
   ·rw[B2 iR]at hT;simp only at hT;rw[B2 F2]at hT;exact .inr ⟨_,_,_,_,_,_,_,_,F0,EJ F0 hg0 hx0 hT,hE⟩
   ·rw[A_ iR]at hT;by_cases h24:v6=24
    ·rw[B2 h24]at hT;simp only at hT;rw[B2 F2]at hT;exact .inr ⟨_,_,_,_,_,_,_,_,F0,EJ F0 hg0 hx0 hT,hE⟩
    ·rw[A_ h24]at hT;simp only at hT;rw[B2 (by rw[Aj];simpa using h3)]at hT;exact .inl ⟨F0,WY hx0 F0 hT⟩
 ·have h2':=h2;generalize Bw b=v at*
  obtain⟨v,e⟩:=v;simp only at h2 hP hT hE hfn;rw[B2 (by rw[Aj];simpa using h2)]at hP hE;refine .inl ⟨e,h2,hP,?_⟩;by_cases h24:e=24
  ·rw[B2 h24]at hT;simp only at hT;rw[B2 F2]at hT;exact .inr ⟨_,_,_,_,_,_,_,_,F0,EJ F0 hg0 hx0 hT,hE⟩
  ·rw[A_ h24,B2 h2]at hT;simp only at hT;rw[B2 (by rw[Aj];simpa using h2)]at hT;exact .inl ⟨F0,WY hx0 F0 hT⟩
section
variable {b p:LB} {f c w r n A:Nat} {l:LI} (o:Opn b p f c w r n A l) (hb:b.length<=20000)
include o hb
theorem Bme:∀(j k q:Nat) (acc:LB),k+j=l.length->j<q-> (A:Int)+(l.take k).sum<=b.length->acc.length<=12000*k->
  ∃X,Ends p (Me q p (b.drop ((A:Int)+(l.take k).sum).toNat) (f:Int) (c:Int) (w:Int) (r:Int) (n:Int) l (k:Int) acc) X (aA (Iv b p f c w r n A l) (YV b A l) j k acc).2/\
   ((aA (Iv b p f c w r n A l) (YV b A l) j k acc).2=0->X=(aA (Iv b p f c w r n A l) (YV b A l) j k acc).1)
 |j,k,0,_,_,h,_,_=>absurd h (HU _)
 |j,k,q+1,acc,hk,hq,hA,ha=>by
  have hd:HdI (f:Int) (c:Int) (w:Int) (r:Int) (n:Int) f c w r n:=⟨rfl,rfl,rfl,rfl,rfl,o.shape,o.fit⟩;have hs1:=o.some1;have hsum:=o.sum;have IH:=hd.num;have hlen:=o.len;have b1:=Fk o.five k;have hfn:¬(geq (f:Int) 0=true):=by rw[As];simp;omega
  have hgl:¬(geq (Ac l) 0=true):=by rw[As,Ac,D4];omega
  have hgf:geq (Ac l) 0=false:=by simpa using hgl
  generalize hIn:b.drop ((A:Int)+(l.take k).sum).toNat=In;have uZ:In.length=b.length-((A:Int)+(l.take k).sum).toNat:=by rw[<-hIn,D3]
  have hT:Af p In (f:Int) (c:Int) (w:Int) (r:Int) (n:Int) l (k:Int) acc false 0=Af p In (f:Int) (c:Int) (w:Int) (r:Int) (n:Int) l (k:Int) acc false 0:=rfl
  conv at hT=>rhs;rw[Af,Bo,A_ hfn,Bt,Ba,A_ hgl]
  have hE:Dn p In (f:Int) (c:Int) (w:Int) (r:Int) (n:Int) l (k:Int) acc false 0=Dn p In (f:Int) (c:Int) (w:Int) (r:Int) (n:Int) l (k:Int) acc false 0:=rfl
  conv at hE=>rhs;rw[Dn,A_ hfn]
  cases j with
  |zero=>
   obtain rfl:k=l.length:=F0
   rw[FX]at hIn uZ;have hbe:YV b A l=(Qs In).2:=by rw[YV,hIn]
   rw[B2 nM]at hT;have hgt:Cj (l.length:Int) (Ac l)=false:=by rw[Ad,Ac,KV];omega
   rw[A_ (by rw[hgf,hgt];decide),L4 In F0,Aa]at hE;rw[aA,hbe];have hbz:=Ado In;have hb4:4000<In.length-> (Qs In).2=38:=λh4=>by rw[Qs,B2 h4]
   generalize Qs In=z at*
   obtain⟨z1,z2⟩:=z;simp only at hE hbz hb4⊢;by_cases h4:4000<In.length
   ·rw[B2 C3]at hT;rw[hb4 h4,B2 F2];exact⟨acc, .inl ⟨F2,WY F0 F2 hT⟩,λh=>by cases h⟩
   ·rw[A_ C3]at hT;have hlw:=EJ (q:=q) (by omega:In.length<=100000) hs1.2 F0 hT;rcases hbz with h|h
    ·rw[h,A_ F2];rw[h,A_ F2]at hE;exact⟨acc, .inr ⟨_,_,_,_,_,_,_,_,F0,hlw,hE⟩,λ_=>rfl⟩
    ·rw[h,B2 F2];rw[h,B2 F2]at hE;exact⟨acc, .inr ⟨_,_,_,_,_,_,_,_,F0,hlw,hE⟩,λh=>by cases h⟩
  |succ j=>
   have hlt:k<l.length:=F0
   have hlt2:k<(Al (Ak r) n).length:=F0
   obtain⟨m,x,s,e,g⟩:=Ua o k hlt;have hw:Bn (w:Int):=(My o.shape).2.1;have aB:=g.lens hw;have b2:=Fk o.five (k+1);have e1:=Fj hlt;have h5:=o.five l[k] (D5 _);have hm:=g.mom;rw[A_ mY,Cw,Fe,Bq hlt,Aa]at hT;have hgt:Cj (k:Int) (Ac l)=true:=by rw[Ad,Ac,B7];omega
   rw[B2 (by rw[hgf,hgt];decide)]at hE;rw[aA,g.eq];simp only;rcases g.way with⟨w1,rfl⟩|⟨w1,_,w2⟩
   ·rw[B2 F4,Aa]at hT;simp only at hT;rw[B2 F2]at hT;rw[B2 F2];exact⟨acc, .inr ⟨_,_,_,_,_,_,_,_,F0,EJ F0 hs1.2 F0 hT,hE⟩,λh=>by cases h⟩
   ·have hseg:In.take l[k].toNat=xL b A l k:=by
     rw[xL,<-hIn,RH];congr 1;omega
    have hnn:=yJ hw (Lq p) IH.2.1.1 IH.2.1.2 g.pos.1 (by
     have hlt3:=Bq hlt2;rw[hlt3]at hm;have hm':=G? hm;obtain⟨m',hm2,m1,m2⟩:=Yt (Du r) IH.2.2.2.2.1 (D5 hlt2);omega) w2
    rw[A_ F4,WT p o.pass,Aa]at hT;simp only at hT;rw[Cx,Aa,hseg,Gq,Aa]at hT;simp only at hT;rw[hd.Q0,Aa,hm,Aa,Aa,w2,Aa]at hT;simp only at hT;rw[Fg,Fc]at hT;by_cases he:e≠0
    ·rw[B2 (by rw[Aj];simpa using he),Aa]at hT;simp only at hT;rw[B2 (by rw[Aj];simpa using he)]at hT;rw[B2 he];exact⟨acc, .inl ⟨by simp only;omega,WY F0 F0 hT⟩,λh=>absurd h he⟩
    ·have he0:e=0:=by simpa using he
     obtain⟨q1,q2,q3,q4,q5⟩:=g.some' he0;rw[A_ (by rw[Aj];simpa using he),TR hw F0 q3,<-q1,Aa,Aa]at hT;simp only at hT;rw[A_ F2,Bg B5,Aa,D8,Bg,Aa,Aa,Bu,Aa,Ah]at hT;rw[A_ he,yL hT];have uf:In.drop l[k].toNat=b.drop ((A:Int)+(l.take (k+1)).sum).toNat:=by rw[<-hIn,K?];congr 1;omega
     rw[uf];exact Bme j (k+1) q (acc++s) F0 F0 q5 KO
end
theorem Aed(b p:LB)(hb:b.length<=20000)(hp:p.length<=64):∃(X:LB) (x1 x2 x3:Int) (x4:LX) (E:Int),Ends p (Fd p b) X E/\Sm b p=some (x1,x2,x3,x4,E)/\ (E=0->Kw x2 x4=some (X,0)):=by
 obtain⟨q,hq⟩:∃q,Ax=q+1002+2:=⟨Ax-1004,by have:=Ar;omega⟩;rw[Fd,hq];rcases Af1 b p hb hp (q+1002)with⟨e,he,h1,h2⟩|⟨f,c,w,r,n,A,l,o,h2⟩
 ·rcases N6 b p F0 hp with⟨e',he',k1,_,k3,_⟩|⟨f,c,w,r,n,A,l,o,_,_⟩
  ·rw[h1]at k1;have:=G? k1;simp only[HO,BS]at this;obtain rfl:=this.2.2.2.2.2.2.2;exact⟨[],0,0,0,[],e,h2,k3,λh=>absurd h he⟩
  ·have:=o.prog;rw[h1]at this;have:=G? this;simp only[HO,BS]at this;exact absurd this.2.2.2.2.2.2.2 he
 ·rcases N6 b p F0 hp with⟨e',he',k1,_,k3,_⟩|⟨f',c',w',r',n',A',l',o',k3,_⟩
  ·have:=o.prog;rw[k1]at this;have:=G? this;simp only[HO,BS]at this;exact absurd this.2.2.2.2.2.2.2 he'
  ·have hpr:=o'.prog;rw[o.prog]at hpr;simp only[B?,BS]at hpr;obtain⟨v1,v2,v3,v4,v5,v6,v7,_⟩:=hpr;obtain rfl:f=f':=F0
   obtain rfl:c=c':=F0
   obtain rfl:w=w':=F0
   obtain rfl:r=r':=F0
   obtain rfl:n=n':=F0
   obtain rfl:A=A':=F0
   subst v7;have hs1:=o.some1;have hat:=o.at';obtain⟨X,g1,g2⟩:=Bme o hb l.length 0 (q+1002) [] F0 F0 (by rw[J',M7];omega) B3;rw[J',M7,X0,C2]at g1;have hrc:=v! w (Iv b p f c w r n A l) (YV b A l) l.length 0 [] [];have hgd:=oG (λk=>W? w (Iv b p f c w r n A l k)) (λk=>(Iv b p f c w r n A l k).2) (YV b A l) l.length 0 [];rw[RT,gR]at k3;rw[h2];by_cases hC:(lI (λk=>W? w (Iv b p f c w r n A l k)) (λk=>(Iv b p f c w r n A l k).2) (YV b A l) l.length 0 []).2≠0
   ·rw[B2 hC,OC]at k3;rw[<-hrc]at hC k3;exact⟨X,0,0,0,[],_,g1,k3,λh=>absurd h hC⟩
   ·have hC0:(lI (λk=>W? w (Iv b p f c w r n A l k)) (λk=>(Iv b p f c w r n A l k).2) (YV b A l) l.length 0 []).2=0:=by simpa using hC
    obtain⟨hbe,hE',hC1⟩:=hgd hC0;have hE:∀i,i<l.length-> (Iv b p f c w r n A l i).2=0:=λi hi=>hE' i F0 F0;rw[D8]at hC1;rw[A_ hC,hC1]at k3;rw[hC0]at hrc;have hX:=g2 hrc;rw[hbe,yP _ _ _ _ λi h1 h2=>hE i F0,D8]at hX;rw[hrc]at g1;exact⟨X,_,_,_,_,0,g1,k3,λ_=>by rw[hX];exact Ar4 o hE⟩
section
variable {b p:LB} {f c w r n A:Nat} {l:LI} (o:Opn b p f c w r n A l) (hb:b.length<=20000)
include o hb
theorem Abt {k:Nat}(hk:k<l.length)(h0:(A:Int)+(l.take k).sum<=b.length)(acc:LB)(hacc:acc.length<=12000*k):
  (b.length<(A:Int)+(l.take (k+1)).sum->∀q,Me (q+1) p (b.drop ((A:Int)+(l.take k).sum).toNat) (f:Int) (c:Int) (w:Int) (r:Int) (n:Int) l (k:Int) acc=some (p,b.drop ((A:Int)+(l.take k).sum).toNat,(f:Int),(c:Int),(w:Int),(r:Int),(n:Int),l,(k:Int),acc,false,0,0))/\
  ((A:Int)+(l.take (k+1)).sum<=b.length-> ((Iv b p f c w r n A l k).2=0->∀q,Me (q+1) p (b.drop ((A:Int)+(l.take k).sum).toNat) (f:Int) (c:Int) (w:Int) (r:Int) (n:Int) l (k:Int) acc=Me q p (b.drop ((A:Int)+(l.take (k+1)).sum).toNat) (f:Int) (c:Int) (w:Int) (r:Int) (n:Int) l ((k+1:Nat):Int) (acc++(Iv b p f c w r n A l k).1))/\
   ((Iv b p f c w r n A l k).2≠0->∀q,Me (q+1) p (b.drop ((A:Int)+(l.take k).sum).toNat) (f:Int) (c:Int) (w:Int) (r:Int) (n:Int) l (k:Int) acc=some (p,[],0,0,0,0,0,[],0,acc,false,(Iv b p f c w r n A l k).2,(Iv b p f c w r n A l k).2))):=by
 have hd:HdI (f:Int) (c:Int) (w:Int) (r:Int) (n:Int) f c w r n:=⟨rfl,rfl,rfl,rfl,rfl,o.shape,o.fit⟩;have hs1:=o.some1;have hsum:=o.sum;have IH:=hd.num;have hlen:=o.len;have b1:=Fk o.five k;have hfn:¬(geq (f:Int) 0=true):=by rw[As];simp;omega
 have hgl:¬(geq (Ac l) 0=true):=by rw[As,Ac,D4];omega
 generalize hIn:b.drop ((A:Int)+(l.take k).sum).toNat=In;have uZ:In.length=b.length-((A:Int)+(l.take k).sum).toNat:=by rw[<-hIn,D3]
 have hT:Af p In (f:Int) (c:Int) (w:Int) (r:Int) (n:Int) l (k:Int) acc false 0=Af p In (f:Int) (c:Int) (w:Int) (r:Int) (n:Int) l (k:Int) acc false 0:=rfl
 conv at hT=>rhs;rw[Af,Bo,A_ hfn,Bt,Ba,A_ hgl]
 have hlt2:k<(Al (Ak r) n).length:=F0
 obtain⟨m,x,s,e,g⟩:=Ua o k hk;have hw:Bn (w:Int):=(My o.shape).2.1;have aB:=g.lens hw;have b2:=Fk o.five (k+1);have e1:=Fj hk;have h5:=o.five l[k] (D5 _);have hm:=g.mom;rw[A_ mY,Cw,Fe,Bq hk,Aa]at hT;rw[g.eq];simp only;refine⟨λhlt q=>?_,λhge=>?_⟩
 ·rw[B2 F4,Aa]at hT;simp only at hT;rw[B2 F2]at hT;exact EJ F0 hs1.2 F0 hT
 rcases g.way with⟨w1,_⟩|⟨w1,_,w2⟩
 ·omega
 have hseg:In.take l[k].toNat=xL b A l k:=by
  rw[xL,<-hIn,RH];congr 1;omega
 have hnn:=yJ hw (Lq p) IH.2.1.1 IH.2.1.2 g.pos.1 (by
  have hlt3:=Bq hlt2;rw[hlt3]at hm;have hm':=G? hm;obtain⟨m',hm2,m1,m2⟩:=Yt (Du r) IH.2.2.2.2.1 (D5 hlt2);omega) w2
 rw[A_ F4,WT p o.pass,Aa]at hT;simp only at hT;rw[Cx,Aa,hseg,Gq,Aa]at hT;simp only at hT;rw[hd.Q0,Aa,hm,Aa,Aa,w2,Aa]at hT;simp only at hT;rw[Fg,Fc]at hT;refine⟨λhe q=>?_,λhe q=>?_⟩
 ·obtain⟨q1,q2,q3,q4,q5⟩:=g.some' he;rw[A_ (by rw[Aj];simpa using he),TR hw F0 q3,<-q1,Aa,Aa]at hT;simp only at hT;rw[A_ F2,Bg B5,Aa,D8,Bg,Aa,Aa,Bu,Aa,Ah]at hT;rw[yL hT];have uf:In.drop l[k].toNat=b.drop ((A:Int)+(l.take (k+1)).sum).toNat:=by rw[<-hIn,K?];congr 1;omega
  rw[uf];rfl
 ·rw[B2 (by rw[Aj];simpa using he),Aa]at hT;simp only at hT;rw[B2 (by rw[Aj];simpa using he)]at hT;exact WY F0 F0 hT
theorem xQ:∀(j k q:Nat) (acc:LB),k+j<=l.length-> (A:Int)+(l.take (k+j)).sum<=b.length-> (∀i,k<=i->i<k+j-> (Iv b p f c w r n A l i).2=0)->acc.length<=12000*k->
  Me (q+j) p (b.drop ((A:Int)+(l.take k).sum).toNat) (f:Int) (c:Int) (w:Int) (r:Int) (n:Int) l (k:Int) acc=Me q p (b.drop ((A:Int)+(l.take (k+j)).sum).toNat) (f:Int) (c:Int) (w:Int) (r:Int) (n:Int) l ((k+j:Nat):Int) (acc++Rm (λi=>(Iv b p f c w r n A l i).1) j k)
 |0,k,q,acc,_,_,_,_=>by simp[Rm]
 |j+1,k,q,acc,hk,hA,hg,hacc=>by
  have hnn:∀z∈l,0<=z:=λz hz=>by have:=o.five z hz;omega
  have m0:=O6 hnn (show k<=k+(j+1) by omega);have m1:=O6 hnn (show k+1<=k+(j+1) by omega);obtain⟨_,h2⟩:=Abt (hb:=hb) o (k:=k) F0 F0 acc hacc;have h3:=(h2 F0).1 (hg k F0 F0) (q+j);obtain⟨m,x,s,e,g⟩:=Ua o k F0;have aB:=g.lens (My o.shape).2.1;have hs:(Iv b p f c w r n A l k).1.length<=12000:=by rw[g.eq];exact aB.1
  have ih:=xQ j (k+1) q (acc++(Iv b p f c w r n A l k).1) F0 (by rw[show k+1+j=k+(j+1) by omega];exact hA) (λi h1 h2=>hg i F0 F0) KO;rw[show q+(j+1)=q+j+1 by omega,h3,ih,show k+1+j=k+(j+1) by omega,Rm,C6]
theorem Avy{acc:LB}(hacc:acc.length<=13000000)(h0:(A:Int)+l.sum<=b.length)(h4:b.length<= (A:Int)+l.sum+4000)(q:Nat):Me (q+1) p (b.drop ((A:Int)+l.sum).toNat) (f:Int) (c:Int) (w:Int) (r:Int) (n:Int) l (l.length:Int) acc=some (p,b.drop ((A:Int)+l.sum).toNat,(f:Int),(c:Int),(w:Int),(r:Int),(n:Int),l,(l.length:Int),acc,false,0,0):=by
 have hd:HdI (f:Int) (c:Int) (w:Int) (r:Int) (n:Int) f c w r n:=⟨rfl,rfl,rfl,rfl,rfl,o.shape,o.fit⟩;have hs1:=o.some1;have IH:=hd.num;have hfn:¬(geq (f:Int) 0=true):=by rw[As];simp;omega
 have hgl:¬(geq (Ac l) 0=true):=by rw[As,Ac,D4];omega
 have hl0:0<=l.sum:=VH l o.five;generalize hIn:b.drop ((A:Int)+l.sum).toNat=In;have uZ:In.length=b.length-((A:Int)+l.sum).toNat:=by rw[<-hIn,D3]
 have hT:Af p In (f:Int) (c:Int) (w:Int) (r:Int) (n:Int) l (l.length:Int) acc false 0=Af p In (f:Int) (c:Int) (w:Int) (r:Int) (n:Int) l (l.length:Int) acc false 0:=rfl
 conv at hT=>rhs;rw[Af,Bo,A_ hfn,Bt,Ba,A_ hgl]
 rw[B2 nM,A_ C3]at hT;exact EJ F0 hs1.2 hacc hT
theorem Atd(q:Nat):Me (q+2) p b 0 0 0 0 0 [] 0 []=Me q p (b.drop A) (f:Int) (c:Int) (w:Int) (r:Int) (n:Int) l 0 []:=by
 rcases Af1 b p hb o.pass q with⟨e,he,h1,_⟩|⟨f',c',w',r',n',A',l',o',h2⟩
 ·have:=o.prog;rw[h1]at this;have:=G? this;simp only[HO,BS]at this;exact absurd this.2.2.2.2.2.2.2 he
 ·have hpr:=o'.prog;rw[o.prog]at hpr;simp only[B?,BS]at hpr;obtain⟨v1,v2,v3,v4,v5,v6,v7,_⟩:=hpr;obtain rfl:f=f':=F0
  obtain rfl:c=c':=F0
  obtain rfl:w=w':=F0
  obtain rfl:r=r':=F0
  obtain rfl:n=n':=F0
  obtain rfl:A=A':=F0
  subst v7;exact h2
theorem Bc6{K:Nat}(hK:K<=l.length)(hA:(A:Int)+(l.take K).sum<=b.length)(hg:∀i,i<K-> (Iv b p f c w r n A l i).2=0)(hend:(K<l.length/\b.length<(A:Int)+(l.take (K+1)).sum)\/ (K=l.length/\b.length<= (A:Int)+l.sum+4000)):
  Fd p b=some (p,b.drop ((A:Int)+(l.take K).sum).toNat,(f:Int),(c:Int),(w:Int),(r:Int),(n:Int),l,(K:Int),Rm (λi=>(Iv b p f c w r n A l i).1) K 0,false,0,0):=by
 obtain⟨q,hq⟩:∃q,Ax=(q+1+K)+2:=⟨Ax-(K+3),by have:=Ar;have:=o.some1;omega⟩;have hr:=xQ o hb K 0 (q+1) [] F0 (by rw[HM];exact hA) (λi _ h2=>hg i F0) B3;rw[J',M7,X0,C2,HM,D8,show((0:Nat):Int)=0 from rfl]at hr;have hcl:(Rm (λi=>(Iv b p f c w r n A l i).1) K 0).length<=12000*K:=by
  have:∀j,j<=l.length-> (Rm (λi=>(Iv b p f c w r n A l i).1) j 0).length<=12000*j:=by
   intro j
   induction j with
   |zero=>intro _;simp[Rm]
   |succ j ih=>
    intro hj;obtain⟨m,x,s,e,g⟩:=Ua o j F0;have aB:=g.lens (My o.shape).2.1;have:=ih F0;have hs:(Iv b p f c w r n A l j).1.length<=12000:=by rw[g.eq];exact aB.1
    rw[Ae1,B6,HM];omega
  exact this K hK
 rw[Fd,hq,Atd o hb,hr];rcases hend with⟨h1,h2⟩|⟨rfl,h2⟩
 ·exact(Abt o hb h1 hA _ hcl).1 h2 q
 ·rw[FX]at hA⊢;exact Avy o hb (by have:=o.some1;omega) hA h2 q
end
theorem Azc{b b' p:LB}{f c w r n A:Nat}{l:LI}(o:Opn b p f c w r n A l)(o':Opn b' p f c w r n A l){k:Nat}(hk:k<l.length)(h1:(A:Int)+(l.take (k+1)).sum<=b.length)(h2:(A:Int)+(l.take (k+1)).sum<=b'.length)(hs:xL b A l k=xL b' A l k):Iv b p f c w r n A l k=Iv b' p f c w r n A l k:=by
 obtain⟨m,x,s,e,g⟩:=Ua o k hk;obtain⟨m',x',s',e',g'⟩:=Ua o' k hk;have hm:=g.mom;rw[g'.mom]at hm;have hm:=G? hm;obtain rfl:m'=m:=F0
 rcases g.way with⟨w1,_⟩|⟨_,w2,_⟩
 ·omega
 rcases g'.way with⟨w1,_⟩|⟨_,w2',_⟩
 ·omega
 rw[hs,w2']at w2;simp only[B?,BS]at w2;obtain⟨rfl,rfl⟩:=w2;rw[g.eq,g'.eq];by_cases he:e'=0
 ·rw[(g.some' he).1,(g'.some' he).1]
 ·rw[(g.none' he).1,(g'.none' he).1]
theorem B!{c w r n:Nat}{x:LX}(h:ClipOk c w r n x){p:LB}(hp:p.length<=64){t:Nat}(ht:Zp 0 p (Mz c w r n x p).length<=t):Opn ((Ck c w r n x p).take t) p (Ep p) c w r n (Zp 0 p (Mz c w r n x p).length) (By (Mz c w r n x p)):=by
 have fo:=bI h hp;have hl:(By (Mz c w r n x p)).length=(Al (Ak r) n).length:=by rw[Gb];exact bD p
 have e2:(HQ (Ep p) c w r n++(VW p++kB (By (Mz c w r n x p)))).length=Zp 0 p (Mz c w r n x p).length:=by
  rw[B6,B6,EC,XV,nF,Gb];unfold Zp;omega
 have e1:(Ck c w r n x p).take t=HQ (Ep p) c w r n++(VW p++(kB (By (Mz c w r n x p))++(Mz c w r n x p).flatten.take (t-Zp 0 p (Mz c w r n x p).length))):=by
  have:Ck c w r n x p=(HQ (Ep p) c w r n++(VW p++kB (By (Mz c w r n x p))))++(Mz c w r n x p).flatten:=by simp[Ck]
  rw[this,vX,H3 F0,e2];simp
 have hA4:4<=t:=by unfold Zp at ht;omega
 have:=Akh (b:=(Ck c w r n x p).take t) (T:=0) (z:=(Mz c w r n x p).flatten.take (t-Zp 0 p (Mz c w r n x p).length)) hp rfl (h.shape _ (wY p)) h.fit (uK (by
  rw[LD,show min 4 t=4 by omega,Ck,AH];rfl)) (by rw[C8];have:=fo.le;omega) (by rw[LG];exact e1) hl (O5 h p)
 rw[Gb]at this;exact this
theorem rP{c w r n:Nat}{x:LX}(h:ClipOk c w r n x){p:LB}(hp:p.length<=64){t:Nat}(ht:Zp 0 p (Mz c w r n x p).length<=t)(ht2:t<= (Ck c w r n x p).length){k:Nat}(hk:k<(Mz c w r n x p).length)(hin:(Zp 0 p (Mz c w r n x p).length:Int)+((By (Mz c w r n x p)).take (k+1)).sum<=t):
  Iv ((Ck c w r n x p).take t) p (Ep p) c w r n (Zp 0 p (Mz c w r n x p).length) (By (Mz c w r n x p)) k=(Az (w:Int) ((Yc c r n x).getD k []),0):=by
 have fo:=bI h hp;have hg:=(fo.Bh2 hk rfl).1;rw[<-hg];refine Azc (B! h hp ht) fo.Fm (by rw[Gb];exact hk) MC F0 ?_;rw[xL,xL,LD];congr 2;omega
theorem mJ{l m z:List α}(h:Dm l m=some z):z=l++m:=by
 rw[Dm]at h;split at h
 ·exact(G? h).symm
 ·cases h
theorem Av1{o p:LB}{f c w r n:Int}{g:LI}{a:Int}{x:LB}{v:Int}(hf:f≠0)(hg:g≠ []){t1 t2:LB}{t3 t4 t5 t6 t7:Int}{t8:LI}{t9:Int}{t10:LB}{t12 e:Int}
  (h:Af o p f c w r n g a x u v=some (t1,t2,t3,t4,t5,t6,t7,t8,t9,t10,t11,t12,e)):e≠0\/ (t3=f/\t8=g/\∃y,t10=x++y):=by
 rw[Af,Bo,A_ (by rw[As];simpa using hf),Bt,Ba,A_ (by
  rw[As,Ac,D4];intro e;exact hg (ME F0))]at h
 by_cases he:geq a (Ac g)=true
 ·rw[B2 he]at h;by_cases hm:Dz (Ac p) 4000=true
  ·rw[B2 hm]at h;simp only[B?,BS]at h;left;rw[<-h.2.2.2.2.2.2.2.2.2.2.2.2];decide
  ·rw[A_ hm]at h;simp only[B?,BS]at h;left;rw[<-h.2.2.2.2.2.2.2.2.2.2.2.2];decide
 ·rw[A_ he]at h;obtain⟨⟨z1,z2⟩,hz1,h⟩:=AF h;simp only at h;by_cases h7:Bd z2 0=true
  ·rw[B2 h7]at h;simp only[B?,BS]at h;left;rw[<-h.2.2.2.2.2.2.2.2.2.2.2.2];rw[Aj]at h7;simpa using h7
  ·rw[A_ h7]at h;obtain⟨an,h2,h⟩:=AF h;obtain⟨ah,h3,h⟩:=AF h;obtain⟨ad,h4,h⟩:=AF h;obtain⟨ae,h5,h⟩:=AF h;simp only[B?,BS]at h;have e1:=mJ h2;have e2:=mJ h3;rw[D8]at e1;right;exact⟨h.2.2.1.symm,h.2.2.2.2.2.2.2.1.symm,z1,by rw[<-h.2.2.2.2.2.2.2.2.2.1,e2,e1]⟩
theorem Bh.Bjn{o s p:LB}{f c w r n:Int}{g:LI}{a:Int}{x:LB}{e:Int}(ho:o.length<=64)(h:Bh o s p f c w r n g a x e)(hp:p.length<=20000)(b:LB)(hb:b.length<=20000)(hs:(s++b).length<=100000)
  {p':LB} {f' c' w' r' n':Int} {g':LI} {a':Int} {x':LB} {e':Int} (hk:Fd o (s++b)=some (o,p',f',c',w',r',n',g',a',x',false,e',e')):
  Di o p f c w r n g a x false e b=some (o,p',f',c',w',r',n',g',a',x',false,e',e')/\Bh o (s++b) p' f' c' w' r' n' g' a' x' e':=by
 obtain⟨p2,f2,c2,w2,r2,n2,g2,a2,x2,e2,h1,_,h3⟩:=h.feed ho hp b hb hs;have h4:=h3.fd hs;rw[hk]at h4;simp only[B?,BS]at h4;obtain⟨_,rfl,rfl,rfl,rfl,rfl,rfl,rfl,rfl,rfl,_,rfl,_⟩:=h4;exact⟨h1,h3⟩
theorem yx{w:Nat}(hw:Bn (w:Int)){X:LX}(hl:X.length<=4000)(hr:inR (w:Int) X):Kw (w:Int) X=some (Az (w:Int) X,0):=dX hw hl (nJ hw hl hr)
theorem qj(w:Nat)(ys:List LX):∀(j k:Nat),k+j<=ys.length->Rm (λi=>Az (w:Int) (ys.getD i [])) j k=Az (w:Int) ((ys.drop k).take j).flatten
 |0,k,_=>by simp[Rm,Az]
 |j+1,k,h=>by
  have e:ys.getD k []=ys[k]:=by rw[List.getD_eq_getElem?_getD,List.getElem?_eq_getElem F0];rfl
  rw[Rm,qj w ys j (k+1) F0,drop_cons (show k<ys.length by omega),aI,P9,H4,e]
section
variable {c w r n:Nat} {x:LX} (h:ClipOk c w r n x) {p:LB} (hp:p.length<=64) (h4:x.length<=400)
include h hp h4
omit hp in
theorem TG:(Ck c w r n x p).length<=8000:=by
 have h1:=Aly h p;have h2:=bD (c:=c) (w:=w) (r:=r) (n:=n) (x:=x) p;rw[DE]at h2;have h3:(n-1)/Ak r<=n-1:=FU _ _;have h5:n*1<=n*c:=P4 n h.ch.1;have h6:=h.len;have:=h.cnt;omega
theorem Bgo{t K:Nat}(ht:Zp 0 p (Mz c w r n x p).length<=t)(ht2:t<= (Ck c w r n x p).length)(hK:K<= (Mz c w r n x p).length)(h1:(Zp 0 p (Mz c w r n x p).length:Int)+((By (Mz c w r n x p)).take K).sum<=t)(h2:K<(Mz c w r n x p).length-> (t:Int)<(Zp 0 p (Mz c w r n x p).length:Int)+((By (Mz c w r n x p)).take (K+1)).sum):
  Fd p ((Ck c w r n x p).take t)=some (p,((Ck c w r n x p).take t).drop ((Zp 0 p (Mz c w r n x p).length:Int)+((By (Mz c w r n x p)).take K).sum).toNat,(Ep p:Int),(c:Int),(w:Int),(r:Int),(n:Int),By (Mz c w r n x p),(K:Int),Az (w:Int) (((Yc c r n x).take K).flatten),false,0,0):=by
 have hsm:=TG h (p:=p) h4;have fo:=bI h hp;have o:=B! h hp ht;have hll:=Gb (Mz c w r n x p);have hlt:((Ck c w r n x p).take t).length=t:=by rw[C8];omega
 have hmono:∀i,i<K-> (Zp 0 p (Mz c w r n x p).length:Int)+((By (Mz c w r n x p)).take (i+1)).sum<=t:=λi hi=>by
  have:=O6 (rY (Mz c w r n x p)) (show i+1<=K by omega);omega
 have hg:∀i,i<K->Iv ((Ck c w r n x p).take t) p (Ep p) c w r n (Zp 0 p (Mz c w r n x p).length) (By (Mz c w r n x p)) i=(Az (w:Int) ((Yc c r n x).getD i []),0):=λi hi=>rP h hp ht ht2 F0 (hmono i hi);have hfd:=Bc6 o F0 (K:=K) F0 F0 (λi hi=>by rw[hg i hi]) (by
  by_cases hk:K<(Mz c w r n x p).length
  ·exact .inl ⟨F0,by rw[hlt];exact h2 hk⟩
  ·have hd:=fo.XJ;have hlen:=congrArg List.length hd;rw[D3,E0]at hlen;have hs:=DF (Mz c w r n x p);exact .inr ⟨F0,by rw[hlt,hs];omega⟩)
 rw[hfd,Adp (λi=>(Iv ((Ck c w r n x p).take t) p (Ep p) c w r n (Zp 0 p (Mz c w r n x p).length) (By (Mz c w r n x p)) i).1) (λi=>Az (w:Int) ((Yc c r n x).getD i [])) K 0 (λi _ hi=>by rw[hg i F0]),qj w _ K 0 (by have:=oM (c:=c) (r:=r) (n:=n) (x:=x);have:=bD (c:=c) (w:=w) (r:=r) (n:=n) (x:=x) p;omega),LG]
end
theorem W8{l m r:List α}(h:Dm l m=some r):l.length+m.length<=LIM:=by
 rw[Dm]at h;split at h
 ·assumption
 ·cases h
theorem e_{l m:List α}(h:l.length+m.length<=LIM):Dm l m=some (l++m):=by rw[Dm,B2 h]
theorem Bfn{o p:LB}{f c w r n:Int}{g:LI}{a:Int}{x:LB}{v:Int}(hf:f≠0)(hg:g≠ []){t1 t2:LB}{t3 t4 t5 t6 t7:Int}{t8:LI}{t9:Int}{t10:LB}{t12 e:Int}
  (h:Af o p f c w r n g a x u v=some (t1,t2,t3,t4,t5,t6,t7,t8,t9,t10,t11,t12,e)):
  ∃y,t10=x++y/\∀z:LB,z.length<=x.length->Af o p f c w r n g a z u v=some (t1,t2,t3,t4,t5,t6,t7,t8,t9,z++y,t11,t12,e):=by
 have e0:∀z:LB,Af o p f c w r n g a z u v=Ba o p f c w r n g a z u v:=λz=>by
  rw[Af,Bo,A_ (by rw[As];simpa using hf),Bt]
 have hgl:¬geq (Ac g) 0=true:=by
  rw[As,Ac,D4];intro e;exact hg (ME F0)
 have stay:∀E:Int,some (o,p,f,c,w,r,n,g,a,x,u,v,E)=some (t1,t2,t3,t4,t5,t6,t7,t8,t9,t10,t11,t12,e)-> (∀z:LB,Ba o p f c w r n g a z u v=some (o,p,f,c,w,r,n,g,a,z,u,v,E))->
   ∃y,t10=x++y/\∀z:LB,z.length<=x.length->Af o p f c w r n g a z u v=some (t1,t2,t3,t4,t5,t6,t7,t8,t9,z++y,t11,t12,e):=by
  intro E h hz;simp only[B?,BS]at h;obtain⟨rfl,rfl,rfl,rfl,rfl,rfl,rfl,rfl,rfl,rfl,rfl,rfl,rfl⟩:=h;exact⟨[],(E0 _).symm,λz _=>by rw[e0,hz,E0]⟩
 rw[e0,Ba,A_ hgl]at h;by_cases he:geq a (Ac g)=true
 ·rw[B2 he]at h;by_cases hm:Dz (Ac p) 4000=true
  ·rw[B2 hm]at h;exact stay _ h λz=>by rw[Ba,A_ hgl,B2 he,B2 hm]
  ·rw[A_ hm]at h;exact stay _ h λz=>by rw[Ba,A_ hgl,B2 he,A_ hm]
 ·rw[A_ he]at h;obtain⟨⟨z1,z2⟩,hz1,h⟩:=AF h;have hz1':∀z:LB,Cw o p f c w r n g a z u v=some (z1,z2):=λz=>hz1;simp only at h;by_cases h7:Bd z2 0=true
  ·rw[B2 h7]at h;refine stay _ h λz=>?_;rw[Ba,A_ hgl,A_ he,hz1',Aa];simp only;rw[B2 h7]
  ·rw[A_ h7]at h;obtain⟨an,h2,h⟩:=AF h;obtain⟨ah,h3,h⟩:=AF h;obtain⟨ad,h4,h⟩:=AF h;obtain⟨ae,h5,h⟩:=AF h;simp only[B?,BS]at h;have e1:=mJ h2;have e2:=mJ h3;have l2:=W8 h2;have l3:=W8 h3;rw[D8]at e1;obtain⟨h01,h02,h03,h04,h05,h06,h07,h08,h09,h10,h11,h12,h13⟩:=h;refine⟨z1,by rw[<-h10,e2,e1],λz hz=>?_⟩;rw[e1]at l3;rw[e0,Ba,A_ hgl,A_ he,hz1',Aa];simp only;rw[A_ h7,e_ (by simp at l2⊢;omega),Aa,D8,e_ F0,Aa,h4,Aa,h5,Aa,h01,h02,h03,h04,h05,h06,h07,h08,h09,h11,h12,h13]
theorem Avf:∀(q:Nat) (o p:LB) (f c w r n:Int) (g:LI) (a:Int) (x:LB) (u:Bool) (v:Int),f≠0->g≠ []->∀(t1 t2:LB) (t3 t4 t5 t6 t7:Int) (t8:LI) (t9:Int) (t10:LB) (t11:Bool) (t12 e:Int),Bb q o p f c w r n g a x u v=some (t1,t2,t3,t4,t5,t6,t7,t8,t9,t10,t11,t12,e)->
  ∃y,t10=x++y/\∀z:LB,z.length<=x.length->Bb q o p f c w r n g a z u v=some (t1,t2,t3,t4,t5,t6,t7,t8,t9,z++y,t11,t12,e)
 |0,o,p,f,c,w,r,n,g,a,x,u,v,_,_,t1,t2,t3,t4,t5,t6,t7,t8,t9,t10,t11,t12,e,h=>by cases h
 |q+1,o,p,f,c,w,r,n,g,a,x,u,v,hf,hg,t1,t2,t3,t4,t5,t6,t7,t8,t9,t10,t11,t12,e,h=>by
  rw[Bb,Bv]at h;obtain⟨⟨z1,z2,z3,z4,z5,z6,z7,z8,z9,z10,z11,z12,zz⟩,hz,h⟩:=AF h;obtain⟨y,hy1,hy2⟩:=Bfn hf hg hz;simp only at h;by_cases h1:geq zz (-1)=true
  ·rw[B2 h1]at h;obtain⟨⟨y1,y2,y3,y4,y5,y6,y7,y8,y9,y10,y11,y12⟩,hy,h⟩:=AF h;simp only[B?,BS]at h;rw[Pd,Uj]at hy;obtain⟨a1,k1,hy⟩:=AF hy;obtain⟨a2,k2,hy⟩:=AF hy;rw[Uo,Un]at hy;obtain⟨a3,k3,hy⟩:=AF hy;simp only[B?,BS]at hy;have e2:=mJ k2;have l2:=W8 k2;obtain⟨rfl,rfl,rfl,rfl,rfl,rfl,rfl,rfl,rfl,rfl,rfl,rfl⟩:=hy;obtain⟨rfl,rfl,rfl,rfl,rfl,rfl,rfl,rfl,rfl,rfl,rfl,rfl,rfl⟩:=h;refine⟨[],by rw[e2,D8,E0],λz hzl=>?_⟩;rw[Bb,Bv,hy2 z hzl,Aa];simp only;rw[B2 h1,Pd,Uj,k1,Aa,e_ (by simp at l2⊢;omega),Aa,Uo,Un,k3,Aa,Aa];simp
  ·rw[A_ h1]at h;by_cases h2:Bd zz 0=true
   ·rw[B2 h2]at h;obtain⟨⟨y1,y2,y3,y4,y5,y6,y7,y8,y9,y10,y11,y12,y13⟩,hy,h⟩:=AF h;simp only[B?,BS]at h;rw[Qj]at hy;obtain⟨⟨x1,x2,x3,x4,x5,x6,x7,x8,x9,x10,x11,x12⟩,hx,hy⟩:=AF hy;simp only[B?,BS]at hy;rw[CH]at hx;obtain⟨a2,k2,hx⟩:=AF hx;simp only[B?,BS]at hx;have e2:=mJ k2;have l2:=W8 k2;obtain⟨rfl,rfl,rfl,rfl,rfl,rfl,rfl,rfl,rfl,rfl,rfl,rfl⟩:=hx;obtain⟨rfl,rfl,rfl,rfl,rfl,rfl,rfl,rfl,rfl,rfl,rfl,rfl,rfl⟩:=hy;obtain⟨rfl,rfl,rfl,rfl,rfl,rfl,rfl,rfl,rfl,rfl,rfl,rfl,rfl⟩:=h;refine⟨[],by rw[e2,D8,E0],λz hzl=>?_⟩;rw[Bb,Bv,hy2 z hzl,Aa];simp only;rw[A_ h1,B2 h2,Qj,CH,e_ (by simp at l2⊢;omega),Aa,Aa,Aa];simp
   ·rw[A_ h2]at h;have hz0:zz=0:=by rw[Aj]at h2;simpa using h2
    rcases Av1 hf hg hz with h3|⟨h3,h4,y0,h5⟩
    ·exact absurd hz0 h3
    ·obtain⟨y2,h6,h7⟩:=Avf q z1 z2 z3 z4 z5 z6 z7 z8 z9 z10 z11 z12 (by rw[h3];exact hf) (by rw[h4];exact hg) _ _ _ _ _ _ _ _ _ _ _ _ _ h;refine⟨y++y2,by rw[h6,hy1,C6],λz hzl=>?_⟩;rw[Bb,Bv,hy2 z hzl,Aa];simp only;rw[A_ h1,A_ h2,h7 (z++y) (by rw[hy1,B6,B6];omega),C6]
section
variable {o s p:LB} {f c w r n:Int} {g:LI} {a:Int} {x:LB} {e:Int}
theorem Wt.drop(W:Wt o p f c w r n g a x)(t:Nat):Wt o p f c w r n g a (x.drop t):=
 ⟨W.fit.drop t,⟨W.sz.hp,W.sz.hg,by have:=W.sz.hx;rw[D3];omega⟩,W.out.drop t,Ayk W.fit W.wait W.sz.hp⟩
theorem FitD.early(h:FitD o f c w r n g a x)(hx:x≠ []):f≠0/\g≠ []:=by
 cases h with
 |new _ _ _ _ _ _ _ e8=>exact absurd e8 hx
 |head _ _ _ _ _ _ _ _ _ e8=>exact absurd e8 hx
 |tab F C W R N A hd hpw ht hl ea hA=>
  refine⟨hd.fnz,λe=>?_⟩;have h1:=hd.num;have h2:(Al (Ak R) N).length=0:=by rw[<-hl,e];rfl
  have h3:Al (Ak R) N=[]:=ME h2;have h4:(Al (Ak R) N).sum=(N:Int):=iH h1.2.2.2.2.1;rw[h3]at h4;simp at h4;omega
theorem Bh.tE(ho:o.length<=64)(h:Bh o s p f c w r n g a x e)(hp:p.length<=20000)(b:LB)(hb:b.length<=20000)(hs:(s++b).length<=100000){t:Nat}(ht:t<=x.length):
  ∃(p':LB) (f' c' w' r' n':Int) (g':LI) (a':Int) (y:LB) (e':Int),Di o p f c w r n g a (x.drop t) false e b=some (o,p',f',c',w',r',n',g',a',(x++y).drop t,false,e',e')/\
   Di o p f c w r n g a x false e b=some (o,p',f',c',w',r',n',g',a',x++y,false,e',e')/\Bh o (s++b) p' f' c' w' r' n' g' a' (x++y) e':=by
 obtain⟨p',f',c',w',r',n',g',a',x',e',h1,h2,h3⟩:=h.feed ho hp b hb hs;have hck:=h.A! ho F0 t;have hsz:=h.gH;cases h with
 |wt W hl hB=>
  by_cases hx:x=[]
  ·subst hx;obtain rfl:t=0:=by simpa using ht
   exact⟨p',f',c',w',r',n',g',a',x',e',h1,by simpa using h1,by simpa using h3⟩
  ·obtain⟨hf,hg⟩:=W.fit.early hx;have e1:=(rX ho W b hp hb).1;have e2:=(rX ho (W.drop t) b hp hb).1;rw[e1]at h1;obtain⟨y,k1,k2⟩:=Avf Ax o (p++b) f c w r n g a x false 0 hf hg _ _ _ _ _ _ _ _ _ _ _ _ _ h1;subst k1;refine⟨p',f',c',w',r',n',g',a',y,e',?_,by rw[e1];exact h1,h3⟩;rw[e2,NN ht];exact k2 (x.drop t) IC
 |er h0 hc hx hB=>
  obtain⟨q1,q2,q3⟩:=YF (o:=o) (x:=x) (u:=false) (v:=e) (k:=e) ho hx (.inl ⟨rfl,rfl,h0,hc⟩);obtain⟨d1,d2,d3⟩:=YF (o:=o) (x:=x.drop t) (u:=false) (v:=e) (k:=e) ho IC (.inl ⟨rfl,rfl,h0,hc⟩);rw[q2 b]at h1;simp only[B?,BS,N1]at h1;obtain⟨rfl,rfl,rfl,rfl,rfl,rfl,rfl,rfl,rfl,rfl,_⟩:=h1;exact⟨[],0,0,0,0,0,[],0,[],e,by simpa using d2 b,by simpa using q2 b,by simpa using h3⟩
def Y3(u:Bool)(v k:Int):Prop:=(u=false/\v=k/\0<k/\Cd k)\/ (u=true/\v=0/\k=36)
theorem Bh.Baw(ho:o.length<=64)(h:Bh o s p f c w r n g a x e)(hp:p.length<=20000):
  ∃(u:Bool) (v k:Int),(∀t,Cg o p f c w r n g a (x.drop t) false e=some (o,[],0,0,0,0,0,[],0,x.drop t,u,v,k))/\ ((u=false/\v=k/\0<k/\Cd k/\ (e=0\/e=k))\/ (u=true/\v=0/\k=0)):=by
 have hs:=h.gH;cases h with
 |wt W hl hB=>
  obtain⟨e1,d1,d2⟩:=vH (o:=o) (p:=p) (f:=f) (c:=c) (w:=w) (r:=r) (n:=n) (a:=a) (u:=false) (v:=0) (g:=g) (x:=x) hp;have hcd:=Aey hp d2;have go:∀t,Cg o p f c w r n g a (x.drop t) false 0=if Bd e1 0=true then some (o,[],0,0,0,0,0,[],0,x.drop t,false,e1,e1)else some (o,[],0,0,0,0,0,[],0,x.drop t,true,0,0):=by
   intro t;have hb:=mI (o:=o) (p:=p) (f:=f) (c:=c) (w:=w) (r:=r) (n:=n) (g:=g) (a:=a) (x:=x.drop t) (u:=false) (v:=0) F0 F0 IC (Bh.A! ho (.wt W hl hB) F0 t);rw[A_ F2]at hb;rw[Cg,hb,Aa];simp only;have d1':DD o p f c w r n g a (x.drop t) false 0=some e1:=d1;rw[A_ F2,d1',Aa];rfl
  by_cases he:Bd e1 0=true
  ·refine⟨false,e1,e1,λt=>by rw[go,B2 he], .inl ⟨rfl,rfl,?_,hcd,B3⟩⟩;have:=hcd.nn;rw[Aj]at he;simp only[LJ]at he;omega
  ·exact⟨true,0,0,λt=>by rw[go,A_ he], .inr ⟨rfl,rfl,rfl⟩⟩
 |er h0 hc hx hB=>
  refine⟨false,e,e,λt=>?_, .inl ⟨rfl,rfl,h0,hc, .inr rfl⟩⟩;exact(YF (o:=o) (x:=x.drop t) (u:=false) (v:=e) (k:=e) ho IC (.inl ⟨rfl,rfl,h0,hc⟩)).2.2
end
theorem mg{p:Prop}(h:p:=by simp only[D3];omega):p:=h
theorem wR{p:Prop}(h:p:=by rw[B6];simp;omega):p:=h
abbrev Stp:=UInt8×Int×Unit
abbrev Sad:=Int×LB×Unit
structure Ud where
 s:LB
 X:LB
 p:LB
 f:Int
 c:Int
 w:Int
 r:Int
 n:Int
 g:LI
 a:Int
 u:Bool
 v:Int
inductive OkU (o:LB) (L:Nat):Ud->Prop
 |live {s X p:LB} {f c w r n:Int} {g:LI} {a e:Int}:s.length+L<=12100->Bh o s p f c w r n g a X e->OkU o L ⟨s,X,p,f,c,w,r,n,g,a,false,e⟩
 |stop {s X:LB} {u:Bool} {v k:Int}:X.length<=12000->Y3 u v k->OkU o L ⟨s,X,[],0,0,0,0,0,[],0,u,v⟩
def T_(o:LB)(U:Ud)(q:LB):Option (Int×Ud):=(Di o U.p U.f U.c U.w U.r U.n U.g U.a U.X U.u U.v q).bind λ(_,p,f,c,w,r,n,g,a,x,u,v,e)=>some (e,⟨U.s++q,x,p,f,c,w,r,n,g,a,u,v⟩)
def VF(o:LB)(U:Ud):Option (Int×Ud):=(Cg o U.p U.f U.c U.w U.r U.n U.g U.a U.X U.u U.v).bind λ(_,p,f,c,w,r,n,g,a,x,u,v,e)=>some (e,⟨U.s,x,p,f,c,w,r,n,g,a,u,v⟩)
theorem Ay6{o:LB}(ho:o.length<=64){L:Nat}{U:Ud}(h:OkU o L U)(q:LB)(hq:q.length<=L):
  ∃(e:Int) (U':Ud),T_ o U q=some (e,U')/\OkU o (L-q.length) U'/\ (∃y,U'.X=U.X++y)/\
   ∀t,t<=U.X.length->Di o U.p U.f U.c U.w U.r U.n U.g U.a (U.X.drop t) U.u U.v q=some (o,U'.p,U'.f,U'.c,U'.w,U'.r,U'.n,U'.g,U'.a,U'.X.drop t,U'.u,U'.v,e):=by
 cases h with
 |live hl hB=>
  rename_i s X p f c w r n g a e;have hsz:=hB.gH;have hs:(s++q).length<=100000:=by rw[B6];omega
  obtain⟨p',f',c',w',r',n',g',a',y,e',h1,h2,h3⟩:=hB.tE ho F0 q F0 hs (SJ _);refine⟨e',⟨s++q,X++y,p',f',c',w',r',n',g',a',false,e'⟩,by rw[T_];simp only;rw[h2];rfl, .live KO h3,⟨y,rfl⟩,λt ht=>?_⟩;obtain⟨p2,f2,c2,w2,r2,n2,g2,a2,y2,e2,k1,k2,k3⟩:=hB.tE ho F0 q F0 hs ht;rw[h2]at k2;simp only[B?,BS,N1,List.append_cancel_left_eq]at k2;obtain⟨rfl,rfl,rfl,rfl,rfl,rfl,rfl,rfl,rfl,rfl,_⟩:=k2;exact k1
 |stop hx hk=>
  rename_i s X u v k;refine⟨k,⟨s++q,X,[],0,0,0,0,0,[],0,u,v⟩,?_, .stop hx hk,⟨[],(E0 _).symm⟩,λt ht=>?_⟩
  ·rw[T_];simp only;rw[(YF ho hx hk).2.1 q];rfl
  ·exact(YF ho mg hk).2.1 q
theorem Bdu{o:LB}(ho:o.length<=64){L:Nat}{U:Ud}(h:OkU o L U):
  ∃(e:Int) (U':Ud),VF o U=some (e,U')/\OkU o L U'/\U'.X=U.X/\
   ∀t,t<=U.X.length->Cg o U.p U.f U.c U.w U.r U.n U.g U.a (U.X.drop t) U.u U.v=some (o,U'.p,U'.f,U'.c,U'.w,U'.r,U'.n,U'.g,U'.a,U'.X.drop t,U'.u,U'.v,e):=by
 cases h with
 |live hl hB=>
  rename_i s X p f c w r n g a e;have hsz:=hB.gH;obtain⟨u,v,k,h1,h2⟩:=hB.Baw ho F0;have h0:=h1 0;rw[LG]at h0;refine⟨k,⟨s,X,[],0,0,0,0,0,[],0,u,v⟩,by rw[VF];simp only;rw[h0];rfl,?_,rfl,λt _=>h1 t⟩;rcases h2 with⟨k1,k2,k3,k4,_⟩|⟨k1,k2,_⟩
  ·exact .stop (k:=k) hsz.2.2 (.inl ⟨k1,k2,k3,k4⟩)
  ·exact .stop (k:=36) hsz.2.2 (.inr ⟨k1,k2,rfl⟩)
 |stop hx hk=>
  rename_i s X u v k;refine⟨k,⟨s,X,[],0,0,0,0,0,[],0,u,v⟩,?_, .stop hx hk,rfl,λt ht=>?_⟩
  ·rw[VF];simp only;rw[(YF ho hx hk).2.2];rfl
  ·exact(YF ho mg hk).2.2
theorem OkU.szs{o:LB}{L:Nat}{U:Ud}(h:OkU o L U):U.p.length<=12100/\U.g.length<=1000/\U.X.length<=12000:=by
 cases h with
 |live hl hB=>have:=hB.gH;exact⟨by simp only;omega,this.2.1,this.2.2⟩
 |stop hx hk=>exact⟨B3,B3,hx⟩
theorem Asx{o:LB}(ho:o.length<=64){L:Nat}{U:Ud}(h:OkU o L U)(t:Nat)(m:Nat):
  Vk o U.p U.f U.c U.w U.r U.n U.g U.a (U.X.drop t) U.u U.v (m:Int)=some (o,U.p,U.f,U.c,U.w,U.r,U.n,U.g,U.a,(U.X.drop t).drop (min m (U.X.drop t).length),U.u,U.v,(U.X.drop t).take (min m (U.X.drop t).length),0):=by
 have hs:=h.szs;refine Aiv ?_ F0 F0 IC m;cases h with
 |live hl hB=>exact hB.A! ho (by have:=hs.1;simp only at this;omega) t
 |stop hx hk=>exact(YF ho mg hk).1
def T3(o:LB)(st:Stp)(inp:LB)(U:Ud):Option (Int×Ud×LB):=
 if st.1=1 then(T_ o U (inp.take (min st.2.1.toNat inp.length))).bind λz=>some (z.1,z.2,inp.drop (min st.2.1.toNat inp.length))
 else if st.1=2 then some (0,U,inp)
 else(VF o U).bind λz=>some (z.1,z.2,inp)
def NJ(o:LB):List Stp->LB->Ud->Option (LI×Ud×LB)
 |[],inp,U=>some ([],U,inp)
 |st::l,inp,U=>(T3 o st inp U).bind λz=>(NJ o l z.2.2 z.2.1).bind λy=>some (z.1::y.1,y.2)
def VS(st:Stp):Prop:=(st.1=1\/st.1=2\/st.1=3)/\0<=st.2.1/\st.2.1<=100000
def SR(st:Stp)(e:Int)(d:Sad):Prop:=d.1=e/\ (st.1=2->e=0/\ (d.2.1.length:Int)<=st.2.1)/\ (st.1≠2->d.2.1=[])
inductive SRs:List Stp->LI->List Sad->Prop
 |nil:SRs [] [] []
 |cons {st e d l es ds}:SR st e d->SRs l es ds->SRs (st::l) (e::es) (d::ds)
def outs(l:List Sad):LB:=(l.map (·.2.1)).flatten
def B0(b:List Stp)(i t:Nat)(X:LB)(t':Nat)(X':LB):Prop:=(i=b.length->t'=t/\X'=X)/\ (i<b.length->∀m:Int,b[b.length-1]? =some (2,m,())->20000<=m->t'=X'.length)
theorem B0.nil{b:List Stp}{i t:Nat}{X:LB}(h:i=b.length):B0 b i t X t X:=⟨λ_=>⟨rfl,rfl⟩,λh'=>absurd h' F0⟩
theorem B0.other{b:List Stp}{i t t1 t':Nat}{X X1 X':LB}(hlt:i<b.length)(h1:b[i].1≠2)(ih:B0 b (i+1) t1 X1 t' X'):B0 b i t X t' X':=by
 refine⟨λh=>absurd h F0,λ_ m hm h2=>?_⟩;by_cases h:i+1<b.length
 ·exact ih.2 h m hm h2
 ·rw[show b.length-1=i by omega,List.getElem?_eq_getElem hlt]at hm;exact absurd (by rw[G? hm]) h1
theorem B0.drain{b:List Stp}{i t t' m:Nat}{X X':LB}(hlt:i<b.length)(hm:b[i].2.1=(m:Int))(hX:X.length<=20000)(ht:t<=X.length)(ih:B0 b (i+1) (t+min m (X.length-t)) X t' X'):B0 b i t X t' X':=by
 refine⟨λh=>absurd h F0,λ_ k hk h2=>?_⟩;by_cases h:i+1<b.length
 ·exact ih.2 h k hk h2
 ·rw[show b.length-1=i by omega,List.getElem?_eq_getElem hlt]at hk;obtain⟨e1,e2⟩:=ih.1 F0;have e3:=G? hk;rw[e3]at hm;simp only at hm;rw[e1,e2];omega
theorem O3{o:LB}(ho:o.length<=64){b:List Stp}(hb:b.length<=200)(hv:∀st∈b,VS st):∀(k i t q:Nat) (U:Ud) (inp:LB) (aa:List Sad),i+k=b.length->k<q->inp.length<=12100->OkU o inp.length U->t<=U.X.length->aa.length<=i->
  ∃(es:LI) (U':Ud) (inp':LB) (ds:List Sad) (t':Nat),NJ o (b.drop i) inp U=some (es,U',inp')/\OkU o inp'.length U'/\t'<=U'.X.length/\SRs (b.drop i) es ds/\U.X.take t++outs ds=U'.X.take t'/\
   Hl b q (i:Int) o U.f U.c U.w U.r U.n U.a (U.X.drop t) U.u U.v inp aa U.p U.g=some (o,U'.p,U'.f,U'.c,U'.w,U'.r,U'.n,U'.g,U'.a,U'.X.drop t',U'.u,U'.v,aa++ds,0)/\B0 b i t U.X t' U'.X
 |k,i,t,0,U,inp,aa,_,hq,_,_,_,_=>absurd hq (HU _)
 |0,i,t,q+1,U,inp,aa,hi,hq,hin,hU,ht,haa=>by
  refine⟨[],U,inp,[],t,by rw[List.drop_eq_nil_of_le F0];rfl,hU,ht,by rw[List.drop_eq_nil_of_le F0];exact .nil,by simp[outs],?_, .nil F0⟩;rw[Hl,Us,A_ F4,MW,Az8,Ax2,Az2,E0]
 |k+1,i,t,q+1,U,inp,aa,hi,hq,hin,hU,ht,haa=>by
  have hlt:i<b.length:=F0
  obtain⟨hop,hn0,hn1⟩:=hv b[i] (D5 hlt);have hdrop:b.drop i=b[i]::b.drop (i+1):=(List.getElem_cons_drop hlt).symm;obtain⟨m,hm⟩:∃m:Nat,b[i].2.1=m:=⟨b[i].2.1.toNat,F0⟩;have hgi:Ae (i:Int) 1=((i+1:Nat):Int):=by rw[show(1:Int)=((1:Nat):Int)from rfl,Ah];omega
  rw[Hl,Us,B2 F4,Bq hlt,Aa];rcases hop with h1|h1|h1
  ·
   have hg1:geq b[i].1 1=true:=by rw[h1];rfl
   have hmin:Fq b[i].2.1 (Ac inp)=((min m inp.length:Nat):Int):=by rw[hm,CO,Ac];omega
   obtain⟨e,U1,f1,f2,⟨y,f3⟩,f4⟩:=Ay6 ho hU (inp.take (min m inp.length)) MC;have hl:(inp.take (min m inp.length)).length=min m inp.length:=by rw[C8];omega
   rw[hl]at f2;have hl2:(inp.drop (min m inp.length)).length=inp.length-min m inp.length:=D3;rw[<-hl2]at f2;obtain⟨es,U2,aC,ds,t2,r1,r2,r3,r4,r5,r6,r7⟩:=O3 ho hb hv k (i+1) t q U1 (inp.drop (min m inp.length)) (aa++[(e,[],())]) F0 F0 F0 f2 (by rw[f3,B6];omega) wR;refine⟨e::es,U2,aC,(e,[],())::ds,t2,?_,r2,r3,?_,?_,?_, .other hlt (by rw[h1];decide) r7⟩
   ·rw[hdrop,NJ,T3,B2 h1,hm,C2,f1,Aa,Aa];simp only;rw[r1,Aa]
   ·rw[hdrop];exact .cons ⟨rfl,λh=>by rw[h1]at h;exact absurd h F2,λ_=>rfl⟩ r4
   ·rw[<-r5,f3,O_ ht];simp[outs]
   ·rw[B2 hg1,hmin,Cx,C2,Aa,f4 t ht,Aa];simp only;rw[QR,CA,hmin,Bu,Aa,Bg B5,Aa,Hr,CD,hgi,C2,r6];simp
  ·
   have hg1:¬geq b[i].1 1=true:=by rw[h1];decide
   have hg2:geq b[i].1 2=true:=by rw[h1];rfl
   have hd:=Asx ho hU t m;have hXl:(U.X.drop t).length=U.X.length-t:=D3;obtain⟨es,U2,aC,ds,t2,r1,r2,r3,r4,r5,r6,r7⟩:=O3 ho hb hv k (i+1) (t+min m (U.X.length-t)) q U inp (aa++[(0,(U.X.drop t).take (min m (U.X.drop t).length),())]) F0 F0 hin hU F0 wR;refine⟨0::es,U2,aC,(0,(U.X.drop t).take (min m (U.X.drop t).length),())::ds,t2,?_,r2,r3,?_,?_,?_, .drain hlt hm (by have:=hU.szs;omega) ht r7⟩
   ·rw[hdrop,NJ,T3,A_ (by rw[h1];decide),B2 h1,Aa];simp only;rw[r1,Aa]
   ·rw[hdrop];exact .cons ⟨rfl,λ_=>⟨rfl,by simp only[C8];rw[hm];omega⟩,λh=>absurd h1 h⟩ r4
   ·rw[<-r5,hXl,SD];simp[outs]
   ·rw[A_ hg1,B2 hg2,hm,hd,Aa];simp only;rw[MS,Bae,Bg B5,Aa,Hr,CD,hgi];rw[hXl,K?]at*
    rw[r6];simp
  ·
   have hg1:¬geq b[i].1 1=true:=by rw[h1];decide
   have hg2:¬geq b[i].1 2=true:=by rw[h1];decide
   have hg3:geq b[i].1 3=true:=by rw[h1];rfl
   obtain⟨e,U1,f1,f2,f3,f4⟩:=Bdu ho hU;obtain⟨es,U2,aC,ds,t2,r1,r2,r3,r4,r5,r6,r7⟩:=O3 ho hb hv k (i+1) t q U1 inp (aa++[(e,[],())]) F0 F0 hin f2 (by rw[f3];exact ht) wR;refine⟨e::es,U2,aC,(e,[],())::ds,t2,?_,r2,r3,?_,?_,?_, .other hlt (by rw[h1];decide) r7⟩
   ·rw[hdrop,NJ,T3,A_ (by rw[h1];decide),A_ (by rw[h1];decide),f1,Aa,Aa];simp only;rw[r1,Aa]
   ·rw[hdrop];exact .cons ⟨rfl,λh=>by rw[h1]at h;exact absurd h F2,λ_=>rfl⟩ r4
   ·rw[<-r5,f3];simp[outs]
   ·rw[A_ hg1,A_ hg2,B2 hg3,f4 t ht,Aa];simp only;rw[NT,Ba7,Bg B5,Aa,Hr,CD,hgi,r6];simp
def VS3(st:Stp):Prop:=VS st/\ (st.1=3->st.2.1=0)
theorem Azs{st:Stp}(h:VS3 st):PB st.1 st.2.1=some false:=by
 obtain⟨⟨h1,h2,h3⟩,h4⟩:=h;rw[PB,qQ,Bga,Bhd];have hr:(Le st.2.1 0&&tZ st.2.1 100000)=true:=by rw[Dq,Qh];simp;omega
 rcases h1 with h1|h1|h1
 ·rw[h1,B2 F2,IQ,B2 F2,hr,Aa];rfl
 ·rw[h1,A_ F2,IQ,B2 F2,hr,Aa];rfl
 ·rw[h1,A_ F2,IQ,A_ F2,B2 F2,h4 h1,Aa];rfl
theorem Al4{l:List Stp}(hl:l.length<=200)(hv:∀st∈l,VS3 st):aZ l=some 0:=by
 have loop:∀(j i q:Nat),i+j=l.length->j<q->Rj l q (i:Int)=some 0:=by
  intro j
  induction j with
  |zero=>
   intro i q hi hq;obtain⟨q,rfl⟩:∃q',q=q'+1:=⟨q-1,F0⟩;rw[Rj,FC,A_ F4];rfl
  |succ j ih=>
   intro i q hi hq;obtain⟨q,rfl⟩:∃q',q=q'+1:=⟨q-1,F0⟩;have hlt:i<l.length:=F0
   rw[Rj,FC,B2 F4,Bq hlt,Aa,Azs (hv _ (D5 hlt)),Aa,SS,Bea,A_ F2,Bfc,Bd9,
    show Ae (i:Int) 1=((i+1:Nat):Int) by rw[show(1:Int)=((1:Nat):Int)from rfl,Ah];omega]
   exact ih (i+1) q F0 F0
 rw[aZ,YS,A_ C3];exact loop l.length 0 Ax F0 B_
def U0:Ud:=⟨[],[],[],0,0,0,0,0,[],0,false,0⟩
theorem Bjh{o:LB}(ho:o.length<=64){L:Nat}(hL:L<=12100):OkU o L U0:= .live (by simpa using hL) (Bh.new ho)
theorem Ax3{o inp:LB}{l:List Stp}(ho:o.length<=64)(hin:inp.length<=12100)(hl:l.length<=200)(hv:∀st∈l,VS3 st):
  ∃(es:LI) (U:Ud) (inp':LB) (ds:List Sad) (t:Nat),NJ o l inp U0=some (es,U,inp')/\OkU o inp'.length U/\t<=U.X.length/\SRs l es ds/\outs ds=U.X.take t/\
   AL o inp l=some (o,U.p,U.f,U.c,U.w,U.r,U.n,U.g,U.a,U.X.drop t,U.u,U.v,ds,0)/\B0 l 0 0 [] t U.X:=by
 obtain⟨es,U,inp',ds,t,h1,h2,h3,h4,h5,h6,h7⟩:=O3 ho hl (λst h=>(hv st h).1) l.length 0 0 Ax U0 inp [] F0 B_ hin (Bjh ho hin) (C9 _) B3;rw[LG]at h1 h4;refine⟨es,U,inp',ds,t,h1,h2,h3,h4,by simpa [U0]using h5,?_,h7⟩;rw[AL,TD,Al4 hl hv,Aa,A_ F2,Uw,A_ C3,Aa];simp only;rw[A_ F2];exact h6
theorem SRs.len{l:List Stp}{es:LI}{ds:List Sad}(h:SRs l es ds):es.length=l.length/\ds.length=l.length:=by
 induction h with
 |nil=>exact⟨rfl,rfl⟩
 |cons _ _ ih=>exact⟨by simp[ih.1],by simp[ih.2]⟩
theorem SRs.at{l:List Stp}{es:LI}{ds:List Sad}(h:SRs l es ds):∀(i:Nat) (h1:i<ds.length) (h2:i<es.length),ds[i].1=es[i]:=by
 induction h with
 |nil=>intro i h1;simp at h1
 |cons hd _ ih=>
  intro i h1 h2;cases i with
  |zero=>exact hd.1
  |succ i=>exact ih i (by simpa using h1) (by simpa using h2)
theorem Ayh(i:Nat)(h:i<=100000):Ae (i:Int) 1=((i+1:Nat):Int):=by rw[show(1:Int)=((1:Nat):Int)from rfl,Ah];omega
theorem Alc(a b:List Sad):outs (a++b)=outs a++outs b:=by simp[outs]
theorem Bmi(ds:List Sad)(hd:ds.length<=200)(ho:(outs ds).length<=20000):∀(j i q:Nat),i+j=ds.length->j<q->Rk ds q (i:Int) (outs (ds.take i))=some (outs ds)
 |j,i,0,_,hq=>absurd hq (HU _)
 |0,i,q+1,hi,hq=>by
  rw[Rk,FK,A_ F4,SM,Bdp,H3 F0]
 |j+1,i,q+1,hi,hq=>by
  have hlt:i<ds.length:=F0
  have e1:ds.take (i+1)=ds.take i++[ds[i]]:=(List.take_append_getElem hlt).symm;have e2:outs (ds.take (i+1))=outs (ds.take i)++ds[i].2.1:=by rw[e1,Alc];simp[outs]
  have e3:outs ds=outs (ds.take (i+1))++outs (ds.drop (i+1)):=by rw[<-Alc,JY]
  have e4:(outs (ds.take i)).length+ds[i].2.1.length<=20000:=by
   have:=congrArg List.length e3;rw[B6,e2,B6]at this;omega
  rw[Rk,FK,B2 F4,Bq hlt,Aa,Bg,Aa,<-e2,Ayh i F0];exact Bmi ds hd ho j (i+1) q F0 F0
theorem Ats{ds:List Sad}(hd:ds.length<=200)(ho:(outs ds).length<=20000):AR ds=some (outs ds):=Bmi ds hd ho ds.length 0 Ax F0 B_
def U_(L:Nat):List Stp->Nat->Nat×Bool
 |[],n=>(n,false)
 |st::l,n=>if st.1=3 then(n,true)else if st.1=1 then U_ L l (n+min st.2.1.toNat (L-n))else U_ L l n
theorem M4{o:LB}(ho:o.length<=64):∀{l:List Stp} {inp:LB} {s X:LB} {u:Bool} {v k:Int} {es:LI} {U':Ud} {inp':LB},X.length<=12000->Y3 u v k-> (∀st∈l,VS st)->NJ o l inp ⟨s,X,[],0,0,0,0,0,[],0,u,v⟩=some (es,U',inp')->
  ∃s',U'=⟨s',X,[],0,0,0,0,0,[],0,u,v⟩
 |[],inp,s,X,u,v,k,es,U',inp',hx,hk,hv,h=>by
  cases h;exact⟨s,rfl⟩
 |st::l,inp,s,X,u,v,k,es,U',inp',hx,hk,hv,h=>by
  rw[NJ]at h;obtain⟨⟨e,U1,i1⟩,h1,h⟩:=AF h;obtain⟨⟨es1,U2,i2⟩,h2,h⟩:=AF h;simp only[B?,BS]at h;obtain⟨-,rfl, -⟩:=h;have hv':∀st∈l,VS st:=λx hx=>hv x (G! _ hx);rw[T3]at h1;split at h1
  ·rw[T_]at h1;simp only at h1;rw[(YF ho hx hk).2.1]at h1;cases h1;exact M4 ho hx hk hv' h2
  ·split at h1
   ·cases h1;exact M4 ho hx hk hv' h2
   ·rw[VF]at h1;simp only at h1;rw[(YF ho hx hk).2.2]at h1;cases h1;exact M4 ho hx hk hv' h2
theorem o!{o:LB}(ho:o.length<=64){inp:LB}(hin:inp.length<=12100):∀{l:List Stp} {n:Nat} {p:LB} {f c w r m:Int} {g:LI} {a:Int} {X:LB} {e:Int} {es:LI} {U':Ud} {inp':LB},n<=inp.length->Bh o (inp.take n) p f c w r m g a X e-> (∀st∈l,VS st)->
  NJ o l (inp.drop n) ⟨inp.take n,X,p,f,c,w,r,m,g,a,false,e⟩=some (es,U',inp')->
  ((U_ inp.length l n).2=false/\Bh o (inp.take (U_ inp.length l n).1) U'.p U'.f U'.c U'.w U'.r U'.n U'.g U'.a U'.X U'.v/\U'.u=false)\/
  ((U_ inp.length l n).2=true/\∃(p:LB) (f c w r m:Int) (g:LI) (a:Int) (X:LB) (e k:Int),Bh o (inp.take (U_ inp.length l n).1) p f c w r m g a X e/\Cg o p f c w r m g a X false e=some (o,U'.p,U'.f,U'.c,U'.w,U'.r,U'.n,U'.g,U'.a,U'.X,U'.u,U'.v,k))
 |[],n,p,f,c,w,r,m,g,a,X,e,es,U',inp',hn,hB,hv,h=>by
  cases h;exact .inl ⟨rfl,hB,rfl⟩
 |st::l,n,p,f,c,w,r,m,g,a,X,e,es,U',inp',hn,hB,hv,h=>by
  rw[NJ]at h;obtain⟨⟨e1,U1,i1⟩,h1,h⟩:=AF h;obtain⟨⟨es1,U2,i2⟩,h2,h⟩:=AF h;simp only[B?,BS]at h;obtain⟨-,rfl, -⟩:=h;have hv':∀st∈l,VS st:=λx hx=>hv x (G! _ hx);have hsz:=hB.gH;have hop:=(hv st (.head _)).1;have htl:(inp.take n).length=n:=by rw[C8];omega
  rw[U_];rw[T3]at h1;by_cases h3:st.1=1
  ·rw[B2 h3]at h1;rw[A_ (by rw[h3];decide),B2 h3];have hl:(inp.drop n).length=inp.length-n:=D3;have e5:inp.take n++(inp.drop n).take (min st.2.1.toNat (inp.length-n))=inp.take (n+min st.2.1.toNat (inp.length-n)):=by rw[SD]
   obtain⟨p2,f2,c2,w2,r2,n2,g2,a2,x2,e2,d1,_,d3⟩:=hB.feed ho F0 ((inp.drop n).take (min st.2.1.toNat (inp.length-n))) MC (by rw[e5,C8];omega);rw[e5]at d3;rw[hl,T_]at h1;simp only at h1;rw[d1,Aa,Aa]at h1;simp only[B?,BS]at h1;obtain⟨-,rfl,rfl⟩:=h1;simp only[K?]at h2;rw[e5]at h2;exact o! ho hin F0 d3 hv' h2
  ·rw[A_ h3]at h1;by_cases h4:st.1=2
   ·rw[B2 h4]at h1;rw[A_ (by rw[h4];decide),A_ h3];cases h1;exact o! ho hin hn hB hv' h2
   ·rw[A_ h4]at h1;have h5:st.1=3:=by rcases hop with h|h|h;exact absurd h h3;exact absurd h h4;exact h
    rw[B2 h5];obtain⟨u,v,k,q1,q2⟩:=hB.finish ho F0;rw[VF]at h1;simp only at h1;rw[q1,Aa,Aa]at h1;simp only[B?,BS]at h1;obtain⟨-,rfl,rfl⟩:=h1;refine .inr ⟨rfl,p,f,c,w,r,m,g,a,X,e,k,hB,?_⟩;have hk:∃k',Y3 u v k':=by
     rcases q2 with⟨k1,k2,k3,k4,_⟩|⟨k1,k2,_⟩
     ·exact⟨k, .inl ⟨k1,k2,k3,k4⟩⟩
     ·exact⟨36, .inr ⟨k1,k2,rfl⟩⟩
    obtain⟨k',hk⟩:=hk;obtain⟨s',rfl⟩:=M4 ho hsz.2.2 hk hv' h2;exact q1
theorem mo{t z:LB}{i:Nat}(h:i<t.length):Vz (t++z) i=Vz t i:=by
 rw[Vz,Vz,List.getD_eq_getElem?_getD,List.getD_eq_getElem?_getD,List.getElem?_append_left h]
theorem zJ(t:LB)(a i:Nat):Vz (t.drop a) i=Vz t (a+i):=by
 rw[Vz,Vz,List.getD_eq_getElem?_getD,List.getD_eq_getElem?_getD,List.getElem?_drop]
theorem Be5{w:Nat}(hw:Bn (w:Int)){t z:LB}{a:Nat}(h:a+wB (w:Int)<=t.length):sx (wB (w:Int)) (t++z) a=sx (wB (w:Int)) t a:=by
 rcases hw with hw|hw|hw
 ·rw[hw]at h⊢;have e:wB 8=1:=rfl;rw[e]at h⊢;rw[sx,sx,B2 rfl,B2 rfl,mo F0]
 ·rw[hw]at h⊢;have e:wB 16=2:=rfl;rw[e]at h⊢;rw[sx2,sx2,mo F0,mo F0]
 ·rw[hw]at h⊢;have e:wB 24=3:=rfl;rw[e]at h⊢;rw[sx3,sx3,mo F0,mo F0,mo F0]
theorem Bc9{w:Nat}(hw:Bn (w:Int))(t:LB)(a b:Nat):sx (wB (w:Int)) (t.drop a) b=sx (wB (w:Int)) t (a+b):=by
 rcases hw with hw|hw|hw
 ·rw[hw,show wB 8=1 from rfl,sx,sx,B2 rfl,B2 rfl,zJ]
 ·rw[hw,show wB 16=2 from rfl,sx2,sx2,zJ,zJ];rfl
 ·rw[hw,show wB 24=3 from rfl,sx3,sx3,zJ,zJ,zJ];rfl
theorem Ap3{w:Nat}(hw:Bn (w:Int)){t z:LB}{m:Nat}(h:m*wB (w:Int)<=t.length):uI (wB (w:Int)) m (t++z)=uI (wB (w:Int)) m t:=by
 rw[uI,uI];apply S9;intro x hx;have hx:=List.mem_range.1 hx;have h2:(x+1)*wB (w:Int)<=m*wB (w:Int):=C? _ hx;rw[C7,JK]at h2;rw[Be5 hw F0]
theorem Bb0{w:Nat}(hw:Bn (w:Int))(t:LB)(m j:Nat):uI (wB (w:Int)) (m+j) t=uI (wB (w:Int)) m t++uI (wB (w:Int)) j (t.drop (m*wB (w:Int))):=by
 rw[uI,uI,uI,List.range_add,NZ,lZ];congr 1;apply S9;intro x hx
 show Int32.ofInt (sx (wB (w:Int)) t ((m+x)*wB (w:Int)))=_;rw[Bc9 hw,C7]
theorem Bfs{w:Nat}(hw:Bn (w:Int))(t:LB)(a:Nat): -(hB (w:Int))<=sx (wB (w:Int)) t a/\sx (wB (w:Int)) t a<hB (w:Int):=by
 have b0:=U3 t a;have b1:=U3 t (a+1);have b2:=U3 t (a+2);rcases hw with hw|hw|hw
 ·rw[hw,show wB 8=1 from rfl,show hB 8=128 from rfl,sx,B2 rfl];omega
 ·rw[hw,show wB 16=2 from rfl,show hB 16=32768 from rfl,sx2];split<;>omega
 ·rw[hw,show wB 24=3 from rfl,show hB 24=8388608 from rfl,sx3];split<;>omega
theorem Aps{w:Nat}(hw:Bn (w:Int))(m:Nat)(t:LB):inR (w:Int) (uI (wB (w:Int)) m t):=by
 intro x hx;rw[uI,bG]at hx;obtain⟨k,_,rfl⟩:=hx;have h:=Bfs hw t (k*wB (w:Int));have hh:=NK (w:Int);rw[xE F0 F0];exact h
theorem yY(c L:Nat):∀(k:Nat) (x y:LX),k*(L*c)<=x.length->It c (x++y) (List.replicate k (L:Int))=It c x (List.replicate k (L:Int))
 |0,x,y,_=>rfl
 |k+1,x,y,h=>by
  rw[C7,JK]at h;rw[LY,It,It,C2,O_ F0,NN F0,yY c L k _ y IC]
theorem Z7(c:Nat):∀(l m:LI) (x:LX),(∀z∈l,0<=z)->It c x (l++m)=It c x l++It c (x.drop (l.sum.toNat*c)) m
 |[],m,x,_=>by simp[It]
 |z::l,m,x,h=>by
  have hz:=h z I_;have hl:0<=l.sum:=e? λy hy=>h y (G! _ hy);rw[M!,It,It,Z7 c l m _ (λy hy=>h y (G! _ hy)),M!,K?,H',show(z+l.sum).toNat=z.toNat+l.sum.toNat by omega,C7]
theorem Av3(k L:Nat):∀z∈List.replicate k (L:Int),0<=z:=λz hz=>by rw[(List.mem_replicate.1 hz).2];omega
theorem oK(k L c:Nat):(List.replicate k (L:Int)).sum.toNat*c=k*(L*c):=by rw[pB,C2,I6]
theorem Am8(c L k:Nat)(x:LX)(h:x.length=(k+1)*(L*c)):It c x (List.replicate (k+1) (L:Int))=It c x (List.replicate k (L:Int))++[x.drop (k*(L*c))]:=by
 rw[List.replicate_succ',Z7 c _ _ _ (Av3 k L),oK,It,It,C2,H3 (by rw[D3,h,C7];omega)]
theorem c!{p:Prop}(h:p:=by rw[Dq,Ac];simp;omega):p:=h
theorem RO{p:Prop}(h:p:=by rw[C7,JK];omega):p:=h
structure EncOk (c w r:Nat) (p:LB):Prop where
 ch:1<=c/\c<=6
 bits:Bn (w:Int)
 rate:1<=r/\r<=1048576
 pass:p.length<=64
def kY(c w:Nat):Nat:=c*wB (w:Int)
def nE(c w:Nat)(t:LB):Nat:=t.length/kY c w
def XE(c w:Nat)(t:LB):LX:=uI (wB (w:Int)) (nE c w t*c) t
def RE(c w:Nat)(t:LB):LB:=t.drop (nE c w t*kY c w)
def kE(c w r:Nat)(t:LB):Nat:=nE c w t/Ak r
def SE(c w r:Nat)(t:LB):LX:=(XE c w t).drop (kE c w r t*(Ak r*c))
def FE(c w r:Nat)(p t:LB):List LB:=(It c (XE c w t) (List.replicate (kE c w r t) (Ak r:Int))).map (Rg (w:Int) c (Ld p))
def CU(c r n:Nat):Prop:=n*c<=4000/\ (n=0\/ (n-1)/Ak r+1<=1000)
instance(c r n:Nat):Decidable (CU c r n):=by unfold CU;exact inferInstance
theorem CU.mono{c r n m:Nat}(h:CU c r n)(hm:m<=n):CU c r m:=by
 obtain⟨h1,h2⟩:=h;have h3:=C? c hm;have h4:(m-1)/Ak r<= (n-1)/Ak r:=WA F0;refine⟨F0,?_⟩;omega
section
variable {c w r:Nat} {p:LB} (h:EncOk c w r p) (t:LB)
include h
theorem kI:1<=kY c w/\kY c w<=18:=by
 have h1:=vo (w:Int);have h2:=h.ch;have h3:=QU (show 0<c by omega) (show 0<wB (w:Int) by omega);have h4:c*wB (w:Int)<=6*3:=HG h2.2 h1.2;unfold kY;omega
theorem Ap7:Xj (c:Int) (w:Int)=some (kY c w:Int):=by
 have h2:=h.ch;have hw3:w=8\/w=16\/w=24:=by have:=h.bits;unfold Bn at this;omega
 rcases hw3 with rfl|rfl|rfl
 ·show some (Ca (Bm (c:Int) (8:Int)) 8)=_;rw[Ex,show(c:Int)*8=((c*8:Nat):Int) by omega,show(8:Int)=((8:Nat):Int)from rfl,Tv,kY,show wB ((8:Nat):Int)=1 from rfl];congr 2;omega
 ·show some (Ca (Bm (c:Int) (16:Int)) 8)=_;rw[Ex,show(c:Int)*16=((c*16:Nat):Int) by omega,show(8:Int)=((8:Nat):Int)from rfl,Tv,kY,show wB ((16:Nat):Int)=2 from rfl];congr 2;omega
 ·show some (Ca (Bm (c:Int) (24:Int)) 8)=_;rw[Ex,show(c:Int)*24=((c*24:Nat):Int) by omega,show(8:Int)=((8:Nat):Int)from rfl,Tv,kY,show wB ((24:Nat):Int)=3 from rfl];congr 2;omega
theorem xk:t.length=nE c w t*kY c w+(RE c w t).length/\ (RE c w t).length<kY c w:=by
 have hs:=kI h;have h1:=MK t.length (kY c w);have h2:=HW t.length (show 0<kY c w by omega);rw[D9]at h1;have e:(RE c w t).length=t.length-nE c w t*kY c w:=by rw[RE,D3]
 have e2:nE c w t*kY c w=t.length/kY c w*kY c w:=rfl;omega
omit h in
theorem J2:(XE c w t).length=nE c w t*c:=Q9 _ _ _
theorem fM:inR (w:Int) (XE c w t):=Aps h.bits _ _
theorem T!:nE c w t=kE c w r t*Ak r+nE c w t %Ak r/\nE c w t %Ak r<Ak r:=by
 have _:=h;have hp:=Du r;have h1:=MK (nE c w t) (Ak r);rw[D9]at h1;exact⟨h1.symm,HW _ F0⟩
theorem pO:(SE c w r t).length=nE c w t %Ak r*c:=by
 have h1:=(T! h t).1;rw[SE,D3,J2]
 conv=>lhs;rw[h1]
 rw[C7,<-I6,P']
omit h in
theorem H7:(FE c w r p t).length=kE c w r t:=by rw[FE,lO,fR,J?]
theorem Bem(b:UInt8)(hl:(RE c w t).length+1<kY c w):nE c w (t++[b])=nE c w t/\XE c w (t++[b])=XE c w t/\RE c w (t++[b])=RE c w t++[b]:=by
 have h1:=xk h t;have hs:=kI h;have hn:nE c w (t++[b])=nE c w t:=by
  rw[nE,B6,P!];exact R? F0 RO
 refine⟨hn,?_,?_⟩
 ·rw[XE,hn,XE];exact Ap3 h.bits (by
   have e:nE c w t*c*wB (w:Int)=nE c w t*kY c w:=by rw[kY,I6]
   rw[e];omega)
 ·rw[RE,hn,RE,NN F0]
theorem Bek(b:UInt8)(hl:¬(RE c w t).length+1<kY c w):(RE c w t).length+1=kY c w/\nE c w (t++[b])=nE c w t+1/\XE c w (t++[b])=XE c w t++uI (wB (w:Int)) c (RE c w t++[b])/\RE c w (t++[b])=[]:=by
 have h1:=xk h t;have hs:=kI h;have hn:nE c w (t++[b])=nE c w t+1:=by
  rw[nE,B6,P!];exact R? RO (by rw[C7,C7,JK];omega)
 have e:nE c w t*c*wB (w:Int)=nE c w t*kY c w:=by rw[kY,I6]
 refine⟨F0,hn,?_,?_⟩
 ·rw[XE,hn,C7,JK,Bb0 h.bits,Ap3 h.bits (by rw[e];omega),e,NN F0];rfl
 ·rw[RE,hn,QI];rw[B6,P!,C7,JK];omega
theorem cZ:kE c w r t*(Ak r*c)<= (XE c w t).length:=by
 have h1:=(T! h t).1;rw[J2]
 conv=>rhs;rw[h1]
 rw[C7,<-I6];omega
theorem Bh1{b:UInt8}(hl:(RE c w t).length+1<kY c w):kE c w r (t++[b])=kE c w r t/\SE c w r (t++[b])=SE c w r t/\FE c w r p (t++[b])=FE c w r p t:=by
 obtain⟨h1,h2,h3⟩:=Bem h t b hl;have hk:kE c w r (t++[b])=kE c w r t:=by rw[kE,h1,kE]
 exact⟨hk,by rw[SE,hk,h2,SE],by rw[FE,hk,h2,FE]⟩
theorem Bi6{b:UInt8}(hl:¬(RE c w t).length+1<kY c w):
  ((SE c w r t++uI (wB (w:Int)) c (RE c w t++[b])).length<Ak r*c->kE c w r (t++[b])=kE c w r t/\SE c w r (t++[b])=SE c w r t++uI (wB (w:Int)) c (RE c w t++[b])/\FE c w r p (t++[b])=FE c w r p t)/\
  (¬(SE c w r t++uI (wB (w:Int)) c (RE c w t++[b])).length<Ak r*c-> (SE c w r t++uI (wB (w:Int)) c (RE c w t++[b])).length=Ak r*c/\kE c w r (t++[b])=kE c w r t+1/\SE c w r (t++[b])=[]/\FE c w r p (t++[b])=FE c w r p t++[Rg (w:Int) c (Ld p) (SE c w r t++uI (wB (w:Int)) c (RE c w t++[b]))]):=by
 obtain⟨_,h1,h2,h3⟩:=Bek h t b hl;obtain⟨d1,d2⟩:=T! h t;have hsl:=pO h t;have hc:=h.ch;have hp:=Du r;have hdk:=cZ h t;have hlen:(SE c w r t++uI (wB (w:Int)) c (RE c w t++[b])).length=(nE c w t %Ak r+1)*c:=by rw[B6,hsl,Q9,C7,JK]
 rw[hlen];constructor
 ·intro hlt;have hlt2:nE c w t %Ak r+1<Ak r:=Nat.lt_of_mul_lt_mul_right hlt;have hk:kE c w r (t++[b])=kE c w r t:=by
   rw[kE,h1];exact R? F0 RO
  refine⟨hk,?_,?_⟩
  ·rw[SE,hk,h2,NN hdk,SE]
  ·rw[FE,hk,h2,yY c (Ak r) _ _ _ hdk,FE]
 ·intro hge;have Boj:Ak r<=nE c w t %Ak r+1:=by
   refine Nat.le_of_not_lt λhh=>hge ?_;exact um hh hc.1
  have heq:nE c w t %Ak r+1=Ak r:=F0
  have hk:kE c w r (t++[b])=kE c w r t+1:=by
   rw[kE,h1];exact R? RO (by rw[C7,C7,JK];omega)
  have hXl:(XE c w (t++[b])).length=(kE c w r t+1)*(Ak r*c):=by
   rw[J2,h1,<-I6];congr 1;rw[C7,JK];omega
  refine⟨by rw[heq],hk,?_,?_⟩
  ·rw[SE,hk,<-hXl,L?]
  ·rw[FE,hk,Am8 c (Ak r) _ _ hXl,NZ,h2,yY c (Ak r) _ _ _ hdk,NN hdk,FE];rfl
theorem sN(hR:CU c r (nE c w t)):∀f∈FE c w r p t,5<=f.length/\f.length<= (81*(Ak r*c)+7)/8+4:=by
 intro f hf;obtain⟨y,hy,rfl⟩:=List.mem_map.1 hf;have hx:(XE c w t).take (kE c w r t*(Ak r*c))++(XE c w t).drop (kE c w r t*(Ak r*c))=XE c w t:=JY _ _;have hdk:=cZ h t;have hpr:=yY c (Ak r) (kE c w r t) ((XE c w t).take (kE c w r t*(Ak r*c))) ((XE c w t).drop (kE c w r t*(Ak r*c))) MC;rw[hx]at hpr;rw[hpr]at hy;have hp:=Du r;obtain⟨k,hk,hk2⟩:=vO hy;have hl1:∀z∈List.replicate (kE c w r t) (Ak r:Int),1<=z:=λz hz=>by rw[(List.mem_replicate.1 hz).2];omega
 have hlx:((XE c w t).take (kE c w r t*(Ak r*c))).length=(List.replicate (kE c w r t) (Ak r:Int)).sum.toNat*c:=by rw[oK,C8];omega
 have hg:=pY c h.ch.1 _ _ hl1 hlx k (by rw[fR]at hk;exact hk) hk;rw[hk2,List.getElem_replicate,C2]at hg;obtain⟨a1,a2,_,_⟩:=oU c h.ch.1 _ _ hl1 hlx y hy;have hle:y.length<=4000:=by
  have:=hR.1;have h2:((XE c w t).take (kE c w r t*(Ak r*c))).length<= (XE c w t).length:=by rw[C8];omega
  rw[J2]at h2;omega
 have h5:=Q1 (w:Int) c (Ld p) y a1 hle;have he:=lR c (Oh (w:Int) c (Ld p) y) y.length;refine⟨h5.1,?_⟩;rw[Rg,B6,Cn,aX,AD,<-hg];omega
omit h in
theorem Aek(b:List LB)(f a M:Int)(hM:Ae (Ca (Ae (Bm (Bm 81 f) a) 7) 8) 4=M)(hb:b.length<=100000)(hm:∀y∈b,5<=y.length/\ (y.length:Int)<=M):∀(j i q:Nat),i+j=b.length->j<q->Fx b f a q (i:Int)=some true
 |j,i,0,_,h=>absurd h (HU _)
 |0,i,q+1,hi,_=>by
  rw[Fx,Mh,A_ F4];rfl
 |j+1,i,q+1,hi,hq=>by
  have ih:=Aek b f a M hM hb hm j (i+1) q F0 F0;have hy:=hm b[i] (D5 _);have hi1:Ae (i:Int) 1=((i+1:Nat):Int):=by rw[Ah];omega
  rw[Fx,Mh,B2 F4,Bq,Aa,Wc,GY,hM,A_ mV,GJ,GN,hi1];exact ih
theorem yO:AO (c:Int) (w:Int) (r:Int) p=some ((Ak r:Int),true):=by
 have hp:=h.pass;rw[AO,lB h.rate.1 h.rate.2,Aa];simp only;rw[sW h.bits h.ch.1 h.ch.2,Aa];simp[As,Qh,Ac];omega
theorem pq(hR:CU c r (nE c w t))(p' m' n':LB)(u:Bool)(v k o:Int):Vj (c:Int) k o p' m' (SE c w r t) (FE c w r p t) n' u v (Ak r:Int)=some (nE c w t:Int):=by
 have hc:=h.ch;obtain⟨d1,d2⟩:=T! h t;have hsl:=pO h t;have hlt:=OR h.rate.2;have hn:nE c w t<=4000:=by
  have:=hR.1;have:nE c w t*1<=nE c w t*c:=P4 _ hc.1;omega
 have e1:Bm (Ac (FE c w r p t)) (Ak r:Int)=((kE c w r t*Ak r:Nat):Int):=by
  rw[Ac,H7,Ex K6 K6,<-JO]
 have e2:Ca (Ac (SE c w r t)) (c:Int)=((nE c w t %Ak r:Nat):Int):=by
  rw[Ac,hsl,Tv (by
   have:nE c w t %Ak r*c<=nE c w t*c:=C? _ (M2 _ _);have:=hR.1;omega),RB _ F0]
 rw[Vj,Br D2,Aa,e1,e2,Ah];congr 1;omega
theorem jq(hR:CU c r (nE c w t)):Ij (c:Int) (w:Int) (r:Int) p (RE c w t) (SE c w r t) (FE c w r p t) [] false 0=some 0:=by
 have hc:=h.ch;have hw:=h.bits;obtain⟨d1,d2⟩:=T! h t;have hsl:=pO h t;have htl:=xk h t;have hlt:=OR h.rate.2;have hp:=Du r;have hfl:=H7 (c:=c) (w:=w) (r:=r) (p:=p) t;have hn4:=hR.1;have hmod:nE c w t %Ak r*c<=nE c w t*c:=C? _ (M2 _ _);have hn:nE c w t<=4000:=by
  have:nE c w t*1<=nE c w t*c:=P4 _ hc.1;omega
 have hfr:kE c w r t+(if 0<nE c w t %Ak r then 1 else 0)<=1000:=by
  rcases hR.2 with h0|h0
  ·have:kE c w r t=0:=by rw[kE,h0];exact mQ _
   rw[h0,Nat.zero_mod,this];decide
  ·generalize hq:Ak r=L at*
   have hk:kE c w r t=nE c w t/L:=by rw[kE,hq]
   by_cases hz:0<nE c w t %L
   ·rw[B2 hz];have:(nE c w t-1)/L=kE c w r t:=R? F0 RO;omega
   ·rw[A_ hz];by_cases hk0:kE c w r t=0
    ·omega
    ·obtain⟨k',hk'⟩:∃k',kE c w r t=k'+1:=⟨kE c w r t-1,F0⟩;rw[hk',C7,JK]at d1;have:(nE c w t-1)/L=k':=R? F0 RO;omega
 have hcnt:=pq h t hR p (RE c w t) [] false 0 (w:Int) (r:Int);have hin:inR (w:Int) (SE c w r t):=λv hv=>fM h t v (P1 hv);have hwc:Uq (w:Int) (SE c w r t)=some 0:=by rw[UA hw _ F0,nJ hw F0 hin]
 have hroom:∀k:Int,k<=1000->Vf (c:Int) (w:Int) (r:Int) p (RE c w t) (SE c w r t) (FE c w r p t) [] false 0 k (nE c w t:Int)=some true:=by
  intro k hk;rw[Vf,Ex K6 K6,<-JO];simp[Qh];omega
 have hLc:Ak r*c<=1100000*6:=HG F0 hc.2;have hM:Ae (Ca (Ae (Bm (Bm 81 (Ak r:Int)) (c:Int)) 7) 8) 4=(((81*(Ak r*c)+7)/8+4:Nat):Int):=by
  have e1:Bm 81 (Ak r:Int)=((81*Ak r:Nat):Int):=by rw[Ex];omega
  have e2:Bm ((81*Ak r:Nat):Int) (c:Int)=((81*(Ak r*c):Nat):Int):=by
   rw[Ex (by rw[<-JO,I6];omega) (by rw[<-JO,I6];omega),<-JO,I6]
  rw[e1,e2,Ah (a:=((81*(Ak r*c):Nat):Int)) (b:=7) F0 F0,show((81*(Ak r*c):Nat):Int)+7=((81*(Ak r*c)+7:Nat):Int) by omega,show(8:Int)=((8:Nat):Int)from rfl,Tv,Ah];omega
 have hloop:=Aek (FE c w r p t) (Ak r:Int) (c:Int) _ hM F0 (λy hy=>by
  have:=sN h t hR y hy;omega) (FE c w r p t).length 0 Ax F0 B_
 have Bkb:Uf (c:Int) (w:Int) (r:Int) p (RE c w t) (SE c w r t) (FE c w r p t) [] false 0 (Ak r:Int)=some true:=by
  have ug:Ca (Ac (SE c w r t)) (c:Int)=((nE c w t %Ak r:Nat):Int):=by
   rw[Ac,hsl,Tv,RB _ F0]
  have Bl0:Ge (Ac (SE c w r t)) (c:Int)=0:=by rw[Ac,hsl,JJ,LN];rfl
  have hkk:kE c w r t<=1000:=by split at hfr<;>omega
  rw[Uf,Yw,A_ F2,Ap7 h,Aa,A_ c!,Br D2,Aa,Bl0,A_ F2,Aa,ug,A_ (by simp[Dq,Ap,Ac,hfl];omega),Wf,Wk,hwc,Aa,A_ F2];by_cases hz:0<nE c w t %Ak r
  ·rw[B2 hz]at hfr;have hpos:=QU hz (show 0<c by omega);rw[B2 C3,Qe,Qb,hcnt,Aa,Ac,hfl,Ah,hroom _ F0,Aa,A_ F2,Wr,Py,Wd];exact hloop
  ·have h0:nE c w t %Ak r=0:=F0
   rw[h0,RL]at hsl;rw[A_ (by rw[Ap,Ac];simp only[B7];omega),Qe,Qb,hcnt,Aa,Ac,hfl,hroom _ F0,Aa,A_ F2,Wr,Py,Wd];exact hloop
 rw[Ij,yO h,Aa];simp only;rw[A_ F2,A_ F2,A_ F2,Bkb,Aa,A_ F2]
end
theorem Aa9(a:List LB)(ha:∀y∈a,y.length<=17179869184)(w:List LB)(hw:w.length=a.length)(ha2:a.length<=100000)(b f g:Int)(h:LB)(k:Bool)(m:Int)(n:LB)(o:LX)(p:LB):∀(j i q:Nat),i+j=a.length->j<q->Uh w a b f g h k m n o p q (i:Int) a=some (b,f,g,h,n,o,a,p,k,m)
 |j,i,0,_,h=>absurd h (HU _)
 |0,i,q+1,hi,_=>by
  have hc:XS w a=a:=by rw[XS,hw,FX,QI F0,E0]
  rw[Uh,JD,hc,A_ F4];rfl
 |j+1,i,q+1,hi,hq=>by
  have ih:=Aa9 a ha w hw ha2 b f g h k m n o p j (i+1) q F0 F0;have hc:XS w a=a:=by rw[XS,hw,FX,QI F0,E0]
  have hi1:Ae (i:Int) 1=((i+1:Nat):Int):=by rw[Ah];omega
  have hy:=ha a[i] (D5 _);rw[Uh,JD,hc,B2 F4,Bq,Aa,Aa,Bz,Bg (by simpa using hy),Aa,Aa,Aa,D8,Yb _ F0,Aa,List.set_getElem_self,hi1];exact ih
theorem Akj{a:List LB}(ha:∀y∈a,y.length<=17179869184)(ha2:a.length<=100000)(b f g:Int)(h:LB){x:LB}{s:LX}{z:LB}(hx:x.length<=17179869184)(hs:s.length<=17179869184)(hz:z.length<=17179869184)(k:Bool)(m:Int):PC b f g h x s a z k m=some (b,f,g,h,x,s,a,z,k,m):=by
 have hl:=Aa9 a ha (List.replicate a.length []) (by rw[J?]) ha2 b f g h k m x s z a.length 0 Ax F0 B_;have hc:XS (List.replicate a.length []) a=a:=by rw[XS,J?,FX,QI (by rw[J?];omega),E0]
 rw[PC,YE,Bz,Bg (by simpa using hx),Aa,Aa,Dy,Bg (by simpa using hs),Aa,Aa,Bz,Bg (by simpa using hz),Aa,Aa,Bhh,YQ,xI LK LK,Aa,Br Qz,Aa];simp only[D8,Ac,C2,hc];exact hl
section
variable {c w r:Nat} {p:LB} (h:EncOk c w r p)
include h
theorem zo(t:LB)(hR:CU c r (nE c w t)):HY (c:Int) (w:Int) (r:Int) p (RE c w t) (SE c w r t) (FE c w r p t) [] false 0=some ((c:Int),(w:Int),(r:Int),p,RE c w t,SE c w r t,FE c w r p t,[],false,0,(Ak r:Int),0):=by
 have h1:=xk h t;have hs:=kI h;have hsl:=pO h t;have hfl:=H7 (c:=c) (w:=w) (r:=r) (p:=p) t;have hn4:=hR.1;have hmod:nE c w t %Ak r*c<=nE c w t*c:=C? _ (M2 _ _);have hn:nE c w t<=4000:=by
  have:nE c w t*1<=nE c w t*c:=P4 _ h.ch.1;omega
 have hk:kE c w r t<=nE c w t:=FU _ _;have hlt:=OR h.rate.2;have hLc:Ak r*c<=1100000*6:=HG F0 h.ch.2;have htw:=Akj (a:=FE c w r p t) (λy hy=>by have:=sN h t hR y hy;omega) F0 (c:Int) (w:Int) (r:Int) p (x:=RE c w t) (s:=SE c w r t) (z:=[]) F0 F0 B3 false 0;rw[HY,Baj,jq h t hR,Aa,A_ F2,lB h.rate.1 h.rate.2,Aa];simp only;rw[A_ F2,A_ F2,Bff,Bbm,htw,Aa]
abbrev Bkq:=Int×Int×Int×LB×LB×LX×(List LB)×LB×Bool×Int×Int
def VC(c w r:Nat)(p t:LB):Bkq:=if CU c r (nE c w t)then((c:Int),(w:Int),(r:Int),p,RE c w t,SE c w r t,FE c w r p t,[],false,0,0)else((c:Int),(w:Int),(r:Int),p,[],[],[],[],false,18,18)
theorem Aav(t b:LB)(hb:b.length<=1000000):∀(j u q:Nat) (T:LB),u+j=b.length->j<q->T=t++b.take u->CU c r (nE c w T)->Km (kY c w:Int) b (c:Int) (w:Int) (r:Int) p false 0 (Ak r:Int) [] q (u:Int) (RE c w T) (SE c w r T) (FE c w r p T)=some (VC c w r p (t++b))
 |j,u,0,T,_,h,_,_=>absurd h (HU _)
 |0,u,q+1,T,hu,_,hT,hR=>by
  rw[H3 F0]at hT;rw[Km,FL,A_ F4,UJ,Bch,VC,<-hT,B2 hR]
 |j+1,u,q+1,T,hu,hq,hT,hR=>by
  have hc:=h.ch;have hs:=kI h;have hu1:Ae (u:Int) 1=((u+1:Nat):Int):=by rw[Ah];omega
  have hT':T++[b[u]' F0]=t++b.take (u+1):=by rw[hT,Iq F0,C6]
  have hpre:(T++[b[u]' F0]).length<= (t++b).length:=by rw[hT',B6,B6,C8];omega
  have hmono:nE c w (T++[b[u]' F0])<=nE c w (t++b):=WA hpre;have hgd:Ao b (u:Int)=some (b[u]' F0):=Bq;generalize b[u]' F0=d at hT' hpre hmono hgd⊢;have ih:=Aav t b hb j (u+1) q (T++[d]) F0 F0 hT';have htl:=xk h T;have hsl:=pO h T;have hfl:=H7 (c:=c) (w:=w) (r:=r) (p:=p) T;have hn4:=hR.1;have hmod:nE c w T %Ak r*c<=nE c w T*c:=C? _ (M2 _ _);have hn:nE c w T<=4000:=by
   have:nE c w T*1<=nE c w T*c:=P4 _ hc.1;omega
  have hk:kE c w r T<=nE c w T:=FU _ _;have hlt:=OR h.rate.2;rw[Km,FL,B2 F4,hgd,Aa,Bg B5,Aa];by_cases hlt1:(RE c w T).length+1<kY c w
  ·obtain⟨m1,m2,m3⟩:=Bem h T d hlt1;obtain⟨g1,g2,g3⟩:=Bh1 h T (b:=d) hlt1;rw[m1,m3,g2,g3]at ih;rw[B2 (by rw[Ad,Ac,B6,P!];simp;omega),Re,EO,hu1];exact ih hR
  ·obtain⟨m0,m1,m2,m3⟩:=Bek h T d hlt1;obtain⟨g1,g2⟩:=Bi6 h T (b:=d) hlt1;have hcnt:=pq h T hR p (RE c w T++[d]) [] false 0 (w:Int) (r:Int);have hroom:Vf (c:Int) (w:Int) (r:Int) p (RE c w T++[d]) (SE c w r T) (FE c w r p T) [] false 0 (Ae (Ac (FE c w r p T)) 1) (Ae (nE c w T:Int) 1)=some (decide ((kE c w r T:Int)+1<=1000)&&decide ((((nE c w T+1)*c:Nat):Int)<=4000)):=by
    have hle:(nE c w T+1)*c<=4001*6:=HG F0 hc.2;rw[Vf,Ac,hfl,Ah,Ah,show(nE c w T:Int)+1=((nE c w T+1:Nat):Int) by omega,Ex K6 K6,<-JO,Qh,Qh]
   rw[A_ (by rw[Ad,Ac,B6,P!];simp;omega),hcnt,Aa,hroom,Aa];by_cases hok:kE c w r T+1<=1000/\ (nE c w T+1)*c<=4000
   ·have hR':CU c r (nE c w (T++[d])):=by rw[m1];exact⟨hok.2, .inr (by rw[vT];exact hok.1)⟩
    have ih:=ih hR';have Bl1:=Ae8 (RE c w T++[d]) h.bits (m:=c) (by rw[B6,P!,m0];rfl) F0;have hLc:Ak r*c<=1100000*6:=HG F0 hc.2;have hmul:Bm (Ak r:Int) (c:Int)=((Ak r*c:Nat):Int):=by rw[Ex K6 K6,<-JO]
    rw[A_ (by rw[K! (show(kE c w r T:Int)+1<=1000 by omega),K! (show(((nE c w T+1)*c:Nat):Int)<=4000 by omega)];decide),SZ,Bcn,Bl1,Aa];simp only;rw[A_ F2,Bg (by rw[Q9];omega),Aa,hmul];by_cases hfull:(SE c w r T++uI (wB (w:Int)) c (RE c w T++[d])).length<Ak r*c
    ·obtain⟨k1,k2,k3⟩:=g1 hfull;rw[m3,k2,k3]at ih;rw[B2 (by rw[Ad,Ac];simp only[B7];omega),Kx,ER,A_ F2,Re,EO,hu1];exact ih
    ·obtain⟨k0,k1,k2,k3⟩:=g2 hfull;rw[m3,k2,k3]at ih;have hXl:Ak r*c<=4000:=by
      have e:=hR'.1;have hlen:(XE c w (T++[d])).length=nE c w (T++[d])*c:=J2 (T++[d]);have hdk:=cZ (r:=r) h (T++[d]);rw[k1,C7,JK]at hdk;omega
     have hin:inR (w:Int) (SE c w r T++uI (wB (w:Int)) c (RE c w T++[d])):=by
      intro v hv;rw[WH]at hv;rcases hv with hv|hv
      ·exact fM h T v (P1 hv)
      ·exact Aps h.bits _ _ v hv
     have hLp:=QU (Du r) hc.1;have henc:=qP (t:=Ld p) (x:=SE c w r T++uI (wB (w:Int)) c (RE c w T++[d])) h.bits (Lq p) hc.1 hc.2 F0 F0 (by rw[k0];exact LN _ _) hin;rw[A_ (by rw[Ad,Ac];simp only[B7];omega),UC p h.pass,Aa];simp only;rw[A_ F2,henc,Aa];simp only;rw[A_ F2,Bg B5,Aa,Bd7,Bef,Kx,ER,A_ F2,Re,EO,hu1];exact ih
   ·have hno:¬CU c r (nE c w (t++b)):=by
     intro hh;have:=hh.mono hmono;rw[m1]at this;obtain⟨z1,z2⟩:=this;apply hok;rw[vT]at z2;have hkE:kE c w r T=nE c w T/Ak r:=rfl;omega
    rw[B2 (by
     rw[HE,Bool.and_eq_false_iff,KV,KV];omega),Kx,ER,B2 F2,Zk,Aa,VC,A_ hno]
theorem Al3(t b:LB)(hb:b.length<=1000000)(hR:CU c r (nE c w t)):MZ (c:Int) (w:Int) (r:Int) p (RE c w t) (SE c w r t) (FE c w r p t) [] false 0 b=some (VC c w r p (t++b)):=by
 have hl:=Aav h t b hb b.length 0 Ax t F0 B_ B3 hR;rw[MZ,ZF,zo h t hR,Aa];simp only;rw[A_ F2,Ap7 h,Aa,Be4];exact hl
theorem Aq8:WR (c:Int) (w:Int) (r:Int) p=some ((c:Int),(w:Int),(r:Int),p,RE c w [],SE c w r [],FE c w r p [],[],false,0,0):=by
 have h0:nE c w []=0:=mQ _;have hk:kE c w r []=0:=by rw[kE,h0];exact mQ _
 rw[WR,yO h,Aa];simp only;rw[A_ F2,RE,SE,FE,XE,hk,h0];simp[uI,It]
omit h in
theorem Auh(c r:Nat):CU c r 0:=⟨F0, .inl rfl⟩
end
theorem xg(l:List LB)(hf:l.flatten.length<=1000000)(hl:l.length<=1000000)(v:LB)(hfin:Ht l (l.flatten.length:Int)=some v):∀(j i q:Nat),i+j=l.length->j<q->Dj l q (((l.take i).flatten.length:Nat):Int) (i:Int)=some v
 |j,i,0,_,h=>absurd h (HU _)
 |0,i,q+1,hi,_=>by
  rw[Dj,Er,A_ F4,H3 F0];exact hfin
 |j+1,i,q+1,hi,hq=>by
  have ih:=xg l hf hl v hfin j (i+1) q F0 F0;have hi1:Ae (i:Int) 1=((i+1:Nat):Int):=by rw[Ah];omega
  have hsn:(l.take (i+1)).flatten=(l.take i).flatten++l[i]:=by rw[Iq F0,NR];simp
  have hsp:l.flatten=(l.take (i+1)).flatten++(l.drop (i+1)).flatten:=by rw[<-NR,JY]
  have hle:((l.take i).flatten).length+(l[i]).length<=1000000:=by
   rw[hsp,B6,hsn,B6]at hf;omega
  have hadd:Ae (((l.take i).flatten.length:Nat):Int) (Ac l[i])=(((l.take (i+1)).flatten.length:Nat):Int):=by
   rw[Ac,Ah,hsn,B6];omega
  rw[Dj,Er,B2 F4,Bq,Aa,hadd,A_ (by rw[Ad];simp only[B7];omega),hi1];exact ih
theorem Agu (l:List LB)(hf:l.flatten.length<=1000000)(hl:l.length<=1000000):∀(j i q:Nat),i+j=l.length->j<q->Dc l q (i:Int) (l.take i).flatten=some l.flatten
 |j,i,0,_,h=>absurd h (HU _)
 |0,i,q+1,hi,_=>by
  rw[Dc,Ek,A_ F4,H3 F0];rfl
 |j+1,i,q+1,hi,hq=>by
  have ih:=Agu l hf hl j (i+1) q F0 F0;have hi1:Ae (i:Int) 1=((i+1:Nat):Int):=by rw[Ah];omega
  have hsn:(l.take (i+1)).flatten=(l.take i).flatten++l[i]:=by rw[Iq F0,NR];simp
  have hsp:l.flatten=(l.take (i+1)).flatten++(l.drop (i+1)).flatten:=by rw[<-NR,JY]
  have hle:((l.take i).flatten).length+(l[i]).length<=1000000:=by
   rw[hsp,B6,hsn,B6]at hf;omega
  rw[Dc,Ek,B2 F4,Bq,Aa,Bg,Aa,hi1,<-hsn];exact ih
theorem Aoe(l:List LB)(hf:l.flatten.length<=1000000)(hl:l.length<=1000000):Gd l=some l.flatten:=by
 have h3:Hq l []=some l.flatten:=by
  rw[Hq,Kz,Ky];exact Agu l hf hl l.length 0 Ax F0 B_
 have h11:Ht l (l.flatten.length:Int)=some l.flatten:=by
  have z:Aq (0:Int) 0=0:=F2
  rw[Ht,La,A_ (by rw[Ad];simp only[B7];omega),Qu,Lb,z,Cb,Int.sub_zero];by_cases hp:0<l.flatten.length
  ·rw[B2 (by rw[Ap];simp only[B7];omega),show dZ (0:Int) 0 0=some ()from rfl,Aa,xI,Aa,Bg (by simp only[WG,J?];omega),Aa];rw[show dZ (Ac ([]++List.replicate ((l.flatten.length:Nat):Int).toNat (0:UInt8))) 0 0=some () by rw[dZ,Br];simp[Ac],Aa];simp only[QY,mP,WM,J'];exact h3
  ·rw[A_ (by rw[Ap];simp only[B7];omega)];exact h3
 have:=xg l hf hl _ h11 l.length 0 Ax F0 B_;exact this
theorem Amp{p:LB}(hp:p.length<=64):UZ p=some ((Ep p:Int),0):=by
 rw[UZ,A_ C3,Ep];by_cases h:p=[]
 ·rw[B2 (by rw[As,Ac,h];rfl),B2 h];rfl
 ·have:p.length≠0:=λe=>h (ME e);rw[A_ (by rw[As,Ac,D4];omega),A_ h];rfl
theorem Bkm (a:List LB)(ha:a.length<=100000)(f g h:Int)(b k:LB)(m:LX)(n:LB)(o:Bool)(p:Int)(u v:LB)(hfin:Zv f g h b k m a n o p u (By a)=some (v,0)):∀(j i q:Nat),i+j=a.length->j<q->Ug a f g h b k m n o p u q (i:Int) (By (a.take i))=some (v,0)
 |j,i,0,_,h=>absurd h (HU _)
 |0,i,q+1,hi,_=>by
  rw[Ug,IP,A_ F4,H3 F0];exact hfin
 |j+1,i,q+1,hi,hq=>by
  have ih:=Bkm a ha f g h b k m n o p u v hfin j (i+1) q F0 F0;have hi1:Ae (i:Int) 1=((i+1:Nat):Int):=by rw[Ah];omega
  have hll:(By (a.take i)).length=i:=by rw[Gb,C8];omega
  have hsn:By (a.take i)++[Ac a[i]]=By (a.take (i+1)):=by rw[Iq F0,By,By,NZ];rfl
  rw[Ug,IP,B2 F4,Bq,Aa,Bg B5,Aa,hsn,hi1];exact ih
theorem Akc{c w r n:Nat}{x:LX}(h:ClipOk c w r n x){p:LB}(hp:p.length<=64)(k:LB)(m:LX)(n':LB)(o:Bool)(e:Int):bE (c:Int) (w:Int) (r:Int) p k m (Mz c w r n x p) n' o e (n:Int)=some (Ck c w r n x p,0):=by
 have hn:=gA h p;have hl:=nD h p;have hlen:=zW (c:=c) (w:=w) (r:=r) (n:=n) (x:=x) p;have hdl:=XV p;have hfin:Zv (c:Int) (w:Int) (r:Int) p k m (Mz c w r n x p) n' o e (HQ (Ep p) c w r n++VW p) (By (Mz c w r n x p))=some (Ck c w r n x p,0):=by
  have hh:=EC (Ep p) c w r n;have ht:=nF (By (Mz c w r n x p));have hll:=Gb (Mz c w r n x p);rw[Zv,IM,Ad1,B2 (O5 h p),Aa];simp only;rw[A_ F2,Bg KO,Aa,Aoe _ F0 F0,Aa,Bg (by rw[B6,B6];omega),Aa];simp[Ck]
 have hlp:=Bkm (Mz c w r n x p) F0 (c:Int) (w:Int) (r:Int) p k m n' o e (HQ (Ep p) c w r n++VW p) _ hfin (Mz c w r n x p).length 0 Ax F0 B_;rw[bE,YA,Amp hp,Aa];simp only;rw[A_ F2,Ahl (h.shape _ (wY p)) h.fit,Aa];simp only;rw[A_ F2];by_cases h0:p=[]
 ·have e2:VW p=[]:=by rw[VW,B2 h0]
  rw[e2,E0]at hlp;rw[A_ (by simp[h0]),XY,JE];exact hlp
 ·have e2:VW p=Uc (Vy p).toNat 8:=by rw[VW,A_ h0]
  rw[e2]at hlp;rw[B2 (by simpa using h0),mE p hp,Aa];simp only;rw[A_ F2,Bg (by rw[EC,Cn];omega),Aa,XY,JE];exact hlp
section
variable {c w r:Nat} {p:LB} (h:EncOk c w r p) (t:LB) (hR:CU c r (nE c w t))
include h hR
theorem Akz(h1:1<=nE c w t):ClipOk c w r (nE c w t) (XE c w t):=by
 have hc:=h.ch;refine⟨hc,h.bits,h.rate,⟨h1,?_⟩,J2 t,?_,fM h t⟩
 ·rw[Nat.le_div_iff_mul_le F0];exact hR.1
 ·rcases hR.2 with h0|h0
  ·omega
  ·exact h0
omit hR in
theorem Am6(h1:1<=nE c w t):Mz c w r (nE c w t) (XE c w t) p=FE c w r p t++(if SE c w r t=[]then []else [Rg (w:Int) c (Ld p) (SE c w r t)]):=by
 have hc:=h.ch;have hp:=Du r;obtain⟨d1,d2⟩:=T! h t;have hsl:=pO h t;have key:Yc c r (nE c w t) (XE c w t)=It c (XE c w t) (List.replicate (kE c w r t) (Ak r:Int))++(if SE c w r t=[]then []else [SE c w r t]):=by
  by_cases hz:nE c w t %Ak r=0
  ·have hS:SE c w r t=[]:=ME (by rw[hsl,hz,RL]);rw[B2 hS,E0,Yc];congr 1;rw[hz,K4]at d1;have hk1:1<=kE c w r t:=by
    rcases SB (kE c w r t)with h0|h0
    ·rw[h0,RL]at d1;omega
    ·exact h0
   obtain⟨k',hk'⟩:∃k',kE c w r t=k'+1:=⟨kE c w r t-1,F0⟩;have hd:(nE c w t-1)/Ak r=k':=by
    rw[hk',C7,JK]at d1;exact R? F0 RO
   rw[Al,hd,hk',List.replicate_succ'];congr 2;rw[hk',C7,JK]at d1;omega
  ·have hS:SE c w r t≠ []:=by
    intro e;have:=congrArg List.length e;rw[hsl,WG]at this;rcases Nat.mul_eq_zero.1 this with h0|h0<;>omega
   have hd:(nE c w t-1)/Ak r=kE c w r t:=R? F0 RO;have hdk:=cZ (r:=r) h t;rw[A_ hS,Yc,Al,hd,Z7 c _ _ _ (Av3 _ _),oK,It,It,C2];congr 2;rw[H3]
   ·rfl
   ·rw[D3,J2,<-I6,<-PF];exact C9 _
 rw[Mz,key,NZ,FE];congr 1;split<;>rfl
theorem xB:CR (c:Int) (w:Int) (r:Int) p (RE c w t) (SE c w r t) (FE c w r p t) [] false 0=
  some (if RE c w t≠ []\/nE c w t=0 then((c:Int),(w:Int),(r:Int),p,[],[],[],[],false,24,24)else((c:Int),(w:Int),(r:Int),p,[],[],[],Ck c w r (nE c w t) (XE c w t) p,true,0,0)):=by
 have hc:=h.ch;have hsl:=pO h t;have hfl:=H7 (c:=c) (w:=w) (r:=r) (p:=p) t;have hn4:=hR.1;have hmod:nE c w t %Ak r*c<=nE c w t*c:=C? _ (M2 _ _);have hn:nE c w t<=4000:=by
  have:nE c w t*1<=nE c w t*c:=P4 _ hc.1;omega
 have hk:kE c w r t<=nE c w t:=FU _ _;rw[CR,Azv,zo h t hR,Aa];simp only;rw[A_ F2,pq h t hR,Aa];by_cases hbad:RE c w t≠ []\/nE c w t=0
 ·have hcond:((Dz (Ac (RE c w t)) 0)||(geq (nE c w t:Int) 0))=true:=by
   rcases hbad with h0|h0
   ·have:RE c w t≠ []:=h0;have hl:0<(RE c w t).length:=List.length_pos_iff.2 this;rw[Ap,Ac,I'];left;simpa using hl
   ·rw[h0];simp[As]
  rw[B2 hbad,B2 hcond,Zk,Aa]
 ·have hR0:RE c w t=[]:=by
   by_cases h0:RE c w t=[]
   ·exact h0
   ·exact absurd (.inl h0) hbad
  have hn1:1<=nE c w t:=by
   rcases SB (nE c w t)with h0|h0
   ·exact absurd (.inr h0) hbad
   ·exact h0
  have hcl:=Akz h t hR hn1;have hfr:=Am6 h t hn1;have hcond:¬(((Dz (Ac (RE c w t)) 0)||(geq (nE c w t:Int) 0))=true):=by rw[hR0];simp[Ap,As,Ac];omega
  rw[A_ hbad,A_ hcond];by_cases hS:SE c w r t=[]
  ·rw[B2 hS,E0]at hfr;have hf:=Akc hcl h.pass (RE c w t) (SE c w r t) [] false 0;rw[hfr]at hf;rw[A_ (by rw[hS];decide),CC,NL,hf,Aa];simp only;rw[A_ F2]
  ·rw[A_ hS]at hfr;have hl:0<(SE c w r t).length:=List.length_pos_iff.2 hS;have hin:inR (w:Int) (SE c w r t):=λv hv=>fM h t v (P1 hv);have henc:=qP (t:=Ld p) (x:=SE c w r t) h.bits (Lq p) hc.1 hc.2 F0 F0 (by rw[hsl];exact LN _ _) hin;have hf:=Akc hcl h.pass (RE c w t) [] [] false 0;rw[hfr]at hf;rw[B2 (by rw[Ap,Ac];simpa using hl),UC p h.pass,Aa];simp only;rw[A_ F2,henc,Aa];simp only;rw[A_ F2,Bg B5,Aa,Ay5,Axk,A_ F2,CC,NL,hf,Aa];simp only;rw[A_ F2]
end
inductive Pl (S D A:Int) (G:Nat->Int) (l:LI) (a:Int):UInt8->Int->Int->Prop
 |t:a<S->Pl S D A G l a 1 0 0
 |h:S<=a->a<S+22->Pl S D A G l a 2 0 0
 |d:S+22<=a->a<D->Pl S D A G l a 3 0 0
 |s:S+22<=a->D<=a->a<A->Pl S D A G l a 4 0 0
 |f (i:Nat):S+22<=a->D<=a->A<=a->i<l.length->A+(l.take i).sum<=a->a<A+(l.take (i+1)).sum->Pl S D A G l a 5 i (G i)
 |b:S+22<=a->D<=a->A<=a->A+l.sum<=a->Pl S D A G l a 6 0 0
theorem Aqk(X:Nat->LX)(E:Nat->Int)(be:Int){K:Nat}(hK:E K≠0):∀(j k:Nat) (acc:LX),k<=K->K<k+j-> (∀i,k<=i->i<K->E i=0)-> (lI X E be j k acc).2=E K
 |0,k,acc,h1,h2,_=>by omega
 |j+1,k,acc,h1,h2,h3=>by
  rw[lI];by_cases hk:k=K
  ·subst hk;rw[B2 hK]
  ·rw[A_ (by rw[h3 k (C9 _) F0];simp)];exact Aqk X E be hK j (k+1) _ F0 F0 (λi a b=>h3 i F0 b)
theorem Aln{o b X:LB}{E:Int}(ho:o.length<=64)(hb:b.length<=20000)(tq:Ends o (Fd o b) X E):∃(p2:LB) (f2 c2 w2 r2 n2:Int) (g2:LI) (a2 e3:Int) (u:Bool) (v:Int),Di o [] 0 0 0 0 0 [] 0 [] false 0 b=some (o,p2,f2,c2,w2,r2,n2,g2,a2,X,false,e3,e3)/\Cg o p2 f2 c2 w2 r2 n2 g2 a2 X false e3=some (o,[],0,0,0,0,0,[],0,X,u,v,E)/\ (e3=0\/e3=E):=by
 obtain⟨p2,f2,c2,w2,r2,n2,g2,a2,y2,e3,d1,_,d3⟩:=(Bh.new ho).feed ho B3 b F0 B5;rw[D8]at d3;have hs:=d3.gH;have hfd:=d3.fd F0;have hck:=d3.check ho F0;rcases tq with⟨h0,h1⟩|⟨p,f,c,w,r,n,g,a,hpl,h1,h2⟩
 ·rw[hfd]at h1;simp only[B?,BS]at h1;obtain⟨_,rfl,rfl,rfl,rfl,rfl,rfl,rfl,rfl,rfl,_,rfl,_⟩:=h1;obtain⟨u,v,k,k1,k2⟩:=d3.finish ho B3;rcases k2 with⟨rfl,rfl,k3,_,k4⟩|⟨rfl,rfl,rfl⟩
  ·have hk:v=e3:=by rcases k4 with h|h<;>omega
   subst hk;exact⟨_,_,_,_,_,_,_,_,_,_,_,d1,k1, .inr rfl⟩
  ·
   exfalso;cases d3 with
   |wt W=>omega
   |er h0 hc hx hB=>
    have:=(YF (o:=o) (u:=false) (v:=e3) (k:=e3) ho hx (.inl ⟨rfl,rfl,h0,hc⟩)).2.2;rw[this]at k1;simp only[B?,BS]at k1;exact absurd k1.2.2.2.2.2.2.2.2.2.2.1 F2
 ·rw[hfd]at h1;simp only[B?,BS]at h1;obtain⟨_,rfl,rfl,rfl,rfl,rfl,rfl,rfl,rfl,rfl,_,rfl,_⟩:=h1;have hbg:=mI (o:=o) (p:=p2) (f:=f2) (c:=c2) (w:=w2) (r:=r2) (n:=n2) (g:=g2) (a:=a2) (x:=y2) (u:=false) (v:=0) F0 F0 F0 hck.1;rw[A_ F2]at hbg;obtain⟨e1,q1,q2⟩:=vH (o:=o) (p:=p2) (f:=f2) (c:=c2) (w:=w2) (r:=r2) (n:=n2) (a:=a2) (u:=false) (v:=0) (g:=g2) (x:=y2) F0;rw[h2]at q2;cases q2;have hF:Cg o p2 f2 c2 w2 r2 n2 g2 a2 y2 false 0=Cg o p2 f2 c2 w2 r2 n2 g2 a2 y2 false 0:=rfl
  conv at hF=>rhs;rw[Cg,hbg,Aa]
  simp only at hF;rw[A_ F2,q1,Aa]at hF;by_cases he:Bd E 0=true
  ·rw[B2 he,bC,Aa]at hF;exact⟨_,_,_,_,_,_,_,_,_,_,_,d1,hF, .inl rfl⟩
  ·have hE0:E=0:=by rw[Aj]at he;simpa using he
   rw[A_ he,<-hE0]at hF;exact⟨_,_,_,_,_,_,_,_,_,_,_,d1,by rw[hE0]at hF⊢;exact hF, .inl rfl⟩
theorem Aoq{c w r n:Nat}{x:LX}(h:ClipOk c w r n x){p:LB}(hp:p.length<=64):Sm (Ck c w r n x p) p=some ((c:Int),(w:Int),(r:Int),x,0):=by
 have fo:=bI h hp;have o:=fo.Fm;have hle:=fo.le;have hlf:=Gb (Mz c w r n x p);have hgood:∀i,(hi:i<(Mz c w r n x p).length)-> _:=λi hi=>fo.Bh2 (k:=i) hi rfl;have hbe:YV (Ck c w r n x p) (Zp 0 p (Mz c w r n x p).length) (By (Mz c w r n x p))=0:=by rw[fo.beh,xq]
 have hcl:RT (Ck c w r n x p) p (Ep p) c w r n (Zp 0 p (Mz c w r n x p).length) (By (Mz c w r n x p))=((c:Int),(w:Int),(r:Int),x,0):=by
  have hr:=yP (Iv (Ck c w r n x p) p (Ep p) c w r n (Zp 0 p (Mz c w r n x p).length) (By (Mz c w r n x p))) (By (Mz c w r n x p)).length 0 [] (λi _ hi=>by rw[(hgood i F0).1]);have hcl:=v! w (Iv (Ck c w r n x p) p (Ep p) c w r n (Zp 0 p (Mz c w r n x p).length) (By (Mz c w r n x p))) (YV (Ck c w r n x p) (Zp 0 p (Mz c w r n x p).length) (By (Mz c w r n x p))) (By (Mz c w r n x p)).length 0 [] [];rw[hbe,hr]at hcl;have hg:=oG _ _ _ _ _ _ hcl.symm;have hPl:=oM (c:=c) (r:=r) (n:=n) (x:=x);have hfl:=bD (c:=c) (w:=w) (r:=r) (n:=n) (x:=x) p;have iY:=xF (Yc c r n x) (λi=>W? w (Iv (Ck c w r n x p) p (Ep p) c w r n (Zp 0 p (Mz c w r n x p).length) (By (Mz c w r n x p)) i)) 0 (λi hi=>by rw[HM,(hgood i F0).2]);rw[Z0 h,<-show(Mz c w r n x p).length=(Yc c r n x).length by omega]at iY;rw[RT,gR,hbe,A_ (by rw[<-hcl];simp),hg.2.2,D8,hlf,iY]
 rcases N6 (Ck c w r n x p) p F0 hp with⟨e,he,k1,_⟩|⟨f',c',w',r',n',A',l',o',k3,_⟩
 ·have:=o.prog;rw[k1]at this;have:=G? this;simp only[HO,BS]at this;exact absurd this.2.2.2.2.2.2.2 he
 ·have hpr:=o'.prog;rw[o.prog]at hpr;simp only[B?,BS]at hpr;obtain⟨v1,v2,v3,v4,v5,v6,v7,_⟩:=hpr;have j1:Ep p=f':=F0
  have j2:c=c':=F0
  have j3:w=w':=F0
  have j4:r=r':=F0
  have j5:n=n':=F0
  have j6:Zp 0 p (Mz c w r n x p).length=A':=F0
  subst j1 j2 j3 j4 j5 v7;rw[<-j6,hcl]at k3;exact k3
theorem ClipOk.enc{c w r n:Nat}{x:LX}(h:ClipOk c w r n x){p:LB}(hp:p.length<=64):EncOk c w r p:=⟨h.ch,h.bits,h.rate,hp⟩
theorem oN{c w r n:Nat}{x:LX}(h:ClipOk c w r n x){p:LB}(hp:p.length<=64):nE c w (Az (w:Int) x)=n/\XE c w (Az (w:Int) x)=x/\RE c w (Az (w:Int) x)=[]/\CU c r n:=by
 have he:=h.enc hp;have hs:=kI he;have hbl:(Az (w:Int) x).length=n*kY c w:=by rw[KS h.bits,h.len,kY,I6]
 have hn:nE c w (Az (w:Int) x)=n:=by rw[nE,hbl,RB _ F0]
 have hle:=h.le;refine⟨hn,?_,?_,hle.2.1, .inr h.fr⟩
 ·rw[XE,hn,<-h.len];exact Alh h.bits x h.rng
 ·rw[RE,hn,<-hbl,L?]
def pcs(f g:Nat):Nat->Nat->Nat->LI
 |0,_,_=>[]
 |q+1,h,a=>if a+1=f\/g.testBit (a %64)=true then((a+1-h:Nat):Int)::pcs f g q (a+1) (a+1)else pcs f g q h (a+1)
theorem Avi(g:UInt64)(k:Nat):(Fy (Cy g k) (1:UInt64)).toNat=g.toNat/2^k %2:=by
 rw[R5,aJ,HZ];exact kR _
theorem Bh5(g:UInt64)(k:Nat):geq (Fy (Cy g (GI.toZ (Ge (k:Int) 64)).toNat) 1) (1:UInt64)=g.toNat.testBit (k %64):=by
 have e:(GI.toZ (Ge (k:Int) 64)).toNat=k %64:=by
  unfold Ge;rw[S8 F0];simp only[GI.toZ];omega
 rw[e,O8,Nat.testBit_eq_decide_div_mod_eq];refine decide_eq_decide.2 ⟨λh=>by rw[<-Avi,h];rfl,λh=>UInt64.toNat_inj.1 (by rw[Avi,h];rfl)⟩
theorem Bfe(k:Nat):Le (Ge (k:Int) 64) 0=true:=by
 unfold Ge;rw[S8 F0];simp[Le,GI.toZ];omega
theorem Aj5(f:Nat)(g:UInt64):∀(q Q h a:Nat) (l:LI),q+a=f->q<Q->h<=a->f<=100000->l.length<=a->Rh (f:Int) g Q (h:Int) (a:Int) l=some (l++pcs f g.toNat q h a,0)
 |q,0,h,a,l,_,hq,_,_,_=>absurd hq (HU _)
 |0,Q+1,h,a,l,hf,_,_,_,_=>by
  obtain rfl:a=f:=F0
  simp only[Rh,FP];rw[A_ (by simp[Cj,GI.toZ]),pcs,E0];rfl
 |q+1,Q+1,h,a,l,hf,hq,hh,hl,hll=>by
  simp only[Rh,FP];rw[B2 (by simp[Cj,GI.toZ];omega)];have e1:Aq (f:Int) 1=((f-1:Nat):Int):=by rw[Cb];omega
  have e2:Ae (a:Int) 1=((a+1:Nat):Int):=by rw[Ah];omega
  have e3:Aq ((a+1:Nat):Int) (h:Int)=((a+1-h:Nat):Int):=by rw[Cb];omega
  have e4:geq (a:Int) ((f-1:Nat):Int)=decide (a+1=f):=by
   show decide ((a:Int)=((f-1:Nat):Int))=_;exact decide_eq_decide.2 F0
  rw[e1,e2,e3,e4,Bg B5,Aa,Bfe,Bhz,Aa,Bh5,pcs];have ih:=λh' l'=>Aj5 f g q Q h' (a+1) l' F0 F0;by_cases h1:a+1=f
  ·rw[B2 (K! h1),B2 (.inl h1),ih _ _ (C9 _) hl B5,C6];rfl
  ·rw[A_ (by simpa using h1)];by_cases h2:g.toNat.testBit (a %64)=true
   ·rw[B2 h2,B2 (.inr h2),ih _ _ (C9 _) hl B5,C6];rfl
   ·rw[A_ h2,A_ (λh=>h.elim h1 h2),ih _ _ F0 hl F0]
theorem Adq(f:Nat)(g:UInt64)(hf:f<=100000):HD (f:Int) g=some (pcs f g.toNat f 0 0,0):=by
 unfold HD SL Bf3;rw[A_ (by simp[Cj,Dz,GI.toZ];omega)];have:=Aj5 f g f Ax 0 0 [] F0 B_ (C9 _) hf (C9 _);rw[show((0:Nat):Int)=0 from rfl]at this;rw[this];rfl
theorem W_(f g:Nat):∀(q h a:Nat),(pcs f g q h a).length<=q
 |0,h,a=>C9 _
 |q+1,h,a=>by
  rw[pcs];split
  ·rw[D_];have:=W_ f g q (a+1) (a+1);omega
  ·have:=W_ f g q h (a+1);omega
def B4(ns:List Nat):LI:=List.map Int.ofNat ns
theorem TZ(ns:List Nat):(B4 ns).length=ns.length:=by simp[B4]
theorem zw{ns:List Nat}{i:Nat}(h:i<ns.length):Go.Lv.Ao (B4 ns) (i:Int)=some ((ns[i]:Nat):Int):=by
 rw[Bq (by rw[TZ];exact h)];simp[B4]
def J!:List Nat->Nat|[]=>0|n::l=>n+J! l
theorem Aiw{ns:List Nat}{i:Nat}(h:i<ns.length):J! (ns.drop i)=ns[i]+J! (ns.drop (i+1)):=by
 rw[ig h];rfl
theorem m_(f g:Nat):∀(q h a:Nat),q+a=f->h<=a-> (q=0->h=a)->∃ns,pcs f g q h a=B4 ns/\J! ns=f-h
 |0,h,a,hf,hh,h0=>⟨[],rfl,by rw[h0 rfl];simp[J!];omega⟩
 |q+1,h,a,hf,hh,_=>by
  rw[pcs];by_cases h1:a+1=f\/g.testBit (a %64)=true
  ·rw[B2 h1];obtain⟨ns,g1,g2⟩:=m_ f g q (a+1) (a+1) F0 (C9 _) (λ_=>rfl);exact⟨(a+1-h)::ns,by rw[g1];rfl,by rw[J!,g2];omega⟩
  ·rw[A_ h1];exact m_ f g q h (a+1) F0 F0 (λe=>absurd (.inl F0) h1)
theorem Bh.len{o s p:LB}{f c w r n:Int}{g:LI}{a:Int}{x:LB}{e:Int}(h:Bh o s p f c w r n g a x e):p.length<=s.length/\g.length<=1000/\x.length<=13000000:=by
 cases h with
 |wt W hl hb=>exact⟨hl,W.sz.hg,by have:=W.sz.hx;omega⟩
 |er h0 hc hx hb=>exact⟨B3,B3,F0⟩
def RS(o b:LB):Option (LB×Int):=(Fd o b).bind λ(t1,t2,t3,t4,t5,t6,t7,t8,t9,t10,t11,t12,e)=>if Bd e 0 then some (t10,e)else(Cg t1 t2 t3 t4 t5 t6 t7 t8 t9 t10 t11 t12).bind λ(_,_,_,_,_,_,_,_,_,y,_,_,k)=>some (y,k)
theorem Bh.whole{o b p:LB}{f c w r n:Int}{g:LI}{a:Int}{x:LB}{e:Int}(ho:o.length<=64)(hb:b.length<=100000){s:Nat}(h:Bh o (b.take s) p f c w r n g a x e)(h0:e≠0):RS o b=some (x,e):=by
 cases h with
 |wt W hl hB=>exact absurd rfl h0
 |er h1 hc hx hB=>
  have:=hB (b.drop s) (by rw[JY];exact hb);rw[JY]at this;rw[RS,this,Aa];simp only;rw[B2 D2]
theorem Axd(o b:LB)(ho:o.length<=64)(ns:List Nat)(hb:b.length<=10000)(hn:ns.length<=10000):∀(r i s q:Nat) (p:LB) (f c w rr n:Int) (g:LI) (a:Int) (x:LB),Bh o (b.take s) p f c w rr n g a x 0->i+r=ns.length->s+J! (ns.drop i)=b.length->r<q->
  Yh (B4 ns) q (b.drop s) (i:Int) o f c w rr n a x false 0 p g=RS o b
 |r,i,s,0,_,_,_,_,_,_,_,_,_,_,_,_,h=>absurd h (HU _)
 |r,i,s,q+1,p,f,c,w,rr,n,g,a,x,hB,hi,hs,hq=>by
  have hlen:=hB.len;have hpl:p.length<=10000:=by have:=hlen.1;rw[C8]at this;omega
  rw[Yh,UD];cases r with
  |zero=>
   have hN:¬(Cj (i:Int) (Ac (B4 ns))=true):=by rw[Ad,Ac,TZ];simp;omega
   have hd:ns.drop i=[]:=List.drop_eq_nil_of_le F0;rw[hd,J!,K4]at hs;rw[hs,FX]at hB;rw[A_ hN,NM,Avo,RS,hB.fd F0,Aa];rfl
  |succ r=>
   have hlt:i<ns.length:=F0
   have hN:Cj (i:Int) (Ac (B4 ns))=true:=by rw[Ad,Ac,TZ];simp;omega
   have hsd:=Aiw hlt;rw[B2 hN,zw hlt];simp only[Aa];have hln:(b.drop s).length=b.length-s:=D3;have c1:Bp (b.drop s) 0 ((ns[i]:Nat):Int)=some ((b.drop s).take ns[i]):=by rw[Cx];simp
   have e4:b.take s++(b.drop s).take ns[i]=b.take (s+ns[i]):=by rw[SD]
   obtain⟨p2,f2,c2,w2,r2,n2,g2,a2,x2,e3,d1,_,d3⟩:=hB.feed ho F0 ((b.drop s).take ns[i]) MC (by rw[e4,C8];omega);rw[e4]at d3;rw[c1,Aa,d1,Aa];simp only[QN,Ayv];by_cases he:e3=0
   ·subst he;have e2:Ae (i:Int) 1=((i+1:Nat):Int):=by rw[Ah];omega
    have c3:Bp (b.drop s) ((ns[i]:Nat):Int) (Ac (b.drop s))=some (b.drop (s+ns[i])):=by
     rw[Bu];simp only[C2,K?]
    rw[A_ F2,c3,Aa,e2];exact Axd o b ho ns hb hn r (i+1) (s+ns[i]) q p2 f2 c2 w2 r2 n2 g2 a2 x2 d3 F0 F0 F0
   ·rw[B2 (by rw[Aj];simpa using he),d3.whole ho F0 he]
theorem Bbx(o b:LB)(ho:o.length<=64)(ns:List Nat)(hb:b.length<=10000)(hn:ns.length<=10000)(hs:J! ns=b.length):UK o b (B4 ns)=RS o b:=by
 have hO:¬(Dz (Ac o) 64=true):=by rw[Ap,Ac];simp;omega
 rw[UK,UI,Uw,A_ hO,Aa];simp only;rw[A_ F2];exact Axd o b ho ns hb hn ns.length 0 0 Ax [] 0 0 0 0 0 [] 0 [] (by rw[J'];exact Bh.new ho) F0 (by rw[LG];omega) B_
theorem wU{p:Prop}(h:p:=by rw[C8,D3];omega):p:=h
section
variable {c w r:Nat} {p:LB} (h:EncOk c w r p)
include h
def O? (c w r:Nat)(p b:LB):LB×Int:=if CU c r (nE c w b)then(if RE c w b≠ []\/nE c w b=0 then([],24)else(Ck c w r (nE c w b) (XE c w b) p,0))else([],18)
theorem xO{F:LB}(hF:F.length<=100000):HN (c:Int) (w:Int) (r:Int) p [] [] [] F true 0 100000=some ((c:Int),(w:Int),(r:Int),p,[],[],[],[],true,0,F,0):=by
 have hck:Ij (c:Int) (w:Int) (r:Int) p [] [] [] F true 0=some 0:=by
  rw[Ij,yO h,Aa];simp only;rw[A_ F2,A_ F2,B2 (by trivial),A_];have:tZ (Ac F) 100000=true:=by rw[Qh,Ac];simp;omega
  rw[this];decide
 have htw:=Akj (a:=[]) (λy hy=>by simp at hy) B3 (c:Int) (w:Int) (r:Int) p (x:=[]) (s:=[]) (z:=F) B3 B3 F0 true 0;have hm:Fq 100000 (Ac F)=(F.length:Int):=by rw[CO,Ac];omega
 rw[HN,hck,Aa,A_ F2,A_ F2,htw,Aa];simp only;rw[hm,Cx,Aa,C2,FX,Bz,Bg B5,Aa,Aa,Bu,Aa,C2,L?,D8]
theorem Ah2(b:LB)(ns:List Nat)(hb:b.length<=10000)(hn:ns.length<=10000):∀(j i s q:Nat),i+j=ns.length->s+J! (ns.drop i)=b.length->j<q->CU c r (nE c w (b.take s))->
  Ro (B4 ns) q (b.drop s) (i:Int) (c:Int) (w:Int) (r:Int) p false 0 (RE c w (b.take s)) (SE c w r (b.take s)) (FE c w r p (b.take s)) []=some (O? c w r p b)
 |j,i,s,0,_,_,h,_=>absurd h (HU _)
 |0,i,s,q+1,hi,hs,_,hR=>by
  have e:b.take s=b:=H3 (by rw[QI F0]at hs;simp[J!]at hs;omega);rw[e]at hR⊢;have hfin:=xB h b hR;rw[Ro,EH,A_ (by rw[Ad,Ac,TZ];simp;omega),OW,Az3,hfin,Aa,O?,B2 hR];by_cases hbad:RE c w b≠ []\/nE c w b=0
  ·rw[B2 hbad,B2 hbad];simp only;rw[B2 F2]
  ·rw[A_ hbad,A_ hbad];have hn1:1<=nE c w b:=by
    rcases SB (nE c w b)with h0|h0
    ·exact absurd (.inr h0) hbad
    ·exact h0
   have hcl:=Akz h b hR hn1;simp only;rw[A_ F2,xO h (by have:=nD hcl p;omega),Aa]
 |j+1,i,s,q+1,hi,hs,hq,hR=>by
  have hil:i<ns.length:=F0
  have hi1:Ae (i:Int) 1=((i+1:Nat):Int):=by rw[Ah];omega
  have hsd:=Aiw hil;have ih:=Ah2 b ns hb hn j (i+1) (s+ns[i]) q F0 F0 F0;have iY:b.take s++(b.drop s).take ns[i]=b.take (s+ns[i]):=by rw[SD]
  have hfd:=Al3 h (b.take s) ((b.drop s).take ns[i]) wU hR;rw[iY,VC]at hfd;rw[Ro,EH,B2 (by rw[Ad,Ac,TZ];simp;omega),zw hil,Aa,Aa,Cx F0 IC,Aa,C2,hfd,Aa];by_cases hok:CU c r (nE c w (b.take (s+ns[i])))
  ·rw[B2 hok];simp only;rw[EG,UG,A_ F2,Bu F0 IC,Aa,C2,K?,hi1];exact ih hok
  ·rw[A_ hok];simp only;rw[EG,UG,B2 F2,O?,A_];intro hh;exact hok (hh.mono (WA MC))
theorem Ano(b:LB)(hb:b.length<=10000)(m:UInt64):IF (c:Int) (w:Int) (r:Int) p b m=some (O? c w r p b):=by
 obtain⟨ns,h1,h2⟩:=m_ b.length m.toNat b.length 0 0 F0 F0 (λ_=>rfl);have hlen:ns.length<=b.length:=by
  have:=W_ b.length m.toNat b.length 0 0;rw[h1,TZ]at this;exact this
 have hl:=Ah2 h b ns hb F0 ns.length 0 0 Ax F0 (by rw[LG];omega) B_ (by rw[J',show nE c w []=0 from mQ _];exact Auh c r);rw[J',LG]at hl;rw[IF,SU,Ac,Adq _ _ F0,Aa];simp only;rw[A_ F2,Aq8 h,Aa];simp only;rw[A_ F2,h1];exact hl
end
theorem xC{b p:LB}(hb:b.length<=10000)(hp:p.length<=64){X:LB}{E:Int}(tq:Ends p (Fd p b) X E)(m:UInt64):HS p b m=some (X,E):=by
 obtain⟨ns,h1,h2⟩:=m_ b.length m.toNat b.length 0 0 F0 F0 (λ_=>rfl);have hlen:ns.length<=b.length:=by
  have:=W_ b.length m.toNat b.length 0 0;rw[h1,TZ]at this;exact this
 have Bl2:=Bbx p b hp ns hb F0 F0;have hA:RS p b=some (X,E):=by
  obtain⟨p2,f2,c2,w2,r2,n2,g2,a2,e3,u,v,k1,k2,k3⟩:=Aln hp (show b.length<=20000 by omega) tq;obtain⟨q2,f3,c3,w3,r3,n3,g3,a3,y3,e4,d1,_,d3⟩:=(Bh.new hp).feed hp B3 b F0 B5;rw[D8]at d3;have hfd:=d3.fd F0;rw[d1]at k1;simp only[B?,BS]at k1;obtain⟨_,rfl,rfl,rfl,rfl,rfl,rfl,rfl,rfl,rfl,_,rfl,_⟩:=k1;rw[RS,hfd,Aa];simp only;by_cases h0:e4=0
  ·rw[A_ (by rw[h0];decide),k2,Aa]
  ·have:e4=E:=by
    rcases k3 with h|h
    ·exact absurd h h0
    ·exact h
   rw[B2 (by rw[Aj];simpa using h0),this]
 rw[HS,Ac,Adq _ _ F0,Aa];simp only;rw[A_ F2,h1,Bl2,hA,Aa]
structure Ue where
 m:LB
 s:LX
 fr:List LB
 X:LB
 u:Bool
 v:Int
def XR(X:LB)(u:Bool)(v k:Int):Prop:=(X=[]/\u=false/\ (v=18\/v=24)/\k=v)\/ (u=true/\v=0/\k=36)
theorem XR.drop{X:LB}{v k:Int}(h:XR X u v k)(t:Nat):XR (X.drop t) u v k:=by
 rcases h with⟨h1,h2⟩|h
 ·exact .inl ⟨by rw[h1];simp,h2⟩
 ·exact .inr h
inductive OkE (c w r:Nat) (p:LB) (L:Nat):Ue->Prop
 |live {t:LB}:t.length+L<=600->CU c r (nE c w t)->OkE c w r p L ⟨RE c w t,SE c w r t,FE c w r p t,[],false,0⟩
 |stop {X:LB} {u:Bool} {v k:Int}:X.length<=20000->XR X u v k->OkE c w r p L ⟨[],[],[],X,u,v⟩
section
variable {c w r:Nat} {p:LB} (h:EncOk c w r p)
include h
theorem Asb{X:LB}{v k:Int}(hX:X.length<=20000)(hs:XR X u v k):Ij (c:Int) (w:Int) (r:Int) p [] [] [] X u v=some 0:=by
 rw[Ij,yO h,Aa];simp only;rw[A_ F2];rcases hs with⟨rfl,rfl,h1|h1,_⟩|⟨rfl,rfl,_⟩
 ·subst h1;rw[B2 F2,A_ F2]
 ·subst h1;rw[B2 F2,A_ F2]
 ·rw[A_ F2,B2 (by trivial),A_];have:tZ (Ac X) 100000=true:=by rw[Qh,Ac];simp;omega
  rw[this];decide
theorem Bi3(t:LB):nE c w t*c<=t.length:=by
 have h1:=xk h t;have h2:nE c w t*c<=nE c w t*kY c w:=by
  rw[kY];refine P4 _ ?_;have:=kI h;rw[kY]at this;rcases SB (wB (w:Int))with h0|h0
  ·rw[h0]at this;omega
  ·exact VZ _ h0
 omega
theorem OkE.szs{L:Nat}{U:Ue}(hU:OkE c w r p L U):U.m.length<=20000/\U.s.length<=20000/\U.fr.length<=4000/\U.X.length<=20000/\ (∀y∈U.fr,y.length<=17179869184)/\∀t,Ij (c:Int) (w:Int) (r:Int) p U.m U.s U.fr (U.X.drop t) U.u U.v=some 0:=by
 cases hU with
 |live hl hR=>
  rename_i t;have h1:=xk h t;have hsl:=pO h t;have hfl:=H7 (c:=c) (w:=w) (r:=r) (p:=p) t;have hs:=kI h;have hmod:nE c w t %Ak r*c<=nE c w t*c:=C? _ (M2 _ _);have hn:=Bi3 h t;have hk:kE c w r t<=nE c w t:=FU _ _;have hlt:=OR h.rate.2;have hnn:nE c w t<=nE c w t*c:=VZ _ h.ch.1;have hLc:Ak r*c<=1100000*6:=HG F0 h.ch.2;exact⟨by simp only;omega,by simp only;omega,by simp only;omega,B3,λy hy=>by have:=sN h t hR y hy;omega,λn=>by simp only[List.drop_nil];exact jq h t hR⟩
 |stop hx hs=>
  refine⟨B3,B3,B3,hx,λy hy=>by simp at hy,λn=>?_⟩;exact Asb h mg (hs.drop n)
end
def uJ(F D M:Nat):List Stp:=(List.replicate M [((1:UInt8),(F:Int),()),((2:UInt8),(D:Int),())]).flatten
def lU(F D M:Nat):List Stp:=uJ F D M++[((3:UInt8),(0:Int),()),((2:UInt8),(100000:Int),())]
theorem Bdk(a f:Int)(m:Nat)(hm:m<=99):Mn ([((1:UInt8),a,()),((2:UInt8),f,())]:List Stp) (m:Int)=some (List.replicate m [((1:UInt8),a,()),((2:UInt8),f,())]).flatten:=by
 iterate 100 (rcases m with _|m; · kernel_rfl)
 omega
theorem K0(F D M:Nat):uJ F D (M+1)=((1:UInt8),(F:Int),())::((2:UInt8),(D:Int),())::uJ F D M:=by simp[uJ,LY]
theorem lP(F D:Nat):∀M:Nat,(uJ F D M).length=2*M
 |0=>rfl
 |M+1=>by rw[K0,D_,D_,lP F D M];omega
theorem Adv(F D M:Nat):(lU F D M).length=2*M+2:=by rw[lU,B6,lP];rfl
theorem Aj2(F D:Nat)(hF:F<=100000)(hD:D<=100000):∀(M:Nat),∀st∈uJ F D M,VS3 st
 |0,st,h=>by simp[uJ]at h
 |M+1,st,h=>by
  rw[K0,RI,RI]at h;rcases h with rfl|rfl|h
  ·exact⟨⟨.inl rfl,by simp only;omega,by simp only;omega⟩,λh=>absurd h B3⟩
  ·exact⟨⟨.inr (.inl rfl),by simp only;omega,by simp only;omega⟩,λh=>absurd h B3⟩
  ·exact Aj2 F D hF hD M st h
theorem Axh(F D M:Nat)(hF:F<=100000)(hD:D<=100000):∀st∈lU F D M,VS3 st:=by
 intro st h;rw[lU,WH,RI,jv]at h;rcases h with h|rfl|rfl
 ·exact Aj2 F D hF hD M st h
 ·exact⟨⟨.inr (.inr rfl),F2,F2⟩,λ_=>rfl⟩
 ·exact⟨⟨.inr (.inl rfl),F2,F2⟩,λh=>absurd h F2⟩
theorem Aod(F D M:Nat):(lU F D M)[(lU F D M).length-1]? =some ((2:UInt8),(100000:Int),()):=by
 rw[Adv,lU,List.getElem?_append_right (by rw[lP];omega),lP,show 2*M+2-1-2*M=1 by omega];rfl
theorem Ail(L F D:Nat):∀(M n:Nat),n<=L->U_ L (uJ F D M++[((3:UInt8),(0:Int),()),((2:UInt8),(100000:Int),())]) n=(min L (n+M*F),true)
 |0,n,hn=>by
  rw[show uJ F D 0=[]from rfl,D8,U_,B2 rfl,RL];congr 1;omega
 |M+1,n,hn=>by
  rw[K0,M!,M!,U_,A_ B3,B2 rfl,U_,A_ B3,A_ B3,Ail L F D M _ (by simp only;omega)];simp only[C2];congr 1;rw[C7,JK];omega
theorem Ako{b p:LB}(hb:b.length<=20000)(hp:p.length<=64){e:Int}(he:e≠0)(h:Cf b p=some (HO e)):Sm b p=some (OC e):=by
 rcases N6 b p F0 hp with⟨e',he',h1,_,h3,_⟩|⟨f,c,w,r,n,A,l,o,_,_⟩
 ·rw[h]at h1;have:=G? h1;simp only[HO,BS]at this;rw[this.2.2.2.2.2.2.2];exact h3
 ·have:=o.prog;rw[h]at this;have:=G? this;simp only[HO,BS]at this;exact absurd this.2.2.2.2.2.2.2 he
def exF:LB:=[84,84,65,49,2,0,2,0,16,0,4,0,0,0,5,0,0,0,53,215,167,173,160,118,203,71,159,71,36,226,16,0,0,0,7,0,0,0,251,214,78,132,4,64,128,6,6,4,107,94,4,96,129,0,174,194,153,9,74,16,0,85,195,142,200]
def exG:LB:=[84,84,65,49,2,0,2,0,16,0,4,0,0,0,5,0,0,0,53,215,167,173,160,118,203,71,159,71,36,226,16,0,0,0,7,0,0,0,251,214,78,132,4,64,128,6,6,4,107,94,4,96,129,0,174,194,153,9,74,17,0,85,195,142,200]
theorem Aqh:∀(l:LI) (a:Int),(∀z∈l,0<=z)->0<=a->a<l.sum->∃K,K<l.length/\ (l.take K).sum<=a/\a<(l.take (K+1)).sum
 |[],a,_,h0,h=>by simp at h;omega
 |z::l,a,hn,h0,h=>by
  by_cases hz:a<z
  ·exact⟨0,B3,by simpa using h0,by simpa using hz⟩
  ·rw[H']at h;obtain⟨K,k1,k2,k3⟩:=Aqh l (a-z) (λy hy=>hn y (G! _ hy)) F0 F0;refine⟨K+1,by simp;omega,?_,?_⟩
   ·rw[aI,H'];omega
   ·rw[aI,H'];omega
theorem Akd{b p:LB}{f c w r n A:Nat}{l:LI}(o:Opn b p f c w r n A l){K:Nat}(hK:K<l.length)(hg:∀i,i<K-> (Iv b p f c w r n A l i).2=0){e:Int}(he:(Iv b p f c w r n A l K).2=e)(he0:e≠0):MF b p=some e:=by
 have hp:=o.pass;have Y':=o.file;rcases N6 b p F0 hp with⟨e',he',h1,_,_,_⟩|⟨f',c',w',r',n',A',l',o',k3,_⟩
 ·have:=o.prog;rw[h1]at this;have:=G? this;simp only[HO,BS]at this;exact absurd this.2.2.2.2.2.2.2 he'
 have hpr:=o'.prog;rw[o.prog]at hpr;simp only[B?,BS]at hpr;obtain⟨v1,v2,v3,v4,v5,v6,v7,_⟩:=hpr;obtain rfl:f=f':=F0
 obtain rfl:c=c':=F0
 obtain rfl:w=w':=F0
 obtain rfl:r=r':=F0
 obtain rfl:n=n':=F0
 obtain rfl:A=A':=F0
 subst v7;have hce:(lI (λk=>W? w (Iv b p f c w r n A l k)) (λk=>(Iv b p f c w r n A l k).2) (YV b A l) l.length 0 []).2=e:=by
  have:=Aqk (λk=>W? w (Iv b p f c w r n A l k)) (λk=>(Iv b p f c w r n A l k).2) (YV b A l) (K:=K) (by rw[he];exact he0) l.length 0 [] F0 F0 (λi _ h=>hg i h);rw[this];exact he
 have hcl:(RT b p f c w r n A l).2.2.2.2=e:=by
  rw[RT,gR,hce,B2 he0];rfl
 rw[MF,k3,Aa];exact congrArg some hcl
theorem Ahz{t:Nat}(ht:t<4):Bw (Kt.take t)=(0,0):=by
 have hs:Dh (Kt.take t)=(0,6):=by
  have h3:(Kt.take t).take 3≠ [73,68,51]:=by
   rcases(show t=0\/t=1\/t=2\/t=3 by omega)with rfl|rfl|rfl|rfl<;>decide
  have h8:(Kt.take t).take 8≠yu:=by
   rcases(show t=0\/t=1\/t=2\/t=3 by omega)with rfl|rfl|rfl|rfl<;>decide
  have h1:Yl (Kt.take t)=(0,6):=by rw[Yl,B2 (by intro hh;exact h3 hh.2)]
  rw[Dh,h1,A_ F2,fa1 (by intro hh;exact h8 hh.2)]
 rw[Bw,G_,Cu,LG,hs];rfl
section
variable {c w r n:Nat} {x:LX} (h:ClipOk c w r n x) {p:LB} (hp:p.length<=64) (h4:x.length<=400)
include h hp h4
omit hp h4 h in
theorem Atw(t:Nat):Bw ((Ck c w r n x p).take t)=(0,0):=by
 have hM:(Ck c w r n x p).take 4=Kt:=by rw[Ck,AH];rfl
 by_cases h5:t<4
 ·have:(Ck c w r n x p).take t=Kt.take t:=by rw[<-hM,LD,I? F0]
  rw[this,Ahz h5]
 ·exact uK (by rw[LD,show min 4 t=4 by omega,hM])
end
theorem Bq6{p:Prop}(h:p:=by simp only[Aj,Dq,Ac,I',LJ,B7];omega):p:=h
theorem wQ{p:Prop}(h:p:=by simp[Aj,Ap,Ac];omega):p:=h
theorem wW{p:Prop}(h:p:=by simp[Ap,Ac];omega):p:=h
theorem U7(a b:Nat)(h:a*b<=9223372036854775807):Bm (a:Int) (b:Int)=((a*b:Nat):Int):=by
 rw[Ex K6 K6,<-JO]
theorem U6(a b:Nat)(h:a+b<=9223372036854775807):Ae (a:Int) (b:Int)=((a+b:Nat):Int):=by
 rw[Ah,<-lN]
theorem Bci{bits:Int}(h:¬Bn bits):Hs bits=some 0:=by
 have h8:¬bits=8:=λe=>h (.inl e);have h16:¬bits=16:=λe=>h (.inr (.inl e));have h24:¬bits=24:=λe=>h (.inr (.inr e));rw[Hs,A_ (by rw[As];simpa using h8),A_ (by rw[As];simpa using h16),A_ (by rw[As];simpa using h24)]
instance Bkp(bits:Int):Decidable (Bn bits):=by unfold Bn;infer_instance
def shS(c w:Int):Bool:=decide ((1<=c/\c<=6)/\Bn w)
theorem Bfd(c w:Int):Fl c w=some (if shS c w=true then 0 else 2):=by
 rw[Fl];by_cases hw:Bn w
 ·rw[ji hw,Aa];simp only;by_cases hc:1<=c/\c<=6
  ·rw[A_ X?,shS,K! ⟨hc,hw⟩,B2 rfl]
  ·rw[B2 X?,shS,E5 (λh=>hc h.1),A_ F2]
 ·rw[Avp hw,Aa];simp only;rw[B2 N3,shS,E5 (λh=>hw h.2),A_ F2]
theorem Bhb(c w:Int):Cv c w=some (if shS c w=true then 0 else 2):=by
 rw[Cv];by_cases hc:1<=c/\c<=6
 ·rw[A_ EE];by_cases hw:Bn w
  ·have:=(NK w).1;rw[ZU hw,Aa,A_ E6,shS,K! ⟨hc,hw⟩,B2 rfl]
  ·rw[Bci hw,Aa,B2 F2,shS,E5 (λh=>hw h.2),A_ F2]
 ·rw[B2 EE,shS,E5 (λh=>hc h.1),A_ F2]
def sO(r:Int):Bool:=decide (1<=r/\r<=1048576)
def X4(r:Int):Int:=if sO r=true then(Ak r.toNat:Int)else 0
theorem Bbl(r:Int):Li r=some (X4 r,if sO r=true then 0 else 2):=by
 by_cases h:1<=r/\r<=1048576
 ·obtain⟨R,rfl⟩:=FT (show 0<=r by omega);rw[lB F0 F0,X4,sO,K! h];rfl
 ·rw[Li,B2 EE,X4,sO,E5 h];rfl
theorem Apt(r:Int):Gg r=some (X4 r,if sO r=true then 0 else 2):=by
 by_cases h:1<=r/\r<=1048576
 ·obtain⟨R,rfl⟩:=FT (show 0<=r by omega);have e:Ca (Bm (R:Int) 256) 245=((R*256/245:Nat):Int):=by
   rw[Ex,show(R:Int)*256=((R*256:Nat):Int) by omega];exact Tv
  rw[Gg,A_ EE,e,X4,sO,K! h,B2 rfl,B2 rfl,Ak,show(R:Int).toNat=R from rfl,D9 256 R];by_cases h0:R*256/245=0
  ·rw[B2 E6];congr 2;omega
  ·rw[A_ E6];congr 2;omega
 ·rw[Gg,B2 EE,X4,sO,E5 h];rfl
def fdB(C w:Int)(c L:Nat)(rest:LB)(l:LX)(fr:List LB)(out:LB):Bool:=
 decide (out=[]/\rest.length<c*wB w/\l.length %c=0/\l.length/c<L/\fr.length<=1000/\Au w l=some 0/\fr.length+(if l=[]then 0 else 1)<=1000/\ (fr.length*L+l.length/c)*c<=4000/\
  ∀x∈fr,5<=x.length/\x.length<= (81*L*c+7)/8+4)
section
variable {w:Int} {c L:Nat} (hw:Bn w) (hc:1<=c/\c<=6) (hL:1<=L/\L<=1100000)
include hw hc hL
omit hw in
theorem Aqt:Ae (Ca (Ae (Bm (Bm 81 (L:Int)) (c:Int)) 7) 8) 4=(((81*L*c+7)/8+4:Nat):Int):=by
 have h1:81*L*c<=81*1100000*6:=HG F0 hc.2;rw[show(81:Int)=((81:Nat):Int)from rfl,U7 81 L F0,U7 (81*L) c F0,show(7:Int)=((7:Nat):Int)from rfl,U6 (81*L*c) 7 F0,show(8:Int)=((8:Nat):Int)from rfl,Tv,show(4:Int)=((4:Nat):Int)from rfl,U6 _ 4 F0]
omit hw in
theorem Apw(fr:List LB)(hf:fr.length<=2000):∀(j i q:Nat),i+j=fr.length->j<q->Fx fr (L:Int) (c:Int) q (i:Int)=some (decide (∀x∈fr.drop i,5<=x.length/\x.length<= (81*L*c+7)/8+4))
 |0,i,q+1,hi,_=>by
  rw[Fx,Mh,A_ F4,show i=fr.length by omega,L?];rfl
 |j+1,i,q+1,hi,hq=>by
  have hlt:i<fr.length:=F0
  have ih:=Apw fr hf j (i+1) q F0 F0;rw[Fx,Mh,B2 F4,Bq hlt,Aa,Wc,GY,Aqt hc hL,drop_cons hlt];generalize(81*L*c+7)/8+4=K at*
  by_cases h:5<=fr[i].length/\fr[i].length<=K
  ·rw[A_ mV,GJ,GN,Ah];refine ih.trans ?_;congr 1;rw[D0,B7,B7,List.forall_mem_cons];exact⟨λhh=>⟨h,hh⟩,λhh=>hh.2⟩
  ·rw[B2 mV,GZ,Anw,Aov,Aou];have e:Le (i:Int) 0=true:=by rw[Dq];simp
   rw[e,E5 (λhh=>h (hh _ I_))];rfl
omit hw in
theorem Ay8(C:Int)(fr:List LB)(hf:fr.length<=2000)(f2:Int)(o k:LB)(b:LX)(m:LB)(p:Bool)(u:Int):∀(j i q:Nat),i+j=fr.length->j<q->Gx (L:Int) (c:Int) C f2 o k b fr m p u q (i:Int)=some (decide (∀x∈fr.drop i,5<=x.length/\x.length<= (81*L*c+7)/8+4))
 |0,i,q+1,hi,_=>by
  rw[Gx,Oe,A_ F4,show i=fr.length by omega,L?];rfl
 |j+1,i,q+1,hi,hq=>by
  have hlt:i<fr.length:=F0
  have ih:=Ay8 C fr hf f2 o k b m p u j (i+1) q F0 F0;rw[Gx,Oe,B2 F4,Bq hlt,Aa,Aa,Aqt hc hL,drop_cons hlt];generalize(81*L*c+7)/8+4=K at*
  by_cases h5:5<=fr[i].length
  ·rw[A_ (by simp[Ad,Ac];omega)];by_cases h:fr[i].length<=K
   ·rw[A_ wW,Ah];refine ih.trans ?_;congr 1;rw[D0,B7,B7,List.forall_mem_cons];exact⟨λhh=>⟨⟨h5,h⟩,hh⟩,λhh=>hh.2⟩
   ·rw[B2 wW,E5 (λhh=>h (hh _ I_).2)]
  ·rw[B2 (by simp[Ad,Ac];omega),E5 (λhh=>h5 (hh _ I_).1)]
theorem Aty(R:Int)(p rest:LB)(l:LX)(fr:List LB)(out:LB)(u:Bool)(v:Int)(h1:l.length<=4000)(h2:fr.length<=2000):
  Uf (c:Int) w R p rest l fr out u v (L:Int)=some (fdB w w c L rest l fr out):=by
 have hok:Jb (Bd (c:Int) 0)=some ():=Br D2;have hgs:Ca (Ac l) (c:Int)=((l.length/c:Nat):Int):=by rw[Ac];exact Tv
 have him:Ge (Ac l) (c:Int)=((l.length %c:Nat):Int):=by rw[Ac];exact JJ _ _
 have hmo:Xj (c:Int) w=some ((c*wB w:Nat):Int):=by
  rw[Xj];obtain⟨W,rfl⟩:∃W:Nat,w=W:=by
   rcases hw with h|h|h<;>exact⟨_,h⟩
  rw[eZ hc.2 hw]
 rw[Uf,Yw];simp only[hok,hgs,him,hmo,Aa];by_cases c1:out=[]
 ·rw[A_ (by subst c1;decide)];by_cases c2:rest.length<c*wB w
  ·rw[A_ c!];by_cases c3:l.length %c=0
   ·rw[A_ (by rw[Aj,c3];decide)];by_cases c4:l.length/c<L/\fr.length<=1000
    ·rw[A_ (by simp[Dq,Ap,Ac];omega),Wf,Wk,UA hw l h1];obtain⟨e,he⟩:=L9 hw l h1;rw[he,Aa];by_cases c5:e=0
     ·subst c5;rw[A_ F2];have hlc:l.length/c<=4000:=PD (FU _ _) h1;have hGL:fr.length*L<=2000*1100000:=HG h2 hL.2;have Bom:(fr.length*L+l.length/c)*c<= (2000*1100000+4000)*6:=HG F0 hc.2;have key:∀M:Nat,M<=3000->Qe (L:Int) (c:Int) w R p rest l fr out u v (M:Int)=some (decide (M<=1000/\ (fr.length*L+l.length/c)*c<=4000/\∀x∈fr,5<=x.length/\x.length<= (81*L*c+7)/8+4)):=by
       intro M hM;rw[Qe,Qb,Vj,hok,Aa,Aa,Vf,Aa,hgs,Ac,U7 fr.length L F0,U6 _ _ F0,U7 _ c F0];by_cases c6:M<=1000/\ (fr.length*L+l.length/c)*c<=4000
       ·rw[A_ (by simp only[Qh,HE,Bool.and_eq_false_iff,KV];omega),Wr,Py,Wd];refine(Apw hc hL fr h2 fr.length 0 Ax F0 B_).trans ?_;rw[LG];congr 1;rw[D0,B7,B7];exact⟨λh=>⟨c6.1,c6.2,h⟩,λh=>h.2.2⟩
       ·rw[B2 (by simp only[Qh,HE,Bool.and_eq_false_iff,KV];omega),E5 (λh=>c6 ⟨h.1,h.2.1⟩)]
      have fin:∀M:Nat,M=fr.length+(if l=[]then 0 else 1)->some (decide (M<=1000/\ (fr.length*L+l.length/c)*c<=4000/\∀x∈fr,5<=x.length/\x.length<= (81*L*c+7)/8+4))=some (fdB w w c L rest l fr out):=by
       intro M hM;congr 1;rw[fdB,D0,B7,B7,hM];exact⟨λh=>⟨c1,c2,c3,c4.1,c4.2,he,h⟩,λh=>h.2.2.2.2.2.2⟩
      by_cases c0:l=[]
      ·rw[A_ (by subst c0;decide),Ac,key fr.length F0];exact fin _ (by rw[B2 c0];rfl)
      ·rw[B2 (by rw[gV];simpa using c0),Ac,Ah,show((fr.length:Int)+1)=((fr.length+1:Nat):Int) by omega,key (fr.length+1) F0];exact fin _ (by rw[A_ c0])
     ·rw[B2 (by rw[Aj];simpa using c5),fdB,E5 (λh=>c5 (by have:=h.2.2.2.2.2.1;rw[he]at this;exact G? this))]
    ·rw[B2 (by simp[Dq,Ap,Ac];omega),fdB,E5 (λh=>c4 ⟨h.2.2.2.1,h.2.2.2.2.1⟩)]
   ·rw[B2 D2,B2 B3,fdB,E5 (λh=>c3 h.2.2.1)]
  ·rw[B2 c!,B2 trivial,B2 B3,fdB,E5 (λh=>c2 h.2.1)]
 ·rw[B2 (by rw[gV];simpa using c1),B2 trivial,B2 trivial,B2 B3,fdB,E5 (λh=>c1 h.1)]
theorem Av0(R:Int)(hR:X4 R=L)(p rest:LB)(l:LX)(fr:List LB)(out:LB)(u:Bool)(v:Int)(h1:l.length<=4000)(h2:fr.length<=2000):
  Uk (c:Int) w R p rest l fr out u v=some (fdB w w c L rest l fr out):=by
 have hok:Jb (Bd (c:Int) 0)=some ():=Br D2;have hgs:Ca (Ac l) (c:Int)=((l.length/c:Nat):Int):=by rw[Ac];exact Tv
 have him:Ge (Ac l) (c:Int)=((l.length %c:Nat):Int):=by rw[Ac];exact JJ _ _
 have hmo:Fw (c:Int) w=some ((c*wB w:Nat):Int):=by
  rw[Fw];obtain⟨W,rfl⟩:∃W:Nat,w=W:=by
   rcases hw with h|h|h<;>exact⟨_,h⟩
  rw[eZ hc.2 hw]
 have hlg:Va (c:Int) w R p rest l fr out u v=some (L:Int):=by rw[Va,Apt,Aa,hR]
 have hLc:L*c<=1100000*6:=HG hL.2 hc.2;have hlm:Bm (L:Int) (c:Int)=((L*c:Nat):Int):=U7 L c F0;obtain⟨e,he⟩:=L9 hw l h1;rw[Uk,Xx];simp only[hlg,hok,him,hmo,hlm,he,Aa];by_cases c1:out=[]
 ·rw[A_ (by subst c1;decide)];by_cases c2:rest.length<c*wB w
  ·rw[A_ c!];by_cases c3:l.length %c=0/\l.length/c<L
   ·have c34:l.length<L*c:=(aG F0).1 c3.2;rw[A_ Bq6];by_cases c5:e=0/\fr.length<=1000
    ·obtain⟨c5,c4⟩:=c5;subst c5;rw[A_ wQ,Xa,Wy];have hlc:l.length/c<=4000:=PD (FU _ _) h1;have hGL:fr.length*L<=2000*1100000:=HG h2 hL.2;have key:∀M:Nat,M<=3000->Xo (L:Int) (c:Int) w R p rest l fr out u v (M:Int)=some (decide (M<=1000/\ (fr.length*L+l.length/c)*c<=4000/\∀x∈fr,5<=x.length/\x.length<= (81*L*c+7)/8+4)):=by
      intro M hM;have e4:Ca 4000 (c:Int)=((4000/c:Nat):Int):=Tv (a:=4000) F2;rw[Xo,Xi,KD,hok,Aa,hlg,Aa,Aa,hgs,Ac,U7 fr.length L F0,U6 _ _ F0,PT,hok,Aa,e4];have hdiv:(fr.length*L+l.length/c<=4000/c)↔(fr.length*L+l.length/c)*c<=4000:=Nat.le_div_iff_mul_le F0;by_cases c6:M<=1000
      ·rw[B2 nC,Aa];by_cases c7:(fr.length*L+l.length/c)*c<=4000
       ·have c8:=hdiv.2 c7;rw[A_ (by simp only[Qh,HE,KV];omega),Abo,Xt,Ab6];refine(Ay8 hc hL w fr h2 R p rest l out u v fr.length 0 Ax F0 B_).trans ?_;rw[LG];congr 1;rw[D0,B7,B7];exact⟨λh=>⟨c6,c7,h⟩,λh=>h.2.2⟩
       ·have c8:¬(fr.length*L+l.length/c<=4000/c):=λh=>c7 (hdiv.1 h);rw[B2 (by simp only[Qh,HE,KV];omega),E5 (λh=>c7 h.2.1)]
      ·rw[A_ nC,Aa,B2 F2,E5 (λh=>c6 h.1)]
     have fin:∀M:Nat,M=fr.length+(if l=[]then 0 else 1)->some (decide (M<=1000/\ (fr.length*L+l.length/c)*c<=4000/\∀x∈fr,5<=x.length/\x.length<= (81*L*c+7)/8+4))=some (fdB w w c L rest l fr out):=by
      intro M hM;congr 1;rw[fdB,D0,B7,B7,hM];exact⟨λh=>⟨c1,c2,c3.1,c3.2,c4,he,h⟩,λh=>h.2.2.2.2.2.2⟩
     by_cases c0:l=[]
     ·rw[A_ (by subst c0;decide),Ac,key fr.length F0];exact fin _ (by rw[B2 c0];rfl)
     ·rw[B2 (by rw[gV];simpa using c0),Ac,Ah,show((fr.length:Int)+1)=((fr.length+1:Nat):Int) by omega,key (fr.length+1) F0];exact fin _ (by rw[A_ c0])
    ·rw[B2 wQ,fdB,E5 (λh=>c5 ⟨by have:=h.2.2.2.2.2.1;rw[he]at this;exact G? this,h.2.2.2.2.1⟩)]
   ·have c34:l.length %c≠0\/L*c<=l.length:=by
     by_cases h0:l.length %c=0
     ·exact .inr (by have:=mt (aG (show 0<c by omega) (x:=l.length) (y:=L)).2 (λh=>c3 ⟨h0,h⟩);omega)
     ·exact .inl h0
    rw[B2 Bq6,B2 B3,fdB,E5 (λh=>c3 ⟨h.2.2.1,h.2.2.2.1⟩)]
  ·rw[B2 c!,B2 B3,B2 B3,fdB,E5 (λh=>c2 h.2.1)]
 ·rw[B2 (by rw[gV];simpa using c1),B2 trivial,B2 B3,B2 B3,fdB,E5 (λh=>c1 h.1)]
end
theorem empty_eq(b:LB)(f:LX)(g:List LB)(hb:b.length<=100000)(hf:f.length<=100000)(hg:g.length<=100000):geq (Ae (Ae (Ac b) (Ac f)) (Ac g)) 0=((geq (Ac b) 0&&geq (Ac f) 0)&&geq (Ac g) 0):=by
 rw[Ac,Ac,Ac,U6 _ _ F0,U6 _ _ F0];simp only[As];rw[D0];simp only[B8,D4];omega
theorem As8(m n o:Int)(p b:LB)(f:LX)(g:List LB)(h:LB)(k:Bool)(a:Int)(hb:b.length<=100000)(hf:f.length<=4000)(hg:g.length<=2000)(hh:h.length<=1000000):
  ∃E,Ij m n o p b f g h k a=some E/\Yn m n o p b f g h k a=some E:=by
 rw[Ij,AO,Bbl,Aa,Yn,JV,Apt,Aa];simp only;rw[Bfd,Bhb,Aa,Aa,Aa];simp only;by_cases hR:shS m n=true/\sO o=true/\p.length<=64
 ·obtain⟨h1,h2,h3⟩:=hR;have hp1:tZ (Ac p) 64=true:=by rw[Qh,Ac];simp;omega
  have hp2:Dz (Ac p) 64=false:=by rw[Ap,Ac];simp;omega
  have hx:(if((Bd (0:Int) 0||Bd (0:Int) 0)||false)=true then some (2:Int)else some 0)=some 0:=rfl;have hy:¬(Bd (0:Int) 0=true):=F2
  rw[B2 h1,B2 h2,hp1,hp2,A_ F2,hx,Aa,A_ hy];by_cases ha:Bd a 0=true
  ·rw[B2 ha,B2 ha,empty_eq b f g F0 F0 F0];generalize((geq (Ac b) 0&&geq (Ac f) 0)&&geq (Ac g) 0)=z;have e1:geq (Ac h) 0=decide (h=[]):=Q2 h;have e2:Dz (Ac h) 0=decide (h≠ []):=gV h;rw[e1,e2];by_cases hq:(((((geq a 18)||(geq a 24))&&(!k))&&z)&&decide (h=[]))=true
   ·rw[A_ (by rw[hq];decide),A_]
    ·exact⟨0,rfl,rfl⟩
    ·simp only[B8,I',HE,B7,As,Aj,LJ,D4]at hq⊢;simp[hq];omega
   ·rw[B2 (by rw[Bool.eq_false_iff.2 hq];rfl),B2]
    ·exact⟨8,rfl,rfl⟩
    ·simp only[B8,I',HE,B7,As,Aj,LJ,D4]at hq⊢;by_cases e3:h=[]
     ·by_cases e4:z=true
      ·by_cases e5:k=true
       ·exact .inl (.inl (.inr e5))
       ·exact .inl (.inl (.inl (by
         simp only[Bool.not_eq_true]at e5;simp[e3,e4,e5]at hq;omega)))
      ·exact .inl (.inr (by simpa using e4))
     ·exact .inr e3
  ·rw[A_ ha,A_ ha];cases k with
   |true=>
    rw[B2 rfl,B2 rfl,empty_eq b f g F0 F0 F0];generalize((geq (Ac b) 0&&geq (Ac f) 0)&&geq (Ac g) 0)=z;by_cases hq:(z&&tZ (Ac h) 100000)=true
    ·rw[A_ (by rw[hq];decide),A_]
     ·exact⟨0,rfl,rfl⟩
     ·simp only[B8,Qh,B7,Ac]at hq;simp[hq.1,Ap,Ac];omega
    ·rw[B2 (by rw[Bool.eq_false_iff.2 hq];rfl),B2]
     ·exact⟨8,rfl,rfl⟩
     ·cases z with
      |false=>rfl
      |true=>
       simp[Qh,Ac]at hq;simp[Ap,Ac];omega
   |false=>
    rw[A_ F2,A_ F2];have hs1:=h1;have hs2:=h2;rw[shS,B7]at hs1;rw[sO,B7]at hs2;obtain⟨C,rfl⟩:=FT (show 0<=m by omega);have hLo:X4 o=((Ak o.toNat:Nat):Int):=by rw[X4,B2 h2]
    have hL:1<=Ak o.toNat/\Ak o.toNat<=1100000:=⟨Du _,OR F0⟩;rw[hLo,Aty hs1.2 F0 hL o p b f g h false a hf hg,Av0 hs1.2 F0 hL o hLo p b f g h false a hf hg,Aa];generalize fdB n n C (Ak o.toNat) b f g h=B;cases B
    ·exact⟨8,rfl,rfl⟩
    ·exact⟨0,rfl,rfl⟩
 ·have h8:(((geq (if shS m n=true then(0:Int)else 2) 0&&geq (if sO o=true then(0:Int)else 2) 0)&&tZ (Ac p) 64))=false:=by
   rw[vJ];intro e;simp only[B8,Qh,B7,Ac]at e;refine hR ⟨?_,?_,F0⟩
   ·cases hq:shS m n with
    |true=>rfl
    |false=>rw[hq]at e;exact absurd e.1.1 F2
   ·cases hq:sO o with
    |true=>rfl
    |false=>rw[hq]at e;exact absurd e.1.2 F2
  rw[h8];refine⟨8,rfl,?_⟩;rw[B2,Aa,B2 F2]
  ·simp only[I',Ap,B7,Ac];cases hq:shS m n with
   |false=>exact .inl (.inl F2)
   |true=>
    cases hq2:sO o with
    |false=>exact .inl (.inr F2)
    |true=>exact .inr (by have:¬p.length<=64:=λh=>hR ⟨hq,hq2,h⟩;omega)
theorem Ao6(L s:Nat)(z:Int)(hs:s<=L)(hL:L<=100000):∃k:Nat,Fq (Aq (L:Int) (s:Int)) (pJ 0 z)=(k:Int)/\k<=L-s:=by
 refine⟨(min ((L-s:Nat):Int) (max 0 z)).toNat,?_,F0⟩;rw[Cb,CO,qd];omega
theorem Ax7{b:LB}{s k:Nat}(hk:k<=b.length-s)(hs:s<=b.length)(hb:b.length<=100000):Ae (s:Int) (k:Int)=((s+k:Nat):Int)/\Bp b (s:Int) ((s+k:Nat):Int)=some ((b.drop s).take k):=by
 refine⟨by rw[Ah];omega,?_⟩;rw[Sa,C2,C2,RH];congr 2;omega
section
variable {c w r n:Nat} {x:LX} (h:ClipOk c w r n x) {p:LB} (hp:p.length<=64)
include h hp
theorem xG{ps:LI}(hps:ps.length<=40):∀(j i s q:Nat),i+j=ps.length+1->j<q->s<= (Az (w:Int) x).length-> (i=ps.length+1->s=(Az (w:Int) x).length)->
  Gs (Az (w:Int) x) (Ck c w r n x p) ps q 0 (s:Int) (i:Int) (c:Int) (w:Int) (r:Int) p false 0 (RE c w ((Az (w:Int) x).take s)) (SE c w r ((Az (w:Int) x).take s)) (FE c w r p ((Az (w:Int) x).take s)) []=some true
 |j,i,s,0,_,h,_,_=>absurd h (HU _)
 |0,i,s,q+1,hi,_,hs,he=>by
  have hE:=h.enc hp;obtain⟨f1,f2,f3,f4⟩:=oN h hp;have hle:=h.le;have hle2:=nD h p;have hfin:=xB hE (Az (w:Int) x) (by rw[f1];exact f4);have hck:=jq hE (Az (w:Int) x) (by rw[f1];exact f4);have h1:=xk hE (Az (w:Int) x);have hsz:=kI hE;have hsl:=pO (r:=r) hE (Az (w:Int) x);have hfl:=H7 (c:=c) (w:=w) (r:=r) (p:=p) (Az (w:Int) x);have hmod:nE c w (Az (w:Int) x) %Ak r*c<=nE c w (Az (w:Int) x)*c:=C? _ (M2 _ _);have hk:kE c w r (Az (w:Int) x)<=nE c w (Az (w:Int) x):=FU _ _;have hx4:=h.le.2.2.2;have hXl:nE c w (Az (w:Int) x)*c<=4000:=by rw[f1];exact h.le.2.1
  have hkk:kE c w r (Az (w:Int) x)<=1001:=by
   rw[kE,f1];have h2:n/Ak r<= (n-1+Ak r)/Ak r:=WA (by have:=Du r;omega);rw[vI _ (Du r)]at h2;have:=h.fr;omega
  obtain⟨E,q1,q2⟩:=As8 (c:Int) (w:Int) (r:Int) p (RE c w (Az (w:Int) x)) (SE c w r (Az (w:Int) x)) (FE c w r p (Az (w:Int) x)) [] false 0 F0 F0 F0 B3;rw[hck]at q1;rw[f1,f2,f3,A_ (by have:=h.cnt.1;simp;omega)]at hfin;rw[show s=(Az (w:Int) x).length from he F0,FX,Gs,Qo,A_ (by rw[B8,Qh,Ac];simp;omega),Yf,Abw,A_ F2,q2,<-q1,Aa,A_ F2,Ace,Acf,f3,hfin,Aa];simp only;rw[xO hE F0,Aa];simp[As]
 |j+1,i,s,q+1,hi,hq,hs,he=>by
  have hE:=h.enc hp;obtain⟨f1,f2,f3,f4⟩:=oN h hp;have hbl:=Vu (w:Int) x;have hle:=h.le;have step:∀k:Nat,k<= (Az (w:Int) x).length-s-> (i=ps.length->k=(Az (w:Int) x).length-s)->Ql (Gs (Az (w:Int) x) (Ck c w r n x p) ps q) (Az (w:Int) x) (Ck c w r n x p) ps (s:Int) (i:Int) (c:Int) (w:Int) (r:Int) p false 0 (RE c w ((Az (w:Int) x).take s)) (SE c w r ((Az (w:Int) x).take s)) (FE c w r p ((Az (w:Int) x).take s)) [] (k:Int)=some true:=by
   intro k hk hlast;obtain⟨c1,c2⟩:=Ax7 (b:=Az (w:Int) x) hk hs F0;have hroom:∀t:Nat,CU c r (nE c w ((Az (w:Int) x).take t)):=λt=>by
    refine CU.mono f4 ?_;rw[<-f1];exact WA MC
   have hf:=Al3 hE ((Az (w:Int) x).take s) (((Az (w:Int) x).drop s).take k) wU (hroom s);rw[show(Az (w:Int) x).take s++((Az (w:Int) x).drop s).take k=(Az (w:Int) x).take (s+k) by rw[SD],VC,B2 (hroom _)]at hf;rw[Ql,Ady,c1,c2,Aa,hf,Aa];simp only;rw[Ah];exact xG hps j (i+1) (s+k) q F0 F0 F0 (λe=>by have:=hlast F0;omega)
  rw[Gs,Qo,B2 (by rw[B8,Qh,Ac];simp[As];omega)];by_cases hil:i<ps.length
  ·obtain⟨k,k1,k2⟩:=Ao6 (Az (w:Int) x).length s ps[i] hs F0;rw[B2 F4,Bq hil,Aa,Ac,k1];exact step k k2 (λe=>by omega)
  ·rw[A_ F4,Ac,Cb,show((Az (w:Int) x).length:Int)-(s:Int)=(((Az (w:Int) x).length-s:Nat):Int) by omega];exact step _ (C9 _) (λ_=>rfl)
theorem Ahy{ps:LI}(hps:ps.length<=40):We (c:Int) (w:Int) (r:Int) p (Az (w:Int) x) (Ck c w r n x p) ps=some true:=by
 have hl:=xG h hp hps (ps.length+1) 0 0 Ax F0 B_ (SJ _) (λe=>absurd e F0);rw[J']at hl;rw[We,Zr,Aq8 (h.enc hp),Aa];exact hl
end
theorem Ad0{o b:LB}(ho:o.length<=64)(hb:b.length<=12000){ps:LI}(hps:ps.length<=40){X:LB}{u:Bool}{v:Int}{p2:LB}{f2 c2 w2 r2 n2:Int}{g2:LI}{a2 e3 K:Int}
  (hB2:Bh o b p2 f2 c2 w2 r2 n2 g2 a2 X e3) (hfin:Cg o p2 f2 c2 w2 r2 n2 g2 a2 X false e3=some (o,[],0,0,0,0,0,[],0,X,u,v,K))
  (hst:∃k,Y3 u v k):∀(j i s q:Nat) (p:LB) (f c w r n:Int) (g:LI) (a:Int) (x:LB) (e:Int),Bh o (b.take s) p f c w r n g a x e->i+j=ps.length+1->j<q->s<=b.length-> (i=ps.length+1->s=b.length)->
  Gc b ps q (s:Int) (i:Int) o f c w r n a x false e p g=some (o,[],0,0,0,0,0,[],0,X,u,v,X)
 |j,i,s,0,p,f,c,w,r,n,g,a,x,e,_,_,h,_,_=>absurd h (HU _)
 |0,i,s,q+1,p,f,c,w,r,n,g,a,x,e,hB,hi,_,hs,he=>by
  rw[show s=b.length from he F0,FX]at hB;have h1:=hB.fd F0;have h2:=hB2.fd F0;rw[h1]at h2;simp only[B?,BS,N1]at h2;obtain⟨rfl,rfl,rfl,rfl,rfl,rfl,rfl,rfl,rfl,rfl, -⟩:=h2;obtain⟨k,hk⟩:=hst;have hx:=hB.gH.2.2;have hd:=Aiv (YF ho hx hk).1 B3 B3 hx 100000;rw[show min 100000 x.length=x.length by omega,FX,L?]at hd;rw[Gc,Pg,A_ (by rw[Qh,Ac];simp;omega),Vl,Ab9,hfin,Aa];simp only;rw[show(100000:Int)=((100000:Nat):Int)from rfl,hd,Aa]
 |j+1,i,s,q+1,p,f,c,w,r,n,g,a,x,e,hB,hi,hq,hs,he=>by
  have hsz:=hB.gH;have step:∀k:Nat,k<=b.length-s-> (i=ps.length->k=b.length-s)->Oc (Gc b ps q) b ps (s:Int) (i:Int) o f c w r n a x false e p g (k:Int)=some (o,[],0,0,0,0,0,[],0,X,u,v,X):=by
   intro k hk hlast;obtain⟨c1,c2⟩:=Ax7 hk hs F0;have htl:(b.take s).length<=b.length:=by rw[C8];omega
   obtain⟨p',f',c',w',r',n',g',a',x',e',d1,_,d3⟩:=hB.feed ho F0 ((b.drop s).take k) wU (by rw[B6,C8,C8,D3];omega);rw[show b.take s++(b.drop s).take k=b.take (s+k) by rw[SD]]at d3;rw[Oc,Ab7,c1,c2,Aa,d1,Aa];simp only;rw[Ah];exact Ad0 ho hb hps hB2 hfin hst j (i+1) (s+k) q p' f' c' w' r' n' g' a' x' e' d3 F0 F0 F0 (λe=>by have:=hlast F0;omega)
  rw[Gc,Pg,B2 (by rw[Qh,Ac];simp;omega)];by_cases hil:i<ps.length
  ·obtain⟨k,k1,k2⟩:=Ao6 b.length s ps[i] hs F0;rw[B2 F4,Bq hil,Aa,Ac,k1];exact step k k2 (λe=>by omega)
  ·rw[A_ F4,Ac,Cb,show(b.length:Int)-(s:Int)=((b.length-s:Nat):Int) by omega];exact step _ (C9 _) (λ_=>rfl)
structure DecAll (o b X:LB) (u:Bool) (v:Int):Prop where
 all:∃(p:LB) (f c w r n:Int) (g:LI) (a e K:Int),Bh o b p f c w r n g a X e/\Cg o p f c w r n g a X false e=some (o,[],0,0,0,0,0,[],0,X,u,v,K)
 stop:∃k,Y3 u v k
theorem DecAll.pieces{o b X:LB}{v:Int}(ho:o.length<=64)(hb:b.length<=12000)(h:DecAll o b X u v){ps:LI}(hps:ps.length<=40):Pa o b ps=some (o,[],0,0,0,0,0,[],0,X,u,v,X):=by
 obtain⟨p,f,c,w,r,n,g,a,e,K,hB,hf⟩:=h.all;have hl:=Ad0 ho hb hps hB hf h.stop (ps.length+1) 0 0 Ax [] 0 0 0 0 0 [] 0 [] 0 (by simpa using Bh.new ho) F0 B_ (SJ _) (λe=>absurd e F0);rw[Pa,Xb,Uw,A_ C3,Aa];exact hl
theorem DecAll.of{o b X:LB}{E:Int}(ho:o.length<=64)(hb:b.length<=12000)(tq:Ends o (Fd o b) X E):∃(u:Bool) (v:Int),DecAll o b X u v/\ ((E=0/\u=true/\v=0)\/ (E≠0/\u=false/\v=E)):=by
 obtain⟨p2,f2,c2,w2,r2,n2,g2,a2,e3,u,v,k1,k2,k3⟩:=Aln ho F0 tq;obtain⟨p',f',c',w',r',n',g',a',x',e',d1,_,d3⟩:=(Bh.new ho).feed ho B3 b F0 B5;rw[D8]at d3;rw[d1]at k1;simp only[B?,BS,N1]at k1;obtain⟨rfl,rfl,rfl,rfl,rfl,rfl,rfl,rfl,rfl,rfl, -⟩:=k1;have hsz:=d3.gH;obtain⟨u2,v2,k,q1,q2⟩:=d3.finish ho F0;rw[k2]at q1;simp only[B?,BS,N1]at q1;obtain⟨rfl,rfl,rfl⟩:=q1;refine⟨u,v,⟨⟨_,_,_,_,_,_,_,_,_,_,d3,k2⟩,?_⟩,?_⟩
 ·rcases q2 with⟨h1,h2,h3,h4,_⟩|⟨h1,h2,_⟩
  ·exact⟨E, .inl ⟨h1,h2,h3,h4⟩⟩
  ·exact⟨36, .inr ⟨h1,h2,rfl⟩⟩
 ·rcases q2 with⟨h1,h2,h3,_⟩|⟨h1,h2,h3⟩
  ·exact .inr ⟨F0,h1,h2⟩
  ·exact .inl ⟨h3,h1,h2⟩
section
variable {c w r n:Nat} {x:LX} (h:ClipOk c w r n x) {p:LB} (hp:p.length<=64) (h4:x.length<=200)
include h hp h4
theorem Aki(f:Int):Wb (c:Int) (w:Int) (r:Int) x p (Ck c w r n x p) (Az (w:Int) x) f=some true:=by
 have hsm:=TG h (p:=p) F0;have fo:=bI h hp;have o:=fo.Fm;have hs1:=o.some1;have hl5:=o.five;have hlen:=o.len;have hsum:=o.sum;have hle:=h.le;have hE:=h.enc hp;have hsz:=kI hE;have hbl:=Vu (w:Int) x;have ug:Ca (Ac x) (c:Int)=(n:Int):=by rw[Ac,h.len,Tv (by rw[<-h.len];omega),RB _ (by have:=h.ch;omega)]
 have hdA:=fo.XJ;have hAl:(Zp 0 p (Mz c w r n x p).length:Int)+(By (Mz c w r n x p)).sum<= (Ck c w r n x p).length:=by
  have:=Aeq hdA o.at' (Mz c w r n x p).length;rw[H3 (by rw[Gb];omega)]at this;exact this
 have hPl:=oM (c:=c) (r:=r) (n:=n) (x:=x);have hfl:=bD (c:=c) (w:=w) (r:=r) (n:=n) (x:=x) p;have hll:=Gb (Mz c w r n x p);have hnn:=rY (Mz c w r n x p);have Bkc:∀m∈Al (Ak r) n,1<=m:=Rb (Du r) h.cnt.1;have hfs:(Al (Ak r) n).sum=(n:Int):=h.sum;have hmo:Fw (c:Int) (w:Int)=some (kY c w:Int):=by rw[Fw,eZ h.ch.2 h.bits];rfl
 rw[Wb,Ys,o.prog,Aa];simp only;rw[Br (by rw[Aj];have:=h.ch;simp;omega),Aa,ug,eB h.rate.2 h.cnt.1 hle.1,Aa,A_ (by simp[Aj,Ad,Ac,hlen])];by_cases hf:(Cj f 0||Le f (Ac (Al (Ak r) n)))=true
 ·rw[B2 hf]
 rw[A_ hf];simp only[I',not_or,Ad,Dq,Ac,B7]at hf;obtain⟨K,rfl⟩:=FT (show 0<=f by omega);have hK:K<(Al (Ak r) n).length:=F0
 generalize hfg:Al (Ak r) n=fl at*
 generalize hlg:By (Mz c w r n x p)=l at*
 generalize hAg:Zp 0 p (Mz c w r n x p).length=A at*
 have iZ:∀z∈fl,0<=z:=λz hz=>by have:=Bkc z hz;omega
 have Bl3:∀i,(fl.take i).sum<=n:=λi=>by
  have h1:=Oj iZ i;have h2:(fl.take i).sum+(fl.drop i).sum=fl.sum:=by rw[<-RF,JY]
  have h3:0<= (fl.drop i).sum:=by
   have:=Oj (l:=fl.drop i) (λz hz=>iZ z (P1 hz)) (fl.drop i).length;rwa [FX]at this
  omega
 have uj:∀i,(l.take i).sum<=l.sum:=λi=>by
  have h2:(l.take i).sum+(l.drop i).sum=l.sum:=by rw[<-RF,JY]
  have h3:0<= (l.drop i).sum:=by
   have:=Oj (l:=l.drop i) (λz hz=>hnn z (P1 hz)) (l.drop i).length;rwa [FX]at this
  omega
 have hmul:∀a:Int,0<=a->a<=4000->0<=a*(kY c w:Int)/\a*(kY c w:Int)<=72000:=λa h0 h1=>by
  refine⟨Int.mul_nonneg h0 F0,?_⟩;have:=Int.mul_le_mul h1 (show(kY c w:Int)<=18 by omega) F0 F0;omega
 have loop:∀(v1 v2 v3 v4 v5 v6:Int) (j i q:Nat),i+j=K->j<q->Io p (Ck c w r n x p) (Az (w:Int) x) (K:Int) (c:Int) (w:Int) (r:Int) x v1 v2 v3 v4 v5 v6 fl l q ((A:Int)+(l.take i).sum) ((fl.take i).sum*(kY c w:Int)) (i:Int)=Qq p (Ck c w r n x p) (Az (w:Int) x) (K:Int) ((A:Int)+(l.take K).sum) ((fl.take K).sum*(kY c w:Int)):=by
  intro v1 v2 v3 v4 v5 v6 j
  induction j with
  |zero=>
   intro i q hi hq;obtain⟨q,rfl⟩:∃z,q=z+1:=⟨q-1,F0⟩;rw[show i=K by omega,Io,Qp,A_ J9]
  |succ j ih=>
   intro i q hi hq;obtain⟨q,rfl⟩:∃z,q=z+1:=⟨q-1,F0⟩;have hil:i<l.length:=F0
   have hif:i<fl.length:=F0
   have e1:=Fj hil;have e2:=Fj hif;have b1:=Oj hnn i;have b2:=Oj iZ i;have b3:=uj (i+1);have b4:=Bl3 (i+1);have b5:=hl5 _ (D5 hil);have b6:=Bkc _ (D5 hif);have b7:=hmul fl[i] F0 F0;have b8:=hmul (fl.take i).sum F0 F0;have ih:=ih (i+1) q F0 F0;rw[Io,Qp,B2 C1,Bq hil,Aa,Aa,Bq hif,Aa,Aa,hmo,Aa,
    show pJ 0 l[i]=l[i] by rw[qd];omega,Ah,Ex,Ah (a:=(fl.take i).sum*(kY c w:Int)) F0 F0,Ah,
    show(A:Int)+(l.take i).sum+l[i]=(A:Int)+(l.take (i+1)).sum by omega,<-Int.add_mul,<-e2]
   exact ih
 have hF:=Ar;have hl0:=loop (Ep p:Int) (c:Int) (w:Int) (r:Int) (n:Int) (A:Int) K 0 Ax F0 F0;rw[J',J',M7,X0,Int.zero_mul]at hl0;refine F? hl0 ?_;have b0:=Oj hnn K;have b1:=uj K;have hKl:K<l.length:=F0
 obtain⟨T,hT⟩:=FT (show 0<= (A:Int)+(l.take K).sum by omega);have e1:=Fj hKl;have b5:=hl5 _ (D5 hKl);have hcf:=Bgo h hp F0 (t:=T) (K:=K) (by rw[hAg];omega) F0 F0 (by rw[hAg,hlg];omega) (λ_=>by rw[hAg,hlg];omega);have hTl:((Ck c w r n x p).take T).length<=8000:=by rw[C8];omega
 have hfd:=((Bh.new hp).Bjn hp B3 ((Ck c w r n x p).take T) F0 (by rw[D8];omega) (by rw[D8];exact hcf)).1;have Bkd:=Aaa (c:=c) (r:=r) (n:=n) (x:=x) h K F0;rw[hfg]at Bkd;have hx2:x=((Yc c r n x).take K).flatten++((Yc c r n x).drop K).flatten:=by
  rw[<-NR,JY,Z0 h]
 have hraw:Az (w:Int) x=Az (w:Int) ((Yc c r n x).take K).flatten++Az (w:Int) ((Yc c r n x).drop K).flatten:=by
  conv=>lhs;rw[hx2]
  exact H4 _ _ _
 have hg:(fl.take K).sum*(kY c w:Int)=((Az (w:Int) ((Yc c r n x).take K).flatten).length:Int):=by
  have b2:=Oj iZ K;rw[KS h.bits,Bkd,kY,JO,JO,JO,Int.toNat_of_nonneg b2,Int.mul_assoc]
 have hbk:(Az (w:Int) ((Yc c r n x).take K).flatten).length<= (Az (w:Int) x).length:=by rw[hraw,B6];omega
 have hcg:∀i,i<(Mz c w r n x p).length->Iv (Ck c w r n x p) p (Ep p) c w r n A l i=(Az (w:Int) ((Yc c r n x).getD i []),0):=λi hi=>by
  have hin:((Zp 0 p (Mz c w r n x p).length:Nat):Int)+((By (Mz c w r n x p)).take (i+1)).sum<= ((Ck c w r n x p).length:Int):=by
   rw[hAg,hlg];have:=uj (i+1);omega
  have:=rP h hp (t:=(Ck c w r n x p).length) (by rw[hAg];omega) (C9 _) hi hin;rwa [FX,hAg,hlg]at this
 have hbe:YV (Ck c w r n x p) A l=0:=by
  have:=fo.beh;rw[hAg,hlg]at this;rw[this,xq]
 have Bke:VU (Ck c w r n x p) p (K:Int)=some (Az (w:Int) ((Yc c r n x).drop K).flatten,0):=by
  rw[Asw o,A_ F0,C2,hbe,yP _ _ _ _ (λi h1 h2=>by rw[hcg i F0]),D8];congr 2;have hcb:=qj w (Yc c r n x) (l.length-K) K F0;rw[H3 IC]at hcb;rw[<-hcb];have hcc:∀(j k:Nat),k+j<=l.length->Rm (λi=>(Iv (Ck c w r n x p) p (Ep p) c w r n A l i).1) j k=Rm (λi=>Az (w:Int) ((Yc c r n x).getD i [])) j k:=by
   intro j
   induction j with
   |zero=>intro k _;rfl
   |succ j ih=>intro k hk;rw[Rm,Rm,ih (k+1) F0,hcg k F0]
  exact hcc _ _ F0
 rw[Qq,Afh,hT,hg,A_ wW,Uw,A_ C3,Aa];simp only;rw[Cx,Aa,C2,hfd,Aa];simp only;rw[Afa,Acy,Bke,Aa];simp only;rw[B2 F2,Cx,Aa,C2,hraw,WK,B2 B3,Bu F0 KO,Aa,C2,M6];simp
end
end Go.Pl
