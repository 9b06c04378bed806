/- A part of a proof (see the text that ends in Proof). No conditions. -/
import Derived.Test.YtnckeeijjkphaaaGreatDoorVcWA
import Derived.KernelRfl
set_option linter.unusedVariables false
set_option linter.unusedSimpArgs false
namespace Go.Pl
open Go Go.Lv
def Js(bits:Int)(ch:Nat)(t x:List Int32):List UInt32:=evl bits ch t (mx ch x) x.length
def QM(bits:Int)(ch:Nat)(t x:List Int32):List UInt8:=Jh (Oc ch (Js bits ch t x) x.length)
def Ni(bits:Int)(ch:Nat)(t x:List Int32):List UInt8:=QM bits ch t x++On (Da (QM bits ch t x)).toNat 4
theorem tq(bits:Int)(ch:Nat)(t x:List Int32)(h0:1<=x.length)(h4:x.length<=4000):1<= (QM bits ch t x).length/\ (QM bits ch t x).length<=40501:=by
 have h:=eK ch (Js bits ch t x) x.length;obtain⟨k,hk⟩:∃k,x.length=k+1:=⟨x.length-1,by omega⟩;have h1:1<= (Oc ch (Js bits ch t x) x.length).length:=by
  rw[hk,Oc,Aby];have hn:=R7 ch ((Js bits ch t x).take k);have:=WE ((Js bits ch t x).getD k 0) hn.1 hn.2;omega
 rw[QM,Vn];omega
theorem zM(bits:Int)(ch:Nat)(t x:List Int32)(h0:1<=x.length)(h4:x.length<=4000):5<= (Ni bits ch t x).length/\ (Ni bits ch t x).length<=40505:=by
 have:=tq bits ch t x h0 h4;rw[Ni,Aby,Bn];omega
theorem Aho(bits:Int)(ch:Nat)(t x:List Int32)(h0:1<=x.length)(h4:x.length<=4000):Wb (Ni bits ch t x)=0/\ (Ni bits ch t x).take ((Ni bits ch t x).length-4)=QM bits ch t x:=by
 have h:=zM bits ch t x h0 h4;have hl:(Ni bits ch t x).length-4=(QM bits ch t x).length:=by rw[Ni,Aby,Bn];omega
 have h1:(Ni bits ch t x).take ((Ni bits ch t x).length-4)=QM bits ch t x:=by rw[hl,Ni,List.take_left]
 have h2:(Ni bits ch t x).drop ((Ni bits ch t x).length-4)=On (Da (QM bits ch t x)).toNat 4:=by rw[hl,Ni,Axy]
 have hlt:=(Da (QM bits ch t x)).toNat_lt;refine⟨?_,h1⟩;rw[Wb,Aba (by omega),Aba (by omega),h1,h2,Yc,Abk (by omega),Aba (by simp)]
theorem Adh{bits:Int}{ch n:Nat}{t x:List Int32}(hb:Cf bits)(ht:t.length=16)(h1:1<=ch)(h6:ch<=6)(n1:1<=n)(n2:n<=4000/ch)(hx:x.length=n*ch)(hr:inR bits x):
  Lm (ch:Int) bits t (n:Int) (Ni bits ch t x)=some (x,0)/\Dm (ch:Int) bits t (n:Int) (Ni bits ch t x)=some (x,0):=by
 have hn:n*ch<=4000:=by
  have:=Ab4 ch n2;have h2:=Axb 4000 ch;omega
 have hq4:=R5 h1 h6;have hx1:1<=x.length:=by rw[hx];exact Nat.mul_pos n1 h1
 have key:Dm (ch:Int) bits t (n:Int) (Ni bits ch t x)=some (x,0):=by
  generalize 4000/ch=mm at*
  have hh:=UM bits;have Aec:Dy (ch:Int) bits (n:Int)=some 0:=by
   rw[Dy,Cq,Aba (by simp[Af,Al];omega),WV hb,Aa,Aba (by rw[Bc];simp;omega),Aa,Aba (by simp[Ak,Af];omega),Be (by rw[Ak];simp;omega),Aa,hq4,Aba (by rw[Al];simp;omega)]
  have hlen:=zM bits ch t x hx1 (by omega);obtain⟨hs,htk⟩:=Aho bits ch t x hx1 (by omega);have hpl:=tq bits ch t x hx1 (by omega);have e4:Ah (Ac (Ni bits ch t x)) 4=(((Ni bits ch t x).length-4:Nat):Int):=by rw[Ac,Bg];omega
  have hVl:(Js bits ch t x).length=x.length:=kO _ _ _ _ _;have hEl:=Vn (Oc ch (Js bits ch t x) x.length);have hvb:=P7 ch (Js bits ch t x) (8*(QM bits ch t x).length) (by rw[hVl,QM,hEl];omega) (n*ch) 0 (by omega);rw[hVl]at hvb;have hread:=Afk (N:=8*(QM bits ch t x).length) (p:=QM bits ch t x) rfl (by omega) h1 h6 hn;have hvb':Vz ch (QM bits ch t x) (8*(QM bits ch t x).length) (n*ch) 0 []=(Js bits ch t x,(Oc ch (Js bits ch t x) x.length).length,0):=hvb;have hz:Bj (QM bits ch t x) (Oc ch (Js bits ch t x) x.length).length (8*(QM bits ch t x).length-(Oc ch (Js bits ch t x) x.length).length)=0:=by
   apply sG;intro k _;rw[QM,Zt,Y2 (by omega)]
  have Bbk:¬7<8*(QM bits ch t x).length-(Oc ch (Js bits ch t x) x.length).length:=by rw[QM,hEl];omega
  rw[hvb']at hread;simp only at hread;rw[Aba (by decide),Aba (by rw[hz];simp;omega)]at hread;have hm:(Js bits ch t x).length %ch=0:=by rw[hVl,hx];exact Axv n ch
  have Aw4:=O9 (v:=Js bits ch t x) hb ht h1 h6 (by omega) hm;have hsm:rK bits ch t (Js bits ch t x)=mx ch x:=by
   have:=Aos bits ch t (mx ch x);rw[OW]at this;exact this
  rw[hsm,Auh h1 (by rw[hx];exact Axv n ch)]at Aw4;rw[Dm,Rs,Aec,Aa,Aba (by rw[Ak];simp),yN,Aa,hs,Aba (by decide),e4,If,Aa,Aiq,htk,hread,Aa];simp only;rw[Ky,Lc,Aba (by decide),Aw4,Aa,Pa,P2 hb (by omega) hr,Aa,Aba (by decide)];rfl
 obtain⟨l,e,d1,d2,_,_⟩:=uO (Ni bits ch t x) hb ht h1 h6 n1 n2;rw[key]at d2;cases d2;exact⟨d1,key⟩
theorem Aap(p:List UInt8)(b0:UInt64)(a0:Int):∀(j m q:Nat),m+j<=300000->j<=64->j<q->
  Nj b0 a0 q (Ms p m j) (j:Int) (m:Int) (Nh p 0 m)=some (Nh p 0 (m+j),((m+j:Nat):Int),0)
 |0,m,q+1,_,_,_=>by
  rw[Nj,NM,Aba (by rw[Al];simp),YY,oH];rfl
 |j+1,m,q+1,hm,hj,hq=>by
  have hroom:Nj b0 a0 (q+1) (Ms p m (j+1)) ((j+1:Nat):Int) (m:Int) (Nh p 0 m)=NL (Nj b0 a0 q) b0 a0 (Ms p m (j+1)) ((j+1:Nat):Int) (m:Int) (room p 0 m):=by
   rw[Nj,NM,Abb (by rw[Al];simp),uY m (by omega),room];by_cases h0:m %8=0
   ·rw[Abb (by rw[Bc,h0];rfl),Cx (by rw[Hh];simp;omega),Aa,Abb h0]
   ·rw[Aba (by rw[Bc];simp;omega),Aba h0]
  have hl:Ah (Ac (room p 0 m)) 1=((m/8:Nat):Int):=by
   rw[Ac,Lz,Bg];omega
  have e2:Du ((j+1:Nat):Int) (Ah (8:Int) ((m %8:Nat):Int))=((min (j+1) (8-m %8):Nat):Int):=by
   rw[GB,Bg];omega
  rw[hroom,NL,aH,uY m (by omega),e2,hl];generalize hT:min (j+1) (8-m %8)=T;have hT1:1<=T:=by omega
  have hT8:m %8+T<=8:=by omega
  have hg:Aj (room p 0 m) ((m/8:Nat):Int)=some (UInt8.ofNat (Bj p (0+8*(m/8)) (m %8))):=by
   rw[Ck (by rw[Lz];omega),kA]
  have z1:(GI.toZ ((m %8:Nat):Int)).toNat=m %8:=rfl;have z2:(GI.toZ ((T:Nat):Int)).toNat=T:=rfl;have hlt:=rJ p (0+8*(m/8)) (m %8+T) (by omega);have hadd:=JF p (m %8) T (0+8*(m/8));rw[show 0+8*(m/8)+m %8=m by omega]at hadd;have hbyte:(Ad (Di (Ms p m (j+1)) (Ah (Cw (1:UInt64) T) (1:UInt64))):UInt8)=UInt8.ofNat (Bj p m T):=by
   rw[RH,Av9 _ (by omega),Aa5 p m (j+1) T (by omega) hj]
  have hnew:sY (UInt8.ofNat (Bj p (0+8*(m/8)) (m %8))) (Cw (UInt8.ofNat (Bj p m T)) (m %8))=UInt8.ofNat (Bj p (0+8*(m/8)) (m %8+T)):=by
   rw[or8 (Mo _ _ _) (by rw[Aoi];omega) (by omega),hadd,Aoi (2^(m %8))]
  rw[hg,z1,z2,hbyte];simp only[Aa];rw[Be (by rw[Dc];simp),Aa,Be (by rw[Dc];simp;omega),Aa,hnew,Rg _ (by rw[Lz];omega),Aa,qV p 0 m T hT1 hT8,bJ,qD,uY m (by omega),e2,hT,Be (by rw[Dc];simp),Aa,z2,yg p m (j+1) T (by omega) hj,Bg,Ag];have ih:=Aap p b0 a0 (j+1-T) (m+T) q (by omega) (by omega) (by omega);rw[show m+T+(j+1-T)=m+(j+1) by omega]at ih;rw[<-ih,show((j+1:Nat):Int)-((T:Nat):Int)=((j+1-T:Nat):Int) by omega,show(m:Int)+((T:Nat):Int)=((m+T:Nat):Int) by omega]
theorem put_eq(p:List UInt8)(m j:Nat)(hm:m+j<=300000)(hj:j<=63):QY (Nh p 0 m) (m:Int) (Ms p m j) (j:Int)=some (Nh p 0 (m+j),((m+j:Nat):Int),0):=by
 have hz:Bm (Bt (Ms p m j) (GI.toZ (j:Int)).toNat) 0=false:=by
  have:Bt (Ms p m j) j=0:=by
   apply UInt64.toNat_inj.1;rw[ED,Vh p m j (by omega),Aw1 (Mo p j m)];rfl
  rw[show(GI.toZ (j:Int)).toNat=j from rfl,this];rfl
 have hl:=Hh p 0 m;have htw:WX (Nh p 0 m) (m:Int)=some (Nh p 0 m,(m:Int)):=by
  rw[WX,Eb,Cx (by simp;omega),Aa,Aa];rfl
 rw[QY,eU,Vs (oX p 0 m (by omega)),Aa,Aba (by decide),Aba (by simp[Af,Al];omega),Abb (by rw[Af];simp;omega),Be (by rw[Dc];simp),Aa,hz,Aba (by decide),Ag,Aba (by rw[Al];simp;omega),htw,Aa];exact Aap p _ _ j m Ar hm (by omega) (by have:=Am;omega)
theorem At.cat{p:List UInt8}{a:Nat}{c d:List Bool}(h:At p a (c++d)):At p a c/\At p (a+c.length) d:=⟨h.left,h.right⟩
theorem Aay(p:List UInt8):∀(q a:Nat),At p a (List.replicate q true)->Bj p a q+1=2^q
 |0,a,_=>by rw[Bj]
 |q+1,a,h=>by
  rw[Avq]at h;obtain⟨h0,h1⟩:=h.cons;have:=Aay p q (a+1) h1;rw[Bj,h0,Atw,Abb rfl];omega
theorem rR{x:UInt64}{p:List UInt8}{m n:Nat}(hn:n<=63)(h:x.toNat=Bj p m n):x=Ms p m n:=by
 apply UInt64.toNat_inj.1;rw[h,Vh p m n (by omega)]
theorem TE{n:Nat}(h:n<2^64):(UInt64.ofNat n).toNat=n:=by rw[Ajt];exact Abk h
theorem K9{p:List UInt8}{m q:Nat}(hq:q<=48)(hm:m+48<=300000)(h:At p m (List.replicate q true++(if q=48 then []else [false]))):
  TP (Nh p 0 m) (m:Int) (q:Int)=some (Nh p 0 (m+min (q+1) 48),((m+min (q+1) 48:Nat):Int),0):=by
 have h1:=h.left;have hv:=Aay p q m h1;have Bbm:2^q<=2^48:=Aeb (by omega) hq;have hval:Bj p m (min (q+1) 48)+1=2^q:=by
  by_cases h48:q=48
  ·subst h48;exact hv
  ·rw[Aba h48]at h;have h2:=h.right;rw[Ash]at h2;have h0:=h2.cons.1;rw[show min (q+1) 48=q+1 by omega,jU,h0];simpa using hv
 have hx:(Ah (Cw (1:UInt64) q) (1:UInt64)).toNat=Bj p m (min (q+1) 48):=by
  have e1:(Cw (1:UInt64) q).toNat=2^q:=by rw[SB];show 1*2^q %_=_;rw[Nat.one_mul];exact Abk (by omega)
  have hpos:0<2^q:=Axe (by omega);rw[qY,UInt64.toNat_sub_of_le _ _ (by rw[UInt64.le_iff_toNat_le,e1];exact hpos),e1]
  show 2^q-1=_;omega
 rw[TP,Vs (oX p 0 m (by omega)),Aa,Aba (by decide),aU,Aba (by simp[Af,Al];omega),Aa];simp only;have e2:Du (Ae (q:Int) 1) 48=((min (q+1) 48:Nat):Int):=by rw[GB,Ag];omega
 rw[Aba (by decide),Be (by rw[Dc];simp),Aa,e2,show(GI.toZ (q:Int)).toNat=q from rfl,rR (by omega) hx,put_eq p m _ (by omega) (by omega),Aa]
theorem Alk{p:List UInt8}{m l:Nat}{v:UInt32}(hl:l<=24)(hm:m+81<=300000)(h:At p m (PC l v.toNat)):
  ZU (Nh p 0 m) (m:Int) v (l:Int)=some (Nh p 0 (m+(PC l v.toNat).length),((m+(PC l v.toNat).length:Nat):Int),0):=by
 have hvl:=v.toNat_lt;have hz:(GI.toZ (l:Int)).toNat=l:=rfl;have hlp:2^l<=2^24:=Aeb (by omega) hl;have hpos:0<2^l:=Axe (by omega);have Ayw:Vy v (l:Int)=some (decide (48<=v.toNat/2^l)):=by
  rw[Vy,Be (by rw[Dc];simp),Aa,hz,Ae2,IJ];rfl
 rw[ZU,UG,Vs (oX p 0 m (by omega)),Aa,Aba (by decide),Aba (by simp[Af,Al];omega),Be (by rw[Dc];simp),Aa,Aa,Ayw,Aa];rw[PC]at h⊢;by_cases h48:48<=v.toNat/2^l
 ·rw[Abb h48]at h⊢;obtain⟨h1,h2⟩:=h.cat;rw[Ash]at h2;have hval:=GG p 32 (m+48) v.toNat h2;rw[Abk (by omega)]at hval;have hu:=K9 (p:=p) (m:=m) (q:=48) (Aj0 _) (by omega) (by rw[Abb rfl,Aun];exact h1);rw[Abb (by simpa using h48),HW,VQ,show(48:Int)=((48:Nat):Int)from rfl,hu,Aa];simp only;rw[Aba (by decide),Cn,rR (x:=UInt64.ofNat v.toNat) (p:=p) (m:=m+48) (n:=32) (by omega) (by rw[TE (by omega),hval]),show(32:Int)=((32:Nat):Int)from rfl,show m+min (48+1) 48=m+48 by omega,put_eq p (m+48) 32 (by omega) (by omega),Aa,Aby,Ash,Pd,Auz]
 ·rw[Aba h48]at h⊢;generalize hq:v.toNat/2^l=q at*
  obtain⟨h1,h2⟩:=h.cat;rw[Ash]at h2;obtain⟨h3,h4⟩:=h2.cons;have hval:=GG p l (m+q+1) (v.toNat %2^l) h4;rw[Nat.mod_mod]at hval;have hqa:At p m (List.replicate q true++[false]):=by
   have:List.replicate q true++(false::bV (v.toNat %2^l) l)=(List.replicate q true++[false])++bV (v.toNat %2^l) l:=by simp
   rw[this]at h;exact h.left
  have hu:=K9 (p:=p) (m:=m) (q:=q) (by omega) (by omega) (by rw[Aba (by omega)];exact hqa);have hgq:(Ad (Bt v l):Int)=(q:Int):=by rw[wS,IJ,hq]
  have hrest:(Ad (Di v (Ah (Cw (1:UInt32) l) 1)):UInt64)=Ms p (m+q+1) l:=by
   apply rR (by omega);have e1:(Cw (1:UInt32) l).toNat=2^l:=by rw[dX];show 1*2^l %_=_;rw[Nat.one_mul];exact Abk (by omega)
   have e2:(Ah (Cw (1:UInt32) l) (1:UInt32)).toNat=2^l-1:=by
    rw[xY,UInt32.toNat_sub_of_le _ _ (by rw[UInt32.le_iff_toNat_le,e1];exact hpos),e1];rfl
   have e3:(Di v (Ah (Cw (1:UInt32) l) 1)).toNat=v.toNat %2^l:=by
    rw[zA,UInt32.toNat_and,e2,Awr]
   rw[Cn,TE (by rw[e3];have:=Aw3 v.toNat hpos;omega),e3,hval]
  rw[Aba (by simpa using h48),HW,VQ,hz,hgq,hu,Aa];simp only;rw[Aba (by decide),hrest,show m+min (q+1) 48=m+q+1 by omega,put_eq p (m+q+1) l (by omega) (by omega),Aa,Aby,Ash,Aj1,Pd,show m+q+1+l=m+(q+(l+1)) by omega]
theorem Ank{k l:Nat}{s t:UInt64}(h:okD k l s t)(v:UInt32):ZI [] 0 (k:Int) (l:Int) s t v=
  some (Jh (Ok k l v),((Ok k l v).length:Int),((kS k (Tz s (vY v)):Nat):Int),((lK l t k v:Nat):Int),Tz s (vY v),lT t k v,0):=by
 obtain⟨h1,h2,h3,h4⟩:=h;have hvl:=v.toNat_lt;have hAt:At (Jh (Ok k l v)) 0 (Ok k l v):=λi hi=>by rw[Au1,Zt]
 have hlen:=WE v h1 h2;have hfull:Nh (Jh (Ok k l v)) 0 (Ok k l v).length=Jh (Ok k l v):=by
  apply oo (by rw[Hh,Vn]);intro i hi;rw[oK,Au1,Zt];by_cases hlt:i<(Ok k l v).length
  ·rw[Abb hlt]
  ·rw[Aba hlt,Y2 (by omega)]
 generalize hP:Jh (Ok k l v)=P at*
 have h0:Nh P 0 0=[]:=rfl;have Aw5:∀(x:Int) (y:UInt64) (aj ai:Int),Xi v (k:Int) s ai P x y=some (P,ai,((kS k (Tz s (vY v)):Nat):Int),x,Tz s (vY v),y,0):=by
  intro x y aj ai;rw[Xi,UH,Cn,WC,Agq k h1];rw[VK,VC,RW,EJ,Cn,WC];rfl
 have hp7:∀ai:Int,HV v (k:Int) (l:Int) s t 0 ai P=some (P,ai,((kS k (Tz s (vY v)):Nat):Int),((lK l t k v:Nat):Int),Tz s (vY v),lT t k v,0):=by
  intro ai;rw[HV,UD,Aba (by decide),yU k l s t h1,Aa];by_cases hv:v.toNat<2^k
  ·rw[Abb hv];simp only;rw[Aba (by rw[Bc];simp),Aw5 _ _ 0,lK,Abb hv,lT,Abb hv]
  ·rw[Aba hv];simp only;rw[Abb (by rw[Bc];rfl),Cn,WC,Agq l h2 _ (λx=>Xi v (k:Int) s ai P x (Tz t (UInt64.ofNat (cE k v).toNat))),Aw5 _ _ 0,lK,Aba hv,lT,Aba hv];rfl
 rw[ZI,VT,show Hr [] 0=some 0 from rfl,Aa,Aba (by decide),Akd ⟨h1,h2,h3,h4⟩,Aa,Aba (by decide),UK,VM,yU k l s t h1,Aa];have hput:=put_eq P 0 1 (by omega) (by omega);rw[h0,Au1,show((0:Nat):Int)=0 from rfl,show((1:Nat):Int)=1 from rfl]at hput;by_cases hv:v.toNat<2^k
 ·have hc:Ok k l v=false::bV v.toNat k:=by rw[Ok,Abb hv]
  rw[hc]at hAt hfull;obtain⟨b0,b1⟩:=hAt.cons;have hval:=GG P k 1 v.toNat b1;rw[Abk hv]at hval;have hz:(Ad (0:Int):UInt64)=Ms P 0 1:=rR (by omega) (by rw[pR,b0];rfl);rw[Abb hv];simp only;rw[hz,hput,Aa];simp only;rw[Abb (by decide),Cn,rR (x:=UInt64.ofNat v.toNat) (p:=P) (m:=1) (n:=k) (by omega) (by rw[TE (by omega),hval]),show(1:Int)=((1:Nat):Int)from rfl,put_eq P 1 k (by omega) (by omega),Aa];simp only;rw[Aj1,Pd,Ay9 k 1]at hfull;rw[hfull,hp7,hc,Aj1,Pd,Ay9 k 1]
 ·have hc:Ok k l v=true::PC l (v.toNat-2^k):=by rw[Ok,Aba hv]
  rw[hc]at hAt hfull;obtain⟨b0,b1⟩:=hAt.cons;have hsub:=Nat.sub_le v.toNat (2^k);have hlv:(cE k v).toNat=v.toNat-2^k:=by rw[cE,SZ (by omega)]
  have hz:(Ad (1:Int):UInt64)=Ms P 0 1:=rR (by omega) (by rw[pR,b0];rfl);have hr:=Alk (p:=P) (m:=1) (l:=l) (v:=cE k v) h2 (by omega) (by rw[hlv];exact b1);rw[hlv,show((1:Nat):Int)=1 from rfl]at hr;rw[Aba hv];simp only;rw[hz,hput,Aa];simp only;rw[Aba (by decide),Abb (by decide),hr,Aa];simp only;rw[Aj1,Ay9 _ 1]at hfull;rw[hfull,hp7,hc,Aj1,Ay9 _ 1]
section
variable (ch:Nat) (x:List Int32)
theorem SX{at' i:Nat}(ha:at' %ch=0)(hi:i<ch)(h:at'+i<x.length):(mx ch x).getD (at'+i) 0=mxV (λi=>x.getD (at'+i) 0) ch i:=by
 have hb:(at'+i) %ch=i:=by rw[Nat.add_mod,ha,Au1,Nat.mod_mod,Abk hi]
 rw[Ak6 h,hb,show at'+i-i=at' by omega]
theorem Aau(bk:Int->List Int32->Option (List Int32×Int))(at':Nat)(h1:1<=ch)(h6:ch<=6)(hm:at' %ch=0)(hl:at'+ch<=x.length)(hl2:x.length<=4000):∀(j i q:Nat),i+j=ch-1->j<q->
  AJ bk (ch:Int) (at':Int) q (i:Int) (ZJ (λk=>decide (k<at'+i)) (mx ch x) x)=bk ((at'+ch:Nat):Int) (ZJ (λk=>decide (k<at'+ch)) (mx ch x) x)
 |j,i,0,_,h=>absurd h (Ax3 _)
 |0,i,q+1,hi,_=>by
  have hlen:=OW ch x;have e1:Ah (Ae (at':Int) (ch:Int)-(at':Int)) 1=((ch-1:Nat):Int):=by rw[Ag,Bg];omega
  have e2:Ae (at':Int) (ch:Int)-(at':Int)=(ch:Int):=by rw[Ag];omega
  have e4:Ae (at':Int) (ch:Int)=((at'+ch:Nat):Int):=by rw[Ag];omega
  rw[AJ,SO,e1,Aba (by rw[Af];simp;omega),eB,jF,e1,e2];obtain rfl:i=ch-1:=by omega
  by_cases h2:1<ch
  ·have e3:Ah ((ch-1:Nat):Int) 1=((ch-2:Nat):Int):=by rw[Bg];omega
   have hv:Ah (x.getD (at'+(ch-1)) 0) (Bz ((mx ch x).getD (at'+(ch-2)) 0) 2)=(mx ch x).getD (at'+(ch-1)) 0:=by
    rw[SX ch x hm (by omega) (by omega),SX ch x hm (by omega) (by omega),mxV,mxV,Abb (by omega),Aba (by omega),Abb h2,PU,show ch-2+1=ch-1 by omega]
   rw[Abb (by rw[Al];simp;omega),lU (by omega),Aa,e3,lU (by omega),Aa,
    show(at':Int)+((ch-1:Nat):Int)=((at'+(ch-1):Nat):Int) by omega,show(at':Int)+((ch-2:Nat):Int)=((at'+(ch-2):Nat):Int) by omega,
    Ye (by omega),Aa,Ye (by omega),Aa,Aa,Aba (by simp),Abb (by simp;omega),hv,aY (by omega),Aa,TN,eP,e4]
   congr 1;apply Sc;intro k _;rw[An0];simp;omega
  ·obtain rfl:ch=1:=by omega
   have hlast:x.getD at' 0=(mx 1 x).getD at' 0:=by
    have:=SX 1 x (i:=0) hm (by omega) (by omega);rw[Aw6]at this;rw[this,mxV,Aba (by omega),Aba (by omega)];rfl
   rw[Aba (by rw[Al];simp),TN,eP,e4];congr 1;apply Au5 (by rw[HX,HX]);intro k g1 g2;rw[Qj,Qj];by_cases hk:k<at'
   ·rw[Abb (by simp;omega),Abb (by simp;omega)]
   ·by_cases hk2:k=at'
    ·subst hk2;rw[Aba (by simp),Abb (by simp)];exact hlast
    ·rw[Aba (by simp;omega),Aba (by simp;omega)]
 |j+1,i,q+1,hi,hq=>by
  have hlen:=OW ch x;have e1:Ah (Ae (at':Int) (ch:Int)-(at':Int)) 1=((ch-1:Nat):Int):=by rw[Ag,Bg];omega
  have e2:Ae (at':Int) (ch:Int)-(at':Int)=(ch:Int):=by rw[Ag];omega
  have e3:Ae (i:Int) 1=((i+1:Nat):Int):=by rw[Ag];omega
  have hv:Ah (x.getD (at'+(i+1)) 0) (x.getD (at'+i) 0)=(mx ch x).getD (at'+i) 0:=by
   rw[SX ch x hm (by omega) (by omega),mxV,Abb (by omega),PU]
  rw[AJ,SO,e1,Abb (by rw[Af];simp;omega),e2,e3,lU (by omega),Aa,lU (by omega),Aa,
   show(at':Int)+((i+1:Nat):Int)=((at'+(i+1):Nat):Int) by omega,show(at':Int)+(i:Int)=((at'+i:Nat):Int) by omega,
   Ye (by omega),Aa,Ye (by omega),Aa,Aa,Aba (by simp),Aba (by simp),hv,aY (by omega),Aa]
  have ih:=Aau bk at' h1 h6 hm hl hl2 j (i+1) q (by omega) (by omega);rw[<-ih];congr 1;apply Sc;intro k _;rw[An0];simp;omega
theorem uA(h1:1<=ch)(h6:ch<=6)(hm:x.length %ch=0)(hl2:x.length<=4000):∀(j at' q:Nat),at' %ch=0->at'<=x.length->x.length-at'<=j->j<q->
  AM (ch:Int) q (at':Int) (ZJ (λk=>decide (k<at')) (mx ch x) x)=some (mx ch x,0)
 |j,at',0,_,_,_,h=>absurd h (Ax3 _)
 |j,at',q+1,ha,hle,hj,hq=>by
  have hlen:=OW ch x;have hl:Ac (ZJ (λk=>decide (k<at')) (mx ch x) x)=(x.length:Int):=by rw[Ac,HX,hlen]
  rw[AM,eN,hl];by_cases h:at'<x.length
  ·have hb:=qE ha hm h;obtain⟨j,rfl⟩:∃k,j=k+1:=⟨j-1,by omega⟩;have e4:Ae (at':Int) (ch:Int)=((at'+ch:Nat):Int):=by rw[Ag];omega
   have hi:=Aau ch x (AM (ch:Int) q) at' h1 h6 ha hb hl2 (ch-1) 0 Ar (by omega) (by have:=Am;omega);have hrest:=uA h1 h6 hm hl2 j (at'+ch) q (by rw[Azl,ha]) hb (by omega) (by omega);rw[Aw6]at hi;rw[Abb (by rw[Af];simp;omega),show cG (x.length:Int) (at':Int) (Ae (at':Int) (ch:Int))=some () by rw[e4,cG,lU];omega,Aa];exact Awn hi hrest
  ·rw[Aba (by rw[Af];simp;omega),kJ (λk hk=>by simp;omega)];rfl
theorem Ajf(h1:1<=ch)(h6:ch<=6)(hm:x.length %ch=0)(hl2:x.length<=4000):wO (ch:Int) x=some (mx ch x,0):=by
 have hlen:=OW ch x;have h:=uA ch x h1 h6 hm hl2 x.length 0 Ar (by simp) (by omega) (by omega) (by have:=Am;omega);rw[wO,nG,su ch x h1 h6 hm hl2,Aa,Aba (by rw[Ak];simp),Dd,Cx (by simp;omega),Aa,Aa,Avj,eH];rw[eF hlen.symm (λk _=>by simp)]at h;exact h
end
theorem Al4(a:Int32):jV a=some (iJ a):=by
 have h:=Wx a;have hc:(Ad a:UInt32)=UInt32.ofNat (a.toInt %4294967296).toNat:=rfl;have hs:(Bt a (GI.toZ (31:UInt64)).toNat)=if 0<=a.toInt then(0:Int32)else -1:=by
  have e:Bt a 31=Int32.ofInt (a.toInt.fdiv (2^31)):=rfl;rw[show(GI.toZ (31:UInt64)).toNat=31 from rfl,e];by_cases h0:0<=a.toInt
  ·rw[Abb h0,show a.toInt.fdiv (2^31)=0 by rw[Asr _ (by decide)];omega];rfl
  ·rw[Aba h0,show a.toInt.fdiv (2^31)= -1 by rw[Asr _ (by decide)];omega];rfl
 rw[jV,hs,hc,iJ];congr 1;have hsh:(Cw (UInt32.ofNat (a.toInt %4294967296).toNat) (GI.toZ (1:UInt64)).toNat).toNat=2*(a.toInt %4294967296).toNat %4294967296:=by
  rw[show(GI.toZ (1:UInt64)).toNat=1 from rfl,dX,Ajz,Abk (show(a.toInt %4294967296).toNat<2^32 by omega)];omega
 by_cases h0:0<=a.toInt
 ·rw[Abb h0,Abb h0,show(Ad (0:Int32):UInt32)=0 from rfl];apply UInt32.toNat_inj.1;rw[show∀z:UInt32,Rk z (0:UInt32)=z^^^0 from λz=>by rw[WJ],Azp,hsh,Ajz,Abk (show 2*a.toInt.toNat<2^32 by omega)]
  show _^^^0=_;rw[Nat.xor_zero];omega
 ·rw[Aba h0,Aba h0,show(Ad (-1:Int32):UInt32)=4294967295 from rfl];apply UInt32.toNat_inj.1;rw[show∀z:UInt32,Rk z (4294967295:UInt32)=z^^^4294967295 from λz=>by rw[WJ],Azp,hsh,Ajz,Abk (show 2*(-a.toInt-1).toNat+1<2^32 by omega)]
  show _^^^4294967295=_;have key:∀n:Nat,n<4294967296->n^^^4294967295=4294967295-n:=by
   intro n hn;have:=BitVec.toNat_not (x:=BitVec.ofNat 32 n);rw[<-BitVec.xor_allOnes,BitVec.toNat_xor,BitVec.toNat_ofNat,Abk (by omega)]at this;simpa using this
  rw[key _ (by omega)];omega
theorem Ak5{bits:Int}(h:Cf bits){t p:List Int32}(hF:OkF (sB bits) t p)(last x:Int32):
  Rz bits last (sB bits) t p x=some (vQ bits (last,t,p) x,bits,x,sB bits,xA t p (vQ bits (last,t,p) x),(x-gs (shB bits) last)::p.take 15,0):=by
 rw[Rz,G5 h,Aa,Aba (by rw[Ak];simp),Al1 h,Aa];simp only;rw[PU,TY,zn hF,Aa];simp only;rw[Aba (by rw[Ak];simp),PU,ON,yt hF,Aa];simp only;rw[Aej (s:=sB bits) (t:=xA t p _) (p:=p) ⟨hF.1,DU _ _ _,hF.2.2⟩,Aa,Aa];rfl
theorem yE(bits:Int)(ch:Nat)(t x:List Int32):(Js bits ch t x).length=x.length:=kO _ _ _ _ _
theorem All{bits:Int}{ch:Nat}{t x:List Int32}{i:Nat}(h:i<x.length):(Js bits ch t x).getD i 0=iJ (vQ bits (cst bits ch t (Js bits ch t x) (i %ch) i) ((mx ch x).getD i 0)):=by
 obtain⟨w,hw⟩:=dz bits ch t (mx ch x) (x.length-(i+1)) (i+1);rw[show i+1+(x.length-(i+1))=x.length by omega,evl,Adn]at hw;have hli:=kO bits ch t (mx ch x) i;have hw':Js bits ch t x=_:=hw;have hg:(Js bits ch t x).getD i 0=iJ (vQ bits (cst bits ch t (evl bits ch t (mx ch x) i) (i %ch) i) ((mx ch x).getD i 0)):=by
  rw[hw',List.getD_eq_getElem?_getD,List.getElem?_append_right (by omega),hli,Nat.sub_self];rfl
 have hc:cst bits ch t (Js bits ch t x) (i %ch) i=cst bits ch t (evl bits ch t (mx ch x) i) (i %ch) i:=by rw[hw',Afu _ _ _ _ _ _ _ (by omega)]
 rw[hg,hc]
section
variable {bits:Int} {ch:Nat} {t x:List Int32} (hb:Cf bits) (ht:t.length=16) (h1:1<=ch) (h6:ch<=6) (hx1:1<=x.length) (hx4:x.length<=4000) (hm:x.length %ch=0)
include hb ht h1 h6 hx1 hx4 hm
omit ht in
theorem Atd(hr:inR bits x):HN (ch:Int) bits x=some 0:=by
 rw[HN,Amn hb h1 h6,Aa,Aba (by decide),aM hb x hx4,P2 hb hx4 hr,Aa,Aba (by decide),Aba (by rw[Bc,Ac,Axd];omega),Be (by rw[Ak];simp;omega),Aa,Ac,OO,hm,Aba (by decide)]
omit hm in
theorem M7:∀(j i q:Nat),i+j=x.length->j<q->
  Jd (mx ch x) (ch:Int) bits q (i:Int) (cts bits ch t (Js bits ch t x) i) ((Js bits ch t x).take i)=some (Js bits ch t x,0)
 |j,i,0,_,h=>absurd h (Ax3 _)
 |0,i,q+1,hi,_=>by
  have hl:=OW ch x;have hV:=yE bits ch t x;rw[Jd,Rl,Aba (by rw[Af,Ac];simp;omega),Aoy (by omega)];rfl
 |j+1,i,q+1,hi,hq=>by
  have hl:=OW ch x;have hV:=yE bits ch t x;have hc:i %ch<6:=Aj4 (Aw3 _ (by omega)) h6;have hok:=iq bits ch ht (Js bits ch t x) (i %ch) i;have hs:=Afx (bits:=bits) (ch:=ch) (t:=t) (v:=Js bits ch t x) (i:=i) hc rfl;have hg:=All (bits:=bits) (ch:=ch) (t:=t) (x:=x) (i:=i) (by omega);have ih:=M7 j (i+1) q (by omega) (by omega);have htk:(Js bits ch t x).take i++[(Js bits ch t x).getD i 0]=(Js bits ch t x).take (i+1):=by
   have:(Js bits ch t x).getD i 0=(Js bits ch t x)[i]'(by omega):=by rw[List.getD_eq_getElem?_getD,List.getElem?_eq_getElem (by omega)];rfl
   rw[this,Nf (by omega)]
  have hfw:=Ak5 hb hok (cst bits ch t (Js bits ch t x) (i %ch) i).1 ((mx ch x).getD i 0);rw[Jd,Rl,Abb (by rw[Af,Ac];simp;omega),g32 (by omega),Aa,Aa,Be (by rw[Ak];simp;omega),Aa,OO,Agi hc,Aa,Aa];refine Awn (congrArg (λo=>Option.bind o _) hfw) ?_;rw[Aa];simp only;rw[Aba (by decide)];have hst:((bits,(mx ch x).getD i 0,(sB bits,xA (cst bits ch t (Js bits ch t x) (i %ch) i).2.1 (cst bits ch t (Js bits ch t x) (i %ch) i).2.2 (vQ bits (cst bits ch t (Js bits ch t x) (i %ch) i) ((mx ch x).getD i 0)),((mx ch x).getD i 0-gs (shB bits) (cst bits ch t (Js bits ch t x) (i %ch) i).1)::(cst bits ch t (Js bits ch t x) (i %ch) i).2.2.take 15,()),()):CL)=toC bits (N6 bits (cst bits ch t (Js bits ch t x) (i %ch) i) (OK ((Js bits ch t x).getD i 0))):=by
   rw[hg,Al5,toC,N6,M2];simp only;rw[vQ,TK]
  refine Awn (congrArg (λo=>Option.bind o _) ((congrArg (λz=>Je (cts bits ch t (Js bits ch t x) i) ((i %ch:Nat):Int) z) hst).trans hs)) ?_;rw[Aa,Al4,Aa];have hg2:iJ (vQ bits ((cst bits ch t (Js bits ch t x) (i %ch) i).1,(cst bits ch t (Js bits ch t x) (i %ch) i).2.1,(cst bits ch t (Js bits ch t x) (i %ch) i).2.2) ((mx ch x).getD i 0))=(Js bits ch t x).getD i 0:=hg.symm;rw[hg2,Cx (by rw[Afw];simp;omega),Aa,htk,Ag];exact ih
theorem Adk(hr:inR bits x):BU (ch:Int) bits t x=some (Js bits ch t x,0):=by
 have hl:=OW ch x;have h:=M7 hb ht h1 h6 hx1 hx4 x.length 0 Ar (by omega) (by have:=Am;omega);have e:Ar=(Ar-7)+1+1+1+1+1+1+1:=by have:=Am;omega
 have hs:Ty (ch:Int) bits t (mx ch x) 0 (List.replicate 6 ((0:Int),(0:Int32),((0:Int),(List.replicate 16 (0:Int32)),(List.replicate 16 (0:Int32)),()),()))=AW (ch:Int) bits (mx ch x) (cts bits ch t (Js bits ch t x) 0):=by
  rw[Ty,e];obtain rfl|rfl|rfl:=hb<;>rfl
 rw[BU,BW,Atd hb h1 h6 hx1 hx4 hm hr,Aa,Aba (by decide),Ajf ch x h1 h6 hm hx4,Aa];simp only;rw[Aba (by decide)];refine Awn hs ?_;exact h
end
theorem Ade(ch:Nat):DF=some (sts ch []):=by
 have e:Ar=(Ar-7)+1+1+1+1+1+1+1:=by have:=Am;omega
 rw[DF,BO,DR,e];rfl
theorem vk(c:List Bool){n:Nat}(h:n<=c.length):Nh (Jh c) 0 n=Jh (c.take n):=by
 have hl:(c.take n).length=n:=by rw[Afw];omega
 apply oo (by rw[Hh,Vn,hl]);intro i hi;rw[oK,Au1,Zt,Zt];by_cases hlt:i<n
 ·rw[Abb hlt,tb,tb,List.getD_eq_getElem?_getD,List.getD_eq_getElem?_getD,List.getElem?_take,Abb hlt]
 ·rw[Aba hlt,Y2 (by omega)]
theorem Aug(a:UInt8){k:Nat}(hk:k<8):Di (Bt a k) (1:UInt8)=UInt8.ofNat (a.toNat/2^k %2):=by
 apply UInt8.toNat_inj.1;rw[Ael,UInt8.toNat_and,dw,An9]
 show _&&&1=_;rw[Nat.and_one_is_mod];generalize a.toNat/2^k=X;omega
theorem Abv(E code:List Bool)(hE:E.length+code.length<=330000)(bk:Int->List (Int×Int×UInt64×UInt64×Unit)->Int->List UInt8->Bf)(V:List UInt32)(b f g:Int)(k:List (Int×Int×UInt64×UInt64×Unit)):∀(j o q:Nat),o+j=code.length->j<q->
  Fl bk V b f (code.length:Int) g k (Jh code) q (o:Int) ((E.length+o:Nat):Int) (Nh (Jh (E++code)) 0 (E.length+o))=bk (Ae g 1) k ((E.length+code.length:Nat):Int) (Jh (E++code))
 |j,o,0,_,h=>absurd h (Ax3 _)
 |0,o,q+1,ho,_=>by
  obtain rfl:o=code.length:=by omega
  rw[Fl,Ro,Aba (by rw[Af];simp),Zd,PL,vk _ (by rw[Aby];omega),Aoy (by rw[Aby];omega)]
 |j+1,o,q+1,ho,hq=>by
  generalize hP:Jh (E++code)=P;have hPo:Fs P (E.length+o)=Fs (Jh code) o:=by rw[<-hP,Zt,Zt,T2]
  have ih:=Abv E code hE bk V b f g k j (o+1) q (by omega) (by omega);rw[hP,<-Auz]at ih;generalize hn:E.length+o=n at*
  have hq8:Bz (n:Int) 8=((n/8:Nat):Int):=by rw[show(8:Int)=((8:Nat):Int)from rfl,tI]
  have hr8:Gc (n:Int) 8=((n %8:Nat):Int):=by rw[show(8:Int)=((8:Nat):Int)from rfl,OO]
  have hqo:Bz (o:Int) 8=((o/8:Nat):Int):=by rw[show(8:Int)=((8:Nat):Int)from rfl,tI]
  have hro:Gc (o:Int) 8=((o %8:Nat):Int):=by rw[show(8:Int)=((8:Nat):Int)from rfl,OO]
  have hroom:Fl bk V b f (code.length:Int) g k (Jh code) (q+1) (o:Int) (n:Int) (Nh P 0 n)=Qv (Fl bk V b f (code.length:Int) g k (Jh code) q) (code.length:Int) V g b f k (Jh code) (o:Int) (n:Int) (room P 0 n):=by
   rw[Fl,Ro,Abb (by rw[Af];simp;omega),hr8,room];by_cases h0:n %8=0
   ·rw[Abb (by rw[Bc,h0];rfl),Cx (by rw[Hh];simp;omega),Aa,Abb h0]
   ·rw[Aba (by rw[Bc];simp;omega),Aba h0]
  have hcl:=Vn code;have hgm:Aj (Jh code) ((o/8:Nat):Int)=some ((Jh code).getD (o/8) 0):=by
   rw[Ck,List.getD_eq_getElem?_getD,List.getElem?_eq_getElem (by omega)];rfl
  have hg:Aj (room P 0 n) ((n/8:Nat):Int)=some (UInt8.ofNat (Bj P (0+8*(n/8)) (n %8))):=by
   rw[Ck (by rw[Lz];omega),kA]
  have hbit:Di (Bt ((Jh code).getD (o/8) 0) (o %8)) (1:UInt8)=UInt8.ofNat (Fs P n):=by
   rw[Aug _ (by omega),hPo,Fs]
  have hlt:=rJ P (0+8*(n/8)) (n %8+1) (by omega);have hsn:=jU P (0+8*(n/8)) (n %8);rw[show 0+8*(n/8)+n %8=n by omega]at hsn;have hnew:sY (UInt8.ofNat (Bj P (0+8*(n/8)) (n %8))) (Cw (UInt8.ofNat (Fs P n)) (n %8))=UInt8.ofNat (Bj P (0+8*(n/8)) (n %8+1)):=by
   rw[or8 (Mo _ _ _) (by rw[Aoi];omega) (by omega),hsn,Aoi (2^(n %8))]
  rw[hroom,Qv,Yp,hqo,hro,hq8,hr8,hgm,Aa,Aa,Be (by rw[Dc];simp;omega),Aa,hg,Aa,Be (by rw[Dc];simp;omega),Aa,Aa,Aa,
   show(GI.toZ ((o %8:Nat):Int)).toNat=o %8 from rfl,show(GI.toZ ((n %8:Nat):Int)).toNat=n %8 from rfl,hbit,hnew,Rg _ (by rw[Lz];omega),Aa,qV P 0 n 1 (by omega) (by omega),Ys,RY,Ag,Ag]
  exact ih
theorem Axq(l m:List UInt8)(h:l.length+m.length<=1000000):Jy [l,m]=some (l++m):=by
 have hF:Ar=(Ar-3)+1+1+1:=by have:=Am;omega
 rw[Jy,Mg,Lt];have g0:Aj [l,m] (0:Int)=some l:=rfl;have g1:Aj [l,m] (1:Int)=some m:=rfl;have l2:Ac [l,m]=2:=rfl;have h3:He [l,m] []=some (l++m):=by
  rw[He,Kz,Kv,hF,Dj,Et,l2,Abb (by decide),g0,Aa,Cx (by simp;omega),Aa,Avj,show Ae (0:Int) 1=1 by decide,
   Dj,Et,l2,Abb (by decide),g1,Aa,Cx,Aa,show Ae (1:Int) 1=2 by decide,Dj,Et,l2,Aba (by decide)]
  rfl
 rw[hF,Dq,Fi,l2,Abb (by decide),g0,Aa,Ag (by unfold Ac;omega) (by unfold Ac;omega),Aba (by rw[Af,Ac];simp),show Ae (0:Int) 1=1 by decide,
  Dq,Fi,l2,Abb (by decide),g1,Aa,Ag (by unfold Ac;omega) (by unfold Ac;omega),Aba (by rw[Af,Ac,Ac];simp;omega),show Ae (1:Int) 1=2 by decide,
  Dq,Fi,l2,Aba (by decide),Lg,La,Aba (by rw[Af,Ac,Ac];simp;omega),Le,Ld]
 have z:Ah (0:Int) 0=0:=by decide
 have n0:(0:Int)+Ac l+Ac m=((l.length+m.length:Nat):Int):=by simp[Ac]
 rw[z,n0,Bg,Int.sub_zero];by_cases hp:0<l.length+m.length
 ·rw[Abb (by rw[Al];simp;omega),show cG (0:Int) 0 0=some ()from rfl,Aa,qQ,Aa,Cx (by simp;omega),Aa];rw[show cG (Ac ([]++List.replicate ((l.length+m.length:Nat):Int).toNat (0:UInt8))) 0 0=some () by rw[cG,Be];simp[Ac];omega,Aa];simp only[SL,Int.sub_self,Azy,Axm];exact h3
 ·rw[Aba (by rw[Al];simp;omega)];exact h3
theorem Abj(bits:Int)(ch:Nat)(h1:1<=ch)(h6:ch<=6)(V:List UInt32)(hV:V.length<=4000):∀(j i q:Nat),i+j=V.length->j<q->
  Gu V (ch:Int) bits q (i:Int) (sts ch (V.take i)) ((Oc ch V i).length:Int) (Jh (Oc ch V i))=some (Jh (Oc ch V V.length)++On (Da (Jh (Oc ch V V.length))).toNat 4,0)
 |j,i,0,_,h=>absurd h (Ax3 _)
 |0,i,q+1,hi,_=>by
  obtain rfl:i=V.length:=by omega
  have hel:=eK ch V V.length;have hpl:=Vn (Oc ch V V.length);have hlt:=(Da (Jh (Oc ch V V.length))).toNat_lt;rw[Gu,Rc,Aba (by rw[Af,Ac];simp),Yv,QZ,sR _ (by omega),Aa];simp only;have e64:(UInt64.ofNat (Da (Jh (Oc ch V V.length))).toNat).toNat=(Da (Jh (Oc ch V V.length))).toNat:=TE (by omega);rw[Aba (by decide),Cn,show(4:Int)=((4:Nat):Int)from rfl,RE _ 4 (by omega) (by omega) (by rw[e64];omega),Aa];simp only;rw[Aba (by decide),e64,Axq _ _ (by rw[Bn];omega),Aa]
 |j+1,i,q+1,hi,hq=>by
  have hc:i %ch<6:=Aj4 (Aw3 _ (by omega)) h6;have hvl:(V.take i).length=i:=by rw[Afw];omega
  have hel:=eK ch V i;have hk:=R7 ch (V.take i);have hcl:=WE (V.getD i 0) hk.1 hk.2;have ih:=Abj bits ch h1 h6 V hV j (i+1) q (by omega) (by omega);have hvi:V.getD i 0=V[i]'(by omega):=by rw[List.getD_eq_getElem?_getD,List.getElem?_eq_getElem (by omega)];rfl
  have htk:V.take i++[V.getD i 0]=V.take (i+1):=by rw[hvi,Nf (by omega)]
  have hst:=U7 (ch:=ch) (v:=V.take i) hc;have hset:=Agl (ch:=ch) (v:=V.take i) (V.getD i 0) hc (by rw[hvl]);have Ayx:dJ ch (V.take i) (i %ch) (V.take i).length=now ch (V.take i):=Aro (by rw[hvl]);rw[Ayx]at hst hset;rw[htk]at hset;have hdp:=Ank (k:=(now ch (V.take i)).1) (l:=(now ch (V.take i)).2.1) (s:=(now ch (V.take i)).2.2.1) (t:=(now ch (V.take i)).2.2.2) (gH ch (V.take i) _ _) (V.getD i 0);have hpc:=Abv (Oc ch V i) (Ok (now ch (V.take i)).1 (now ch (V.take i)).2.1 (V.getD i 0)) (by omega) (Gu V (ch:Int) bits q) V (ch:Int) bits (i:Int) (sts ch (V.take (i+1))) (Ok (now ch (V.take i)).1 (now ch (V.take i)).2.1 (V.getD i 0)).length 0 Ar (by omega) (by have:=Am;omega);rw[show(Oc ch V i).length+0=(Oc ch V i).length from rfl,vk _ (by rw[Aby];omega),List.take_left,show((0:Nat):Int)=0 from rfl]at hpc;rw[Gu,Rc,Abb (by rw[Af,Ac];simp;omega),qZ (by omega),Aa,Aa,Be (by rw[Ak];simp;omega),Aa,OO,hst,Aa,Aa];refine Awn (congrArg (λo=>Option.bind o _) hdp) ?_;rw[Aa];simp only;rw[Aba (by decide),Aa,Aa];refine Awn (congrArg (λo=>Option.bind o _) hset) ?_;rw[Aa];refine Awn hpc ?_;rw[Ag];rw[Oc,Aby]at ih;exact ih
theorem Y3{bits:Int}{ch:Nat}{t x:List Int32}(hb:Cf bits)(ht:t.length=16)(h1:1<=ch)(h6:ch<=6)(hx1:1<=x.length)(hx4:x.length<=4000)(hm:x.length %ch=0)(hr:inR bits x):
  Qe (ch:Int) bits t x=some (Ni bits ch t x,0):=by
 have hV:=yE bits ch t x;have h:=Abj bits ch h1 h6 (Js bits ch t x) (by omega) (Js bits ch t x).length 0 Ar (by omega) (by have:=Am;omega);have e0:Jh (Oc ch (Js bits ch t x) 0)=[]:=by simp[Oc,Jh]
 have e1:((Oc ch (Js bits ch t x) 0).length:Int)=0:=rfl;rw[e0,e1,Axm,hV,show((0:Nat):Int)=0 from rfl]at h;rw[Qe,BL,Adk hb ht h1 h6 hx1 hx4 hm hr,Aa];simp only;rw[Aba (by decide),Ade ch,Aa,Ni,QM,Yn];exact h
theorem As4{r:Nat}(h1:1<=r)(h:r<=1048576):Nq (r:Int)=some ((Au r:Int),0):=by
 have hv:=D1 h;have e:Bd (r:Int) 256=Bd 256 (r:Int):=by rw[Gt,Gt];omega
 rw[Nq,Aba (by simp[Af,Al];omega),e];have hq:0<=Bz (Bd 256 (r:Int)) 245:=by
  have e2:Bd 256 (r:Int)=((256*r:Nat):Int):=by rw[Gt];omega
  rw[e2,show(245:Int)=((245:Nat):Int)from rfl,tI];omega
 rw[Z2]at hv;by_cases hz:Bz (Bd 256 (r:Int)) 245=0
 ·rw[Abb (by rw[Bc];simpa using hz)];rw[hz]at hv;have:(1:Int)=(Au r:Int):=by omega
  rw[this]
 ·rw[Aba (by rw[Bc];simpa using hz)];have:Bz (Bd 256 (r:Int)) 245=(Au r:Int):=by omega
  rw[this]
structure ClipOk (c w r n:Nat) (x:List Int32):Prop where
 ch:1<=c/\c<=6
 bits:Cf (w:Int)
 rate:1<=r/\r<=1048576
 cnt:1<=n/\n<=4000/c
 len:x.length=n*c
 fr:(n-1)/Au r+1<=1000
 rng:inR (w:Int) x
theorem ClipOk.le{c w r n:Nat}{x:List Int32}(h:ClipOk c w r n x):n<=4000/\n*c<=4000/\1<=x.length/\x.length<=4000:=by
 have h1:=Ab4 c h.cnt.2;have h2:=Axb 4000 c;have h3:=Asv 4000 c;have h4:=Nat.mul_pos h.cnt.1 h.ch.1;have h5:=h.len;have:=h.cnt;omega
theorem ClipOk.w3{c w r n:Nat}{x:List Int32}(h:ClipOk c w r n x):w=8\/w=16\/w=24:=by
 have:=h.bits;unfold Cf at this;omega
theorem ClipOk.shape{c w r n:Nat}{x:List Int32}(h:ClipOk c w r n x)(f:Nat)(hf:f=1\/f=2):Fe f c w r n=true:=by
 have:=h.w3;have:=h.ch;have:=h.rate;have:=h.cnt;simp only[Fe,Ab2];omega
theorem ClipOk.fit{c w r n:Nat}{x:List Int32}(h:ClipOk c w r n x):CM c r n=true:=by
 have:=h.cnt;have:=h.fr;simp only[CM,Ab2];omega
theorem Avs{bits:Int}(h:Cf bits){l:List Int32}(hl:l.length<=4000):Ao bits l=some 0\/Ao bits l=some 16:=by
 have hh:=UM bits;have key:∀(j i q:Nat),i+j=l.length->j<q->Ax l (hB bits) q (i:Int)=some 0\/Ax l (hB bits) q (i:Int)=some 16:=by
  intro j
  induction j with
  |zero=>
   intro i q hi hq;obtain⟨q,rfl⟩:∃q',q=q'+1:=⟨q-1,by omega⟩;rw[Ax,Ca,Aba (by rw[Af,Ac];simp;omega)];exact .inl rfl
  |succ j ih=>
   intro i q hi hq;obtain⟨q,rfl⟩:∃q',q=q'+1:=⟨q-1,by omega⟩;have ih:=ih (i+1) q (by omega) (by omega);have hi1:Ae (i:Int) 1=((i+1:Nat):Int):=by rw[Ag];omega
   rw[Ax,Ca,Abb (by rw[Af,Ac];simp;omega),Ck,Aa,Aa,hi1];split
   ·exact .inr rfl
   ·split
    ·exact .inr rfl
    ·exact ih
 have hk:=key l.length 0 Ar (by omega) (by have:=Am;omega);rw[Ao,Cr,WV h,Aa,Aba (by rw[Bc];simp;omega),Aba (by rw[Al,Ac];simp;omega)];exact hk
theorem pQ{bits:Int}(h:¬Cf bits):Ht bits=some 0/\Qm bits=some (0,0,2):=by
 unfold Cf at h;constructor
 ·rw[Ht,Aba (by rw[Bc,Axd];omega),Aba (by rw[Bc,Axd];omega),Aba (by rw[Bc,Axd];omega)]
 ·have e:(geq bits 24)=false:=by rw[Bc,beq_eq_false_iff_ne];omega
  rw[Qm,QI,Aba (by rw[Bc,Axd];omega),Aba (by rw[Bc,Axd];omega),e,RU,fF,Aba (by decide)]
theorem rY{r:Nat}(h:r<=1048576):∀(j n q:Nat) (acc:List Int),n<=4000->n<=j->j<q->acc.length+n<=10000->
  Hx (Au r:Int) q (n:Int) acc=some (if 1000<(acc++(if n=0 then []else Aq (Au r) n)).length then([],4)else(acc++(if n=0 then []else Aq (Au r) n),0))
 |j,n,0,acc,_,_,h,_=>absurd h (Ax3 _)
 |j,n,q+1,acc,hn,hj,hq,ha=>by
  have hp:=Qg r;by_cases h0:n=0
  ·subst h0;rw[Abb rfl,Aun,Hx,Oy,Aba (by rw[Al];simp),Wn,MY,Al,Ac];by_cases hk:1000<acc.length
   ·rw[Abb hk,Abb (by simp;omega)]
   ·rw[Aba hk,Aba (by simp;omega)]
  ·obtain⟨j,rfl⟩:∃j',j=j'+1:=⟨j-1,by omega⟩;rw[Hx,Oy,Abb (by rw[Al];simp;omega),Cx (by simp;omega),Aa,GB];by_cases hs:n<=Au r
   ·rw[show min (n:Int) (Au r:Int)=(n:Int) by omega,Bg,Int.sub_self];have ih:=rY h j 0 q (acc++[(n:Int)]) (by omega) (by omega) (by omega) (by simp;omega);rw[Abb rfl,Aun]at ih;rw[Aba h0,mM hs (by omega)];exact ih
   ·rw[show min (n:Int) (Au r:Int)=(Au r:Int) by omega,Bg,show(n:Int)-(Au r:Int)=((n-Au r:Nat):Int) by omega];have e:acc++Aq (Au r) n=(acc++[(Au r:Int)])++Aq (Au r) (n-Au r):=by rw[vL hp (show Au r<n by omega)];simp
    have ih:=rY h j (n-Au r) q (acc++[(Au r:Int)]) (by omega) (by omega) (by omega) (by simp;omega);rw[Aba (show ¬n-Au r=0 by omega),<-e]at ih;rw[Aba h0];exact ih
theorem Ac9(C W R:Int)(x:List Int32)(hlen:x.length<4611686018427387904):(Cj C W R x=some 8/\Df C W R x=some 8)\/
  (∃c w r n:Nat,C=(c:Int)/\W=(w:Int)/\R=(r:Int)/\ClipOk c w r n x/\Cj C W R x=some 0/\Df C W R x=some 0):=by
 have I3:∀e:Int,e≠0->Bu C W x=some e->Cj C W R x=some 8:=by
  intro e he h;rw[Cj,Gq,Aa];simp only;rw[h,Aa,Abb (by rw[Ak];simpa using he)]
 by_cases hC:C<1
 ·refine .inl ⟨I3 2 (by decide) ?_,?_⟩
  ·rw[Bu,Cq,Abb (by simp[Af,Al];omega),Aa,Abb (by decide)]
  ·rw[Df,Abb (by rw[Af];simpa using hC)]
 obtain⟨c,rfl⟩:=Ake (show 0<=C by omega);have hc1:1<=c:=by omega
 have hq:Bz (Ac x) (c:Int)=((x.length/c:Nat):Int):=by rw[Ac,tI]
 have hr0:Gc (Ac x) (c:Int)=((x.length %c:Nat):Int):=by rw[Ac,OO]
 have Amg:(∀m:Nat,x.length=m*c->GC (c:Int) W R x (m:Int)=some 8)->Df (c:Int) W R x=some 8:=by
  intro h;rw[Df,Aba (by rw[Af];simpa using hC),Be (by rw[Ak];simp;omega),Aa,hr0];by_cases hm:x.length %c=0
  ·have hx:x.length=x.length/c*c:=by have:=Azc x.length c;rw[hm,Aoi]at this;omega
   rw[hm,Aba (by decide),Aa,hq,h _ hx,Aa,Abb (by decide)]
  ·rw[Abb (by rw[Ak];simp;omega)]
 by_cases h6:6<c
 ·refine .inl ⟨I3 2 (by decide) ?_,Amg λm hm=>?_⟩
  ·rw[Bu,Cq,Abb (by simp[Af,Al];omega),Aa,Abb (by decide)]
  ·rw[GC,GF,Aa];simp only;have:Fp (c:Int) W=some 2:=by
    rw[Fp];by_cases hb:Cf W
    ·rw[T6 hb,Aa];simp only;rw[Abb (by simp[Ak,Af,Al];omega)]
    ·rw[(pQ hb).2,Aa];simp only;rw[Abb (by simp[Ak])]
   rw[this,Aa,Abb (by simp[Ak])]
 by_cases hb:Cf W
 rotate_left
 ·refine .inl ⟨I3 2 (by decide) ?_,Amg λm hm=>?_⟩
  ·rw[Bu,Cq,Aba (by simp[Af,Al];omega),(pQ hb).1,Aa,Abb (by decide),Aa,Abb (by decide)]
  ·rw[GC,GF,Aa];simp only;have:Fp (c:Int) W=some 2:=by
    rw[Fp,(pQ hb).2,Aa];simp only;rw[Abb (by simp[Ak])]
   rw[this,Aa,Abb (by simp[Ak])]
 have hhB:=UM W;have e20:Cq (c:Int) W=some 0:=by
  rw[Cq,Aba (by simp[Af,Al];omega),WV hb,Aa,Aba (by rw[Bc];simp;omega)]
 have hq4:=R5 hc1 (show c<=6 by omega);have ecf:=Amn hb hc1 (show c<=6 by omega);have Ag5:∀m:Nat,GC (c:Int) W R x (m:Int)=if m<1\/4000/c<m then some 8 else Option.bind (Hg R (m:Int)) λy=>if(Bm y.2 0)=true then some 8 else some 0:=by
  intro m;rw[GC,GF,Aa];simp only;rw[ecf,Aa];by_cases hm:m<1
  ·rw[Abb (by simp[Ak,Af];omega),Abb (.inl hm)]
  ·rw[Aba (by simp[Ak,Af];omega),Be (by rw[Ak];simp;omega),Aa,hq4];by_cases hm2:4000/c<m
   ·rw[Abb (by rw[Al,Ab2,gt_iff_lt,Int.ofNat_lt];exact hm2),Abb (.inr hm2)]
   ·rw[Aba (by rw[Al,Ab2,gt_iff_lt,Int.ofNat_lt];exact hm2),Aba (by omega)]
 by_cases hx4:4000<x.length
 ·refine .inl ⟨I3 4 (by decide) ?_,Amg λm hm=>?_⟩
  ·have:Ao W x=some 4:=by
    rw[Ao,Cr,WV hb,Aa,Aba (by rw[Bc];simp;omega),Abb (by rw[Al,Ac];simp;omega)]
   rw[Bu,e20,Aa,Aba (by decide),this,Aa,Abb (by decide),Aa]
  ·rw[Ag5,Abb];refine .inr ?_;rw[Nat.div_lt_iff_lt_mul (by omega)];omega
 have hx4:x.length<=4000:=by omega
 have hsame:=aM hb x hx4;rcases Avs hb hx4 with h18|h18
 rotate_left
 ·refine .inl ⟨I3 16 (by decide) ?_,?_⟩
  ·rw[Bu,e20,Aa,Aba (by decide),h18,Aa,Abb (by decide),Aa]
  ·rw[Df,Aba (by rw[Af];simpa using hC),Be (by rw[Ak];simp;omega),Aa,hr0];by_cases hm:x.length %c=0
   ·rw[hm,Aba (by decide),Aa,hq,Ag5];split
    ·rw[Aa,Abb (by decide)]
    ·rename_i hh;by_cases hR:1<=R/\R<=1048576
     ·obtain⟨r,rfl⟩:=Ake (show 0<=R by omega);have hd:=Asv x.length c;rw[ZM (by omega) (by omega) (by omega) (by omega),Aa];split
      ·rw[Abb (by decide),Aa,Abb (by decide)]
      ·rw[Aba (by simp[Ak]),Aa,Aba (by decide),hsame,h18,Aa,Abb (by decide)]
     ·rw[Hg,Qp,Abb (by simp[Af,Al];omega),Aa];simp only;rw[Abb (by decide),Aa];simp only;rw[Abb (by decide),Aa,Abb (by decide)]
   ·rw[Abb (by rw[Ak];simp;omega)]
 by_cases hx1:x.length<1
 ·refine .inl ⟨I3 2 (by decide) ?_,Amg λm hm=>?_⟩
  ·rw[Bu,e20,Aa,Aba (by decide),h18,Aa,Aba (by decide),Abb (by rw[Af,Ac];simp;omega)]
  ·have h0:m*c=0:=by omega
   have:m=0:=by rcases Nat.mul_eq_zero.1 h0 with h|h<;>omega
   rw[Ag5,Abb (.inl (by omega))]
 have hA:x.length %c=0->Bu (c:Int) W x=some 0:=by
  intro hm;rw[Bu,e20,Aa,Aba (by decide),h18,Aa,Aba (by decide),Aba (by rw[Af,Ac];simp;omega),Be (by rw[Ak];simp;omega),Aa,hr0,hm,Aba (by decide)]
 by_cases hm:x.length %c=0
 rotate_left
 ·refine .inl ⟨I3 2 (by decide) ?_,?_⟩
  ·rw[Bu,e20,Aa,Aba (by decide),h18,Aa,Aba (by decide),Aba (by rw[Af,Ac];simp;omega),Be (by rw[Ak];simp;omega),Aa,hr0,Abb (by rw[Al];simp;omega)]
  ·rw[Df,Aba (by rw[Af];simpa using hC),Be (by rw[Ak];simp;omega),Aa,hr0,Abb (by rw[Ak];simp;omega)]
 have hxn:x.length=x.length/c*c:=by have:=Azc x.length c;rw[hm,Aoi]at this;omega
 generalize hN:x.length/c=n at*
 have hn1:1<=n:=by
  by_cases h0:n=0
  ·rw[h0]at hxn;omega
  ·omega
 have hn4:n<=4000/c:=by rw[<-hN];exact Nat.div_le_div_right hx4
 have hn4':n<=4000:=Azu hn4 (Asv _ _);have e21:Dy (c:Int) W (n:Int)=some 0:=by
  rw[Dy,e20,Aa,Aba (by simp[Ak,Af];omega),Be (by rw[Ak];simp;omega),Aa,hq4,Aba (by rw[Al,Ab2,gt_iff_lt,Int.ofNat_lt];omega)]
 have Aoh:∀z e:Int,Iy R (n:Int)=some (z,e)->Cj (c:Int) W R x=some (if e=0 then 0 else 8):=by
  intro z e hz;rw[Cj,Gq,Aa];simp only;rw[hA hm,Aa,Aba (by decide),Be (by rw[Ak];simp;omega),Aa,hq,EL,Gq,Aa];simp only;rw[e21,Aa,Aba (by decide),hz,Aa,Aa,Bc];by_cases he:e=0
  ·subst he;rfl
  ·rw[Aba he,Abb (by simpa using he)]
 have R3:Df (c:Int) W R x=Option.bind (Option.bind (Hg R (n:Int)) λy=>if(Bm y.2 0)=true then some 8 else some 0) λg=>if(Bm g 0)=true then some g else some 0:=by
  rw[Df,Aba (by rw[Af];simpa using hC),Be (by rw[Ak];simp;omega),Aa,hr0,hm,Aba (by decide),Aa,hq,Ag5,Aba (by omega),hsame,h18];rfl
 by_cases hR:1<=R/\R<=1048576
 rotate_left
 ·refine .inl ⟨?_,?_⟩
  ·refine Aoh 0 2 ?_;rw[Iy,Vx,Oz,Nq,Abb (by simp[Af,Al];omega),Aa];simp only;rw[Abb (by simp[Ak]),Aa];rfl
  ·rw[R3,Hg,Qp,Abb (by simp[Af,Al];omega),Aa];simp only;rw[Abb (by decide),Aa];simp only;rw[Abb (by decide),Aa,Abb (by decide)]
 obtain⟨r,rfl⟩:=Ake (show 0<=R by omega);have hl:=rY (r:=r) (by omega) n n Ar [] hn4' (Aj0 _) (by have:=Am;omega) (by simp;omega);rw[Aba (show ¬n=0 by omega),Avj,Zv]at hl;have hcount:∃z:Int,Iy (r:Int) (n:Int)=some (z,if 1000<(n-1)/Au r+1 then 4 else 0):=by
  rw[Iy,Vx,Oz,As4 (by omega) (by omega),Aa];simp only;rw[Aba (by simp[Ak,Af,Al];omega),Ws,hl,Aa];split<;>exact⟨_,rfl⟩
 obtain⟨z,hz⟩:=hcount;have h24:=Aoh z _ hz;rw[ZM (by omega) (by omega) hn1 hn4',Aa]at R3;by_cases hk:1000<(n-1)/Au r+1
 ·rw[Abb hk]at h24 R3;exact .inl ⟨h24,R3⟩
 ·rw[Aba hk]at h24 R3;have hw:∃w:Nat,W=(w:Int):=by
   rcases hb with rfl|rfl|rfl
   ·exact⟨8,rfl⟩
   ·exact⟨16,rfl⟩
   ·exact⟨24,rfl⟩
  obtain⟨w,rfl⟩:=hw;exact .inr ⟨c,w,r,n,rfl,rfl,rfl,⟨⟨hc1,by omega⟩,hb,by omega,⟨hn1,hn4⟩,hxn,by omega,kR hb hx4 h18⟩,h24,R3⟩
theorem Ahc(C W R:Int){x:List Int32}(h:4000<x.length):Cj C W R x=some 8:=by
 have key:∃e:Int,e≠0/\Bu C W x=some e:=by
  rw[Bu,Cq];by_cases h1:((Cc C 1)||(Eu C 6))=true
  ·rw[Abb h1,Aa,Abb (by decide)];exact⟨2,by decide,rfl⟩
  ·rw[Aba h1];by_cases hb:Cf W
   ·have hh:=UM W;have h18:Ao W x=some 4:=by
     rw[Ao,Cr,WV hb,Aa,Aba (by rw[Bc];simp;omega),Abb (by rw[Al,Ac];simp;omega)]
    rw[WV hb,Aa,Aba (by rw[Bc];simp;omega),Aa,Aba (by decide),h18,Aa,Abb (by decide),Aa];exact⟨4,by decide,rfl⟩
   ·rw[(pQ hb).1,Aa,Abb (by decide),Aa,Abb (by decide)];exact⟨2,by decide,rfl⟩
 obtain⟨e,he,h1⟩:=key;rw[Cj,Gq,Aa];simp only;rw[h1,Aa,Abb (by rw[Ak];simpa using he)]
theorem uy(C W R:Int)(x:List Int32):(Cj C W R x=some 8/\ (x.length<4611686018427387904->Df C W R x=some 8))\/
  (∃c w r n:Nat,C=(c:Int)/\W=(w:Int)/\R=(r:Int)/\ClipOk c w r n x/\Cj C W R x=some 0/\Df C W R x=some 0):=by
 by_cases hx:x.length<4611686018427387904
 ·rcases Ac9 C W R x hx with⟨h1,h2⟩|h
  ·exact .inl ⟨h1,λ_=>h2⟩
  ·exact .inr h
 ·exact .inl ⟨Ahc C W R (by omega),λh=>absurd h hx⟩
def tT(f c w r n:Nat):List UInt8:=Hz++On f 2++On c 2++On w 2++On r 4++On n 4
def AQ(f c w r n:Nat):List UInt8:=tT f c w r n++On (Da (tT f c w r n)).toNat 4
theorem XC(f c w r n:Nat):(tT f c w r n).length=18:=by simp only[tT,Hz,Aby,Bn];rfl
theorem EH(f c w r n:Nat):(AQ f c w r n).length=22:=by rw[AQ,Aby,XC,Bn]
theorem E7(b f g h k:Int)(m v w q:Nat)(a:List UInt8)(hm:m<5)(hv:Aj ([b,f,g,h,k]:List Int) (m:Int)=some (v:Int))(hw:Aj ([2,2,2,4,4]:List Int) (m:Int)=some (w:Int))(h1:1<=w)(h8:w<=8)(hlt:v<256^w)(h64:v<18446744073709551616)(ha:a.length<=100):
  Ke b f g h k (q+1) (m:Int) a=Ke b f g h k q ((m+1:Nat):Int) (a++On v w):=by
 have e64:(UInt64.ofNat v).toNat=v:=TE (by omega);have hi1:Ae (m:Int) 1=((m+1:Nat):Int):=by rw[Ag];omega
 rw[Ke,Yh,Abb (by rw[Af];simp;omega),hv,Aa,hw,Aa,Sn,RE _ w h1 h8 (by rw[e64];exact hlt),Aa];simp only;rw[Cx (by rw[Bn];omega),Aa,hi1,e64]
theorem Z9{f c w r n:Nat}(h1:Fe f c w r n=true)(h2:CM c r n=true):NQ (f:Int) (c:Int) (w:Int) (r:Int) (n:Int)=some (AQ f c w r n,0):=by
 have hs:(f=1\/f=2)/\ (1<=c/\c<=6)/\ (w=8\/w=16\/w=24)/\ (1<=r/\r<=1048576)/\1<=n:=by simpa only[Fe,Ab2]using h1
 have hn:n<=4000:=by
  simp only[CM,Ab2]at h2;have:=Asv 4000 c;omega
 have hck:Qn (f:Int) (c:Int) (w:Int) (r:Int) (n:Int)=some 0:=by
  rw[Qn,eL,Aa,h1,Aba (by decide),sL h1,Aa,h2,Aba (by decide)]
 have hF:Ar=(Ar-6)+1+1+1+1+1+1:=by have:=Am;omega
 have hlt:=(Da (tT f c w r n)).toNat_lt;have e64:(UInt64.ofNat (Da (tT f c w r n)).toNat).toNat=(Da (tT f c w r n)).toNat:=TE (by omega);have hfin:Yj (tT f c w r n)=some (AQ f c w r n,0):=by
  rw[Yj,cC,sR _ (by rw[XC];omega),Aa];simp only;rw[Cn,show(4:Int)=((4:Nat):Int)from rfl,RE _ 4 (by omega) (by omega) (by rw[e64];omega),Aa];simp only;rw[Cx (by rw[XC,Bn];omega),Aa,e64];rfl
 rw[NQ,MC,hck,Aa,Aba (by decide),LK,hF];have s0:=E7 (f:Int) (c:Int) (w:Int) (r:Int) (n:Int) 0 f 2 ((Ar-6)+1+1+1+1+1) Hz (by omega) rfl rfl (by omega) (by omega) (by omega) (by omega) (by decide);have s1:=E7 (f:Int) (c:Int) (w:Int) (r:Int) (n:Int) 1 c 2 ((Ar-6)+1+1+1+1) (Hz++On f 2) (by omega) rfl rfl (by omega) (by omega) (by omega) (by omega) (by simp[Bn,Hz]);have s2:=E7 (f:Int) (c:Int) (w:Int) (r:Int) (n:Int) 2 w 2 ((Ar-6)+1+1+1) (Hz++On f 2++On c 2) (by omega) rfl rfl (by omega) (by omega) (by omega) (by omega) (by simp[Bn,Hz]);have s3:=E7 (f:Int) (c:Int) (w:Int) (r:Int) (n:Int) 3 r 4 ((Ar-6)+1+1) (Hz++On f 2++On c 2++On w 2) (by omega) rfl rfl (by omega) (by omega) (by omega) (by omega) (by simp[Bn,Hz]);have s4:=E7 (f:Int) (c:Int) (w:Int) (r:Int) (n:Int) 4 n 4 ((Ar-6)+1) (Hz++On f 2++On c 2++On w 2++On r 4) (by omega) rfl rfl (by omega) (by omega) (by omega) (by omega) (by simp[Bn,Hz]);refine s0.trans (s1.trans (s2.trans (s3.trans (s4.trans ?_))));rw[Ke,Yh,Aba (by decide)];exact hfin
def SI(l:List Int):List UInt8:=l.flatMap λx=>On x.toNat 4
def UY(l:List Int):List UInt8:=SI l++On (Da (SI l)).toNat 4
theorem IE(l:List Int):(SI l).length=4*l.length:=by
 induction l with
 |nil=>rfl
 |cons x l ih=>rw[SI,List.flatMap_cons,Aby,Bn,show(l.flatMap λx=>On x.toNat 4)=SI l from rfl,ih,Aj1];omega
theorem iC(l:List Int):(UY l).length=4*l.length+4:=by rw[UY,Aby,IE,Bn]
theorem Ahz(l:List Int)(x:Int):SI (l++[x])=SI l++On x.toNat 4:=by simp[SI]
theorem vA(l:List Int)(hl:l.length<=1000)(h5:∀x∈l,5<=x/\x<=100000):∀(j i q:Nat),i+j=l.length->j<q->Pc l q (i:Int) (SI (l.take i))=some (UY l,0)
 |j,i,0,_,h=>absurd h (Ax3 _)
 |0,i,q+1,hi,_=>by
  have hlt:=(Da (SI l)).toNat_lt;have e64:(UInt64.ofNat (Da (SI l)).toNat).toNat=(Da (SI l)).toNat:=TE (by omega);rw[Pc,EE,Aba (by rw[Af,Ac];simp;omega),Aoy (by omega),KZ,LC,sR _ (by rw[IE];omega),Aa];simp only;rw[Cn,show(4:Int)=((4:Nat):Int)from rfl,RE _ 4 (by omega) (by omega) (by rw[e64];omega),Aa];simp only;rw[Cx (by rw[IE,Bn];omega),Aa,e64];rfl
 |j+1,i,q+1,hi,hq=>by
  have ih:=vA l hl h5 j (i+1) q (by omega) (by omega);obtain⟨x5,x6⟩:=h5 l[i] (Au9 _);obtain⟨v,hv⟩:=Ake (show 0<=l[i] by omega);have e64:(UInt64.ofNat v).toNat=v:=TE (by omega);have hi1:Ae (i:Int) 1=((i+1:Nat):Int):=by rw[Ag];omega
  rw[Pc,EE,Abb (by rw[Af,Ac];simp;omega),Ck,Aa,hv,Sn,show(4:Int)=((4:Nat):Int)from rfl,RE _ 4 (by omega) (by omega) (by rw[e64];omega),Aa];simp only;rw[Cx (by rw[IE,Bn,Afw];omega),Aa,LJ,cN,hi1,e64];rw[Nf (by omega),Ahz,hv,Aiq]at ih;exact ih
theorem Abs(l:List Int):TT l=some (if JX l=true then(UY l,0)else([],8)):=by
 rw[TT,PD,dW,Aa];by_cases h:JX l=true
 ·rw[Abb h,Abb h,Aba (by decide)];simp only[JX,Abz,Ab2]at h;obtain⟨⟨h1,h2⟩,h3⟩:=h;have h4:=(kF l 100000 (by omega)).1 h3;have h6:=R9 h4.1;have hl:=vA l h2 (λx hx=>⟨h4.1 x hx,by have:=h6 x hx;omega⟩) l.length 0 Ar (by omega) (by have:=Am;omega);exact hl
 ·rw[Aba h,Aba h,Abb (by decide)]
theorem Q4(l:List LB)(hl:l.length<=100000)(hf:l.flatten.length<=1000000):∀(j i q:Nat),i+j=l.length->j<q->Qf l q (i:Int) (l.take i).flatten=some l.flatten
 |j,i,0,_,h=>absurd h (Ax3 _)
 |0,i,q+1,hi,_=>by
  rw[Qf,DI,Aba (by rw[Af,Ac];simp;omega),Aoy (by omega)];rfl
 |j+1,i,q+1,hi,hq=>by
  have ih:=Q4 l hl hf j (i+1) q (by omega) (by omega);have hi1:Ae (i:Int) 1=((i+1:Nat):Int):=by rw[Ag];omega
  have hsn:(l.take (i+1)).flatten=(l.take i).flatten++l[i]:=by rw[Nf (by omega),Azo];simp
  have hsp:l.flatten=(l.take (i+1)).flatten++(l.drop (i+1)).flatten:=by rw[<-Azo,Awu]
  have hle:((l.take i).flatten).length+(l[i]).length<=1000000:=by
   rw[hsp,Aby,hsn,Aby]at hf;omega
  rw[Qf,DI,Abb (by rw[Af,Ac];simp;omega),Ck,Aa,Cx,Aa,hi1,<-hsn];exact ih
theorem join_eq(l:List LB)(hl:l.length<=100000)(hf:l.flatten.length<=1000000):iY l=some l.flatten:=by
 have h:=Q4 l hl hf l.length 0 Ar (by omega) (by have:=Am;omega);exact h
def Yw(c:Nat):List Int32->List Int->List (List Int32)
 |_,[]=>[]
 |x,m::l=>x.take (m.toNat*c)::Yw c (x.drop (m.toNat*c)) l
theorem oC(c:Nat):∀(l:List Int) (x:List Int32),(Yw c x l).length=l.length
 |[],x=>rfl
 |m::l,x=>by rw[Yw,Aj1,Aj1,oC c l]
theorem uS(c:Nat):∀(l:List Int) (x:List Int32),(∀m∈l,0<=m)->x.length=l.sum.toNat*c-> (Yw c x l).flatten=x
 |[],x,_,h=>by
  have:x=[]:=Asa (by simpa using h);rw[this];rfl
 |m::l,x,h0,h=>by
  have hm:=h0 m At9;have hl:0<=l.sum:=by
   have:∀l:List Int,(∀m∈l,0<=m)->0<=l.sum:=by
    intro l
    induction l with
    |nil=>intro _;simp
    |cons a l ih=>intro h;have:=ih (λm hm=>h m (Aj2 _ hm));have:=h a At9;rw[Au2];omega
   exact this l λm hm=>h0 m (Aj2 _ hm)
  rw[Au2,show(m+l.sum).toNat=m.toNat+l.sum.toNat by omega,Aux]at h;have ih:=uS c l (x.drop (m.toNat*c)) (λm hm=>h0 m (Aj2 _ hm)) (by rw[Asn];omega);rw[Yw,Ay0,ih,Awu]
theorem lY(c:Nat)(x:List Int32)(hx:x.length<=4000):∀(l:List Int) (a:Nat),(∀m∈l,1<=m)->a+l.sum.toNat*c=x.length->Oj (c:Int) x l (a:Int)=some (Yw c (x.drop a) l)
 |[],a,_,_=>rfl
 |m::l,a,h1,ha=>by
  have hm:=h1 m At9;have hl:=h1;have hs:0<=l.sum:=by
   have:∀l:List Int,(∀m∈l,1<=m)->0<=l.sum:=by
    intro l
    induction l with
    |nil=>intro _;simp
    |cons a l ih=>intro h;have:=ih (λm hm=>h m (Aj2 _ hm));have:=h a At9;rw[Au2];omega
   exact this l λm hm=>h1 m (Aj2 _ hm)
  obtain⟨k,rfl⟩:=Ake (show 0<=m by omega);rw[Au2,show((k:Int)+l.sum).toNat=k+l.sum.toNat by omega,Aux]at ha;have hkc:Bd (k:Int) (c:Int)=((k*c:Nat):Int):=by rw[Gt (by rw[<-Awx];omega) (by rw[<-Awx];omega),<-Awx]
  have hadd:Ae (a:Int) ((k*c:Nat):Int)=((a+k*c:Nat):Int):=by rw[Ag];omega
  have ih:=lY c x hx l (a+k*c) (λm hm=>h1 m (Aj2 _ hm)) (by omega);rw[Oj,hkc,hadd,Pp,Aa,ih,Aa,Yw,Aiq,Aiq,Aiq,Azb,List.drop_take,Av7]
theorem Afh(w c:Nat)(hb:Cf (w:Int))(h1:1<=c)(h6:c<=6)(t:List Int32)(ht:t.length=16):∀(xs:List (List Int32)) (o:List LB),o.length+xs.length<=10000-> (∀y∈xs,1<=y.length/\y.length<=4000/\y.length %c=0/\inR (w:Int) y)->
  Of (c:Int) (w:Int) t xs o=some (o++xs.map (Ni (w:Int) c t),0)
 |[],o,_,_=>by rw[Of];simp
 |x::xs,o,ho,h=>by
  obtain⟨a1,a2,a3,a4⟩:=h x At9;rw[Aj1]at ho;have ih:=Afh w c hb h1 h6 t ht xs (o++[Ni (w:Int) c t x]) (by simp;omega) (λy hy=>h y (Aj2 _ hy));rw[Of,Y3 hb ht h1 h6 a1 a2 a3 a4,Aa,Aba (by simp[Ak]),Cx (by simp;omega),Aa,ih,Aw7];simp
theorem mR(c:Nat)(h1:1<=c):∀(l:List Int) (x:List Int32),(∀m∈l,1<=m)->x.length=l.sum.toNat*c->∀y∈Yw c x l,1<=y.length/\y.length<=x.length/\y.length %c=0/\∀v∈y,v∈x
 |[],x,_,_=>λy hy=>by simp[Yw]at hy
 |m::l,x,hm,hx=>by
  have hm1:=hm m At9;have hl:0<=l.sum:=by
   have:∀l:List Int,(∀m∈l,1<=m)->0<=l.sum:=by
    intro l
    induction l with
    |nil=>intro _;simp
    |cons a l ih=>intro h;have:=ih (λm hm=>h m (Aj2 _ hm));have:=h a At9;rw[Au2];omega
   exact this l λm hm'=>hm m (Aj2 _ hm')
  rw[Au2,show(m+l.sum).toNat=m.toNat+l.sum.toNat by omega,Aux]at hx;have hpos:1<=m.toNat*c:=Nat.mul_pos (by omega) h1;intro y hy;rw[Yw,List.mem_cons]at hy;rcases hy with rfl|hy
  ·have hlen:(x.take (m.toNat*c)).length=m.toNat*c:=by rw[Afw];omega
   rw[hlen];exact⟨hpos,by omega,Axv _ _,λv hv=>List.mem_of_mem_take hv⟩
  ·obtain⟨a1,a2,a3,a4⟩:=mR c h1 l (x.drop (m.toNat*c)) (λm hm'=>hm m (Aj2 _ hm')) (by rw[Asn];omega) y hy;rw[Asn]at a2;exact⟨a1,by omega,a3,λv hv=>Azi (a4 v hv)⟩
theorem xR(bits:Int)(ch:Nat)(t x:List Int32)(h0:1<=x.length)(h4:x.length<=4000):5<= (Ni bits ch t x).length/\ (Ni bits ch t x).length<=15*x.length:=by
 have h5:=zM bits ch t x h0 h4;have h:=eK ch (Js bits ch t x) x.length;refine⟨h5.1,?_⟩;rw[Ni,Aby,Bn,QM,Vn];omega
def Cl(fs:List LB):List Int:=fs.map λf=>(f.length:Int)
theorem Hj(fs:List LB):(Cl fs).length=fs.length:=by rw[Cl,List.length_map]
theorem GL:∀fs:List LB,(Cl fs).sum=(fs.flatten.length:Int)
 |[]=>rfl
 |f::fs=>by rw[Cl,Aw7,Au2,Ay0,Aby,show(fs.map λf=>(f.length:Int))=Cl fs from rfl,GL fs];omega
theorem Aj7(bits:Int)(ch:Nat)(t:List Int32):∀ys:List (List Int32),(∀y∈ys,1<=y.length/\y.length<=4000)-> ((ys.map (Ni bits ch t)).flatten).length<=15*ys.flatten.length
 |[],_=>by simp
 |y::ys,h=>by
  have ih:=Aj7 bits ch t ys λy hy=>h y (Aj2 _ hy);obtain⟨h1,h4⟩:=h y At9;have:=(xR bits ch t y h1 h4).2;rw[Aw7,Ay0,Ay0,Aby,Aby];omega
def Ex(p:LB):Nat:=if p=[]then 1 else 2
def WS(p:LB):LB:=if p=[]then []else On (Wa p).toNat 8
theorem qF(p:LB):Ex p=1\/Ex p=2:=by unfold Ex;split<;>simp
theorem SD(p:LB):(WS p).length=if Ex p=2 then 8 else 0:=by
 unfold WS Ex;by_cases h:p=[]
 ·rw[Abb h,Abb h];rfl
 ·rw[Aba h,Aba h,Bn];rfl
def dM(c r n:Nat)(x:List Int32):List (List Int32):=Yw c x (Aq (Au r) n)
def EM(c w r n:Nat)(x:List Int32)(p:LB):List LB:=(dM c r n x).map (Ni (w:Int) c (Wp p))
def Gg(c w r n:Nat)(x:List Int32)(p:LB):LB:=AQ (Ex p) c w r n++(WS p++(UY (Cl (EM c w r n x p))++(EM c w r n x p).flatten))
theorem AL{g n:Nat}(hg:1<=g)(h1:1<=n):∀m∈Aq g n,1<=m:=by
 intro m hm;rw[Aq,List.mem_append,List.mem_replicate,List.mem_singleton]at hm;have h:=Axb (n-1) g;rcases hm with⟨_,rfl⟩|rfl
 ·omega
 ·omega
section
variable {c w r n:Nat} {x:List Int32} (h:ClipOk c w r n x)
include h
theorem ClipOk.sum:(Aq (Au r) n).sum=(n:Int):=wm h.cnt.1
omit h in
theorem Abo:(dM c r n x).length=(Aq (Au r) n).length:=oC _ _ _
theorem Ahl:(dM c r n x).flatten=x:=by
 refine uS _ _ _ (λm hm=>?_) ?_
 ·have:=AL (Qg r) h.cnt.1 m hm;omega
 ·rw[h.sum,h.len,Aiq]
theorem YD:∀y∈dM c r n x,1<=y.length/\y.length<=4000/\y.length %c=0/\inR (w:Int) y:=by
 intro y hy;obtain⟨a1,a2,a3,a4⟩:=mR c h.ch.1 _ _ (AL (Qg r) h.cnt.1) (by rw[h.sum,h.len,Aiq]) y hy;have:=h.le;exact⟨a1,by omega,a3,λv hv=>h.rng v (a4 v hv)⟩
omit h in
theorem kU(p:LB):(EM c w r n x p).length=(Aq (Au r) n).length:=by rw[EM,List.length_map];exact oC _ _ _
theorem Akw(p:LB):1<= (EM c w r n x p).length/\ (EM c w r n x p).length<=1000:=by
 rw[kU,Zv];exact⟨Nat.le_add_left _ _,h.fr⟩
theorem Abe(p:LB):((EM c w r n x p).flatten).length<=15*x.length:=by
 have:=Aj7 (w:Int) c (Wp p) (dM c r n x) λy hy=>⟨(YD h y hy).1,(YD h y hy).2.1⟩;rw[Ahl h]at this;exact this
theorem An2(p:LB):∀f∈EM c w r n x p,5<=f.length:=by
 intro f hf;rw[EM,List.mem_map]at hf;obtain⟨y,hy,rfl⟩:=hf;exact(xR _ _ _ _ (YD h y hy).1 (YD h y hy).2.1).1
theorem yH(p:LB):JX (Cl (EM c w r n x p))=true:=by
 have h1:=Akw h p;have h2:=Abe h p;have h3:=h.le;simp only[JX,Abz,Ab2];rw[kF _ _ (by omega),Hj,GL];refine⟨by omega,λz hz=>?_,by omega⟩;rw[Cl,List.mem_map]at hz;obtain⟨f,hf,rfl⟩:=hz;have:=An2 h p f hf;omega
omit h in
theorem Ahf(p:LB):(Gg c w r n x p).length=22+(if Ex p=2 then 8 else 0)+(4*(EM c w r n x p).length+4)+(EM c w r n x p).flatten.length:=by
 rw[Gg,Aby,Aby,Aby,EH,SD,iC,Hj];omega
theorem Abl(p:LB):(Gg c w r n x p).length<=34+4*(EM c w r n x p).length+15*x.length:=by
 have h1:=Ahf (c:=c) (w:=w) (r:=r) (n:=n) (x:=x) p;have h2:=Abe h p;split at h1<;>omega
theorem O7(p:LB):(Gg c w r n x p).length<=64034:=by
 have:=Abl h p;have:=Akw h p;have:=h.le;omega
theorem Aj9(hk:Df (c:Int) (w:Int) (r:Int) x=some 0)(p:LB)(hp:p.length<=64):TM (c:Int) (w:Int) (r:Int) x p=some ((Ex p:Int),(c:Int),(w:Int),(r:Int),(n:Int),0):=by
 have hc:=h.ch;have hq:Bz (Ac x) (c:Int)=(n:Int):=by rw[Ac,tI (by have:=h.le;omega),h.len,Nat.mul_div_cancel _ (by omega)]
 rw[TM,AU,hk,Aa,Aba (by decide),Aba (by rw[Al,Ac];simp;omega),Be (by rw[Ak];simp;omega),Aa,QD,gD,hq,Ex];by_cases h0:p=[]
 ·rw[Aba (by simp[h0]),Abb h0];rfl
 ·rw[Abb (by simpa using h0),Aba h0];rfl
theorem vO(hk:Df (c:Int) (w:Int) (r:Int) x=some 0)(p:LB)(hp:p.length<=64):IY (c:Int) (w:Int) (r:Int) x p=some (EM c w r n x p,0):=by
 have hc:=h.ch;have hle:=h.le;have hr:=h.rate;have hq:Bz (Ac x) (c:Int)=(n:Int):=by rw[Ac,tI,h.len,Nat.mul_div_cancel _ (by omega)]
 have hcut:RG (c:Int) (r:Int) x=some (dM c r n x):=by
  have hp:=lY c x (by omega) (Aq (Au r) n) 0 (AL (Qg r) h.cnt.1) (by rw[h.sum,h.len,Aiq];omega);rw[RG,Be (by rw[Ak];simp;omega),Aa,hq,Abg hr.1 hr.2 h.cnt.1 (by omega) h.fr,Aa,Be (by have:=h.fr;simp only[Ac,Zv,Ab2];omega),Aa];exact hp
 have hfs:=Afh w c h.bits hc.1 hc.2 (Wp p) (nC p) (dM c r n x) [] (by rw[Abo,Zv];exact Azu (Nat.add_le_add_left h.fr _) (by simp)) (YD h);rw[IY,hk,Aa,Aba (by decide),O6 p hp,Aa];simp only;rw[Aba (by decide),hcut,Aa,hfs];rfl
omit h in
theorem zC(a:List LB)(b f:LB)(v:LB)(ha:a.length<=1000)(hfin:Ry (Cl a) a b f=some (v,0)):∀(j i q:Nat),i+j=a.length->j<q->Qd a b f q (i:Int) (Cl (a.take i)++List.replicate j 0)=some (v,0)
 |j,i,0,_,h=>absurd h (Ax3 _)
 |0,i,q+1,hi,_=>by
  rw[Qd,DA,Aba (by rw[Af,Ac];simp;omega),Aoy (by omega),List.replicate_zero,Aun];exact hfin
 |j+1,i,q+1,hi,hq=>by
  have ih:=zC a b f v ha hfin j (i+1) q (by omega) (by omega);have hi1:Ae (i:Int) 1=((i+1:Nat):Int):=by rw[Ag];omega
  have hll:(Cl (a.take i)).length=i:=by rw[Hj,Afw];omega
  have hset:(Cl (a.take i)++List.replicate (j+1) (0:Int)).set i (Ac a[i])=Cl (a.take (i+1))++List.replicate j 0:=by
   rw[Avq,YN hll,Nf (by omega),Cl,Cl,List.map_append,Adn];rfl
  rw[Qd,DA,Abb (by rw[Af,Ac];simp;omega),Ck,Aa,Aa,UO,Aa,Ck (by rw[Aby,hll,Ash];omega),Aa,Rg _ (by rw[Aby,hll,Ash];omega),Aa,hset,LH,bU,hi1];exact ih
theorem ni(hk:Df (c:Int) (w:Int) (r:Int) x=some 0)(p:LB)(hp:p.length<=64):KL (c:Int) (w:Int) (r:Int) x p=some (Gg c w r n x p,0):=by
 have hn:=Akw h p;have hfin:Ry (Cl (EM c w r n x p)) (EM c w r n x p) (AQ (Ex p) c w r n) (WS p)=some (Gg c w r n x p,0):=by
  have hl:=O7 h p;rw[Ry,KX,Abs,Abb (yH h p),Aa];simp only;rw[LZ,bW,Aba (by decide),Cx (by simp;omega),Aa,join_eq _ (by simp;omega) (by
   have:(([AQ (Ex p) c w r n,WS p,UY (Cl (EM c w r n x p))]++EM c w r n x p).flatten)=Gg c w r n x p:=by simp[Gg]
   rw[this];omega),Aa]
  simp[Gg]
 have hlp:=zC (EM c w r n x p) (AQ (Ex p) c w r n) (WS p) _ (by omega) hfin (EM c w r n x p).length 0 Ar (by omega) (by have:=Am;omega);have h8:CK (EM c w r n x p) (AQ (Ex p) c w r n) (WS p)=some (Gg c w r n x p,0):=by
  rw[CK,OJ,qQ (by unfold Ac;omega) (by unfold Ac;omega),Aa,Be (by rw[Bc];simp),Aa];exact hlp
 rw[KL,OX,Aj9 h hk p hp,Aa];simp only;rw[Aba (by decide),vO h hk p hp,Aa];simp only;rw[Aba (by decide),Z9 (h.shape _ (qF p)) h.fit,Aa];simp only;rw[Aba (by decide)];by_cases h0:p=[]
 ·have e1:Ex p=1:=by rw[Ex,Abb h0]
  have e2:WS p=[]:=by rw[WS,Abb h0]
  rw[e2]at h8;rw[Aba (by rw[e1];decide)];exact h8
 ·have e1:Ex p=2:=by rw[Ex,Aba h0]
  have e2:WS p=On (Wa p).toNat 8:=by rw[WS,Aba h0]
  rw[e2]at h8;rw[Abb (by rw[e1];decide),sE p hp,Aa];exact h8
end
theorem KO{a m z:LB}{i k:Nat}(hi:a.length=i)(hk:m.length=k):part (a++(m++z)) i k=m:=by
 subst hi hk;rw[part,List.take_append,Aoy (by omega),List.drop_left',Av7,Av6 (Aj0 _),Axc];rfl
theorem Sd(f c w r n:Nat)(z:LB):AQ f c w r n++z=Hz++(On f 2++(On c 2++(On w 2++(On r 4++(On n 4++(On (Da (tT f c w r n)).toNat 4++z)))))):=by
 simp only[AQ,tT,Adn]
theorem K7{f c w r n:Nat}(h1:Fe f c w r n=true)(h2:CM c r n=true)(z:LB):Gn (AQ f c w r n++z)=((f:Int),(c:Int),(w:Int),(r:Int),(n:Int),0):=by
 have hs:(f=1\/f=2)/\ (1<=c/\c<=6)/\ (w=8\/w=16\/w=24)/\ (1<=r/\r<=1048576)/\1<=n:=by simpa only[Fe,Ab2]using h1
 have hn:n<=4000:=by
  simp only[CM,Ab2]at h2;have:=Asv 4000 c;omega
 have hlen:22<= (AQ f c w r n++z).length:=by rw[Aby,EH];omega
 have m4:min 4 (AQ f c w r n++z).length=4:=by omega
 have e4:(AQ f c w r n++z).take 4=Hz:=by rw[Sd];rfl
 have e18:(AQ f c w r n++z).take 18=tT f c w r n:=by
  rw[AQ,Adn,Av6 (by rw[XC];omega),Aoy (by rw[XC];omega)]
 have hlt:=(Da (tT f c w r n)).toNat_lt;have p18:part (AQ f c w r n++z) 18 4=On (Da (tT f c w r n)).toNat 4:=by
  rw[AQ,Adn];exact KO (XC _ _ _ _ _) (Bn _ _)
 have q0:f0 (AQ f c w r n++z)=f:=by
  rw[f0,Sd,KO (a:=Hz) (i:=4) (k:=2) rfl (Bn _ _),Yc];omega
 have q1:f1 (AQ f c w r n++z)=c:=by
  rw[f1,Sd,<-Adn,KO (by simp[Hz,Bn]) (Bn _ _),Yc];omega
 have q2:f2 (AQ f c w r n++z)=w:=by
  rw[f2,Sd,<-Adn,<-Adn,KO (by simp[Hz,Bn]) (Bn _ _),Yc];omega
 have q3:f3 (AQ f c w r n++z)=r:=by
  rw[f3,Sd,<-Adn,<-Adn,<-Adn,KO (by simp[Hz,Bn]) (Bn _ _),Yc];omega
 have q4:f4 (AQ f c w r n++z)=n:=by
  rw[f4,Sd,<-Adn,<-Adn,<-Adn,<-Adn,KO (by simp[Hz,Bn]) (Bn _ _),Yc];omega
 have h:=rs6 (b:=AQ f c w r n++z) (by rw[m4,e4];rfl) (by omega) (by rw[e18,p18,Yc];omega) (by rw[q0,q1,q2,q3,q4];exact h1) (by rw[q1,q3,q4];exact h2);rw[q0,q1,q2,q3,q4]at h;exact h
theorem Akr(l:List Int)(z:LB){i:Nat}(hi:i<l.length):part (SI l++z) (4*i) 4=On (l[i]).toNat 4:=by
 have hs:SI l=SI (l.take i)++(On (l[i]).toNat 4++SI (l.drop (i+1))):=by
  conv=>lhs;rw[<-Awu i l,drop_cons hi]
  rw[SI,SI,SI,List.flatMap_append,List.flatMap_cons]
 rw[hs,Adn,Adn];exact KO (by rw[IE,Afw];omega) (Bn _ _)
theorem Ahd{l:List Int}(ht:JX l=true)(z:LB):Hy (UY l++z) l.length=(l,0):=by
 have h:=ht;simp only[JX,Abz,Ab2]at h;obtain⟨hn,h3⟩:=h;have h4:=(kF l 100000 (by omega)).1 h3;have h6:=R9 h4.1;have hlt:=(Da (SI l)).toNat_lt;have e1:(UY l++z).take (4*l.length)=SI l:=by
  rw[UY,Adn,Av6 (by rw[IE];omega),Aoy (by rw[IE];omega)]
 have e2:part (UY l++z) (4*l.length) 4=On (Da (SI l)).toNat 4:=by
  rw[UY,Adn];exact KO (IE _) (Bn _ _)
 have e3:NU (UY l++z) l.length=l:=by
  apply Au5
  ·rw[Xp]
  ·intro i h1 h2;have hx:=h4.1 l[i] (Au9 _);have hy:=h6 l[i] (Au9 _);simp only[NU,Aya,Ax1];rw[UY,Adn,Akr l _ h2,Yc];omega
 rw[ss4 hn (by rw[Aby,iC];omega) (by rw[e1,e2,Yc];omega),e3,Abb ht]
theorem Aad{b p:LB}{f c w r n T:Nat}{l:List Int}{z:LB}(hp:p.length<=64)(hf:f=Ex p)(h1:Fe f c w r n=true)(h2:CM c r n=true)(hT:De b=((T:Int),0))(hb:b.length<=100000)(hd:b.drop T=AQ f c w r n++(WS p++(UY l++z)))
  (hl:l.length=(Aq (Au r) n).length) (ht:JX l=true):Opn b p f c w r n (T+22+(if f=2 then 8 else 0)+4*l.length+4) l:=by
 have hlen:=congrArg List.length hd;rw[Asn,Aby,Aby,Aby,EH,SD,iC,<-hf]at hlen;have Ayy:l.length<=1000/\1<=l.length:=by
  have h:=ht;simp only[JX,Abz,Ab2]at h;omega
 have hread:Gn (b.drop T)=((f:Int),(c:Int),(w:Int),(r:Int),(n:Int),0):=by rw[hd];exact K7 h1 h2 _
 have t22:Ae (T:Int) 22=((T+22:Nat):Int):=by rw[Ag];omega
 have t30:Ae ((T+22:Nat):Int) 8=((T+30:Nat):Int):=by rw[Ag];omega
 have d22:b.drop (T+22)=WS p++(UY l++z):=by
  rw[<-Azb,hd,<-EH f c w r n,Axy]
 have dA:b.drop (T+22+(if f=2 then 8 else 0))=UY l++z:=by
  rw[<-Azb,d22,hf,<-SD p,Axy]
 have hend:∀A:Nat,A<=b.length->A=T+22+(if f=2 then 8 else 0)->Cg b p=Ma b (f:Int) (c:Int) (w:Int) (r:Int) (n:Int) (A:Int)->Cg b p=some ((f:Int),(c:Int),(w:Int),(r:Int),(n:Int),((A+4*l.length+4:Nat):Int),l,0):=by
  intro A hA hA2 e;rw[e,jX h1 h2 b (by omega) A hA,hA2,dA,<-hl,Ahd ht,Aba (by simp)]
 have hprog:Cg b p=some ((f:Int),(c:Int),(w:Int),(r:Int),(n:Int),((T+22+(if f=2 then 8 else 0)+4*l.length+4:Nat):Int),l,0):=by
  refine hend (T+22+(if f=2 then 8 else 0)) (by omega) rfl ?_;rw[Cg,Lw,Aba (by rw[Al,Ac];simp;omega),Aba (by rw[Al,Ac];simp;omega),Lp b (by omega),hT,Aa];simp only;rw[Aba (by decide),Fw,Aa,Aiq,HD _ (by rw[Asn];omega),Aa,hread];simp only;rw[Aba (by decide)];by_cases h0:p=[]
  ·have e1:f=1:=by rw[hf,Ex,Abb h0]
   rw[Aba (by rw[h0,e1];decide),Aba (by rw[h0];decide),t22,e1];rfl
  ·have e1:f=2:=by rw[hf,Ex,Aba h0]
   have hne:(p !=([]:LB))=true:=by simpa using h0
   have hne2:(p==([]:LB))=false:=by simpa using h0
   have hdg:WS p=On (Wa p).toNat 8:=by rw[WS,Aba h0]
   have hseg:(b.take (T+30)).drop (T+22)=On (Wa p).toNat 8:=by
    rw[List.drop_take,show T+30-(T+22)=8 by omega,d22,hdg,Av6 (by rw[Bn];omega),Aoy (by rw[Bn];omega)]
   rw[e1,Abb rfl]at hlen;rw[Aba (by rw[hne2,e1];decide),Abb hne,t22,t30,Aba (by rw[Af,Ac];simp;omega),Pp,Aa,Aiq,Aiq,hseg,yO (Bn _ _) hp,Aa];simp only;rw[Aba (by decide),Aba (by simp),e1];rfl
 rcases wN b p (by omega) hp with⟨e,he,h,_⟩|⟨f',c',w',r',n',A',l',o⟩
 ·rw[hprog]at h;have:=congrArg (λo=>(o.getD (NR 0)).2.2.2.2.2.2.2) h;simp only[Option.getD_some,NR]at this;exact absurd this.symm he
 ·have h:=o.prog;rw[hprog]at h;simp only[Ajx,Auu]at h;obtain⟨i1,i2,i3,i4,i5,i6,i7,_⟩:=h;have j1:f=f':=by omega
  have j2:c=c':=by omega
  have j3:w=w':=by omega
  have j4:r=r':=by omega
  have j5:n=n':=by omega
  have j6:=Int.ofNat.inj i6;subst j1 j2 j3 j4 j5 i7;rw[j6];exact o
theorem dS{b:LB}(h:b.take 4=Hz):De b=(0,0):=by
 have h4:4<=b.length:=by
  have:=congrArg List.length h;rw[Afw]at this;simp only[Hz,Aj1,List.length_nil]at this;omega
 have h3:b.take 3≠ [73,68,51]:=by
  intro e;have:(b.take 4).take 3=[73,68,51]:=by rw[Axn];exact e
  rw[h]at this;exact absurd this (by decide)
 have h8:b.take 8≠J0:=by
  intro e;have:(b.take 8).take 4=Hz:=by rw[Axn];exact h
  rw[e]at this;exact absurd this (by decide)
 have hs:Ec b=(0,6):=by
  have h1:MN b=(0,6):=by rw[MN,Abb (by intro hh;exact h3 hh.2)]
  rw[Ec,h1,Aba (by decide),fa1 (by intro hh;exact h8 hh.2)]
 rw[De,ru,Cv,Ax0,hs];rfl
theorem fE:∀{l:List Int},(∀x∈l,0<=x)->∀k,0<= (l.take k).sum
 |[],_,k=>by simp
 |x::l,h,0=>by simp
 |x::l,h,k+1=>by
  have:=fE (l:=l) (λy hy=>h y (Aj2 _ hy)) k;have:=h x At9;rw[List.take_succ_cons,Au2];omega
theorem sN(fs:List LB)(k:Nat):(Cl fs).take k=Cl (fs.take k):=by rw[Cl,Cl,List.map_take]
theorem As3{b z:LB}{A:Nat}{fs:List LB}(hd:b.drop A=fs.flatten++z){k:Nat}(hk:k<fs.length):vS b A (Cl fs) k=fs[k]:=by
 have e0:fs.flatten=(fs.take k).flatten++(fs[k]++(fs.drop (k+1)).flatten):=by
  conv=>lhs;rw[<-Awu k fs,drop_cons hk]
  rw[Azo,Ay0]
 have s1:((Cl fs).take k).sum=((fs.take k).flatten.length:Int):=by rw[sN,GL]
 have s2:((Cl fs).take (k+1)).sum=((fs.take k).flatten.length+fs[k].length:Nat):=by rw[sN,GL,Nf hk,Azo];simp
 rw[vS,s1,s2,show((A:Int)+((fs.take k).flatten.length+fs[k].length:Nat)).toNat=A+((fs.take k).flatten.length+fs[k].length) by omega,show((A:Int)+((fs.take k).flatten.length:Int)).toNat=A+(fs.take k).flatten.length by omega,
  List.drop_take,<-Azb,hd,e0,Adn,Axy,Nat.add_sub_add_left,Av7,Adn,List.take_left]
theorem Ai8{b z:LB}{A:Nat}{fs:List LB}(hd:b.drop A=fs.flatten++z)(hA:A<=b.length)(k:Nat):(A:Int)+((Cl fs).take k).sum<=b.length:=by
 have h:=congrArg List.length hd;rw[Asn,Aby]at h;have h2:(fs.take k).flatten.length<=fs.flatten.length:=by
  conv=>rhs;rw[<-Awu k fs,Azo,Aby]
  omega
 rw[sN,GL];omega
section
variable {b p:List UInt8} {f c w r n A:Nat} {fs:List LB} {z:LB} (o:Opn b p f c w r n A (Cl fs)) (hd:b.drop A=fs.flatten++z)
include o hd
theorem Auq{k:Nat}(hk:k<fs.length){y:List Int32}{e:Int}{m:Nat}(hm:Aj (Aq (Au r) n) (k:Int)=some (m:Int))(hdec:Lm (c:Int) (w:Int) (Wp p) (m:Int) fs[k]=some (y,e)):
  (QP b p f c w r n A (Cl fs) k).2=e/\ (e=0->QP b p f c w r n A (Cl fs) k=(Er (w:Int) y,0)/\smF w (QP b p f c w r n A (Cl fs) k)=y):=by
 have hkl:k<(Cl fs).length:=by rw[Hj];exact hk
 obtain⟨m',x',s',e',g⟩:=NX o k hkl;have hin:=Ai8 hd o.at' (k+1);have hmm:m'=m:=by
  have:=g.mom;rw[hm]at this;have:=At5 this;omega
 subst hmm;rcases g.way with⟨h1,_⟩|⟨_,h2,_⟩
 ·omega
 ·rw[As3 hd hk,hdec]at h2;simp only[Ajx,Auu]at h2;obtain⟨rfl,rfl⟩:=h2;refine⟨by rw[g.eq],λhe=>?_⟩;have:=g.rK (eS o.shape).2.1;obtain⟨h3,_⟩:=g.some' he;rw[g.eq,this,h3,he];exact⟨rfl,rfl⟩
end
theorem zL(c:Nat)(h1:1<=c):∀(l:List Int) (x:List Int32),(∀m∈l,1<=m)->x.length=l.sum.toNat*c->∀(k:Nat) (hk:k<l.length) (hk':k<(Yw c x l).length),(Yw c x l)[k].length=l[k].toNat*c
 |[],x,_,_=>λk hk=>absurd hk (Ax3 _)
 |m::l,x,hm,hx=>by
  have hm1:=hm m At9;have hl:0<=l.sum:=by
   have:=fE (l:=l) (λy hy=>by have:=hm y (Aj2 _ hy);omega) l.length;rw[Axc]at this;exact this
  rw[Au2,show(m+l.sum).toNat=m.toNat+l.sum.toNat by omega,Aux]at hx;intro k hk hk';cases k with
  |zero=>simp only[Yw,List.getElem_cons_zero,Afw];omega
  |succ k=>
   simp only[Yw,List.getElem_cons_succ];exact zL c h1 l (x.drop (m.toNat*c)) (λm hm'=>hm m (Aj2 _ hm')) (by rw[Asn];omega) k (by simpa using hk) _
structure FileOf (c w r n:Nat) (x:List Int32) (p:LB) (T:Nat) (fs:List LB) (z b:LB):Prop where
 clip:ClipOk c w r n x
 pass:p.length<=64
 front:De b=((T:Int),0)
 le:b.length<=100000
 lens:Cl fs=Cl (EM c w r n x p)
 form:b.drop T=AQ (Ex p) c w r n++(WS p++(UY (Cl (EM c w r n x p))++(fs.flatten++z)))
def VR(T:Nat)(p:LB)(K:Nat):Nat:=T+22+(if Ex p=2 then 8 else 0)+4*K+4
section
variable {c w r n:Nat} {x:List Int32} {p:LB} {T:Nat} {fs:List LB} {z b:LB} (h:FileOf c w r n x p T fs z b)
include h
theorem FileOf.cnt:fs.length=(EM c w r n x p).length:=by
 have:=congrArg List.length h.lens;rw[Hj,Hj]at this;exact this
theorem FileOf.Ed:Opn b p (Ex p) c w r n (VR T p fs.length) (Cl fs):=by
 have hc:=h.clip;have hl:(Cl fs).length=(Aq (Au r) n).length:=by rw[Hj,h.cnt];exact kU p
 have ht:JX (Cl fs)=true:=by rw[h.lens];exact yH hc p
 have hd:=h.form;rw[<-h.lens]at hd;have:=Aad (z:=fs.flatten++z) h.pass rfl (hc.shape _ (qF p)) hc.fit h.front h.le hd hl ht;rw[Hj]at this;exact this
theorem FileOf.Ase:b.drop (VR T p fs.length)=fs.flatten++z:=by
 have hd:=h.form;rw[<-h.lens]at hd;have e:VR T p fs.length=T+(22+((if Ex p=2 then 8 else 0)+(4*fs.length+4))):=by unfold VR;omega
 have e2:4*fs.length+4=(UY (Cl fs)).length:=by rw[iC,Hj]
 rw[e,<-Azb,hd,<-Azb]
 conv=>lhs;rw[<-EH (Ex p) c w r n,Axy,<-Azb,<-SD p,Axy,e2,Axy]
theorem FileOf.mom{k:Nat}(hk:k<fs.length):∃(m:Nat) (hk':k<(dM c r n x).length),Aj (Aq (Au r) n) (k:Int)=some (m:Int)/\1<=m/\m<=4000/c/\ ((dM c r n x)[k]).length=m*c/\inR (w:Int) (dM c r n x)[k]/\ (EM c w r n x p)[k]'(by rw[<-h.cnt];exact hk)=Ni (w:Int) c (Wp p) (dM c r n x)[k]:=by
 have hc:=h.clip;have hlen:fs.length=(Aq (Au r) n).length:=by rw[h.cnt];exact kU p
 have hkf:k<(Aq (Au r) n).length:=by omega
 have hk':k<(dM c r n x).length:=by rw[Abo];exact hkf
 have hm1:=AL (Qg r) hc.cnt.1 _ (Au9 hkf);obtain⟨m,hm⟩:=Ake (show 0<= (Aq (Au r) n)[k] by omega);have hg:=zL c hc.ch.1 _ x (AL (Qg r) hc.cnt.1) (by rw[hc.sum,hc.len,Aiq]) k hkf hk';rw[hm,Aiq]at hg;have hmem:=YD hc _ (Au9 hk');have hx:=mR c hc.ch.1 _ x (AL (Qg r) hc.cnt.1) (by rw[hc.sum,hc.len,Aiq]) _ (Au9 hk');have hg':((dM c r n x)[k]).length=m*c:=hg;refine⟨m,hk',by rw[Ck hkf,hm],by omega,?_,hg',hmem.2.2.2,?_⟩
 ·have h1:=hx.2.1;have h2:m*c<=n*c:=by rw[<-hg',<-hc.len];exact h1
  have h3:m<=n:=Nat.le_of_mul_le_mul_right h2 hc.ch.1;exact Azu h3 hc.cnt.2
 ·simp only[EM,Aya]
theorem FileOf.Axg{k:Nat}(hk:k<fs.length)(he:fs[k]=(EM c w r n x p)[k]'(by rw[<-h.cnt];exact hk)):
  QP b p (Ex p) c w r n (VR T p fs.length) (Cl fs) k=(Er (w:Int) ((dM c r n x).getD k []),0)/\smF w (QP b p (Ex p) c w r n (VR T p fs.length) (Cl fs) k)=(dM c r n x).getD k []:=by
 have hc:=h.clip;obtain⟨m,hk',h1,h2,h3,h4,h5,h6⟩:=h.mom hk;have hd:=(Adh hc.bits (nC p) hc.ch.1 hc.ch.2 h2 h3 h4 h5).1;have hg:=Auq h.Ed h.Ase hk h1 (by rw[he,h6];exact hd);have e:(dM c r n x).getD k []=(dM c r n x)[k]:=by rw[List.getD_eq_getElem?_getD,List.getElem?_eq_getElem hk'];rfl
 rw[e];exact hg.2 rfl
end
theorem rO{c w r n:Nat}{x:List Int32}(h:ClipOk c w r n x){p:LB}(hp:p.length<=64):FileOf c w r n x p 0 (EM c w r n x p) [] (Gg c w r n x p):=by
 refine⟨h,hp,dS ?_,by have:=O7 h p;omega,rfl,by rw[Aun];rfl⟩;rw[Gg,Sd];rfl
theorem Ali{l:List Int}(h:∀x∈l,0<=x){i j:Nat}(hij:i<=j):(l.take i).sum<= (l.take j).sum:=by
 obtain⟨d,rfl⟩:=Azm hij;rw[List.take_add,List.sum_append];have:=fE (l:=l.drop i) (λx hx=>h x (Azi hx)) d;omega
theorem Arw(fs:List LB):∀x∈Cl fs,0<=x:=by
 intro x hx;rw[Cl,List.mem_map]at hx;obtain⟨f,_,rfl⟩:=hx;omega
structure EncOk (c w r:Nat) (p:LB):Prop where
 ch:1<=c/\c<=6
 bits:Cf (w:Int)
 rate:1<=r/\r<=1048576
 pass:p.length<=64
def szE(c w:Nat):Nat:=c*wB (w:Int)
def nE(c w:Nat)(t:LB):Nat:=t.length/szE c w
def XE(c w:Nat)(t:LB):LX:=sxs (wB (w:Int)) (nE c w t*c) t
def qd(c r n:Nat):Prop:=n*c<=4000/\ (n=0\/ (n-1)/Au r+1<=1000)
instance(c r n:Nat):Decidable (qd c r n):=by unfold qd;exact inferInstance
theorem qd.mono{c r n m:Nat}(h:qd c r n)(hm:m<=n):qd c r m:=by
 obtain⟨h1,h2⟩:=h;have h3:=Ab4 c hm;have h4:(m-1)/Au r<= (n-1)/Au r:=Nat.div_le_div_right (by omega);refine⟨by omega,?_⟩;omega
def Cd(e:Int):Prop:=e=0\/e=4\/e=12\/e=16\/e=22\/e=24\/e=26\/e=38
instance(e:Int):Decidable (Cd e):=by unfold Cd;infer_instance
structure HdI (f c w r n:Int) (F C W R N:Nat):Prop where
 ef:f=F
 ec:c=C
 ew:w=W
 er:r=R
 en:n=N
 shape:Fe F C W R N=true
 fit:CM C R N=true
inductive FitD (o:LB) (f c w r n:Int) (g:LI) (a:Int) (x:LB):Prop
 |new:f=0->c=0->w=0->r=0->n=0->g=[]->a=0->x=[]->FitD o f c w r n g a x
 |head (F C W R N:Nat):HdI f c w r n F C W R N-> (o==([]:LB))=decide (F=1)->g=[]->a=0->x=[]->FitD o f c w r n g a x
 |tab (F C W R N A:Nat):HdI f c w r n F C W R N-> (o==([]:LB))=decide (F=1)->JX g=true->g.length=(Aq (Au R) N).length->a=A->A<=g.length->FitD o f c w r n g a x
def ID3:List UInt8:=[73,68,51]
def APX:List UInt8:=[65,80,69,84,65,71,69,88]
def Ajv(b s:List UInt8):Bool:=decide (b.length<s.length)&&(b==s.take b.length)
theorem Q2(b s:List UInt8):Ou b s=some (Ajv b s):=by
 rw[Ou,Ajv];by_cases h:b.length<s.length
 ·rw[Abb (by rw[Af,Ac,Ac];simp;omega),Ac,If,Aa,decide_eq_true h,Azd];rfl
 ·rw[Aba (by rw[Af,Ac,Ac];simp;omega),Ay4 h];rfl
def stS(b:List UInt8):Int×Int×Int×Int×Int×Int×Int:=
 if(De b).2=24 then(0,0,0,0,0,0, -1)else if(De b).2≠0 then(0,0,0,0,0,0,(De b).2)else
 if(Ajv (UZ b) ID3||Ajv (UZ b) APX)=true then(0,0,0,0,0,0, -1)else
 if(Gn (UZ b)).2.2.2.2.2=24 then(0,0,0,0,0,0, -1)else((De b).1+22,(Gn (UZ b)).1,(Gn (UZ b)).2.1,(Gn (UZ b)).2.2.1,(Gn (UZ b)).2.2.2.1,(Gn (UZ b)).2.2.2.2.1,(Gn (UZ b)).2.2.2.2.2)
theorem Aci(b:List UInt8)(hb:b.length<=100000):Uu b=some (stS b):=by
 rw[Uu,Zm,ZK b (by omega),Aa,stS];have hok:=rQ (b:=b);simp only;by_cases h1:(De b).2=24
 ·rw[Abb (by rw[Bc];simpa using h1),Abb h1]
 rw[Aba (by rw[Bc];simpa using h1),Aba h1];by_cases h2:(De b).2≠0
 ·rw[Abb (by rw[Ak];simpa using h2),Abb h2]
 have h0:(De b).2=0:=by simpa using h2
 obtain⟨k1,k2,k3⟩:=hok h0;rw[Aba (by rw[Ak,h0];simp),Aba h2,Fw,Aa,Q2,Aa,show b.drop (De b).1.toNat=UZ b from rfl,show([73,68,51]:LB)=ID3 from rfl,show([65,80,69,84,65,71,69,88]:LB)=APX from rfl];by_cases h3:Ajv (UZ b) ID3=true
 ·rw[Abb h3,h3,Bool.true_or,Abb rfl]
 rw[Aba h3,Q2,Aa,Bool.eq_false_iff.2 h3,Bool.false_or];by_cases h4:Ajv (UZ b) APX=true
 ·rw[Abb h4,Abb h4]
 have hl:(UZ b).length<=b.length:=by rw[UZ,Asn];omega
 rw[Aba h4,Aba h4,Zj,Zu,xP _ (by omega),Aa];simp only;by_cases h5:(Gn (UZ b)).2.2.2.2.2=24
 ·rw[Abb (by rw[Bc];simpa using h5),Abb h5]
 ·rw[Aba (by rw[Bc];simpa using h5),Aba h5,Ag]
structure SzD (p:LB) (g:LI) (a:Int) (x:LB):Prop where
 hp:p.length<=100000
 hg:g.length<=1000
 hx:x.length+12000*(g.length-a.toNat)<=13000000
section
variable {bk:LB->Int->Int->Int->Int->Int->Int->LI->LB->Hp} {o p:LB} {f c w r n:Int} {g:LI} {a:Int} {x:LB} {u:Bool} {v:Int}
theorem f62{d:Bool}{e:Int}:sW bk o u v a g x d e p f c w r n=Lj bk o u v p f c w r n a d e g x:=rfl
theorem f75{d:Bool}{e:Int}:tE bk o u v f c w r n a x d e p g=Lj bk o u v p f c w r n a d e g x:=rfl
theorem f78{d:Bool}{e:Int}:sS bk o u v f c w r n g d e p a x=Lj bk o u v p f c w r n a d e g x:=rfl
end
theorem bnd{α β:Type}{o:Option α}{f:α->Option β}{r:β}(h:Option.bind o f=some r):∃x,o=some x/\f x=some r:=by
 cases o with
 |none=>cases h
 |some x=>exact⟨x,rfl,h⟩
def OutB(f c w r n:Int)(g:LI)(a:Int)(x:LB):Prop:=∀(F C W R N A:Nat),HdI f c w r n F C W R N->g≠ []->a=(A:Int)-> (x.length:Int)<=Ann C W (Aq (Au R) N) A
theorem OutB.nil{f c w r n:Int}{a:Int}{x:LB}:OutB f c w r n [] a x:=λ_ _ _ _ _ _ _ h=>absurd rfl h
theorem OutB.zero{f c w r n:Int}{g:LI}:OutB f c w r n g 0 []:=λF C W R N A h hg ha=>by
 obtain rfl:A=0:=by omega
 rw[Ac6];simp
structure Wt (o p:LB) (f c w r n:Int) (g:LI) (a:Int) (x:LB):Prop where
 fit:FitD o f c w r n g a x
 sz:SzD p g a x
 out:OutB f c w r n g a x
 wait:DW o p f c w r n g a x false 0=some (o,p,f,c,w,r,n,g,a,x,false,0, -1)
abbrev Asq(q:Nat)(o p:LB)(f c w r n:Int)(g:LI)(a:Int)(x:LB):=KI q o p f c w r n g a x false 0
abbrev Fd(o s:LB):=Asq Ar o s 0 0 0 0 0 [] 0 []
inductive Bh (o s:LB):LB->Int->Int->Int->Int->Int->LI->Int->LB->Int->Prop
 |wt {p:LB} {f c w r n:Int} {g:LI} {a:Int} {x:LB}:Wt o p f c w r n g a x->p.length<=s.length-> (∀b:LB,(s++b).length<=100000->Fd o (s++b)=Asq Ar o (p++b) f c w r n g a x)->Bh o s p f c w r n g a x 0
 |er {x:LB} {e:Int}:0<e->Cd e->x.length<=12000-> (∀b:LB,(s++b).length<=100000->Fd o (s++b)=some (o,[],0,0,0,0,0,[],0,x,false,e,e))->Bh o s [] 0 0 0 0 0 [] 0 x e
variable {o s p:LB} {f c w r n:Int} {g:LI} {a:Int} {x:LB} {e:Int}
theorem Bh.new(ho:o.length<=64):Bh o [] [] 0 0 0 0 0 [] 0 [] 0:=by
 refine .wt ⟨.new rfl rfl rfl rfl rfl rfl rfl rfl,⟨by simp,by simp,by simp⟩,OutB.nil,?_⟩ (Aj0 _) λb _=>rfl;rw[DW,JH,Abb (by decide),Aci [] (by simp),Aa];rfl
end Go.Pl
namespace Go.Pl
open Go Go.Lv
section
variable {o s p:LB} {f c w r n:Int} {g:LI} {a:Int} {x:LB} {e:Int}
theorem FitD.drop(h:FitD o f c w r n g a x)(t:Nat):FitD o f c w r n g a (x.drop t):=by
 cases h with
 |new e1 e2 e3 e4 e5 e6 e7 e8=>subst e8;exact .new e1 e2 e3 e4 e5 e6 e7 (by simp)
 |head F C W R N hd hpw e6 e7 e8=>subst e8;exact .head F C W R N hd hpw e6 e7 (by simp)
 |tab F C W R N A hd hpw ht hl ea hA=>exact .tab F C W R N A hd hpw ht hl ea hA
theorem OutB.drop(h:OutB f c w r n g a x)(t:Nat):OutB f c w r n g a (x.drop t):=by
 intro F C W R N A hd hg ha;have:=h F C W R N A hd hg ha;rw[Asn];omega
end
theorem Anf{b b' p:LB}{f c w r n A:Nat}{l:LI}(o:Opn b p f c w r n A l)(o':Opn b' p f c w r n A l){k:Nat}(hk:k<l.length)(h1:(A:Int)+(l.take (k+1)).sum<=b.length)(h2:(A:Int)+(l.take (k+1)).sum<=b'.length)(hs:vS b A l k=vS b' A l k):QP b p f c w r n A l k=QP b' p f c w r n A l k:=by
 obtain⟨m,x,s,e,g⟩:=NX o k hk;obtain⟨m',x',s',e',g'⟩:=NX o' k hk;have hm:=g.mom;rw[g'.mom]at hm;have hm:=At5 hm;obtain rfl:m'=m:=by omega
 rcases g.way with⟨w1,_⟩|⟨_,w2,_⟩
 ·omega
 rcases g'.way with⟨w1,_⟩|⟨_,w2',_⟩
 ·omega
 rw[hs,w2']at w2;simp only[Ajx,Auu]at w2;obtain⟨rfl,rfl⟩:=w2;rw[g.eq,g'.eq];by_cases he:e'=0
 ·rw[(g.some' he).1,(g'.some' he).1]
 ·rw[(g.none' he).1,(g'.none' he).1]
theorem nu{c w r n:Nat}{x:List Int32}(h:ClipOk c w r n x){p:LB}(hp:p.length<=64){t:Nat}(ht:VR 0 p (EM c w r n x p).length<=t):Opn ((Gg c w r n x p).take t) p (Ex p) c w r n (VR 0 p (EM c w r n x p).length) (Cl (EM c w r n x p)):=by
 have fo:=rO h hp;have hl:(Cl (EM c w r n x p)).length=(Aq (Au r) n).length:=by rw[Hj];exact kU p
 have e2:(AQ (Ex p) c w r n++(WS p++UY (Cl (EM c w r n x p)))).length=VR 0 p (EM c w r n x p).length:=by
  rw[Aby,Aby,EH,SD,iC,Hj];unfold VR;omega
 have e1:(Gg c w r n x p).take t=AQ (Ex p) c w r n++(WS p++(UY (Cl (EM c w r n x p))++(EM c w r n x p).flatten.take (t-VR 0 p (EM c w r n x p).length))):=by
  have:Gg c w r n x p=(AQ (Ex p) c w r n++(WS p++UY (Cl (EM c w r n x p))))++(EM c w r n x p).flatten:=by simp[Gg]
  rw[this,List.take_append,Aoy (by omega),e2];simp
 have hA4:4<=t:=by unfold VR at ht;omega
 have:=Aad (b:=(Gg c w r n x p).take t) (T:=0) (z:=(EM c w r n x p).flatten.take (t-VR 0 p (EM c w r n x p).length)) hp rfl (h.shape _ (qF p)) h.fit (dS (by
  rw[Axn,show min 4 t=4 by omega,Gg,Sd];rfl)) (by rw[Afw];have:=fo.le;omega) (by rw[Ax0];exact e1) hl (yH h p)
 rw[Hj]at this;exact this
theorem Arb{c w r n:Nat}{x:List Int32}(h:ClipOk c w r n x){p:LB}(hp:p.length<=64){t:Nat}(ht:VR 0 p (EM c w r n x p).length<=t)(ht2:t<= (Gg c w r n x p).length){k:Nat}(hk:k<(EM c w r n x p).length)(hin:(VR 0 p (EM c w r n x p).length:Int)+((Cl (EM c w r n x p)).take (k+1)).sum<=t):
  QP ((Gg c w r n x p).take t) p (Ex p) c w r n (VR 0 p (EM c w r n x p).length) (Cl (EM c w r n x p)) k=(Er (w:Int) ((dM c r n x).getD k []),0):=by
 have fo:=rO h hp;have hg:=(fo.Axg hk rfl).1;rw[<-hg];refine Anf (nu h hp ht) fo.Ed (by rw[Hj];exact hk) (by rw[Afw];omega) (by omega) ?_;rw[vS,vS,Axn];congr 2;omega
section
variable {c w r n:Nat} {x:List Int32} (h:ClipOk c w r n x) {p:LB} (hp:p.length<=64) (h4:x.length<=400)
include h hp h4
omit hp in
theorem yQ:(Gg c w r n x p).length<=8000:=by
 have h1:=Abl h p;have h2:=kU (c:=c) (w:=w) (r:=r) (n:=n) (x:=x) p;rw[Zv]at h2;have h3:(n-1)/Au r<=n-1:=Asv _ _;have h5:n*1<=n*c:=Nat.mul_le_mul_left n h.ch.1;have h6:=h.len;have:=h.cnt;omega
end
inductive Pl (S D A:Int) (G:Nat->Int) (l:List Int) (a:Int):UInt8->Int->Int->Prop
 |t:a<S->Pl S D A G l a 1 0 0
 |h:S<=a->a<S+22->Pl S D A G l a 2 0 0
 |d:S+22<=a->a<D->Pl S D A G l a 3 0 0
 |s:S+22<=a->D<=a->a<A->Pl S D A G l a 4 0 0
 |f (i:Nat):S+22<=a->D<=a->A<=a->i<l.length->A+(l.take i).sum<=a->a<A+(l.take (i+1)).sum->Pl S D A G l a 5 i (G i)
 |b:S+22<=a->D<=a->A<=a->A+l.sum<=a->Pl S D A G l a 6 0 0
theorem Aft(X:Nat->List Int32)(E:Nat->Int)(be:Int){K:Nat}(hK:E K≠0):∀(j k:Nat) (acc:List Int32),k<=K->K<k+j-> (∀i,k<=i->i<K->E i=0)-> (wT X E be j k acc).2=E K
 |0,k,acc,h1,h2,_=>by omega
 |j+1,k,acc,h1,h2,h3=>by
  rw[wT];by_cases hk:k=K
  ·subst hk;rw[Abb hK]
  ·rw[Aba (by rw[h3 k (Aj0 _) (by omega)];simp)];exact Aft X E be hK j (k+1) _ (by omega) (by omega) (λi a b=>h3 i (by omega) b)
theorem ClipOk.enc{c w r n:Nat}{x:List Int32}(h:ClipOk c w r n x){p:LB}(hp:p.length<=64):EncOk c w r p:=⟨h.ch,h.bits,h.rate,hp⟩
theorem Aah{b p:LB}(hb:b.length<=20000)(hp:p.length<=64){e:Int}(he:e≠0)(h:Cg b p=some (NR e)):Kj b p=some (S1 e):=by
 rcases Aep b p (by omega) hp with⟨e',he',h1,_,h3,_⟩|⟨f,c,w,r,n,A,l,o,_,_⟩
 ·rw[h]at h1;have:=At5 h1;simp only[NR,Auu]at this;rw[this.2.2.2.2.2.2.2];exact h3
 ·have:=o.prog;rw[h]at this;have:=At5 this;simp only[NR,Auu]at this;exact absurd this.2.2.2.2.2.2.2 he
def pJ:LB:=[84,84,65,49,2,0,2,0,16,0,4,0,0,0,5,0,0,0,53,215,167,173,160,118,203,71,159,71,36,226,16,0,0,0,7,0,0,0,251,214,78,132,4,64,128,6,6,4,107,94,4,96,129,0,174,194,153,9,74,16,0,85,195,142,200]
theorem Aue:Nl [120]=some pJ:=by kernel_rfl
theorem is1:Ci pJ [120] 0=some true:=by kernel_rfl
theorem is2:Ci pJ [] 26=some true:=by kernel_rfl
theorem is3:Ci pJ [121] 26=some true:=by kernel_rfl
theorem is4:Ci (pJ++[0]) [120] 38=some true:=by kernel_rfl
theorem is5:Ci (pJ.take (pJ.length-1)) [120] 24=some true:=by kernel_rfl
def exG:LB:=[84,84,65,49,2,0,2,0,16,0,4,0,0,0,5,0,0,0,53,215,167,173,160,118,203,71,159,71,36,226,16,0,0,0,7,0,0,0,251,214,78,132,4,64,128,6,6,4,107,94,4,96,129,0,174,194,153,9,74,17,0,85,195,142,200]
theorem is6:Ci exG [120] 22=some true:=by kernel_rfl
theorem Api:Gw=some true:=by
 rw[Gw,Aue,Aa,Aba (by decide),show Db [] pJ=some pJ from by kernel_rfl,Aa,show Aj pJ (Ah (Ac pJ) 6)=some 16 from by kernel_rfl,Aa,show Je pJ (Ah (Ac pJ) 6) (Rk 16 1)=some exG from by kernel_rfl,Aa,
  is1,Aa,Aba (by decide),is2,Aa,Aba (by decide),is3,Aa,Aba (by decide),show Db pJ [0]=some (pJ++[0])from by kernel_rfl,Aa,is4,Aa,Aba (by decide),show Bw pJ 0 (Ah (Ac pJ) 1)=some (pJ.take (pJ.length-1))from by kernel_rfl,Aa,is5,Aa,Aba (by decide),is6]
theorem Ahj{b:LB}(hb:b.length<=100000)(hf:De b=(0,0)){v:H6}(hr:Gn b=v)(he:v.2.2.2.2.2≠0):∃r1 r2 r3 r4 r5,Ng b=some (r1,r2,r3,r4,r5,0,0,0,0,0,[],v.2.2.2.2.2):=by
 obtain⟨v1,v2,v3,v4,v5,v6⟩:=v;simp only at he⊢;refine⟨v1,v2,v3,v4,v5,?_⟩;rw[Ng,Aba (by rw[Al,Ac];simp;omega),Lp b (by omega),hf,Aa];simp only;rw[Aba (by decide),Fw,Aa,Azy,Ax0,HD _ (by omega),hr,Aa];simp only;rw[Abb (by rw[Ak];simpa using he)]
theorem Alf{b:LB}{f c w r n:Nat}(hb:b.length<=100000)(hf:De b=(0,0))(hr:Gn b=((f:Int),(c:Int),(w:Int),(r:Int),(n:Int),0))(h1:Fe f c w r n=true)(h2:CM c r n=true):
  Ng b=some ((f:Int),(c:Int),(w:Int),(r:Int),(n:Int),0,22,((22+(if f=2 then 8 else 0):Nat):Int),0,0,Aq (Au r) n,0):=by
 rw[Ng,Aba (by rw[Al,Ac];simp;omega),Lp b (by omega),hf,Aa];simp only;rw[Aba (by decide),Fw,Aa,Azy,Ax0,HD _ (by omega),hr,Aa];simp only;rw[Aba (by rw[Ak];simp),gG h1 h2,Aa];simp only;rw[Bc,show Ae (0:Int) 22=22 from rfl,show Ae (22:Int) 8=30 from rfl];by_cases h5:f=2
 ·rw[Abb (by rw[h5];rfl),Abb h5];rfl
 ·rw[Aba (by simp;omega),Aba h5];rfl
theorem Ai6{b:LB}{r1 r2 r3 r4 r5 e:Int}(h:Ng b=some (r1,r2,r3,r4,r5,0,0,0,0,0,[],e))(he:e≠0):Vk b=some (0,0,0,0,0,e):=by
 rw[Vk,BR,h,Aa];simp only;rw[Abb (by rw[Ak];simpa using he)]
theorem Abt{b:LB}{f c w r n:Nat}(hb:b.length<=100000)(hf:De b=(0,0))(hr:Gn b=((f:Int),(c:Int),(w:Int),(r:Int),(n:Int),0))(h1:Fe f c w r n=true)(h2:CM c r n=true)
  (h:b.length<22+(if f=2 then 8 else 0)\/ (Hy (b.drop (22+(if f=2 then 8 else 0))) (Aq (Au r) n).length).2=24\/∃l:LI,Hy (b.drop (22+(if f=2 then 8 else 0))) (Aq (Au r) n).length=(l,0)/\ (b.length:Int)<((22+(if f=2 then 8 else 0):Nat):Int)+4*(l.length:Int)+4+l.sum):Vk b=some (0,0,0,0,0,24):=by
 obtain⟨T,hT⟩:∃T:Nat,T=22+(if f=2 then 8 else 0):=⟨_,rfl⟩;have Bbs:T<=30:=by rw[hT];split<;>omega
 have hs:=Alf hb hf hr h1 h2;rw[<-hT]at h hs;have z:Bm (0:Int) 0=false:=by decide
 have e24:Bm (24:Int) 0=true:=by decide
 rw[Vk,BR,hs,Aa];simp only[z,Ao4,Axj];by_cases h3:b.length<T
 ·rw[Abb (by rw[Af,Ac];simp;omega),Agc _ _ _ _ _ _ _ _ _ _ _ _ _ (by omega)]
 rw[Aba (by rw[Af,Ac];simp;omega),Fw,Aa,Aiq,Ac,tU _ _ (by simp;omega),Aa];obtain⟨⟨u,e⟩,hv⟩:∃v,Hy (b.drop T) (Aq (Au r) n).length=v:=⟨_,rfl⟩;rw[hv]at h⊢;simp only;rw[SF,RL];rcases h with h|h|⟨l,hl,hlt⟩
 ·exact absurd h h3
 ·obtain rfl:e=24:=h;rw[Abb e24,Agc _ _ _ _ _ _ _ _ _ _ _ _ _ (by omega)]
 ·obtain rfl:u=l:=congrArg Prod.fst hl;obtain rfl:e=0:=congrArg Prod.snd hl;obtain⟨s1,s2,s3,s4,s5,s6⟩:=oY (b:=b.drop T) (n:=(Aq (Au r) n).length) (by rw[hv]);rw[hv]at s1;have hl1:u=NU (b.drop T) (Aq (Au r) n).length:=congrArg Prod.fst s1;have tl:=Xp (b.drop T) (Aq (Au r) n).length;rw[<-hl1]at s5 s6 tl;simp only[z,Ao4,Axj];have e1:Ae (Ae (T:Int) (Bd 4 (Ac u))) 4=(T:Int)+4*(u.length:Int)+4:=by
   have a1:Bd 4 (Ac u)=4*(u.length:Int):=Gt (by unfold Ac;omega) (by unfold Ac;omega);have a2:Ae (T:Int) (4*(u.length:Int))=(T:Int)+4*(u.length:Int):=Ag;rw[a1,a2,Ag]
  have q1:=zX u b (f:Int) (c:Int) (w:Int) (r:Int) (n:Int) 0 22 (T:Int) (Aq (Au r) n) (by omega) s5 u.length 0 Ar ((T:Int)+4*(u.length:Int)+4) (by omega) (by have:=Am;omega) (by omega) (by rw[Ax0];omega);rw[Ax0,show((0:Nat):Int)=0 from rfl]at q1;rw[e1,QL,q1,Yg,KW,Kf,Xy,z,Aba (by simp),LD,cP,Abb (by rw[Af,Ac];simpa using hlt)]
theorem Afq:∀(l:LI) (a:Int),(∀z∈l,0<=z)->0<=a->a<l.sum->∃K,K<l.length/\ (l.take K).sum<=a/\a<(l.take (K+1)).sum
 |[],a,_,h0,h=>by simp at h;omega
 |z::l,a,hn,h0,h=>by
  by_cases hz:a<z
  ·exact⟨0,by simp,by simpa using h0,by simpa using hz⟩
  ·rw[Au2]at h;obtain⟨K,k1,k2,k3⟩:=Afq l (a-z) (λy hy=>hn y (Aj2 _ hy)) (by omega) (by omega);refine⟨K+1,by simp;omega,?_,?_⟩
   ·rw[List.take_succ_cons,Au2];omega
   ·rw[List.take_succ_cons,Au2];omega
theorem zy{b p:LB}{f c w r n A:Nat}{l:LI}(o:Opn b p f c w r n A l){K:Nat}(hK:K<l.length)(hg:∀i,i<K-> (QP b p f c w r n A l i).2=0){e:Int}(he:(QP b p f c w r n A l K).2=e)(he0:e≠0):Ql b p=some e:=by
 have hp:=o.pass;have R2:=o.file;rcases Aep b p (by omega) hp with⟨e',he',h1,_,_,_⟩|⟨f',c',w',r',n',A',l',o',k3,_⟩
 ·have:=o.prog;rw[h1]at this;have:=At5 this;simp only[NR,Auu]at this;exact absurd this.2.2.2.2.2.2.2 he'
 have hpr:=o'.prog;rw[o.prog]at hpr;simp only[Ajx,Auu]at hpr;obtain⟨v1,v2,v3,v4,v5,v6,v7,_⟩:=hpr;obtain rfl:f=f':=by omega
 obtain rfl:c=c':=by omega
 obtain rfl:w=w':=by omega
 obtain rfl:r=r':=by omega
 obtain rfl:n=n':=by omega
 obtain rfl:A=A':=by omega
 subst v7;have hce:(wT (λk=>smF w (QP b p f c w r n A l k)) (λk=>(QP b p f c w r n A l k).2) (Adj b A l) l.length 0 []).2=e:=by
  have:=Aft (λk=>smF w (QP b p f c w r n A l k)) (λk=>(QP b p f c w r n A l k).2) (Adj b A l) (K:=K) (by rw[he];exact he0) l.length 0 [] (by omega) (by omega) (λi _ h=>hg i h);rw[this];exact he
 have hcl:(Agt b p f c w r n A l).2.2.2.2=e:=by
  rw[Agt,bX,hce,Abb he0];rfl
 rw[Ql,k3,Aa];exact congrArg some hcl
theorem mh{t:Nat}(ht:t<4):De (Hz.take t)=(0,0):=by
 have hs:Ec (Hz.take t)=(0,6):=by
  have h3:(Hz.take t).take 3≠ [73,68,51]:=by
   rcases(show t=0\/t=1\/t=2\/t=3 by omega)with rfl|rfl|rfl|rfl<;>decide
  have h8:(Hz.take t).take 8≠J0:=by
   rcases(show t=0\/t=1\/t=2\/t=3 by omega)with rfl|rfl|rfl|rfl<;>decide
  have h1:MN (Hz.take t)=(0,6):=by rw[MN,Abb (by intro hh;exact h3 hh.2)]
  rw[Ec,h1,Aba (by decide),fa1 (by intro hh;exact h8 hh.2)]
 rw[De,ru,Cv,Ax0,hs];rfl
section
variable {c w r n:Nat} {x:List Int32} (h:ClipOk c w r n x) {p:LB} (hp:p.length<=64) (h4:x.length<=400)
include h hp h4
omit hp h4 h in
theorem Aip(t:Nat):De ((Gg c w r n x p).take t)=(0,0):=by
 have hM:(Gg c w r n x p).take 4=Hz:=by rw[Gg,Sd];rfl
 by_cases h5:t<4
 ·have:(Gg c w r n x p).take t=Hz.take t:=by rw[<-hM,Axn,Au6 (by omega)]
  rw[this,mh h5]
 ·exact dS (by rw[Axn,show min 4 t=4 by omega,hM])
theorem Aul{t:Nat}(ht:t<(Gg c w r n x p).length):Ql ((Gg c w r n x p).take t) p=some 24/\Vk ((Gg c w r n x p).take t)=some (0,0,0,0,0,24):=by
 have hsm:=yQ h (p:=p) h4;have fo:=rO h hp;have hAF:=fo.Ed.at';have hM:(Gg c w r n x p).take 4=Hz:=by rw[Gg,Sd];rfl
 have hfr:=Aip (c:=c) (w:=w) (r:=r) (n:=n) (x:=x) (p:=p) t;have hll:((Gg c w r n x p).take t).length=t:=by rw[Afw];omega
 have hlf:=Hj (EM c w r n x p);have hfl:=kU (c:=c) (w:=w) (r:=r) (n:=n) (x:=x) p;have hs1:=fo.Ed.some1;have hsh:=h.shape _ (qF p);have hread:Gn (Gg c w r n x p)=((Ex p:Int),(c:Int),(w:Int),(r:Int),(n:Int),0):=by
  rw[Gg];exact K7 hsh h.fit _
 by_cases t22:t<22
 ·have hr:Gn ((Gg c w r n x p).take t)=(0,0,0,0,0,24):=rs2 (by
   rw[hll,Axn,<-hM,Axn,show min (min 4 t) t=min (min 4 t) 4 by omega]) (by omega)
  obtain⟨r1,r2,r3,r4,r5,hst⟩:=Ahj (by omega) hfr hr (by simp);refine⟨?_,Ai6 hst (by simp)⟩;have ho:Cg ((Gg c w r n x p).take t) p=some (NR 24):=by
   generalize(Gg c w r n x p).take t=b at*
   rw[Cg,Lw,Aba (by rw[Al,Ac];simp;omega),Aba (by rw[Al,Ac];simp;omega),Lp b (by omega),hfr,Aa];simp only;rw[Aba (by decide),Fw,Aa,Azy,Ax0,HD _ (by omega),hr,Aa];simp only;rw[Abb (by decide)];rfl
  rw[Ql,Aah (by omega) hp (by decide) ho,Aa];rfl
 have hr:Gn ((Gg c w r n x p).take t)=((Ex p:Int),(c:Int),(w:Int),(r:Int),(n:Int),0):=by rw[Ada (by rw[hread]) (by omega),hread]
 have hpos:=fo.Ed.pos;by_cases hat:t<VR 0 p (EM c w r n x p).length
 ·have hpos:VR 0 p (EM c w r n x p).length=22+(if Ex p=2 then 8 else 0)+4*(Aq (Au r) n).length+4:=by
   rw[<-hfl];unfold VR;omega
  have Au0:1<= (Aq (Au r) n).length/\ (Aq (Au r) n).length<=1000:=by omega
  have hsk:22+(if Ex p=2 then 8 else 0)<=t->Hy (((Gg c w r n x p).take t).drop (22+(if Ex p=2 then 8 else 0))) (Aq (Au r) n).length=([],24):=λhh=>ss2 Au0 (by rw[Asn,hll];omega);have hdg:p≠ []->30<=t-> (((Gg c w r n x p).take t).take 30).drop 22=On (Wa p).toNat 8:=by
   intro h0 h30;rw[Axn,Au6 h30,Gg,<-Adn,Av6 (by rw[Aby,EH,SD,Ex,Aba h0];simp),Aoy (by rw[Aby,EH,SD,Ex,Aba h0];simp),<-EH (Ex p) c w r n,Axy,WS,Aba h0]
  have hfit:=h.fit;generalize(Gg c w r n x p).take t=b at*
  refine⟨?_,Abt (by omega) hfr hr hsh hfit ?_⟩
  ·have ho:Cg b p=some (NR 24):=by
    rw[Cg,Lw,Aba (by rw[Al,Ac];simp;omega),Aba (by rw[Al,Ac];simp;omega),Lp b (by omega),hfr,Aa];simp only;rw[Aba (by decide),Fw,Aa,Azy,Ax0,HD _ (by omega),hr,Aa];simp only;have t22:Ae (0:Int) 22=((22:Nat):Int):=rfl;have t30:Ae ((22:Nat):Int) 8=((30:Nat):Int):=rfl;have hend:∀A:Nat,A<=b.length->A=22+(if Ex p=2 then 8 else 0)->Ma b (Ex p:Int) (c:Int) (w:Int) (r:Int) (n:Int) (A:Int)=some (NR 24):=by
     intro A hA hA2;rw[jX hsh hfit b (by omega) A hA,hA2,hsk (by omega),Abb (by simp)]
    rw[Aba (by decide)];by_cases h0:p=[]
    ·have e1:Ex p=1:=by rw[Ex,Abb h0]
     have:=hend 22 (by omega) (by rw[e1];rfl);rw[Aba (by rw[e1,h0];decide),Aba (by rw[h0];decide),t22];exact this
    ·have e1:Ex p=2:=by rw[Ex,Aba h0]
     have Ayz:(p !=([]:LB))=true:=by simpa using h0
     have hne2:(p==([]:LB))=false:=by simpa using h0
     rw[Aba (by rw[hne2,e1];decide),Abb Ayz,t22,t30];by_cases h30:b.length<30
     ·rw[Abb (by rw[Af,Ac];simp;omega)];rfl
     ·have:=hend 30 (by omega) (by rw[e1];rfl);rw[Aba (by rw[Af,Ac];simp;omega),Pp,Aa,Aiq,Aiq,hdg h0 (by omega),yO (Bn _ _) hp,Aa];simp only;rw[Aba (by decide),Aba (by simp)];exact this
   rw[Ql,Aah (by omega) hp (by decide) ho,Aa];rfl
  ·by_cases h5:b.length<22+(if Ex p=2 then 8 else 0)
   ·exact .inl h5
   ·exact .inr (.inl (by rw[hsk (by omega)]))
 ·have o':=nu h hp (t:=t) (by omega);have hnn:=Arw (EM c w r n x p);have hd:=fo.Ase;have hlen:=congrArg List.length hd;rw[Asn,Aun]at hlen;have hs:=GL (EM c w r n x p);obtain⟨K,k1,k2,k3⟩:=Afq (Cl (EM c w r n x p)) ((t:Int)-(VR 0 p (EM c w r n x p).length:Int)) hnn (by omega) (by omega);have hg:∀i,i<K-> _:=λi hi=>Arb h hp (t:=t) (by omega) (by omega) (k:=i) (by omega) (by
   have:=Ali hnn (show i+1<=K by omega);omega)
  have hbd:(QP ((Gg c w r n x p).take t) p (Ex p) c w r n (VR 0 p (EM c w r n x p).length) (Cl (EM c w r n x p)) K).2=24:=by
   obtain⟨m,y,s,e,g⟩:=NX o' K (by omega);rw[g.eq];rcases g.way with⟨_,hw⟩|⟨hw,_⟩
   ·exact hw
   ·rw[hll]at hw;omega
  refine⟨zy o' (K:=K) (by omega) (λi hi=>by rw[hg i hi]) hbd (by decide),Abt (by omega) hfr hr hsh h.fit (.inr (.inr ⟨Cl (EM c w r n x p),?_,?_⟩))⟩
  ·have:=o'.tab;rw[hfr]at this;rw[<-o'.len];simpa using this
  ·have hp2:=o'.pos;rw[hfr]at hp2;rw[hll,hs];have:((0:Int),(0:Int)).1.toNat=0:=rfl;omega
end
theorem law_ValidCut(C W R:Int)(x:LX)(p:LB)(at':Int):Tk C W R x p at'=some true:=by
 rw[Tk,Nv,Api,Aa,Ym,Aa];by_cases hL:((Eu (Ac x) 300&&yj (Ac x) 4000)||Eu (Ac x) 4010)=true
 ·rw[Abb hL];by_cases hc:((true||Eu (Ac p) 64)|| !true)=true
  ·rw[Abb hc]
  ·exact absurd (by simp) hc
 rw[Aba hL];rcases uy C W R x with⟨e8,_⟩|⟨c,w,r,n,rfl,rfl,rfl,h,e24,eck⟩
 ·rw[e8,Aa,Abb (by simp[Ak])]
 rw[e24,Aa];by_cases hc:((Bm (0:Int) 0||Eu (Ac p) 64)|| !true)=true
 ·rw[Abb hc]
 rw[Aba hc];simp only[Awf,not_or,Al,Ac,Ab2]at hc;have hp:p.length<=64:=by omega
 have hx:=h.le.2.2.2;have hx4:x.length<=400:=by
  simp only[Awf,Abz,not_or,not_and,Al,D6,Ac,Ab2]at hL;have:=hL.1;omega
 have hsm:=yQ h (p:=p) hx4;rw[Ny,Xs,ni h eck p hp,Aa];simp only;rw[Aba (by decide)];by_cases hk:(Cc at' 0||Ll at' (Ac (Gg c w r n x p)))=true
 ·rw[Abb hk]
 rw[Aba hk];simp only[Awf,not_or,Af,Dc,Ac,Ab2]at hk;obtain⟨t,rfl⟩:∃t:Nat,at'=(t:Int):=⟨at'.toNat,by omega⟩;obtain⟨k1,k2⟩:=Aul h hp hx4 (t:=t) (by omega);rw[If,Aa,Aiq,k2,Aa];simp only;rw[Abb trivial,Aa,k1,Aa];rfl
end Go.Pl
