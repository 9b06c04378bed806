/- A part of a proof (see the text that ends in Proof). No conditions. -/
import Derived.Test.YtnckeeijjkphaaaGreatDoorVbWA
import Derived.KernelRfl
set_option linter.unusedVariables false
set_option linter.unusedSimpArgs false
namespace Go.Pl
open Go Go.Lv
def Jo(bits:Int)(ch:Nat)(t x:List Int32):List UInt32:=evl bits ch t (mx ch x) x.length
def RF(bits:Int)(ch:Nat)(t x:List Int32):List UInt8:=Jc (Oc ch (Jo bits ch t x) x.length)
def Nh(bits:Int)(ch:Nat)(t x:List Int32):List UInt8:=RF bits ch t x++Kq (Dc (RF bits ch t x)).toNat 4
theorem su(bits:Int)(ch:Nat)(t x:List Int32)(h0:1<=x.length)(h4:x.length<=4000):1<= (RF bits ch t x).length/\ (RF bits ch t x).length<=40501:=by
 have h:=fC ch (Jo bits ch t x) x.length;obtain⟨k,hk⟩:∃k,x.length=k+1:=⟨x.length-1,by omega⟩;have h1:1<= (Oc ch (Jo bits ch t x) x.length).length:=by
  rw[hk,Oc,Abw];have hn:=R7 ch ((Jo bits ch t x).take k);have:=XA ((Jo bits ch t x).getD k 0) hn.1 hn.2;omega
 rw[RF,Vt];omega
theorem zH(bits:Int)(ch:Nat)(t x:List Int32)(h0:1<=x.length)(h4:x.length<=4000):5<= (Nh bits ch t x).length/\ (Nh bits ch t x).length<=40505:=by
 have:=su bits ch t x h0 h4;rw[Nh,Abw,Ba];omega
theorem Ahp(bits:Int)(ch:Nat)(t x:List Int32)(h0:1<=x.length)(h4:x.length<=4000):Wl (Nh bits ch t x)=0/\ (Nh bits ch t x).take ((Nh bits ch t x).length-4)=RF bits ch t x:=by
 have h:=zH bits ch t x h0 h4;have hl:(Nh bits ch t x).length-4=(RF bits ch t x).length:=by rw[Nh,Abw,Ba];omega
 have h1:(Nh bits ch t x).take ((Nh bits ch t x).length-4)=RF bits ch t x:=by rw[hl,Nh,List.take_left]
 have h2:(Nh bits ch t x).drop ((Nh bits ch t x).length-4)=Kq (Dc (RF bits ch t x)).toNat 4:=by rw[hl,Nh,Ayn]
 have hlt:=(Dc (RF bits ch t x)).toNat_lt;refine⟨?_,h1⟩;rw[Wl,Aba (by omega),Aba (by omega),h1,h2,Yl,Abk (by omega),Aba (by simp)]
theorem Adj{bits:Int}{ch n:Nat}{t x:List Int32}(hb:Bu bits)(ht:t.length=16)(h1:1<=ch)(h6:ch<=6)(n1:1<=n)(n2:n<=4000/ch)(hx:x.length=n*ch)(hr:inR bits x):
  Lj (ch:Int) bits t (n:Int) (Nh bits ch t x)=some (x,0)/\Dk (ch:Int) bits t (n:Int) (Nh bits ch t x)=some (x,0):=by
 have hn:n*ch<=4000:=by
  have:=Ado ch n2;have h2:=Ax0 4000 ch;omega
 have hq4:=R5 h1 h6;have hx1:1<=x.length:=by rw[hx];exact Nat.mul_pos n1 h1
 have key:Dk (ch:Int) bits t (n:Int) (Nh bits ch t x)=some (x,0):=by
  generalize 4000/ch=mm at*
  have hh:=VI bits;have Aeg:Dy (ch:Int) bits (n:Int)=some 0:=by
   rw[Dy,Cs,Aba (by simp[Af,Am];omega),XM hb,Aa,Aba (by rw[Be];simp;omega),Aa,Aba (by simp[Ak,Af];omega),Bf (by rw[Ak];simp;omega),Aa,hq4,Aba (by rw[Am];simp;omega)]
  have hlen:=zH bits ch t x hx1 (by omega);obtain⟨hs,htk⟩:=Ahp bits ch t x hx1 (by omega);have hpl:=su bits ch t x hx1 (by omega);have e4:Ah (Ac (Nh bits ch t x)) 4=(((Nh bits ch t x).length-4:Nat):Int):=by rw[Ac,Bi];omega
  have hVl:(Jo bits ch t x).length=x.length:=kO _ _ _ _ _;have hEl:=Vt (Oc ch (Jo bits ch t x) x.length);have hvb:=P7 ch (Jo bits ch t x) (8*(RF bits ch t x).length) (by rw[hVl,RF,hEl];omega) (n*ch) 0 (by omega);rw[hVl]at hvb;have hread:=Afo (N:=8*(RF bits ch t x).length) (p:=RF bits ch t x) rfl (by omega) h1 h6 hn;have hvb':Wk ch (RF bits ch t x) (8*(RF bits ch t x).length) (n*ch) 0 []=(Jo bits ch t x,(Oc ch (Jo bits ch t x) x.length).length,0):=hvb;have hz:Bl (RF bits ch t x) (Oc ch (Jo bits ch t x) x.length).length (8*(RF bits ch t x).length-(Oc ch (Jo bits ch t x) x.length).length)=0:=by
   apply sD;intro k _;rw[RF,AD,Y2 (by omega)]
  have Bcc:¬7<8*(RF bits ch t x).length-(Oc ch (Jo bits ch t x) x.length).length:=by rw[RF,hEl];omega
  rw[hvb']at hread;simp only at hread;rw[Aba (by decide),Aba (by rw[hz];simp;omega)]at hread;have hm:(Jo bits ch t x).length %ch=0:=by rw[hVl,hx];exact Ayd n ch
  have Axs:=P1 (v:=Jo bits ch t x) hb ht h1 h6 (by omega) hm;have hsm:rH bits ch t (Jo bits ch t x)=mx ch x:=by
   have:=Ao1 bits ch t (mx ch x);rw[PR]at this;exact this
  rw[hsm,Au0 h1 (by rw[hx];exact Ayd n ch)]at Axs;rw[Dk,Rw,Aeg,Aa,Aba (by rw[Ak];simp),yL,Aa,hs,Aba (by decide),e4,Je,Aa,Ajv,htk,hread,Aa];simp only;rw[Kv,Kz,Aba (by decide),Axs,Aa,Pa,tG hb (by omega) hr,Aa,Aba (by decide)];rfl
 obtain⟨l,e,d1,d2,_,_⟩:=uO (Nh bits ch t x) hb ht h1 h6 n1 n2;rw[key]at d2;cases d2;exact⟨d1,key⟩
theorem Aan(p:List UInt8)(b0:UInt64)(a0:Int):∀(j m q:Nat),m+j<=300000->j<=64->j<q->
  Ni b0 a0 q (Mn p m j) (j:Int) (m:Int) (Ng p 0 m)=some (Ng p 0 (m+j),((m+j:Nat):Int),0)
 |0,m,q+1,_,_,_=>by
  rw[Ni,OE,Aba (by rw[Am];simp),ZM,oH];rfl
 |j+1,m,q+1,hm,hj,hq=>by
  have hroom:Ni b0 a0 (q+1) (Mn p m (j+1)) ((j+1:Nat):Int) (m:Int) (Ng p 0 m)=OD (Ni b0 a0 q) b0 a0 (Mn p m (j+1)) ((j+1:Nat):Int) (m:Int) (room p 0 m):=by
   rw[Ni,OE,Abb (by rw[Am];simp),uZ m (by omega),room];by_cases h0:m %8=0
   ·rw[Abb (by rw[Be,h0];rfl),Cg (by rw[Hf];simp;omega),Aa,Abb h0]
   ·rw[Aba (by rw[Be];simp;omega),Aba h0]
  have hl:Ah (Ac (room p 0 m)) 1=((m/8:Nat):Int):=by
   rw[Ac,Ls,Bi];omega
  have e2:Dt ((j+1:Nat):Int) (Ah (8:Int) ((m %8:Nat):Int))=((min (j+1) (8-m %8):Nat):Int):=by
   rw[GU,Bi];omega
  rw[hroom,OD,aX,uZ m (by omega),e2,hl];generalize hT:min (j+1) (8-m %8)=T;have hT1:1<=T:=by omega
  have hT8:m %8+T<=8:=by omega
  have hg:Aj (room p 0 m) ((m/8:Nat):Int)=some (UInt8.ofNat (Bl p (0+8*(m/8)) (m %8))):=by
   rw[Ck (by rw[Ls];omega),jZ]
  have z1:(GI.toZ ((m %8:Nat):Int)).toNat=m %8:=rfl;have z2:(GI.toZ ((T:Nat):Int)).toNat=T:=rfl;have hlt:=rG p (0+8*(m/8)) (m %8+T) (by omega);have hadd:=KA p (m %8) T (0+8*(m/8));rw[show 0+8*(m/8)+m %8=m by omega]at hadd;have hbyte:(Ad (Db (Mn p m (j+1)) (Ah (Cr (1:UInt64) T) (1:UInt64))):UInt8)=UInt8.ofNat (Bl p m T):=by
   rw[SB,Awu _ (by omega),Aa5 p m (j+1) T (by omega) hj]
  have hnew:sW (UInt8.ofNat (Bl p (0+8*(m/8)) (m %8))) (Cr (UInt8.ofNat (Bl p m T)) (m %8))=UInt8.ofNat (Bl p (0+8*(m/8)) (m %8+T)):=by
   rw[or8 (Mj _ _ _) (by rw[Aor];omega) (by omega),hadd,Aor (2^(m %8))]
  rw[hg,z1,z2,hbyte];simp only[Aa];rw[Bf (by rw[De];simp),Aa,Bf (by rw[De];simp;omega),Aa,hnew,Rj _ (by rw[Ls];omega),Aa,qO p 0 m T hT1 hT8,bY,pX,uZ m (by omega),e2,hT,Bf (by rw[De];simp),Aa,z2,yc p m (j+1) T (by omega) hj,Bi,Ag];have ih:=Aan p b0 a0 (j+1-T) (m+T) q (by omega) (by omega) (by omega);rw[show m+T+(j+1-T)=m+(j+1) by omega]at ih;rw[<-ih,show((j+1:Nat):Int)-((T:Nat):Int)=((j+1-T:Nat):Int) by omega,show(m:Int)+((T:Nat):Int)=((m+T:Nat):Int) by omega]
theorem put_eq(p:List UInt8)(m j:Nat)(hm:m+j<=300000)(hj:j<=63):RT (Ng p 0 m) (m:Int) (Mn p m j) (j:Int)=some (Ng p 0 (m+j),((m+j:Nat):Int),0):=by
 have hz:Bk (Bt (Mn p m j) (GI.toZ (j:Int)).toNat) 0=false:=by
  have:Bt (Mn p m j) j=0:=by
   apply UInt64.toNat_inj.1;rw[EV,Vm p m j (by omega),Axp (Mj p j m)];rfl
  rw[show(GI.toZ (j:Int)).toNat=j from rfl,this];rfl
 have hl:=Hf p 0 m;have htw:XP (Ng p 0 m) (m:Int)=some (Ng p 0 m,(m:Int)):=by
  rw[XP,Ec,Cg (by simp;omega),Aa,Aa];rfl
 rw[RT,fJ,Vz (oV p 0 m (by omega)),Aa,Aba (by decide),Aba (by simp[Af,Am];omega),Abb (by rw[Af];simp;omega),Bf (by rw[De];simp),Aa,hz,Aba (by decide),Ag,Aba (by rw[Am];simp;omega),htw,Aa];exact Aan p _ _ j m Aq hm (by omega) (by have:=Al;omega)
theorem At.cat{p:List UInt8}{a:Nat}{c d:List Bool}(h:At p a (c++d)):At p a c/\At p (a+c.length) d:=⟨h.left,h.right⟩
theorem Aay(p:List UInt8):∀(q a:Nat),At p a (List.replicate q true)->Bl p a q+1=2^q
 |0,a,_=>by rw[Bl]
 |q+1,a,h=>by
  rw[Awh]at h;obtain⟨h0,h1⟩:=h.cons;have:=Aay p q (a+1) h1;rw[Bl,h0,Atb,Abb rfl];omega
theorem rO{x:UInt64}{p:List UInt8}{m n:Nat}(hn:n<=63)(h:x.toNat=Bl p m n):x=Mn p m n:=by
 apply UInt64.toNat_inj.1;rw[h,Vm p m n (by omega)]
theorem UB{n:Nat}(h:n<2^64):(UInt64.ofNat n).toNat=n:=by rw[Afg];exact Abk h
theorem K9{p:List UInt8}{m q:Nat}(hq:q<=48)(hm:m+48<=300000)(h:At p m (List.replicate q true++(if q=48 then []else [false]))):
  UL (Ng p 0 m) (m:Int) (q:Int)=some (Ng p 0 (m+min (q+1) 48),((m+min (q+1) 48:Nat):Int),0):=by
 have h1:=h.left;have hv:=Aay p q m h1;have Bce:2^q<=2^48:=Aef (by omega) hq;have hval:Bl p m (min (q+1) 48)+1=2^q:=by
  by_cases h48:q=48
  ·subst h48;exact hv
  ·rw[Aba h48]at h;have h2:=h.right;rw[Aps]at h2;have h0:=h2.cons.1;rw[show min (q+1) 48=q+1 by omega,jU,h0];simpa using hv
 have hx:(Ah (Cr (1:UInt64) q) (1:UInt64)).toNat=Bl p m (min (q+1) 48):=by
  have e1:(Cr (1:UInt64) q).toNat=2^q:=by rw[SW];show 1*2^q %_=_;rw[Nat.one_mul];exact Abk (by omega)
  have hpos:0<2^q:=Ax3 (by omega);rw[qR,UInt64.toNat_sub_of_le _ _ (by rw[UInt64.le_iff_toNat_le,e1];exact hpos),e1]
  show 2^q-1=_;omega
 rw[UL,Vz (oV p 0 m (by omega)),Aa,Aba (by decide),bK,Aba (by simp[Af,Am];omega),Aa];simp only;have e2:Dt (Ae (q:Int) 1) 48=((min (q+1) 48:Nat):Int):=by rw[GU,Ag];omega
 rw[Aba (by decide),Bf (by rw[De];simp),Aa,e2,show(GI.toZ (q:Int)).toNat=q from rfl,rO (by omega) hx,put_eq p m _ (by omega) (by omega),Aa]
theorem Alm{p:List UInt8}{m l:Nat}{v:UInt32}(hl:l<=24)(hm:m+81<=300000)(h:At p m (PZ l v.toNat)):
  aI (Ng p 0 m) (m:Int) v (l:Int)=some (Ng p 0 (m+(PZ l v.toNat).length),((m+(PZ l v.toNat).length:Nat):Int),0):=by
 have hvl:=v.toNat_lt;have hz:(GI.toZ (l:Int)).toNat=l:=rfl;have hlp:2^l<=2^24:=Aef (by omega) hl;have hpos:0<2^l:=Ax3 (by omega);have Azj:Wj v (l:Int)=some (decide (48<=v.toNat/2^l)):=by
  rw[Wj,Bf (by rw[De];simp),Aa,hz,Ae6,JI];rfl
 rw[aI,VC,Vz (oV p 0 m (by omega)),Aa,Aba (by decide),Aba (by simp[Af,Am];omega),Bf (by rw[De];simp),Aa,Aa,Azj,Aa];rw[PZ]at h⊢;by_cases h48:48<=v.toNat/2^l
 ·rw[Abb h48]at h⊢;obtain⟨h1,h2⟩:=h.cat;rw[Aps]at h2;have hval:=HA p 32 (m+48) v.toNat h2;rw[Abk (by omega)]at hval;have hu:=K9 (p:=p) (m:=m) (q:=48) (Aj3 _) (by omega) (by rw[Abb rfl,Avk];exact h1);rw[Abb (by simpa using h48),IM,WO,show(48:Int)=((48:Nat):Int)from rfl,hu,Aa];simp only;rw[Aba (by decide),Cn,rO (x:=UInt64.ofNat v.toNat) (p:=p) (m:=m+48) (n:=32) (by omega) (by rw[UB (by omega),hval]),show(32:Int)=((32:Nat):Int)from rfl,show m+min (48+1) 48=m+48 by omega,put_eq p (m+48) 32 (by omega) (by omega),Aa,Abw,Aps,Pe,Avm]
 ·rw[Aba h48]at h⊢;generalize hq:v.toNat/2^l=q at*
  obtain⟨h1,h2⟩:=h.cat;rw[Aps]at h2;obtain⟨h3,h4⟩:=h2.cons;have hval:=HA p l (m+q+1) (v.toNat %2^l) h4;rw[Nat.mod_mod]at hval;have hqa:At p m (List.replicate q true++[false]):=by
   have:List.replicate q true++(false::cM (v.toNat %2^l) l)=(List.replicate q true++[false])++cM (v.toNat %2^l) l:=by simp
   rw[this]at h;exact h.left
  have hu:=K9 (p:=p) (m:=m) (q:=q) (by omega) (by omega) (by rw[Aba (by omega)];exact hqa);have hgq:(Ad (Bt v l):Int)=(q:Int):=by rw[wS,JI,hq]
  have hrest:(Ad (Db v (Ah (Cr (1:UInt32) l) 1)):UInt64)=Mn p (m+q+1) l:=by
   apply rO (by omega);have e1:(Cr (1:UInt32) l).toNat=2^l:=by rw[eL];show 1*2^l %_=_;rw[Nat.one_mul];exact Abk (by omega)
   have e2:(Ah (Cr (1:UInt32) l) (1:UInt32)).toNat=2^l-1:=by
    rw[xX,UInt32.toNat_sub_of_le _ _ (by rw[UInt32.le_iff_toNat_le,e1];exact hpos),e1];rfl
   have e3:(Db v (Ah (Cr (1:UInt32) l) 1)).toNat=v.toNat %2^l:=by
    rw[yW,UInt32.toNat_and,e2,Awr]
   rw[Cn,UB (by rw[e3];have:=Axr v.toNat hpos;omega),e3,hval]
  rw[Aba (by simpa using h48),IM,WO,hz,hgq,hu,Aa];simp only;rw[Aba (by decide),hrest,show m+min (q+1) 48=m+q+1 by omega,put_eq p (m+q+1) l (by omega) (by omega),Aa,Abw,Aps,Aj2,Pe,show m+q+1+l=m+(q+(l+1)) by omega]
theorem Anr{k l:Nat}{s t:UInt64}(h:okD k l s t)(v:UInt32):ZW [] 0 (k:Int) (l:Int) s t v=
  some (Jc (Ok k l v),((Ok k l v).length:Int),((kS k (Ub s (vY v)):Nat):Int),((lK l t k v:Nat):Int),Ub s (vY v),lT t k v,0):=by
 obtain⟨h1,h2,h3,h4⟩:=h;have hvl:=v.toNat_lt;have hAt:At (Jc (Ok k l v)) 0 (Ok k l v):=λi hi=>by rw[Avi,AD]
 have hlen:=XA v h1 h2;have hfull:Ng (Jc (Ok k l v)) 0 (Ok k l v).length=Jc (Ok k l v):=by
  apply og (by rw[Hf,Vt]);intro i hi;rw[oK,Avi,AD];by_cases hlt:i<(Ok k l v).length
  ·rw[Abb hlt]
  ·rw[Aba hlt,Y2 (by omega)]
 generalize hP:Jc (Ok k l v)=P at*
 have h0:Ng P 0 0=[]:=rfl;have Axt:∀(x:Int) (y:UInt64) (aj ai:Int),Xu v (k:Int) s ai P x y=some (P,ai,((kS k (Ub s (vY v)):Nat):Int),x,Ub s (vY v),y,0):=by
  intro x y aj ai;rw[Xu,VD,Cn,WZ,Agr k h1];rw[WH,VX,SP,FC,Cn,WZ];rfl
 have hp7:∀ai:Int,IL v (k:Int) (l:Int) s t 0 ai P=some (P,ai,((kS k (Ub s (vY v)):Nat):Int),((lK l t k v:Nat):Int),Ub s (vY v),lT t k v,0):=by
  intro ai;rw[IL,VA,Aba (by decide),yQ k l s t h1,Aa];by_cases hv:v.toNat<2^k
  ·rw[Abb hv];simp only;rw[Aba (by rw[Be];simp),Axt _ _ 0,lK,Abb hv,lT,Abb hv]
  ·rw[Aba hv];simp only;rw[Abb (by rw[Be];rfl),Cn,WZ,Agr l h2 _ (λx=>Xu v (k:Int) s ai P x (Ub t (UInt64.ofNat (cU k v).toNat))),Axt _ _ 0,lK,Aba hv,lT,Aba hv];rfl
 rw[ZW,WR,show Ho [] 0=some 0 from rfl,Aa,Aba (by decide),Akf ⟨h1,h2,h3,h4⟩,Aa,Aba (by decide),VG,WJ,yQ k l s t h1,Aa];have hput:=put_eq P 0 1 (by omega) (by omega);rw[h0,Avi,show((0:Nat):Int)=0 from rfl,show((1:Nat):Int)=1 from rfl]at hput;by_cases hv:v.toNat<2^k
 ·have hc:Ok k l v=false::cM v.toNat k:=by rw[Ok,Abb hv]
  rw[hc]at hAt hfull;obtain⟨b0,b1⟩:=hAt.cons;have hval:=HA P k 1 v.toNat b1;rw[Abk hv]at hval;have hz:(Ad (0:Int):UInt64)=Mn P 0 1:=rO (by omega) (by rw[pN,b0];rfl);rw[Abb hv];simp only;rw[hz,hput,Aa];simp only;rw[Abb (by decide),Cn,rO (x:=UInt64.ofNat v.toNat) (p:=P) (m:=1) (n:=k) (by omega) (by rw[UB (by omega),hval]),show(1:Int)=((1:Nat):Int)from rfl,put_eq P 1 k (by omega) (by omega),Aa];simp only;rw[Aj2,Pe,Azw k 1]at hfull;rw[hfull,hp7,hc,Aj2,Pe,Azw k 1]
 ·have hc:Ok k l v=true::PZ l (v.toNat-2^k):=by rw[Ok,Aba hv]
  rw[hc]at hAt hfull;obtain⟨b0,b1⟩:=hAt.cons;have hsub:=Nat.sub_le v.toNat (2^k);have hlv:(cU k v).toNat=v.toNat-2^k:=by rw[cU,TW (by omega)]
  have hz:(Ad (1:Int):UInt64)=Mn P 0 1:=rO (by omega) (by rw[pN,b0];rfl);have hr:=Alm (p:=P) (m:=1) (l:=l) (v:=cU k v) h2 (by omega) (by rw[hlv];exact b1);rw[hlv,show((1:Nat):Int)=1 from rfl]at hr;rw[Aba hv];simp only;rw[hz,hput,Aa];simp only;rw[Aba (by decide),Abb (by decide),hr,Aa];simp only;rw[Aj2,Azw _ 1]at hfull;rw[hfull,hp7,hc,Aj2,Azw _ 1]
section
variable (ch:Nat) (x:List Int32)
theorem TU{at' i:Nat}(ha:at' %ch=0)(hi:i<ch)(h:at'+i<x.length):(mx ch x).getD (at'+i) 0=mxV (λi=>x.getD (at'+i) 0) ch i:=by
 have hb:(at'+i) %ch=i:=by rw[Nat.add_mod,ha,Avi,Nat.mod_mod,Abk hi]
 rw[Ak9 h,hb,show at'+i-i=at' by omega]
theorem Aas(bk:Int->List Int32->Option (List Int32×Int))(at':Nat)(h1:1<=ch)(h6:ch<=6)(hm:at' %ch=0)(hl:at'+ch<=x.length)(hl2:x.length<=4000):∀(j i q:Nat),i+j=ch-1->j<q->
  AT bk (ch:Int) (at':Int) q (i:Int) (ZX (λk=>decide (k<at'+i)) (mx ch x) x)=bk ((at'+ch:Nat):Int) (ZX (λk=>decide (k<at'+ch)) (mx ch x) x)
 |j,i,0,_,h=>absurd h (Ayr _)
 |0,i,q+1,hi,_=>by
  have hlen:=PR ch x;have e1:Ah (Ae (at':Int) (ch:Int)-(at':Int)) 1=((ch-1:Nat):Int):=by rw[Ag,Bi];omega
  have e2:Ae (at':Int) (ch:Int)-(at':Int)=(ch:Int):=by rw[Ag];omega
  have e4:Ae (at':Int) (ch:Int)=((at'+ch:Nat):Int):=by rw[Ag];omega
  rw[AT,TL,e1,Aba (by rw[Af];simp;omega),eS,jJ,e1,e2];obtain rfl:i=ch-1:=by omega
  by_cases h2:1<ch
  ·have e3:Ah ((ch-1:Nat):Int) 1=((ch-2:Nat):Int):=by rw[Bi];omega
   have hv:Ah (x.getD (at'+(ch-1)) 0) (Bv ((mx ch x).getD (at'+(ch-2)) 0) 2)=(mx ch x).getD (at'+(ch-1)) 0:=by
    rw[TU ch x hm (by omega) (by omega),TU ch x hm (by omega) (by omega),mxV,mxV,Abb (by omega),Aba (by omega),Abb h2,QP,show ch-2+1=ch-1 by omega]
   rw[Abb (by rw[Am];simp;omega),lU (by omega),Aa,e3,lU (by omega),Aa,
    show(at':Int)+((ch-1:Nat):Int)=((at'+(ch-1):Nat):Int) by omega,show(at':Int)+((ch-2:Nat):Int)=((at'+(ch-2):Nat):Int) by omega,
    Yn (by omega),Aa,Yn (by omega),Aa,Aa,Aba (by simp),Abb (by simp;omega),hv,bP (by omega),Aa,UK,fG,e4]
   congr 1;apply Sg;intro k _;rw[Akg];simp;omega
  ·obtain rfl:ch=1:=by omega
   have hlast:x.getD at' 0=(mx 1 x).getD at' 0:=by
    have:=TU 1 x (i:=0) hm (by omega) (by omega);rw[Axv]at this;rw[this,mxV,Aba (by omega),Aba (by omega)];rfl
   rw[Aba (by rw[Am];simp),UK,fG,e4];congr 1;apply Avq (by rw[IP,IP]);intro k g1 g2;rw[Ql,Ql];by_cases hk:k<at'
   ·rw[Abb (by simp;omega),Abb (by simp;omega)]
   ·by_cases hk2:k=at'
    ·subst hk2;rw[Aba (by simp),Abb (by simp)];exact hlast
    ·rw[Aba (by simp;omega),Aba (by simp;omega)]
 |j+1,i,q+1,hi,hq=>by
  have hlen:=PR ch x;have e1:Ah (Ae (at':Int) (ch:Int)-(at':Int)) 1=((ch-1:Nat):Int):=by rw[Ag,Bi];omega
  have e2:Ae (at':Int) (ch:Int)-(at':Int)=(ch:Int):=by rw[Ag];omega
  have e3:Ae (i:Int) 1=((i+1:Nat):Int):=by rw[Ag];omega
  have hv:Ah (x.getD (at'+(i+1)) 0) (x.getD (at'+i) 0)=(mx ch x).getD (at'+i) 0:=by
   rw[TU ch x hm (by omega) (by omega),mxV,Abb (by omega),QP]
  rw[AT,TL,e1,Abb (by rw[Af];simp;omega),e2,e3,lU (by omega),Aa,lU (by omega),Aa,
   show(at':Int)+((i+1:Nat):Int)=((at'+(i+1):Nat):Int) by omega,show(at':Int)+(i:Int)=((at'+i:Nat):Int) by omega,
   Yn (by omega),Aa,Yn (by omega),Aa,Aa,Aba (by simp),Aba (by simp),hv,bP (by omega),Aa]
  have ih:=Aas bk at' h1 h6 hm hl hl2 j (i+1) q (by omega) (by omega);rw[<-ih];congr 1;apply Sg;intro k _;rw[Akg];simp;omega
theorem tZ(h1:1<=ch)(h6:ch<=6)(hm:x.length %ch=0)(hl2:x.length<=4000):∀(j at' q:Nat),at' %ch=0->at'<=x.length->x.length-at'<=j->j<q->
  AX (ch:Int) q (at':Int) (ZX (λk=>decide (k<at')) (mx ch x) x)=some (mx ch x,0)
 |j,at',0,_,_,_,h=>absurd h (Ayr _)
 |j,at',q+1,ha,hle,hj,hq=>by
  have hlen:=PR ch x;have hl:Ac (ZX (λk=>decide (k<at')) (mx ch x) x)=(x.length:Int):=by rw[Ac,IP,hlen]
  rw[AX,fE,hl];by_cases h:at'<x.length
  ·have hb:=pY ha hm h;obtain⟨j,rfl⟩:∃k,j=k+1:=⟨j-1,by omega⟩;have e4:Ae (at':Int) (ch:Int)=((at'+ch:Nat):Int):=by rw[Ag];omega
   have hi:=Aas ch x (AX (ch:Int) q) at' h1 h6 ha hb hl2 (ch-1) 0 Aq (by omega) (by have:=Al;omega);have hrest:=tZ h1 h6 hm hl2 j (at'+ch) q (by rw[Az5,ha]) hb (by omega) (by omega);rw[Axv]at hi;rw[Abb (by rw[Af];simp;omega),show cW (x.length:Int) (at':Int) (Ae (at':Int) (ch:Int))=some () by rw[e4,cW,lU];omega,Aa];exact Axb hi hrest
  ·rw[Aba (by rw[Af];simp;omega),kJ (λk hk=>by simp;omega)];rfl
theorem Ajg(h1:1<=ch)(h6:ch<=6)(hm:x.length %ch=0)(hl2:x.length<=4000):wO (ch:Int) x=some (mx ch x,0):=by
 have hlen:=PR ch x;have h:=tZ ch x h1 h6 hm hl2 x.length 0 Aq (by simp) (by omega) (by omega) (by have:=Al;omega);rw[wO,nG,rz ch x h1 h6 hm hl2,Aa,Aba (by rw[Ak];simp),Df,Cg (by simp;omega),Aa,Aa,Avf,eZ];rw[eX hlen.symm (λk _=>by simp)]at h;exact h
end
theorem Al7(a:Int32):jV a=some (iO a):=by
 have h:=Xi a;have hc:(Ad a:UInt32)=UInt32.ofNat (a.toInt %4294967296).toNat:=rfl;have hs:(Bt a (GI.toZ (31:UInt64)).toNat)=if 0<=a.toInt then(0:Int32)else -1:=by
  have e:Bt a 31=Int32.ofInt (a.toInt.fdiv (2^31)):=rfl;rw[show(GI.toZ (31:UInt64)).toNat=31 from rfl,e];by_cases h0:0<=a.toInt
  ·rw[Abb h0,show a.toInt.fdiv (2^31)=0 by rw[As3 _ (by decide)];omega];rfl
  ·rw[Aba h0,show a.toInt.fdiv (2^31)= -1 by rw[As3 _ (by decide)];omega];rfl
 rw[jV,hs,hc,iO];congr 1;have hsh:(Cr (UInt32.ofNat (a.toInt %4294967296).toNat) (GI.toZ (1:UInt64)).toNat).toNat=2*(a.toInt %4294967296).toNat %4294967296:=by
  rw[show(GI.toZ (1:UInt64)).toNat=1 from rfl,eL,Aj1,Abk (show(a.toInt %4294967296).toNat<2^32 by omega)];omega
 by_cases h0:0<=a.toInt
 ·rw[Abb h0,Abb h0,show(Ad (0:Int32):UInt32)=0 from rfl];apply UInt32.toNat_inj.1;rw[show∀z:UInt32,Rn z (0:UInt32)=z^^^0 from λz=>by rw[XF],Baa,hsh,Aj1,Abk (show 2*a.toInt.toNat<2^32 by omega)]
  show _^^^0=_;rw[Nat.xor_zero];omega
 ·rw[Aba h0,Aba h0,show(Ad (-1:Int32):UInt32)=4294967295 from rfl];apply UInt32.toNat_inj.1;rw[show∀z:UInt32,Rn z (4294967295:UInt32)=z^^^4294967295 from λz=>by rw[XF],Baa,hsh,Aj1,Abk (show 2*(-a.toInt-1).toNat+1<2^32 by omega)]
  show _^^^4294967295=_;have key:∀n:Nat,n<4294967296->n^^^4294967295=4294967295-n:=by
   intro n hn;have:=BitVec.toNat_not (x:=BitVec.ofNat 32 n);rw[<-BitVec.xor_allOnes,BitVec.toNat_xor,BitVec.toNat_ofNat,Abk (by omega)]at this;simpa using this
  rw[key _ (by omega)];omega
theorem Ak8{bits:Int}(h:Bu bits){t p:List Int32}(hF:OkF (sB bits) t p)(last x:Int32):
  Se bits last (sB bits) t p x=some (vR bits (last,t,p) x,bits,x,sB bits,wZ t p (vR bits (last,t,p) x),(x-gs (shB bits) last)::p.take 15,0):=by
 rw[Se,G3 h,Aa,Aba (by rw[Ak];simp),Al4 h,Aa];simp only;rw[QP,UU,zn hF,Aa];simp only;rw[Aba (by rw[Ak];simp),QP,PG,yj hF,Aa];simp only;rw[Aen (s:=sB bits) (t:=wZ t p _) (p:=p) ⟨hF.1,EK _ _ _,hF.2.2⟩,Aa,Aa];rfl
theorem yD(bits:Int)(ch:Nat)(t x:List Int32):(Jo bits ch t x).length=x.length:=kO _ _ _ _ _
theorem Aln{bits:Int}{ch:Nat}{t x:List Int32}{i:Nat}(h:i<x.length):(Jo bits ch t x).getD i 0=iO (vR bits (cst bits ch t (Jo bits ch t x) (i %ch) i) ((mx ch x).getD i 0)):=by
 obtain⟨w,hw⟩:=dz bits ch t (mx ch x) (x.length-(i+1)) (i+1);rw[show i+1+(x.length-(i+1))=x.length by omega,evl,Ab2]at hw;have hli:=kO bits ch t (mx ch x) i;have hw':Jo bits ch t x=_:=hw;have hg:(Jo bits ch t x).getD i 0=iO (vR bits (cst bits ch t (evl bits ch t (mx ch x) i) (i %ch) i) ((mx ch x).getD i 0)):=by
  rw[hw',List.getD_eq_getElem?_getD,List.getElem?_append_right (by omega),hli,Nat.sub_self];rfl
 have hc:cst bits ch t (Jo bits ch t x) (i %ch) i=cst bits ch t (evl bits ch t (mx ch x) i) (i %ch) i:=by rw[hw',Afw _ _ _ _ _ _ _ (by omega)]
 rw[hg,hc]
section
variable {bits:Int} {ch:Nat} {t x:List Int32} (hb:Bu bits) (ht:t.length=16) (h1:1<=ch) (h6:ch<=6) (hx1:1<=x.length) (hx4:x.length<=4000) (hm:x.length %ch=0)
include hb ht h1 h6 hx1 hx4 hm
omit ht in
theorem Atu(hr:inR bits x):ID (ch:Int) bits x=some 0:=by
 rw[ID,Amr hb h1 h6,Aa,Aba (by decide),bC hb x hx4,tG hb hx4 hr,Aa,Aba (by decide),Aba (by rw[Be,Ac,Ax2];omega),Bf (by rw[Ak];simp;omega),Aa,Ac,PH,hm,Aba (by decide)]
omit hm in
theorem M8:∀(j i q:Nat),i+j=x.length->j<q->
  Iy (mx ch x) (ch:Int) bits q (i:Int) (cts bits ch t (Jo bits ch t x) i) ((Jo bits ch t x).take i)=some (Jo bits ch t x,0)
 |j,i,0,_,h=>absurd h (Ayr _)
 |0,i,q+1,hi,_=>by
  have hl:=PR ch x;have hV:=yD bits ch t x;rw[Iy,Ro,Aba (by rw[Af,Ac];simp;omega),Asm (by omega)];rfl
 |j+1,i,q+1,hi,hq=>by
  have hl:=PR ch x;have hV:=yD bits ch t x;have hc:i %ch<6:=Aj5 (Axr _ (by omega)) h6;have hok:=iq bits ch ht (Jo bits ch t x) (i %ch) i;have hs:=Afy (bits:=bits) (ch:=ch) (t:=t) (v:=Jo bits ch t x) (i:=i) hc rfl;have hg:=Aln (bits:=bits) (ch:=ch) (t:=t) (x:=x) (i:=i) (by omega);have ih:=M8 j (i+1) q (by omega) (by omega);have htk:(Jo bits ch t x).take i++[(Jo bits ch t x).getD i 0]=(Jo bits ch t x).take (i+1):=by
   have:(Jo bits ch t x).getD i 0=(Jo bits ch t x)[i]'(by omega):=by rw[List.getD_eq_getElem?_getD,List.getElem?_eq_getElem (by omega)];rfl
   rw[this,Nd (by omega)]
  have hfw:=Ak8 hb hok (cst bits ch t (Jo bits ch t x) (i %ch) i).1 ((mx ch x).getD i 0);rw[Iy,Ro,Abb (by rw[Af,Ac];simp;omega),g32 (by omega),Aa,Aa,Bf (by rw[Ak];simp;omega),Aa,PH,Agi hc,Aa,Aa];refine Axb (congrArg (λo=>Option.bind o _) hfw) ?_;rw[Aa];simp only;rw[Aba (by decide)];have hst:((bits,(mx ch x).getD i 0,(sB bits,wZ (cst bits ch t (Jo bits ch t x) (i %ch) i).2.1 (cst bits ch t (Jo bits ch t x) (i %ch) i).2.2 (vR bits (cst bits ch t (Jo bits ch t x) (i %ch) i) ((mx ch x).getD i 0)),((mx ch x).getD i 0-gs (shB bits) (cst bits ch t (Jo bits ch t x) (i %ch) i).1)::(cst bits ch t (Jo bits ch t x) (i %ch) i).2.2.take 15,()),()):CL)=toC bits (N8 bits (cst bits ch t (Jo bits ch t x) (i %ch) i) (PC ((Jo bits ch t x).getD i 0))):=by
   rw[hg,Al8,toC,N8,M2];simp only;rw[vR,UH]
  refine Axb (congrArg (λo=>Option.bind o _) ((congrArg (λz=>Ip (cts bits ch t (Jo bits ch t x) i) ((i %ch:Nat):Int) z) hst).trans hs)) ?_;rw[Aa,Al7,Aa];have hg2:iO (vR bits ((cst bits ch t (Jo bits ch t x) (i %ch) i).1,(cst bits ch t (Jo bits ch t x) (i %ch) i).2.1,(cst bits ch t (Jo bits ch t x) (i %ch) i).2.2) ((mx ch x).getD i 0))=(Jo bits ch t x).getD i 0:=hg.symm;rw[hg2,Cg (by rw[Aiq];simp;omega),Aa,htk,Ag];exact ih
theorem Adl(hr:inR bits x):CG (ch:Int) bits t x=some (Jo bits ch t x,0):=by
 have hl:=PR ch x;have h:=M8 hb ht h1 h6 hx1 hx4 x.length 0 Aq (by omega) (by have:=Al;omega);have e:Aq=(Aq-7)+1+1+1+1+1+1+1:=by have:=Al;omega
 have hs:Ua (ch:Int) bits t (mx ch x) 0 (List.replicate 6 ((0:Int),(0:Int32),((0:Int),(List.replicate 16 (0:Int32)),(List.replicate 16 (0:Int32)),()),()))=BH (ch:Int) bits (mx ch x) (cts bits ch t (Jo bits ch t x) 0):=by
  rw[Ua,e];obtain rfl|rfl|rfl:=hb<;>rfl
 rw[CG,CI,Atu hb h1 h6 hx1 hx4 hm hr,Aa,Aba (by decide),Ajg ch x h1 h6 hm hx4,Aa];simp only;rw[Aba (by decide)];refine Axb hs ?_;exact h
end
theorem Adf(ch:Nat):DU=some (sts ch []):=by
 have e:Aq=(Aq-7)+1+1+1+1+1+1+1:=by have:=Al;omega
 rw[DU,CA,EH,e];rfl
theorem vg(c:List Bool){n:Nat}(h:n<=c.length):Ng (Jc c) 0 n=Jc (c.take n):=by
 have hl:(c.take n).length=n:=by rw[Aiq];omega
 apply og (by rw[Hf,Vt,hl]);intro i hi;rw[oK,Avi,AD,AD];by_cases hlt:i<n
 ·rw[Abb hlt,tb,tb,List.getD_eq_getElem?_getD,List.getD_eq_getElem?_getD,List.getElem?_take,Abb hlt]
 ·rw[Aba hlt,Y2 (by omega)]
theorem Auz(a:UInt8){k:Nat}(hk:k<8):Db (Bt a k) (1:UInt8)=UInt8.ofNat (a.toNat/2^k %2):=by
 apply UInt8.toNat_inj.1;rw[Aep,UInt8.toNat_and,dw,Aoi]
 show _&&&1=_;rw[Nat.and_one_is_mod];generalize a.toNat/2^k=X;omega
theorem Abt(E code:List Bool)(hE:E.length+code.length<=330000)(bk:Int->List (Int×Int×UInt64×UInt64×Unit)->Int->List UInt8->Bg)(V:List UInt32)(b f g:Int)(k:List (Int×Int×UInt64×UInt64×Unit)):∀(j o q:Nat),o+j=code.length->j<q->
  Fj bk V b f (code.length:Int) g k (Jc code) q (o:Int) ((E.length+o:Nat):Int) (Ng (Jc (E++code)) 0 (E.length+o))=bk (Ae g 1) k ((E.length+code.length:Nat):Int) (Jc (E++code))
 |j,o,0,_,h=>absurd h (Ayr _)
 |0,o,q+1,ho,_=>by
  obtain rfl:o=code.length:=by omega
  rw[Fj,Rr,Aba (by rw[Af];simp),Zm,QG,vg _ (by rw[Abw];omega),Asm (by rw[Abw];omega)]
 |j+1,o,q+1,ho,hq=>by
  generalize hP:Jc (E++code)=P;have hPo:Fp P (E.length+o)=Fp (Jc code) o:=by rw[<-hP,AD,AD,T0]
  have ih:=Abt E code hE bk V b f g k j (o+1) q (by omega) (by omega);rw[hP,<-Avm]at ih;generalize hn:E.length+o=n at*
  have hq8:Bv (n:Int) 8=((n/8:Nat):Int):=by rw[show(8:Int)=((8:Nat):Int)from rfl,tH]
  have hr8:Ga (n:Int) 8=((n %8:Nat):Int):=by rw[show(8:Int)=((8:Nat):Int)from rfl,PH]
  have hqo:Bv (o:Int) 8=((o/8:Nat):Int):=by rw[show(8:Int)=((8:Nat):Int)from rfl,tH]
  have hro:Ga (o:Int) 8=((o %8:Nat):Int):=by rw[show(8:Int)=((8:Nat):Int)from rfl,PH]
  have hroom:Fj bk V b f (code.length:Int) g k (Jc code) (q+1) (o:Int) (n:Int) (Ng P 0 n)=Qy (Fj bk V b f (code.length:Int) g k (Jc code) q) (code.length:Int) V g b f k (Jc code) (o:Int) (n:Int) (room P 0 n):=by
   rw[Fj,Rr,Abb (by rw[Af];simp;omega),hr8,room];by_cases h0:n %8=0
   ·rw[Abb (by rw[Be,h0];rfl),Cg (by rw[Hf];simp;omega),Aa,Abb h0]
   ·rw[Aba (by rw[Be];simp;omega),Aba h0]
  have hcl:=Vt code;have hgm:Aj (Jc code) ((o/8:Nat):Int)=some ((Jc code).getD (o/8) 0):=by
   rw[Ck,List.getD_eq_getElem?_getD,List.getElem?_eq_getElem (by omega)];rfl
  have hg:Aj (room P 0 n) ((n/8:Nat):Int)=some (UInt8.ofNat (Bl P (0+8*(n/8)) (n %8))):=by
   rw[Ck (by rw[Ls];omega),jZ]
  have hbit:Db (Bt ((Jc code).getD (o/8) 0) (o %8)) (1:UInt8)=UInt8.ofNat (Fp P n):=by
   rw[Auz _ (by omega),hPo,Fp]
  have hlt:=rG P (0+8*(n/8)) (n %8+1) (by omega);have hsn:=jU P (0+8*(n/8)) (n %8);rw[show 0+8*(n/8)+n %8=n by omega]at hsn;have hnew:sW (UInt8.ofNat (Bl P (0+8*(n/8)) (n %8))) (Cr (UInt8.ofNat (Fp P n)) (n %8))=UInt8.ofNat (Bl P (0+8*(n/8)) (n %8+1)):=by
   rw[or8 (Mj _ _ _) (by rw[Aor];omega) (by omega),hsn,Aor (2^(n %8))]
  rw[hroom,Qy,Yx,hqo,hro,hq8,hr8,hgm,Aa,Aa,Bf (by rw[De];simp;omega),Aa,hg,Aa,Bf (by rw[De];simp;omega),Aa,Aa,Aa,
   show(GI.toZ ((o %8:Nat):Int)).toNat=o %8 from rfl,show(GI.toZ ((n %8:Nat):Int)).toNat=n %8 from rfl,hbit,hnew,Rj _ (by rw[Ls];omega),Aa,qO P 0 n 1 (by omega) (by omega),Za,SS,Ag,Ag]
  exact ih
theorem Ayg(l m:List UInt8)(h:l.length+m.length<=1000000):Jv [l,m]=some (l++m):=by
 have hF:Aq=(Aq-3)+1+1+1:=by have:=Al;omega
 rw[Jv,Mb,Lp];have g0:Aj [l,m] (0:Int)=some l:=rfl;have g1:Aj [l,m] (1:Int)=some m:=rfl;have l2:Ac [l,m]=2:=rfl;have h3:Ha [l,m] []=some (l++m):=by
  rw[Ha,Kw,Ks,hF,Dh,Eu,l2,Abb (by decide),g0,Aa,Cg (by simp;omega),Aa,Avf,show Ae (0:Int) 1=1 by decide,
   Dh,Eu,l2,Abb (by decide),g1,Aa,Cg,Aa,show Ae (1:Int) 1=2 by decide,Dh,Eu,l2,Aba (by decide)]
  rfl
 rw[hF,Dp,Fg,l2,Abb (by decide),g0,Aa,Ag (by unfold Ac;omega) (by unfold Ac;omega),Aba (by rw[Af,Ac];simp),show Ae (0:Int) 1=1 by decide,
  Dp,Fg,l2,Abb (by decide),g1,Aa,Ag (by unfold Ac;omega) (by unfold Ac;omega),Aba (by rw[Af,Ac,Ac];simp;omega),show Ae (1:Int) 1=2 by decide,
  Dp,Fg,l2,Aba (by decide),Ld,Kx,Aba (by rw[Af,Ac,Ac];simp;omega),Lb,La]
 have z:Ah (0:Int) 0=0:=by decide
 have n0:(0:Int)+Ac l+Ac m=((l.length+m.length:Nat):Int):=by simp[Ac]
 rw[z,n0,Bi,Int.sub_zero];by_cases hp:0<l.length+m.length
 ·rw[Abb (by rw[Am];simp;omega),show cW (0:Int) 0 0=some ()from rfl,Aa,mG,Aa,Cg (by simp;omega),Aa];rw[show cW (Ac ([]++List.replicate ((l.length+m.length:Nat):Int).toNat (0:UInt8))) 0 0=some () by rw[cW,Bf];simp[Ac];omega,Aa];simp only[TI,Int.sub_self,Int.toNat_zero,Ax9];exact h3
 ·rw[Aba (by rw[Am];simp;omega)];exact h3
theorem Abj(bits:Int)(ch:Nat)(h1:1<=ch)(h6:ch<=6)(V:List UInt32)(hV:V.length<=4000):∀(j i q:Nat),i+j=V.length->j<q->
  Gq V (ch:Int) bits q (i:Int) (sts ch (V.take i)) ((Oc ch V i).length:Int) (Jc (Oc ch V i))=some (Jc (Oc ch V V.length)++Kq (Dc (Jc (Oc ch V V.length))).toNat 4,0)
 |j,i,0,_,h=>absurd h (Ayr _)
 |0,i,q+1,hi,_=>by
  obtain rfl:i=V.length:=by omega
  have hel:=fC ch V V.length;have hpl:=Vt (Oc ch V V.length);have hlt:=(Dc (Jc (Oc ch V V.length))).toNat_lt;rw[Gq,Rh,Aba (by rw[Af,Ac];simp),Zd,RU,sP _ (by omega),Aa];simp only;have e64:(UInt64.ofNat (Dc (Jc (Oc ch V V.length))).toNat).toNat=(Dc (Jc (Oc ch V V.length))).toNat:=UB (by omega);rw[Aba (by decide),Cn,show(4:Int)=((4:Nat):Int)from rfl,EE _ 4 (by omega) (by omega) (by rw[e64];omega),Aa];simp only;rw[Aba (by decide),e64,Ayg _ _ (by rw[Ba];omega),Aa]
 |j+1,i,q+1,hi,hq=>by
  have hc:i %ch<6:=Aj5 (Axr _ (by omega)) h6;have hvl:(V.take i).length=i:=by rw[Aiq];omega
  have hel:=fC ch V i;have hk:=R7 ch (V.take i);have hcl:=XA (V.getD i 0) hk.1 hk.2;have ih:=Abj bits ch h1 h6 V hV j (i+1) q (by omega) (by omega);have hvi:V.getD i 0=V[i]'(by omega):=by rw[List.getD_eq_getElem?_getD,List.getElem?_eq_getElem (by omega)];rfl
  have htk:V.take i++[V.getD i 0]=V.take (i+1):=by rw[hvi,Nd (by omega)]
  have hst:=U7 (ch:=ch) (v:=V.take i) hc;have hset:=Agl (ch:=ch) (v:=V.take i) (V.getD i 0) hc (by rw[hvl]);have Azk:dX ch (V.take i) (i %ch) (V.take i).length=now ch (V.take i):=Arz (by rw[hvl]);rw[Azk]at hst hset;rw[htk]at hset;have hdp:=Anr (k:=(now ch (V.take i)).1) (l:=(now ch (V.take i)).2.1) (s:=(now ch (V.take i)).2.2.1) (t:=(now ch (V.take i)).2.2.2) (gQ ch (V.take i) _ _) (V.getD i 0);have hpc:=Abt (Oc ch V i) (Ok (now ch (V.take i)).1 (now ch (V.take i)).2.1 (V.getD i 0)) (by omega) (Gq V (ch:Int) bits q) V (ch:Int) bits (i:Int) (sts ch (V.take (i+1))) (Ok (now ch (V.take i)).1 (now ch (V.take i)).2.1 (V.getD i 0)).length 0 Aq (by omega) (by have:=Al;omega);rw[show(Oc ch V i).length+0=(Oc ch V i).length from rfl,vg _ (by rw[Abw];omega),List.take_left,show((0:Nat):Int)=0 from rfl]at hpc;rw[Gq,Rh,Abb (by rw[Af,Ac];simp;omega),qS (by omega),Aa,Aa,Bf (by rw[Ak];simp;omega),Aa,PH,hst,Aa,Aa];refine Axb (congrArg (λo=>Option.bind o _) hdp) ?_;rw[Aa];simp only;rw[Aba (by decide),Aa,Aa];refine Axb (congrArg (λo=>Option.bind o _) hset) ?_;rw[Aa];refine Axb hpc ?_;rw[Ag];rw[Oc,Abw]at ih;exact ih
theorem Y3{bits:Int}{ch:Nat}{t x:List Int32}(hb:Bu bits)(ht:t.length=16)(h1:1<=ch)(h6:ch<=6)(hx1:1<=x.length)(hx4:x.length<=4000)(hm:x.length %ch=0)(hr:inR bits x):
  Qg (ch:Int) bits t x=some (Nh bits ch t x,0):=by
 have hV:=yD bits ch t x;have h:=Abj bits ch h1 h6 (Jo bits ch t x) (by omega) (Jo bits ch t x).length 0 Aq (by omega) (by have:=Al;omega);have e0:Jc (Oc ch (Jo bits ch t x) 0)=[]:=by simp[Oc,Jc]
 have e1:((Oc ch (Jo bits ch t x) 0).length:Int)=0:=rfl;rw[e0,e1,Ax9,hV,show((0:Nat):Int)=0 from rfl]at h;rw[Qg,BW,Adl hb ht h1 h6 hx1 hx4 hm hr,Aa];simp only;rw[Aba (by decide),Adf ch,Aa,Nh,RF,Yv];exact h
theorem Atk{r:Nat}(h1:1<=r)(h:r<=1048576):Np (r:Int)=some ((Ay r:Int),0):=by
 have hv:=C8 h;have e:Bd (r:Int) 256=Bd 256 (r:Int):=by rw[Hc,Hc];omega
 rw[Np,Aba (by simp[Af,Am];omega),e];have hq:0<=Bv (Bd 256 (r:Int)) 245:=by
  have e2:Bd 256 (r:Int)=((256*r:Nat):Int):=by rw[Hc];omega
  rw[e2,show(245:Int)=((245:Nat):Int)from rfl,tH];omega
 rw[Z2]at hv;by_cases hz:Bv (Bd 256 (r:Int)) 245=0
 ·rw[Abb (by rw[Be];simpa using hz)];rw[hz]at hv;have:(1:Int)=(Ay r:Int):=by omega
  rw[this]
 ·rw[Aba (by rw[Be];simpa using hz)];have:Bv (Bd 256 (r:Int)) 245=(Ay r:Int):=by omega
  rw[this]
structure ClipOk (c w r n:Nat) (x:List Int32):Prop where
 ch:1<=c/\c<=6
 bits:Bu (w:Int)
 rate:1<=r/\r<=1048576
 cnt:1<=n/\n<=4000/c
 len:x.length=n*c
 fr:(n-1)/Ay r+1<=1000
 rng:inR (w:Int) x
theorem ClipOk.le{c w r n:Nat}{x:List Int32}(h:ClipOk c w r n x):n<=4000/\n*c<=4000/\1<=x.length/\x.length<=4000:=by
 have h1:=Ado c h.cnt.2;have h2:=Ax0 4000 c;have h3:=As9 4000 c;have h4:=Nat.mul_pos h.cnt.1 h.ch.1;have h5:=h.len;have:=h.cnt;omega
theorem ClipOk.w3{c w r n:Nat}{x:List Int32}(h:ClipOk c w r n x):w=8\/w=16\/w=24:=by
 have:=h.bits;unfold Bu at this;omega
theorem ClipOk.shape{c w r n:Nat}{x:List Int32}(h:ClipOk c w r n x)(f:Nat)(hf:f=1\/f=2):Fb f c w r n=true:=by
 have:=h.w3;have:=h.ch;have:=h.rate;have:=h.cnt;simp only[Fb,Ab1];omega
theorem ClipOk.fit{c w r n:Nat}{x:List Int32}(h:ClipOk c w r n x):CX c r n=true:=by
 have:=h.cnt;have:=h.fr;simp only[CX,Ab1];omega
theorem Awd{bits:Int}(h:Bu bits){l:List Int32}(hl:l.length<=4000):Ao bits l=some 0\/Ao bits l=some 16:=by
 have hh:=VI bits;have key:∀(j i q:Nat),i+j=l.length->j<q->As l (hB bits) q (i:Int)=some 0\/As l (hB bits) q (i:Int)=some 16:=by
  intro j
  induction j with
  |zero=>
   intro i q hi hq;obtain⟨q,rfl⟩:∃q',q=q'+1:=⟨q-1,by omega⟩;rw[As,Cb,Aba (by rw[Af,Ac];simp;omega)];exact .inl rfl
  |succ j ih=>
   intro i q hi hq;obtain⟨q,rfl⟩:∃q',q=q'+1:=⟨q-1,by omega⟩;have ih:=ih (i+1) q (by omega) (by omega);have hi1:Ae (i:Int) 1=((i+1:Nat):Int):=by rw[Ag];omega
   rw[As,Cb,Abb (by rw[Af,Ac];simp;omega),Ck,Aa,Aa,hi1];split
   ·exact .inr rfl
   ·split
    ·exact .inr rfl
    ·exact ih
 have hk:=key l.length 0 Aq (by omega) (by have:=Al;omega);rw[Ao,Ct,XM h,Aa,Aba (by rw[Be];simp;omega),Aba (by rw[Am,Ac];simp;omega)];exact hk
theorem pM{bits:Int}(h:¬Bu bits):Hq bits=some 0/\Qo bits=some (0,0,2):=by
 unfold Bu at h;constructor
 ·rw[Hq,Aba (by rw[Be,Ax2];omega),Aba (by rw[Be,Ax2];omega),Aba (by rw[Be,Ax2];omega)]
 ·have e:(geq bits 24)=false:=by rw[Be,beq_eq_false_iff_ne];omega
  rw[Qo,RD,Aba (by rw[Be,Ax2];omega),Aba (by rw[Be,Ax2];omega),e,SN,fQ,Aba (by decide)]
theorem rV{r:Nat}(h:r<=1048576):∀(j n q:Nat) (acc:List Int),n<=4000->n<=j->j<q->acc.length+n<=10000->
  Hu (Ay r:Int) q (n:Int) acc=some (if 1000<(acc++(if n=0 then []else Au (Ay r) n)).length then([],4)else(acc++(if n=0 then []else Au (Ay r) n),0))
 |j,n,0,acc,_,_,h,_=>absurd h (Ayr _)
 |j,n,q+1,acc,hn,hj,hq,ha=>by
  have hp:=Qi r;by_cases h0:n=0
  ·subst h0;rw[Abb rfl,Avk,Hu,Oy,Aba (by rw[Am];simp),Wz,NR,Am,Ac];by_cases hk:1000<acc.length
   ·rw[Abb hk,Abb (by simp;omega)]
   ·rw[Aba hk,Aba (by simp;omega)]
  ·obtain⟨j,rfl⟩:∃j',j=j'+1:=⟨j-1,by omega⟩;rw[Hu,Oy,Abb (by rw[Am];simp;omega),Cg (by simp;omega),Aa,GU];by_cases hs:n<=Ay r
   ·rw[show min (n:Int) (Ay r:Int)=(n:Int) by omega,Bi,Int.sub_self];have ih:=rV h j 0 q (acc++[(n:Int)]) (by omega) (by omega) (by omega) (by simp;omega);rw[Abb rfl,Avk]at ih;rw[Aba h0,mL hs (by omega)];exact ih
   ·rw[show min (n:Int) (Ay r:Int)=(Ay r:Int) by omega,Bi,show(n:Int)-(Ay r:Int)=((n-Ay r:Nat):Int) by omega];have e:acc++Au (Ay r) n=(acc++[(Ay r:Int)])++Au (Ay r) (n-Ay r):=by rw[vM hp (show Ay r<n by omega)];simp
    have ih:=rV h j (n-Ay r) q (acc++[(Ay r:Int)]) (by omega) (by omega) (by omega) (by simp;omega);rw[Aba (show ¬n-Ay r=0 by omega),<-e]at ih;rw[Aba h0];exact ih
theorem Ada(C W R:Int)(x:List Int32)(hlen:x.length<4611686018427387904):(Cj C W R x=some 8/\Cx C W R x=some 8)\/
  (∃c w r n:Nat,C=(c:Int)/\W=(w:Int)/\R=(r:Int)/\ClipOk c w r n x/\Cj C W R x=some 0/\Cx C W R x=some 0):=by
 have I2:∀e:Int,e≠0->Bw C W x=some e->Cj C W R x=some 8:=by
  intro e he h;rw[Cj,Gm,Aa];simp only;rw[h,Aa,Abb (by rw[Ak];simpa using he)]
 by_cases hC:C<1
 ·refine .inl ⟨I2 2 (by decide) ?_,?_⟩
  ·rw[Bw,Cs,Abb (by simp[Af,Am];omega),Aa,Abb (by decide)]
  ·rw[Cx,Abb (by rw[Af];simpa using hC)]
 obtain⟨c,rfl⟩:=An8 (show 0<=C by omega);have hc1:1<=c:=by omega
 have hq:Bv (Ac x) (c:Int)=((x.length/c:Nat):Int):=by rw[Ac,tH]
 have hr0:Ga (Ac x) (c:Int)=((x.length %c:Nat):Int):=by rw[Ac,PH]
 have Amk:(∀m:Nat,x.length=m*c->GV (c:Int) W R x (m:Int)=some 8)->Cx (c:Int) W R x=some 8:=by
  intro h;rw[Cx,Aba (by rw[Af];simpa using hC),Bf (by rw[Ak];simp;omega),Aa,hr0];by_cases hm:x.length %c=0
  ·have hx:x.length=x.length/c*c:=by have:=Azz x.length c;rw[hm,Aor]at this;omega
   rw[hm,Aba (by decide),Aa,hq,h _ hx,Aa,Abb (by decide)]
  ·rw[Abb (by rw[Ak];simp;omega)]
 by_cases h6:6<c
 ·refine .inl ⟨I2 2 (by decide) ?_,Amk λm hm=>?_⟩
  ·rw[Bw,Cs,Abb (by simp[Af,Am];omega),Aa,Abb (by decide)]
  ·rw[GV,GZ,Aa];simp only;have:Fm (c:Int) W=some 2:=by
    rw[Fm];by_cases hb:Bu W
    ·rw[T5 hb,Aa];simp only;rw[Abb (by simp[Ak,Af,Am];omega)]
    ·rw[(pM hb).2,Aa];simp only;rw[Abb (by simp[Ak])]
   rw[this,Aa,Abb (by simp[Ak])]
 by_cases hb:Bu W
 rotate_left
 ·refine .inl ⟨I2 2 (by decide) ?_,Amk λm hm=>?_⟩
  ·rw[Bw,Cs,Aba (by simp[Af,Am];omega),(pM hb).1,Aa,Abb (by decide),Aa,Abb (by decide)]
  ·rw[GV,GZ,Aa];simp only;have:Fm (c:Int) W=some 2:=by
    rw[Fm,(pM hb).2,Aa];simp only;rw[Abb (by simp[Ak])]
   rw[this,Aa,Abb (by simp[Ak])]
 have hhB:=VI W;have e20:Cs (c:Int) W=some 0:=by
  rw[Cs,Aba (by simp[Af,Am];omega),XM hb,Aa,Aba (by rw[Be];simp;omega)]
 have hq4:=R5 hc1 (show c<=6 by omega);have ecf:=Amr hb hc1 (show c<=6 by omega);have Ag7:∀m:Nat,GV (c:Int) W R x (m:Int)=if m<1\/4000/c<m then some 8 else Option.bind (He R (m:Int)) λy=>if(Bk y.2 0)=true then some 8 else some 0:=by
  intro m;rw[GV,GZ,Aa];simp only;rw[ecf,Aa];by_cases hm:m<1
  ·rw[Abb (by simp[Ak,Af];omega),Abb (.inl hm)]
  ·rw[Aba (by simp[Ak,Af];omega),Bf (by rw[Ak];simp;omega),Aa,hq4];by_cases hm2:4000/c<m
   ·rw[Abb (by rw[Am,Ab1,gt_iff_lt,Int.ofNat_lt];exact hm2),Abb (.inr hm2)]
   ·rw[Aba (by rw[Am,Ab1,gt_iff_lt,Int.ofNat_lt];exact hm2),Aba (by omega)]
 by_cases hx4:4000<x.length
 ·refine .inl ⟨I2 4 (by decide) ?_,Amk λm hm=>?_⟩
  ·have:Ao W x=some 4:=by
    rw[Ao,Ct,XM hb,Aa,Aba (by rw[Be];simp;omega),Abb (by rw[Am,Ac];simp;omega)]
   rw[Bw,e20,Aa,Aba (by decide),this,Aa,Abb (by decide),Aa]
  ·rw[Ag7,Abb];refine .inr ?_;rw[Nat.div_lt_iff_lt_mul (by omega)];omega
 have hx4:x.length<=4000:=by omega
 have hsame:=bC hb x hx4;rcases Awd hb hx4 with h18|h18
 rotate_left
 ·refine .inl ⟨I2 16 (by decide) ?_,?_⟩
  ·rw[Bw,e20,Aa,Aba (by decide),h18,Aa,Abb (by decide),Aa]
  ·rw[Cx,Aba (by rw[Af];simpa using hC),Bf (by rw[Ak];simp;omega),Aa,hr0];by_cases hm:x.length %c=0
   ·rw[hm,Aba (by decide),Aa,hq,Ag7];split
    ·rw[Aa,Abb (by decide)]
    ·rename_i hh;by_cases hR:1<=R/\R<=1048576
     ·obtain⟨r,rfl⟩:=An8 (show 0<=R by omega);have hd:=As9 x.length c;rw[aA (by omega) (by omega) (by omega) (by omega),Aa];split
      ·rw[Abb (by decide),Aa,Abb (by decide)]
      ·rw[Aba (by simp[Ak]),Aa,Aba (by decide),hsame,h18,Aa,Abb (by decide)]
     ·rw[He,Qr,Abb (by simp[Af,Am];omega),Aa];simp only;rw[Abb (by decide),Aa];simp only;rw[Abb (by decide),Aa,Abb (by decide)]
   ·rw[Abb (by rw[Ak];simp;omega)]
 by_cases hx1:x.length<1
 ·refine .inl ⟨I2 2 (by decide) ?_,Amk λm hm=>?_⟩
  ·rw[Bw,e20,Aa,Aba (by decide),h18,Aa,Aba (by decide),Abb (by rw[Af,Ac];simp;omega)]
  ·have h0:m*c=0:=by omega
   have:m=0:=by rcases Nat.mul_eq_zero.1 h0 with h|h<;>omega
   rw[Ag7,Abb (.inl (by omega))]
 have hA:x.length %c=0->Bw (c:Int) W x=some 0:=by
  intro hm;rw[Bw,e20,Aa,Aba (by decide),h18,Aa,Aba (by decide),Aba (by rw[Af,Ac];simp;omega),Bf (by rw[Ak];simp;omega),Aa,hr0,hm,Aba (by decide)]
 by_cases hm:x.length %c=0
 rotate_left
 ·refine .inl ⟨I2 2 (by decide) ?_,?_⟩
  ·rw[Bw,e20,Aa,Aba (by decide),h18,Aa,Aba (by decide),Aba (by rw[Af,Ac];simp;omega),Bf (by rw[Ak];simp;omega),Aa,hr0,Abb (by rw[Am];simp;omega)]
  ·rw[Cx,Aba (by rw[Af];simpa using hC),Bf (by rw[Ak];simp;omega),Aa,hr0,Abb (by rw[Ak];simp;omega)]
 have hxn:x.length=x.length/c*c:=by have:=Azz x.length c;rw[hm,Aor]at this;omega
 generalize hN:x.length/c=n at*
 have hn1:1<=n:=by
  by_cases h0:n=0
  ·rw[h0]at hxn;omega
  ·omega
 have hn4:n<=4000/c:=by rw[<-hN];exact Nat.div_le_div_right hx4
 have hn4':n<=4000:=Baf hn4 (As9 _ _);have e21:Dy (c:Int) W (n:Int)=some 0:=by
  rw[Dy,e20,Aa,Aba (by simp[Ak,Af];omega),Bf (by rw[Ak];simp;omega),Aa,hq4,Aba (by rw[Am,Ab1,gt_iff_lt,Int.ofNat_lt];omega)]
 have Aoq:∀z e:Int,Is R (n:Int)=some (z,e)->Cj (c:Int) W R x=some (if e=0 then 0 else 8):=by
  intro z e hz;rw[Cj,Gm,Aa];simp only;rw[hA hm,Aa,Aba (by decide),Bf (by rw[Ak];simp;omega),Aa,hq,FE,Gm,Aa];simp only;rw[e21,Aa,Aba (by decide),hz,Aa,Aa,Be];by_cases he:e=0
  ·subst he;rfl
  ·rw[Aba he,Abb (by simpa using he)]
 have R3:Cx (c:Int) W R x=Option.bind (Option.bind (He R (n:Int)) λy=>if(Bk y.2 0)=true then some 8 else some 0) λg=>if(Bk g 0)=true then some g else some 0:=by
  rw[Cx,Aba (by rw[Af];simpa using hC),Bf (by rw[Ak];simp;omega),Aa,hr0,hm,Aba (by decide),Aa,hq,Ag7,Aba (by omega),hsame,h18];rfl
 by_cases hR:1<=R/\R<=1048576
 rotate_left
 ·refine .inl ⟨?_,?_⟩
  ·refine Aoq 0 2 ?_;rw[Is,Wh,Oz,Np,Abb (by simp[Af,Am];omega),Aa];simp only;rw[Abb (by simp[Ak]),Aa];rfl
  ·rw[R3,He,Qr,Abb (by simp[Af,Am];omega),Aa];simp only;rw[Abb (by decide),Aa];simp only;rw[Abb (by decide),Aa,Abb (by decide)]
 obtain⟨r,rfl⟩:=An8 (show 0<=R by omega);have hl:=rV (r:=r) (by omega) n n Aq [] hn4' (Aj3 _) (by have:=Al;omega) (by simp;omega);rw[Aba (show ¬n=0 by omega),Avf,AF]at hl;have hcount:∃z:Int,Is (r:Int) (n:Int)=some (z,if 1000<(n-1)/Ay r+1 then 4 else 0):=by
  rw[Is,Wh,Oz,Atk (by omega) (by omega),Aa];simp only;rw[Aba (by simp[Ak,Af,Am];omega),Xe,hl,Aa];split<;>exact⟨_,rfl⟩
 obtain⟨z,hz⟩:=hcount;have h24:=Aoq z _ hz;rw[aA (by omega) (by omega) hn1 hn4',Aa]at R3;by_cases hk:1000<(n-1)/Ay r+1
 ·rw[Abb hk]at h24 R3;exact .inl ⟨h24,R3⟩
 ·rw[Aba hk]at h24 R3;have hw:∃w:Nat,W=(w:Int):=by
   rcases hb with rfl|rfl|rfl
   ·exact⟨8,rfl⟩
   ·exact⟨16,rfl⟩
   ·exact⟨24,rfl⟩
  obtain⟨w,rfl⟩:=hw;exact .inr ⟨c,w,r,n,rfl,rfl,rfl,⟨⟨hc1,by omega⟩,hb,by omega,⟨hn1,hn4⟩,hxn,by omega,kR hb hx4 h18⟩,h24,R3⟩
theorem Ahf(C W R:Int){x:List Int32}(h:4000<x.length):Cj C W R x=some 8:=by
 have key:∃e:Int,e≠0/\Bw C W x=some e:=by
  rw[Bw,Cs];by_cases h1:((Cf C 1)||(Dv C 6))=true
  ·rw[Abb h1,Aa,Abb (by decide)];exact⟨2,by decide,rfl⟩
  ·rw[Aba h1];by_cases hb:Bu W
   ·have hh:=VI W;have h18:Ao W x=some 4:=by
     rw[Ao,Ct,XM hb,Aa,Aba (by rw[Be];simp;omega),Abb (by rw[Am,Ac];simp;omega)]
    rw[XM hb,Aa,Aba (by rw[Be];simp;omega),Aa,Aba (by decide),h18,Aa,Abb (by decide),Aa];exact⟨4,by decide,rfl⟩
   ·rw[(pM hb).1,Aa,Abb (by decide),Aa,Abb (by decide)];exact⟨2,by decide,rfl⟩
 obtain⟨e,he,h1⟩:=key;rw[Cj,Gm,Aa];simp only;rw[h1,Aa,Abb (by rw[Ak];simpa using he)]
theorem uw(C W R:Int)(x:List Int32):(Cj C W R x=some 8/\ (x.length<4611686018427387904->Cx C W R x=some 8))\/
  (∃c w r n:Nat,C=(c:Int)/\W=(w:Int)/\R=(r:Int)/\ClipOk c w r n x/\Cj C W R x=some 0/\Cx C W R x=some 0):=by
 by_cases hx:x.length<4611686018427387904
 ·rcases Ada C W R x hx with⟨h1,h2⟩|h
  ·exact .inl ⟨h1,λ_=>h2⟩
  ·exact .inr h
 ·exact .inl ⟨Ahf C W R (by omega),λh=>absurd h hx⟩
def tR(f c w r n:Nat):List UInt8:=Nq++Kq f 2++Kq c 2++Kq w 2++Kq r 4++Kq n 4
def Zi(f c w r n:Nat):List UInt8:=tR f c w r n++Kq (Dc (tR f c w r n)).toNat 4
theorem XU(f c w r n:Nat):(tR f c w r n).length=18:=by simp only[tR,Nq,Abw,Ba];rfl
theorem jI(f c w r n:Nat):(Zi f c w r n).length=22:=by rw[Zi,Abw,XU,Ba]
theorem E5(b f g h k:Int)(m v w q:Nat)(a:List UInt8)(hm:m<5)(hv:Aj ([b,f,g,h,k]:List Int) (m:Int)=some (v:Int))(hw:Aj ([2,2,2,4,4]:List Int) (m:Int)=some (w:Int))(h1:1<=w)(h8:w<=8)(hlt:v<256^w)(h64:v<18446744073709551616)(ha:a.length<=100):
  Kb b f g h k (q+1) (m:Int) a=Kb b f g h k q ((m+1:Nat):Int) (a++Kq v w):=by
 have e64:(UInt64.ofNat v).toNat=v:=UB (by omega);have hi1:Ae (m:Int) 1=((m+1:Nat):Int):=by rw[Ag];omega
 rw[Kb,Yp,Abb (by rw[Af];simp;omega),hv,Aa,hw,Aa,Nf,EE _ w h1 h8 (by rw[e64];exact hlt),Aa];simp only;rw[Cg (by rw[Ba];omega),Aa,hi1,e64]
theorem Z9{f c w r n:Nat}(h1:Fb f c w r n=true)(h2:CX c r n=true):OJ (f:Int) (c:Int) (w:Int) (r:Int) (n:Int)=some (Zi f c w r n,0):=by
 have hs:(f=1\/f=2)/\ (1<=c/\c<=6)/\ (w=8\/w=16\/w=24)/\ (1<=r/\r<=1048576)/\1<=n:=by simpa only[Fb,Ab1]using h1
 have hn:n<=4000:=by
  simp only[CX,Ab1]at h2;have:=As9 4000 c;omega
 have hck:Qp (f:Int) (c:Int) (w:Int) (r:Int) (n:Int)=some 0:=by
  rw[Qp,fD,Aa,h1,Aba (by decide),sI h1,Aa,h2,Aba (by decide)]
 have hF:Aq=(Aq-6)+1+1+1+1+1+1:=by have:=Al;omega
 have hlt:=(Dc (tR f c w r n)).toNat_lt;have e64:(UInt64.ofNat (Dc (tR f c w r n)).toNat).toNat=(Dc (tR f c w r n)).toNat:=UB (by omega);have hfin:Yr (tR f c w r n)=some (Zi f c w r n,0):=by
  rw[Yr,cS,sP _ (by rw[XU];omega),Aa];simp only;rw[Cn,show(4:Int)=((4:Nat):Int)from rfl,EE _ 4 (by omega) (by omega) (by rw[e64];omega),Aa];simp only;rw[Cg (by rw[XU,Ba];omega),Aa,e64];rfl
 rw[OJ,MW,hck,Aa,Aba (by decide),ML,hF];have s0:=E5 (f:Int) (c:Int) (w:Int) (r:Int) (n:Int) 0 f 2 ((Aq-6)+1+1+1+1+1) Nq (by omega) rfl rfl (by omega) (by omega) (by omega) (by omega) (by decide);have s1:=E5 (f:Int) (c:Int) (w:Int) (r:Int) (n:Int) 1 c 2 ((Aq-6)+1+1+1+1) (Nq++Kq f 2) (by omega) rfl rfl (by omega) (by omega) (by omega) (by omega) (by simp[Ba,Nq]);have s2:=E5 (f:Int) (c:Int) (w:Int) (r:Int) (n:Int) 2 w 2 ((Aq-6)+1+1+1) (Nq++Kq f 2++Kq c 2) (by omega) rfl rfl (by omega) (by omega) (by omega) (by omega) (by simp[Ba,Nq]);have s3:=E5 (f:Int) (c:Int) (w:Int) (r:Int) (n:Int) 3 r 4 ((Aq-6)+1+1) (Nq++Kq f 2++Kq c 2++Kq w 2) (by omega) rfl rfl (by omega) (by omega) (by omega) (by omega) (by simp[Ba,Nq]);have s4:=E5 (f:Int) (c:Int) (w:Int) (r:Int) (n:Int) 4 n 4 ((Aq-6)+1) (Nq++Kq f 2++Kq c 2++Kq w 2++Kq r 4) (by omega) rfl rfl (by omega) (by omega) (by omega) (by omega) (by simp[Ba,Nq]);refine s0.trans (s1.trans (s2.trans (s3.trans (s4.trans ?_))));rw[Kb,Yp,Aba (by decide)];exact hfin
def TE(l:List Int):List UInt8:=l.flatMap λx=>Kq x.toNat 4
def aP(l:List Int):List UInt8:=TE l++Kq (Dc (TE l)).toNat 4
theorem JC(l:List Int):(TE l).length=4*l.length:=by
 induction l with
 |nil=>rfl
 |cons x l ih=>rw[TE,List.flatMap_cons,Abw,Ba,show(l.flatMap λx=>Kq x.toNat 4)=TE l from rfl,ih,Aj2];omega
theorem qF(l:List Int):(aP l).length=4*l.length+4:=by rw[aP,Abw,JC,Ba]
theorem Ahz(l:List Int)(x:Int):TE (l++[x])=TE l++Kq x.toNat 4:=by simp[TE]
theorem vB(l:List Int)(hl:l.length<=1000)(h5:∀x∈l,5<=x/\x<=100000):∀(j i q:Nat),i+j=l.length->j<q->Pd l q (i:Int) (TE (l.take i))=some (aP l,0)
 |j,i,0,_,h=>absurd h (Ayr _)
 |0,i,q+1,hi,_=>by
  have hlt:=(Dc (TE l)).toNat_lt;have e64:(UInt64.ofNat (Dc (TE l)).toNat).toNat=(Dc (TE l)).toNat:=UB (by omega);rw[Pd,EW,Aba (by rw[Af,Ac];simp;omega),Asm (by omega),MF,MH,sP _ (by rw[JC];omega),Aa];simp only;rw[Cn,show(4:Int)=((4:Nat):Int)from rfl,EE _ 4 (by omega) (by omega) (by rw[e64];omega),Aa];simp only;rw[Cg (by rw[JC,Ba];omega),Aa,e64];rfl
 |j+1,i,q+1,hi,hq=>by
  have ih:=vB l hl h5 j (i+1) q (by omega) (by omega);obtain⟨x5,x6⟩:=h5 l[i] (Avs _);obtain⟨v,hv⟩:=An8 (show 0<=l[i] by omega);have e64:(UInt64.ofNat v).toNat=v:=UB (by omega);have hi1:Ae (i:Int) 1=((i+1:Nat):Int):=by rw[Ag];omega
  rw[Pd,EW,Abb (by rw[Af,Ac];simp;omega),Ck,Aa,hv,Nf,show(4:Int)=((4:Nat):Int)from rfl,EE _ 4 (by omega) (by omega) (by rw[e64];omega),Aa];simp only;rw[Cg (by rw[JC,Ba,Aiq];omega),Aa,MK,dE,hi1,e64];rw[Nd (by omega),Ahz,hv,Ajv]at ih;exact ih
theorem Abr(l:List Int):UP l=some (if KS l=true then(aP l,0)else([],8)):=by
 rw[UP,QA,eK,Aa];by_cases h:KS l=true
 ·rw[Abb h,Abb h,Aba (by decide)];simp only[KS,Abx,Ab1]at h;obtain⟨⟨h1,h2⟩,h3⟩:=h;have h4:=(kE l 100000 (by omega)).1 h3;have h6:=R9 h4.1;have hl:=vB l h2 (λx hx=>⟨h4.1 x hx,by have:=h6 x hx;omega⟩) l.length 0 Aq (by omega) (by have:=Al;omega);exact hl
 ·rw[Aba h,Aba h,Abb (by decide)]
theorem Q4(l:List LB)(hl:l.length<=100000)(hf:l.flatten.length<=1000000):∀(j i q:Nat),i+j=l.length->j<q->Qh l q (i:Int) (l.take i).flatten=some l.flatten
 |j,i,0,_,h=>absurd h (Ayr _)
 |0,i,q+1,hi,_=>by
  rw[Qh,DX,Aba (by rw[Af,Ac];simp;omega),Asm (by omega)];rfl
 |j+1,i,q+1,hi,hq=>by
  have ih:=Q4 l hl hf j (i+1) q (by omega) (by omega);have hi1:Ae (i:Int) 1=((i+1:Nat):Int):=by rw[Ag];omega
  have hsn:(l.take (i+1)).flatten=(l.take i).flatten++l[i]:=by rw[Nd (by omega),Az8];simp
  have hsp:l.flatten=(l.take (i+1)).flatten++(l.drop (i+1)).flatten:=by rw[<-Az8,Axf]
  have hle:((l.take i).flatten).length+(l[i]).length<=1000000:=by
   rw[hsp,Abw,hsn,Abw]at hf;omega
  rw[Qh,DX,Abb (by rw[Af,Ac];simp;omega),Ck,Aa,Cg,Aa,hi1,<-hsn];exact ih
theorem join_eq(l:List LB)(hl:l.length<=100000)(hf:l.flatten.length<=1000000):jB l=some l.flatten:=by
 have h:=Q4 l hl hf l.length 0 Aq (by omega) (by have:=Al;omega);exact h
def Ze(c:Nat):List Int32->List Int->List (List Int32)
 |_,[]=>[]
 |x,m::l=>x.take (m.toNat*c)::Ze c (x.drop (m.toNat*c)) l
theorem oC(c:Nat):∀(l:List Int) (x:List Int32),(Ze c x l).length=l.length
 |[],x=>rfl
 |m::l,x=>by rw[Ze,Aj2,Aj2,oC c l]
theorem uS(c:Nat):∀(l:List Int) (x:List Int32),(∀m∈l,0<=m)->x.length=l.sum.toNat*c-> (Ze c x l).flatten=x
 |[],x,_,h=>by
  have:x=[]:=Apd (by simpa using h);rw[this];rfl
 |m::l,x,h0,h=>by
  have hm:=h0 m Aun;have hl:0<=l.sum:=by
   have:∀l:List Int,(∀m∈l,0<=m)->0<=l.sum:=by
    intro l
    induction l with
    |nil=>intro _;simp
    |cons a l ih=>intro h;have:=ih (λm hm=>h m (Aj6 _ hm));have:=h a Aun;rw[Av4];omega
   exact this l λm hm=>h0 m (Aj6 _ hm)
  rw[Av4,show(m+l.sum).toNat=m.toNat+l.sum.toNat by omega,Au7]at h;have ih:=uS c l (x.drop (m.toNat*c)) (λm hm=>h0 m (Aj6 _ hm)) (by rw[Aue];omega);rw[Ze,Ayi,ih,Axf]
theorem lY(c:Nat)(x:List Int32)(hx:x.length<=4000):∀(l:List Int) (a:Nat),(∀m∈l,1<=m)->a+l.sum.toNat*c=x.length->Oj (c:Int) x l (a:Int)=some (Ze c (x.drop a) l)
 |[],a,_,_=>rfl
 |m::l,a,h1,ha=>by
  have hm:=h1 m Aun;have hl:=h1;have hs:0<=l.sum:=by
   have:∀l:List Int,(∀m∈l,1<=m)->0<=l.sum:=by
    intro l
    induction l with
    |nil=>intro _;simp
    |cons a l ih=>intro h;have:=ih (λm hm=>h m (Aj6 _ hm));have:=h a Aun;rw[Av4];omega
   exact this l λm hm=>h1 m (Aj6 _ hm)
  obtain⟨k,rfl⟩:=An8 (show 0<=m by omega);rw[Av4,show((k:Int)+l.sum).toNat=k+l.sum.toNat by omega,Au7]at ha;have hkc:Bd (k:Int) (c:Int)=((k*c:Nat):Int):=by rw[Hc (by rw[<-Aw7];omega) (by rw[<-Aw7];omega),<-Aw7]
  have hadd:Ae (a:Int) ((k*c:Nat):Int)=((a+k*c:Nat):Int):=by rw[Ag];omega
  have ih:=lY c x hx l (a+k*c) (λm hm=>h1 m (Aj6 _ hm)) (by omega);rw[Oj,hkc,hadd,Qx,Aa,ih,Aa,Ze,Ajv,Ajv,Ajv,Azq,List.drop_take,Aw1]
theorem Afl(w c:Nat)(hb:Bu (w:Int))(h1:1<=c)(h6:c<=6)(t:List Int32)(ht:t.length=16):∀(xs:List (List Int32)) (o:List LB),o.length+xs.length<=10000-> (∀y∈xs,1<=y.length/\y.length<=4000/\y.length %c=0/\inR (w:Int) y)->
  Of (c:Int) (w:Int) t xs o=some (o++xs.map (Nh (w:Int) c t),0)
 |[],o,_,_=>by rw[Of];simp
 |x::xs,o,ho,h=>by
  obtain⟨a1,a2,a3,a4⟩:=h x Aun;rw[Aj2]at ho;have ih:=Afl w c hb h1 h6 t ht xs (o++[Nh (w:Int) c t x]) (by simp;omega) (λy hy=>h y (Aj6 _ hy));rw[Of,Y3 hb ht h1 h6 a1 a2 a3 a4,Aa,Aba (by simp[Ak]),Cg (by simp;omega),Aa,ih,Axw];simp
theorem mR(c:Nat)(h1:1<=c):∀(l:List Int) (x:List Int32),(∀m∈l,1<=m)->x.length=l.sum.toNat*c->∀y∈Ze c x l,1<=y.length/\y.length<=x.length/\y.length %c=0/\∀v∈y,v∈x
 |[],x,_,_=>λy hy=>by simp[Ze]at hy
 |m::l,x,hm,hx=>by
  have hm1:=hm m Aun;have hl:0<=l.sum:=by
   have:∀l:List Int,(∀m∈l,1<=m)->0<=l.sum:=by
    intro l
    induction l with
    |nil=>intro _;simp
    |cons a l ih=>intro h;have:=ih (λm hm=>h m (Aj6 _ hm));have:=h a Aun;rw[Av4];omega
   exact this l λm hm'=>hm m (Aj6 _ hm')
  rw[Av4,show(m+l.sum).toNat=m.toNat+l.sum.toNat by omega,Au7]at hx;have hpos:1<=m.toNat*c:=Nat.mul_pos (by omega) h1;intro y hy;rw[Ze,List.mem_cons]at hy;rcases hy with rfl|hy
  ·have hlen:(x.take (m.toNat*c)).length=m.toNat*c:=by rw[Aiq];omega
   rw[hlen];exact⟨hpos,by omega,Ayd _ _,λv hv=>List.mem_of_mem_take hv⟩
  ·obtain⟨a1,a2,a3,a4⟩:=mR c h1 l (x.drop (m.toNat*c)) (λm hm'=>hm m (Aj6 _ hm')) (by rw[Aue];omega) y hy;rw[Aue]at a2;exact⟨a1,by omega,a3,λv hv=>List.mem_of_mem_drop (a4 v hv)⟩
theorem xQ(bits:Int)(ch:Nat)(t x:List Int32)(h0:1<=x.length)(h4:x.length<=4000):5<= (Nh bits ch t x).length/\ (Nh bits ch t x).length<=15*x.length:=by
 have h5:=zH bits ch t x h0 h4;have h:=fC ch (Jo bits ch t x) x.length;refine⟨h5.1,?_⟩;rw[Nh,Abw,Ba,RF,Vt];omega
def Cl(fs:List LB):List Int:=fs.map λf=>(f.length:Int)
theorem Nx(fs:List LB):(Cl fs).length=fs.length:=by rw[Cl,List.length_map]
theorem HD:∀fs:List LB,(Cl fs).sum=(fs.flatten.length:Int)
 |[]=>rfl
 |f::fs=>by rw[Cl,Axw,Av4,Ayi,Abw,show(fs.map λf=>(f.length:Int))=Cl fs from rfl,HD fs];omega
theorem Aj9(bits:Int)(ch:Nat)(t:List Int32):∀ys:List (List Int32),(∀y∈ys,1<=y.length/\y.length<=4000)-> ((ys.map (Nh bits ch t)).flatten).length<=15*ys.flatten.length
 |[],_=>by simp
 |y::ys,h=>by
  have ih:=Aj9 bits ch t ys λy hy=>h y (Aj6 _ hy);obtain⟨h1,h4⟩:=h y Aun;have:=(xQ bits ch t y h1 h4).2;rw[Axw,Ayi,Ayi,Abw,Abw];omega
def Jr(p:LB):Nat:=if p=[]then 1 else 2
def fZ(p:LB):LB:=if p=[]then []else Kq (Xr p).toNat 8
theorem D2(p:LB):Jr p=1\/Jr p=2:=by unfold Jr;split<;>simp
theorem rD(p:LB):(fZ p).length=if Jr p=2 then 8 else 0:=by
 unfold fZ Jr;by_cases h:p=[]
 ·rw[Abb h,Abb h];rfl
 ·rw[Aba h,Aba h,Ba];rfl
def bG(c r n:Nat)(x:List Int32):List (List Int32):=Ze c x (Au (Ay r) n)
def OP(c w r n:Nat)(x:List Int32)(p:LB):List LB:=(bG c r n x).map (Nh (w:Int) c (Xb p))
def Qk(c w r n:Nat)(x:List Int32)(p:LB):LB:=Zi (Jr p) c w r n++(fZ p++(aP (Cl (OP c w r n x p))++(OP c w r n x p).flatten))
theorem AW{g n:Nat}(hg:1<=g)(h1:1<=n):∀m∈Au g n,1<=m:=by
 intro m hm;rw[Au,List.mem_append,List.mem_replicate,List.mem_singleton]at hm;have h:=Ax0 (n-1) g;rcases hm with⟨_,rfl⟩|rfl
 ·omega
 ·omega
section
variable {c w r n:Nat} {x:List Int32} (h:ClipOk c w r n x)
include h
theorem ClipOk.sum:(Au (Ay r) n).sum=(n:Int):=vo h.cnt.1
omit h in
theorem H3:(bG c r n x).length=(Au (Ay r) n).length:=oC _ _ _
theorem K8:(bG c r n x).flatten=x:=by
 refine uS _ _ _ (λm hm=>?_) ?_
 ·have:=AW (Qi r) h.cnt.1 m hm;omega
 ·rw[h.sum,h.len,Ajv]
theorem YR:∀y∈bG c r n x,1<=y.length/\y.length<=4000/\y.length %c=0/\inR (w:Int) y:=by
 intro y hy;obtain⟨a1,a2,a3,a4⟩:=mR c h.ch.1 _ _ (AW (Qi r) h.cnt.1) (by rw[h.sum,h.len,Ajv]) y hy;have:=h.le;exact⟨a1,by omega,a3,λv hv=>h.rng v (a4 v hv)⟩
omit h in
theorem rB(p:LB):(OP c w r n x p).length=(Au (Ay r) n).length:=by rw[OP,List.length_map];exact oC _ _ _
theorem Akz(p:LB):1<= (OP c w r n x p).length/\ (OP c w r n x p).length<=1000:=by
 rw[rB,AF];exact⟨Nat.le_add_left _ _,h.fr⟩
theorem Abe(p:LB):((OP c w r n x p).flatten).length<=15*x.length:=by
 have:=Aj9 (w:Int) c (Xb p) (bG c r n x) λy hy=>⟨(YR h y hy).1,(YR h y hy).2.1⟩;rw[K8 h]at this;exact this
theorem Aoa(p:LB):∀f∈OP c w r n x p,5<=f.length:=by
 intro f hf;rw[OP,List.mem_map]at hf;obtain⟨y,hy,rfl⟩:=hf;exact(xQ _ _ _ _ (YR h y hy).1 (YR h y hy).2.1).1
theorem qm(p:LB):KS (Cl (OP c w r n x p))=true:=by
 have h1:=Akz h p;have h2:=Abe h p;have h3:=h.le;simp only[KS,Abx,Ab1];rw[kE _ _ (by omega),Nx,HD];refine⟨by omega,λz hz=>?_,by omega⟩;rw[Cl,List.mem_map]at hz;obtain⟨f,hf,rfl⟩:=hz;have:=Aoa h p f hf;omega
omit h in
theorem Ahi(p:LB):(Qk c w r n x p).length=22+(if Jr p=2 then 8 else 0)+(4*(OP c w r n x p).length+4)+(OP c w r n x p).flatten.length:=by
 rw[Qk,Abw,Abw,Abw,jI,rD,qF,Nx];omega
theorem Abl(p:LB):(Qk c w r n x p).length<=34+4*(OP c w r n x p).length+15*x.length:=by
 have h1:=Ahi (c:=c) (w:=w) (r:=r) (n:=n) (x:=x) p;have h2:=Abe h p;split at h1<;>omega
theorem O9(p:LB):(Qk c w r n x p).length<=64034:=by
 have:=Abl h p;have:=Akz h p;have:=h.le;omega
theorem Akb(hk:Cx (c:Int) (w:Int) (r:Int) x=some 0)(p:LB)(hp:p.length<=64):UJ (c:Int) (w:Int) (r:Int) x p=some ((Jr p:Int),(c:Int),(w:Int),(r:Int),(n:Int),0):=by
 have hc:=h.ch;have hq:Bv (Ac x) (c:Int)=(n:Int):=by rw[Ac,tH (by have:=h.le;omega),h.len,Nat.mul_div_cancel _ (by omega)]
 rw[UJ,BE,hk,Aa,Aba (by decide),Aba (by rw[Am,Ac];simp;omega),Bf (by rw[Ak];simp;omega),Aa,QX,gO,hq,Jr];by_cases h0:p=[]
 ·rw[Aba (by simp[h0]),Abb h0];rfl
 ·rw[Abb (by simpa using h0),Aba h0];rfl
theorem vP(hk:Cx (c:Int) (w:Int) (r:Int) x=some 0)(p:LB)(hp:p.length<=64):JT (c:Int) (w:Int) (r:Int) x p=some (OP c w r n x p,0):=by
 have hc:=h.ch;have hle:=h.le;have hr:=h.rate;have hq:Bv (Ac x) (c:Int)=(n:Int):=by rw[Ac,tH,h.len,Nat.mul_div_cancel _ (by omega)]
 have hcut:SA (c:Int) (r:Int) x=some (bG c r n x):=by
  have hp:=lY c x (by omega) (Au (Ay r) n) 0 (AW (Qi r) h.cnt.1) (by rw[h.sum,h.len,Ajv];omega);rw[SA,Bf (by rw[Ak];simp;omega),Aa,hq,Abg hr.1 hr.2 h.cnt.1 (by omega) h.fr,Aa,Bf (by have:=h.fr;simp only[Ac,AF,Ab1];omega),Aa];exact hp
 have hfs:=Afl w c h.bits hc.1 hc.2 (Xb p) (nC p) (bG c r n x) [] (by rw[H3,AF];exact Baf (Nat.add_le_add_left h.fr _) (by simp)) (YR h);rw[JT,hk,Aa,Aba (by decide),O8 p hp,Aa];simp only;rw[Aba (by decide),hcut,Aa,hfs];rfl
omit h in
theorem yY(a:List LB)(b f:LB)(v:LB)(ha:a.length<=1000)(hfin:Sd (Cl a) a b f=some (v,0)):∀(j i q:Nat),i+j=a.length->j<q->Qf a b f q (i:Int) (Cl (a.take i)++List.replicate j 0)=some (v,0)
 |j,i,0,_,h=>absurd h (Ayr _)
 |0,i,q+1,hi,_=>by
  rw[Qf,DP,Aba (by rw[Af,Ac];simp;omega),Asm (by omega),List.replicate_zero,Avk];exact hfin
 |j+1,i,q+1,hi,hq=>by
  have ih:=yY a b f v ha hfin j (i+1) q (by omega) (by omega);have hi1:Ae (i:Int) 1=((i+1:Nat):Int):=by rw[Ag];omega
  have hll:(Cl (a.take i)).length=i:=by rw[Nx,Aiq];omega
  have hset:(Cl (a.take i)++List.replicate (j+1) (0:Int)).set i (Ac a[i])=Cl (a.take (i+1))++List.replicate j 0:=by
   rw[Awh,ZB hll,Nd (by omega),Cl,Cl,List.map_append,Ab2];rfl
  rw[Qf,DP,Abb (by rw[Af,Ac];simp;omega),Ck,Aa,Aa,VK,Aa,Ck (by rw[Abw,hll,Aps];omega),Aa,Rj _ (by rw[Abw,hll,Aps];omega),Aa,hset,MJ,cL,hi1];exact ih
theorem mq(hk:Cx (c:Int) (w:Int) (r:Int) x=some 0)(p:LB)(hp:p.length<=64):LK (c:Int) (w:Int) (r:Int) x p=some (Qk c w r n x p,0):=by
 have hn:=Akz h p;have hfin:Sd (Cl (OP c w r n x p)) (OP c w r n x p) (Zi (Jr p) c w r n) (fZ p)=some (Qk c w r n x p,0):=by
  have hl:=O9 h p;rw[Sd,MC,Abr,Abb (qm h p),Aa];simp only;rw[MT,cN,Aba (by decide),Cg (by simp;omega),Aa,join_eq _ (by simp;omega) (by
   have:(([Zi (Jr p) c w r n,fZ p,aP (Cl (OP c w r n x p))]++OP c w r n x p).flatten)=Qk c w r n x p:=by simp[Qk]
   rw[this];omega),Aa]
  simp[Qk]
 have hlp:=yY (OP c w r n x p) (Zi (Jr p) c w r n) (fZ p) _ (by omega) hfin (OP c w r n x p).length 0 Aq (by omega) (by have:=Al;omega);have h8:CW (OP c w r n x p) (Zi (Jr p) c w r n) (fZ p)=some (Qk c w r n x p,0):=by
  rw[CW,PB,mG (by unfold Ac;omega) (by unfold Ac;omega),Aa,Bf (by rw[Be];simp),Aa];exact hlp
 rw[LK,PT,Akb h hk p hp,Aa];simp only;rw[Aba (by decide),vP h hk p hp,Aa];simp only;rw[Aba (by decide),Z9 (h.shape _ (D2 p)) h.fit,Aa];simp only;rw[Aba (by decide)];by_cases h0:p=[]
 ·have e1:Jr p=1:=by rw[Jr,Abb h0]
  have e2:fZ p=[]:=by rw[fZ,Abb h0]
  rw[e2]at h8;rw[Aba (by rw[e1];decide)];exact h8
 ·have e1:Jr p=2:=by rw[Jr,Aba h0]
  have e2:fZ p=Kq (Xr p).toNat 8:=by rw[fZ,Aba h0]
  rw[e2]at h8;rw[Abb (by rw[e1];decide),sA p hp,Aa];exact h8
end
theorem LN{a m z:LB}{i k:Nat}(hi:a.length=i)(hk:m.length=k):part (a++(m++z)) i k=m:=by
 subst hi hk;rw[part,List.take_append,Asm (by omega),List.drop_left',Aw1,Axk (Aj3 _),Ax1];rfl
theorem AI(f c w r n:Nat)(z:LB):Zi f c w r n++z=Nq++(Kq f 2++(Kq c 2++(Kq w 2++(Kq r 4++(Kq n 4++(Kq (Dc (tR f c w r n)).toNat 4++z)))))):=by
 simp only[Zi,tR,Ab2]
theorem K6{f c w r n:Nat}(h1:Fb f c w r n=true)(h2:CX c r n=true)(z:LB):Le (Zi f c w r n++z)=((f:Int),(c:Int),(w:Int),(r:Int),(n:Int),0):=by
 have hs:(f=1\/f=2)/\ (1<=c/\c<=6)/\ (w=8\/w=16\/w=24)/\ (1<=r/\r<=1048576)/\1<=n:=by simpa only[Fb,Ab1]using h1
 have hn:n<=4000:=by
  simp only[CX,Ab1]at h2;have:=As9 4000 c;omega
 have hlen:22<= (Zi f c w r n++z).length:=by rw[Abw,jI];omega
 have m4:min 4 (Zi f c w r n++z).length=4:=by omega
 have e4:(Zi f c w r n++z).take 4=Nq:=by rw[AI];rfl
 have e18:(Zi f c w r n++z).take 18=tR f c w r n:=by
  rw[Zi,Ab2,Axk (by rw[XU];omega),Asm (by rw[XU];omega)]
 have hlt:=(Dc (tR f c w r n)).toNat_lt;have p18:part (Zi f c w r n++z) 18 4=Kq (Dc (tR f c w r n)).toNat 4:=by
  rw[Zi,Ab2];exact LN (XU _ _ _ _ _) (Ba _ _)
 have q0:f0 (Zi f c w r n++z)=f:=by
  rw[f0,AI,LN (a:=Nq) (i:=4) (k:=2) rfl (Ba _ _),Yl];omega
 have q1:f1 (Zi f c w r n++z)=c:=by
  rw[f1,AI,<-Ab2,LN (by simp[Nq,Ba]) (Ba _ _),Yl];omega
 have q2:f2 (Zi f c w r n++z)=w:=by
  rw[f2,AI,<-Ab2,<-Ab2,LN (by simp[Nq,Ba]) (Ba _ _),Yl];omega
 have q3:f3 (Zi f c w r n++z)=r:=by
  rw[f3,AI,<-Ab2,<-Ab2,<-Ab2,LN (by simp[Nq,Ba]) (Ba _ _),Yl];omega
 have q4:f4 (Zi f c w r n++z)=n:=by
  rw[f4,AI,<-Ab2,<-Ab2,<-Ab2,<-Ab2,LN (by simp[Nq,Ba]) (Ba _ _),Yl];omega
 have h:=rs6 (b:=Zi f c w r n++z) (by rw[m4,e4];rfl) (by omega) (by rw[e18,p18,Yl];omega) (by rw[q0,q1,q2,q3,q4];exact h1) (by rw[q1,q3,q4];exact h2);rw[q0,q1,q2,q3,q4]at h;exact h
theorem Aku(l:List Int)(z:LB){i:Nat}(hi:i<l.length):part (TE l++z) (4*i) 4=Kq (l[i]).toNat 4:=by
 have hs:TE l=TE (l.take i)++(Kq (l[i]).toNat 4++TE (l.drop (i+1))):=by
  conv=>lhs;rw[<-Axf i l,drop_cons hi]
  rw[TE,TE,TE,List.flatMap_append,List.flatMap_cons]
 rw[hs,Ab2,Ab2];exact LN (by rw[JC,Aiq];omega) (Ba _ _)
theorem Ahg{l:List Int}(ht:KS l=true)(z:LB):Jt (aP l++z) l.length=(l,0):=by
 have h:=ht;simp only[KS,Abx,Ab1]at h;obtain⟨hn,h3⟩:=h;have h4:=(kE l 100000 (by omega)).1 h3;have h6:=R9 h4.1;have hlt:=(Dc (TE l)).toNat_lt;have e1:(aP l++z).take (4*l.length)=TE l:=by
  rw[aP,Ab2,Axk (by rw[JC];omega),Asm (by rw[JC];omega)]
 have e2:part (aP l++z) (4*l.length) 4=Kq (Dc (TE l)).toNat 4:=by
  rw[aP,Ab2];exact LN (JC _) (Ba _ _)
 have e3:TA (aP l++z) l.length=l:=by
  apply Avq
  ·rw[DO]
  ·intro i h1 h2;have hx:=h4.1 l[i] (Avs _);have hy:=h6 l[i] (Avs _);simp only[TA,Ay1,Ayp];rw[aP,Ab2,Aku l _ h2,Yl];omega
 rw[ss4 hn (by rw[Abw,qF];omega) (by rw[e1,e2,Yl];omega),e3,Abb ht]
theorem Amx{b p:LB}{f c w r n T:Nat}{l:List Int}{z:LB}(hp:p.length<=64)(hf:f=Jr p)(h1:Fb f c w r n=true)(h2:CX c r n=true)(hT:Ed b=((T:Int),0))(hb:b.length<=100000)(hd:b.drop T=Zi f c w r n++(fZ p++(aP l++z)))
  (hl:l.length=(Au (Ay r) n).length) (ht:KS l=true):Opn b p f c w r n (T+22+(if f=2 then 8 else 0)+4*l.length+4) l:=by
 have hlen:=congrArg List.length hd;rw[Aue,Abw,Abw,Abw,jI,rD,qF,<-hf]at hlen;have Azl:l.length<=1000/\1<=l.length:=by
  have h:=ht;simp only[KS,Abx,Ab1]at h;omega
 have hread:Le (b.drop T)=((f:Int),(c:Int),(w:Int),(r:Int),(n:Int),0):=by rw[hd];exact K6 h1 h2 _
 have t22:Ae (T:Int) 22=((T+22:Nat):Int):=by rw[Ag];omega
 have t30:Ae ((T+22:Nat):Int) 8=((T+30:Nat):Int):=by rw[Ag];omega
 have d22:b.drop (T+22)=fZ p++(aP l++z):=by
  rw[<-Azq,hd,<-jI f c w r n,Ayn]
 have dA:b.drop (T+22+(if f=2 then 8 else 0))=aP l++z:=by
  rw[<-Azq,d22,hf,<-rD p,Ayn]
 have hend:∀A:Nat,A<=b.length->A=T+22+(if f=2 then 8 else 0)->Cp b p=Px b (f:Int) (c:Int) (w:Int) (r:Int) (n:Int) (A:Int)->Cp b p=some ((f:Int),(c:Int),(w:Int),(r:Int),(n:Int),((A+4*l.length+4:Nat):Int),l,0):=by
  intro A hA hA2 e;rw[e,sL h1 h2 b (by omega) A hA,hA2,dA,<-hl,Ahg ht,Aba (by simp)]
 have hprog:Cp b p=some ((f:Int),(c:Int),(w:Int),(r:Int),(n:Int),((T+22+(if f=2 then 8 else 0)+4*l.length+4:Nat):Int),l,0):=by
  refine hend (T+22+(if f=2 then 8 else 0)) (by omega) rfl ?_;rw[Cp,Po,Aba (by rw[Am,Ac];simp;omega),Aba (by rw[Am,Ac];simp;omega),BL b (by omega),hT,Aa];simp only;rw[Aba (by decide),Jb,Aa,Ajv,kF _ (by rw[Aue];omega),Aa,hread];simp only;rw[Aba (by decide)];by_cases h0:p=[]
  ·have e1:f=1:=by rw[hf,Jr,Abb h0]
   rw[Aba (by rw[h0,e1];decide),Aba (by rw[h0];decide),t22,e1];rfl
  ·have e1:f=2:=by rw[hf,Jr,Aba h0]
   have hne:(p !=([]:LB))=true:=by simpa using h0
   have hne2:(p==([]:LB))=false:=by simpa using h0
   have hdg:fZ p=Kq (Xr p).toNat 8:=by rw[fZ,Aba h0]
   have hseg:(b.take (T+30)).drop (T+22)=Kq (Xr p).toNat 8:=by
    rw[List.drop_take,show T+30-(T+22)=8 by omega,d22,hdg,Axk (by rw[Ba];omega),Asm (by rw[Ba];omega)]
   rw[e1,Abb rfl]at hlen;rw[Aba (by rw[hne2,e1];decide),Abb hne,t22,t30,Aba (by rw[Af,Ac];simp;omega),Qx,Aa,Ajv,Ajv,hseg,ru (Ba _ _) hp,Aa];simp only;rw[Aba (by decide),Aba (by simp),e1];rfl
 rcases wN b p (by omega) hp with⟨e,he,h,_⟩|⟨f',c',w',r',n',A',l',o⟩
 ·rw[hprog]at h;have:=congrArg (λo=>(o.getD (TG 0)).2.2.2.2.2.2.2) h;simp only[Option.getD_some,TG]at this;exact absurd this.symm he
 ·have h:=o.prog;rw[hprog]at h;simp only[Ajz,Avn]at h;obtain⟨i1,i2,i3,i4,i5,i6,i7,_⟩:=h;have j1:f=f':=by omega
  have j2:c=c':=by omega
  have j3:w=w':=by omega
  have j4:r=r':=by omega
  have j5:n=n':=by omega
  have j6:=Int.ofNat.inj i6;subst j1 j2 j3 j4 j5 i7;rw[j6];exact o
theorem tT{b:LB}(h:b.take 4=Nq):Ed b=(0,0):=by
 have h4:4<=b.length:=by
  have:=congrArg List.length h;rw[Aiq]at this;simp only[Nq,Aj2,List.length_nil]at this;omega
 have h3:b.take 3≠ [73,68,51]:=by
  intro e;have:(b.take 4).take 3=[73,68,51]:=by rw[List.take_take];exact e
  rw[h]at this;exact absurd this (by decide)
 have h8:b.take 8≠M9:=by
  intro e;have:(b.take 8).take 4=Nq:=by rw[List.take_take];exact h
  rw[e]at this;exact absurd this (by decide)
 have hs:El b=(0,6):=by
  have h1:UA b=(0,6):=by rw[UA,Abb (by intro hh;exact h3 hh.2)]
  rw[El,h1,Aba (by decide),fa1 (by intro hh;exact h8 hh.2)]
 rw[Ed,Acm,Da,List.drop_zero,hs];rfl
theorem uK:∀{l:List Int},(∀x∈l,0<=x)->∀k,0<= (l.take k).sum
 |[],_,k=>by simp
 |x::l,h,0=>by simp
 |x::l,h,k+1=>by
  have:=uK (l:=l) (λy hy=>h y (Aj6 _ hy)) k;have:=h x Aun;rw[List.take_succ_cons,Av4];omega
theorem sK(fs:List LB)(k:Nat):(Cl fs).take k=Cl (fs.take k):=by rw[Cl,Cl,List.map_take]
theorem Atj{b z:LB}{A:Nat}{fs:List LB}(hd:b.drop A=fs.flatten++z){k:Nat}(hk:k<fs.length):Aat b A (Cl fs) k=fs[k]:=by
 have e0:fs.flatten=(fs.take k).flatten++(fs[k]++(fs.drop (k+1)).flatten):=by
  conv=>lhs;rw[<-Axf k fs,drop_cons hk]
  rw[Az8,Ayi]
 have s1:((Cl fs).take k).sum=((fs.take k).flatten.length:Int):=by rw[sK,HD]
 have s2:((Cl fs).take (k+1)).sum=((fs.take k).flatten.length+fs[k].length:Nat):=by rw[sK,HD,Nd hk,Az8];simp
 rw[Aat,s1,s2,show((A:Int)+((fs.take k).flatten.length+fs[k].length:Nat)).toNat=A+((fs.take k).flatten.length+fs[k].length) by omega,show((A:Int)+((fs.take k).flatten.length:Int)).toNat=A+(fs.take k).flatten.length by omega,
  List.drop_take,<-Azq,hd,e0,Ab2,Ayn,Nat.add_sub_add_left,Aw1,Ab2,List.take_left]
theorem Ai8{b z:LB}{A:Nat}{fs:List LB}(hd:b.drop A=fs.flatten++z)(hA:A<=b.length)(k:Nat):(A:Int)+((Cl fs).take k).sum<=b.length:=by
 have h:=congrArg List.length hd;rw[Aue,Abw]at h;have h2:(fs.take k).flatten.length<=fs.flatten.length:=by
  conv=>rhs;rw[<-Axf k fs,Az8,Abw]
  omega
 rw[sK,HD];omega
theorem Ah5{b z:LB}{A:Nat}{fs:List LB}(hd:b.drop A=fs.flatten++z):J2 b A (Cl fs)=(IU z).2:=by
 rw[J2,HD,show((A:Int)+(fs.flatten.length:Int)).toNat=A+fs.flatten.length by omega,<-Azq,hd,Ayn]
theorem Adi:IU []=(0,0):=rfl
section
variable {b p:List UInt8} {f c w r n A:Nat} {fs:List LB} {z:LB} (o:Opn b p f c w r n A (Cl fs)) (hd:b.drop A=fs.flatten++z)
include o hd
theorem Avb{k:Nat}(hk:k<fs.length){y:List Int32}{e:Int}{m:Nat}(hm:Aj (Au (Ay r) n) (k:Int)=some (m:Int))(hdec:Lj (c:Int) (w:Int) (Xb p) (m:Int) fs[k]=some (y,e)):
  (lD b p f c w r n A (Cl fs) k).2=e/\ (e=0->lD b p f c w r n A (Cl fs) k=(Ea (w:Int) y,0)/\smF w (lD b p f c w r n A (Cl fs) k)=y):=by
 have hkl:k<(Cl fs).length:=by rw[Nx];exact hk
 obtain⟨m',x',s',e',g⟩:=rL o k hkl;have hin:=Ai8 hd o.at' (k+1);have hmm:m'=m:=by
  have:=g.mom;rw[hm]at this;have:=Aus this;omega
 subst hmm;rcases g.way with⟨h1,_⟩|⟨_,h2,_⟩
 ·omega
 ·rw[Atj hd hk,hdec]at h2;simp only[Ajz,Avn]at h2;obtain⟨rfl,rfl⟩:=h2;refine⟨by rw[g.eq],λhe=>?_⟩;have:=g.rH (fI o.shape).2.1;obtain⟨h3,_⟩:=g.some' he;rw[g.eq,this,h3,he];exact⟨rfl,rfl⟩
end
theorem zG(c:Nat)(h1:1<=c):∀(l:List Int) (x:List Int32),(∀m∈l,1<=m)->x.length=l.sum.toNat*c->∀(k:Nat) (hk:k<l.length) (hk':k<(Ze c x l).length),(Ze c x l)[k].length=l[k].toNat*c
 |[],x,_,_=>λk hk=>absurd hk (Ayr _)
 |m::l,x,hm,hx=>by
  have hm1:=hm m Aun;have hl:0<=l.sum:=by
   have:=uK (l:=l) (λy hy=>by have:=hm y (Aj6 _ hy);omega) l.length;rw[Ax1]at this;exact this
  rw[Av4,show(m+l.sum).toNat=m.toNat+l.sum.toNat by omega,Au7]at hx;intro k hk hk';cases k with
  |zero=>simp only[Ze,List.getElem_cons_zero,Aiq];omega
  |succ k=>
   simp only[Ze,List.getElem_cons_succ];exact zG c h1 l (x.drop (m.toNat*c)) (λm hm'=>hm m (Aj6 _ hm')) (by rw[Aue];omega) k (by simpa using hk) _
structure FileOf (c w r n:Nat) (x:List Int32) (p:LB) (T:Nat) (fs:List LB) (z b:LB):Prop where
 clip:ClipOk c w r n x
 pass:p.length<=64
 front:Ed b=((T:Int),0)
 le:b.length<=100000
 lens:Cl fs=Cl (OP c w r n x p)
 form:b.drop T=Zi (Jr p) c w r n++(fZ p++(aP (Cl (OP c w r n x p))++(fs.flatten++z)))
def qZ(T:Nat)(p:LB)(K:Nat):Nat:=T+22+(if Jr p=2 then 8 else 0)+4*K+4
section
variable {c w r n:Nat} {x:List Int32} {p:LB} {T:Nat} {fs:List LB} {z b:LB} (h:FileOf c w r n x p T fs z b)
include h
theorem FileOf.cnt:fs.length=(OP c w r n x p).length:=by
 have:=congrArg List.length h.lens;rw[Nx,Nx]at this;exact this
theorem FileOf.Eo:Opn b p (Jr p) c w r n (qZ T p fs.length) (Cl fs):=by
 have hc:=h.clip;have hl:(Cl fs).length=(Au (Ay r) n).length:=by rw[Nx,h.cnt];exact rB p
 have ht:KS (Cl fs)=true:=by rw[h.lens];exact qm hc p
 have hd:=h.form;rw[<-h.lens]at hd;have:=Amx (z:=fs.flatten++z) h.pass rfl (hc.shape _ (D2 p)) hc.fit h.front h.le hd hl ht;rw[Nx]at this;exact this
theorem FileOf.Asq:b.drop (qZ T p fs.length)=fs.flatten++z:=by
 have hd:=h.form;rw[<-h.lens]at hd;have e:qZ T p fs.length=T+(22+((if Jr p=2 then 8 else 0)+(4*fs.length+4))):=by unfold qZ;omega
 have e2:4*fs.length+4=(aP (Cl fs)).length:=by rw[qF,Nx]
 rw[e,<-Azq,hd,<-Azq]
 conv=>lhs;rw[<-jI (Jr p) c w r n,Ayn,<-Azq,<-rD p,Ayn,e2,Ayn]
theorem FileOf.mom{k:Nat}(hk:k<fs.length):∃(m:Nat) (hk':k<(bG c r n x).length),Aj (Au (Ay r) n) (k:Int)=some (m:Int)/\1<=m/\m<=4000/c/\ ((bG c r n x)[k]).length=m*c/\inR (w:Int) (bG c r n x)[k]/\ (OP c w r n x p)[k]'(by rw[<-h.cnt];exact hk)=Nh (w:Int) c (Xb p) (bG c r n x)[k]:=by
 have hc:=h.clip;have hlen:fs.length=(Au (Ay r) n).length:=by rw[h.cnt];exact rB p
 have hkf:k<(Au (Ay r) n).length:=by omega
 have hk':k<(bG c r n x).length:=by rw[H3];exact hkf
 have hm1:=AW (Qi r) hc.cnt.1 _ (Avs hkf);obtain⟨m,hm⟩:=An8 (show 0<= (Au (Ay r) n)[k] by omega);have hg:=zG c hc.ch.1 _ x (AW (Qi r) hc.cnt.1) (by rw[hc.sum,hc.len,Ajv]) k hkf hk';rw[hm,Ajv]at hg;have hmem:=YR hc _ (Avs hk');have hx:=mR c hc.ch.1 _ x (AW (Qi r) hc.cnt.1) (by rw[hc.sum,hc.len,Ajv]) _ (Avs hk');have hg':((bG c r n x)[k]).length=m*c:=hg;refine⟨m,hk',by rw[Ck hkf,hm],by omega,?_,hg',hmem.2.2.2,?_⟩
 ·have h1:=hx.2.1;have h2:m*c<=n*c:=by rw[<-hg',<-hc.len];exact h1
  have h3:m<=n:=Nat.le_of_mul_le_mul_right h2 hc.ch.1;exact Baf h3 hc.cnt.2
 ·simp only[OP,Ay1]
theorem FileOf.Ax6{k:Nat}(hk:k<fs.length)(he:fs[k]=(OP c w r n x p)[k]'(by rw[<-h.cnt];exact hk)):
  lD b p (Jr p) c w r n (qZ T p fs.length) (Cl fs) k=(Ea (w:Int) ((bG c r n x).getD k []),0)/\smF w (lD b p (Jr p) c w r n (qZ T p fs.length) (Cl fs) k)=(bG c r n x).getD k []:=by
 have hc:=h.clip;obtain⟨m,hk',h1,h2,h3,h4,h5,h6⟩:=h.mom hk;have hd:=(Adj hc.bits (nC p) hc.ch.1 hc.ch.2 h2 h3 h4 h5).1;have hg:=Avb h.Eo h.Asq hk h1 (by rw[he,h6];exact hd);have e:(bG c r n x).getD k []=(bG c r n x)[k]:=by rw[List.getD_eq_getElem?_getD,List.getElem?_eq_getElem hk'];rfl
 rw[e];exact hg.2 rfl
theorem FileOf.beh:J2 b (qZ T p fs.length) (Cl fs)=(IU z).2:=Ah5 h.Asq
end
theorem Ahe{c w r n:Nat}{x:List Int32}(h:ClipOk c w r n x){p:LB}(hp:p.length<=64):FileOf c w r n x p 0 (OP c w r n x p) [] (Qk c w r n x p):=by
 refine⟨h,hp,tT ?_,by have:=O9 h p;omega,rfl,by rw[Avk];rfl⟩;rw[Qk,AI];rfl
theorem E3:∀(ys:List (List Int32)) (G:Nat->List Int32) (k:Nat),(∀i,i<ys.length->G (k+i)=ys.getD i [])->U6 G ys.length k=ys.flatten
 |[],G,k,_=>rfl
 |y::ys,G,k,h=>by
  have h0:=h 0 (by simp);have ih:=E3 ys G (k+1) (λi hi=>by have:=h (i+1) (by simp;omega);rw[show k+1+i=k+(i+1) by omega,this];simp);rw[Aj2,U6,ih,Ayi,show k=k+0 from rfl,h0];rfl
structure EncOk (c w r:Nat) (p:LB):Prop where
 ch:1<=c/\c<=6
 bits:Bu (w:Int)
 rate:1<=r/\r<=1048576
 pass:p.length<=64
def szE(c w:Nat):Nat:=c*wB (w:Int)
def nE(c w:Nat)(t:LB):Nat:=t.length/szE c w
def XE(c w:Nat)(t:LB):LX:=sxs (wB (w:Int)) (nE c w t*c) t
def pz(c r n:Nat):Prop:=n*c<=4000/\ (n=0\/ (n-1)/Ay r+1<=1000)
instance(c r n:Nat):Decidable (pz c r n):=by unfold pz;exact inferInstance
theorem pz.mono{c r n m:Nat}(h:pz c r n)(hm:m<=n):pz c r m:=by
 obtain⟨h1,h2⟩:=h;have h3:=Ado c hm;have h4:(m-1)/Ay r<= (n-1)/Ay r:=Nat.div_le_div_right (by omega);refine⟨by omega,?_⟩;omega
def Cd(e:Int):Prop:=e=0\/e=4\/e=12\/e=16\/e=22\/e=24\/e=26\/e=38
instance(e:Int):Decidable (Cd e):=by unfold Cd;infer_instance
structure HdI (f c w r n:Int) (F C W R N:Nat):Prop where
 ef:f=F
 ec:c=C
 ew:w=W
 er:r=R
 en:n=N
 shape:Fb F C W R N=true
 fit:CX C R N=true
inductive FitD (o:LB) (f c w r n:Int) (g:LI) (a:Int) (x:LB):Prop
 |new:f=0->c=0->w=0->r=0->n=0->g=[]->a=0->x=[]->FitD o f c w r n g a x
 |head (F C W R N:Nat):HdI f c w r n F C W R N-> (o==([]:LB))=decide (F=1)->g=[]->a=0->x=[]->FitD o f c w r n g a x
 |tab (F C W R N A:Nat):HdI f c w r n F C W R N-> (o==([]:LB))=decide (F=1)->KS g=true->g.length=(Au (Ay R) N).length->a=A->A<=g.length->FitD o f c w r n g a x
def ID3:List UInt8:=[73,68,51]
def APX:List UInt8:=[65,80,69,84,65,71,69,88]
def Ajx(b s:List UInt8):Bool:=decide (b.length<s.length)&&(b==s.take b.length)
theorem Q2(b s:List UInt8):Ou b s=some (Ajx b s):=by
 rw[Ou,Ajx];by_cases h:b.length<s.length
 ·rw[Abb (by rw[Af,Ac,Ac];simp;omega),Ac,Je,Aa,decide_eq_true h,Az0];rfl
 ·rw[Aba (by rw[Af,Ac,Ac];simp;omega),Azr h];rfl
def stS(b:List UInt8):Int×Int×Int×Int×Int×Int×Int:=
 if(Ed b).2=24 then(0,0,0,0,0,0, -1)else if(Ed b).2≠0 then(0,0,0,0,0,0,(Ed b).2)else
 if(Ajx (VT b) ID3||Ajx (VT b) APX)=true then(0,0,0,0,0,0, -1)else
 if(Le (VT b)).2.2.2.2.2=24 then(0,0,0,0,0,0, -1)else((Ed b).1+22,(Le (VT b)).1,(Le (VT b)).2.1,(Le (VT b)).2.2.1,(Le (VT b)).2.2.2.1,(Le (VT b)).2.2.2.2.1,(Le (VT b)).2.2.2.2.2)
theorem Acg(b:List UInt8)(hb:b.length<=100000):Ux b=some (stS b):=by
 rw[Ux,Zv,ZY b (by omega),Aa,stS];have hok:=rN (b:=b);simp only;by_cases h1:(Ed b).2=24
 ·rw[Abb (by rw[Be];simpa using h1),Abb h1]
 rw[Aba (by rw[Be];simpa using h1),Aba h1];by_cases h2:(Ed b).2≠0
 ·rw[Abb (by rw[Ak];simpa using h2),Abb h2]
 have h0:(Ed b).2=0:=by simpa using h2
 obtain⟨k1,k2,k3⟩:=hok h0;rw[Aba (by rw[Ak,h0];simp),Aba h2,Jb,Aa,Q2,Aa,show b.drop (Ed b).1.toNat=VT b from rfl,show([73,68,51]:LB)=ID3 from rfl,show([65,80,69,84,65,71,69,88]:LB)=APX from rfl];by_cases h3:Ajx (VT b) ID3=true
 ·rw[Abb h3,h3,Bool.true_or,Abb rfl]
 rw[Aba h3,Q2,Aa,Bool.eq_false_iff.2 h3,Bool.false_or];by_cases h4:Ajx (VT b) APX=true
 ·rw[Abb h4,Abb h4]
 have hl:(VT b).length<=b.length:=by rw[VT,Aue];omega
 rw[Aba h4,Aba h4,Zs,AE,xO _ (by omega),Aa];simp only;by_cases h5:(Le (VT b)).2.2.2.2.2=24
 ·rw[Abb (by rw[Be];simpa using h5),Abb h5]
 ·rw[Aba (by rw[Be];simpa using h5),Aba h5,Ag]
structure SzD (p:LB) (g:LI) (a:Int) (x:LB):Prop where
 hp:p.length<=100000
 hg:g.length<=1000
 hx:x.length+12000*(g.length-a.toNat)<=13000000
section
variable {bk:LB->Int->Int->Int->Int->Int->Int->LI->LB->Hm} {o p:LB} {f c w r n:Int} {g:LI} {a:Int} {x:LB} {u:Bool} {v:Int}
theorem f62{d:Bool}{e:Int}:sU bk o u v a g x d e p f c w r n=Lh bk o u v p f c w r n a d e g x:=rfl
theorem f75{d:Bool}{e:Int}:tC bk o u v f c w r n a x d e p g=Lh bk o u v p f c w r n a d e g x:=rfl
theorem f78{d:Bool}{e:Int}:sQ bk o u v f c w r n g d e p a x=Lh bk o u v p f c w r n a d e g x:=rfl
end
theorem bnd{α β:Type}{o:Option α}{f:α->Option β}{r:β}(h:Option.bind o f=some r):∃x,o=some x/\f x=some r:=by
 cases o with
 |none=>cases h
 |some x=>exact⟨x,rfl,h⟩
def OutB(f c w r n:Int)(g:LI)(a:Int)(x:LB):Prop:=∀(F C W R N A:Nat),HdI f c w r n F C W R N->g≠ []->a=(A:Int)-> (x.length:Int)<=Anu C W (Au (Ay R) N) A
theorem OutB.nil{f c w r n:Int}{a:Int}{x:LB}:OutB f c w r n [] a x:=λ_ _ _ _ _ _ _ h=>absurd rfl h
theorem OutB.zero{f c w r n:Int}{g:LI}:OutB f c w r n g 0 []:=λF C W R N A h hg ha=>by
 obtain rfl:A=0:=by omega
 rw[Ac7];simp
structure Wt (o p:LB) (f c w r n:Int) (g:LI) (a:Int) (x:LB):Prop where
 fit:FitD o f c w r n g a x
 sz:SzD p g a x
 out:OutB f c w r n g a x
 wait:EM o p f c w r n g a x false 0=some (o,p,f,c,w,r,n,g,a,x,false,0, -1)
abbrev As6(q:Nat)(o p:LB)(f c w r n:Int)(g:LI)(a:Int)(x:LB):=LG q o p f c w r n g a x false 0
abbrev Fd(o s:LB):=As6 Aq o s 0 0 0 0 0 [] 0 []
inductive Bh (o s:LB):LB->Int->Int->Int->Int->Int->LI->Int->LB->Int->Prop
 |wt {p:LB} {f c w r n:Int} {g:LI} {a:Int} {x:LB}:Wt o p f c w r n g a x->p.length<=s.length-> (∀b:LB,(s++b).length<=100000->Fd o (s++b)=As6 Aq o (p++b) f c w r n g a x)->Bh o s p f c w r n g a x 0
 |er {x:LB} {e:Int}:0<e->Cd e->x.length<=12000-> (∀b:LB,(s++b).length<=100000->Fd o (s++b)=some (o,[],0,0,0,0,0,[],0,x,false,e,e))->Bh o s [] 0 0 0 0 0 [] 0 x e
variable {o s p:LB} {f c w r n:Int} {g:LI} {a:Int} {x:LB} {e:Int}
theorem Bh.new(ho:o.length<=64):Bh o [] [] 0 0 0 0 0 [] 0 [] 0:=by
 refine .wt ⟨.new rfl rfl rfl rfl rfl rfl rfl rfl,⟨by simp,by simp,by simp⟩,OutB.nil,?_⟩ (Aj3 _) λb _=>rfl;rw[EM,KC,Abb (by decide),Acg [] (by simp),Aa];rfl
end Go.Pl
namespace Go.Pl
open Go Go.Lv
section
variable {o s p:LB} {f c w r n:Int} {g:LI} {a:Int} {x:LB} {e:Int}
theorem FitD.drop(h:FitD o f c w r n g a x)(t:Nat):FitD o f c w r n g a (x.drop t):=by
 cases h with
 |new e1 e2 e3 e4 e5 e6 e7 e8=>subst e8;exact .new e1 e2 e3 e4 e5 e6 e7 (by simp)
 |head F C W R N hd hpw e6 e7 e8=>subst e8;exact .head F C W R N hd hpw e6 e7 (by simp)
 |tab F C W R N A hd hpw ht hl ea hA=>exact .tab F C W R N A hd hpw ht hl ea hA
theorem OutB.drop(h:OutB f c w r n g a x)(t:Nat):OutB f c w r n g a (x.drop t):=by
 intro F C W R N A hd hg ha;have:=h F C W R N A hd hg ha;rw[Aue];omega
end
theorem Ady{w:Nat}(hw:Bu (w:Int)){X:LX}(hl:X.length<=4000)(hr:inR (w:Int) X):AV (w:Int) X=some (Ea (w:Int) X,0):=zV hw hl (tG hw hl hr)
section
variable {c w r n:Nat} {x:List Int32} (h:ClipOk c w r n x) {p:LB} (hp:p.length<=64) (h4:x.length<=400)
include h hp h4
omit hp in
theorem Acp:(Qk c w r n x p).length<=8000:=by
 have h1:=Abl h p;have h2:=rB (c:=c) (w:=w) (r:=r) (n:=n) (x:=x) p;rw[AF]at h2;have h3:(n-1)/Ay r<=n-1:=As9 _ _;have h5:n*1<=n*c:=Nat.mul_le_mul_left n h.ch.1;have h6:=h.len;have:=h.cnt;omega
end
inductive Pl (S D A:Int) (G:Nat->Int) (l:List Int) (a:Int):UInt8->Int->Int->Prop
 |t:a<S->Pl S D A G l a 1 0 0
 |h:S<=a->a<S+22->Pl S D A G l a 2 0 0
 |d:S+22<=a->a<D->Pl S D A G l a 3 0 0
 |s:S+22<=a->D<=a->a<A->Pl S D A G l a 4 0 0
 |f (i:Nat):S+22<=a->D<=a->A<=a->i<l.length->A+(l.take i).sum<=a->a<A+(l.take (i+1)).sum->Pl S D A G l a 5 i (G i)
 |b:S+22<=a->D<=a->A<=a->A+l.sum<=a->Pl S D A G l a 6 0 0
section
variable {f c w r n:Nat} (h1:Fb f c w r n=true) (h2:CX c r n=true) {p:LB} (hp:p.length<=64) (hf:f=Jr p)
include h1 h2 hp hf
omit h1 h2 hp hf in
theorem Ajb(z:LB):Ed (Zi f c w r n++z)=(0,0):=tT (by rw[AI];rfl)
end
theorem Ad6{c w r n:Nat}{x:List Int32}(h:ClipOk c w r n x){p:LB}(hp:p.length<=64):Gp (Qk c w r n x p) p=some ((c:Int),(w:Int),(r:Int),x,0):=by
 have fo:=Ahe h hp;have o:=fo.Eo;have hle:=fo.le;have hlf:=Nx (OP c w r n x p);have hgood:∀i,(hi:i<(OP c w r n x p).length)-> _:=λi hi=>fo.Ax6 (k:=i) hi rfl;have hbe:J2 (Qk c w r n x p) (qZ 0 p (OP c w r n x p).length) (Cl (OP c w r n x p))=0:=by rw[fo.beh,Adi]
 have hcl:Agu (Qk c w r n x p) p (Jr p) c w r n (qZ 0 p (OP c w r n x p).length) (Cl (OP c w r n x p))=((c:Int),(w:Int),(r:Int),x,0):=by
  have hr:=M7 (lD (Qk c w r n x p) p (Jr p) c w r n (qZ 0 p (OP c w r n x p).length) (Cl (OP c w r n x p))) (Cl (OP c w r n x p)).length 0 [] (λi _ hi=>by rw[(hgood i (by omega)).1]);have hcl:=sw w (lD (Qk c w r n x p) p (Jr p) c w r n (qZ 0 p (OP c w r n x p).length) (Cl (OP c w r n x p))) (J2 (Qk c w r n x p) (qZ 0 p (OP c w r n x p).length) (Cl (OP c w r n x p))) (Cl (OP c w r n x p)).length 0 [] [];rw[hbe,hr]at hcl;have hg:=Aax _ _ _ _ _ _ hcl.symm;have hPl:=H3 (c:=c) (r:=r) (n:=n) (x:=x);have hfl:=rB (c:=c) (w:=w) (r:=r) (n:=n) (x:=x) p;have Axu:=E3 (bG c r n x) (λi=>smF w (lD (Qk c w r n x p) p (Jr p) c w r n (qZ 0 p (OP c w r n x p).length) (Cl (OP c w r n x p)) i)) 0 (λi hi=>by rw[Avi,(hgood i (by omega)).2]);rw[K8 h,<-show(OP c w r n x p).length=(bG c r n x).length by omega]at Axu;rw[Agu,cP,hbe,Aba (by rw[<-hcl];simp),hg.2.2,Avf,hlf,Axu]
 rcases Aet (Qk c w r n x p) p (by omega) hp with⟨e,he,k1,_⟩|⟨f',c',w',r',n',A',l',o',k3,_⟩
 ·have:=o.prog;rw[k1]at this;have:=Aus this;simp only[TG,Avn]at this;exact absurd this.2.2.2.2.2.2.2 he
 ·have hpr:=o'.prog;rw[o.prog]at hpr;simp only[Ajz,Avn]at hpr;obtain⟨v1,v2,v3,v4,v5,v6,v7,_⟩:=hpr;have j1:Jr p=f':=by omega
  have j2:c=c':=by omega
  have j3:w=w':=by omega
  have j4:r=r':=by omega
  have j5:n=n':=by omega
  have j6:qZ 0 p (OP c w r n x p).length=A':=by omega
  subst j1 j2 j3 j4 j5 v7;rw[<-j6,hcl]at k3;exact k3
theorem ClipOk.enc{c w r n:Nat}{x:List Int32}(h:ClipOk c w r n x){p:LB}(hp:p.length<=64):EncOk c w r p:=⟨h.ch,h.bits,h.rate,hp⟩
theorem Ar8{f c w r n:Nat}(h1:Fb f c w r n=true)(h2:CX c r n=true){q z:LB}(hq:q.length<=64)(hne:¬(q=[]↔f=1))(hb:(Zi f c w r n++z).length<=20000):Cp (Zi f c w r n++z) q=some (TG 26):=by
 have hfr:=Ajb (f:=f) (c:=c) (w:=w) (r:=r) (n:=n) z;have hrd:=K6 h1 h2 z;generalize Zi f c w r n++z=b at*
 rw[Cp,Po,Aba (by rw[Am,Ac];simp;omega),Aba (by rw[Am,Ac];simp;omega),BL b (by omega),hfr,Aa];simp only;rw[Aba (by decide),Jb,Aa,Int.toNat_zero,List.drop_zero,kF _ (by omega),hrd,Aa];simp only;rw[Aba (by decide),Abb]
 ·rfl
 ·rw[Be];by_cases hq0:q=[]
  ·have hf1:f≠1:=λe=>hne ⟨λ_=>e,λ_=>hq0⟩;have:((f:Int)==1)=false:=by rw[beq_eq_false_iff_ne];omega
   rw[this,hq0];rfl
  ·have hf1:f=1:=by
    refine Aya λe=>hne ⟨λh=>absurd h hq0,λh=>absurd h e⟩
   have:(q==([]:LB))=false:=by simpa using hq0
   rw[this,hf1];rfl
theorem Am1{b p:LB}(hb:b.length<=20000)(hp:p.length<=64){e:Int}(he:e≠0)(h:Cp b p=some (TG e)):Gp b p=some (I5 e):=by
 rcases Aet b p (by omega) hp with⟨e',he',h1,_,h3,_⟩|⟨f,c,w,r,n,A,l,o,_,_⟩
 ·rw[h]at h1;have:=Aus h1;simp only[TG,Avn]at this;rw[this.2.2.2.2.2.2.2];exact h3
 ·have:=o.prog;rw[h]at this;have:=Aus this;simp only[TG,Avn]at this;exact absurd this.2.2.2.2.2.2.2 he
def Au9(n:Nat):LB:=List.replicate (n %2) 0
def chB(c k:LB):LB:=c++Kq k.length 4++k++Au9 k.length
def C4(k m:LB):Nat:=20+k.length+k.length %2+m.length+m.length %2
def An2(k m:LB):LB:=[82,73,70,70]++Kq (C4 k m) 4++[87,65,86,69]++chB [102,109,116,32] k++chB [100,97,116,97] m
abbrev two(k m:LB):List (LB×LB×Unit):=[([102,109,116,32],k,()),([100,97,116,97],m,())]
theorem Aob(n:Nat)(h:n<4611686018427387904):Db (n:Int) (1:Int)=((n %2:Nat):Int):=by
 have e:Db (n:Int) (1:Int)=wrap64 ((BitVec.ofInt 64 (n:Int)&&&BitVec.ofInt 64 1).toNat:Int):=rfl;rw[e,Az9,Av9,Av9];have h1:((n:Int) %((2^64:Nat):Int)).toNat=n:=by omega
 have h2:((1:Int) %((2^64:Nat):Int)).toNat=2^1-1:=by decide
 rw[h1,h2,Awr,Bo (by omega) (by omega)]
theorem Asw:∃q,Aq=q+1+1+1:=⟨Aq-3,by have:=Al;omega⟩
theorem bM(k m:LB):Ac (two k m)=2:=rfl
theorem As2(k m:LB):Aj (two k m) 0=some ([102,109,116,32],k,()):=rfl
theorem Asu(k m:LB):Aj (two k m) 1=some ([100,97,116,97],m,()):=rfl
theorem g01:Ae (0:Int) 1=1:=by decide
theorem g11:Ae (1:Int) 1=2:=by decide
theorem As1{k m:LB}(hk:k.length<=100)(hm:m.length<=20000):GX (two k m)=some ((C4 k m:Nat):Int):=by
 obtain⟨q,hq⟩:=Asw;rw[GX,aM,ZI,hq,Vu,DN,bM,Abb (by decide),As2,Aa,g01,Vu,DN,bM,Abb (by decide),Asu,Aa,g11,Vu,DN,bM,Aba (by decide),aD,rA];simp only[Ac];rw[Aob _ (by omega),Aob _ (by omega)];have h1:Ae (8:Int) (k.length:Int)=8+(k.length:Int):=Ag;have h2:Ae (8:Int) (m.length:Int)=8+(m.length:Int):=Ag;have h3:Ae (8+(k.length:Int)) ((k.length %2:Nat):Int)=8+(k.length:Int)+((k.length %2:Nat):Int):=Ag;have h4:Ae (8+(m.length:Int)) ((m.length %2:Nat):Int)=8+(m.length:Int)+((m.length %2:Nat):Int):=Ag;have h5:Ae (4:Int) (8+(k.length:Int)+((k.length %2:Nat):Int))=4+(8+(k.length:Int)+((k.length %2:Nat):Int)):=Ag;rw[h1,h2,h3,h4,h5,Ag];unfold C4;congr 1;omega
theorem Aw9(k:LB):DI [102,109,116,32] k=some false:=by kernel_rfl
theorem Avz(k:LB):DI [100,97,116,97] k=some false:=by kernel_rfl
theorem Au5{k m:LB}(hk:k.length<=100)(hm:m.length<=20000):Um [87,65,86,69] (two k m)=some 0:=by
 obtain⟨q,hq⟩:=Asw;rw[Um,HZ,bM,Aba (by decide),show TR [87,65,86,69]=some true from by kernel_rfl,Aa,Aba (by decide),As1 hk hm,Aa,Aba (by
  rw[Ag (by unfold C4;omega) (by unfold C4;omega),Am];unfold C4;simp;omega)]
 rw[RM,hq,Py,Vl,bM,Abb (by decide),As2,Aa];dsimp only;rw[Aw9,Aa,EU,DF,Aba (by decide),CD,QV,g01,Py,Vl,bM,Abb (by decide),Asu,Aa];dsimp only;rw[Avz,Aa,EU,DF,Aba (by decide),CD,QV,g11,Py,Vl,bM,Aba (by decide),SF,QJ,DD,QT,Vh,RS,Aba (by decide),TD,fY]
theorem Agm{o id:LB}{n:Nat}(ho:o.length<=100000)(hi:id.length<=4)(hn:n<4294967296):OR o id (n:Int)=some (o++id++Kq n 4):=by
 have h1:(UInt64.ofNat n).toNat=n:=by rw[Afg];omega
 have h:=EE (UInt64.ofNat n) 4 (by omega) (by omega) (by rw[h1];omega);rw[h1]at h;rw[OR,Nf,show(4:Int)=((4:Nat):Int)from rfl,h,Aa];simp only;rw[Cg,Aa,Cg (by simp[Ba];omega)]
theorem Aww{o k:LB}{c:LB}{l:List (LB×LB×Unit)}(ho:o.length<=60000)(hc:c.length<=4)(hk:k.length<=20000):JK ((c,k,())::l) o=JK l (o++chB c k):=by
 rw[JK];dsimp only;rw[show Ac k=((k.length:Nat):Int)from rfl,Agm (by omega) hc (by omega),Aa,Cg (by simp[Ba];omega),Aa,Aob _ (by omega),mG,Aa,Ajv,Cg (by simp[Ba];omega),Aa];unfold chB Au9;simp only[Ab2]
theorem Acr{k m:LB}(hk:k.length<=100)(hm:m.length<=20000):HU [87,65,86,69] (two k m)=some (An2 k m,0):=by
 rw[HU,Au5 hk hm,Aa,Aba (by decide),As1 hk hm,Aa,Agm (by simp) (by simp) (by unfold C4;omega),Aa,Cg (by simp[Ba]),Aa,Aww (by simp[Ba]) (by simp) (by omega),Aww (by simp[chB,Au9,Ba];omega) (by simp) hm,JK,Aa];unfold An2;simp only[Avf,Ab2]
def Ap7(c w r:Int)(g:UInt64):LB:=
 Kq g.toNat 2++Kq (Ad c:UInt64).toNat 2++Kq (Ad r:UInt64).toNat 4++Kq (Bd (Ad r:UInt64) (Ad (Bv (Bd c w) 8):UInt64)).toNat 4++Kq (Ad (Bv (Bd c w) 8):UInt64).toNat 2++Kq (Ad w:UInt64).toNat 2
theorem Wg{a:Bool}{n:Int}{f:LQ}{h:Int}{v:UInt64}{k:Nat}{b:LB}(q:Nat)(hn:h<n)(hg:Aj f h=some v)(hw:Aj ([(2:Int),(2:Int),(4:Int),(4:Int),(2:Int),(2:Int),(2:Int),(2:Int),(4:Int)]:LI) h=some (k:Int))
  (h1:1<=k) (h8:k<=8) (hv:v.toNat<256^k) (hb:b.length<=100):Dn a n f (q+1) h b=Dn a n f q (Ae h 1) (b++Kq v.toNat k):=by
 rw[Dn,Pc,Abb (by rw[Af];simpa using hn),hg,Aa,Aa,hw,Aa,EE v k h1 h8 hv,Aa];simp only;rw[Cg (by simp[Ba];omega),Aa]
theorem At2:∃q,Aq=q+1+1+1+1+1+1+1+1+1+1:=⟨Aq-10,by have:=Al;omega⟩
theorem Asr{v0 v1 v2 v3 v4 v5:UInt64}{t:LQ}(h0:v0.toNat<65536)(h1:v1.toNat<65536)(h2:v2.toNat<4294967296)(h3:v3.toNat<4294967296)(h4:v4.toNat<65536)(h5:v5.toNat<65536)(a:Bool)(n:Int)(hn:6<=n):
  ∃q,Vr a n (v0::v1::v2::v3::v4::v5::t) 0 []=Dn a n (v0::v1::v2::v3::v4::v5::t) (q+1+1+1+1) 6 (Kq v0.toNat 2++Kq v1.toNat 2++Kq v2.toNat 4++Kq v3.toNat 4++Kq v4.toNat 2++Kq v5.toNat 2):=by
 obtain⟨q,hq⟩:=At2;refine⟨q,?_⟩;have e:∀i:Nat,i<10->Ae ((i:Nat):Int) 1=((i+1:Nat):Int):=λi hi=>by rw[Ag];omega
 rw[Vr,hq,
  Wg (k:=2) _ (by omega) (show _=some v0 from rfl) rfl (by omega) (by omega) h0 (by simp),show Ae (0:Int) 1=1 from e 0 (by omega),
  Wg (k:=2) _ (by omega) (show _=some v1 from rfl) rfl (by omega) (by omega) h1 (by simp[Ba]),show Ae (1:Int) 1=2 from e 1 (by omega),
  Wg (k:=4) _ (by omega) (show _=some v2 from rfl) rfl (by omega) (by omega) h2 (by simp[Ba]),show Ae (2:Int) 1=3 from e 2 (by omega),
  Wg (k:=4) _ (by omega) (show _=some v3 from rfl) rfl (by omega) (by omega) h3 (by simp[Ba]),show Ae (3:Int) 1=4 from e 3 (by omega),
  Wg (k:=2) _ (by omega) (show _=some v4 from rfl) rfl (by omega) (by omega) h4 (by simp[Ba]),show Ae (4:Int) 1=5 from e 4 (by omega),
  Wg (k:=2) _ (by omega) (show _=some v5 from rfl) rfl (by omega) (by omega) h5 (by simp[Ba]),show Ae (5:Int) 1=6 from e 5 (by omega)]
 simp only[Avf]
theorem Amh{n:Int}{f:LQ}{b:LB}(q:Nat):Dn false n f (q+1) n b=some b:=by
 rw[Dn,Pc,Aba (by rw[Af];simp),Wd,HY,Aba (by decide)]
def zl:LB:=[1,0,0,0,0,0,16,0,128,0,0,170,0,56,155,113]
theorem Ajn{n:Int}{f:LQ}{b:LB}(hb:b.length<=100)(q:Nat):Dn true n f (q+1) n b=some (b++zl):=by
 rw[Dn,Pc,Aba (by rw[Af];simp),Wd,HY,Abb rfl,show Ca ([1,0,0,0,0,0,16,0,128,0,0,170,0,56,155,113]:LB) 0 16=some zl from by kernel_rfl,Aa,Cg (by simp[zl];omega),Aa]
theorem Aqx{c:Nat}(h1:1<=c)(h6:c<=6):(Ad (Ah (Cr (1:UInt32) (GI.toZ (Ad (c:Int):UInt64)).toNat) 1):UInt64)=Ah (Cr (1:UInt64) (GI.toZ (c:Int)).toNat) 1/\ (Ah (Cr (1:UInt64) (GI.toZ (c:Int)).toNat) 1).toNat<4294967296:=by
 have:c=1\/c=2\/c=3\/c=4\/c=5\/c=6:=by omega
 rcases this with rfl|rfl|rfl|rfl|rfl|rfl<;>exact⟨by kernel_rfl,by decide⟩
theorem Auq{c w:Nat}(h1:1<=c)(h6:c<=6)(hw:Bu (w:Int)){R:UInt64}(hR:R.toNat<=1048576):
  (Ad (c:Int):UInt64).toNat<65536/\ (Ad (Bv (Bd (c:Int) (w:Int)) 8):UInt64).toNat<65536/\ (Ad (w:Int):UInt64).toNat<65536/\ (Bd R (Ad (Bv (Bd (c:Int) (w:Int)) 8):UInt64)).toNat<4294967296:=by
 have hc:c=1\/c=2\/c=3\/c=4\/c=5\/c=6:=by omega
 have hw':w=8\/w=16\/w=24:=by unfold Bu at hw;omega
 have key:∀B:UInt64,B.toNat<=18-> (Bd R B).toNat<4294967296:=λB hB=>by
  have e:Bd R B=UInt64.ofNat (R.toNat*B.toNat):=by
   show GI.ofZ (((R.toNat:Nat):Int)*((B.toNat:Nat):Int))=_;rw[<-Aw7];exact Gd _
  have:=Azx hR hB;rw[e,Afg,Abk (by omega)];omega
 rcases hc with rfl|rfl|rfl|rfl|rfl|rfl<;>rcases hw' with rfl|rfl|rfl<;>exact⟨by decide,by decide,by decide,key _ (by decide)⟩
theorem Ai3{c w r:Nat}(h1:1<=c)(h6:c<=6)(hw:Bu (w:Int))(hr1:1<=r)(hr:r<=1048576):EZ (c:Int) (w:Int) (r:Int)=some 0:=by
 rw[EZ,Aba (by simp[Af,Am];omega)];have hw':w=8\/w=16\/w=24:=by unfold Bu at hw;omega
 rcases hw' with rfl|rfl|rfl
 ·rw[Abb (by decide),Abb (by decide)]
 ·rw[Aba (by decide),Abb (by decide),Abb (by decide)]
 ·rw[Aba (by decide),Aba (by decide),Abb (by decide)]
theorem Aki(c w r:Int)(g:UInt64):(Ap7 c w r g).length=16:=by simp[Ap7,Ba]
theorem tU(f g h:Int)(a:LX)(ha:a.length<=4000000):∀(j i q:Nat),i+j=a.length->j<q->Gx f g h a f g h a q (i:Int)=some true
 |0,i,q+1,hi,_=>by
  rw[Gx,Ns,Aba (by rw[Af,Ac];simp;omega)];rfl
 |j+1,i,q+1,hi,hq=>by
  have hlt:i<a.length:=by omega
  have ih:=tU f g h a ha j (i+1) q (by omega) (by omega);rw[Gx,Ns,Abb (by rw[Af,Ac];simp;omega),Ck hlt,Aa,Aa,Aba (by rw[Apf];simp),Ag];exact ih
theorem Au3(f g h:Int)(a:LX)(ha:a.length<=4000000):Tz f g h a f g h a=some true:=by
 rw[Tz,Vp,Aba (by simp[Ak])];exact tU f g h a ha a.length 0 Aq (by omega) (by have:=Al;omega)
def Alu(c w r:Int)(ext:Bool)(M:UInt64):LB:=if ext=true then Ap7 c w r 65534++[22,0]++Kq (Ad w:UInt64).toNat 2++Kq M.toNat 4++zl else Ap7 c w r 1
theorem Anj{c w r:Nat}(h1:1<=c)(h6:c<=6)(hw:Bu (w:Int))(hr1:1<=r)(hr:r<=1048576)(ext:Bool){M:UInt64}(m2:M.toNat<4294967296):
  IW (c:Int) (w:Int) (r:Int) ext M=some (Alu c w r ext M):=by
 have hR:(Ad (r:Int):UInt64).toNat=r:=by rw[Nf,Afg];omega
 obtain⟨b1,b2,b3,b4⟩:=Auq h1 h6 hw (R:=(Ad (r:Int):UInt64)) (by omega);rw[IW,GW];cases ext with
 |true=>
  rw[Abb rfl,show Aj _ 0=some (1:UInt64)from rfl,Aa,show Ip _ 0 65534=some ((65534:UInt64)::_)from rfl,Aa,Wi,Wf];obtain⟨q,hq⟩:=Asr (v0:=65534) (t:=[22,Ad (w:Int),M]) (by decide) b1 (by rw[hR];omega) b4 b2 b3 true 9 (by omega);rw[hq,Wg (k:=2) _ (by omega) (show _=some (22:UInt64)from rfl) rfl (by omega) (by omega) (by decide) (by simp[Ba]),show Ae (6:Int) 1=7 from by decide,
   Wg (k:=2) _ (by omega) (show _=some (Ad (w:Int):UInt64)from rfl) rfl (by omega) (by omega) b3 (by simp[Ba]),show Ae (7:Int) 1=8 from by decide,
   Wg (k:=4) _ (by omega) (show _=some M from rfl) rfl (by omega) (by omega) m2 (by simp[Ba]),show Ae (8:Int) 1=9 from by decide,Ajn (by simp[Ba])]
  rfl
 |false=>
  rw[Aba (by decide),Wi,Wf];obtain⟨q,hq⟩:=Asr (v0:=1) (t:=[22,Ad (w:Int),M]) (by decide) b1 (by rw[hR];omega) b4 b2 b3 false 6 (by omega);rw[hq,Amh];rfl
theorem Am4(c w r:Int)(ext:Bool)(M:UInt64):(Alu c w r ext M).length<=100:=by
 unfold Alu;split<;>simp[Aki,Ba,zl]
theorem Ac6{c w r:Nat}(h1:1<=c)(h6:c<=6)(hw:Bu (w:Int))(hr1:1<=r)(hr:r<=1048576):
  FA (c:Int) (w:Int) (r:Int)=some (Alu c w r (Dv (c:Int) 2||Dv (w:Int) 16) (Ah (Cr (1:UInt64) (GI.toZ (c:Int)).toNat) 1),0):=by
 have hok:Hy (Ly (c:Int) 0)=some ():=Bf (by rw[De];simp);rw[FA,VW,Ai3 h1 h6 hw hr1 hr,Aa,Aba (by decide),Aa];simp only;rw[Aba (by decide),hok,Aa,Anj h1 h6 hw hr1 hr _ (Aqx h1 h6).2,Aa]
def pG:LB:=[84,84,65,49,2,0,2,0,16,0,4,0,0,0,5,0,0,0,53,215,167,173,160,118,203,71,159,71,36,226,16,0,0,0,7,0,0,0,251,214,78,132,4,64,128,6,6,4,107,94,4,96,129,0,174,194,153,9,74,16,0,85,195,142,200]
theorem Aux:Nk [120]=some pG:=by kernel_rfl
theorem is1:Ci pG [120] 0=some true:=by kernel_rfl
theorem is2:Ci pG [] 26=some true:=by kernel_rfl
theorem is3:Ci pG [121] 26=some true:=by kernel_rfl
theorem is4:Ci (pG++[0]) [120] 38=some true:=by kernel_rfl
theorem is5:Ci (pG.take (pG.length-1)) [120] 24=some true:=by kernel_rfl
def exG:LB:=[84,84,65,49,2,0,2,0,16,0,4,0,0,0,5,0,0,0,53,215,167,173,160,118,203,71,159,71,36,226,16,0,0,0,7,0,0,0,251,214,78,132,4,64,128,6,6,4,107,94,4,96,129,0,174,194,153,9,74,17,0,85,195,142,200]
theorem is6:Ci exG [120] 22=some true:=by kernel_rfl
theorem Apt:Gt=some true:=by
 rw[Gt,Aux,Aa,Aba (by decide),show Dd [] pG=some pG from by kernel_rfl,Aa,show Aj pG (Ah (Ac pG) 6)=some 16 from by kernel_rfl,Aa,show Ip pG (Ah (Ac pG) 6) (Rn 16 1)=some exG from by kernel_rfl,Aa,
  is1,Aa,Aba (by decide),is2,Aa,Aba (by decide),is3,Aa,Aba (by decide),show Dd pG [0]=some (pG++[0])from by kernel_rfl,Aa,is4,Aa,Aba (by decide),show Ca pG 0 (Ah (Ac pG) 1)=some (pG.take (pG.length-1))from by kernel_rfl,Aa,is5,Aa,Aba (by decide),is6]
theorem Atn{c w r n:Nat}{x:LX}(h:ClipOk c w r n x)(hc:Cx (c:Int) (w:Int) (r:Int) x=some 0):∃b:LB,YD (c:Int) (w:Int) (r:Int) x=some (b,0):=by
 have hx:=h.le.2.2.2;have hb:=SR (w:Int) x;have hbl:(Ea (w:Int) x).length<=20000:=by omega
 have hk:=Am4 (c:Int) (w:Int) (r:Int) (Dv (c:Int) 2||Dv (w:Int) 16) (Ah (Cr (1:UInt64) (GI.toZ (c:Int)).toNat) 1);refine⟨An2 (Alu (c:Int) (w:Int) (r:Int) (Dv (c:Int) 2||Dv (w:Int) 16) (Ah (Cr (1:UInt64) (GI.toZ (c:Int)).toNat) 1)) (Ea (w:Int) x),?_⟩;rw[YD,hc,Aa,Aba (by decide),Ac6 h.ch.1 h.ch.2 h.bits h.rate.1 h.rate.2,Aa];simp only;rw[Ady h.bits hx h.rng,Aa];simp only;rw[Acr hk hbl,Aa]
theorem Adv{c w r n:Nat}{x:LX}(h:ClipOk c w r n x){p q:LB}(hq:q.length<=64)(hx4:x.length<=400)(hem:¬(p=[]↔q=[])):Gp (Qk c w r n x p) q=some (I5 26):=by
 have hsm:=Acp h (p:=p) hx4;have hsh:=h.shape _ (D2 p);have hbad:=Ar8 hsh h.fit hq (z:=fZ p++(aP (Cl (OP c w r n x p))++(OP c w r n x p).flatten)) (by
  intro hh;apply hem;unfold Jr at hh;by_cases h0:p=[]
  ·rw[Abb h0]at hh;exact⟨λ_=>hh.2 rfl,λ_=>h0⟩
  ·rw[Aba h0]at hh;exact⟨λe=>absurd e h0,λe=>absurd (hh.1 e) (by decide)⟩) (by rw[Qk]at hsm;omega)
 exact Am1 (b:=Qk c w r n x p) (by omega) hq (by decide) hbad
theorem law_ValidBack(C W R:Int)(x:LX)(p q:LB):Ru C W R x p q=some true:=by
 rw[Ru,Mo,Apt,Aa,Yu,Aa];by_cases hL:((Dv (Ac x) 300&&yh (Ac x) 4000)||Dv (Ac x) 4010)=true
 ·rw[Abb hL];by_cases hc:(((true||Dv (Ac p) 64)||Dv (Ac q) 64)|| !true)=true
  ·rw[Abb hc]
  ·exact absurd (by simp) hc
 rw[Aba hL];rcases uw C W R x with⟨e8,_⟩|⟨c,w,r,n,rfl,rfl,rfl,h,e24,eck⟩
 ·rw[e8,Aa,Abb (by simp[Ak])]
 rw[e24,Aa];by_cases hc:(((Bk (0:Int) 0||Dv (Ac p) 64)||Dv (Ac q) 64)|| !true)=true
 ·rw[Abb hc]
 rw[Aba hc];simp only[Axl,not_or,Am,Ac,Ab1]at hc;have hp:p.length<=64:=by omega
 have hq:q.length<=64:=by omega
 have hx:=h.le.2.2.2;have hx4:x.length<=400:=by
  simp only[Axl,Abx,not_or,not_and,Am,D4,Ac,Ab1]at hL;have:=hL.1;omega
 obtain⟨y,hw⟩:=Atn h eck;have hv:=Ad6 h hp;have hck:Qn (Qk c w r n x p) p=some 0:=by rw[Qn,hv,Aa]
 have hwv:WX (Qk c w r n x p) p=some (y,0):=by
  rw[WX,hv,Aa];simp only;rw[Aba (by decide),hw,Aa]
 rw[Mz,Mq,mq h eck p hp,Aa];simp only;rw[hv,Aa];simp only;rw[hwv,Aa];simp only;rw[hw,Aa];simp only;rw[Aba (by decide),Au3 _ _ _ _ (by omega),Aa,Aba (by simp[Ak]),hck,Aa,Aba (by decide),My,Wo,Abb rfl];by_cases hem:p=[]↔q=[]
 ·rw[Abb (by
   by_cases h0:p=[]
   ·rw[h0,hem.1 h0];rfl
   ·have a1:(p==([]:LB))=false:=by simpa using h0
    have a2:(q==([]:LB))=false:=by simpa using(λhh=>h0 (hem.2 hh))
    rw[a1,a2];rfl)]
 ·rw[Aba (by
   intro hh;apply hem;by_cases h0:p=[]<;>by_cases h1:q=[]<;>simp_all),Qn,Adv h hq hx4 hem,Aa,Aa]
  rfl
end Go.Pl
