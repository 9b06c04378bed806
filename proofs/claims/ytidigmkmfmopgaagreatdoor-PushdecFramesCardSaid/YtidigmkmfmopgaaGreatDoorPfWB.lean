/- A part of the proof of a statement of this seat (see the text that ends in Proof): LwAll, LwEc3, LwEc4, LwEb1, LwEb2, LwEb3, LwEb4, LwA41, LwPv, LwPk, LwEf1, LwEf2, LwEf3, LwEf4, LwEf5, LwEf6, LwNn, LwHdI, LwFit, LwFitC, LwStart, LwStb, LwChk, LwChkT, LwChkF, LwPc, LwTake, LwGre, LwSteps, LwStb2, LwFed, LwOut, LwErr, LwCat, LwJoin, LwPp, LwPt, LwPe2, LwEf7, LwEf8, LwPf. No conditions of its own. -/
import Derived.Test.YtidigmkmfmopgaaGreatDoorPfWA
import Derived.Test.YtidigmkmfmopgaaGreatDoorPfPA
import Derived.KernelRfl
set_option linter.unusedVariables false
set_option linter.unusedSimpArgs false
namespace Go.Pl
open Go Go.Lv
theorem xN{bits:Int}(h:Bt bits){l:List Int32}(hl:l.length<=4000)(hr:inR bits l):Ax bits l=some 0:=by
 have hh:=RI bits;have key:∀(j i q:Nat),i+j=l.length->j<q->Ba l (hB bits) q (i:Int)=some 0:=by
  intro j
  induction j with
  |zero=>
   intro i q hi hq;obtain⟨q,rfl⟩:∃k,q=k+1:=⟨q-1,by omega⟩;rw[Ba,Cm,Aab (by rw[Ae,Ac];simp;omega)];rfl
  |succ j ih=>
   intro i q hi hq;obtain⟨q,rfl⟩:∃k,q=k+1:=⟨q-1,by omega⟩;have hx:=hr l[i] (Am7 (by omega));rw[Ba,Cm,Aah (by rw[Ae,Ac];simp;omega),Bu (by omega),Aa,Aa,Fx,Ah2,Cx (by omega) (by omega),Aj (by omega) (by omega),Ae,Dq,Aab (by simp;omega),Aab (by simp;omega)];exact ih (i+1) q (by omega) (by omega)
 rw[Ax,De,VJ h,Aa,Aab (by rw[Ar];simp;omega),Aab (by rw[Aq,Ac];simp;omega)];exact key l.length 0 Ay (by omega) (by have:=Au;omega)
theorem Apk(bits:Int)(a b:List Int32):Cy bits (a++b)=Cy bits a++Cy bits b:=by unfold Cy;rw[List.flatMap_append]
def TZ{α:Type}(G:Nat->List α):Nat->Nat->List α
 |0,_=>[]
 |j+1,k=>G k++TZ G j (k+1)
theorem Al5{α:Type}(G:Nat->List α):∀(i j k:Nat),TZ G (i+j) k=TZ G i k++TZ G j (k+i)
 |0,j,k=>by simp[TZ]
 |i+1,j,k=>by
  rw[show i+1+j=(i+j)+1 by omega,TZ,TZ,Al5 G i j (k+1),Agm,show k+1+i=k+(i+1) by omega]
theorem Ath{α:Type}(G:Nat->List α)(i k:Nat):TZ G (i+1) k=TZ G i k++G (k+i):=by
 rw[Al5 G i 1 k];simp[TZ]
def Ni(bits:Int)(ch:Nat)(t x:List Int32):List UInt32:=evl bits ch t (mx ch x) x.length
def XW(bits:Int)(ch:Nat)(t x:List Int32):List UInt8:=Ms (So ch (Ni bits ch t x) x.length)
def Rz(bits:Int)(ch:Nat)(t x:List Int32):List UInt8:=XW bits ch t x++Te (Ec (XW bits ch t x)).toNat 4
theorem Am1(bits:Int)(ch:Nat)(t x:List Int32)(h0:1<=x.length)(h4:x.length<=4000):1<= (XW bits ch t x).length/\ (XW bits ch t x).length<=40501:=by
 have h:=lU ch (Ni bits ch t x) x.length;obtain⟨k,hk⟩:∃k,x.length=k+1:=⟨x.length-1,by omega⟩;have h1:1<= (So ch (Ni bits ch t x) x.length).length:=by
  rw[hk,So,Aav];have hn:=Ai8 ch ((Ni bits ch t x).take k);have:=dP ((Ni bits ch t x).getD k 0) hn.1 hn.2;omega
 rw[XW,AX];omega
theorem Ab5(bits:Int)(ch:Nat)(t x:List Int32)(h0:1<=x.length)(h4:x.length<=4000):5<= (Rz bits ch t x).length/\ (Rz bits ch t x).length<=40505:=by
 have:=Am1 bits ch t x h0 h4;rw[Rz,Aav,Cf];omega
theorem Avt(bits:Int)(ch:Nat)(t x:List Int32)(h0:1<=x.length)(h4:x.length<=4000):Vk (Rz bits ch t x)=0/\ (Rz bits ch t x).take ((Rz bits ch t x).length-4)=XW bits ch t x:=by
 have h:=Ab5 bits ch t x h0 h4;have hl:(Rz bits ch t x).length-4=(XW bits ch t x).length:=by rw[Rz,Aav,Cf];omega
 have h1:(Rz bits ch t x).take ((Rz bits ch t x).length-4)=XW bits ch t x:=by rw[hl,Rz,Blj]
 have h2:(Rz bits ch t x).drop ((Rz bits ch t x).length-4)=Te (Ec (XW bits ch t x)).toNat 4:=by rw[hl,Rz,Bjp]
 have hlt:=(Ec (XW bits ch t x)).toNat_lt;refine⟨?_,h1⟩;rw[Vk,Aab (by omega),Aab (by omega),h1,h2,DC,Ab3 (by omega),Aab (by simp)]
theorem An8{bits:Int}{ch n:Nat}{t x:List Int32}(hb:Bt bits)(ht:t.length=16)(h1:1<=ch)(h6:ch<=6)(n1:1<=n)(n2:n<=4000/ch)(hx:x.length=n*ch)(hr:inR bits x):
  Jv (ch:Int) bits t (n:Int) (Rz bits ch t x)=some (x,0)/\Di (ch:Int) bits t (n:Int) (Rz bits ch t x)=some (x,0):=by
 have hn:n*ch<=4000:=by
  have:=Aiy ch n2;have h2:=Bgf 4000 ch;omega
 have hq4:=Aam h1 h6;have hx1:1<=x.length:=by rw[hx];exact Nat.mul_pos n1 h1
 have key:Di (ch:Int) bits t (n:Int) (Rz bits ch t x)=some (x,0):=by
  generalize 4000/ch=mm at*
  have hh:=RI bits;have Afc:Dr (ch:Int) bits (n:Int)=some 0:=by
   rw[Dr,Df,Aab (by simp[Ae,Aq];omega),VJ hb,Aa,Aab (by rw[Ar];simp;omega),Aa,Aab (by simp[Ak,Ae];omega),Bo (by rw[Ak];simp;omega),Aa,hq4,Aab (by rw[Aq];simp;omega)]
  have hlen:=Ab5 bits ch t x hx1 (by omega);obtain⟨hs,htk⟩:=Avt bits ch t x hx1 (by omega);have hpl:=Am1 bits ch t x hx1 (by omega);have e4:Am (Ac (Rz bits ch t x)) 4=(((Rz bits ch t x).length-4:Nat):Int):=by rw[Ac,Bp (by omega) (by omega)];omega
  have hVl:(Ni bits ch t x).length=x.length:=oR _ _ _ _ _;have hEl:=AX (So ch (Ni bits ch t x) x.length);have hvb:=Ahd ch (Ni bits ch t x) (8*(XW bits ch t x).length) (by rw[hVl,XW,hEl];omega) (n*ch) 0 (by omega);rw[hVl]at hvb;have hread:=Air (N:=8*(XW bits ch t x).length) (p:=XW bits ch t x) rfl (by omega) h1 h6 hn;have hvb':Xa ch (XW bits ch t x) (8*(XW bits ch t x).length) (n*ch) 0 []=(Ni bits ch t x,(So ch (Ni bits ch t x) x.length).length,0):=hvb;have hz:Cb (XW bits ch t x) (So ch (Ni bits ch t x) x.length).length (8*(XW bits ch t x).length-(So ch (Ni bits ch t x) x.length).length)=0:=by
   apply xI;intro k _;rw[XW,EX,Ahs (by omega)]
  have Bnh:¬7<8*(XW bits ch t x).length-(So ch (Ni bits ch t x) x.length).length:=by rw[XW,hEl];omega
  rw[hvb']at hread;simp only at hread;rw[Aab (by decide),Aab (by rw[hz];simp;omega)]at hread;have hm:(Ni bits ch t x).length %ch=0:=by rw[hVl,hx];exact Bhi n ch
  have Bje:=Ags (v:=Ni bits ch t x) hb ht h1 h6 (by omega) hm;have hsm:xT bits ch t (Ni bits ch t x)=mx ch x:=by
   have:=Bc0 bits ch t (mx ch x);rw[VM]at this;exact this
  rw[hsm,Bfh h1 (by rw[hx];exact Bhi n ch)]at Bje;rw[Di,Ot,Afc,Aa,Aab (by rw[Ak];simp),qW,Aa,hs,Aab (by decide),e4,Da (by omega) (by omega),Aa,Ahr,htk,hread,Aa];simp only;rw[Hu,Hw,Aab (by decide),Bje,Aa,Tl,xN hb (by omega) hr,Aa,Aab (by decide)];rfl
 obtain⟨l,e,d1,d2,_,_⟩:=FR (Rz bits ch t x) hb ht h1 h6 n1 n2;rw[key]at d2;cases d2;exact⟨d1,key⟩
theorem Am8(p:List UInt8)(b0:UInt64)(a0:Int):∀(j m q:Nat),m+j<=300000->j<=64->j<q->
  Ry b0 a0 q (Qr p m j) (j:Int) (m:Int) (Rm p 0 m)=some (Rm p 0 (m+j),((m+j:Nat):Int),0)
 |0,m,q+1,_,_,_=>by
  rw[Ry,TX,Aab (by rw[Aq];simp),fZ,sZ];rfl
 |j+1,m,q+1,hm,hj,hq=>by
  have hroom:Ry b0 a0 (q+1) (Qr p m (j+1)) ((j+1:Nat):Int) (m:Int) (Rm p 0 m)=TP (Ry b0 a0 q) b0 a0 (Qr p m (j+1)) ((j+1:Nat):Int) (m:Int) (room p 0 m):=by
   rw[Ry,TX,Aah (by rw[Aq];simp),yK m (by omega),room];by_cases h0:m %8=0
   ·rw[Aah (by rw[Ar,h0];rfl),By (by rw[Kj];simp;omega),Aa,Aah h0]
   ·rw[Aab (by rw[Ar];simp;omega),Aab h0]
  have hl:Am (Ac (room p 0 m)) 1=((m/8:Nat):Int):=by
   rw[Ac,Pu,Bp (by omega) (by omega)];omega
  have e2:Fe ((j+1:Nat):Int) (Am (8:Int) ((m %8:Nat):Int))=((min (j+1) (8-m %8):Nat):Int):=by
   rw[NP,Bp (by omega) (by omega)];omega
  rw[hroom,TP,gS,yK m (by omega),e2,hl];generalize hT:min (j+1) (8-m %8)=T;have hT1:1<=T:=by omega
  have hT8:m %8+T<=8:=by omega
  have hg:Ap (room p 0 m) ((m/8:Nat):Int)=some (UInt8.ofNat (Cb p (0+8*(m/8)) (m %8))):=by
   rw[Bu (by rw[Pu];omega),oO]
  have z1:(GI.toZ ((m %8:Nat):Int)).toNat=m %8:=rfl;have z2:(GI.toZ ((T:Nat):Int)).toNat=T:=rfl;have hlt:=tW p (0+8*(m/8)) (m %8+T) (by omega);have hadd:=PJ p (m %8) T (0+8*(m/8));rw[show 0+8*(m/8)+m %8=m by omega]at hadd;have hbyte:(Af (Ev (Qr p m (j+1)) (Am (Ea (1:UInt64) T) (1:UInt64))):UInt8)=UInt8.ofNat (Cb p m T):=by
   rw[UU,Bhv _ (by omega),Amd p m (j+1) T (by omega) hj]
  have hnew:wU (UInt8.ofNat (Cb p (0+8*(m/8)) (m %8))) (Ea (UInt8.ofNat (Cb p m T)) (m %8))=UInt8.ofNat (Cb p (0+8*(m/8)) (m %8+T)):=by
   rw[or8 (Qo _ _ _) (by rw[An1];omega) (by omega),hadd,An1 (2^(m %8))]
  rw[hg,z1,z2,hbyte];simp only[Aa];rw[Bo (by rw[Dq];simp),Aa,Bo (by rw[Dq];simp;omega),Aa,hnew,Vv _ (by rw[Pu];omega),Aa,tO p 0 m T hT1 hT8,gL,vI,yK m (by omega),e2,hT,Bo (by rw[Dq];simp),Aa,z2,Amz p m (j+1) T (by omega) hj,Bp (by omega) (by omega),Aj (by omega) (by omega)];have ih:=Am8 p b0 a0 (j+1-T) (m+T) q (by omega) (by omega) (by omega);rw[show m+T+(j+1-T)=m+(j+1) by omega]at ih;rw[<-ih,show((j+1:Nat):Int)-((T:Nat):Int)=((j+1-T:Nat):Int) by omega,show(m:Int)+((T:Nat):Int)=((m+T:Nat):Int) by omega]
theorem put_eq(p:List UInt8)(m j:Nat)(hm:m+j<=300000)(hj:j<=63):XM (Rm p 0 m) (m:Int) (Qr p m j) (j:Int)=some (Rm p 0 (m+j),((m+j:Nat):Int),0):=by
 have hz:Bi (Ck (Qr p m j) (GI.toZ (j:Int)).toNat) 0=false:=by
  have:Ck (Qr p m j) j=0:=by
   apply UInt64.toNat_inj.1;rw[GL,AL p m j (by omega),Bha (Qo p j m)];rfl
  rw[show(GI.toZ (j:Int)).toNat=j from rfl,this];rfl
 have hl:=Kj p 0 m;have htw:dC (Rm p 0 m) (m:Int)=some (Rm p 0 m,(m:Int)):=by
  rw[dC,Fo,By (by simp;omega),Aa,Aa];rfl
 rw[XM,lB,BD (tE p 0 m (by omega)),Aa,Aab (by decide),Aab (by simp[Ae,Aq];omega),Aah (by rw[Ae];simp;omega),Bo (by rw[Dq];simp),Aa,hz,Aab (by decide),Aj (by omega) (by omega),Aab (by rw[Aq];simp;omega),htw,Aa];exact Am8 p _ _ j m Ay hm (by omega) (by have:=Au;omega)
theorem At.cat{p:List UInt8}{a:Nat}{c d:List Bool}(h:At p a (c++d)):At p a c/\At p (a+c.length) d:=⟨h.left,h.right⟩
theorem Ake(p:List UInt8):∀(q a:Nat),At p a (List.replicate q true)->Cb p a q+1=2^q
 |0,a,_=>by rw[Cb]
 |q+1,a,h=>by
  rw[Beu]at h;obtain⟨h0,h1⟩:=h.cons;have:=Ake p q (a+1) h1;rw[Cb,h0,Av3,Aah rfl];omega
theorem xE{x:UInt64}{p:List UInt8}{m n:Nat}(hn:n<=63)(h:x.toNat=Cb p m n):x=Qr p m n:=by
 apply UInt64.toNat_inj.1;rw[h,AL p m n (by omega)]
theorem aB{n:Nat}(h:n<2^64):(UInt64.ofNat n).toNat=n:=by rw[Akl];exact Ab3 h
theorem Agp{p:List UInt8}{m q:Nat}(hq:q<=48)(hm:m+48<=300000)(h:At p m (List.replicate q true++(if q=48 then []else [false]))):
  ZI (Rm p 0 m) (m:Int) (q:Int)=some (Rm p 0 (m+min (q+1) 48),((m+min (q+1) 48:Nat):Int),0):=by
 have h1:=h.left;have hv:=Ake p q m h1;have Bnj:2^q<=2^48:=Ajs (by omega) hq;have hval:Cb p m (min (q+1) 48)+1=2^q:=by
  by_cases h48:q=48
  ·subst h48;exact hv
  ·rw[Aab h48]at h;have h2:=h.right;rw[Aty]at h2;have h0:=h2.cons.1;rw[show min (q+1) 48=q+1 by omega,oL,h0];simpa using hv
 have hx:(Am (Ea (1:UInt64) q) (1:UInt64)).toNat=Cb p m (min (q+1) 48):=by
  have e1:(Ea (1:UInt64) q).toNat=2^q:=by rw[WO];show 1*2^q %_=_;rw[Nat.one_mul];exact Ab3 (by omega)
  have hpos:0<2^q:=Bhx (by omega);rw[uU,UInt64.toNat_sub_of_le _ _ (by rw[UInt64.le_iff_toNat_le,e1];exact hpos),e1]
  show 2^q-1=_;omega
 rw[ZI,BD (tE p 0 m (by omega)),Aa,Aab (by decide),fR,Aab (by simp[Ae,Aq];omega),Aa];simp only;have e2:Fe (Ad (q:Int) 1) 48=((min (q+1) 48:Nat):Int):=by rw[NP,Aj (by omega) (by omega)];omega
 rw[Aab (by decide),Bo (by rw[Dq];simp),Aa,e2,show(GI.toZ (q:Int)).toNat=q from rfl,xE (by omega) hx,put_eq p m _ (by omega) (by omega),Aa]
theorem Azy{p:List UInt8}{m l:Nat}{v:UInt32}(hl:l<=24)(hm:m+81<=300000)(h:At p m (YK l v.toNat)):
  iA (Rm p 0 m) (m:Int) v (l:Int)=some (Rm p 0 (m+(YK l v.toNat).length),((m+(YK l v.toNat).length:Nat):Int),0):=by
 have hvl:=v.toNat_lt;have hz:(GI.toZ (l:Int)).toNat=l:=rfl;have hlp:2^l<=2^24:=Ajs (by omega) hl;have hpos:0<2^l:=Bhx (by omega);have Bkw:BE v (l:Int)=some (decide (48<=v.toNat/2^l)):=by
  rw[BE,Bo (by rw[Dq];simp),Aa,hz,Arj,QG];rfl
 rw[iA,bA,BD (tE p 0 m (by omega)),Aa,Aab (by decide),Aab (by simp[Ae,Aq];omega),Bo (by rw[Dq];simp),Aa,Aa,Bkw,Aa];rw[YK]at h⊢;by_cases h48:48<=v.toNat/2^l
 ·rw[Aah h48]at h⊢;obtain⟨h1,h2⟩:=h.cat;rw[Aty]at h2;have hval:=NW p 32 (m+48) v.toNat h2;rw[Ab3 (by omega)]at hval;have hu:=Agp (p:=p) (m:=m) (q:=48) (An0 _) (by omega) (by rw[Aah rfl,Aot];exact h1);rw[Aah (by simpa using h48),OM,bB,show(48:Int)=((48:Nat):Int)from rfl,hu,Aa];simp only;rw[Aab (by decide),Dn,xE (x:=UInt64.ofNat v.toNat) (p:=p) (m:=m+48) (n:=32) (by omega) (by rw[aB (by omega),hval]),show(32:Int)=((32:Nat):Int)from rfl,show m+min (48+1) 48=m+48 by omega,put_eq p (m+48) 32 (by omega) (by omega),Aa,Aav,Aty,Ux,Axy]
 ·rw[Aab h48]at h⊢;generalize hq:v.toNat/2^l=q at*
  obtain⟨h1,h2⟩:=h.cat;rw[Aty]at h2;obtain⟨h3,h4⟩:=h2.cons;have hval:=NW p l (m+q+1) (v.toNat %2^l) h4;rw[Nat.mod_mod]at hval;have hqa:At p m (List.replicate q true++[false]):=by
   have:List.replicate q true++(false::iW (v.toNat %2^l) l)=(List.replicate q true++[false])++iW (v.toNat %2^l) l:=by simp
   rw[this]at h;exact h.left
  have hu:=Agp (p:=p) (m:=m) (q:=q) (by omega) (by omega) (by rw[Aab (by omega)];exact hqa);have hgq:(Af (Ck v l):Int)=(q:Int):=by rw[Ad2,QG,hq]
  have hrest:(Af (Ev v (Am (Ea (1:UInt32) l) 1)):UInt64)=Qr p (m+q+1) l:=by
   apply xE (by omega);have e1:(Ea (1:UInt32) l).toNat=2^l:=by rw[nC];show 1*2^l %_=_;rw[Nat.one_mul];exact Ab3 (by omega)
   have e2:(Am (Ea (1:UInt32) l) (1:UInt32)).toNat=2^l-1:=by
    rw[Ads,UInt32.toNat_sub_of_le _ _ (by rw[UInt32.le_iff_toNat_le,e1];exact hpos),e1];rfl
   have e3:(Ev v (Am (Ea (1:UInt32) l) 1)).toNat=v.toNat %2^l:=by
    rw[Adm,UInt32.toNat_and,e2,Bh8]
   rw[Dn,aB (by rw[e3];have:=Bhd v.toNat hpos;omega),e3,hval]
  rw[Aab (by simpa using h48),OM,bB,hz,hgq,hu,Aa];simp only;rw[Aab (by decide),hrest,show m+min (q+1) 48=m+q+1 by omega,put_eq p (m+q+1) l (by omega) (by omega),Aa,Aav,Aty,Anu,Ux,show m+q+1+l=m+(q+(l+1)) by omega]
theorem Axv{k l:Nat}{s t:UInt64}(h:okD k l s t)(v:UInt32):iG [] 0 (k:Int) (l:Int) s t v=
  some (Ms (Tg k l v),((Tg k l v).length:Int),((kS k (Yz s (n64 v)):Nat):Int),((lK l t k v:Nat):Int),Yz s (n64 v),lT t k v,0):=by
 obtain⟨h1,h2,h3,h4⟩:=h;have hvl:=v.toNat_lt;have hAt:At (Ms (Tg k l v)) 0 (Tg k l v):=λi hi=>by rw[Bar,EX]
 have hlen:=dP v h1 h2;have hfull:Rm (Ms (Tg k l v)) 0 (Tg k l v).length=Ms (Tg k l v):=by
  apply Akq (by rw[Kj,AX]);intro i hi;rw[sS,Bar,EX];by_cases hlt:i<(Tg k l v).length
  ·rw[Aah hlt]
  ·rw[Aab hlt,Ahs (by omega)]
 generalize hP:Ms (Tg k l v)=P at*
 have h0:Rm P 0 0=[]:=rfl;have Bjf:∀(x:Int) (y:UInt64) (aj ai:Int),CQ v (k:Int) s ai P x y=some (P,ai,((kS k (Yz s (n64 v)):Nat):Int),x,Yz s (n64 v),y,0):=by
  intro x y aj ai;rw[CQ,bP,Dn,cN,Aqi k h1];rw[aX,bI,WS,HE,Dn,cN];rfl
 have hp7:∀ai:Int,OH v (k:Int) (l:Int) s t 0 ai P=some (P,ai,((kS k (Yz s (n64 v)):Nat):Int),((lK l t k v:Nat):Int),Yz s (n64 v),lT t k v,0):=by
  intro ai;rw[OH,bJ,Aab (by decide),Aeo k l s t h1,Aa];by_cases hv:v.toNat<2^k
  ·rw[Aah hv];simp only;rw[Aab (by rw[Ar];simp),Bjf _ _ 0,lK,Aah hv,lT,Aah hv]
  ·rw[Aab hv];simp only;rw[Aah (by rw[Ar];rfl),Dn,cN,Aqi l h2 _ (λx=>CQ v (k:Int) s ai P x (Yz t (UInt64.ofNat (iV k v).toNat))),Bjf _ _ 0,lK,Aab hv,lT,Aab hv];rfl
 rw[iG,bV,show Kg [] 0=some 0 from rfl,Aa,Aab (by decide),Awm ⟨h1,h2,h3,h4⟩,Aa,Aab (by decide),aS,bY,Aeo k l s t h1,Aa];have hput:=put_eq P 0 1 (by omega) (by omega);rw[h0,Bar,show((0:Nat):Int)=0 from rfl,show((1:Nat):Int)=1 from rfl]at hput;by_cases hv:v.toNat<2^k
 ·have hc:Tg k l v=false::iW v.toNat k:=by rw[Tg,Aah hv]
  rw[hc]at hAt hfull;obtain⟨b0,b1⟩:=hAt.cons;have hval:=NW P k 1 v.toNat b1;rw[Ab3 hv]at hval;have hz:(Af (0:Int):UInt64)=Qr P 0 1:=xE (by omega) (by rw[uZ,b0];rfl);rw[Aah hv];simp only;rw[hz,hput,Aa];simp only;rw[Aah (by decide),Dn,xE (x:=UInt64.ofNat v.toNat) (p:=P) (m:=1) (n:=k) (by omega) (by rw[aB (by omega),hval]),show(1:Int)=((1:Nat):Int)from rfl,put_eq P 1 k (by omega) (by omega),Aa];simp only;rw[Anu,Ux,Bj7 k 1]at hfull;rw[hfull,hp7,hc,Anu,Ux,Bj7 k 1]
 ·have hc:Tg k l v=true::YK l (v.toNat-2^k):=by rw[Tg,Aab hv]
  rw[hc]at hAt hfull;obtain⟨b0,b1⟩:=hAt.cons;have hsub:=Nat.sub_le v.toNat (2^k);have hlv:(iV k v).toNat=v.toNat-2^k:=by rw[iV,ZE (by omega)]
  have hz:(Af (1:Int):UInt64)=Qr P 0 1:=xE (by omega) (by rw[uZ,b0];rfl);have hr:=Azy (p:=P) (m:=1) (l:=l) (v:=iV k v) h2 (by omega) (by rw[hlv];exact b1);rw[hlv,show((1:Nat):Int)=1 from rfl]at hr;rw[Aab hv];simp only;rw[hz,hput,Aa];simp only;rw[Aab (by decide),Aah (by decide),hr,Aa];simp only;rw[Anu,Bj7 _ 1]at hfull;rw[hfull,hp7,hc,Anu,Bj7 _ 1]
section
variable (ch:Nat) (x:List Int32)
theorem ZY{at' i:Nat}(ha:at' %ch=0)(hi:i<ch)(h:at'+i<x.length):(mx ch x).getD (at'+i) 0=mxV (λi=>x.getD (at'+i) 0) ch i:=by
 have hb:(at'+i) %ch=i:=by rw[Nat.add_mod,ha,Bar,Nat.mod_mod,Ab3 hi]
 rw[Ayn h,hb,show at'+i-i=at' by omega]
theorem Am3(bk:Int->List Int32->Option (List Int32×Int))(at':Nat)(h1:1<=ch)(h6:ch<=6)(hm:at' %ch=0)(hl:at'+ch<=x.length)(hl2:x.length<=4000):∀(j i q:Nat),i+j=ch-1->j<q->
  FG bk (ch:Int) (at':Int) q (i:Int) (fL (λk=>decide (k<at'+i)) (mx ch x) x)=bk ((at'+ch:Nat):Int) (fL (λk=>decide (k<at'+ch)) (mx ch x) x)
 |j,i,0,_,h=>absurd h (Bhc _)
 |0,i,q+1,hi,_=>by
  have hlen:=VM ch x;have e1:Am (Ad (at':Int) (ch:Int)-(at':Int)) 1=((ch-1:Nat):Int):=by rw[Aj (by omega) (by omega),Bp (by omega) (by omega)];omega
  have e2:Ad (at':Int) (ch:Int)-(at':Int)=(ch:Int):=by rw[Aj (by omega) (by omega)];omega
  have e4:Ad (at':Int) (ch:Int)=((at'+ch:Nat):Int):=by rw[Aj (by omega) (by omega)];omega
  rw[FG,ZM,e1,Aab (by rw[Ae];simp;omega),lI,nU,e1,e2];obtain rfl:i=ch-1:=by omega
  by_cases h2:1<ch
  ·have e3:Am ((ch-1:Nat):Int) 1=((ch-2:Nat):Int):=by rw[Bp (by omega) (by omega)];omega
   have hv:Am (x.getD (at'+(ch-1)) 0) (Cv ((mx ch x).getD (at'+(ch-2)) 0) 2)=(mx ch x).getD (at'+(ch-1)) 0:=by
    rw[ZY ch x hm (by omega) (by omega),ZY ch x hm (by omega) (by omega),mxV,mxV,Aah (by omega),Aab (by omega),Aah h2,WZ,show ch-2+1=ch-1 by omega]
   rw[Aah (by rw[Aq];simp;omega),qM (by omega),Aa,e3,qM (by omega),Aa,
    show(at':Int)+((ch-1:Nat):Int)=((at'+(ch-1):Nat):Int) by omega,show(at':Int)+((ch-2:Nat):Int)=((at'+(ch-2):Nat):Int) by omega,
    DE (by omega),Aa,DE (by omega),Aa,Aa,Aab (by simp),Aah (by simp;omega),hv,fN (by omega),Aa,aF,nV,e4]
   congr 1;apply Xe;intro k _;rw[Amo];simp;omega
  ·obtain rfl:ch=1:=by omega
   have hlast:x.getD at' 0=(mx 1 x).getD at' 0:=by
    have:=ZY 1 x (i:=0) hm (by omega) (by omega);rw[Bg2]at this;rw[this,mxV,Aab (by omega),Aab (by omega)];rfl
   rw[Aab (by rw[Aq];simp),aF,nV,e4];congr 1;apply Baq (by rw[OB,OB]);intro k g1 g2;rw[Vh,Vh];by_cases hk:k<at'
   ·rw[Aah (by simp;omega),Aah (by simp;omega)]
   ·by_cases hk2:k=at'
    ·subst hk2;rw[Aab (by simp),Aah (by simp)];exact hlast
    ·rw[Aab (by simp;omega),Aab (by simp;omega)]
 |j+1,i,q+1,hi,hq=>by
  have hlen:=VM ch x;have e1:Am (Ad (at':Int) (ch:Int)-(at':Int)) 1=((ch-1:Nat):Int):=by rw[Aj (by omega) (by omega),Bp (by omega) (by omega)];omega
  have e2:Ad (at':Int) (ch:Int)-(at':Int)=(ch:Int):=by rw[Aj (by omega) (by omega)];omega
  have e3:Ad (i:Int) 1=((i+1:Nat):Int):=by rw[Aj (by omega) (by omega)];omega
  have hv:Am (x.getD (at'+(i+1)) 0) (x.getD (at'+i) 0)=(mx ch x).getD (at'+i) 0:=by
   rw[ZY ch x hm (by omega) (by omega),mxV,Aah (by omega),WZ]
  rw[FG,ZM,e1,Aah (by rw[Ae];simp;omega),e2,e3,qM (by omega),Aa,qM (by omega),Aa,
   show(at':Int)+((i+1:Nat):Int)=((at'+(i+1):Nat):Int) by omega,show(at':Int)+(i:Int)=((at'+i:Nat):Int) by omega,
   DE (by omega),Aa,DE (by omega),Aa,Aa,Aab (by simp),Aab (by simp),hv,fN (by omega),Aa]
  have ih:=Am3 bk at' h1 h6 hm hl hl2 j (i+1) q (by omega) (by omega);rw[<-ih];congr 1;apply Xe;intro k _;rw[Amo];simp;omega
theorem xU(h1:1<=ch)(h6:ch<=6)(hm:x.length %ch=0)(hl2:x.length<=4000):∀(j at' q:Nat),at' %ch=0->at'<=x.length->x.length-at'<=j->j<q->
  EW (ch:Int) q (at':Int) (fL (λk=>decide (k<at')) (mx ch x) x)=some (mx ch x,0)
 |j,at',0,_,_,_,h=>absurd h (Bhc _)
 |j,at',q+1,ha,hle,hj,hq=>by
  have hlen:=VM ch x;have hl:Ac (fL (λk=>decide (k<at')) (mx ch x) x)=(x.length:Int):=by rw[Ac,OB,hlen]
  rw[EW,kN,hl];by_cases h:at'<x.length
  ·have hb:=uO ha hm h;obtain⟨j,rfl⟩:∃k,j=k+1:=⟨j-1,by omega⟩;have e4:Ad (at':Int) (ch:Int)=((at'+ch:Nat):Int):=by rw[Aj (by omega) (by omega)];omega
   have hi:=Am3 ch x (EW (ch:Int) q) at' h1 h6 ha hb hl2 (ch-1) 0 Ay (by omega) (by have:=Au;omega);have hrest:=xU h1 h6 hm hl2 j (at'+ch) q (by rw[Bk5,ha]) hb (by omega) (by omega);rw[Bg2]at hi;rw[Aah (by rw[Ae];simp;omega),show jH (x.length:Int) (at':Int) (Ad (at':Int) (ch:Int))=some () by rw[e4,jH,qM];omega,Aa];exact Bg6 hi hrest
  ·rw[Aab (by rw[Ae];simp;omega),oT (λk hk=>by simp;omega)];rfl
theorem Aul(h1:1<=ch)(h6:ch<=6)(hm:x.length %ch=0)(hl2:x.length<=4000):Aac (ch:Int) x=some (mx ch x,0):=by
 have hlen:=VM ch x;have h:=xU ch x h1 h6 hm hl2 x.length 0 Ay (by simp) (by omega) (by omega) (by have:=Au;omega);rw[Aac,sL,Ans ch x h1 h6 hm hl2,Aa,Aab (by rw[Ak];simp),El,By (by simp;omega),Aa,Aa,Aqd,nE];rw[mY hlen.symm (λk _=>by simp)]at h;exact h
end
theorem Ax8(a:Int32):pC a=some (mQ a):=by
 have h:=BN a;have hc:(Af a:UInt32)=UInt32.ofNat (a.toInt %4294967296).toNat:=rfl;have hs:(Ck a (GI.toZ (31:UInt64)).toNat)=if 0<=a.toInt then(0:Int32)else -1:=by
  have e:Ck a 31=Int32.ofInt (a.toInt.fdiv (2^31)):=rfl;rw[show(GI.toZ (31:UInt64)).toNat=31 from rfl,e];by_cases h0:0<=a.toInt
  ·rw[Aah h0,show a.toInt.fdiv (2^31)=0 by rw[Avi _ (by decide)];omega];rfl
  ·rw[Aab h0,show a.toInt.fdiv (2^31)= -1 by rw[Avi _ (by decide)];omega];rfl
 rw[pC,hs,hc,mQ];congr 1;have hsh:(Ea (UInt32.ofNat (a.toInt %4294967296).toNat) (GI.toZ (1:UInt64)).toNat).toNat=2*(a.toInt %4294967296).toNat %4294967296:=by
  rw[show(GI.toZ (1:UInt64)).toNat=1 from rfl,nC,Ant,Ab3 (show(a.toInt %4294967296).toNat<2^32 by omega)];omega
 by_cases h0:0<=a.toInt
 ·rw[Aah h0,Aah h0,show(Af (0:Int32):UInt32)=0 from rfl];apply UInt32.toNat_inj.1;rw[show∀z:UInt32,Zy z (0:UInt32)=z^^^0 from λz=>by rw[dE],Bla,hsh,Ant,Ab3 (show 2*a.toInt.toNat<2^32 by omega)]
  show _^^^0=_;rw[Nat.xor_zero];omega
 ·rw[Aab h0,Aab h0,show(Af (-1:Int32):UInt32)=4294967295 from rfl];apply UInt32.toNat_inj.1;rw[show∀z:UInt32,Zy z (4294967295:UInt32)=z^^^4294967295 from λz=>by rw[dE],Bla,hsh,Ant,Ab3 (show 2*(-a.toInt-1).toNat+1<2^32 by omega)]
  show _^^^4294967295=_;have key:∀n:Nat,n<4294967296->n^^^4294967295=4294967295-n:=by
   intro n hn;have:=BitVec.toNat_not (x:=BitVec.ofNat 32 n);rw[<-BitVec.xor_allOnes,BitVec.toNat_xor,BitVec.toNat_ofNat,Ab3 (by omega)]at this;simpa using this
  rw[key _ (by omega)];omega
theorem Azd{bits:Int}(h:Bt bits){t p:List Int32}(hF:OkF (sB bits) t p)(last x:Int32):
  Xj bits last (sB bits) t p x=some (zQ bits (last,t,p) x,bits,x,sB bits,lrn t p (zQ bits (last,t,p) x),(x-gs (shB bits) last)::p.take 15,0):=by
 rw[Xj,Aer h,Aa,Aab (by rw[Ak];simp),Ayy h,Aa];simp only;rw[WZ,ZT,Aj5 hF,Aa];simp only;rw[Aab (by rw[Ak];simp),WZ,YO,Al1 hF,Aa];simp only;rw[Ash (s:=sB bits) (t:=lrn t p _) (p:=p) ⟨hF.1,GP _ _ _,hF.2.2⟩,Aa,Aa];rfl
theorem Acm(bits:Int)(ch:Nat)(t x:List Int32):(Ni bits ch t x).length=x.length:=oR _ _ _ _ _
theorem Azx{bits:Int}{ch:Nat}{t x:List Int32}{i:Nat}(h:i<x.length):(Ni bits ch t x).getD i 0=mQ (zQ bits (cst bits ch t (Ni bits ch t x) (i %ch) i) ((mx ch x).getD i 0)):=by
 obtain⟨w,hw⟩:=Ain bits ch t (mx ch x) (x.length-(i+1)) (i+1);rw[show i+1+(x.length-(i+1))=x.length by omega,evl,Agm]at hw;have hli:=oR bits ch t (mx ch x) i;have hw':Ni bits ch t x=_:=hw;have hg:(Ni bits ch t x).getD i 0=mQ (zQ bits (cst bits ch t (evl bits ch t (mx ch x) i) (i %ch) i) ((mx ch x).getD i 0)):=by
  rw[hw',List.getD_eq_getElem?_getD,List.getElem?_append_right (by omega),hli,Nat.sub_self];rfl
 have hc:cst bits ch t (Ni bits ch t x) (i %ch) i=cst bits ch t (evl bits ch t (mx ch x) i) (i %ch) i:=by rw[hw',Aql _ _ _ _ _ _ _ (by omega)]
 rw[hg,hc]
section
variable {bits:Int} {ch:Nat} {t x:List Int32} (hb:Bt bits) (ht:t.length=16) (h1:1<=ch) (h6:ch<=6) (hx1:1<=x.length) (hx4:x.length<=4000) (hm:x.length %ch=0)
include hb ht h1 h6 hx1 hx4 hm
omit ht in
theorem Bgu(hr:inR bits x):OO (ch:Int) bits x=some 0:=by
 rw[OO,Aw5 hb h1 h6,Aa,Aab (by decide),gN hb x hx4,xN hb hx4 hr,Aa,Aab (by decide),Aab (by rw[Ar,Ac,Av2];omega),Bo (by rw[Ak];simp;omega),Aa,Ac,XT,hm,Aab (by decide)]
omit hm in
theorem Ag1:∀(j i q:Nat),i+j=x.length->j<q->
  Mc (mx ch x) (ch:Int) bits q (i:Int) (cts bits ch t (Ni bits ch t x) i) ((Ni bits ch t x).take i)=some (Ni bits ch t x,0)
 |j,i,0,_,h=>absurd h (Bhc _)
 |0,i,q+1,hi,_=>by
  have hl:=VM ch x;have hV:=Acm bits ch t x;rw[Mc,Wm,Aab (by rw[Ae,Ac];simp;omega),Ars (by omega)];rfl
 |j+1,i,q+1,hi,hq=>by
  have hl:=VM ch x;have hV:=Acm bits ch t x;have hc:i %ch<6:=Anx (Bhd _ (by omega)) h6;have hok:=Aiv bits ch ht (Ni bits ch t x) (i %ch) i;have hs:=As3 (bits:=bits) (ch:=ch) (t:=t) (v:=Ni bits ch t x) (i:=i) hc rfl;have hg:=Azx (bits:=bits) (ch:=ch) (t:=t) (x:=x) (i:=i) (by omega);have ih:=Ag1 j (i+1) q (by omega) (by omega);have htk:(Ni bits ch t x).take i++[(Ni bits ch t x).getD i 0]=(Ni bits ch t x).take (i+1):=by
   have:(Ni bits ch t x).getD i 0=(Ni bits ch t x)[i]'(by omega):=by rw[List.getD_eq_getElem?_getD,List.getElem?_eq_getElem (by omega)];rfl
   rw[this,Mg (by omega)]
  have hfw:=Azd hb hok (cst bits ch t (Ni bits ch t x) (i %ch) i).1 ((mx ch x).getD i 0);rw[Mc,Wm,Aah (by rw[Ae,Ac];simp;omega),g32 (by omega),Aa,Aa,Bo (by rw[Ak];simp;omega),Aa,XT,Asx hc,Aa,Aa];refine Bg6 (congrArg (λo=>Option.bind o _) hfw) ?_;rw[Aa];simp only;rw[Aab (by decide)];have hst:((bits,(mx ch x).getD i 0,(sB bits,lrn (cst bits ch t (Ni bits ch t x) (i %ch) i).2.1 (cst bits ch t (Ni bits ch t x) (i %ch) i).2.2 (zQ bits (cst bits ch t (Ni bits ch t x) (i %ch) i) ((mx ch x).getD i 0)),((mx ch x).getD i 0-gs (shB bits) (cst bits ch t (Ni bits ch t x) (i %ch) i).1)::(cst bits ch t (Ni bits ch t x) (i %ch) i).2.2.take 15,()),()):CL)=toC bits (Afo bits (cst bits ch t (Ni bits ch t x) (i %ch) i) (WN ((Ni bits ch t x).getD i 0))):=by
   rw[hg,Ay4,toC,Afo,Ag4];simp only;rw[zQ,ZA]
  refine Bg6 (congrArg (λo=>Option.bind o _) ((congrArg (λz=>Nz (cts bits ch t (Ni bits ch t x) i) ((i %ch:Nat):Int) z) hst).trans hs)) ?_;rw[Aa,Ax8,Aa];have hg2:mQ (zQ bits ((cst bits ch t (Ni bits ch t x) (i %ch) i).1,(cst bits ch t (Ni bits ch t x) (i %ch) i).2.1,(cst bits ch t (Ni bits ch t x) (i %ch) i).2.2) ((mx ch x).getD i 0))=(Ni bits ch t x).getD i 0:=hg.symm;rw[hg2,By (by rw[Ajr];simp;omega),Aa,htk,Aj (by omega) (by omega)];exact ih
theorem Aom(hr:inR bits x):JH (ch:Int) bits t x=some (Ni bits ch t x,0):=by
 have hl:=VM ch x;have h:=Ag1 hb ht h1 h6 hx1 hx4 x.length 0 Ay (by omega) (by have:=Au;omega);have e:Ay=(Ay-7)+1+1+1+1+1+1+1:=by have:=Au;omega
 have hs:Yo (ch:Int) bits t (mx ch x) 0 (List.replicate 6 ((0:Int),(0:Int32),((0:Int),(List.replicate 16 (0:Int32)),(List.replicate 16 (0:Int32)),()),()))=KO (ch:Int) bits (mx ch x) (cts bits ch t (Ni bits ch t x) 0):=by
  rw[Yo,e];obtain rfl|rfl|rfl:=hb<;>rfl
 rw[JH,JQ,Bgu hb h1 h6 hx1 hx4 hm hr,Aa,Aab (by decide),Aul ch x h1 h6 hm hx4,Aa];simp only;rw[Aab (by decide)];refine Bg6 hs ?_;exact h
end
theorem Apc(ch:Nat):KE=some (sts ch []):=by
 have e:Ay=(Ay-7)+1+1+1+1+1+1+1:=by have:=Au;omega
 rw[KE,JR,HQ,e];rfl
theorem Al6(c:List Bool){n:Nat}(h:n<=c.length):Rm (Ms c) 0 n=Ms (c.take n):=by
 have hl:(c.take n).length=n:=by rw[Ajr];omega
 apply Akq (by rw[Kj,AX,hl]);intro i hi;rw[sS,Bar,EX,EX];by_cases hlt:i<n
 ·rw[Aah hlt,tb,tb,List.getD_eq_getElem?_getD,List.getD_eq_getElem?_getD,List.getElem?_take,Aah hlt]
 ·rw[Aab hlt,Ahs (by omega)]
theorem Bfc(a:UInt8){k:Nat}(hk:k<8):Ev (Ck a k) (1:UInt8)=UInt8.ofNat (a.toNat/2^k %2):=by
 apply UInt8.toNat_inj.1;rw[Aqu,UInt8.toNat_and,Aih,Anz]
 show _&&&1=_;rw[Nat.and_one_is_mod];generalize a.toNat/2^k=X;omega
theorem Ano(E code:List Bool)(hE:E.length+code.length<=330000)(bk:Int->List (Int×Int×UInt64×UInt64×Unit)->Int->List UInt8->Bv)(V:List UInt32)(b f g:Int)(k:List (Int×Int×UInt64×UInt64×Unit)):∀(j o q:Nat),o+j=code.length->j<q->
  Gv bk V b f (code.length:Int) g k (Ms code) q (o:Int) ((E.length+o:Nat):Int) (Rm (Ms (E++code)) 0 (E.length+o))=bk (Ad g 1) k ((E.length+code.length:Nat):Int) (Ms (E++code))
 |j,o,0,_,h=>absurd h (Bhc _)
 |0,o,q+1,ho,_=>by
  obtain rfl:o=code.length:=by omega
  rw[Gv,Wb,Aab (by rw[Ae];simp),ED,WG,Al6 _ (by rw[Aav];omega),Ars (by rw[Aav];omega)]
 |j+1,o,q+1,ho,hq=>by
  generalize hP:Ms (E++code)=P;have hPo:Hn P (E.length+o)=Hn (Ms code) o:=by rw[<-hP,EX,EX,Aiz]
  have ih:=Ano E code hE bk V b f g k j (o+1) q (by omega) (by omega);rw[hP,<-Axy]at ih;generalize hn:E.length+o=n at*
  have hq8:Cv (n:Int) 8=((n/8:Nat):Int):=by rw[show(8:Int)=((8:Nat):Int)from rfl,mF (by omega)]
  have hr8:Ic (n:Int) 8=((n %8:Nat):Int):=by rw[show(8:Int)=((8:Nat):Int)from rfl,XT]
  have hqo:Cv (o:Int) 8=((o/8:Nat):Int):=by rw[show(8:Int)=((8:Nat):Int)from rfl,mF (by omega)]
  have hro:Ic (o:Int) 8=((o %8:Nat):Int):=by rw[show(8:Int)=((8:Nat):Int)from rfl,XT]
  have hroom:Gv bk V b f (code.length:Int) g k (Ms code) (q+1) (o:Int) (n:Int) (Rm P 0 n)=Vu (Gv bk V b f (code.length:Int) g k (Ms code) q) (code.length:Int) V g b f k (Ms code) (o:Int) (n:Int) (room P 0 n):=by
   rw[Gv,Wb,Aah (by rw[Ae];simp;omega),hr8,room];by_cases h0:n %8=0
   ·rw[Aah (by rw[Ar,h0];rfl),By (by rw[Kj];simp;omega),Aa,Aah h0]
   ·rw[Aab (by rw[Ar];simp;omega),Aab h0]
  have hcl:=AX code;have hgm:Ap (Ms code) ((o/8:Nat):Int)=some ((Ms code).getD (o/8) 0):=by
   rw[Bu (by omega),List.getD_eq_getElem?_getD,List.getElem?_eq_getElem (by omega)];rfl
  have hg:Ap (room P 0 n) ((n/8:Nat):Int)=some (UInt8.ofNat (Cb P (0+8*(n/8)) (n %8))):=by
   rw[Bu (by rw[Pu];omega),oO]
  have hbit:Ev (Ck ((Ms code).getD (o/8) 0) (o %8)) (1:UInt8)=UInt8.ofNat (Hn P n):=by
   rw[Bfc _ (by omega),hPo,Hn]
  have hlt:=tW P (0+8*(n/8)) (n %8+1) (by omega);have hsn:=oL P (0+8*(n/8)) (n %8);rw[show 0+8*(n/8)+n %8=n by omega]at hsn;have hnew:wU (UInt8.ofNat (Cb P (0+8*(n/8)) (n %8))) (Ea (UInt8.ofNat (Hn P n)) (n %8))=UInt8.ofNat (Cb P (0+8*(n/8)) (n %8+1)):=by
   rw[or8 (Qo _ _ _) (by rw[An1];omega) (by omega),hsn,An1 (2^(n %8))]
  rw[hroom,Vu,EE,hqo,hro,hq8,hr8,hgm,Aa,Aa,Bo (by rw[Dq];simp;omega),Aa,hg,Aa,Bo (by rw[Dq];simp;omega),Aa,Aa,Aa,
   show(GI.toZ ((o %8:Nat):Int)).toNat=o %8 from rfl,show(GI.toZ ((n %8:Nat):Int)).toNat=n %8 from rfl,hbit,hnew,Vv _ (by rw[Pu];omega),Aa,tO P 0 n 1 (by omega) (by omega),DQ,XL,Aj (by omega) (by omega),Aj (by omega) (by omega)]
  exact ih
theorem Bj1(l m:List UInt8)(h:l.length+m.length<=1000000):Nn [l,m]=some (l++m):=by
 have hF:Ay=(Ay-3)+1+1+1:=by have:=Au;omega
 rw[Nn,Qa,Pr];have g0:Ap [l,m] (0:Int)=some l:=rfl;have g1:Ap [l,m] (1:Int)=some m:=rfl;have l2:Ac [l,m]=2:=rfl;have h3:Jn [l,m] []=some (l++m):=by
  rw[Jn,Oq,Ox,hF,En,Gj,l2,Aah (by decide),g0,Aa,By (by simp;omega),Aa,Aqd,show Ad (0:Int) 1=1 by decide,
   En,Gj,l2,Aah (by decide),g1,Aa,By (by omega),Aa,show Ad (1:Int) 1=2 by decide,En,Gj,l2,Aab (by decide)]
  rfl
 rw[hF,Ew,Gy,l2,Aah (by decide),g0,Aa,Aj (by unfold Ac;omega) (by unfold Ac;omega),Aab (by rw[Ae,Ac];simp),show Ad (0:Int) 1=1 by decide,
  Ew,Gy,l2,Aah (by decide),g1,Aa,Aj (by unfold Ac;omega) (by unfold Ac;omega),Aab (by rw[Ae,Ac,Ac];simp;omega),show Ad (1:Int) 1=2 by decide,
  Ew,Gy,l2,Aab (by decide),Oy,Oz,Aab (by rw[Ae,Ac,Ac];simp;omega),Oo,Pc]
 have z:Am (0:Int) 0=0:=by decide
 have n0:(0:Int)+Ac l+Ac m=((l.length+m.length:Nat):Int):=by simp[Ac]
 rw[z,n0,Bp (by omega) (by omega),Int.sub_zero];by_cases hp:0<l.length+m.length
 ·rw[Aah (by rw[Aq];simp;omega),show jH (0:Int) 0 0=some ()from rfl,Aa,tD (by omega) (by omega),Aa,By (by simp;omega),Aa];rw[show jH (Ac ([]++List.replicate ((l.length+m.length:Nat):Int).toNat (0:UInt8))) 0 0=some () by rw[jH,Bo];simp[Ac];omega,Aa];simp only[YQ,Int.sub_self,Int.toNat_zero,Bey];exact h3
 ·rw[Aab (by rw[Aq];simp;omega)];exact h3
theorem Ajy(bits:Int)(ch:Nat)(h1:1<=ch)(h6:ch<=6)(V:List UInt32)(hV:V.length<=4000):∀(j i q:Nat),i+j=V.length->j<q->
  Jc V (ch:Int) bits q (i:Int) (sts ch (V.take i)) ((So ch V i).length:Int) (Ms (So ch V i))=some (Ms (So ch V V.length)++Te (Ec (Ms (So ch V V.length))).toNat 4,0)
 |j,i,0,_,h=>absurd h (Bhc _)
 |0,i,q+1,hi,_=>by
  obtain rfl:i=V.length:=by omega
  have hel:=lU ch V V.length;have hpl:=AX (So ch V V.length);have hlt:=(Ec (Ms (So ch V V.length))).toNat_lt;rw[Jc,Vz,Aab (by rw[Ae,Ac];simp),EM,YJ,wV _ (by omega),Aa];simp only;have e64:(UInt64.ofNat (Ec (Ms (So ch V V.length))).toNat).toNat=(Ec (Ms (So ch V V.length))).toNat:=aB (by omega);rw[Aab (by decide),Dn,show(4:Int)=((4:Nat):Int)from rfl,XQ _ 4 (by omega) (by omega) (by rw[e64];omega),Aa];simp only;rw[Aab (by decide),e64,Bj1 _ _ (by rw[Cf];omega),Aa]
 |j+1,i,q+1,hi,hq=>by
  have hc:i %ch<6:=Anx (Bhd _ (by omega)) h6;have hvl:(V.take i).length=i:=by rw[Ajr];omega
  have hel:=lU ch V i;have hk:=Ai8 ch (V.take i);have hcl:=dP (V.getD i 0) hk.1 hk.2;have ih:=Ajy bits ch h1 h6 V hV j (i+1) q (by omega) (by omega);have hvi:V.getD i 0=V[i]'(by omega):=by rw[List.getD_eq_getElem?_getD,List.getElem?_eq_getElem (by omega)];rfl
  have htk:V.take i++[V.getD i 0]=V.take (i+1):=by rw[hvi,Mg (by omega)]
  have hst:=Ai3 (ch:=ch) (v:=V.take i) hc;have hset:=Aqt (ch:=ch) (v:=V.take i) (V.getD i 0) hc (by rw[hvl]);have Bkx:jN ch (V.take i) (i %ch) (V.take i).length=now ch (V.take i):=Bcr (by rw[hvl]);rw[Bkx]at hst hset;rw[htk]at hset;have hdp:=Axv (k:=(now ch (V.take i)).1) (l:=(now ch (V.take i)).2.1) (s:=(now ch (V.take i)).2.2.1) (t:=(now ch (V.take i)).2.2.2) (lY ch (V.take i) _ _) (V.getD i 0);have hpc:=Ano (So ch V i) (Tg (now ch (V.take i)).1 (now ch (V.take i)).2.1 (V.getD i 0)) (by omega) (Jc V (ch:Int) bits q) V (ch:Int) bits (i:Int) (sts ch (V.take (i+1))) (Tg (now ch (V.take i)).1 (now ch (V.take i)).2.1 (V.getD i 0)).length 0 Ay (by omega) (by have:=Au;omega);rw[show(So ch V i).length+0=(So ch V i).length from rfl,Al6 _ (by rw[Aav];omega),Blj,show((0:Nat):Int)=0 from rfl]at hpc;rw[Jc,Vz,Aah (by rw[Ae,Ac];simp;omega),sW (by omega),Aa,Aa,Bo (by rw[Ak];simp;omega),Aa,XT,hst,Aa,Aa];refine Bg6 (congrArg (λo=>Option.bind o _) hdp) ?_;rw[Aa];simp only;rw[Aab (by decide),Aa,Aa];refine Bg6 (congrArg (λo=>Option.bind o _) hset) ?_;rw[Aa];refine Bg6 hpc ?_;rw[Aj (by omega) (by omega)];rw[So,Aav]at ih;exact ih
theorem Ahn{bits:Int}{ch:Nat}{t x:List Int32}(hb:Bt bits)(ht:t.length=16)(h1:1<=ch)(h6:ch<=6)(hx1:1<=x.length)(hx4:x.length<=4000)(hm:x.length %ch=0)(hr:inR bits x):
  Ui (ch:Int) bits t x=some (Rz bits ch t x,0):=by
 have hV:=Acm bits ch t x;have h:=Ajy bits ch h1 h6 (Ni bits ch t x) (by omega) (Ni bits ch t x).length 0 Ay (by omega) (by have:=Au;omega);have e0:Ms (So ch (Ni bits ch t x) 0)=[]:=by simp[So,Ms]
 have e1:((So ch (Ni bits ch t x) 0).length:Int)=0:=rfl;rw[e0,e1,Bey,hV,show((0:Nat):Int)=0 from rfl]at h;rw[Ui,HK,Aom hb ht h1 h6 hx1 hx4 hm hr,Aa];simp only;rw[Aab (by decide),Apc ch,Aa,Rz,XW,EB];exact h
theorem Bf3{r:Nat}(h1:1<=r)(h:r<=1048576):Rg (r:Int)=some ((Ao r:Int),0):=by
 have hv:=Acy h;have e:Bn (r:Int) 256=Bn 256 (r:Int):=by rw[Hh (by omega) (by omega),Hh (by omega) (by omega)];omega
 rw[Rg,Aab (by simp[Ae,Aq];omega),e];have hq:0<=Cv (Bn 256 (r:Int)) 245:=by
  have e2:Bn 256 (r:Int)=((256*r:Nat):Int):=by rw[Hh (by omega) (by omega)];omega
  rw[e2,show(245:Int)=((245:Nat):Int)from rfl,mF (by omega)];omega
 rw[Ais]at hv;by_cases hz:Cv (Bn 256 (r:Int)) 245=0
 ·rw[Aah (by rw[Ar];simpa using hz)];rw[hz]at hv;have:(1:Int)=(Ao r:Int):=by omega
  rw[this]
 ·rw[Aab (by rw[Ar];simpa using hz)];have:Cv (Bn 256 (r:Int)) 245=(Ao r:Int):=by omega
  rw[this]
structure ClipOk (c w r n:Nat) (x:List Int32):Prop where
 ch:1<=c/\c<=6
 bits:Bt (w:Int)
 rate:1<=r/\r<=1048576
 cnt:1<=n/\n<=4000/c
 len:x.length=n*c
 fr:(n-1)/Ao r+1<=1000
 rng:inR (w:Int) x
theorem ClipOk.le{c w r n:Nat}{x:List Int32}(h:ClipOk c w r n x):n<=4000/\n*c<=4000/\1<=x.length/\x.length<=4000:=by
 have h1:=Aiy c h.cnt.2;have h2:=Bgf 4000 c;have h3:=As2 4000 c;have h4:=Nat.mul_pos h.cnt.1 h.ch.1;have h5:=h.len;have:=h.cnt;omega
theorem ClipOk.w3{c w r n:Nat}{x:List Int32}(h:ClipOk c w r n x):w=8\/w=16\/w=24:=by
 have:=h.bits;unfold Bt at this;omega
theorem ClipOk.shape{c w r n:Nat}{x:List Int32}(h:ClipOk c w r n x)(f:Nat)(hf:f=1\/f=2):Gf f c w r n=true:=by
 have:=h.w3;have:=h.ch;have:=h.rate;have:=h.cnt;simp only[Gf,Abv];omega
theorem ClipOk.fit{c w r n:Nat}{x:List Int32}(h:ClipOk c w r n x):BH c r n=true:=by
 have:=h.cnt;have:=h.fr;simp only[BH,Abv];omega
theorem Bih{bits:Int}(h:Bt bits){l:List Int32}(hl:l.length<=4000):Ax bits l=some 0\/Ax bits l=some 16:=by
 have hh:=RI bits;have key:∀(j i q:Nat),i+j=l.length->j<q->Ba l (hB bits) q (i:Int)=some 0\/Ba l (hB bits) q (i:Int)=some 16:=by
  intro j
  induction j with
  |zero=>
   intro i q hi hq;obtain⟨q,rfl⟩:∃q',q=q'+1:=⟨q-1,by omega⟩;rw[Ba,Cm,Aab (by rw[Ae,Ac];simp;omega)];exact .inl rfl
  |succ j ih=>
   intro i q hi hq;obtain⟨q,rfl⟩:∃q',q=q'+1:=⟨q-1,by omega⟩;have ih:=ih (i+1) q (by omega) (by omega);have hi1:Ad (i:Int) 1=((i+1:Nat):Int):=by rw[Aj (by omega) (by omega)];omega
   rw[Ba,Cm,Aah (by rw[Ae,Ac];simp;omega),Bu (by omega),Aa,Aa,hi1];split
   ·exact .inr rfl
   ·split
    ·exact .inr rfl
    ·exact ih
 have hk:=key l.length 0 Ay (by omega) (by have:=Au;omega);rw[Ax,De,VJ h,Aa,Aab (by rw[Ar];simp;omega),Aab (by rw[Aq,Ac];simp;omega)];exact hk
theorem uY{bits:Int}(h:¬Bt bits):Jy bits=some 0/\Vi bits=some (0,0,2):=by
 unfold Bt at h;constructor
 ·rw[Jy,Aab (by rw[Ar,Av2];omega),Aab (by rw[Ar,Av2];omega),Aab (by rw[Ar,Av2];omega)]
 ·have e:(geq bits 24)=false:=by rw[Ar,beq_eq_false_iff_ne];omega
  rw[Vi,UO,Aab (by rw[Ar,Av2];omega),Aab (by rw[Ar,Av2];omega),e,WA,lF,Aab (by decide)]
theorem wH{r:Nat}(h:r<=1048576):∀(j n q:Nat) (acc:List Int),n<=4000->n<=j->j<q->acc.length+n<=10000->
  Kk (Ao r:Int) q (n:Int) acc=some (if 1000<(acc++(if n=0 then []else Ah (Ao r) n)).length then([],4)else(acc++(if n=0 then []else Ah (Ao r) n),0))
 |j,n,0,acc,_,_,h,_=>absurd h (Bhc _)
 |j,n,q+1,acc,hn,hj,hq,ha=>by
  have hp:=Fh r;by_cases h0:n=0
  ·subst h0;rw[Aah rfl,Aot,Kk,Ti,Aab (by rw[Aq];simp),CH,SQ,Aq,Ac];by_cases hk:1000<acc.length
   ·rw[Aah hk,Aah (by simp;omega)]
   ·rw[Aab hk,Aab (by simp;omega)]
  ·obtain⟨j,rfl⟩:∃j',j=j'+1:=⟨j-1,by omega⟩;rw[Kk,Ti,Aah (by rw[Aq];simp;omega),By (by simp;omega),Aa,NP];by_cases hs:n<=Ao r
   ·rw[show min (n:Int) (Ao r:Int)=(n:Int) by omega,Bp (by omega) (by omega),Int.sub_self];have ih:=wH h j 0 q (acc++[(n:Int)]) (by omega) (by omega) (by omega) (by simp;omega);rw[Aah rfl,Aot]at ih;rw[Aab h0,qN hs (by omega)];exact ih
   ·rw[show min (n:Int) (Ao r:Int)=(Ao r:Int) by omega,Bp (by omega) (by omega),show(n:Int)-(Ao r:Int)=((n-Ao r:Nat):Int) by omega];have e:acc++Ah (Ao r) n=(acc++[(Ao r:Int)])++Ah (Ao r) (n-Ao r):=by rw[yZ hp (show Ao r<n by omega)];simp
    have ih:=wH h j (n-Ao r) q (acc++[(Ao r:Int)]) (by omega) (by omega) (by omega) (by simp;omega);rw[Aab (show ¬n-Ao r=0 by omega),<-e]at ih;rw[Aab h0];exact ih
theorem Aoi(C W R:Int)(x:List Int32)(hlen:x.length<4611686018427387904):(Dg C W R x=some 8/\Ex C W R x=some 8)\/
  (∃c w r n:Nat,C=(c:Int)/\W=(w:Int)/\R=(r:Int)/\ClipOk c w r n x/\Dg C W R x=some 0/\Ex C W R x=some 0):=by
 have Afd:∀e:Int,e≠0->Cp C W x=some e->Dg C W R x=some 8:=by
  intro e he h;rw[Dg,Iy,Aa];simp only;rw[h,Aa,Aah (by rw[Ak];simpa using he)]
 by_cases hC:C<1
 ·refine .inl ⟨Afd 2 (by decide) ?_,?_⟩
  ·rw[Cp,Df,Aah (by simp[Ae,Aq];omega),Aa,Aah (by decide)]
  ·rw[Ex,Aah (by rw[Ae];simpa using hC)]
 obtain⟨c,rfl⟩:=Aju (show 0<=C by omega);have hc1:1<=c:=by omega
 have hq:Cv (Ac x) (c:Int)=((x.length/c:Nat):Int):=by rw[Ac,mF (by omega)]
 have hr0:Ic (Ac x) (c:Int)=((x.length %c:Nat):Int):=by rw[Ac,XT]
 have Ayb:(∀m:Nat,x.length=m*c->MO (c:Int) W R x (m:Int)=some 8)->Ex (c:Int) W R x=some 8:=by
  intro h;rw[Ex,Aab (by rw[Ae];simpa using hC),Bo (by rw[Ak];simp;omega),Aa,hr0];by_cases hm:x.length %c=0
  ·have hx:x.length=x.length/c*c:=by have:=Bkh x.length c;rw[hm,An1]at this;omega
   rw[hm,Aab (by decide),Aa,hq,h _ hx,Aa,Aah (by decide)]
  ·rw[Aah (by rw[Ak];simp;omega)]
 by_cases h6:6<c
 ·refine .inl ⟨Afd 2 (by decide) ?_,Ayb λm hm=>?_⟩
  ·rw[Cp,Df,Aah (by simp[Ae,Aq];omega),Aa,Aah (by decide)]
  ·rw[MO,NQ,Aa];simp only;have:Hl (c:Int) W=some 2:=by
    rw[Hl];by_cases hb:Bt W
    ·rw[Ai5 hb,Aa];simp only;rw[Aah (by simp[Ak,Ae,Aq];omega)]
    ·rw[(uY hb).2,Aa];simp only;rw[Aah (by simp[Ak])]
   rw[this,Aa,Aah (by simp[Ak])]
 by_cases hb:Bt W
 rotate_left
 ·refine .inl ⟨Afd 2 (by decide) ?_,Ayb λm hm=>?_⟩
  ·rw[Cp,Df,Aab (by simp[Ae,Aq];omega),(uY hb).1,Aa,Aah (by decide),Aa,Aah (by decide)]
  ·rw[MO,NQ,Aa];simp only;have:Hl (c:Int) W=some 2:=by
    rw[Hl,(uY hb).2,Aa];simp only;rw[Aah (by simp[Ak])]
   rw[this,Aa,Aah (by simp[Ak])]
 have hhB:=RI W;have e20:Df (c:Int) W=some 0:=by
  rw[Df,Aab (by simp[Ae,Aq];omega),VJ hb,Aa,Aab (by rw[Ar];simp;omega)]
 have hq4:=Aam hc1 (show c<=6 by omega);have ecf:=Aw5 hb hc1 (show c<=6 by omega);have As4:∀m:Nat,MO (c:Int) W R x (m:Int)=if m<1\/4000/c<m then some 8 else Option.bind (Jp R (m:Int)) λy=>if(Bi y.2 0)=true then some 8 else some 0:=by
  intro m;rw[MO,NQ,Aa];simp only;rw[ecf,Aa];by_cases hm:m<1
  ·rw[Aah (by simp[Ak,Ae];omega),Aah (.inl hm)]
  ·rw[Aab (by simp[Ak,Ae];omega),Bo (by rw[Ak];simp;omega),Aa,hq4];by_cases hm2:4000/c<m
   ·rw[Aah (by rw[Aq,Abv,gt_iff_lt,Int.ofNat_lt];exact hm2),Aah (.inr hm2)]
   ·rw[Aab (by rw[Aq,Abv,gt_iff_lt,Int.ofNat_lt];exact hm2),Aab (by omega)]
 by_cases hx4:4000<x.length
 ·refine .inl ⟨Afd 4 (by decide) ?_,Ayb λm hm=>?_⟩
  ·have:Ax W x=some 4:=by
    rw[Ax,De,VJ hb,Aa,Aab (by rw[Ar];simp;omega),Aah (by rw[Aq,Ac];simp;omega)]
   rw[Cp,e20,Aa,Aab (by decide),this,Aa,Aah (by decide),Aa]
  ·rw[As4,Aah];refine .inr ?_;rw[Nat.div_lt_iff_lt_mul (by omega)];omega
 have hx4:x.length<=4000:=by omega
 have hsame:=gN hb x hx4;rcases Bih hb hx4 with h18|h18
 rotate_left
 ·refine .inl ⟨Afd 16 (by decide) ?_,?_⟩
  ·rw[Cp,e20,Aa,Aab (by decide),h18,Aa,Aah (by decide),Aa]
  ·rw[Ex,Aab (by rw[Ae];simpa using hC),Bo (by rw[Ak];simp;omega),Aa,hr0];by_cases hm:x.length %c=0
   ·rw[hm,Aab (by decide),Aa,hq,As4];split
    ·rw[Aa,Aah (by decide)]
    ·rename_i hh;by_cases hR:1<=R/\R<=1048576
     ·obtain⟨r,rfl⟩:=Aju (show 0<=R by omega);have hd:=As2 x.length c;rw[iP (by omega) (by omega) (by omega) (by omega),Aa];split
      ·rw[Aah (by decide),Aa,Aah (by decide)]
      ·rw[Aab (by simp[Ak]),Aa,Aab (by decide),hsame,h18,Aa,Aah (by decide)]
     ·rw[Jp,Vw,Aah (by simp[Ae,Aq];omega),Aa];simp only;rw[Aah (by decide),Aa];simp only;rw[Aah (by decide),Aa,Aah (by decide)]
   ·rw[Aah (by rw[Ak];simp;omega)]
 by_cases hx1:x.length<1
 ·refine .inl ⟨Afd 2 (by decide) ?_,Ayb λm hm=>?_⟩
  ·rw[Cp,e20,Aa,Aab (by decide),h18,Aa,Aab (by decide),Aah (by rw[Ae,Ac];simp;omega)]
  ·have h0:m*c=0:=by omega
   have:m=0:=by rcases Nat.mul_eq_zero.1 h0 with h|h<;>omega
   rw[As4,Aah (.inl (by omega))]
 have hA:x.length %c=0->Cp (c:Int) W x=some 0:=by
  intro hm;rw[Cp,e20,Aa,Aab (by decide),h18,Aa,Aab (by decide),Aab (by rw[Ae,Ac];simp;omega),Bo (by rw[Ak];simp;omega),Aa,hr0,hm,Aab (by decide)]
 by_cases hm:x.length %c=0
 rotate_left
 ·refine .inl ⟨Afd 2 (by decide) ?_,?_⟩
  ·rw[Cp,e20,Aa,Aab (by decide),h18,Aa,Aab (by decide),Aab (by rw[Ae,Ac];simp;omega),Bo (by rw[Ak];simp;omega),Aa,hr0,Aah (by rw[Aq];simp;omega)]
  ·rw[Ex,Aab (by rw[Ae];simpa using hC),Bo (by rw[Ak];simp;omega),Aa,hr0,Aah (by rw[Ak];simp;omega)]
 have hxn:x.length=x.length/c*c:=by have:=Bkh x.length c;rw[hm,An1]at this;omega
 generalize hN:x.length/c=n at*
 have hn1:1<=n:=by
  by_cases h0:n=0
  ·rw[h0]at hxn;omega
  ·omega
 have hn4:n<=4000/c:=by rw[<-hN];exact Nat.div_le_div_right hx4
 have hn4':n<=4000:=Bld hn4 (As2 _ _);have e21:Dr (c:Int) W (n:Int)=some 0:=by
  rw[Dr,e20,Aa,Aab (by simp[Ak,Ae];omega),Bo (by rw[Ak];simp;omega),Aa,hq4,Aab (by rw[Aq,Abv,gt_iff_lt,Int.ofNat_lt];omega)]
 have Ban:∀z e:Int,Mi R (n:Int)=some (z,e)->Dg (c:Int) W R x=some (if e=0 then 0 else 8):=by
  intro z e hz;rw[Dg,Iy,Aa];simp only;rw[hA hm,Aa,Aab (by decide),Bo (by rw[Ak];simp;omega),Aa,hq,HR,Iy,Aa];simp only;rw[e21,Aa,Aab (by decide),hz,Aa,Aa,Ar];by_cases he:e=0
  ·subst he;rfl
  ·rw[Aab he,Aah (by simpa using he)]
 have Ahl:Ex (c:Int) W R x=Option.bind (Option.bind (Jp R (n:Int)) λy=>if(Bi y.2 0)=true then some 8 else some 0) λg=>if(Bi g 0)=true then some g else some 0:=by
  rw[Ex,Aab (by rw[Ae];simpa using hC),Bo (by rw[Ak];simp;omega),Aa,hr0,hm,Aab (by decide),Aa,hq,As4,Aab (by omega),hsame,h18];rfl
 by_cases hR:1<=R/\R<=1048576
 rotate_left
 ·refine .inl ⟨?_,?_⟩
  ·refine Ban 0 2 ?_;rw[Mi,BB,Tr,Rg,Aah (by simp[Ae,Aq];omega),Aa];simp only;rw[Aah (by simp[Ak]),Aa];rfl
  ·rw[Ahl,Jp,Vw,Aah (by simp[Ae,Aq];omega),Aa];simp only;rw[Aah (by decide),Aa];simp only;rw[Aah (by decide),Aa,Aah (by decide)]
 obtain⟨r,rfl⟩:=Aju (show 0<=R by omega);have hl:=wH (r:=r) (by omega) n n Ay [] hn4' (An0 _) (by have:=Au;omega) (by simp;omega);rw[Aab (show ¬n=0 by omega),Aqd,AB]at hl;have hcount:∃z:Int,Mi (r:Int) (n:Int)=some (z,if 1000<(n-1)/Ao r+1 then 4 else 0):=by
  rw[Mi,BB,Tr,Bf3 (by omega) (by omega),Aa];simp only;rw[Aab (by simp[Ak,Ae,Aq];omega),BW,hl,Aa];split<;>exact⟨_,rfl⟩
 obtain⟨z,hz⟩:=hcount;have h24:=Ban z _ hz;rw[iP (by omega) (by omega) hn1 hn4',Aa]at Ahl;by_cases hk:1000<(n-1)/Ao r+1
 ·rw[Aah hk]at h24 Ahl;exact .inl ⟨h24,Ahl⟩
 ·rw[Aab hk]at h24 Ahl;have hw:∃w:Nat,W=(w:Int):=by
   rcases hb with rfl|rfl|rfl
   ·exact⟨8,rfl⟩
   ·exact⟨16,rfl⟩
   ·exact⟨24,rfl⟩
  obtain⟨w,rfl⟩:=hw;exact .inr ⟨c,w,r,n,rfl,rfl,rfl,⟨⟨hc1,by omega⟩,hb,by omega,⟨hn1,hn4⟩,hxn,by omega,pH hb hx4 h18⟩,h24,Ahl⟩
theorem Aui(C W R:Int){x:List Int32}(h:4000<x.length):Dg C W R x=some 8:=by
 have key:∃e:Int,e≠0/\Cp C W x=some e:=by
  rw[Cp,Df];by_cases h1:((Cr C 1)||(Ez C 6))=true
  ·rw[Aah h1,Aa,Aah (by decide)];exact⟨2,by decide,rfl⟩
  ·rw[Aab h1];by_cases hb:Bt W
   ·have hh:=RI W;have h18:Ax W x=some 4:=by
     rw[Ax,De,VJ hb,Aa,Aab (by rw[Ar];simp;omega),Aah (by rw[Aq,Ac];simp;omega)]
    rw[VJ hb,Aa,Aab (by rw[Ar];simp;omega),Aa,Aab (by decide),h18,Aa,Aah (by decide),Aa];exact⟨4,by decide,rfl⟩
   ·rw[(uY hb).1,Aa,Aah (by decide),Aa,Aah (by decide)];exact⟨2,by decide,rfl⟩
 obtain⟨e,he,h1⟩:=key;rw[Dg,Iy,Aa];simp only;rw[h1,Aa,Aah (by rw[Ak];simpa using he)]
theorem Am0(C W R:Int)(x:List Int32):(Dg C W R x=some 8/\ (x.length<4611686018427387904->Ex C W R x=some 8))\/
  (∃c w r n:Nat,C=(c:Int)/\W=(w:Int)/\R=(r:Int)/\ClipOk c w r n x/\Dg C W R x=some 0/\Ex C W R x=some 0):=by
 by_cases hx:x.length<4611686018427387904
 ·rcases Aoi C W R x hx with⟨h1,h2⟩|h
  ·exact .inl ⟨h1,λ_=>h2⟩
  ·exact .inr h
 ·exact .inl ⟨Aui C W R (by omega),λh=>absurd h hx⟩
def vQ(f c w r n:Nat):List UInt8:=Pg++Te f 2++Te c 2++Te w 2++Te r 4++Te n 4
def GG(f c w r n:Nat):List UInt8:=vQ f c w r n++Te (Ec (vQ f c w r n)).toNat 4
theorem dN(f c w r n:Nat):(vQ f c w r n).length=18:=by simp only[vQ,Pg,Aav,Cf];rfl
theorem dI(f c w r n:Nat):(GG f c w r n).length=22:=by rw[GG,Aav,dN,Cf]
theorem Aas(b f g h k:Int)(m v w q:Nat)(a:List UInt8)(hm:m<5)(hv:Ap ([b,f,g,h,k]:List Int) (m:Int)=some (v:Int))(hw:Ap ([2,2,2,4,4]:List Int) (m:Int)=some (w:Int))(h1:1<=w)(h8:w<=8)(hlt:v<256^w)(h64:v<18446744073709551616)(ha:a.length<=100):
  Nt b f g h k (q+1) (m:Int) a=Nt b f g h k q ((m+1:Nat):Int) (a++Te v w):=by
 have e64:(UInt64.ofNat v).toNat=v:=aB (by omega);have hi1:Ad (m:Int) 1=((m+1:Nat):Int):=by rw[Aj (by omega) (by omega)];omega
 rw[Nt,DM,Aah (by rw[Ae];simp;omega),hv,Aa,hw,Aa,Xd,XQ _ w h1 h8 (by rw[e64];exact hlt),Aa];simp only;rw[By (by rw[Cf];omega),Aa,hi1,e64]
theorem Ah1{f c w r n:Nat}(h1:Gf f c w r n=true)(h2:BH c r n=true):TO (f:Int) (c:Int) (w:Int) (r:Int) (n:Int)=some (GG f c w r n,0):=by
 have hs:(f=1\/f=2)/\ (1<=c/\c<=6)/\ (w=8\/w=16\/w=24)/\ (1<=r/\r<=1048576)/\1<=n:=by simpa only[Gf,Abv]using h1
 have hn:n<=4000:=by
  simp only[BH,Abv]at h2;have:=As2 4000 c;omega
 have hck:On (f:Int) (c:Int) (w:Int) (r:Int) (n:Int)=some 0:=by
  rw[On,YZ,Aa,h1,Aab (by decide),oN h1,Aa,h2,Aab (by decide)]
 have hF:Ay=(Ay-6)+1+1+1+1+1+1:=by have:=Au;omega
 have hlt:=(Ec (vQ f c w r n)).toNat_lt;have e64:(UInt64.ofNat (Ec (vQ f c w r n)).toNat).toNat=(Ec (vQ f c w r n)).toNat:=aB (by omega);have hfin:DK (vQ f c w r n)=some (GG f c w r n,0):=by
  rw[DK,jM,wV _ (by rw[dN];omega),Aa];simp only;rw[Dn,show(4:Int)=((4:Nat):Int)from rfl,XQ _ 4 (by omega) (by omega) (by rw[e64];omega),Aa];simp only;rw[By (by rw[dN,Cf];omega),Aa,e64];rfl
 rw[TO,SD,hck,Aa,Aab (by decide),SB,hF];have s0:=Aas (f:Int) (c:Int) (w:Int) (r:Int) (n:Int) 0 f 2 ((Ay-6)+1+1+1+1+1) Pg (by omega) rfl rfl (by omega) (by omega) (by omega) (by omega) (by decide);have s1:=Aas (f:Int) (c:Int) (w:Int) (r:Int) (n:Int) 1 c 2 ((Ay-6)+1+1+1+1) (Pg++Te f 2) (by omega) rfl rfl (by omega) (by omega) (by omega) (by omega) (by simp[Cf,Pg]);have s2:=Aas (f:Int) (c:Int) (w:Int) (r:Int) (n:Int) 2 w 2 ((Ay-6)+1+1+1) (Pg++Te f 2++Te c 2) (by omega) rfl rfl (by omega) (by omega) (by omega) (by omega) (by simp[Cf,Pg]);have s3:=Aas (f:Int) (c:Int) (w:Int) (r:Int) (n:Int) 3 r 4 ((Ay-6)+1+1) (Pg++Te f 2++Te c 2++Te w 2) (by omega) rfl rfl (by omega) (by omega) (by omega) (by omega) (by simp[Cf,Pg]);have s4:=Aas (f:Int) (c:Int) (w:Int) (r:Int) (n:Int) 4 n 4 ((Ay-6)+1) (Pg++Te f 2++Te c 2++Te w 2++Te r 4) (by omega) rfl rfl (by omega) (by omega) (by omega) (by omega) (by simp[Cf,Pg]);refine s0.trans (s1.trans (s2.trans (s3.trans (s4.trans ?_))));rw[Nt,DM,Aab (by decide)];exact hfin
def YR(l:List Int):List UInt8:=l.flatMap λx=>Te x.toNat 4
def aR(l:List Int):List UInt8:=YR l++Te (Ec (YR l)).toNat 4
theorem PG(l:List Int):(YR l).length=4*l.length:=by
 induction l with
 |nil=>rfl
 |cons x l ih=>rw[YR,List.flatMap_cons,Aav,Cf,show(l.flatMap λx=>Te x.toNat 4)=YR l from rfl,ih,Anu];omega
theorem nJ(l:List Int):(aR l).length=4*l.length+4:=by rw[aR,Aav,PG,Cf]
theorem Auh(l:List Int)(x:Int):YR (l++[x])=YR l++Te x.toNat 4:=by simp[YR]
theorem yA(l:List Int)(hl:l.length<=1000)(h5:∀x∈l,5<=x/\x<=100000):∀(j i q:Nat),i+j=l.length->j<q->Ul l q (i:Int) (YR (l.take i))=some (aR l,0)
 |j,i,0,_,h=>absurd h (Bhc _)
 |0,i,q+1,hi,_=>by
  have hlt:=(Ec (YR l)).toNat_lt;have e64:(UInt64.ofNat (Ec (YR l)).toNat).toNat=(Ec (YR l)).toNat:=aB (by omega);rw[Ul,GQ,Aab (by rw[Ae,Ac];simp;omega),Ars (by omega),RS,SC,wV _ (by rw[PG];omega),Aa];simp only;rw[Dn,show(4:Int)=((4:Nat):Int)from rfl,XQ _ 4 (by omega) (by omega) (by rw[e64];omega),Aa];simp only;rw[By (by rw[PG,Cf];omega),Aa,e64];rfl
 |j+1,i,q+1,hi,hq=>by
  have ih:=yA l hl h5 j (i+1) q (by omega) (by omega);obtain⟨x5,x6⟩:=h5 l[i] (Am7 _);obtain⟨v,hv⟩:=Aju (show 0<=l[i] by omega);have e64:(UInt64.ofNat v).toNat=v:=aB (by omega);have hi1:Ad (i:Int) 1=((i+1:Nat):Int):=by rw[Aj (by omega) (by omega)];omega
  rw[Ul,GQ,Aah (by rw[Ae,Ac];simp;omega),Bu (by omega),Aa,hv,Xd,show(4:Int)=((4:Nat):Int)from rfl,XQ _ 4 (by omega) (by omega) (by rw[e64];omega),Aa];simp only;rw[By (by rw[PG,Cf,Ajr];omega),Aa,RH,jJ,hi1,e64];rw[Mg (by omega),Auh,hv,Ahr]at ih;exact ih
theorem Amp(l:List Int):ZP l=some (if Ud l=true then(aR l,0)else([],8)):=by
 rw[ZP,WR,VA,Aa];by_cases h:Ud l=true
 ·rw[Aah h,Aah h,Aab (by decide)];simp only[Ud,Ada,Abv]at h;obtain⟨⟨h1,h2⟩,h3⟩:=h;have h4:=(DG l 100000 (by omega)).1 h3;have h6:=wZ h4.1;have hl:=yA l h2 (λx hx=>⟨h4.1 x hx,by have:=h6 x hx;omega⟩) l.length 0 Ay (by omega) (by have:=Au;omega);exact hl
 ·rw[Aab h,Aab h,Aah (by decide)]
theorem Agq(l:List LB)(hl:l.length<=100000)(hf:l.flatten.length<=1000000):∀(j i q:Nat),i+j=l.length->j<q->Uv l q (i:Int) (l.take i).flatten=some l.flatten
 |j,i,0,_,h=>absurd h (Bhc _)
 |0,i,q+1,hi,_=>by
  rw[Uv,JK,Aab (by rw[Ae,Ac];simp;omega),Ars (by omega)];rfl
 |j+1,i,q+1,hi,hq=>by
  have ih:=Agq l hl hf j (i+1) q (by omega) (by omega);have hi1:Ad (i:Int) 1=((i+1:Nat):Int):=by rw[Aj (by omega) (by omega)];omega
  have hsn:(l.take (i+1)).flatten=(l.take i).flatten++l[i]:=by rw[Mg (by omega),Bjo];simp
  have hsp:l.flatten=(l.take (i+1)).flatten++(l.drop (i+1)).flatten:=by rw[<-Bjo,Bax]
  have hle:((l.take i).flatten).length+(l[i]).length<=1000000:=by
   rw[hsp,Aav,hsn,Aav]at hf;omega
  rw[Uv,JK,Aah (by rw[Ae,Ac];simp;omega),Bu (by omega),Aa,By (by omega),Aa,hi1,<-hsn];exact ih
theorem join_eq(l:List LB)(hl:l.length<=100000)(hf:l.flatten.length<=1000000):mJ l=some l.flatten:=by
 have h:=Agq l hl hf l.length 0 Ay (by omega) (by have:=Au;omega);exact h
def DP(c:Nat):List Int32->List Int->List (List Int32)
 |_,[]=>[]
 |x,m::l=>x.take (m.toNat*c)::DP c (x.drop (m.toNat*c)) l
theorem rA(c:Nat):∀(l:List Int) (x:List Int32),(DP c x l).length=l.length
 |[],x=>rfl
 |m::l,x=>by rw[DP,Anu,Anu,rA c l]
theorem yU(c:Nat):∀(l:List Int) (x:List Int32),(∀m∈l,0<=m)->x.length=l.sum.toNat*c-> (DP c x l).flatten=x
 |[],x,_,h=>by
  have:x=[]:=Bee (by simpa using h);rw[this];rfl
 |m::l,x,h0,h=>by
  have hm:=h0 m Avz;have hl:0<=l.sum:=by
   have:∀l:List Int,(∀m∈l,0<=m)->0<=l.sum:=by
    intro l
    induction l with
    |nil=>intro _;simp
    |cons a l ih=>intro h;have:=ih (λm hm=>h m (Anw _ hm));have:=h a Avz;rw[Av4];omega
   exact this l λm hm=>h0 m (Anw _ hm)
  rw[Av4,show(m+l.sum).toNat=m.toNat+l.sum.toNat by omega,Av1]at h;have ih:=yU c l (x.drop (m.toNat*c)) (λm hm=>h0 m (Anw _ hm)) (by rw[Akm];omega);rw[DP,Bja,ih,Bax]
theorem qR(c:Nat)(x:List Int32)(hx:x.length<=4000):∀(l:List Int) (a:Nat),(∀m∈l,1<=m)->a+l.sum.toNat*c=x.length->Sc (c:Int) x l (a:Int)=some (DP c (x.drop a) l)
 |[],a,_,_=>rfl
 |m::l,a,h1,ha=>by
  have hm:=h1 m Avz;have hl:=h1;have hs:0<=l.sum:=by
   have:∀l:List Int,(∀m∈l,1<=m)->0<=l.sum:=by
    intro l
    induction l with
    |nil=>intro _;simp
    |cons a l ih=>intro h;have:=ih (λm hm=>h m (Anw _ hm));have:=h a Avz;rw[Av4];omega
   exact this l λm hm=>h1 m (Anw _ hm)
  obtain⟨k,rfl⟩:=Aju (show 0<=m by omega);rw[Av4,show((k:Int)+l.sum).toNat=k+l.sum.toNat by omega,Av1]at ha;have hkc:Bn (k:Int) (c:Int)=((k*c:Nat):Int):=by rw[Hh (by rw[<-Av5];omega) (by rw[<-Av5];omega),<-Av5]
  have hadd:Ad (a:Int) ((k*c:Nat):Int)=((a+k*c:Nat):Int):=by rw[Aj (by omega) (by omega)];omega
  have ih:=qR c x hx l (a+k*c) (λm hm=>h1 m (Anw _ hm)) (by omega);rw[Sc,hkc,hadd,Ut (by omega) (by omega) (by omega),Aa,ih,Aa,DP,Ahr,Ahr,Ahr,Biu,Bli,Bga]
theorem Arv(w c:Nat)(hb:Bt (w:Int))(h1:1<=c)(h6:c<=6)(t:List Int32)(ht:t.length=16):∀(xs:List (List Int32)) (o:List LB),o.length+xs.length<=10000-> (∀y∈xs,1<=y.length/\y.length<=4000/\y.length %c=0/\inR (w:Int) y)->
  Sy (c:Int) (w:Int) t xs o=some (o++xs.map (Rz (w:Int) c t),0)
 |[],o,_,_=>by rw[Sy];simp
 |x::xs,o,ho,h=>by
  obtain⟨a1,a2,a3,a4⟩:=h x Avz;rw[Anu]at ho;have ih:=Arv w c hb h1 h6 t ht xs (o++[Rz (w:Int) c t x]) (by simp;omega) (λy hy=>h y (Anw _ hy));rw[Sy,Ahn hb ht h1 h6 a1 a2 a3 a4,Aa,Aab (by simp[Ak]),By (by simp;omega),Aa,ih,Bg3];simp
theorem rD(c:Nat)(h1:1<=c):∀(l:List Int) (x:List Int32),(∀m∈l,1<=m)->x.length=l.sum.toNat*c->∀y∈DP c x l,1<=y.length/\y.length<=x.length/\y.length %c=0/\∀v∈y,v∈x
 |[],x,_,_=>λy hy=>by simp[DP]at hy
 |m::l,x,hm,hx=>by
  have hm1:=hm m Avz;have hl:0<=l.sum:=by
   have:∀l:List Int,(∀m∈l,1<=m)->0<=l.sum:=by
    intro l
    induction l with
    |nil=>intro _;simp
    |cons a l ih=>intro h;have:=ih (λm hm=>h m (Anw _ hm));have:=h a Avz;rw[Av4];omega
   exact this l λm hm'=>hm m (Anw _ hm')
  rw[Av4,show(m+l.sum).toNat=m.toNat+l.sum.toNat by omega,Av1]at hx;have hpos:1<=m.toNat*c:=Nat.mul_pos (by omega) h1;intro y hy;rw[DP,List.mem_cons]at hy;rcases hy with rfl|hy
  ·have hlen:(x.take (m.toNat*c)).length=m.toNat*c:=by rw[Ajr];omega
   rw[hlen];exact⟨hpos,by omega,Bhi _ _,λv hv=>Bjy hv⟩
  ·obtain⟨a1,a2,a3,a4⟩:=rD c h1 l (x.drop (m.toNat*c)) (λm hm'=>hm m (Anw _ hm')) (by rw[Akm];omega) y hy;rw[Akm]at a2;exact⟨a1,by omega,a3,λv hv=>Bjg (a4 v hv)⟩
theorem Abi(bits:Int)(ch:Nat)(t x:List Int32)(h0:1<=x.length)(h4:x.length<=4000):5<= (Rz bits ch t x).length/\ (Rz bits ch t x).length<=15*x.length:=by
 have h5:=Ab5 bits ch t x h0 h4;have h:=lU ch (Ni bits ch t x) x.length;refine⟨h5.1,?_⟩;rw[Rz,Aav,Cf,XW,AX];omega
def Cu(fs:List LB):List Int:=fs.map λf=>(f.length:Int)
theorem Jb(fs:List LB):(Cu fs).length=fs.length:=by rw[Cu,List.length_map]
theorem EP:∀fs:List LB,(Cu fs).sum=(fs.flatten.length:Int)
 |[]=>rfl
 |f::fs=>by rw[Cu,Bg3,Av4,Bja,Aav,show(fs.map λf=>(f.length:Int))=Cu fs from rfl,EP fs];omega
theorem Awl(bits:Int)(ch:Nat)(t:List Int32):∀ys:List (List Int32),(∀y∈ys,1<=y.length/\y.length<=4000)-> ((ys.map (Rz bits ch t)).flatten).length<=15*ys.flatten.length
 |[],_=>by simp
 |y::ys,h=>by
  have ih:=Awl bits ch t ys λy hy=>h y (Anw _ hy);obtain⟨h1,h4⟩:=h y Avz;have:=(Abi bits ch t y h1 h4).2;rw[Bg3,Bja,Bja,Aav,Aav];omega
def Ks(p:LB):Nat:=if p=[]then 1 else 2
def iM(p:LB):LB:=if p=[]then []else Te (Wv p).toNat 8
theorem uH(p:LB):Ks p=1\/Ks p=2:=by unfold Ks;split<;>simp
theorem nR(p:LB):(iM p).length=if Ks p=2 then 8 else 0:=by
 unfold iM Ks;by_cases h:p=[]
 ·rw[Aah h,Aah h];rfl
 ·rw[Aab h,Aab h,Cf];rfl
def Wx(c r n:Nat)(x:List Int32):List (List Int32):=DP c x (Ah (Ao r) n)
def Wy(c w r n:Nat)(x:List Int32)(p:LB):List LB:=(Wx c r n x).map (Rz (w:Int) c (Wd p))
def Tf(c w r n:Nat)(x:List Int32)(p:LB):LB:=GG (Ks p) c w r n++(iM p++(aR (Cu (Wy c w r n x p))++(Wy c w r n x p).flatten))
theorem Pf{g n:Nat}(hg:1<=g)(h1:1<=n):∀m∈Ah g n,1<=m:=by
 intro m hm;rw[Ah,List.mem_append,List.mem_replicate,List.mem_singleton]at hm;have h:=Bgf (n-1) g;rcases hm with⟨_,rfl⟩|rfl
 ·omega
 ·omega
section
variable {c w r n:Nat} {x:List Int32} (h:ClipOk c w r n x)
include h
theorem ClipOk.sum:(Ah (Ao r) n).sum=(n:Int):=yH h.cnt.1
omit h in
theorem nB:(Wx c r n x).length=(Ah (Ao r) n).length:=rA _ _ _
theorem Afw:(Wx c r n x).flatten=x:=by
 refine yU _ _ _ (λm hm=>?_) ?_
 ·have:=Pf (Fh r) h.cnt.1 m hm;omega
 ·rw[h.sum,h.len,Ahr]
theorem dK:∀y∈Wx c r n x,1<=y.length/\y.length<=4000/\y.length %c=0/\inR (w:Int) y:=by
 intro y hy;obtain⟨a1,a2,a3,a4⟩:=rD c h.ch.1 _ _ (Pf (Fh r) h.cnt.1) (by rw[h.sum,h.len,Ahr]) y hy;have:=h.le;exact⟨a1,by omega,a3,λv hv=>h.rng v (a4 v hv)⟩
omit h in
theorem iK(p:LB):(Wy c w r n x p).length=(Ah (Ao r) n).length:=by rw[Wy,List.length_map];exact rA _ _ _
theorem Aqo(p:LB):1<= (Wy c w r n x p).length/\ (Wy c w r n x p).length<=1000:=by
 rw[iK,AB];exact⟨Nat.le_add_left _ _,h.fr⟩
theorem Aj2(p:LB):((Wy c w r n x p).flatten).length<=15*x.length:=by
 have:=Awl (w:Int) c (Wd p) (Wx c r n x) λy hy=>⟨(dK h y hy).1,(dK h y hy).2.1⟩;rw[Afw h]at this;exact this
theorem Aya(p:LB):∀f∈Wy c w r n x p,5<=f.length:=by
 intro f hf;rw[Wy,List.mem_map]at hf;obtain⟨y,hy,rfl⟩:=hf;exact(Abi _ _ _ _ (dK h y hy).1 (dK h y hy).2.1).1
theorem Acn(p:LB):Ud (Cu (Wy c w r n x p))=true:=by
 have h1:=Aqo h p;have h2:=Aj2 h p;have h3:=h.le;simp only[Ud,Ada,Abv];rw[DG _ _ (by omega),Jb,EP];refine⟨by omega,λz hz=>?_,by omega⟩;rw[Cu,List.mem_map]at hz;obtain⟨f,hf,rfl⟩:=hz;have:=Aya h p f hf;omega
omit h in
theorem Avy(p:LB):(Tf c w r n x p).length=22+(if Ks p=2 then 8 else 0)+(4*(Wy c w r n x p).length+4)+(Wy c w r n x p).flatten.length:=by
 rw[Tf,Aav,Aav,Aav,dI,nR,nJ,Jb];omega
theorem Amc(p:LB):(Tf c w r n x p).length<=34+4*(Wy c w r n x p).length+15*x.length:=by
 have h1:=Avy (c:=c) (w:=w) (r:=r) (n:=n) (x:=x) p;have h2:=Aj2 h p;split at h1<;>omega
theorem Agu(p:LB):(Tf c w r n x p).length<=64034:=by
 have:=Amc h p;have:=Aqo h p;have:=h.le;omega
theorem Ax0(hk:Ex (c:Int) (w:Int) (r:Int) x=some 0)(p:LB)(hp:p.length<=64):ZS (c:Int) (w:Int) (r:Int) x p=some ((Ks p:Int),(c:Int),(w:Int),(r:Int),(n:Int),0):=by
 have hc:=h.ch;have hq:Cv (Ac x) (c:Int)=(n:Int):=by rw[Ac,mF (by have:=h.le;omega),h.len,Nat.mul_div_cancel _ (by omega)]
 rw[ZS,JU,hk,Aa,Aab (by decide),Aab (by rw[Aq,Ac];simp;omega),Bo (by rw[Ak];simp;omega),Aa,XD,lN,hq,Ks];by_cases h0:p=[]
 ·rw[Aab (by simp[h0]),Aah h0];rfl
 ·rw[Aah (by simpa using h0),Aab h0];rfl
theorem zP(hk:Ex (c:Int) (w:Int) (r:Int) x=some 0)(p:LB)(hp:p.length<=64):PQ (c:Int) (w:Int) (r:Int) x p=some (Wy c w r n x p,0):=by
 have hc:=h.ch;have hle:=h.le;have hr:=h.rate;have hq:Cv (Ac x) (c:Int)=(n:Int):=by rw[Ac,mF (by omega),h.len,Nat.mul_div_cancel _ (by omega)]
 have hcut:WY (c:Int) (r:Int) x=some (Wx c r n x):=by
  have hp:=qR c x (by omega) (Ah (Ao r) n) 0 (Pf (Fh r) h.cnt.1) (by rw[h.sum,h.len,Ahr];omega);rw[WY,Bo (by rw[Ak];simp;omega),Aa,hq,Ana hr.1 hr.2 h.cnt.1 (by omega) h.fr,Aa,Bo (by have:=h.fr;simp only[Ac,AB,Abv];omega),Aa];exact hp
 have hfs:=Arv w c h.bits hc.1 hc.2 (Wd p) (Qb p) (Wx c r n x) [] (by rw[nB,AB];exact Bld (Nat.add_le_add_left h.fr _) (by simp)) (dK h);rw[PQ,hk,Aa,Aab (by decide),vU p hp,Aa];simp only;rw[Aab (by decide),hcut,Aa,hfs];rfl
omit h in
theorem Abr(a:List LB)(b f:LB)(v:LB)(ha:a.length<=1000)(hfin:Ws (Cu a) a b f=some (v,0)):∀(j i q:Nat),i+j=a.length->j<q->Uy a b f q (i:Int) (Cu (a.take i)++List.replicate j 0)=some (v,0)
 |j,i,0,_,h=>absurd h (Bhc _)
 |0,i,q+1,hi,_=>by
  rw[Uy,GU,Aab (by rw[Ae,Ac];simp;omega),Ars (by omega),List.replicate_zero,Aot];exact hfin
 |j+1,i,q+1,hi,hq=>by
  have ih:=Abr a b f v ha hfin j (i+1) q (by omega) (by omega);have hi1:Ad (i:Int) 1=((i+1:Nat):Int):=by rw[Aj (by omega) (by omega)];omega
  have hll:(Cu (a.take i)).length=i:=by rw[Jb,Ajr];omega
  have hset:(Cu (a.take i)++List.replicate (j+1) (0:Int)).set i (Ac a[i])=Cu (a.take (i+1))++List.replicate j 0:=by
   rw[Beu,gR hll,Mg (by omega),Cu,Cu,List.map_append,Agm];rfl
  rw[Uy,GU,Aah (by rw[Ae,Ac];simp;omega),Bu (by omega),Aa,Aa,cC,Aa,Bu (by rw[Aav,hll,Aty];omega),Aa,Vv _ (by rw[Aav,hll,Aty];omega),Aa,hset,SK,jA,hi1];exact ih
theorem Al2(hk:Ex (c:Int) (w:Int) (r:Int) x=some 0)(p:LB)(hp:p.length<=64):PX (c:Int) (w:Int) (r:Int) x p=some (Tf c w r n x p,0):=by
 have hn:=Aqo h p;have hfin:Ws (Cu (Wy c w r n x p)) (Wy c w r n x p) (GG (Ks p) c w r n) (iM p)=some (Tf c w r n x p,0):=by
  have hl:=Agu h p;rw[Ws,RF,Amp,Aah (Acn h p),Aa];simp only;rw[RM,iT,Aab (by decide),By (by simp;omega),Aa,join_eq _ (by simp;omega) (by
   have:(([GG (Ks p) c w r n,iM p,aR (Cu (Wy c w r n x p))]++Wy c w r n x p).flatten)=Tf c w r n x p:=by simp[Tf]
   rw[this];omega),Aa]
  simp[Tf]
 have hlp:=Abr (Wy c w r n x p) (GG (Ks p) c w r n) (iM p) _ (by omega) hfin (Wy c w r n x p).length 0 Ay (by omega) (by have:=Au;omega);have h8:HI (Wy c w r n x p) (GG (Ks p) c w r n) (iM p)=some (Tf c w r n x p,0):=by
  rw[HI,UT,tD (by unfold Ac;omega) (by unfold Ac;omega),Aa,Bo (by rw[Ar];simp),Aa];exact hlp
 rw[PX,YE,Ax0 h hk p hp,Aa];simp only;rw[Aab (by decide),zP h hk p hp,Aa];simp only;rw[Aab (by decide),Ah1 (h.shape _ (uH p)) h.fit,Aa];simp only;rw[Aab (by decide)];by_cases h0:p=[]
 ·have e1:Ks p=1:=by rw[Ks,Aah h0]
  have e2:iM p=[]:=by rw[iM,Aah h0]
  rw[e2]at h8;rw[Aab (by rw[e1];decide)];exact h8
 ·have e1:Ks p=2:=by rw[Ks,Aab h0]
  have e2:iM p=Te (Wv p).toNat 8:=by rw[iM,Aab h0]
  rw[e2]at h8;rw[Aah (by rw[e1];decide),oV p hp,Aa];exact h8
end
theorem QI{a m z:LB}{i k:Nat}(hi:a.length=i)(hk:m.length=k):part (a++(m++z)) i k=m:=by
 subst hi hk;rw[part,List.take_append,Ars (by omega),List.drop_left',Bga,Bf7 (An0 _),Bgh];rfl
theorem GD(f c w r n:Nat)(z:LB):GG f c w r n++z=Pg++(Te f 2++(Te c 2++(Te w 2++(Te r 4++(Te n 4++(Te (Ec (vQ f c w r n)).toNat 4++z)))))):=by
 simp only[GG,vQ,Agm]
theorem Auw{f c w r n:Nat}(h1:Gf f c w r n=true)(h2:BH c r n=true)(z:LB):Dt (GG f c w r n++z)=((f:Int),(c:Int),(w:Int),(r:Int),(n:Int),0):=by
 have hs:(f=1\/f=2)/\ (1<=c/\c<=6)/\ (w=8\/w=16\/w=24)/\ (1<=r/\r<=1048576)/\1<=n:=by simpa only[Gf,Abv]using h1
 have hn:n<=4000:=by
  simp only[BH,Abv]at h2;have:=As2 4000 c;omega
 have hlen:22<= (GG f c w r n++z).length:=by rw[Aav,dI];omega
 have m4:min 4 (GG f c w r n++z).length=4:=by omega
 have e4:(GG f c w r n++z).take 4=Pg:=by rw[GD];rfl
 have e18:(GG f c w r n++z).take 18=vQ f c w r n:=by
  rw[GG,Agm,Bf7 (by rw[dN];omega),Ars (by rw[dN];omega)]
 have hlt:=(Ec (vQ f c w r n)).toNat_lt;have p18:part (GG f c w r n++z) 18 4=Te (Ec (vQ f c w r n)).toNat 4:=by
  rw[GG,Agm];exact QI (dN _ _ _ _ _) (Cf _ _)
 have q0:f0 (GG f c w r n++z)=f:=by
  rw[f0,GD,QI (a:=Pg) (i:=4) (k:=2) rfl (Cf _ _),DC];omega
 have q1:f1 (GG f c w r n++z)=c:=by
  rw[f1,GD,<-Agm,QI (by simp[Pg,Cf]) (Cf _ _),DC];omega
 have q2:f2 (GG f c w r n++z)=w:=by
  rw[f2,GD,<-Agm,<-Agm,QI (by simp[Pg,Cf]) (Cf _ _),DC];omega
 have q3:f3 (GG f c w r n++z)=r:=by
  rw[f3,GD,<-Agm,<-Agm,<-Agm,QI (by simp[Pg,Cf]) (Cf _ _),DC];omega
 have q4:f4 (GG f c w r n++z)=n:=by
  rw[f4,GD,<-Agm,<-Agm,<-Agm,<-Agm,QI (by simp[Pg,Cf]) (Cf _ _),DC];omega
 have h:=rs6 (b:=GG f c w r n++z) (by rw[m4,e4];rfl) (by omega) (by rw[e18,p18,DC];omega) (by rw[q0,q1,q2,q3,q4];exact h1) (by rw[q1,q3,q4];exact h2);rw[q0,q1,q2,q3,q4]at h;exact h
theorem Axx(l:List Int)(z:LB){i:Nat}(hi:i<l.length):part (YR l++z) (4*i) 4=Te (l[i]).toNat 4:=by
 have hs:YR l=YR (l.take i)++(Te (l[i]).toNat 4++YR (l.drop (i+1))):=by
  conv=>lhs;rw[<-Bax i l,drop_cons hi]
  rw[YR,YR,YR,List.flatMap_append,List.flatMap_cons]
 rw[hs,Agm,Agm];exact QI (by rw[PG,Ajr];omega) (Cf _ _)
theorem Au7{l:List Int}(ht:Ud l=true)(z:LB):Er (aR l++z) l.length=(l,0):=by
 have h:=ht;simp only[Ud,Ada,Abv]at h;obtain⟨hn,h3⟩:=h;have h4:=(DG l 100000 (by omega)).1 h3;have h6:=wZ h4.1;have hlt:=(Ec (YR l)).toNat_lt;have e1:(aR l++z).take (4*l.length)=YR l:=by
  rw[aR,Agm,Bf7 (by rw[PG];omega),Ars (by rw[PG];omega)]
 have e2:part (aR l++z) (4*l.length) 4=Te (Ec (YR l)).toNat 4:=by
  rw[aR,Agm];exact QI (PG _) (Cf _ _)
 have e3:QH (aR l++z) l.length=l:=by
  apply Baq
  ·rw[Ty]
  ·intro i h1 h2;have hx:=h4.1 l[i] (Am7 _);have hy:=h6 l[i] (Am7 _);simp only[QH,Bjj,Bjd];rw[aR,Agm,Axx l _ h2,DC];omega
 rw[ss4 hn (by rw[Aav,nJ];omega) (by rw[e1,e2,DC];omega),e3,Aah ht]
theorem Ang{b p:LB}{f c w r n T:Nat}{l:List Int}{z:LB}(hp:p.length<=64)(hf:f=Ks p)(h1:Gf f c w r n=true)(h2:BH c r n=true)(hT:Az b=((T:Int),0))(hb:b.length<=100000)(hd:b.drop T=GG f c w r n++(iM p++(aR l++z)))
  (hl:l.length=(Ah (Ao r) n).length) (ht:Ud l=true):Opn b p f c w r n (T+22+(if f=2 then 8 else 0)+4*l.length+4) l:=by
 have hlen:=congrArg List.length hd;rw[Akm,Aav,Aav,Aav,dI,nR,nJ,<-hf]at hlen;have Bky:l.length<=1000/\1<=l.length:=by
  have h:=ht;simp only[Ud,Ada,Abv]at h;omega
 have hread:Dt (b.drop T)=((f:Int),(c:Int),(w:Int),(r:Int),(n:Int),0):=by rw[hd];exact Auw h1 h2 _
 have t22:Ad (T:Int) 22=((T+22:Nat):Int):=by rw[Aj (by omega) (by omega)];omega
 have t30:Ad ((T+22:Nat):Int) 8=((T+30:Nat):Int):=by rw[Aj (by omega) (by omega)];omega
 have d22:b.drop (T+22)=iM p++(aR l++z):=by
  rw[<-Biu,hd,<-dI f c w r n,Bjp]
 have dA:b.drop (T+22+(if f=2 then 8 else 0))=aR l++z:=by
  rw[<-Biu,d22,hf,<-nR p,Bjp]
 have hend:∀A:Nat,A<=b.length->A=T+22+(if f=2 then 8 else 0)->Es b p=Un b (f:Int) (c:Int) (w:Int) (r:Int) (n:Int) (A:Int)->Es b p=some ((f:Int),(c:Int),(w:Int),(r:Int),(n:Int),((A+4*l.length+4:Nat):Int),l,0):=by
  intro A hA hA2 e;rw[e,xF h1 h2 b (by omega) A hA,hA2,dA,<-hl,Au7 ht,Aab (by simp)]
 have hprog:Es b p=some ((f:Int),(c:Int),(w:Int),(r:Int),(n:Int),((T+22+(if f=2 then 8 else 0)+4*l.length+4:Nat):Int),l,0):=by
  refine hend (T+22+(if f=2 then 8 else 0)) (by omega) rfl ?_;rw[Es,AJ,Aab (by rw[Aq,Ac];simp;omega),Aab (by rw[Aq,Ac];simp;omega),Qf b (by omega),hT,Aa];simp only;rw[Aab (by decide),Ca (by omega) (by omega),Aa,Ahr,NY _ (by rw[Akm];omega),Aa,hread];simp only;rw[Aab (by decide)];by_cases h0:p=[]
  ·have e1:f=1:=by rw[hf,Ks,Aah h0]
   rw[Aab (by rw[h0,e1];decide),Aab (by rw[h0];decide),t22,e1];rfl
  ·have e1:f=2:=by rw[hf,Ks,Aab h0]
   have hne:(p !=([]:LB))=true:=by simpa using h0
   have hne2:(p==([]:LB))=false:=by simpa using h0
   have hdg:iM p=Te (Wv p).toNat 8:=by rw[iM,Aab h0]
   have hseg:(b.take (T+30)).drop (T+22)=Te (Wv p).toNat 8:=by
    rw[Bli,show T+30-(T+22)=8 by omega,d22,hdg,Bf7 (by rw[Cf];omega),Ars (by rw[Cf];omega)]
   rw[e1,Aah rfl]at hlen;rw[Aab (by rw[hne2,e1];decide),Aah hne,t22,t30,Aab (by rw[Ae,Ac];simp;omega),Ut (by omega) (by omega) (by omega),Aa,Ahr,Ahr,hseg,Ach (Cf _ _) hp,Aa];simp only;rw[Aab (by decide),Aab (by simp),e1];rfl
 rcases Ar3 b p (by omega) hp with⟨e,he,h,_⟩|⟨f',c',w',r',n',A',l',o⟩
 ·rw[hprog]at h;have:=congrArg (λo=>(o.getD (zS 0)).2.2.2.2.2.2.2) h;simp only[Option.getD_some,zS]at this;exact absurd this.symm he
 ·have h:=o.prog;rw[hprog]at h;simp only[Afk,Ajt]at h;obtain⟨i1,i2,i3,i4,i5,i6,i7,_⟩:=h;have j1:f=f':=by omega
  have j2:c=c':=by omega
  have j3:w=w':=by omega
  have j4:r=r':=by omega
  have j5:n=n':=by omega
  have j6:=Int.ofNat.inj i6;subst j1 j2 j3 j4 j5 i7;rw[j6];exact o
theorem zE{b:LB}(h:b.take 4=Pg):Az b=(0,0):=by
 have h4:4<=b.length:=by
  have:=congrArg List.length h;rw[Ajr]at this;simp only[Pg,Anu,List.length_nil]at this;omega
 have h3:b.take 3≠ [73,68,51]:=by
  intro e;have:(b.take 4).take 3=[73,68,51]:=by rw[Bjb];exact e
  rw[h]at this;exact absurd this (by decide)
 have h8:b.take 8≠zN:=by
  intro e;have:(b.take 8).take 4=Pg:=by rw[Bjb];exact h
  rw[e]at this;exact absurd this (by decide)
 have hs:Ct b=(0,6):=by
  have h1:Yy b=(0,6):=by rw[Yy,Aah (by intro hh;exact h3 hh.2)]
  rw[Ct,h1,Aab (by decide),fa1 (by intro hh;exact h8 hh.2)]
 rw[Az,Adl,Ch,Bka,hs];rfl
theorem ZO:∀{l:List Int},(∀x∈l,0<=x)->∀k,0<= (l.take k).sum
 |[],_,k=>by simp
 |x::l,h,0=>by simp
 |x::l,h,k+1=>by
  have:=ZO (l:=l) (λy hy=>h y (Anw _ hy)) k;have:=h x Avz;rw[List.take_succ_cons,Av4];omega
theorem wL(fs:List LB)(k:Nat):(Cu fs).take k=Cu (fs.take k):=by rw[Cu,Cu,List.map_take]
theorem Bf5{b z:LB}{A:Nat}{fs:List LB}(hd:b.drop A=fs.flatten++z){k:Nat}(hk:k<fs.length):wD b A (Cu fs) k=fs[k]:=by
 have e0:fs.flatten=(fs.take k).flatten++(fs[k]++(fs.drop (k+1)).flatten):=by
  conv=>lhs;rw[<-Bax k fs,drop_cons hk]
  rw[Bjo,Bja]
 have s1:((Cu fs).take k).sum=((fs.take k).flatten.length:Int):=by rw[wL,EP]
 have s2:((Cu fs).take (k+1)).sum=((fs.take k).flatten.length+fs[k].length:Nat):=by rw[wL,EP,Mg hk,Bjo];simp
 rw[wD,s1,s2,show((A:Int)+((fs.take k).flatten.length+fs[k].length:Nat)).toNat=A+((fs.take k).flatten.length+fs[k].length) by omega,show((A:Int)+((fs.take k).flatten.length:Int)).toNat=A+(fs.take k).flatten.length by omega,
  Bli,<-Biu,hd,e0,Agm,Bjp,Nat.add_sub_add_left,Bga,Agm,Blj]
theorem Avs{b z:LB}{A:Nat}{fs:List LB}(hd:b.drop A=fs.flatten++z)(hA:A<=b.length)(k:Nat):(A:Int)+((Cu fs).take k).sum<=b.length:=by
 have h:=congrArg List.length hd;rw[Akm,Aav]at h;have h2:(fs.take k).flatten.length<=fs.flatten.length:=by
  conv=>rhs;rw[<-Bax k fs,Bjo,Aav]
  omega
 rw[wL,EP];omega
section
variable {b p:List UInt8} {f c w r n A:Nat} {fs:List LB} {z:LB} (o:Opn b p f c w r n A (Cu fs)) (hd:b.drop A=fs.flatten++z)
include o hd
theorem Be9{k:Nat}(hk:k<fs.length){y:List Int32}{e:Int}{m:Nat}(hm:Ap (Ah (Ao r) n) (k:Int)=some (m:Int))(hdec:Jv (c:Int) (w:Int) (Wd p) (m:Int) fs[k]=some (y,e)):
  (KP b p f c w r n A (Cu fs) k).2=e/\ (e=0->KP b p f c w r n A (Cu fs) k=(Cy (w:Int) y,0)/\smF w (KP b p f c w r n A (Cu fs) k)=y):=by
 have hkl:k<(Cu fs).length:=by rw[Jb];exact hk
 obtain⟨m',x',s',e',g⟩:=NR o k hkl;have hin:=Avs hd o.at' (k+1);have hmm:m'=m:=by
  have:=g.mom;rw[hm]at this;have:=Bhg this;omega
 subst hmm;rcases g.way with⟨h1,_⟩|⟨_,h2,_⟩
 ·omega
 ·rw[Bf5 hd hk,hdec]at h2;simp only[Afk,Ajt]at h2;obtain⟨rfl,rfl⟩:=h2;refine⟨by rw[g.eq],λhe=>?_⟩;have:=g.xT (AI o.shape).2.1;obtain⟨h3,_⟩:=g.some' he;rw[g.eq,this,h3,he];exact⟨rfl,rfl⟩
end
theorem sP(c:Nat)(h1:1<=c):∀(l:List Int) (x:List Int32),(∀m∈l,1<=m)->x.length=l.sum.toNat*c->∀(k:Nat) (hk:k<l.length) (hk':k<(DP c x l).length),(DP c x l)[k].length=l[k].toNat*c
 |[],x,_,_=>λk hk=>absurd hk (Bhc _)
 |m::l,x,hm,hx=>by
  have hm1:=hm m Avz;have hl:0<=l.sum:=by
   have:=ZO (l:=l) (λy hy=>by have:=hm y (Anw _ hy);omega) l.length;rw[Bgh]at this;exact this
  rw[Av4,show(m+l.sum).toNat=m.toNat+l.sum.toNat by omega,Av1]at hx;intro k hk hk';cases k with
  |zero=>simp only[DP,List.getElem_cons_zero,Ajr];omega
  |succ k=>
   simp only[DP,List.getElem_cons_succ];exact sP c h1 l (x.drop (m.toNat*c)) (λm hm'=>hm m (Anw _ hm')) (by rw[Akm];omega) k (by simpa using hk) _
structure FileOf (c w r n:Nat) (x:List Int32) (p:LB) (T:Nat) (fs:List LB) (z b:LB):Prop where
 clip:ClipOk c w r n x
 pass:p.length<=64
 front:Az b=((T:Int),0)
 le:b.length<=100000
 lens:Cu fs=Cu (Wy c w r n x p)
 form:b.drop T=GG (Ks p) c w r n++(iM p++(aR (Cu (Wy c w r n x p))++(fs.flatten++z)))
def MS(T:Nat)(p:LB)(K:Nat):Nat:=T+22+(if Ks p=2 then 8 else 0)+4*K+4
section
variable {c w r n:Nat} {x:List Int32} {p:LB} {T:Nat} {fs:List LB} {z b:LB} (h:FileOf c w r n x p T fs z b)
include h
theorem FileOf.cnt:fs.length=(Wy c w r n x p).length:=by
 have:=congrArg List.length h.lens;rw[Jb,Jb]at this;exact this
theorem FileOf.Gc:Opn b p (Ks p) c w r n (MS T p fs.length) (Cu fs):=by
 have hc:=h.clip;have hl:(Cu fs).length=(Ah (Ao r) n).length:=by rw[Jb,h.cnt];exact iK p
 have ht:Ud (Cu fs)=true:=by rw[h.lens];exact Acn hc p
 have hd:=h.form;rw[<-h.lens]at hd;have:=Ang (z:=fs.flatten++z) h.pass rfl (hc.shape _ (uH p)) hc.fit h.front h.le hd hl ht;rw[Jb]at this;exact this
theorem FileOf.Ayz:b.drop (MS T p fs.length)=fs.flatten++z:=by
 have hd:=h.form;rw[<-h.lens]at hd;have e:MS T p fs.length=T+(22+((if Ks p=2 then 8 else 0)+(4*fs.length+4))):=by unfold MS;omega
 have e2:4*fs.length+4=(aR (Cu fs)).length:=by rw[nJ,Jb]
 rw[e,<-Biu,hd,<-Biu]
 conv=>lhs;rw[<-dI (Ks p) c w r n,Bjp,<-Biu,<-nR p,Bjp,e2,Bjp]
theorem FileOf.mom{k:Nat}(hk:k<fs.length):∃(m:Nat) (hk':k<(Wx c r n x).length),Ap (Ah (Ao r) n) (k:Int)=some (m:Int)/\1<=m/\m<=4000/c/\ ((Wx c r n x)[k]).length=m*c/\inR (w:Int) (Wx c r n x)[k]/\ (Wy c w r n x p)[k]'(by rw[<-h.cnt];exact hk)=Rz (w:Int) c (Wd p) (Wx c r n x)[k]:=by
 have hc:=h.clip;have hlen:fs.length=(Ah (Ao r) n).length:=by rw[h.cnt];exact iK p
 have hkf:k<(Ah (Ao r) n).length:=by omega
 have hk':k<(Wx c r n x).length:=by rw[nB];exact hkf
 have hm1:=Pf (Fh r) hc.cnt.1 _ (Am7 hkf);obtain⟨m,hm⟩:=Aju (show 0<= (Ah (Ao r) n)[k] by omega);have hg:=sP c hc.ch.1 _ x (Pf (Fh r) hc.cnt.1) (by rw[hc.sum,hc.len,Ahr]) k hkf hk';rw[hm,Ahr]at hg;have hmem:=dK hc _ (Am7 hk');have hx:=rD c hc.ch.1 _ x (Pf (Fh r) hc.cnt.1) (by rw[hc.sum,hc.len,Ahr]) _ (Am7 hk');have hg':((Wx c r n x)[k]).length=m*c:=hg;refine⟨m,hk',by rw[Bu hkf,hm],by omega,?_,hg',hmem.2.2.2,?_⟩
 ·have h1:=hx.2.1;have h2:m*c<=n*c:=by rw[<-hg',<-hc.len];exact h1
  have h3:m<=n:=Nat.le_of_mul_le_mul_right h2 hc.ch.1;exact Bld h3 hc.cnt.2
 ·simp only[Wy,Bjj]
theorem FileOf.Bj4{k:Nat}(hk:k<fs.length)(he:fs[k]=(Wy c w r n x p)[k]'(by rw[<-h.cnt];exact hk)):
  KP b p (Ks p) c w r n (MS T p fs.length) (Cu fs) k=(Cy (w:Int) ((Wx c r n x).getD k []),0)/\smF w (KP b p (Ks p) c w r n (MS T p fs.length) (Cu fs) k)=(Wx c r n x).getD k []:=by
 have hc:=h.clip;obtain⟨m,hk',h1,h2,h3,h4,h5,h6⟩:=h.mom hk;have hd:=(An8 hc.bits (Qb p) hc.ch.1 hc.ch.2 h2 h3 h4 h5).1;have hg:=Be9 h.Gc h.Ayz hk h1 (by rw[he,h6];exact hd);have e:(Wx c r n x).getD k []=(Wx c r n x)[k]:=by rw[List.getD_eq_getElem?_getD,List.getElem?_eq_getElem hk'];rfl
 rw[e];exact hg.2 rfl
end
theorem oK{c w r n:Nat}{x:List Int32}(h:ClipOk c w r n x){p:LB}(hp:p.length<=64):FileOf c w r n x p 0 (Wy c w r n x p) [] (Tf c w r n x p):=by
 refine⟨h,hp,zE ?_,by have:=Agu h p;omega,rfl,by rw[Aot];rfl⟩;rw[Tf,GD];rfl
theorem uC{l:List Int}(h:∀x∈l,0<=x){i j:Nat}(hij:i<=j):(l.take i).sum<= (l.take j).sum:=by
 obtain⟨d,rfl⟩:=Bk7 hij;rw[List.take_add,Blf];have:=ZO (l:=l.drop i) (λx hx=>h x (Bjg hx)) d;omega
theorem Bbu(fs:List LB):∀x∈Cu fs,0<=x:=by
 intro x hx;rw[Cu,List.mem_map]at hx;obtain⟨f,_,rfl⟩:=hx;omega
section
variable {c w r n:Nat} {x:List Int32} (h:ClipOk c w r n x)
include h
theorem Ay9{k:Nat}(hk:k<(Wx c r n x).length)(hk':k<(Ah (Ao r) n).length):((Wx c r n x)[k]).length=((Ah (Ao r) n)[k]).toNat*c:=
 sP c h.ch.1 _ x (Pf (Fh r) h.cnt.1) (by rw[h.sum,h.len,Ahr]) k hk' hk
theorem aV:∀K:Nat,K<= (Wx c r n x).length-> ((Wx c r n x).take K).flatten.length=((Ah (Ao r) n).take K).sum.toNat*c
 |0,_=>by simp
 |K+1,hK=>by
  have hl:=nB (c:=c) (r:=r) (n:=n) (x:=x);have hk':K<(Ah (Ao r) n).length:=by omega
  have h1:=Pf (Fh r) h.cnt.1 _ (Am7 hk');have h2:=ZO (l:=Ah (Ao r) n) (λm hm=>by have:=Pf (Fh r) h.cnt.1 m hm;omega) K;rw[Mg (show K<(Wx c r n x).length by omega),Bjo,Aav,aV K (by omega),Mg hk',Blf,List.sum_singleton,List.flatten_singleton,Ay9 h (by omega) hk',<-Av1];congr 1;omega
end
theorem Agh{α:Type}(G H:Nat->List α):∀(j k:Nat),(∀i,k<=i->i<k+j->G i=H i)->TZ G j k=TZ H j k
 |0,k,_=>rfl
 |j+1,k,h=>by rw[TZ,TZ,h k (by omega) (by omega),Agh G H j (k+1) (λi h1 h2=>h i (by omega) (by omega))]
def Cd(e:Int):Prop:=e=0\/e=4\/e=12\/e=16\/e=22\/e=24\/e=26\/e=38
instance(e:Int):Decidable (Cd e):=by unfold Cd;infer_instance
theorem Cd.nn{e:Int}(h:Cd e):0<=e:=by unfold Cd at h;omega
theorem Be6(p:List UInt8)(N a k:Nat):Cd (YC p N a k).2.2:=by
 unfold YC
 repeat' split
 all_goals first|decide|exact .inl rfl
theorem Bgq(p:List UInt8)(N a k l:Nat):Cd (cF p N a k l).2.2:=by
 have h:=Be6 p N (a+1) l;unfold cF
 repeat' split
 all_goals first|exact h|decide|exact .inl rfl
theorem Arp(ch:Nat)(p:List UInt8)(N:Nat):∀(j a:Nat) (out:List UInt32),Cd (Xa ch p N j a out).2.2
 |0,a,out=>by rw[Xa];exact .inl rfl
 |j+1,a,out=>by
  rw[Xa];split
  ·exact Bgq ..
  ·exact Arp ch p N j _ _
theorem Ayo(b:List UInt8):Cd (Vk b):=by
 unfold Vk
 repeat' split
 all_goals first|decide|exact .inl rfl
theorem Ag6(a:List Int32)(b:Int):∀(q:Nat) (i e:Int),Ba a b q i=some e->Cd e
 |0,_,_,h=>by rw[Ba]at h;cases h
 |q+1,i,e,h=>by
  rw[Ba,Cm]at h;split at h
  ·cases hg:Ap a i with
   |none=>rw[hg]at h;cases h
   |some g=>
    rw[hg,Aa]at h;split at h
    ·cases h;decide
    ·rw[Aa]at h;split at h
     ·cases h;decide
     ·exact Ag6 a b q _ e h
  ·cases h;decide
theorem Aph{bits:Int}{a:List Int32}{e:Int}(hb:Bt bits)(h:Ax bits a=some e):Cd e:=by
 rw[Ax,De]at h;rw[VJ hb,Aa,Aab (by have:=RI bits;rw[Ar];simp;omega)]at h;split at h
 ·cases h;decide
 ·exact Ag6 a _ _ _ e h
theorem Agz{bits:Int}{ch n:Nat}{t:List Int32}{b:List UInt8}(hb:Bt bits)(ht:t.length=16)(h1:1<=ch)(h6:ch<=6)(n1:1<=n)(n2:n<=4000/ch){l:List Int32}{e:Int}
  (h:Di (ch:Int) bits t (n:Int) b=some (l,e)):Cd e:=by
 have hn:n*ch<=4000:=by
  have:=Aiy ch n2;have h2:=Bgf 4000 ch;omega
 have hq4:=Aam h1 h6;generalize 4000/ch=mm at*
 have hh:=RI bits;have Afc:Dr (ch:Int) bits (n:Int)=some 0:=by
  rw[Dr,Df,Aab (by simp[Ae,Aq];omega),VJ hb,Aa,Aab (by rw[Ar];simp;omega),Aa,Aab (by simp[Ak,Ae];omega),Bo (by rw[Ak];simp;omega),Aa,hq4,Aab (by rw[Aq];simp;omega)]
 rw[Di,Ot,Afc,Aa,Aab (by rw[Ak];simp),qW,Aa]at h;by_cases hs:Vk b≠0
 ·rw[Aah (by rw[Ak];simpa using hs)]at h;simp only[Aa]at h;cases h;exact Ayo b
 have hs0:Vk b=0:=by simpa using hs
 have hlen:=Akv hs0;have e4:Am (Ac b) 4=((b.length-4:Nat):Int):=by rw[Ac,Bp (by omega) (by omega)];omega
 rw[Aab (by rw[Ak,hs0];simp),e4,Da (by omega) (by omega),Aa,show((b.length-4:Nat):Int).toNat=b.length-4 from rfl]at h;have hpl:(b.take (b.length-4)).length=b.length-4:=by simp
 generalize b.take (b.length-4)=p at*
 have hr:=Air (N:=8*p.length) (p:=p) rfl (by omega) h1 h6 hn;have hV:=Arp ch p (8*p.length) (n*ch) 0 [];have hat:=Aaj (ch:=ch) (p:=p) (N:=8*p.length) (n*ch) 0 [] (by omega);rw[hr,Aa]at h;generalize Xa ch p (8*p.length) (n*ch) 0 []=V at*
 obtain⟨v,at',er⟩:=V;simp only at*
 by_cases he:er≠0
 ·rw[Aah he]at h;simp only at h;rw[Hu,Hw,Aah (by rw[Ak];simpa using he)]at h;cases h;exact hV
 have he0:er=0:=by simpa using he
 have hvl:=hat.2.2 he0;simp only[List.length_nil,Bar]at hvl;rw[Aab he]at h;simp only at h;rw[Hu,Hw]at h;split at h
 ·cases h;decide
 ·rw[Aab (by decide)]at h;have hm:v.length %ch=0:=by rw[hvl];exact Bhi n ch
  obtain⟨l',e',g1,g2,g3,g4,g5⟩:=tS (v:=v) hb ht h1 h6 (by omega) hm;rw[g1,Aa,g2,Aa]at h;have:=Aph hb g4;by_cases hl:e'≠0
  ·rw[Aah hl]at h;cases h;exact this
  ·rw[Aab hl]at h;cases h;decide
theorem vX{bits:Int}{ch n:Nat}{t:List Int32}{b:List UInt8}(hb:Bt bits)(ht:t.length=16)(h1:1<=ch)(h6:ch<=6)(n1:1<=n)(n2:n<=4000/ch){l:List Int32}{e:Int}
  (h:Di (ch:Int) bits t (n:Int) b=some (l,e)):0<=e:=(Agz hb ht h1 h6 n1 n2 h).nn
def shI(f c w r n:Int):Bool:=decide ((f=1\/f=2)/\ (1<=c/\c<=6)/\ (w=8\/w=16\/w=24)/\ (1<=r/\r<=1048576)/\1<=n)
theorem Aw8(f c w r n:Int):Sd f c w r n=some (shI f c w r n):=by
 have e2:Pm f c w r n=some (decide ((f=1\/f=2)/\ (1<=c/\c<=6)/\ (1<=r/\r<=1048576)/\1<=n)):=by
  rw[Pm,NT];congr 1;rw[Amo];simp only[Ar,Aq,ZJ,Ada,Bat,Av2,Abv];omega
 have g:∀k:Int,geq w k=decide (w=k):=λk=>by rw[Ar,Amo];simp
 rw[Sd,AV,e2,g,g,g,shI];by_cases h8:w=8
 ·subst h8;simp
 ·by_cases h16:w=16
  ·subst h16;simp
  ·by_cases h24:w=24
   ·subst h24;simp
   ·simp[h8,h16,h24]
theorem Bde(f c w r n:Int):Kn f c w r n=some (shI f c w r n):=by
 rw[Kn,shI];simp only[Ar,Dq,ZJ,Ada,Bat,Av2,Abv,Bku];split
 ·rename_i h;congr 1;rw[Amo];simp only[Ada,Bat,Av2,Abv];omega
 ·rename_i h;congr 1;symm;rw[Bge];omega
structure HdI (f c w r n:Int) (F C W R N:Nat):Prop where
 ef:f=F
 ec:c=C
 ew:w=W
 er:r=R
 en:n=N
 shape:Gf F C W R N=true
 fit:BH C R N=true
theorem Auv(f c w r n:Int):(∃F C W R N:Nat,HdI f c w r n F C W R N)\/ (Mf f c w r n=some 8/\Dm f c w r n=some ([],8)):=by
 by_cases h:shI f c w r n=true
 ·have h':=h;simp only[shI,Abv]at h';obtain⟨F,rfl⟩:=Aju (show 0<=f by omega);obtain⟨C,rfl⟩:=Aju (show 0<=c by omega);obtain⟨W,rfl⟩:=Aju (show 0<=w by omega);obtain⟨R,rfl⟩:=Aju (show 0<=r by omega);obtain⟨N,rfl⟩:=Aju (show 0<=n by omega);have hs:Gf F C W R N=true:=by simp only[Gf,Abv];omega
  by_cases hf:BH C R N=true
  ·exact .inl ⟨F,C,W,R,N,rfl,rfl,rfl,rfl,rfl,hs,hf⟩
  ·have hf':BH C R N=false:=by simpa using hf
   refine .inr ⟨?_,?_⟩
   ·rw[Mf,sN,Aa,hs,Aab (by simp),Abh hs,Aa,hf'];rfl
   ·rw[Dm,On,YZ,Aa,hs,Aab (by simp),oN hs,Aa,hf'];rfl
 ·have h':shI f c w r n=false:=by simpa using h
  refine .inr ⟨?_,?_⟩
  ·rw[Mf,Bde,Aa,h'];rfl
  ·rw[Dm,On,Aw8,Aa,h'];rfl
theorem HdI.check{f c w r n:Int}{F C W R N:Nat}(h:HdI f c w r n F C W R N):Mf f c w r n=some 0:=by
 obtain⟨rfl,rfl,rfl,rfl,rfl,hs,hf⟩:=h;rw[Mf,sN,Aa,hs,Aab (by simp),Abh hs,Aa,hf];rfl
theorem HdI.BP{f c w r n:Int}{F C W R N:Nat}(h:HdI f c w r n F C W R N):Dm f c w r n=some (Ah (Ao R) N,0):=by
 obtain⟨rfl,rfl,rfl,rfl,rfl,hs,hf⟩:=h;exact kP hs hf
theorem HdI.num{f c w r n:Int}{F C W R N:Nat}(h:HdI f c w r n F C W R N):(F=1\/F=2)/\ (1<=C/\C<=6)/\ (W=8\/W=16\/W=24)/\ (1<=R/\R<=1048576)/\1<=N/\N<=4000/C/\N<=4000/\ (N-1)/Ao R+1<=1000:=by
 obtain⟨rfl,rfl,rfl,rfl,rfl,hs,hf⟩:=h;simp only[Gf,Abv]at hs;simp only[BH,Abv]at hf;have hd:4000/C<=4000:=As2 _ _;omega
theorem HdI.Ak8{f c w r n:Int}{F C W R N:Nat}(h:HdI f c w r n F C W R N):Gx f c w r n=some (Ah (Ao R) N):=by
 have hn:=h.num;obtain⟨rfl,rfl,rfl,rfl,rfl,hs,hf⟩:=h;rw[Gx,XV (by omega) (by omega) (by omega)];rfl
section
variable {f c w r n:Nat} (h1:Gf f c w r n=true) (h2:BH c r n=true)
include h1 h2
theorem Af8(k:Nat)(hk:k<= (Ah (Ao r) n).length):∀(j i q:Nat),i+j=k->j<q->Nf (k:Int) (f:Int) (c:Int) (w:Int) (r:Int) (n:Int) (Ah (Ao r) n) q (((Ah (Ao r) n).take i).sum) (i:Int)=some (FA c w (Ah (Ao r) n) k)
 |0,i,q+1,hi,_=>by
  obtain⟨hc,hw,hr,hn,_⟩:=AI h1;obtain⟨g1,g2,g3⟩:=VI h1 h2;have b:=OK g1 i;obtain rfl:i=k:=by omega
  have hb:((Ah (Ao r) n).take i).sum.toNat*(c*wB (w:Int))<=4000*(6*3):=Bgv (by omega) (Bgv hc.2 (Agi (w:Int)).2);rw[Nf,AO,Aab (by rw[Ae];simp),QJ,OZ,Gs,Aa];simp only;rw[TI,Bgc hc.2 hw,Aa,FA];have e:((Ah (Ao r) n).take i).sum=((((Ah (Ao r) n).take i).sum.toNat:Nat):Int):=by omega
  rw[e,Hh (by rw[<-Av5];omega) (by rw[<-Av5];omega),<-Av5];rfl
 |j+1,i,q+1,hi,hq=>by
  obtain⟨g1,g2,g3⟩:=VI h1 h2;have hK:=Aa0 h2;have hlt:i<(Ah (Ao r) n).length:=by omega
  have b1:=OK g1 i;have b2:=OK g1 (i+1);have e:=Hj hlt;have ih:=Af8 k hk j (i+1) q (by omega) (by omega);rw[e]at ih;rw[Nf,AO,Aah (by rw[Ae];simp;omega),Bu hlt,Aa,Aa,Aj (by omega) (by omega),Aj (by omega) (by omega)];exact ih
theorem Amv(k:Nat)(hk:k<= (Ah (Ao r) n).length):Yp (f:Int) (c:Int) (w:Int) (r:Int) (n:Int) (k:Int)=some (FA c w (Ah (Ao r) n) k):=by
 have hK:=Aa0 h2;obtain⟨g1,g2,g3⟩:=VI h1 h2;obtain⟨hc,hw,hr,hn,_⟩:=AI h1;have h:=Af8 h1 h2 k hk k 0 Ay (by omega) (by have:=Au;omega);rw[Bey,Bkf]at h;rw[Yp,QY,Gx,XV hr.2 hn g3,Aa,Aa];exact h
theorem Apg{i:Nat}(hlt:i<(Ah (Ao r) n).length):Ad (FA c w (Ah (Ao r) n) i) (Cv (Bn (Bn ((Ah (Ao r) n)[i]) (c:Int)) (w:Int)) 8)=FA c w (Ah (Ao r) n) (i+1):=by
 obtain⟨hc,hw,hr,hn,_⟩:=AI h1;obtain⟨g1,g2,g3⟩:=VI h1 h2;have b1:=OK g1 i;have b2:=OK g1 (i+1);have e:=Hj hlt;have h0:=g1 _ (Am7 hlt);have e2:(Ah (Ao r) n)[i]=(((Ah (Ao r) n)[i].toNat:Nat):Int):=by omega
 have hb:((Ah (Ao r) n).take (i+1)).sum.toNat*(c*wB (w:Int))<=4000*(6*3):=Bgv (by omega) (Bgv hc.2 (Agi (w:Int)).2);rw[e2,Bfw (by omega) hc.2 hw,FA,FA];have e3:((Ah (Ao r) n).take (i+1)).sum.toNat=((Ah (Ao r) n).take i).sum.toNat+(Ah (Ao r) n)[i].toNat:=by omega
 rw[e3,Av1]at hb⊢;rw[Aj (by omega) (by omega)];omega
theorem Afz(a:Nat)(ha:a<= (Ah (Ao r) n).length)(o p:LB)(m:LI)(a':Int)(N:LB)(u:Bool)(v:Int):∀(j i q:Nat),i+j=a->j<q->
  Re ((Ah (Ao r) n).take a) o p (f:Int) (c:Int) (w:Int) (r:Int) (n:Int) m a' N u v q (FA c w (Ah (Ao r) n) i) (i:Int)=some (gle (Ac N) (FA c w (Ah (Ao r) n) a))
 |0,i,q+1,hi,_=>by
  obtain rfl:i=a:=by omega
  rw[Re,DJ,Aab (by rw[Ae,Ac,Ajr];simp;omega),SH,jG]
 |j+1,i,q+1,hi,hq=>by
  have hK:=Aa0 h2;have hlt:i<(Ah (Ao r) n).length:=by omega
  have hlt2:i<((Ah (Ao r) n).take a).length:=by rw[Ajr];omega
  have ih:=Afz a ha o p m a' N u v j (i+1) q (by omega) (by omega);rw[Re,DJ,Aah (by rw[Ae,Ac];simp;omega),Bu hlt2,Aa,List.getElem_take,Apg h1 h2 hlt,Aj (by omega) (by omega)];exact ih
end
theorem Aae{α:Type}(l:List α):geq (Ac l) 0=decide (l=[]):=by
 cases l with
 |nil=>rfl
 |cons x l=>rw[Ar,Ac,Anu,Bei (by simp),beq_eq_false_iff_ne];omega
theorem Ai6{α:Type}(l:List α):Ez (Ac l) 0=decide (l≠ []):=by
 cases l with
 |nil=>rfl
 |cons x l=>rw[Aq,Ac,Anu,Bhq (by simp)];simp
inductive FitD (o:LB) (f c w r n:Int) (g:LI) (a:Int) (x:LB):Prop
 |new:f=0->c=0->w=0->r=0->n=0->g=[]->a=0->x=[]->FitD o f c w r n g a x
 |head (F C W R N:Nat):HdI f c w r n F C W R N-> (o==([]:LB))=decide (F=1)->g=[]->a=0->x=[]->FitD o f c w r n g a x
 |tab (F C W R N A:Nat):HdI f c w r n F C W R N-> (o==([]:LB))=decide (F=1)->Ud g=true->g.length=(Ah (Ao R) N).length->a=A->A<=g.length->FitD o f c w r n g a x
theorem Aoq(f c w r n:Int)(o:LB):Pz f c w r n o=Ej f c w r n o:=rfl
theorem Ao7(o p:LB)(f c w r n:Int)(g:LI)(a:Int)(x:LB)(u:Bool)(v:Int):
  (BI o p f c w r n g a x u v=some false/\Me o p f c w r n g a x u v=some false)\/
  (BI o p f c w r n g a x u v=some true/\Me o p f c w r n g a x u v=Cl o p f c w r n g a x u v/\FitD o f c w r n g a x):=by
 rw[BI,RP,Me,Xv];by_cases hz:f=0/\c=0/\w=0/\r=0/\n=0
 ·obtain⟨rfl,rfl,rfl,rfl,rfl⟩:=hz;rw[Aah (by decide),Aah (by decide),Aae,Aae,Ai6,Ai6];by_cases h:g=[]/\a=0/\x=[]
  ·obtain⟨rfl,rfl,rfl⟩:=h;exact .inr ⟨rfl,by rw[Aab (by decide)], .new rfl rfl rfl rfl rfl rfl rfl rfl⟩
  ·refine .inl ⟨?_,?_⟩
   ·congr 1;rw[Bool.eq_false_iff];intro e;simp only[Ada,Abv,Ar,Av2]at e;exact h ⟨e.1.1,e.1.2,e.2⟩
   ·rw[Aah];simp only[Bat,Abv,Ak,Bk6];by_cases e1:g=[]
    ·by_cases e2:a=0
     ·exact .inr λe3=>h ⟨e1,e2,e3⟩
     ·exact .inl (.inr e2)
    ·exact .inl (.inl e1)
 ·have hz2:¬(((geq f 0)&&((geq c 0)&&((geq w 0)&&((geq r 0)&&((geq n 0)&&true)))))=true):=by
   simp only[Ada,Ar,Av2,Bll];exact hz
  rw[Aab hz2,Aab hz2];rcases Auv f c w r n with⟨F,C,W,R,N,h⟩|⟨e1,e2⟩
  ·rw[h.BP,h.check,Aa,Aa,Aoq];simp only;rw[Aab (by decide),Aab (by decide),Ej];have hf:geq f 1=decide (F=1):=by rw[h.ef,Ar,Amo];simp;omega
   rw[hf];by_cases hp:(o==([]:LB))=decide (F=1)
   ·rw[Aab (by rw[hp];simp),Aa,Aa,Aab (by decide),Aab (by decide),RN,SI,Qk,Ql,Aae,Aae,Ai6];by_cases hg:g=[]
    ·subst hg;rw[Aah (by simp),Aah (by simp)];by_cases h':a=0/\x=[]
     ·obtain⟨rfl,rfl⟩:=h';exact .inr ⟨rfl,by rw[Aab (by decide)], .head F C W R N h hp rfl rfl rfl⟩
     ·refine .inl ⟨?_,?_⟩
      ·congr 1;rw[Bool.eq_false_iff];intro e;simp only[Ada,Abv,Ar,Av2]at e;exact h' e
      ·rw[Aah];simp only[Bat,Abv,Ak,Bk6];by_cases e2:a=0
       ·exact .inr λe3=>h' ⟨e2,e3⟩
       ·exact .inl e2
    ·rw[Aab (by simpa using hg),Aab (by simpa using hg),VA,aW,Aa,Aa];by_cases ht:Ud g=true
     ·rw[Aah ht,h.Ak8];simp only[Aa];by_cases hl:g.length=(Ah (Ao R) N).length/\0<=a/\a<=g.length
      ·obtain⟨hl,ha0,ha1⟩:=hl;obtain⟨A,rfl⟩:=Aju ha0;have hA:A<= (Ah (Ao R) N).length:=by omega
       rw[Aab (by simp[Ak,Ae,Aq,Ac];omega),Aab (by decide),Aab (by simp[Ak,Ae,Aq,Ac];omega),Da (by omega) (by omega),Aa,RG];have hh:=h;clear hf;obtain⟨rfl,rfl,rfl,rfl,rfl,hs,hf⟩:=hh;have hlp:=Afz hs hf A hA o p g (A:Int) x u v A 0 Ay (by omega) (by have:=Au;have:=Aa0 hf;omega);have h0:FA C W (Ah (Ao R) N) 0=0:=by rw[FA,Bey,Bkf];simp
       rw[h0,show((0:Nat):Int)=0 from rfl]at hlp;rw[show((A:Int)).toNat=A from rfl,hlp,Amv hs hf A hA,Aa];by_cases hx:(x.length:Int)<=FA C W (Ah (Ao R) N) A
       ·refine .inr ⟨?_,?_, .tab F C W R N A h hp ht hl rfl (by omega)⟩
        ·rw[ZJ,Ac,Bhq hx]
        ·rw[Aab (by rw[Aq,Ac];simp;omega)]
       ·refine .inl ⟨?_,?_⟩
        ·rw[ZJ,Ac,Bei hx]
        ·rw[Aah (by rw[Aq,Ac];simp;omega)]
      ·refine .inl ⟨?_,?_⟩
       ·rw[Aah (by simp[Ak,Ae,Aq,Ac];omega)]
       ·rw[Aab (by decide),Aah (by simp[Ak,Ae,Aq,Ac];omega)]
     ·refine .inl ⟨?_,?_⟩
      ·rw[Aab ht,Aah (by simp[Ak])]
      ·rw[Aab ht,Aah (by decide),Aah (by simp)]
   ·rw[Aah (by simpa using hp),Aa,Aa,Aah (by decide),Aah (by decide)];exact .inl ⟨rfl,rfl⟩
  ·rw[e1,e2,Aa,Aa];simp only;rw[Aah (by decide),Aah (by decide)];exact .inl ⟨rfl,rfl⟩
theorem Aw0(b:List UInt8)(n:Int):Cd (cH b n).2:=by
 unfold cH
 repeat' split
 all_goals first|decide|exact .inl rfl
theorem Ayl(b:List UInt8):(Yy b).2=6\/Cd (Yy b).2:=by
 unfold Yy yI
 repeat' split
 all_goals first|exact .inl rfl|exact .inr (Aw0 _ _)|exact .inr (by decide)
theorem Au8(b:List UInt8):(Kx b).2=6\/Cd (Kx b).2:=by
 unfold Kx
 repeat' split
 all_goals first|exact .inl rfl|exact .inr (.inl rfl)|exact .inr (by decide)
theorem Ayf(b:List UInt8):(Ct b).2=6\/Cd (Ct b).2:=by
 unfold Ct;split
 ·exact Ayl b
 ·exact Au8 b
theorem Ahc(b:List UInt8):∀(j p:Nat),p<=b.length->b.length<j+p->Cd (Ch b j p).2
 |0,p,h1,h2=>by omega
 |j+1,p,h1,h2=>by
  rw[Ch];split
  ·exact .inl rfl
  ·rename_i h6;split
   ·exact(Ayf _).resolve_left h6
   ·rename_i h0;split
    ·exact(by decide:Cd 4)
    ·have hz:Ct (b.drop p)=((Ct (b.drop p)).1,0):=by rw[Prod.ext_iff];exact⟨rfl,by simpa using h0⟩
     obtain⟨k1,k2⟩:=mX hz;rw[Akm]at k2;split
     ·exact .inl rfl
     ·exact Ahc b j _ (by omega) (by omega)
theorem wM(b:List UInt8):Cd (Az b).2:=by
 unfold Az Adl;split
 ·exact .inl rfl
 ·exact Ahc b _ _ (by omega) (by omega)
theorem wY(b:List UInt8):0<= (Az b).2:=(wM b).nn
theorem Aat(b:List UInt8):Cd (Dt b).2.2.2.2.2:=by
 unfold Dt
 repeat' split
 all_goals first|decide|exact .inl rfl
theorem Aa3(b:List UInt8):0<= (Dt b).2.2.2.2.2:=(Aat b).nn
theorem Ay0(b:List UInt8){n:Nat}(h:1<=n/\n<=1000):Cd (Er b n).2:=by
 unfold Er;rw[Aab (λe=>e h)]
 repeat' split
 all_goals first|decide|exact .inl rfl
theorem Aen(b:List UInt8)(n:Nat):0<= (Er b n).2:=by
 unfold Er
 repeat' split
 all_goals simp
def xW:List UInt8:=[73,68,51]
def zO:List UInt8:=[65,80,69,84,65,71,69,88]
def Pa(b s:List UInt8):Bool:=decide (b.length<s.length)&&(b==s.take b.length)
theorem Agd(b s:List UInt8):Tk b s=some (Pa b s):=by
 rw[Tk,Pa];by_cases h:b.length<s.length
 ·rw[Aah (by rw[Ae,Ac,Ac];simp;omega),Ac,Da (by omega) (by omega),Aa,Bhq h,Bi4];rfl
 ·rw[Aab (by rw[Ae,Ac,Ac];simp;omega),Bei h];rfl
theorem Axz(b s:List UInt8)(h:b.length<s.length):Jt s b=some (Pa b s):=by
 rw[Jt,Hs,Aah (by rw[Dq,Ac,Ac];simp;omega),Ac,Da (by omega) (by omega),Aa,Aa,Pa,Bhq h,Bi4,Ahr];congr 1;rw[Amo,Av2,Av2];exact eq_comm
theorem oP{b s:List UInt8}(h:¬b.length<s.length):Pa b s=false:=by rw[Pa,Bei h];rfl
theorem Azk(b:List UInt8):Rh b=some (Pa b xW||Pa b zO):=by
 obtain⟨q,hq⟩:∃q,Ay=q+3:=⟨Ay-3,by have:=Au;omega⟩;have l3:Kq b (q+1) 2=some false:=by rw[Kq,Wu,Aab (by decide)];rfl
 have l2:Kq b (q+2) 1=some (Pa b zO):=by
  rw[Kq,Wu,Aah (by decide),show Ap ([([73,68,51]:LB),([65,80,69,84,65,71,69,88]:LB)]:List LB) 1=some zO from rfl,Aa,show Ad (1:Int) 1=2 from rfl];by_cases h:b.length<zO.length
  ·rw[Aah (by rw[Ae,Ac,Ac];simp;omega),Axz b zO h,Aa];by_cases hb:Pa b zO=true
   ·rw[Aah hb,hb]
   ·rw[Aab hb,l3];simpa using hb
  ·rw[Aab (by rw[Ae,Ac,Ac];simp;omega),l3,oP h]
 rw[Rh,RO,RJ,hq,Kq,Wu,Aah (by decide),show Ap ([([73,68,51]:LB),([65,80,69,84,65,71,69,88]:LB)]:List LB) 0=some xW from rfl,Aa,show Ad (0:Int) 1=1 from rfl];by_cases h:b.length<xW.length
 ·rw[Aah (by rw[Ae,Ac,Ac];simp;omega),Axz b xW h,Aa];by_cases hb:Pa b xW=true
  ·rw[Aah hb,hb];rfl
  ·rw[Aab hb,l2,Bool.eq_false_iff.2 hb];rfl
 ·rw[Aab (by rw[Ae,Ac,Ac];simp;omega),l2,oP h];rfl
def stS(b:List UInt8):Int×Int×Int×Int×Int×Int×Int:=
 if(Az b).2=24 then(0,0,0,0,0,0, -1)else if(Az b).2≠0 then(0,0,0,0,0,0,(Az b).2)else
 if(Pa (Eg b) xW||Pa (Eg b) zO)=true then(0,0,0,0,0,0, -1)else
 if(Dt (Eg b)).2.2.2.2.2=24 then(0,0,0,0,0,0, -1)else((Az b).1+22,(Dt (Eg b)).1,(Dt (Eg b)).2.1,(Dt (Eg b)).2.2.1,(Dt (Eg b)).2.2.2.1,(Dt (Eg b)).2.2.2.2.1,(Dt (Eg b)).2.2.2.2.2)
theorem Zg(b:List UInt8)(hb:b.length<=100000):Zr b=some (stS b):=by
 rw[Zr,GC,Vp b (by omega),Aa,stS];have hok:=Xh (b:=b);simp only;by_cases h1:(Az b).2=24
 ·rw[Aah (by rw[Ar];simpa using h1),Aah h1]
 rw[Aab (by rw[Ar];simpa using h1),Aab h1];by_cases h2:(Az b).2≠0
 ·rw[Aah (by rw[Ak];simpa using h2),Aah h2]
 have h0:(Az b).2=0:=by simpa using h2
 obtain⟨k1,k2,k3⟩:=hok h0;rw[Aab (by rw[Ak,h0];simp),Aab h2,Ca (by omega) (by omega),Aa,Agd,Aa,show b.drop (Az b).1.toNat=Eg b from rfl,show([73,68,51]:LB)=xW from rfl,show([65,80,69,84,65,71,69,88]:LB)=zO from rfl];by_cases h3:Pa (Eg b) xW=true
 ·rw[Aah h3,h3,Bool.true_or,Aah rfl]
 rw[Aab h3,Agd,Aa,Bool.eq_false_iff.2 h3,Bool.false_or];by_cases h4:Pa (Eg b) zO=true
 ·rw[Aah h4,Aah h4]
 have hl:(Eg b).length<=b.length:=by rw[Eg,Akm];omega
 rw[Aab h4,Aab h4,EY,FE,XJ _ (by omega),Aa];simp only;by_cases h5:(Dt (Eg b)).2.2.2.2.2=24
 ·rw[Aah (by rw[Ar];simpa using h5),Aah h5]
 ·rw[Aab (by rw[Ar];simpa using h5),Aab h5,Aj (by omega) (by omega)]
theorem Oc{p q:LB}{n:Nat}(h:n<=p.length):(p++q).take n=p.take n:=by rw[Bf7 h]
theorem vB{p q:LB}{i:Nat}(h:i<p.length):(p++q).getD i 0=p.getD i 0:=by
 rw[List.getD_eq_getElem?_getD,List.getElem?_append_left h,<-List.getD_eq_getElem?_getD]
theorem Rf{p q:LB}{a w:Nat}(h:a+w<=p.length):part (p++q) a w=part p a w:=by rw[part,Oc h,part]
theorem Ayt{p q s:LB}(h:Pa p s=false)(hl:p.length<s.length):(p++q).take s.length≠s:=by
 intro e;rw[Pa,Bhq hl,Bi4]at h;have h1:p=s.take p.length:=by
  have:=congrArg (List.take p.length) e;rw[Bjb,Bep (by omega),Oc (An0 _),Bgh]at this;exact this
 rw[<-h1]at h;simp at h
theorem Af6{p:LB}(q:LB)(h:(Yy p).2≠24)(h6:Pa p xW=false):Yy (p++q)=Yy p:=by
 unfold Yy at h⊢;by_cases h3:3<=p.length/\p.take 3=[73,68,51]
 ·have h3':3<= (p++q).length/\ (p++q).take 3=[73,68,51]:=⟨by rw[Aav];omega,by rw[Oc h3.1];exact h3.2⟩;have n1:¬ ¬(3<=p.length/\p.take 3=[73,68,51]):=λf=>f h3;have n2:¬ ¬(3<= (p++q).length/\ (p++q).take 3=[73,68,51]):=λf=>f h3';rw[Aab n1]at h;rw[Aab n1,Aab n2];by_cases h10:p.length<10
  ·rw[Aah h10]at h;exact absurd rfl h
  ·have h10':¬(p++q).length<10:=by rw[Aav];omega
   rw[Aab h10]at h;rw[Aab h10,Aab h10',Rf (by omega),vB (by omega),vB (by omega),vB (by omega)];split
   ·rfl
   ·rename_i hc;rw[Aab hc]at h;unfold yI cH at h⊢;rw[vB (by omega)];generalize(bK (part p 6 4) 0).1+10+(if p.getD 5 0=16 then 10 else 0)=n at h⊢;by_cases c1:4000<n
    ·rw[Aah c1,Aah c1]
    ·rw[Aab c1]at h;rw[Aab c1,Aab c1];by_cases c2:(p.length:Int)<n
     ·rw[Aah c2]at h;exact absurd rfl h
     ·have c2':¬((p++q).length:Int)<n:=by rw[Aav];omega
      rw[Aab c2,Aab c2',Oc (by omega),Rf (by omega)]
 ·rw[Aah h3,Aah];rintro⟨_,h5⟩;by_cases hl:3<=p.length
  ·rw[Oc hl]at h5;exact h3 ⟨hl,h5⟩
  ·exact Ayt h6 (by simp[xW];omega) h5
theorem Apr{p:LB}(q:LB)(h:(Kx p).2≠24)(h6:Pa p zO=false):Kx (p++q)=Kx p:=by
 unfold Kx at h⊢;by_cases h3:8<=p.length/\p.take 8=zN
 ·have h3':8<= (p++q).length/\ (p++q).take 8=zN:=⟨by rw[Aav];omega,by rw[Oc h3.1];exact h3.2⟩;have n1:¬ ¬(8<=p.length/\p.take 8=zN):=λf=>f h3;have n2:¬ ¬(8<= (p++q).length/\ (p++q).take 8=zN):=λf=>f h3';rw[Aab n1]at h;rw[Aab n1,Aab n2];by_cases h10:p.length<32
  ·rw[Aah h10]at h;exact absurd rfl h
  ·have h10':¬(p++q).length<32:=by rw[Aav];omega
   have eb:GF (p++q)=GF p:=by rw[GF,GF,Rf (by omega),Rf (by omega)]
   rw[Aab h10]at h;rw[Aab h10,Aab h10',Rf (by omega),Rf (by omega),eb,Oc (n:=32) (by omega)];split
   ·rfl
   ·rename_i hc;rw[Aab hc]at h;by_cases c2:p.length<Fu (part p 12 4)+32
    ·rw[Aah c2]at h;exact absurd rfl h
    ·have c2':¬(p++q).length<Fu (part p 12 4)+32:=by rw[Aav];omega
     rw[Aab c2,Aab c2',Oc (by omega)]
 ·rw[Aah h3,Aah];rintro⟨_,h5⟩;by_cases hl:8<=p.length
  ·rw[Oc hl]at h5;exact h3 ⟨hl,h5⟩
  ·exact Ayt h6 (by simp[zO];omega) h5
theorem wC{p:LB}(q:LB)(h:(Ct p).2≠24)(h6:(Ct p).2=6->Pa p xW=false/\Pa p zO=false):Ct (p++q)=Ct p:=by
 have Bg7:∀s:LB,s.length<=p.length->Pa p s=false:=λs hs=>oP (by omega);unfold Ct at h h6⊢;by_cases hT:(Yy p).2≠6
 ·rw[Aah hT]at h⊢;have h3:Pa p xW=false:=by
   refine Bg7 _ ?_;unfold Yy at hT;by_cases h3:3<=p.length/\p.take 3=[73,68,51]
   ·simp[xW];omega
   ·rw[Aah h3]at hT;exact absurd rfl hT
  rw[Af6 q h h3,Aah hT]
 ·rw[Aab hT]at h h6⊢;have hb:Pa p xW=false/\Pa p zO=false:=by
   by_cases hA:(Kx p).2=6
   ·exact h6 hA
   ·unfold Kx at hA;by_cases h3:8<=p.length/\p.take 8=zN
    ·exact⟨Bg7 _ (by simp[xW];omega),Bg7 _ (by simp[zO];omega)⟩
    ·rw[Aah h3]at hA;exact absurd rfl hA
  have hT':¬(Yy (p++q)).2≠6:=by
   rw[Af6 q (by simp only[ne_eq,Classical.not_not]at hT;rw[hT];decide) hb.1];exact hT
  rw[Aab hT',Apr q h hb.2]
theorem Aex{p:LB}(q:LB):∀(j s j':Nat),s<=p.length->p.length-s<j->p.length+q.length-s<j'-> (Ch p j s).2≠24->
  ((Ch p j s).2=0->Pa (p.drop (s+(Ch p j s).1.sum.toNat)) xW=false/\Pa (p.drop (s+(Ch p j s).1.sum.toNat)) zO=false)->Ch (p++q) j' s=Ch p j s
 |0,s,j',_,hj,_,_,_=>absurd hj (Bhc _)
 |j+1,s,0,_,_,hj,_,_=>absurd hj (Bhc _)
 |j+1,s,j'+1,hs,hj,hj',h,hb=>by
  have ed:(p++q).drop s=p.drop s++q:=Bi7 hs;rw[Ch]at h hb⊢;rw[Ch,ed];by_cases h6:(Ct (p.drop s)).2=6
  ·rw[Aah h6]at h hb⊢;have hb':=hb rfl;simp only[Bkf,Int.toNat_zero,Bg2]at hb';rw[wC q (by rw[h6];decide) (λ_=>hb'),Aah h6]
  ·rw[Aab h6]at h hb⊢;by_cases h0:(Ct (p.drop s)).2≠0
   ·rw[Aah h0]at h⊢;rw[wC q h (λe=>absurd e h6),Aab h6,Aah h0]
   ·rw[Aab h0]at h hb⊢;have h0':(Ct (p.drop s)).2=0:=by simpa using h0
    have e1:Ct (p.drop s++q)=Ct (p.drop s):=wC q (by rw[h0'];decide) (λe=>absurd e h6);rw[e1,Aab h6,Aab h0];have hok:=mX (b:=p.drop s) (n:=(Ct (p.drop s)).1) (by rw[<-h0']);rw[Akm]at hok;by_cases hm:4000<(s:Int)+(Ct (p.drop s)).1
    ·rw[Aah hm,Aah hm]
    ·rw[Aab hm]at h hb⊢;rw[Aab hm];have hl1:s+(Ct (p.drop s)).1.toNat<=p.length:=by omega
     have ih:=Aex (p:=p) q j (s+(Ct (p.drop s)).1.toNat) j' hl1 (by omega) (by omega);by_cases hr:(Ch p j (s+(Ct (p.drop s)).1.toNat)).2=0
     ·rw[Aah hr]at hb⊢;have hle1:s+(Ct (p.drop s)).1.toNat<=p.length:=by omega
      have hle2:s+(Ct (p.drop s)).1.toNat<=4000:=by omega
      have hi:=(oU p j (s+(Ct (p.drop s)).1.toNat) hle1 hle2 hr).1;have hsum:(0:Int)<= (Ch p j (s+(Ct (p.drop s)).1.toNat)).1.sum:=by
       have:∀l:List Int,(∀x∈l,10<=x)->0<=l.sum:=by
        intro l
        induction l with
        |nil=>intro _;simp
        |cons a l ih=>intro h;rw[Av4];have:=h a (by simp);have:=ih (λx hx=>h x (by simp[hx]));omega
       exact this _ hi
      rw[ih (by rw[hr];decide) (λ_=>by
       have:=hb rfl;simp only[Av4]at this;rw[show s+((Ct (p.drop s)).1+(Ch p j (s+(Ct (p.drop s)).1.toNat)).1.sum).toNat=s+(Ct (p.drop s)).1.toNat+(Ch p j (s+(Ct (p.drop s)).1.toNat)).1.sum.toNat by omega]at this;exact this),Aah hr]
     ·rw[Aab hr]at h⊢;rw[ih h (λe=>absurd e hr),Aab hr]
theorem Aca{p:LB}(q:LB)(h:(Az p).2≠24)(hb:(Az p).2=0->Pa (Eg p) xW=false/\Pa (Eg p) zO=false):Az (p++q)=Az p:=by
 have key:Ch (p++q) ((p++q).length+1) 0=Ch p (p.length+1) 0:=by
  refine Aex q (p.length+1) 0 ((p++q).length+1) (Nat.zero_le _) (by omega) (by rw[Aav];omega) ?_ ?_
  ·unfold Az Adl at h;by_cases h0:(Ch p (p.length+1) 0).2=0
   ·rw[h0];decide
   ·rw[Aab h0]at h;exact h
  ·intro h0;have e:Az p=(((0:Nat):Int)+(Ch p (p.length+1) 0).1.sum,0):=by unfold Az Adl;rw[Aah h0]
   have:=hb (by rw[e]);rw[Eg,e]at this;simpa using this
 unfold Az Adl;rw[key]
theorem Auj{p:LB}(q:LB)(h:(Dt p).2.2.2.2.2≠24):Dt (p++q)=Dt p:=by
 unfold Dt at h⊢;by_cases h1:p.take (min 4 p.length)≠Pg.take (min 4 p.length)
 ·have h1':(p++q).take (min 4 (p++q).length)≠Pg.take (min 4 (p++q).length):=by
   intro e;have hle:min 4 p.length<=min 4 (p++q).length:=by rw[Aav];omega
   have:=congrArg (List.take (min 4 p.length)) e;rw[Bjb,Bjb,Bep hle,Oc (by omega)]at this;exact h1 this
  rw[Aah h1,Aah h1']
 ·rw[Aab h1]at h;by_cases h2:p.length<22
  ·rw[Aah h2]at h;exact absurd rfl h
  ·have h2':¬(p++q).length<22:=by rw[Aav];omega
   have h1':¬(p++q).take (min 4 (p++q).length)≠Pg.take (min 4 (p++q).length):=by
    rw[Bep (by omega)]at h1⊢;rw[Oc (by omega)];exact h1
   have e0:f0 (p++q)=f0 p:=by unfold f0;rw[Rf (by omega)]
   have e1:f1 (p++q)=f1 p:=by unfold f1;rw[Rf (by omega)]
   have e2:f2 (p++q)=f2 p:=by unfold f2;rw[Rf (by omega)]
   have e3:f3 (p++q)=f3 p:=by unfold f3;rw[Rf (by omega)]
   have e4:f4 (p++q)=f4 p:=by unfold f4;rw[Rf (by omega)]
   rw[Aab h1,Aab h1',Aab h2,Aab h2',e0,e1,e2,e3,e4,Oc (by omega),Rf (by omega)]
theorem Bb9{p:LB}(q:LB)(h:(stS p).2.2.2.2.2.2≠ -1):stS (p++q)=stS p:=by
 unfold stS at h⊢;by_cases h1:(Az p).2=24
 ·rw[Aah h1]at h;exact absurd rfl h
 rw[Aab h1]at h;by_cases h2:(Az p).2≠0
 ·rw[Aca q h1 (λe=>absurd e h2),Aab h1,Aah h2,Aab h1,Aah h2]
 rw[Aab h2]at h;have h0:(Az p).2=0:=by simpa using h2
 by_cases h3:(Pa (Eg p) xW||Pa (Eg p) zO)=true
 ·rw[Aah h3]at h;exact absurd rfl h
 rw[Aab h3]at h;have h3f:Pa (Eg p) xW=false/\Pa (Eg p) zO=false:=by
  simp only[Bool.not_eq_true,Bkv]at h3;exact h3
 have eF:=Aca q h1 (λ_=>h3f);obtain⟨k1,k2,k3⟩:=Xh h0;have eH:Eg (p++q)=Eg p++q:=by rw[Eg,eF,Eg,Bi7 (by omega)]
 by_cases h5:(Dt (Eg p)).2.2.2.2.2=24
 ·rw[Aah h5]at h;exact absurd rfl h
 have eR:Dt (Eg p++q)=Dt (Eg p):=Auj q h5;have beg:∀s:LB,Pa (Eg p) s=false-> (s=xW\/s=zO)->Pa (Eg p++q) s=false:=by
  intro s hs hk;by_cases hl:(Eg p++q).length<s.length
  ·have hp:(Eg p).length<s.length:=by rw[Aav]at hl;omega
   rw[Pa,Bhq hp,Bi4]at hs;rw[Pa,Bhq hl,Bi4];refine beq_eq_false_iff_ne.2 λe=>?_;have:=congrArg (List.take (Eg p).length) e;rw[Oc (An0 _),Bgh,Bjb,Bep (by rw[Aav];omega)]at this;rw[<-this]at hs;simp at hs
  ·exact oP hl
 rw[eF,eH,eR,Aab h1,Aab h2,beg _ h3f.1 (.inl rfl),beg _ h3f.2 (.inr rfl),Aab (by decide),Aab h5,Aab h1,Aab h2,Aab h3]
theorem Avk{p:LB}(q:LB)(n:Nat)(h:(Er p n).2≠24):Er (p++q) n=Er p n:=by
 unfold Er at h⊢;by_cases h1:1<=n/\n<=1000
 ·have n1:¬ ¬(1<=n/\n<=1000):=λf=>f h1;rw[Aab n1]at h;rw[Aab n1,Aab n1];by_cases h2:p.length<4*n+4
  ·rw[Aah h2]at h;exact absurd rfl h
  ·have h2':¬(p++q).length<4*n+4:=by rw[Aav];omega
   have et:QH (p++q) n=QH p n:=by
    unfold QH;refine Bk9 λi hi=>?_;rw[List.mem_range]at hi;rw[Rf (by omega)]
   rw[Aab h2,Aab h2',Oc (by omega),Rf (by omega),et]
 ·rw[Aah h1,Aah h1]
def An5(g a:LB)(k p o u v:Int)(f:LI)(b:Int)(h:LB)(m:Bool)(n:Int):Option Int:=
if(geq k 0)then
(Jm a).bind λ(al,ba)=>
if(geq ba 24)then
Fc true 0
else
if(Bi ba 0)then
(Al ba).bind λ(bx,bz)=>
Fc bx bz
else
(Bk a al (Ac a)).bind λda=>
(Rh da).bind λan=>
if an then
Fc true 0
else
(Bk a al (Ac a)).bind λdb=>
(Nc db).bind λ(ae,af,aa,ag,ab,bb)=>
if(geq bb 24)then
Fc true 0
else
if(Bi bb 0)then
(Al bb).bind λ(dc,dd)=>
Fc dc dd
else
(
(Bk a (Ad al 22) (Ac a)).bind λak=>
(
Yx g ak ae af aa ag ab b m n f h))
else
if(geq (Ac f) 0)then
if(geq k 2)then
if(Cr (Ac a) 8)then
Kf true 0
else
Yu g a k p o u v b m n f h
else
Ki g a k p o u v b m n f h 0
else
if(Cr b (Ac f))then
(Ap f b).bind λ_=>
(Ap f b).bind λw=>
if(Cr (Ac a) w)then
Ij true 0
else
(Uf g).bind λ(ap,am)=>
if(Bi am 0)then
(Al am).bind λ(de,df)=>
Ij de df
else
(Dm k p o u v).bind λ(ad,dg)=>
if((Bi dg 0)||(Om b (Ac ad)))then
(Al 8).bind λ(dh,di)=>
Ij dh di
else
Yw w g a k p o u v b m n ap ad f h
else
if(Ez (Ac a) 4000)then
(Al 38).bind λ(dj,bf)=>
Bs ((dj==true)&&((geq bf 0)&&true))
else
Yv
theorem rG(d:Bool)(e:Int):Fc d e=Bs (d&&geq e 0):=by
 rw[Fc,KM];cases d<;>simp
theorem Abl(d:Bool)(e:Int):Kf d e=Bs (d&&geq e 0):=by
 rw[Kf,HH];cases d<;>simp
theorem Apq(d:Bool)(e:Int):Ij d e=Bs (d&&geq e 0):=by
 rw[Ij,JS];cases d<;>simp
theorem rp4{o p:LB}{f c w r n:Int}{g:LI}{a:Int}{x:LB}{u:Bool}{v:Int}{t1 t2:LB}{t3 t4 t5 t6 t7:Int}{t8:LI}{t9:Int}{t10:LB}{t11:Bool}{t12 e:Int}
  (h:Ag o p f c w r n g a x u v=some (t1,t2,t3,t4,t5,t6,t7,t8,t9,t10,t11,t12,e)):Cl o p f c w r n g a x u v=some (geq e (-1)):=by
 rw[Cl,Xz,h,Aa]
theorem eT{e:Int}(h:0<=e):geq e (-1)=false:=by rw[Ar,beq_eq_false_iff_ne];omega
theorem At2(o p:LB)(c w r n:Int)(g:LI)(a:Int)(x:LB)(u:Bool)(v:Int)(hp:p.length<=100000):
  ∃B:Bool,An5 o p 0 c w r n g a x u v=Bs B/\Cl o p 0 c w r n g a x u v=some B:=by
 have hT:Ag o p 0 c w r n g a x u v=Ag o p 0 c w r n g a x u v:=rfl
 conv at hT=>rhs;rw[Ag,Bl,Aah (by decide),Zg p hp,Aa,stS]
 have hfn:=wY p;have hrn:=Aa3 (Eg p);rw[An5,Aah (by decide),Qf p (by omega),Aa];have hok:=Xh (b:=p);simp only at hT⊢;by_cases h1:(Az p).2=24
 ·rw[Aah h1]at hT;simp only at hT;rw[Aah (by decide)]at hT;rw[Aah (by rw[Ar];simpa using h1),rG];exact⟨_,rfl,rp4 hT⟩
 rw[Aab h1]at hT;rw[Aab (by rw[Ar];simpa using h1)];by_cases h2:(Az p).2≠0
 ·rw[Aah h2]at hT;simp only at hT;rw[Aah (by rw[Ak];simpa using h2)]at hT;rw[Aah (by rw[Ak];simpa using h2),Al,Aa];simp only;rw[rG];exact⟨_,rfl,(rp4 hT).trans (by rw[eT hfn];rfl)⟩
 have h0:(Az p).2=0:=by simpa using h2
 obtain⟨k1,k2,k3⟩:=hok h0;have hl:(Eg p).length=p.length-(Az p).1.toNat:=by rw[Eg,Akm]
 rw[Aab h2]at hT;rw[Aab (by rw[Ak,h0];simp),Ca (by omega) (by omega),Aa,Aa,show p.drop (Az p).1.toNat=Eg p from rfl,Azk,Aa];by_cases h3:(Pa (Eg p) xW||Pa (Eg p) zO)=true
 ·rw[Aah h3]at hT⊢;simp only at hT;rw[Aah (by decide)]at hT;rw[rG];exact⟨_,rfl,rp4 hT⟩
 rw[Aab h3]at hT⊢;rw[NY _ (by omega),Aa];by_cases h5:(Dt (Eg p)).2.2.2.2.2=24
 ·rw[Aah h5]at hT;simp only at hT;rw[Aah (by decide)]at hT;rw[Aah (by rw[Ar];simpa using h5),rG];exact⟨_,rfl,rp4 hT⟩
 rw[Aab h5]at hT;rw[Aab (by rw[Ar];simpa using h5)];simp only at hT;by_cases h6:(Dt (Eg p)).2.2.2.2.2≠0
 ·rw[Aah (by rw[Ak];simpa using h6)]at hT⊢;rw[Al,Aa];simp only;rw[rG];exact⟨_,rfl,(rp4 hT).trans (by rw[eT hrn];rfl)⟩
 have h7:(Dt (Eg p)).2.2.2.2.2=0:=by simpa using h6
 have h22:=(dR h7).2.1;rw[Aab (by rw[Ak,h7];simp),Ca (by omega) (by omega),Aa,Hg,He,Ej]at hT;rw[Aab (by rw[Ak,h7];simp),Aj (by omega) (by omega),Ca (by omega) (by omega),Aa,Yx,KL,Pz];simp only;by_cases h8:((o==([]:LB)) !=geq (Dt (Eg p)).1 1)=true
 ·rw[Aah h8]at hT⊢;rw[Aa]at hT⊢;rw[Al,Aa];simp only;rw[rG];exact⟨_,rfl,rp4 hT⟩
 ·rw[Aab h8]at hT⊢;rw[Aa]at hT⊢;rw[Al,Aa];simp only;rw[rG];exact⟨_,rfl,rp4 hT⟩
section
variable {f c w r n:Int} {F C W R N:Nat} (hd:HdI f c w r n F C W R N)
include hd
theorem HdI.ne0:¬(geq f 0=true):=by
 have:=hd.num;rw[Ar,Av2,hd.ef];omega
theorem xR(o p:LB)(hp:p.length<=100000)(A:Nat)(hA:A<=p.length)(a:Int)(x:LB)(u:Bool)(v:Int):
  (Ki o p f c w r n a u v [] x (A:Int)=Bs (decide ((Er (p.drop A) (Ah (Ao R) N).length).2=24)))/\
  Dk p f c w r n (A:Int)=some (if(Er (p.drop A) (Ah (Ao R) N).length).2=24 then(0,[], -1)else((A:Int)+(4*((Er (p.drop A) (Ah (Ao R) N).length).1.length:Int)+4),(Er (p.drop A) (Ah (Ao R) N).length).1,(Er (p.drop A) (Ah (Ao R) N).length).2))/\
  ((Er (p.drop A) (Ah (Ao R) N).length).2=0-> (A:Int)+(4*((Er (p.drop A) (Ah (Ao R) N).length).1.length:Int)+4)<=p.length):=by
 have hs:=pD (p.drop A) (Ah (Ao R) N).length (by rw[Akm];omega);have hr:=Abk (p.drop A) (Ah (Ao R) N).length (by rw[Akm];omega);have hok:=dF (b:=p.drop A) (n:=(Ah (Ao R) N).length);have hlen:(Er (p.drop A) (Ah (Ao R) N).length).1.length<=1000:=by
  unfold Er
  repeat' split
  all_goals simp[Ty]
  all_goals omega
 have hfit:(Er (p.drop A) (Ah (Ao R) N).length).2=0-> (A:Int)+(4*((Er (p.drop A) (Ah (Ao R) N).length).1.length:Int)+4)<=p.length:=by
  intro h0;obtain⟨k1,k2,k3,k4,_⟩:=hok h0;rw[k1];simp only[Ty];rw[Akm]at k4;omega
 refine⟨?_,?_,hfit⟩
 ·rw[Ki,IP,hd.BP,Aa];simp only;rw[Aab (by decide),Ca (by omega) (by omega),Aa,Ahr,Ac,hs,Aa];generalize Er (p.drop A) (Ah (Ao R) N).length=z at*
  obtain⟨z1,z2⟩:=z;simp only at*
  by_cases h1:z2=24
  ·rw[Aah (by rw[Ar];simpa using h1),Abl,Bhq h1];rfl
  rw[Aab (by rw[Ar];simpa using h1),Bei h1];by_cases h2:z2≠0
  ·rw[Aah (by rw[Ak];simpa using h2),Al,Aa];simp only;rw[Abl];rfl
  ·have h0:z2=0:=by simpa using h2
   have:=hfit h0;rw[Aab (by rw[Ak,h0];simp),Ac,Ab4 A z1.length (by omega) (by omega),Ca (by omega) (by omega),Aa,Abl];rfl
 ·rw[Dk,IH,Ca (by omega) (by omega),Aa,hd.Ak8,Aa,Ac,Ahr,hr,Aa];generalize Er (p.drop A) (Ah (Ao R) N).length=z at*
  obtain⟨z1,z2⟩:=z;simp only at*
  rw[GW,IY];by_cases h1:z2=24
  ·rw[Aah (by rw[Ar];simpa using h1),Aah h1]
  ·rw[Aab (by rw[Ar];simpa using h1),Aab h1,Ac,Ab4 A z1.length (by omega) (by omega)];congr 2
theorem Ba3(o p:LB)(ho:o.length<=64)(hp:p.length<=100000)(a:Int)(x:LB)(u:Bool)(v:Int):
  ∃B:Bool,An5 o p f c w r n [] a x u v=Bs B/\Cl o p f c w r n [] a x u v=some B:=by
 have hT:Ag o p f c w r n [] a x u v=Ag o p f c w r n [] a x u v:=rfl
 conv at hT=>rhs;rw[Ag,Bl,Aab hd.ne0,Bq,Br,Aah (by decide),Et,Ht]
 rw[An5,Aab hd.ne0,Aah (by decide)];have fin:∀A:Nat,A<=p.length->Ag o p f c w r n [] a x u v=(Dk p f c w r n (A:Int)).bind (λ(ag,ak,w1)=>
   if(Bi w1 0)then some (o,p,f,c,w,r,n,[],a,x,u,v,w1)else(Bk p ag (Ac p)).bind λal=>some (o,al,f,c,w,r,n,ak,a,x,u,v,0))->
   ∃B:Bool,Ki o p f c w r n a u v [] x (A:Int)=Bs B/\Cl o p f c w r n [] a x u v=some B:=by
  intro A hA hT;obtain⟨t1,t2,t3⟩:=xR hd o p hp A hA a x u v;have hnn:=Aen (p.drop A) (Ah (Ao R) N).length;rw[t2,Aa]at hT;rw[t1];generalize Er (p.drop A) (Ah (Ao R) N).length=z at*
  obtain⟨z1,z2⟩:=z;simp only at*
  by_cases h1:z2=24
  ·rw[Aah h1]at hT;simp only at hT;rw[Aah (by decide)]at hT;exact⟨_,rfl,(rp4 hT).trans (by rw[Bhq h1];rfl)⟩
  rw[Aab h1]at hT;simp only at hT;by_cases h2:z2≠0
  ·rw[Aah (by rw[Ak];simpa using h2)]at hT;exact⟨_,rfl,(rp4 hT).trans (by rw[Bei h1,eT hnn])⟩
  ·have h0:z2=0:=by simpa using h2
   have:=t3 h0;rw[Aab (by rw[Ak,h0];simp),Ca (by omega) (by omega),Aa]at hT;exact⟨_,rfl,(rp4 hT).trans (by rw[Bei h1];rfl)⟩
 by_cases h2:geq f 2=true
 ·rw[Aah h2]at hT⊢;by_cases h8:p.length<8
  ·rw[Aah (by rw[Ae,Ac];simp;omega)]at hT⊢;rw[Aa]at hT;simp only at hT;rw[Aah (by decide)]at hT;rw[Abl];exact⟨_,rfl,rp4 hT⟩
  ·rw[Aab (by rw[Ae,Ac];simp;omega)]at hT⊢;have h8':(p.take 8).length=8:=by rw[Ajr];omega
   rw[Da (by omega) (by omega),Aa,oG o ho,Aa]at hT;rw[Yu,JP,Da (by omega) (by omega),Aa,show(8:Int).toNat=8 from rfl,Ach h8' ho,Aa];rw[show(8:Int).toNat=8 from rfl]at hT;simp only;rw[HC,KI,Aab (by decide)];by_cases he:(p.take 8==Te (Wv o).toNat 8)=true
   ·rw[Aab (by rw[bne,he];decide)]at hT;rw[Aab (by rw[he];decide)];exact fin 8 (by omega) hT
   ·have he':(p.take 8==Te (Wv o).toNat 8)=false:=by simpa using he
    rw[Aah (by rw[bne,he'];decide),Aa]at hT;simp only at hT;rw[Aah (by decide)]at hT;rw[Aah (by rw[he'];decide),Al,Aa];simp only;rw[Abl];exact⟨_,rfl,rp4 hT⟩
 ·rw[Aab h2]at hT⊢;exact fin 0 (by omega) hT
end
theorem Atw{f c w r n:Int}{F C W R N:Nat}(hd:HdI f c w r n F C W R N)(o p:LB)(ho:o.length<=64)(hp:p.length<=100000)(g:LI)(hg:Ud g=true)(hl:g.length=(Ah (Ao R) N).length)(A:Nat)(hA:A<=g.length)(x:LB)(hx:x.length<=14000000)(u:Bool)(v:Int):
  ∃B:Bool,An5 o p f c w r n g (A:Int) x u v=Bs B/\Cl o p f c w r n g (A:Int) x u v=some B:=by
 have hc:=hd.ec;subst hc;have hg':=hg;rw[Ud,Ada,Abv,DG g 100000 (by omega)]at hg';obtain⟨⟨g1,g2⟩,g5,g6⟩:=hg';have hT:Ag o p f (C:Int) w r n g (A:Int) x u v=Ag o p f (C:Int) w r n g (A:Int) x u v:=rfl
 conv at hT=>rhs;rw[Ag,Bl,Aab hd.ne0,Bq,Br,Aab (by rw[Ar,Ac];simp;intro e;subst e;simp at g1)]
 rw[An5,Aab hd.ne0,Aab (by rw[Ar,Ac];simp;intro e;subst e;simp at g1)];by_cases hA2:A=g.length
 ·subst hA2;rw[Aah (by rw[Ar,Ac];simp)]at hT;rw[Aab (by rw[Ae,Ac];simp)];by_cases h4:4000<p.length
  ·rw[Aah (by rw[Aq,Ac];simp;omega)]at hT⊢;rw[Al,Aa];simp only;exact⟨_,rfl,rp4 hT⟩
  ·rw[Aab (by rw[Aq,Ac];simp;omega)]at hT⊢;rw[Yv,HB];exact⟨_,rfl,rp4 hT⟩
 ·have hlt:A<g.length:=by omega
  have h5:=g5 g[A] (Am7 hlt);have hsum:=wZ g5 g[A] (Am7 hlt);rw[Aab (by rw[Ar,Ac];simp;omega),Dh,Fp,Bu hlt,Aa]at hT;rw[Aah (by rw[Ae,Ac];simp;omega),Bu hlt,Aa,Aa];by_cases hw:(p.length:Int)<g[A]
  ·rw[Aah (by rw[Ae,Ac];simpa using hw)]at hT⊢;rw[Aa]at hT;simp only at hT;rw[Aah (by decide)]at hT;rw[Apq];exact⟨_,rfl,rp4 hT⟩
  rw[Aab (by rw[Ae,Ac];simpa using hw)]at hT⊢;have KT:=hd.num;have hlt2:A<(Ah (Ao R) N).length:=by omega
  obtain⟨m,hm,m1,m2⟩:=Zi (Fh R) KT.2.2.2.2.1 (Am7 hlt2);have hb:Bt w:=by rw[hd.ew];unfold Bt;omega
  obtain⟨xs,e,d1,d2,d3,d4⟩:=FR (bits:=w) (ch:=C) (n:=m) (t:=Wd o) (p.take g[A].toNat) hb (Qb o) KT.2.1.1 KT.2.1.2 m1 (by omega);have hnn:=vX hb (Qb o) KT.2.1.1 KT.2.1.2 m1 (by omega) d2;rw[vU o ho,Aa];simp only;rw[Aab (by decide),hd.BP,Aa];simp only;rw[Aab (by simp[Ak,Dq,Ac];omega),Yw,IB,Bu hlt2,Aa,Da (by omega) (by omega),Aa,Aa,CX,Aa];simp only;rw[hm,d1,Aa];simp only;rw[dS o ho,Aa]at hT;simp only at hT;rw[Da (by omega) (by omega),Aa,Gs,Aa]at hT;simp only at hT;rw[hd.Ak8,Aa,Bu hlt2,Aa,Aa,hm]at hT;rw[d2,Aa]at hT;simp only at hT;rw[Fk,Fm]at hT;rw[IZ,Yr];by_cases he:e≠0
  ·rw[Aah (by rw[Ak];simpa using he)]at hT⊢;rw[Aa]at hT;simp only at hT;rw[Aah (by rw[Ak];simpa using he)]at hT;rw[Al,Aa];simp only;rw[Apq];exact⟨_,rfl,(rp4 hT).trans (by rw[eT hnn];rfl)⟩
  ·have he0:e=0:=by simpa using he
   obtain⟨k1,k2,k3⟩:=d3 he0;have hbl:=MP w xs;rw[Aab (by rw[Ak,he0];simp)]at hT⊢;rw[UF hb k2 k1,Aa,Aa]at hT;simp only at hT;rw[Aab (by decide),By (by simp;omega),Aa,Aqd,By (by omega),Aa,Aa,Ca (by omega) (by omega),Aa]at hT;rw[gD hb k2 k1,Aa];simp only;rw[Aab (by decide),By (by omega),Aa,Ca (by omega) (by omega),Aa,Apq];exact⟨_,rfl,rp4 hT⟩
theorem Akx(a:LI)(b:Int)(ha:a.length<=100):∀(j i q:Nat),i+j=a.length->j<q->∃r,Ce a b q (i:Int)=some r/\Om r 0=(a.drop i).any λy=>b==y
 |0,i,q+1,hi,_=>by
  refine⟨-1,?_,?_⟩
  ·rw[Ce,Fb,Aab (by rw[Ae,Ac];simp;omega)];rfl
  ·rw[show i=a.length by omega,Bhb];rfl
 |j+1,i,q+1,hi,hq=>by
  have hlt:i<a.length:=by omega
  obtain⟨r,h1,h2⟩:=Akx a b ha j (i+1) q (by omega) (by omega);rw[Ce,Fb,Aah (by rw[Ae,Ac];simp;omega),Bu hlt,Aa,drop_cons hlt,List.any_cons];by_cases h:b=a[i]
  ·rw[Aah (by rw[Ar];simpa using h)];refine⟨_,rfl,?_⟩;rw[Dq,Bhq (by omega),h];simp
  ·rw[Aab (by rw[Ar];simpa using h),Aj (by omega) (by omega)];refine⟨r,h1,?_⟩;rw[h2,beq_eq_false_iff_ne.2 h,Bool.false_or]
theorem Aww(v:Int):∃B:Bool,Tc v=some B/\Zx v=some B:=by
 obtain⟨r,h1,h2⟩:=Akx [4,12,16,22,24,26,38] v (by decide) 7 0 Ay rfl (by have:=Au;omega);refine⟨_,?_,rfl⟩;rw[Tc,Il,Kb,Io,Iq];have h1':Ce [4,12,16,22,24,26,38] v Ay 0=some r:=h1;rw[h1',Aa,Aa,h2];simp only[Bka,List.any_cons,List.any_nil,Bool.or_false,Ar,Bool.or_assoc]
theorem rU(B:Bool):Bs B=some (if B=true then 0 else 8):=by
 rw[Bs,ZN];cases B<;>rfl
theorem Bdy(a b:LB)(f g h k m:Int)(n:LI)(o:Int)(p:LB)(u:Bool)(v:Int)(hb:b.length<=16000000)(hn:n.length<=16000000)(hp:p.length<=16000000):
  Ee a b f g h k m n o p u v=some (a,b,f,g,h,k,m,n,o,p,u,v):=by
 rw[Ee,Mx,By (by simp;omega),Aa,Aa,Mx,By (by simp;omega),Aa,Aa,Gw,By (by simp;omega),Aa,Aa];rfl
theorem Ams(o p:LB)(f c w r n:Int)(g:LI)(a:Int)(x:LB)(u:Bool)(v:Int)(hp:p.length<=100000)(hg:g.length<=100000)(hx:x.length<=14000000):
  ∃E,Ta o p f c w r n g a x u v=some E/\Fs o p f c w r n g a x u v=some E:=by
 rw[Ta,AY,Fs];by_cases ho:64<o.length
 ·rw[Aah (by rw[Aq,Ac];simp;omega),Aah (by rw[Aq,Ac];simp;omega)];exact⟨8,rfl,rfl⟩
 have hO:¬(Ez (Ac o) 64=true):=by rw[Aq,Ac];simp;omega
 rw[Aab hO,Aab hO];by_cases hw:(geq v 0&& !u)=true
 ·rw[Aah hw,Aah hw,Bdy o p f c w r n g a x u v (by omega) (by omega) (by omega),Aa];simp only;rcases Ao7 o p f c w r n g a x u v with⟨e1,e2⟩|⟨e1,e2,hd⟩
  ·rw[e1,e2,Aa,Aa,Aab (by decide),Aah (by decide),rU];exact⟨8,rfl,rfl⟩
  ·rw[e1,e2,Aa,Aah rfl];have key:∃B:Bool,An5 o p f c w r n g a x u v=Bs B/\Cl o p f c w r n g a x u v=some B:=by
    cases hd with
    |new e1 e2 e3 e4 e5 e6 e7 e8=>subst e1;exact At2 o p c w r n g a x u v hp
    |head F C W R N h hpw e6 e7 e8=>subst e6;exact Ba3 h o p (by omega) hp a x u v
    |tab F C W R N A h hpw ht hl ea hA=>subst ea;exact Atw h o p (by omega) hp g ht hl A hA x hx u v
   obtain⟨B,k1,k2⟩:=key;rw[k2,Aa];refine⟨if B=true then 0 else 8,k1.trans (rU B),?_⟩;cases B<;>rfl
 ·rw[Aab hw,Aab hw];by_cases hl:(geq (Ac p) 0&&geq (Ac g) 0)=true
  ·rw[Aah hl,Aah hl];generalize(geq f 0&&(geq c 0&&(geq w 0&&(geq r 0&&(geq n 0&&true)))))=z;by_cases hz:((z&&geq a 0)&&gle (Ac x) 12000)=true
   ·rw[Aah hz];simp only[Ada,ZJ,Ac,Abv]at hz;obtain⟨⟨z1,z2⟩,z3⟩:=hz;have hN:¬((!(z&&geq a 0)||Ez (Ac x) 12000)=true):=by rw[z1,z2,Aq,Ac];simp;omega
    rw[Aab hN];by_cases hv:v=0
    ·have v1:geq v 0=true:=by rw[Ar];simpa using hv
     have v2:¬(Bi v 0=true):=by rw[Ak];simpa using hv
     rw[Aah v1,Aab v2,rU];exact⟨0,rfl,rfl⟩
    ·have v1:¬(geq v 0=true):=by rw[Ar];simpa using hv
     have v2:Bi v 0=true:=by rw[Ak];simpa using hv
     rw[Aab v1,Aah v2];obtain⟨B,k1,k2⟩:=Aww v;rw[k1,k2,Aa,Aa,rU,rU];cases u
     ·refine⟨if B=true then 0 else 8,by simp,?_⟩;cases B<;>rfl
     ·exact⟨8,rfl,rfl⟩
   ·rw[Aab hz,Aah,rU]
    ·exact⟨8,rfl,rfl⟩
    ·simp only[Ada,ZJ,Ac,Abv]at hz;simp only[Bat,Axk,Aq,Ac,Abv];by_cases hz2:(z&&geq a 0)=true
     ·rw[Ada]at hz2;exact .inr (by have hq:¬((x.length:Int)<=12000):=λh=>hz ⟨hz2,h⟩;omega)
     ·exact .inl (by simpa using hz2)
  ·rw[Aab hl,Aab hl,Aab (by simp),Aah (by simp),rU];exact⟨8,rfl,rfl⟩
def XU(bk:LB->Int->Int->Int->Int->Int->Int->LI->LB->As)(o:LB)(u:Bool)(v:Int):LB->Int->Int->Int->Int->Int->Int->LI->LB->As:=
 Jk (Pk bk o u v) (Ug bk o u v) (Mp bk o u v) (Up bk o u v) (Ls bk o u v) (Um bk o u v) (Tz bk o u v) (Cs bk o u v) (BA bk o u v) o u v
structure SzD (p:LB) (g:LI) (a:Int) (x:LB):Prop where
 hp:p.length<=100000
 hg:g.length<=1000
 hx:x.length+12000*(g.length-a.toNat)<=13000000
def muD(f:Int)(g:LI)(a:Int):Nat:=if f=0 then 1003 else if g=[]then 1002 else g.length-a.toNat+1
section
variable {bk:LB->Int->Int->Int->Int->Int->Int->LI->LB->As} {o p:LB} {f c w r n:Int} {g:LI} {a:Int} {x:LB} {u:Bool} {v:Int}
theorem Aw6(hp:p.length<=100000)(hg:g.length<=1000)(hx:x.length<=13000000):Ee o p f c w r n g a x u v=some (o,p,f,c,w,r,n,g,a,x,u,v):=by
 rw[Ee,Mx,By (by simp;omega),Aa,Aa,Mx,By (by simp;omega),Aa,Aa,Gw,By (by simp;omega),Aa,Aa];rfl
theorem Bhj(h:SzD p g a x)(e:Int):Cs bk o u v p f c w r n a true e g x=some (o,p,f,c,w,r,n,g,a,x,u,v,0):=by
 rw[Cs,NC,Aah rfl,Aw6 h.hp h.hg (by have:=h.hx;omega),Aa]
theorem Bhr{e:Int}(h:e≠0):Cs bk o u v p f c w r n a false e g x=some (o,[],0,0,0,0,0,[],0,x,false,e,e):=by
 rw[Cs,NC,Aab (by decide),Aah (by rw[Ak];simpa using h)];rfl
inductive StepR (bk:LB->Int->Int->Int->Int->Int->Int->LI->LB->As) (o p:LB) (f c w r n:Int) (g:LI) (a:Int) (x:LB) (u:Bool) (v:Int):Prop
 |wait:XU bk o u v p f c w r n a g x=some (o,p,f,c,w,r,n,g,a,x,u,v,0)->Ag o p f c w r n g a x u v=some (o,p,f,c,w,r,n,g,a,x,u,v, -1)->StepR bk o p f c w r n g a x u v
 |err (e:Int) {t1 t2:LB} {t3 t4 t5 t6 t7:Int} {t8:LI} {t9:Int} {t10:LB} {t11:Bool} {t12:Int}:0<e->XU bk o u v p f c w r n a g x=some (o,[],0,0,0,0,0,[],0,x,false,e,e)->
   Ag o p f c w r n g a x u v=some (t1,t2,t3,t4,t5,t6,t7,t8,t9,t10,t11,t12,e)->StepR bk o p f c w r n g a x u v
 |next (p':LB) (f' c' w' r' n':Int) (g':LI) (a':Int) (x':LB):XU bk o u v p f c w r n a g x=bk p' f' c' w' r' n' a' g' x'->Ag o p f c w r n g a x u v=some (o,p',f',c',w',r',n',g',a',x',u,v,0)->
   FitD o f' c' w' r' n' g' a' x'->SzD p' g' a' x'->p'.length<=p.length->muD f' g' a'<muD f g a->StepR bk o p f c w r n g a x u v
theorem f62{d:Bool}{e:Int}:Pk bk o u v a g x d e p f c w r n=Cs bk o u v p f c w r n a d e g x:=rfl
theorem f75{d:Bool}{e:Int}:Mp bk o u v f c w r n a x d e p g=Cs bk o u v p f c w r n a d e g x:=rfl
theorem mkW(hZ:SzD p g a x)(hF:XU bk o u v p f c w r n a g x=Cs bk o u v p f c w r n a true 0 g x)(hT:Ag o p f c w r n g a x u v=some (o,p,f,c,w,r,n,g,a,x,u,v, -1)):StepR bk o p f c w r n g a x u v:=
 .wait (hF.trans (Bhj hZ 0)) hT
theorem mkE{e:Int}{p2:LB}{f2 c2 w2 r2 n2 a2:Int}{g2:LI}{t1 t2:LB}{t3 t4 t5 t6 t7:Int}{t8:LI}{t9:Int}{t10:LB}{t11:Bool}{t12:Int}(he:0<e)(hF:XU bk o u v p f c w r n a g x=Cs bk o u v p2 f2 c2 w2 r2 n2 a2 false e g2 x)
  (hT:Ag o p f c w r n g a x u v=some (t1,t2,t3,t4,t5,t6,t7,t8,t9,t10,t11,t12,e)):StepR bk o p f c w r n g a x u v:= .err e he (hF.trans (Bhr (by omega))) hT
theorem HdI.fnz{F C W R N:Nat}(h:HdI f c w r n F C W R N):f≠0:=by
 have:=h.num;rw[h.ef];omega
theorem Awo(hp:p.length<=100000):StepR bk o p 0 0 0 0 0 [] 0 [] u v:=by
 have hZ:SzD p [] 0 []:=⟨hp,by simp,by simp⟩;have hT:Ag o p 0 0 0 0 0 [] 0 [] u v=Ag o p 0 0 0 0 0 [] 0 [] u v:=rfl
 conv at hT=>rhs;rw[Ag,Bl,Aah (by decide),Zg p hp,Aa,stS]
 have hF:XU bk o u v p 0 0 0 0 0 0 [] []=XU bk o u v p 0 0 0 0 0 0 [] []:=rfl
 conv at hF=>rhs;rw[XU,Jk,Aah (by decide),Qf p (by omega),Aa]
 have hfn:=wY p;have hrn:=Aa3 (Eg p);have hok:=Xh (b:=p);simp only at hT hF;by_cases h1:(Az p).2=24
 ·rw[Aah h1]at hT;simp only at hT;rw[Aah (by decide)]at hT;rw[Aah (by rw[Ar];simpa using h1)]at hF;exact mkW hZ hF hT
 rw[Aab h1]at hT;rw[Aab (by rw[Ar];simpa using h1)]at hF;by_cases h2:(Az p).2≠0
 ·rw[Aah h2]at hT;simp only at hT;rw[Aah (by rw[Ak];simpa using h2)]at hT;rw[Aah (by rw[Ak];simpa using h2),Al,Aa]at hF;exact mkE (by omega) hF hT
 have h0:(Az p).2=0:=by simpa using h2
 obtain⟨k1,k2,k3⟩:=hok h0;have hl:(Eg p).length=p.length-(Az p).1.toNat:=by rw[Eg,Akm]
 rw[Aab h2]at hT;rw[Aab (by rw[Ak,h0];simp),Ca (by omega) (by omega),Aa,Aa,show p.drop (Az p).1.toNat=Eg p from rfl,Azk,Aa]at hF;by_cases h3:(Pa (Eg p) xW||Pa (Eg p) zO)=true
 ·rw[Aah h3]at hT hF;simp only at hT;rw[Aah (by decide)]at hT;exact mkW hZ hF hT
 rw[Aab h3]at hT hF;rw[NY _ (by omega),Aa]at hF;by_cases h5:(Dt (Eg p)).2.2.2.2.2=24
 ·rw[Aah h5]at hT;simp only at hT;rw[Aah (by decide)]at hT;rw[Aah (by rw[Ar];simpa using h5)]at hF;exact mkW hZ hF hT
 rw[Aab h5]at hT;rw[Aab (by rw[Ar];simpa using h5)]at hF;simp only at hT;by_cases h6:(Dt (Eg p)).2.2.2.2.2≠0
 ·rw[Aah (by rw[Ak];simpa using h6)]at hT hF;rw[Al,Aa]at hF;exact mkE (by have:=hrn;generalize(Dt (Eg p)).2.2.2.2.2=z at *;omega) (hF.trans f62) hT
 have h7:(Dt (Eg p)).2.2.2.2.2=0:=by simpa using h6
 obtain⟨r1,h22,r3,r4⟩:=dR h7;rw[Aab (by rw[Ak,h7];simp),Ca (by omega) (by omega),Aa,Hg,He,Ej]at hT;rw[Aab (by rw[Ak,h7];simp),Aj (by omega) (by omega),Ca (by omega) (by omega),Aa,Ug,MK,Pz]at hF;simp only at hT hF;by_cases h8:((o==([]:LB)) !=geq (Dt (Eg p)).1 1)=true
 ·rw[Aah h8]at hT hF;rw[Aa]at hT hF;rw[Al,Aa]at hF;simp only at hF;exact mkE (by decide) (hF.trans f62) hT
 ·rw[Aab h8]at hT hF;rw[Aa]at hT hF;rw[Al,Aa]at hF;have hd:HdI (Dt (Eg p)).1 (Dt (Eg p)).2.1 (Dt (Eg p)).2.2.1 (Dt (Eg p)).2.2.2.1 (Dt (Eg p)).2.2.2.2.1 (f0 (Eg p)) (f1 (Eg p)) (f2 (Eg p)) (f3 (Eg p)) (f4 (Eg p)):=by
   constructor<;>first|(rw[r1])|assumption
  refine .next _ _ _ _ _ _ [] 0 [] (by exact hF) hT (.head _ _ _ _ _ hd ?_ rfl rfl rfl) ⟨by rw[Akm];omega,by simp,by simp⟩ (by rw[Akm];omega) ?_
  ·have e:geq (Dt (Eg p)).1 1=decide (f0 (Eg p)=1):=by rw[hd.ef,Ar,Amo];simp;omega
   rw[<-e];simpa using h8
  ·rw[muD,muD,Aab hd.fnz,Aah rfl,Aah rfl];omega
section
variable {F C W R N:Nat} (hd:HdI f c w r n F C W R N)
include hd
theorem Aqp(hp:p.length<=100000)(hpw:(o==([]:LB))=decide (F=1))(A:Nat)(hA:A<=p.length)
  (hT:Ag o p f c w r n [] 0 [] u v=(Dk p f c w r n (A:Int)).bind (λ(ag,ak,w1)=>if(Bi w1 0)then some (o,p,f,c,w,r,n,([]:LI),(0:Int),([]:LB),u,v,w1)else(Bk p ag (Ac p)).bind λal=>some (o,al,f,c,w,r,n,ak,(0:Int),([]:LB),u,v,(0:Int))))
  (hF:XU bk o u v p f c w r n 0 [] []=Ls bk o u v p f c w r n 0 [] [] (A:Int)):StepR bk o p f c w r n [] 0 [] u v:=by
 have hZ:SzD p [] 0 []:=⟨hp,by simp,by simp⟩;obtain⟨_,t2,t3⟩:=xR hd o p hp A hA 0 [] u v;have hs:=pD (p.drop A) (Ah (Ao R) N).length (by rw[Akm];omega);have hnn:=Aen (p.drop A) (Ah (Ao R) N).length;have hok:=dF (b:=p.drop A) (n:=(Ah (Ao R) N).length);rw[t2,Aa]at hT;rw[Ls,NX,hd.BP,Aa]at hF;simp only at hF;rw[Aab (by decide),Ca (by omega) (by omega),Aa,Ahr,Ac,hs,Aa]at hF;generalize hz:Er (p.drop A) (Ah (Ao R) N).length=z at*
 obtain⟨z1,z2⟩:=z;simp only at*
 by_cases h1:z2=24
 ·rw[Aah h1]at hT;simp only at hT;rw[Aah (by decide)]at hT;rw[Aah (by rw[Ar];simpa using h1)]at hF;exact mkW hZ hF hT
 rw[Aab h1]at hT;rw[Aab (by rw[Ar];simpa using h1)]at hF;simp only at hT;by_cases h2:z2≠0
 ·rw[Aah (by rw[Ak];simpa using h2)]at hT hF;rw[Al,Aa]at hF;exact mkE (by omega) hF hT
 ·have h0:z2=0:=by simpa using h2
  subst h0;have h3:=t3 rfl;obtain⟨k1,k2,k3,k4,k5,k6⟩:=hok rfl;simp only[Ajt,Bll]at k1;have hl:z1.length=(Ah (Ao R) N).length:=by rw[k1];exact Ty _ _
  rw[<-k1]at k5 k6;rw[Aab (by decide),Ca (by omega) (by omega),Aa]at hT;rw[Aab (by decide),Ac,Ab4 A z1.length (by omega) (by omega),Ca (by omega) (by omega),Aa]at hF;have hne:z1≠ []:=by intro e;rw[e]at hl;simp at hl;omega
  refine .next _ _ _ _ _ _ z1 0 [] (by exact hF) hT (.tab _ _ _ _ _ 0 hd hpw ?_ hl rfl (by omega)) ⟨by rw[Akm];omega,by omega,by simp;omega⟩ (by rw[Akm];omega) ?_
  ·rw[Ud,Ada,Abv,DG z1 100000 (by omega)];exact⟨by omega,k5,k6⟩
  ·rw[muD,muD,Aab hd.fnz,Aab hd.fnz,Aah rfl,Aab hne];simp;omega
theorem At5(ho:o.length<=64)(hp:p.length<=100000)(hpw:(o==([]:LB))=decide (F=1)):StepR bk o p f c w r n [] 0 [] u v:=by
 have hZ:SzD p [] 0 []:=⟨hp,by simp,by simp⟩;have hT:Ag o p f c w r n [] 0 [] u v=Ag o p f c w r n [] 0 [] u v:=rfl
 conv at hT=>rhs;rw[Ag,Bl,Aab hd.ne0,Bq,Br,Aah (by decide),Et,Ht]
 have hF:XU bk o u v p f c w r n 0 [] []=XU bk o u v p f c w r n 0 [] []:=rfl
 conv at hF=>rhs;rw[XU,Jk,Aab hd.ne0,Aah (by decide)]
 by_cases h2:geq f 2=true
 ·rw[Aah h2]at hT hF;by_cases h8:p.length<8
  ·rw[Aah (by rw[Ae,Ac];simp;omega)]at hT hF;rw[Aa]at hT;simp only at hT;rw[Aah (by decide)]at hT;exact mkW hZ hF hT
  ·rw[Aab (by rw[Ae,Ac];simp;omega)]at hT hF;have h8':(p.take 8).length=8:=by rw[Ajr];omega
   rw[Da (by omega) (by omega),Aa,oG o ho,Aa]at hT;rw[Up,NA,Da (by omega) (by omega),Aa,show(8:Int).toNat=8 from rfl,Ach h8' ho,Aa]at hF;rw[show(8:Int).toNat=8 from rfl]at hT;simp only at hF;rw[MZ,NO,Aab (by decide)]at hF;by_cases he:(p.take 8==Te (Wv o).toNat 8)=true
   ·rw[Aab (by rw[bne,he];decide)]at hT;rw[Aab (by rw[he];decide)]at hF;exact Aqp hd hp hpw 8 (by omega) hT hF
   ·have he':(p.take 8==Te (Wv o).toNat 8)=false:=by simpa using he
    rw[Aah (by rw[bne,he'];decide),Aa]at hT;simp only at hT;rw[Aah (by decide)]at hT;rw[Aah (by rw[he'];decide),Al,Aa]at hF;simp only at hF;exact mkE (by decide) (hF.trans f75) hT
 ·rw[Aab h2]at hT hF;exact Aqp hd hp hpw 0 (by omega) hT hF
theorem Azj(ho:o.length<=64)(hpw:(o==([]:LB))=decide (F=1))(hg:Ud g=true)(hl:g.length=(Ah (Ao R) N).length)(A:Nat)(hA:A<=g.length)(hZ:SzD p g (A:Int) x):StepR bk o p f c w r n g (A:Int) x u v:=by
 have hp:=hZ.hp;have hx:=hZ.hx;have hc:=hd.ec;subst hc;have hg':=hg;rw[Ud,Ada,Abv,DG g 100000 (by omega)]at hg';obtain⟨⟨g1,g2⟩,g5,g6⟩:=hg';have hgn:¬(geq (Ac g) 0=true):=by rw[Ar,Ac];simp;intro e;subst e;simp at g1
 have hT:Ag o p f (C:Int) w r n g (A:Int) x u v=Ag o p f (C:Int) w r n g (A:Int) x u v:=rfl
 conv at hT=>rhs;rw[Ag,Bl,Aab hd.ne0,Bq,Br,Aab hgn]
 have hF:XU bk o u v p f (C:Int) w r n (A:Int) g x=XU bk o u v p f (C:Int) w r n (A:Int) g x:=rfl
 conv at hF=>rhs;rw[XU,Jk,Aab hd.ne0,Aab hgn]
 by_cases hA2:A=g.length
 ·subst hA2;rw[Aah (by rw[Ar,Ac];simp)]at hT;rw[Aab (by rw[Ae,Ac];simp)]at hF;by_cases h4:4000<p.length
  ·rw[Aah (by rw[Aq,Ac];simp;omega)]at hT hF;rw[Al,Aa]at hF;exact mkE (by decide) hF hT
  ·rw[Aab (by rw[Aq,Ac];simp;omega)]at hT hF;exact mkW hZ hF hT
 ·have hlt:A<g.length:=by omega
  have h5:=g5 g[A] (Am7 hlt);have hsum:=wZ g5 g[A] (Am7 hlt);rw[Aab (by rw[Ar,Ac];simp;omega),Dh,Fp,Bu hlt,Aa]at hT;rw[Aah (by rw[Ae,Ac];simp;omega),Bu hlt,Aa,Aa]at hF;by_cases hw:(p.length:Int)<g[A]
  ·rw[Aah (by rw[Ae,Ac];simpa using hw)]at hT hF;rw[Aa]at hT;simp only at hT;rw[Aah (by decide)]at hT;exact mkW hZ hF hT
  rw[Aab (by rw[Ae,Ac];simpa using hw)]at hT hF;have KT:=hd.num;have hlt2:A<(Ah (Ao R) N).length:=by omega
  obtain⟨m,hm,m1,m2⟩:=Zi (Fh R) KT.2.2.2.2.1 (Am7 hlt2);have hb:Bt w:=by rw[hd.ew];unfold Bt;omega
  obtain⟨xs,e,d1,d2,d3,d4⟩:=FR (bits:=w) (ch:=C) (n:=m) (t:=Wd o) (p.take g[A].toNat) hb (Qb o) KT.2.1.1 KT.2.1.2 m1 (by omega);have hnn:=vX hb (Qb o) KT.2.1.1 KT.2.1.2 m1 (by omega) d2;rw[vU o ho,Aa]at hF;simp only at hF;rw[Aab (by decide),hd.BP,Aa]at hF;simp only at hF;rw[Aab (by simp[Ak,Dq,Ac];omega),Tz,MX,Bu hlt2,Aa,Da (by omega) (by omega),Aa,Aa,CX,Aa]at hF;simp only at hF;rw[hm,d1,Aa]at hF;simp only at hF;rw[dS o ho,Aa]at hT;simp only at hT;rw[Da (by omega) (by omega),Aa,Gs,Aa]at hT;simp only at hT;rw[hd.Ak8,Aa,Bu hlt2,Aa,Aa,hm]at hT;rw[d2,Aa]at hT;simp only at hT;rw[Fk,Fm]at hT;rw[NF,AU]at hF;by_cases he:e≠0
  ·rw[Aah (by rw[Ak];simpa using he)]at hT hF;rw[Aa]at hT;simp only at hT;rw[Aah (by rw[Ak];simpa using he)]at hT;rw[Al,Aa]at hF;exact mkE (by omega) hF hT
  ·have he0:e=0:=by simpa using he
   obtain⟨k1,k2,k3⟩:=d3 he0;have hbl:=MP w xs;have ht:((A:Int)).toNat=A:=rfl;rw[ht]at hx;rw[Aab (by rw[Ak,he0];simp)]at hT hF;rw[UF hb k2 k1,Aa,Aa]at hT;simp only at hT;rw[Aab (by decide),By (by simp;omega),Aa,Aqd,By (by omega),Aa,Aa,Ca (by omega) (by omega),Aa,Aj (by omega) (by omega)]at hT;rw[gD hb k2 k1,Aa]at hF;simp only at hF;rw[Aab (by decide),By (by omega),Aa,Ca (by omega) (by omega),Aa,Aj (by omega) (by omega)]at hF;have e1:((A:Int)+1).toNat=A+1:=rfl;refine .next _ _ _ _ _ _ _ _ _ (by exact hF) hT (.tab _ _ _ _ _ (A+1) hd hpw hg hl rfl (by omega)) ⟨by rw[Akm];omega,hZ.hg,by rw[e1,Aav];omega⟩ (by rw[Akm];omega) ?_
   have hne:g≠ []:=by intro e;subst e;simp at g1
   rw[muD,muD,Aab hd.fnz,Aab hd.fnz,Aab hne,Aab hne,e1,ht];omega
end
theorem Adh(hf:FitD o f c w r n g a x)(ho:o.length<=64)(hZ:SzD p g a x):StepR bk o p f c w r n g a x u v:=by
 cases hf with
 |new e1 e2 e3 e4 e5 e6 e7 e8=>subst e1 e2 e3 e4 e5 e6 e7 e8;exact Awo hZ.hp
 |head F C W R N h hpw e6 e7 e8=>subst e6 e7 e8;exact At5 h ho hZ.hp hpw
 |tab F C W R N A h hpw ht hl ea hA=>subst ea;exact Azj h ho hpw ht hl A hA hZ
end
abbrev Bh6:=LB×LB×Int×Int×Int×Int×Int×LI×Int×LB×Bool×Int×Int
theorem Ayu:∀(j:Nat) (b:LB) (a:Nat),(Ai4 j b a).2=0\/ (Ai4 j b a).2=38
 |0,_,_=> .inr rfl
 |j+1,b,a=>by
  rw[Ai4];split
  ·exact .inl rfl
  ·split
   ·exact .inr rfl
   ·exact Ayu j _ _
theorem Avp(b:LB):(NZ b).2=0\/ (NZ b).2=38:=by
 rw[NZ];split
 ·exact .inr rfl
 ·exact Ayu _ _ _
theorem XS{o p:LB}{f c w r n:Int}{g:LI}{a:Int}{x:LB}{u:Bool}{v:Int}(hp:p.length<=100000)(hg:g.length<=2000)(hx:x.length<=13000000):Ro o p f c w r n g a x u v=some (o,p,f,c,w,r,n,g,a,x,u,v):=by
 rw[Ro,AN,By (by simp;omega),Aa,By (by simp;omega),Aa,AE,Zp,By (by simp;omega),Aa];rfl
theorem At7{o p:LB}{f c w r n:Int}{g:LI}{a:Int}{x:LB}{u:Bool}{v:Int}(hp:p.length<=100000)(hg:g.length<=2000)(hx:x.length<=13000000):Ee o p f c w r n g a x u v=some (o,p,f,c,w,r,n,g,a,x,u,v):=by
 rw[Ee,Mx,By (by simp;omega),Aa,Aa,Mx,By (by simp;omega),Aa,Aa,Gw,By (by simp;omega),Aa,Aa];rfl
theorem rM{o p:LB}{f c w r n:Int}{g:LI}{a:Int}{x:LB}{u:Bool}{v e:Int}(hx:x.length<=13000000):To o p f c w r n g a x u v e=some (o,[],0,0,0,0,0,[],0,x,false,e,e):=by
 rw[To,IG,By (by simp;omega),Aa];rfl
theorem Axn{p:LB}{f:Int}{g:LI}{a:Int}{x:LB}(h:SzD p g a x):muD f g a<1004:=by
 have:=h.hg;unfold muD;split
 ·omega
 ·split<;>omega
section
variable {o p:LB} {f c w r n:Int} {g:LI} {a:Int} {x:LB} {u:Bool} {v:Int} (hp:p.length<=20000) (hg:g.length<=2000) (hx:x.length<=13000000)
include hp hg hx
theorem Ac9{E:Int}(hE:Ta o p f c w r n g a x u v=some E):Sk o p f c w r n g a x u v=if E≠0 then some ([],[],0,0,0,0,0,[],0,[],false,0,E)else some (o,p,f,c,w,r,n,g,a,x,u,v,if v≠0 then v else if u=true then 36 else 0):=by
 rw[Sk,hE,Aa];by_cases h:E≠0
 ·rw[Aah (by rw[Ak];simpa using h),Aah h]
 rw[Aab (by rw[Ak];simpa using h),Aab h,At7 (by omega) hg (by omega)];by_cases hv:v≠0
 ·rw[Aah (by rw[Ak];simpa using hv),Aah hv,Aa]
 ·rw[Aab (by rw[Ak];simpa using hv),Aab hv];cases u<;>simp[Aa]
omit hg hx in
theorem Alz:∃e,JX o p f c w r n g a x u v=some e/\Du o p f c w r n g a x u v=some e:=by
 rw[JX,Du];by_cases h0:geq f 0=true
 ·rw[Aah h0,Aah h0,Qf p (by omega),Vp p (by omega),Aa,Aa];have hok:=Xh (b:=p);simp only;by_cases h2:(Az p).2≠0
  ·rw[Aah (by rw[Ak];simpa using h2),Aah (by rw[Ak];simpa using h2)];exact⟨_,rfl,rfl⟩
  have h3:(Az p).2=0:=by simpa using h2
  obtain⟨k1,k2,k3⟩:=hok h3;have hl:(Eg p).length<=p.length:=by rw[Eg,Akm];omega
  rw[Aab (by rw[Ak,h3];simp),Aab (by rw[Ak,h3];simp),Ca (by omega) (by omega),Aa,Aa,show p.drop (Az p).1.toNat=Eg p from rfl,NY _ (by omega),XJ _ (by omega),Aa];exact⟨_,rfl,rfl⟩
 ·rw[Aab h0,Aab h0,Bool.or_comm];by_cases h1:(geq (Ac g) 0||Cr a (Ac g))=true
  ·rw[Aah h1,Aah h1];exact⟨_,rfl,rfl⟩
  ·rw[Aab h1,Aab h1,yS p (by omega),Apj p (by omega),Aa,Aa];simp only;refine⟨(NZ p).2,rfl,?_⟩;rcases Avp p with h|h
   ·rw[Aab (by rw[h];decide),h]
   ·rw[Aah (by rw[h];decide),h]
end
theorem KS{α β:Type}{o:Option α}{f:α->Option β}{r:β}(h:Option.bind o f=some r):∃x,o=some x/\f x=some r:=by
 cases o with
 |none=>cases h
 |some x=>exact⟨x,rfl,h⟩
theorem Az8{α:Type}{l:List α}{i:Int}{x:α}(h:Go.Lv.Ap l i=some x):x∈l:=by
 unfold Go.Lv.Ap at h;split at h
 ·exact List.mem_of_getElem? h
 ·cases h
theorem Aek{o p:LB}(q:LB){f c w r n:Int}{g:LI}{a:Int}{x:LB}{u:Bool}{v:Int}{y:LB}{e:Int}(hg:∀z∈g,0<=z)(h:Dh o p f c w r n g a x u v=some (y,e))(he:e≠ -1):Dh o (p++q) f c w r n g a x u v=some (y,e):=by
 rw[Dh,Fp]at h⊢;obtain⟨l,hl,h⟩:=KS h;have hl0:=hg l (Az8 hl);rw[hl,Aa];by_cases hc:(p.length:Int)<l
 ·rw[Aah (by rw[Ae,Ac];simpa using hc)]at h;cases h;exact absurd rfl he
 ·have hc':¬(Cr (Ac (p++q)) l=true):=by rw[Ae,Ac,Aav];simp;omega
  rw[Aab (by rw[Ae,Ac];simpa using hc)]at h;rw[Aab hc',Da hl0 (by rw[Aav];omega),Oc (by omega)];rw[Da hl0 (by omega)]at h;simpa only[Fk,Fm]using h
theorem Alr{f c w r n:Int}{F C W R N:Nat}(hd:HdI f c w r n F C W R N){p:LB}(q:LB)(hp:(p++q).length<=100000){A:Nat}(hA:A<=p.length){k:Int}{l:LI}{e:Int}(h:Dk p f c w r n (A:Int)=some (k,l,e))(he:e≠ -1):
  Dk (p++q) f c w r n (A:Int)=some (k,l,e)/\ (e=0->0<=k/\k<=p.length):=by
 have hp':p.length<=100000:=by rw[Aav]at hp;omega
 obtain⟨_,t2,t3⟩:=xR hd [] p hp' A hA 0 [] false 0;obtain⟨_,s2,_⟩:=xR hd [] (p++q) hp A (by rw[Aav];omega) 0 [] false 0;rw[t2]at h;rw[s2,Bi7 hA];by_cases h1:(Er (p.drop A) (Ah (Ao R) N).length).2=24
 ·rw[Aah h1]at h;cases h;exact absurd rfl he
 ·rw[Aab h1]at h;rw[Avk q _ h1,Aab h1];refine⟨h,λe0=>?_⟩;cases h;have:=t3 e0;constructor
  ·omega
  ·exact this
theorem Acj{f c w r n:Int}{F C W R N:Nat}(hd:HdI f c w r n F C W R N){o p:LB}(q:LB)(hp:(p++q).length<=100000){k:Int}{l:LI}{e:Int}(h:Et p f c w r n o=some (k,l,e))(he:e≠ -1):
  Et (p++q) f c w r n o=some (k,l,e)/\ (e=0->0<=k/\k<=p.length):=by
 rw[Et,Ht]at h⊢;by_cases hf:geq f 2=true
 ·rw[Aah hf]at h⊢;by_cases h8:p.length<8
  ·rw[Aah (by rw[Ae,Ac];simp;omega)]at h;cases h;exact absurd rfl he
  ·have n1:¬(Cr (Ac p) 8=true):=by rw[Ae,Ac];simp;omega
   have n2:¬(Cr (Ac (p++q)) 8=true):=by rw[Ae,Ac,Aav];simp;omega
   rw[Aab n1,Da (by decide) (by omega),Aa]at h;rw[Aab n2,Da (by decide) (by rw[Aav];omega),Aa,Oc (show(8:Int).toNat<=p.length from by simp;omega)];obtain⟨y,hy,h⟩:=KS h;rw[hy,Aa];by_cases hm:(p.take (8:Int).toNat !=y)=true
   ·rw[Aah hm]at h⊢;cases h;exact⟨rfl,λe=>by cases e⟩
   ·rw[Aab hm]at h⊢;exact Alr hd q hp (A:=8) (by omega) h he
 ·rw[Aab hf]at h⊢;exact Alr hd q hp (A:=0) (by omega) h he
theorem fE{p q af:LB}{n:Int}(h:Bk p n (Ac p)=some af):Bk (p++q) n (Ac (p++q))=some (af++q):=by
 unfold Bk Ac at h⊢;split at h
 ·rename_i hc;cases h;rw[Aah ⟨hc.1,by rw[Aav];omega,by omega⟩];simp only[Ahr,Bgh];rw[Bi7 (by omega)]
 ·cases h
theorem nW{o p:LB}(q:LB){f c w r n:Int}{g:LI}{a:Int}{x:LB}{u:Bool}{v:Int}(hf:FitD o f c w r n g a x)(hp:(p++q).length<=100000){t1 t2:LB}{t3 t4 t5 t6 t7:Int}{t8:LI}{t9:Int}{t10:LB}{t11:Bool}{t12 e:Int}
  (h:Ag o p f c w r n g a x u v=some (t1,t2,t3,t4,t5,t6,t7,t8,t9,t10,t11,t12,e)) (he:e≠ -1):
  (e=0->Ag o (p++q) f c w r n g a x u v=some (t1,t2++q,t3,t4,t5,t6,t7,t8,t9,t10,t11,t12,0))/\
  (e≠0->∃(s1 s2:LB) (s3 s4 s5 s6 s7:Int) (s8:LI) (s9:Int) (s10:LB) (s11:Bool) (s12:Int),Ag o (p++q) f c w r n g a x u v=some (s1,s2,s3,s4,s5,s6,s7,s8,s9,s10,s11,s12,e)):=by
 have hp':p.length<=100000:=by rw[Aav]at hp;omega
 have zero:¬(Bi (0:Int) 0=true):=by decide
 rw[Ag,Bl]at h⊢;cases hf with
 |new e1 e2 e3 e4 e5 e6 e7 e8=>
  subst e1;rw[Aah (by decide),Zg p hp',Aa]at h;rw[Aah (by decide),Zg (p++q) hp,Aa];have hst:(stS p).2.2.2.2.2.2≠ -1->stS (p++q)=stS p:=Bb9 q;generalize stS p=z at h hst;obtain⟨z1,z2,z3,z4,z5,z6,z7⟩:=z;simp only at h hst;by_cases hz:Bi z7 0=true
  ·rw[Aah hz]at h;simp only[Afk,Ajt]at h;obtain⟨-, -, -, -, -, -, -, -, -, -, -, -,rfl⟩:=h;rw[hst he];simp only;rw[Aah hz];refine⟨λe0=>?_,λ_=>⟨_,_,_,_,_,_,_,_,_,_,_,_,rfl⟩⟩;rw[e0]at hz;exact absurd hz zero
  ·rw[Aab hz]at h;have z70:z7=0:=by rw[Ak]at hz;simpa using hz
   rw[hst (by rw[z70];decide)];simp only;rw[Aab hz];obtain⟨af,h1,h⟩:=KS h;rw[fE h1,Aa];rw[Hg,He]at h⊢;obtain⟨aw,h2,h⟩:=KS h;rw[h2,Aa];simp only[Afk,Ajt]at h;obtain⟨rfl,rfl,rfl,rfl,rfl,rfl,rfl,rfl,rfl,rfl,rfl,rfl,rfl⟩:=h;exact⟨λe0=>by rw[e0],λ_=>⟨_,_,_,_,_,_,_,_,_,_,_,_,rfl⟩⟩
 |head F C W R N hd hpw e6 e7 e8=>
  subst e6;have hfn:¬(geq f 0=true):=by rw[Ar];simpa using hd.fnz
  rw[Aab hfn,Bq,Br,Aah (by decide)]at h⊢;obtain⟨⟨k,l,e1⟩,h1,h⟩:=KS h;simp only at h;by_cases hz:Bi e1 0=true
  ·rw[Aah hz]at h;simp only[Afk,Ajt]at h;obtain⟨-, -, -, -, -, -, -, -, -, -, -, -,rfl⟩:=h;rw[(Acj hd q hp h1 he).1,Aa];simp only;rw[Aah hz];refine⟨λe0=>?_,λ_=>⟨_,_,_,_,_,_,_,_,_,_,_,_,rfl⟩⟩;rw[e0]at hz;exact absurd hz zero
  ·rw[Aab hz]at h;have z70:e1=0:=by rw[Ak]at hz;simpa using hz
   rw[(Acj hd q hp h1 (by rw[z70];decide)).1,Aa];simp only;rw[Aab hz];obtain⟨af,h2,h⟩:=KS h;rw[fE h2,Aa];simp only[Afk,Ajt]at h;obtain⟨rfl,rfl,rfl,rfl,rfl,rfl,rfl,rfl,rfl,rfl,rfl,rfl,rfl⟩:=h;exact⟨λe0=>rfl,λe0=>absurd rfl e0⟩
 |tab F C W R N A hd hpw ht hl ea hA=>
  have hfn:¬(geq f 0=true):=by rw[Ar];simpa using hd.fnz
  have ht':=ht;rw[Ud,Ada,Abv]at ht';have hgl:¬(geq (Ac g) 0=true):=by
   intro e;rw[Ar,Ac]at e;have hl1:=ht'.1.1;simp only[Av2,Abv]at e;omega
  rw[Aab hfn,Bq,Br,Aab hgl]at h⊢;by_cases hend:geq a (Ac g)=true
  ·rw[Aah hend]at h⊢;by_cases hm:Ez (Ac p) 4000=true
   ·have hm':Ez (Ac (p++q)) 4000=true:=by rw[Aq,Ac]at hm⊢;simp only[Abv]at hm⊢;rw[Aav];omega
    rw[Aah hm]at h;rw[Aah hm'];simp only[Afk,Ajt]at h;obtain⟨-, -, -, -, -, -, -, -, -, -, -, -,rfl⟩:=h;exact⟨(λe0=>by cases e0),λ_=>⟨_,_,_,_,_,_,_,_,_,_,_,_,rfl⟩⟩
   ·rw[Aab hm]at h;simp only[Afk,Ajt]at h;obtain⟨-, -, -, -, -, -, -, -, -, -, -, -,rfl⟩:=h;exact absurd rfl he
  ·rw[Aab hend]at h⊢;have hpos:∀z∈g,0<=z:=by
    have:=(DG g 100000 (by omega)).1 ht'.2;intro z hz;have:=this.1 z hz;omega
   obtain⟨⟨y,e1⟩,h1,h⟩:=KS h;simp only at h;by_cases hz:Bi e1 0=true
   ·rw[Aah hz]at h;simp only[Afk,Ajt]at h;obtain⟨-, -, -, -, -, -, -, -, -, -, -, -,rfl⟩:=h;rw[Aek q hpos h1 he,Aa];simp only;rw[Aah hz];refine⟨λe0=>?_,λ_=>⟨_,_,_,_,_,_,_,_,_,_,_,_,rfl⟩⟩;rw[e0]at hz;exact absurd hz zero
   ·rw[Aab hz]at h;have z70:e1=0:=by rw[Ak]at hz;simpa using hz
    rw[Aek q hpos h1 (by rw[z70];decide),Aa];simp only;rw[Aab hz];obtain⟨an,h2,h⟩:=KS h;rw[h2,Aa];obtain⟨ah,h3,h⟩:=KS h;rw[h3,Aa];obtain⟨ad,h4,h⟩:=KS h;rw[h4,Aa];obtain⟨ae,h5,h⟩:=KS h;rw[fE h5,Aa];simp only[Afk,Ajt]at h;obtain⟨rfl,rfl,rfl,rfl,rfl,rfl,rfl,rfl,rfl,rfl,rfl,rfl,rfl⟩:=h;exact⟨λe0=>rfl,λe0=>absurd rfl e0⟩
def Bh3(o:LB)(K:Nat)(u:Bool)(v:Int)(X Y:Option Bh6):Prop:=∃(t1 t2:LB) (t3 t4 t5 t6 t7:Int) (t8:LI) (t9:Int) (t10:LB) (t11:Bool) (t12 e:Int),X=some (t1,t2,t3,t4,t5,t6,t7,t8,t9,t10,t11,t12,e)/\Y=some (t1,t2,t3,t4,t5,t6,t7,t8,t9,t10,t11,t12,e)/\t10.length<=13000000/\
 (e=0->t1=o/\t2.length<=K/\FitD o t3 t4 t5 t6 t7 t8 t9 t10/\SzD t2 t8 t9 t10/\t11=u/\t12=v)
theorem Abd(K:Nat):∀(k q1 q2:Nat) (o p:LB) (f c w r n:Int) (g:LI) (a:Int) (x:LB) (u:Bool) (v:Int),FitD o f c w r n g a x->o.length<=64->SzD p g a x->p.length<=K->muD f g a<k->k<=q1->k<=q2->
  Bh3 o K u v (Bd o u v q1 p f c w r n a g x) (Bc q2 o p f c w r n g a x u v)
 |0,_,_,_,_,_,_,_,_,_,_,_,_,_,_,_,_,_,_,h,_,_=>by omega
 |k+1,q1,q2,o,p,f,c,w,r,n,g,a,x,u,v,hf,ho,hZ,hK,hm,h1,h2=>by
  obtain⟨q1,rfl⟩:∃q,q1=q+1:=⟨q1-1,by omega⟩;obtain⟨q2,rfl⟩:∃q,q2=q+1:=⟨q2-1,by omega⟩;have hx:x.length<=13000000:=by have:=hZ.hx;omega
  rw[Bd,Bc,Bz];have hS:StepR (Bd o u v q1) o p f c w r n g a x u v:=Adh hf ho hZ;cases hS with
  |wait hF hT=>
   rw[hT,Aa];simp only;rw[Aah (by decide),XS hZ.hp (by have:=hZ.hg;omega) hx,Aa];exact⟨_,_,_,_,_,_,_,_,_,_,_,_,_,hF,rfl,hx,λ_=>⟨rfl,hK,hf,hZ,rfl,rfl⟩⟩
  |err e he hF hT=>
   rw[hT,Aa];simp only;rw[Aab (by rw[eT (by omega)];decide),Aah (by rw[Ak];simp;omega),rM hx,Aa];exact⟨_,_,_,_,_,_,_,_,_,_,_,_,_,hF,rfl,hx,λh=>absurd h (by omega)⟩
  |next p' f' c' w' r' n' g' a' x' hF hT hf' hZ' hle hmu=>
   rw[hT,Aa];simp only;rw[Aab (by decide),Aab (by decide)];have ih:=Abd K k q1 q2 o p' f' c' w' r' n' g' a' x' u v hf' ho hZ' (by omega) (by omega) (by omega) (by omega);have hF':Jk (Pk (Bd o u v q1) o u v) (Ug (Bd o u v q1) o u v) (Mp (Bd o u v q1) o u v) (Up (Bd o u v q1) o u v) (Ls (Bd o u v q1) o u v) (Um (Bd o u v q1) o u v) (Tz (Bd o u v q1) o u v) (Cs (Bd o u v q1) o u v) (BA (Bd o u v q1) o u v) o u v p f c w r n a g x=Bd o u v q1 p' f' c' w' r' n' a' g' x':=hF;rw[hF'];exact ih
theorem Bi0{o p:LB}{f c w r n:Int}{g:LI}{a:Int}{x:LB}(ho:o.length<=64)(hf:FitD o f c w r n g a x)(hZ:SzD p g a x)(b:LB)(hp:p.length<=20000)(hb:b.length<=20000):
  Bh3 o (p.length+b.length) false 0 (Ds o p f c w r n g a x false 0 b) (Kc o p f c w r n g a x false 0 b):=by
 have hx:x.length<=13000000:=by have:=hZ.hx;omega
 have hg:g.length<=2000:=by have:=hZ.hg;omega
 obtain⟨E,e1,e2⟩:=Ams o p f c w r n g a x false 0 (by omega) (by omega) (by omega);rw[Ds,DI,Ac9 hp hg hx e1,Kc,Rk,e2,Aa];by_cases h:E≠0
 ·rw[Aah h,Aa,Aah (by rw[Ak];simpa using h)];simp only;rw[Aah (by rw[Ak];simpa using h)];exact⟨_,_,_,_,_,_,_,_,_,_,_,_,_,rfl,rfl,by simp,λh'=>absurd h' h⟩
 have h0:E=0:=by simpa using h
 subst h0;have hE:¬(Bi (0:Int) 0=true):=by decide
 rw[Aab h,Aa,Aab hE,XS (by omega) hg (by omega),Aa];simp only;have hF:¬(false=true):=by decide
 rw[Ru,Aab (show ¬((0:Int)≠0)from λh=>h rfl),Aab hF]
 repeat (first|rw[Aa]|rw[Aab hE]|rw[Aab hF])
 rw[By (by omega)];rw[Aa,Aa];have hZ':SzD (p++b) g a x:=⟨by rw[Aav];omega,hZ.hg,hZ.hx⟩;exact Abd _ 1004 Ay Ay o (p++b) f c w r n g a x false 0 hf ho hZ' (by rw[Aav];exact An0 _) (Axn hZ') (by have:=Au;omega) (by have:=Au;omega)
def OutB(f c w r n:Int)(g:LI)(a:Int)(x:LB):Prop:=∀(F C W R N A:Nat),HdI f c w r n F C W R N->g≠ []->a=(A:Int)-> (x.length:Int)<=FA C W (Ah (Ao R) N) A
theorem OutB.nil{f c w r n:Int}{a:Int}{x:LB}:OutB f c w r n [] a x:=λ_ _ _ _ _ _ _ h=>absurd rfl h
theorem OutB.zero{f c w r n:Int}{g:LI}:OutB f c w r n g 0 []:=λF C W R N A h hg ha=>by
 obtain rfl:A=0:=by omega
 rw[Apb];simp
theorem Aoh{o p:LB}{f c w r n:Int}{F C W R N:Nat}(hd:HdI f c w r n F C W R N)(ho:o.length<=64)(hp:p.length<=100000){g:LI}(ht:Ud g=true)(hl:g.length=(Ah (Ao R) N).length){A:Nat}(hA:A<g.length){x:LB}{u:Bool}{v:Int}{y:LB}{e:Int}
  (h:Dh o p f c w r n g (A:Int) x u v=some (y,e)) (he:e=0):∃m:Nat,(Ah (Ao R) N)[A]'(by omega)=(m:Int)/\y.length=m*C*wB (W:Int):=by
 subst he;have hlt2:A<(Ah (Ao R) N).length:=by omega
 have KT:=hd.num;rw[Ud,Ada,Abv,DG g 100000 (by omega)]at ht;obtain⟨ht1,g5,gs⟩:=ht;have h5:=g5 g[A] (Am7 hA);rw[Dh,Fp,Bu hA,Aa]at h;by_cases hw:(p.length:Int)<g[A]
 ·rw[Aah (by rw[Ae,Ac];simpa using hw)]at h;cases h
 rw[Aab (by rw[Ae,Ac];simpa using hw)]at h;obtain⟨m,hm,m1,m2⟩:=Zi (Fh R) KT.2.2.2.2.1 (Am7 hlt2);have hb:Bt w:=by rw[hd.ew];unfold Bt;omega
 obtain⟨xs,e,d1,d2,d3,d4⟩:=FR (bits:=w) (ch:=C) (n:=m) (t:=Wd o) (p.take g[A].toNat) hb (Qb o) KT.2.1.1 KT.2.1.2 m1 (by omega);rw[dS o ho,Aa]at h;simp only at h;rw[Da (by omega) (by omega),Aa,Gs,Aa]at h;simp only at h;rw[hd.Ak8,Aa,Bu hlt2,Aa,Aa,hm,hd.ec]at h;rw[d2,Aa]at h;simp only at h;rw[Fk,Fm]at h;by_cases he:e≠0
 ·rw[Aah (by rw[Ak];simpa using he)]at h;cases h;exact absurd rfl he
 ·have he0:e=0:=by simpa using he
  obtain⟨k1,k2,k3⟩:=d3 he0;rw[Aab (by rw[Ak,he0];simp),UF hb k2 k1,Aa]at h;cases h;refine⟨m,hm,?_⟩;rw[aC hb,k3,hd.ew]
theorem Ax1{o p:LB}{f c w r n:Int}{g:LI}{a:Int}{x:LB}{u:Bool}{v:Int}(hf:FitD o f c w r n g a x)(ho:o.length<=64)(hZ:SzD p g a x)(hO:OutB f c w r n g a x){t1 t2:LB}{t3 t4 t5 t6 t7:Int}{t8:LI}{t9:Int}{t10:LB}{t11:Bool}{t12:Int}
  (h:Ag o p f c w r n g a x u v=some (t1,t2,t3,t4,t5,t6,t7,t8,t9,t10,t11,t12,0)):OutB t3 t4 t5 t6 t7 t8 t9 t10:=by
 have hp':=hZ.hp;have zero:¬(Bi (0:Int) 0=true):=by decide
 rw[Ag,Bl]at h;cases hf with
 |new e1 e2 e3 e4 e5 e6 e7 e8=>
  subst e1 e6 e7 e8;rw[Aah (by decide),Zg p hp',Aa]at h;generalize stS p=z at h;obtain⟨z1,z2,z3,z4,z5,z6,z7⟩:=z;simp only at h;by_cases hz:Bi z7 0=true
  ·rw[Aah hz]at h;simp only[Afk,Ajt]at h;obtain⟨-, -, -, -, -, -, -,rfl, -⟩:=h;exact OutB.nil
  ·rw[Aab hz]at h;obtain⟨af,h1,h⟩:=KS h;rw[Hg,He]at h;obtain⟨aw,h2,h⟩:=KS h;simp only[Afk,Ajt]at h;obtain⟨-, -, -, -, -, -, -,rfl, -⟩:=h;exact OutB.nil
 |head F C W R N hd hpw e6 e7 e8=>
  subst e6 e7 e8;have hfn:¬(geq f 0=true):=by rw[Ar];simpa using hd.fnz
  rw[Aab hfn,Bq,Br,Aah (by decide)]at h;obtain⟨⟨k,l,e1⟩,h1,h⟩:=KS h;simp only at h;by_cases hz:Bi e1 0=true
  ·rw[Aah hz]at h;simp only[Afk,Ajt]at h;obtain⟨-, -, -, -, -, -, -,rfl, -⟩:=h;exact OutB.nil
  ·rw[Aab hz]at h;obtain⟨af,h2,h⟩:=KS h;simp only[Afk,Ajt]at h;obtain⟨-, -, -, -, -, -, -, -,rfl,rfl, -⟩:=h;exact OutB.zero
 |tab F C W R N A hd hpw ht hl ea hA=>
  subst ea;have hfn:¬(geq f 0=true):=by rw[Ar];simpa using hd.fnz
  have ht':=ht;rw[Ud,Ada,Abv]at ht';have hgl:¬(geq (Ac g) 0=true):=by
   intro e;rw[Ar,Ac]at e;have hl1:=ht'.1.1;simp only[Av2,Abv]at e;omega
  have hne:g≠ []:=by intro e;subst e;simp at ht'
  rw[Aab hfn,Bq,Br,Aab hgl]at h;by_cases hend:geq (A:Int) (Ac g)=true
  ·rw[Aah hend]at h;by_cases hm:Ez (Ac p) 4000=true
   ·rw[Aah hm]at h;simp only[Afk,Ajt]at h;exact absurd h.2.2.2.2.2.2.2.2.2.2.2.2 (by decide)
   ·rw[Aab hm]at h;simp only[Afk,Ajt]at h;exact absurd h.2.2.2.2.2.2.2.2.2.2.2.2 (by decide)
  ·rw[Aab hend]at h;have hlt:A<g.length:=by
    rw[Ar,Ac]at hend;simp only[Av2]at hend;omega
   obtain⟨⟨y,e1⟩,h1,h⟩:=KS h;simp only at h;by_cases hz:Bi e1 0=true
   ·rw[Aah hz]at h;simp only[Afk,Ajt]at h;have:=h.2.2.2.2.2.2.2.2.2.2.2.2;rw[this]at hz;exact absurd hz zero
   ·rw[Aab hz]at h;have z70:e1=0:=by rw[Ak]at hz;simpa using hz
    obtain⟨m,hm,hy⟩:=Aoh hd ho hp' ht hl hlt h1 z70;obtain⟨an,h2,h⟩:=KS h;obtain⟨ah,h3,h⟩:=KS h;obtain⟨ad,h4,h⟩:=KS h;obtain⟨ae,h5,h⟩:=KS h;simp only[Afk,Ajt]at h;obtain⟨-, -,rfl,rfl,rfl,rfl,rfl,rfl,rfl,rfl, -⟩:=h;intro F' C' W' R' N' A' hd' _ ha';have eqs:C'=C/\W'=W/\R'=R/\N'=N:=by
     have q1:=hd.ec.symm.trans hd'.ec;have q2:=hd.ew.symm.trans hd'.ew;have q3:=hd.er.symm.trans hd'.er;have q4:=hd.en.symm.trans hd'.en;omega
    obtain⟨rfl,rfl,rfl,rfl⟩:=eqs;have hold:=hO F C' W' R' N' A hd hne rfl;have e2:Ad (A:Int) 1=((A+1:Nat):Int):=by rw[Aj (by omega) (by omega)];omega
    rw[e2]at ha';obtain rfl:A'=A+1:=by omega
    have hah:ah.length=x.length+y.length:=by
     unfold Dy at h2 h3;split at h2
     ·cases h2;split at h3
      ·cases h3;simp
      ·cases h3
     ·cases h2
    have hpos:∀z∈Ah (Ao R') N',0<=z:=by
     intro z hz;obtain⟨m,hm,m1,m2⟩:=Zi (Fh R') hd.num.2.2.2.2.1 hz;omega
    rw[Ap5 C' W' hpos (by omega) hm,hah,hy];omega
theorem Ad5{o p:LB}{f c w r n:Int}{g:LI}{a:Int}{x:LB}(hf:FitD o f c w r n g a x)(ho:o.length<=64)(hO:OutB f c w r n g a x){t1 t2:LB}{t3 t4 t5 t6 t7:Int}{t8:LI}{t9:Int}{t10:LB}{t11:Bool}{t12:Int}
  (h:Ag o p f c w r n g a x false 0=some (t1,t2,t3,t4,t5,t6,t7,t8,t9,t10,t11,t12, -1)):Fs o p f c w r n g a x false 0=some 0:=by
 have h4:Cl o p f c w r n g a x false 0=some true:=by
  rw[Cl,Xz,h,Aa];rfl
 have hr:Me o p f c w r n g a x false 0=some true:=by
  rw[Me,Xv];cases hf with
  |new e1 e2 e3 e4 e5 e6 e7 e8=>
   subst e1 e2 e3 e4 e5 e6 e7 e8;rw[Aah (by decide),Aab (by decide)];exact h4
  |head F C W R N hd hpw e6 e7 e8=>
   subst e6 e7 e8;have hz:¬(((geq f 0)&&((geq c 0)&&((geq w 0)&&((geq r 0)&&((geq n 0)&&true)))))=true):=by
    simp only[Ada,Ar,Av2,Bll];exact λe=>hd.fnz e.1
   have hff:geq f 1=decide (F=1):=by rw[hd.ef,Ar,Amo];simp;omega
   rw[Aab hz,hd.check,Aa,Aab (by decide),Ej,hff,hpw,Aab (by simp),Aa,Aab (by decide),Qk,Ql,Aah (by decide),Aab (by decide)];exact h4
  |tab F C W R N A hd hpw ht hl ea hA=>
   subst ea;have hz:¬(((geq f 0)&&((geq c 0)&&((geq w 0)&&((geq r 0)&&((geq n 0)&&true)))))=true):=by
    simp only[Ada,Ar,Av2,Bll];exact λe=>hd.fnz e.1
   have hff:geq f 1=decide (F=1):=by rw[hd.ef,Ar,Amo];simp;omega
   have ht':=ht;rw[Ud,Ada,Abv]at ht';have hgl:¬(geq (Ac g) 0=true):=by
    intro e;rw[Ar,Ac]at e;have hl1:=ht'.1.1;simp only[Av2,Abv]at e;omega
   have hne:g≠ []:=by intro e;subst e;simp at ht'
   have hout:=hO F C W R N A hd hne rfl;rw[Aab hz,hd.check,Aa,Aab (by decide),Ej,hff,hpw,Aab (by simp),Aa,Aab (by decide),Qk,Ql,Aab hgl,aW,Aa,Aah ht,Aab (by decide),hd.Ak8,Aa];rw[Aab (by simp[Ak,Ae,Aq,Ac];omega)];obtain⟨rfl,rfl,rfl,rfl,rfl,hs,hfit⟩:=hd;rw[Amv hs hfit A (by omega),Aa,Aab (by rw[Aq,Ac];simp;omega)];exact h4
 have hO':¬(Ez (Ac o) 64=true):=by rw[Aq,Ac];simp;omega
 rw[Fs,Aab hO',Aah (by decide),hr,Aa];rfl
theorem At1{o p:LB}{f c w r n:Int}{F C W R N:Nat}(hd:HdI f c w r n F C W R N)(ho:o.length<=64)(hp:p.length<=100000){g:LI}(ht:Ud g=true)(hl:g.length=(Ah (Ao R) N).length){A:Nat}(hA:A<g.length){x:LB}{u:Bool}{v:Int}{y:LB}{e:Int}
  (h:Dh o p f c w r n g (A:Int) x u v=some (y,e)) (he:e≠ -1):Cd e:=by
 have hlt2:A<(Ah (Ao R) N).length:=by omega
 have KT:=hd.num;rw[Ud,Ada,Abv,DG g 100000 (by omega)]at ht;obtain⟨ht1,g5,gs⟩:=ht;have h5:=g5 g[A] (Am7 hA);rw[Dh,Fp,Bu hA,Aa]at h;by_cases hw:(p.length:Int)<g[A]
 ·rw[Aah (by rw[Ae,Ac];simpa using hw)]at h;cases h;exact absurd rfl he
 rw[Aab (by rw[Ae,Ac];simpa using hw)]at h;obtain⟨m,hm,m1,m2⟩:=Zi (Fh R) KT.2.2.2.2.1 (Am7 hlt2);have hb:Bt w:=by rw[hd.ew];unfold Bt;omega
 obtain⟨xs,e',d1,d2,d3,d4⟩:=FR (bits:=w) (ch:=C) (n:=m) (t:=Wd o) (p.take g[A].toNat) hb (Qb o) KT.2.1.1 KT.2.1.2 m1 (by omega);have hcd:=Agz hb (Qb o) KT.2.1.1 KT.2.1.2 m1 (by omega) d2;rw[dS o ho,Aa]at h;simp only at h;rw[Da (by omega) (by omega),Aa,Gs,Aa]at h;simp only at h;rw[hd.Ak8,Aa,Bu hlt2,Aa,Aa,hm,hd.ec]at h;rw[d2,Aa]at h;simp only at h;rw[Fk,Fm]at h;by_cases he:e'≠0
 ·rw[Aah (by rw[Ak];simpa using he)]at h;cases h;exact hcd
 ·have he0:e'=0:=by simpa using he
  obtain⟨k1,k2,k3⟩:=d3 he0;rw[Aab (by rw[Ak,he0];simp),UF hb k2 k1,Aa]at h;cases h;exact .inl rfl
theorem Aqv{f c w r n:Int}{F C W R N:Nat}(hd:HdI f c w r n F C W R N){p:LB}(hp:p.length<=100000){A:Nat}(hA:A<=p.length){k:Int}{l:LI}{e:Int}(h:Dk p f c w r n (A:Int)=some (k,l,e))(he:e≠ -1):Cd e:=by
 obtain⟨_,t2,t3⟩:=xR hd [] p hp A hA 0 [] false 0;rw[t2]at h;by_cases h1:(Er (p.drop A) (Ah (Ao R) N).length).2=24
 ·rw[Aah h1]at h;cases h;exact absurd rfl he
 ·rw[Aab h1]at h;cases h;exact Ay0 _ (Aa0 hd.fit)
theorem Aur{f c w r n:Int}{F C W R N:Nat}(hd:HdI f c w r n F C W R N){o p:LB}(hp:p.length<=100000){k:Int}{l:LI}{e:Int}(h:Et p f c w r n o=some (k,l,e))(he:e≠ -1):Cd e:=by
 rw[Et,Ht]at h;by_cases hf:geq f 2=true
 ·rw[Aah hf]at h;by_cases h8:p.length<8
  ·rw[Aah (by rw[Ae,Ac];simp;omega)]at h;cases h;exact absurd rfl he
  ·have n1:¬(Cr (Ac p) 8=true):=by rw[Ae,Ac];simp;omega
   rw[Aab n1]at h;obtain⟨z,hz,h⟩:=KS h;obtain⟨y,hy,h⟩:=KS h;by_cases hm:(z !=y)=true
   ·rw[Aah hm]at h;cases h;decide
   ·rw[Aab hm]at h;exact Aqv hd hp (A:=8) (by omega) h he
 ·rw[Aab hf]at h;exact Aqv hd hp (A:=0) (by omega) h he
theorem Bfi(p:LB):(stS p).2.2.2.2.2.2= -1\/Cd (stS p).2.2.2.2.2.2:=by
 unfold stS
 repeat' split
 ·exact .inl rfl
 ·exact .inr (wM p)
 ·exact .inl rfl
 ·exact .inl rfl
 ·exact .inr (Aat _)
theorem Bc7{o p:LB}{f c w r n:Int}{g:LI}{a:Int}{x:LB}{u:Bool}{v:Int}(hf:FitD o f c w r n g a x)(ho:o.length<=64)(hp':p.length<=100000){t1 t2:LB}{t3 t4 t5 t6 t7:Int}{t8:LI}{t9:Int}{t10:LB}{t11:Bool}{t12 e:Int}
  (h:Ag o p f c w r n g a x u v=some (t1,t2,t3,t4,t5,t6,t7,t8,t9,t10,t11,t12,e)) (he:e≠ -1):Cd e:=by
 have zero:¬(Bi (0:Int) 0=true):=by decide
 rw[Ag,Bl]at h;cases hf with
 |new e1 e2 e3 e4 e5 e6 e7 e8=>
  subst e1 e6 e7 e8;rw[Aah (by decide),Zg p hp',Aa]at h;have hcd:=Bfi p;generalize stS p=z at h hcd;obtain⟨z1,z2,z3,z4,z5,z6,z7⟩:=z;simp only at h hcd;by_cases hz:Bi z7 0=true
  ·rw[Aah hz]at h;simp only[Afk,Ajt]at h;obtain⟨-, -, -, -, -, -, -, -, -, -, -, -,rfl⟩:=h;exact hcd.resolve_left he
  ·rw[Aab hz]at h;obtain⟨af,h1,h⟩:=KS h;rw[Hg,He,Ej]at h;obtain⟨aw,h2,h⟩:=KS h;simp only[Afk,Ajt]at h;obtain⟨-, -, -, -, -, -, -, -, -, -, -, -,rfl⟩:=h;split at h2
   ·cases h2;decide
   ·cases h2;decide
 |head F C W R N hd hpw e6 e7 e8=>
  subst e6 e7 e8;have hfn:¬(geq f 0=true):=by rw[Ar];simpa using hd.fnz
  rw[Aab hfn,Bq,Br,Aah (by decide)]at h;obtain⟨⟨k,l,e1⟩,h1,h⟩:=KS h;simp only at h;by_cases hz:Bi e1 0=true
  ·rw[Aah hz]at h;simp only[Afk,Ajt]at h;obtain⟨-, -, -, -, -, -, -, -, -, -, -, -,rfl⟩:=h;exact Aur hd hp' h1 he
  ·rw[Aab hz]at h;obtain⟨af,h2,h⟩:=KS h;simp only[Afk,Ajt]at h;obtain⟨-, -, -, -, -, -, -, -, -, -, -, -,rfl⟩:=h;exact .inl rfl
 |tab F C W R N A hd hpw ht hl ea hA=>
  subst ea;have hfn:¬(geq f 0=true):=by rw[Ar];simpa using hd.fnz
  have ht':=ht;rw[Ud,Ada,Abv]at ht';have hgl:¬(geq (Ac g) 0=true):=by
   intro e;rw[Ar,Ac]at e;have hl1:=ht'.1.1;simp only[Av2,Abv]at e;omega
  rw[Aab hfn,Bq,Br,Aab hgl]at h;by_cases hend:geq (A:Int) (Ac g)=true
  ·rw[Aah hend]at h;by_cases hm:Ez (Ac p) 4000=true
   ·rw[Aah hm]at h;simp only[Afk,Ajt]at h;obtain⟨-, -, -, -, -, -, -, -, -, -, -, -,rfl⟩:=h;decide
   ·rw[Aab hm]at h;simp only[Afk,Ajt]at h;exact absurd h.2.2.2.2.2.2.2.2.2.2.2.2.symm he
  ·rw[Aab hend]at h;have hlt:A<g.length:=by
    rw[Ar,Ac]at hend;simp only[Av2]at hend;omega
   obtain⟨⟨y,e1⟩,h1,h⟩:=KS h;simp only at h;by_cases hz:Bi e1 0=true
   ·rw[Aah hz]at h;simp only[Afk,Ajt]at h;obtain⟨-, -, -, -, -, -, -, -, -, -, -, -,rfl⟩:=h;exact At1 hd ho hp' ht hl hlt h1 he
   ·rw[Aab hz]at h;obtain⟨an,h2,h⟩:=KS h;obtain⟨ah,h3,h⟩:=KS h;obtain⟨ad,h4,h⟩:=KS h;obtain⟨ae,h5,h⟩:=KS h;simp only[Afk,Ajt]at h;obtain⟨-, -, -, -, -, -, -, -, -, -, -, -,rfl⟩:=h;exact .inl rfl
theorem Axo{o:LB}{f c w r n:Int}{g:LI}{a:Int}{x:LB}(hf:FitD o f c w r n g a x)(hO:OutB f c w r n g a x):x.length<=12000:=by
 cases hf with
 |new e1 e2 e3 e4 e5 e6 e7 e8=>subst e8;simp
 |head F C W R N hd hpw e6 e7 e8=>subst e8;simp
 |tab F C W R N A hd hpw ht hl ea hA=>
  have hne:g≠ []:=by intro e;subst e;simp[Ud]at ht
  have h:=hO F C W R N A hd hne ea;obtain⟨g1,g2,g3⟩:=VI hd.shape hd.fit;have b:=OK g1 A;have KT:=hd.num;have hw:=(Agi (W:Int)).2;have hN:N*C<=4000:=by
   have h1:=Aiy C KT.2.2.2.2.2.1;have h2:=Bgf 4000 C;omega
  have hs:((Ah (Ao R) N).take A).sum.toNat<=N:=by omega
  rw[FA]at h;have hb:((Ah (Ao R) N).take A).sum.toNat*(C*wB (W:Int))<=4000*3:=by
   have h1:=Aiy (C*wB (W:Int)) hs;have h2:=Bgv hN hw;rw[<-Bhu N]at h1;omega
  omega
theorem Atl{o x:LB}{e:Int}(ho:o.length<=64)(hx:x.length<=12000)(he:Cd e)(h0:0<e):Fs o [] 0 0 0 0 0 [] 0 x false e=some 0:=by
 have hO':¬(Ez (Ac o) 64=true):=by rw[Aq,Ac];simp;omega
 have hX:Ez (Ac x) 12000=false:=by rw[Aq,Ac];simp;omega
 rw[Fs,Aab hO',Aab (by rw[Ar];simp;omega),Aah (by decide),hX,Aab (by decide),Aah (by rw[Ak];simp;omega),Aab (by decide)];obtain rfl|rfl|rfl|rfl|rfl|rfl|rfl|rfl:=he
 ·omega
 all_goals rfl
theorem Ahj:∀(k q1 q2:Nat) (o p:LB) (f c w r n:Int) (g:LI) (a:Int) (x:LB) (u:Bool) (v:Int),FitD o f c w r n g a x->o.length<=64->SzD p g a x->muD f g a<k->k<=q1->k<=q2->
  Bc q1 o p f c w r n g a x u v=Bc q2 o p f c w r n g a x u v
 |0,_,_,_,_,_,_,_,_,_,_,_,_,_,_,_,_,_,h,_,_=>by omega
 |k+1,q1,q2,o,p,f,c,w,r,n,g,a,x,u,v,hf,ho,hZ,hm,h1,h2=>by
  obtain⟨q1,rfl⟩:∃q,q1=q+1:=⟨q1-1,by omega⟩;obtain⟨q2,rfl⟩:∃q,q2=q+1:=⟨q2-1,by omega⟩;rw[Bc,Bc,Bz,Bz];have hS:StepR (Bd o u v q1) o p f c w r n g a x u v:=Adh hf ho hZ;cases hS with
  |wait hF hT=>
   rw[hT,Aa,Aa];simp only;rw[Aah (by decide),Aah (by decide)]
  |err e he hF hT=>
   rw[hT,Aa,Aa];simp only;rw[Aab (by rw[eT (by omega)];decide),Aah (by rw[Ak];simp;omega),Aab (by rw[eT (by omega)];decide),Aah (by rw[Ak];simp;omega)]
  |next p' f' c' w' r' n' g' a' x' hF hT hf' hZ' hle hmu=>
   rw[hT,Aa,Aa];simp only;rw[Aab (by decide),Aab (by decide),Aab (by decide),Aab (by decide)];exact Ahj k q1 q2 o p' f' c' w' r' n' g' a' x' u v hf' ho hZ' (by omega) (by omega) (by omega)
structure Wt (o p:LB) (f c w r n:Int) (g:LI) (a:Int) (x:LB):Prop where
 fit:FitD o f c w r n g a x
 sz:SzD p g a x
 out:OutB f c w r n g a x
 wait:Ag o p f c w r n g a x false 0=some (o,p,f,c,w,r,n,g,a,x,false,0, -1)
abbrev Kt(q:Nat)(o p:LB)(f c w r n:Int)(g:LI)(a:Int)(x:LB):=Bc q o p f c w r n g a x false 0
theorem Amq:∀(k q:Nat) (o p:LB) (f c w r n:Int) (g:LI) (a:Int) (x:LB),FitD o f c w r n g a x->o.length<=64->SzD p g a x->OutB f c w r n g a x->p.length<=100000->muD f g a<k->k<=q->
  (∃(t2:LB) (t3 t4 t5 t6 t7:Int) (t8:LI) (t9:Int) (t10:LB),Kt q o p f c w r n g a x=some (o,t2,t3,t4,t5,t6,t7,t8,t9,t10,false,0,0)/\Wt o t2 t3 t4 t5 t6 t7 t8 t9 t10/\t2.length<=p.length/\muD t3 t8 t9<k/\
   ∀b:LB,(p++b).length<=100000->Kt q o (p++b) f c w r n g a x=Kt q o (t2++b) t3 t4 t5 t6 t7 t8 t9 t10)\/
  (∃(x':LB) (e:Int),0<e/\Cd e/\x'.length<=12000/\∀b:LB,(p++b).length<=100000->Kt q o (p++b) f c w r n g a x=some (o,[],0,0,0,0,0,[],0,x',false,e,e))
 |0,_,_,_,_,_,_,_,_,_,_,_,_,_,_,_,_,h,_=>by omega
 |k+1,q,o,p,f,c,w,r,n,g,a,x,hf,ho,hZ,hO,hp,hm,h1=>by
  obtain⟨q,rfl⟩:∃q',q=q'+1:=⟨q-1,by omega⟩;have hx:x.length<=13000000:=by have:=hZ.hx;omega
  have hS:StepR (Bd o false 0 q) o p f c w r n g a x false 0:=Adh hf ho hZ;cases hS with
  |wait hF hT=>
   refine .inl ⟨p,f,c,w,r,n,g,a,x,?_,⟨hf,hZ,hO,hT⟩,An0 _,hm,λb _=>rfl⟩;rw[Kt,Bc,Bz,hT,Aa];simp only;rw[Aah (by decide),XS hZ.hp (by have:=hZ.hg;omega) hx,Aa]
  |err e he hF hT=>
   refine .inr ⟨x,e,he,Bc7 hf ho hp hT (by omega),Axo hf hO,λb hL=>?_⟩;obtain⟨s1,s2,s3,s4,s5,s6,s7,s8,s9,s10,s11,s12,hs⟩:=(nW b hf hL hT (by omega)).2 (by omega);rw[Kt,Bc,Bz,hs,Aa];simp only;rw[Aab (by rw[eT (by omega)];decide),Aah (by rw[Ak];simp;omega),rM hx,Aa]
  |next p' f' c' w' r' n' g' a' x' hF hT hf' hZ' hle hmu=>
   have hp':p'.length<=100000:=by omega
   rcases Amq k q o p' f' c' w' r' n' g' a' x' hf' ho hZ' (Ax1 hf ho hZ hO hT) hp' (by omega) (by omega)with⟨t2,t3,t4,t5,t6,t7,t8,t9,t10,k1,k2,k3,k4,k5⟩|⟨x2,e,k1,k2,k3,k4⟩
   ·refine .inl ⟨t2,t3,t4,t5,t6,t7,t8,t9,t10,?_,k2,by omega,by omega,λb hL=>?_⟩
    ·rw[Kt,Bc,Bz,hT,Aa];simp only;rw[Aab (by decide),Aab (by decide)];exact k1
    ·have hs:=(nW b hf hL hT (by decide)).1 rfl;have hL':(p'++b).length<=100000:=by rw[Aav]at hL⊢;omega
     rw[Kt,Bc,Bz,hs,Aa];simp only;rw[Aab (by decide),Aab (by decide)];refine(k5 b hL').trans ?_;exact Ahj k q (q+1) o (t2++b) t3 t4 t5 t6 t7 t8 t9 t10 false 0 k2.fit ho ⟨by rw[Aav]at hL⊢;omega,k2.sz.hg,k2.sz.hx⟩ k4 (by omega) (by omega)
   ·refine .inr ⟨x2,e,k1,k2,k3,λb hL=>?_⟩;have hs:=(nW b hf hL hT (by decide)).1 rfl;have hL':(p'++b).length<=100000:=by rw[Aav]at hL⊢;omega
    rw[Kt,Bc,Bz,hs,Aa];simp only;rw[Aab (by decide),Aab (by decide)];exact k4 b hL'
abbrev Fd(o s:LB):=Kt Ay o s 0 0 0 0 0 [] 0 []
inductive Bh (o s:LB):LB->Int->Int->Int->Int->Int->LI->Int->LB->Int->Prop
 |wt {p:LB} {f c w r n:Int} {g:LI} {a:Int} {x:LB}:Wt o p f c w r n g a x->p.length<=s.length-> (∀b:LB,(s++b).length<=100000->Fd o (s++b)=Kt Ay o (p++b) f c w r n g a x)->Bh o s p f c w r n g a x 0
 |er {x:LB} {e:Int}:0<e->Cd e->x.length<=12000-> (∀b:LB,(s++b).length<=100000->Fd o (s++b)=some (o,[],0,0,0,0,0,[],0,x,false,e,e))->Bh o s [] 0 0 0 0 0 [] 0 x e
variable {o s p:LB} {f c w r n:Int} {g:LI} {a:Int} {x:LB} {e:Int}
theorem Wt.stop(W:Wt o p f c w r n g a x):Kt Ay o p f c w r n g a x=some (o,p,f,c,w,r,n,g,a,x,false,0,0):=by
 obtain⟨q,hq⟩:∃q,Ay=q+1:=⟨Ay-1,by have:=Au;omega⟩;have hx:x.length<=13000000:=by have:=W.sz.hx;omega
 rw[Kt,hq,Bc,Bz,W.wait,Aa];simp only;rw[Aah (by decide),XS W.sz.hp (by have:=W.sz.hg;omega) hx,Aa]
theorem Bh.fd(h:Bh o s p f c w r n g a x e)(hs:s.length<=100000):Fd o s=some (o,p,f,c,w,r,n,g,a,x,false,e,e):=by
 cases h with
 |wt W hl hb=>
  have:=hb [] (by simpa using hs);rw[Aot,Aot]at this;rw[this,W.stop]
 |er h0 hc hx hb=>
  have:=hb [] (by simpa using hs);rw[Aot]at this;exact this
theorem Bh.new(ho:o.length<=64):Bh o [] [] 0 0 0 0 0 [] 0 [] 0:=by
 refine .wt ⟨.new rfl rfl rfl rfl rfl rfl rfl rfl,⟨by simp,by simp,by simp⟩,OutB.nil,?_⟩ (An0 _) λb _=>rfl;rw[Ag,Bl,Aah (by decide),Zg [] (by simp),Aa];rfl
theorem Ar7(ho:o.length<=64)(W:Wt o p f c w r n g a x)(b:LB)(hp:p.length<=20000)(hb:b.length<=20000):
  Ds o p f c w r n g a x false 0 b=Kt Ay o (p++b) f c w r n g a x/\Kc o p f c w r n g a x false 0 b=Kt Ay o (p++b) f c w r n g a x:=by
 have hR:Kc o p f c w r n g a x false 0 b=Kt Ay o (p++b) f c w r n g a x:=by
  have hx:x.length<=13000000:=by have:=W.sz.hx;omega
  have hg:g.length<=2000:=by have:=W.sz.hg;omega
  have hE:¬(Bi (0:Int) 0=true):=by decide
  have hF:¬(false=true):=by decide
  rw[Kc,Rk,Ad5 W.fit ho W.out W.wait,Aa,Aab hE,XS (by omega) hg hx,Aa];simp only;rw[Ru]
  repeat (first|rw[Aa]|rw[Aab hE]|rw[Aab hF])
  rw[By (by omega),Aa];rfl
 obtain⟨t1,t2,t3,t4,t5,t6,t7,t8,t9,t10,t11,t12,e,h1,h2,_⟩:=Bi0 ho W.fit W.sz b hp hb;exact⟨h1.trans (h2.symm.trans hR),hR⟩
theorem Bh.check(ho:o.length<=64)(h:Bh o s p f c w r n g a x e)(hp:p.length<=100000):Ta o p f c w r n g a x false e=some 0/\Fs o p f c w r n g a x false e=some 0:=by
 have key:Fs o p f c w r n g a x false e=some 0/\g.length<=1000/\x.length<=13000000:=by
  cases h with
  |wt W hl hb=>exact⟨Ad5 W.fit ho W.out W.wait,W.sz.hg,by have:=W.sz.hx;omega⟩
  |er h0 hc hx hb=>exact⟨Atl ho hx hc h0,by simp,by omega⟩
 obtain⟨k1,k2,k3⟩:=key;obtain⟨E,e1,e2⟩:=Ams o p f c w r n g a x false e hp (by omega) (by omega);rw[k1]at e2;cases e2;exact⟨e1,k1⟩
theorem Bh.feed(ho:o.length<=64)(h:Bh o s p f c w r n g a x e)(hp:p.length<=20000)(b:LB)(hb:b.length<=20000)(hs:(s++b).length<=100000):
  ∃(p':LB) (f' c' w' r' n':Int) (g':LI) (a':Int) (x':LB) (e':Int),Ds o p f c w r n g a x false e b=some (o,p',f',c',w',r',n',g',a',x',false,e',e')/\
   Kc o p f c w r n g a x false e b=some (o,p',f',c',w',r',n',g',a',x',false,e',e')/\Bh o (s++b) p' f' c' w' r' n' g' a' x' e':=by
 have hck:=h.check ho (by omega);cases h with
 |wt W hl hB=>
  obtain⟨h1,h2⟩:=Ar7 ho W b hp hb;have hpb:(p++b).length<=100000:=by rw[Aav];omega
  have hZ:SzD (p++b) g a x:=⟨hpb,W.sz.hg,W.sz.hx⟩;rcases Amq 1004 Ay o (p++b) f c w r n g a x W.fit ho hZ W.out hpb (Axn hZ) (by have:=Au;omega)with⟨t2,t3,t4,t5,t6,t7,t8,t9,t10,k1,k2,k3,k4,k5⟩|⟨x2,e,k1,k2,k3,k4⟩
  ·refine⟨t2,t3,t4,t5,t6,t7,t8,t9,t10,0,h1.trans k1,h2.trans k1, .wt k2 ?_ λb2 hL=>?_⟩
   ·rw[Aav]at k3⊢;omega
   ·rw[Agm,hB (b++b2) (by rw[<-Agm];exact hL),<-Agm];refine k5 b2 ?_;rw[Aav,Aav]at hL⊢;omega
  ·have k4':=k4 [] (by simpa using hpb);rw[Aot]at k4';refine⟨_,_,_,_,_,_,_,_,_,_,h1.trans k4',h2.trans k4', .er k1 k2 k3 λb2 hL=>?_⟩;rw[Agm,hB (b++b2) (by rw[<-Agm];exact hL),<-Agm];refine k4 b2 ?_;rw[Aav,Aav]at hL⊢;omega
 |er h0 hc hx hB=>
  have hne:Bi e 0=true:=by rw[Ak];simp;omega
  refine⟨_,_,_,_,_,_,_,_,_,_,?_,?_, .er h0 hc hx λb2 hL=>?_⟩
  ·rw[Ds,DI,Ac9 (by simp) (by simp) (by omega) hck.1,Aab (by decide),Aa];simp only;rw[Aah (show e≠0 by omega),Aah hne]
  ·rw[Kc,Rk,hck.2,Aa,Aab (by decide),XS (by simp) (by simp) (by omega),Aa];simp only;rw[Ru,Aah hne,Aa,Aah hne]
  ·rw[Agm];exact hB (b++b2) (by rw[<-Agm];exact hL)
end Go.Pl
namespace Go.Pl
open Go Go.Lv
section
variable {o s p:LB} {f c w r n:Int} {g:LI} {a:Int} {x:LB} {e:Int}
theorem FitD.drop(h:FitD o f c w r n g a x)(t:Nat):FitD o f c w r n g a (x.drop t):=by
 cases h with
 |new e1 e2 e3 e4 e5 e6 e7 e8=>subst e8;exact .new e1 e2 e3 e4 e5 e6 e7 (by simp)
 |head F C W R N hd hpw e6 e7 e8=>subst e8;exact .head F C W R N hd hpw e6 e7 (by simp)
 |tab F C W R N A hd hpw ht hl ea hA=>exact .tab F C W R N A hd hpw ht hl ea hA
theorem OutB.drop(h:OutB f c w r n g a x)(t:Nat):OutB f c w r n g a (x.drop t):=by
 intro F C W R N A hd hg ha;have:=h F C W R N A hd hg ha;rw[Akm];omega
theorem Bh.Bif(h:Bh o s p f c w r n g a x e):p.length<=s.length/\g.length<=1000/\x.length<=12000:=by
 cases h with
 |wt W hl hb=>exact⟨hl,W.sz.hg,Axo W.fit W.out⟩
 |er h0 hc hx hb=>exact⟨by simp,by simp,hx⟩
end
theorem Bcq:Vx=some true:=by kernel_rfl
section
variable {o s p:LB} {f c w r n:Int} {g:LI} {a:Int} {x:LB} {e:Int}
theorem At8{u:Bool}{v:Int}(hp:p.length<=20000)(h:Du o p f c w r n g a x u v=some e):Cd e:=by
 rw[Du]at h;split at h
 ·rw[Vp p (by omega),Aa]at h;have hok:=Xh (b:=p);simp only at h;by_cases h2:(Az p).2≠0
  ·rw[Aah (by rw[Ak];simpa using h2)]at h;cases h;exact wM p
  ·have h3:(Az p).2=0:=by simpa using h2
   obtain⟨k1,k2,k3⟩:=hok h3;have hl:(Eg p).length<=p.length:=by rw[Eg,Akm];omega
   rw[Aab (by rw[Ak,h3];simp),Ca (by omega) (by omega),Aa,show p.drop (Az p).1.toNat=Eg p from rfl,XJ _ (by omega),Aa]at h;cases h;exact Aat _
 ·split at h
  ·cases h;decide
  ·obtain⟨⟨z1,z2⟩,hz,h⟩:=KS h;simp only at h;split at h<;>(cases h;decide)
theorem Bh.finish(ho:o.length<=64)(h:Bh o s p f c w r n g a x e)(hp:p.length<=20000):
  ∃(u:Bool) (v k:Int),Tv o p f c w r n g a x false e=some (o,[],0,0,0,0,0,[],0,x,u,v,k)/\ ((u=false/\v=k/\0<k/\Cd k/\ (e=0\/e=k))\/ (u=true/\v=0/\k=0)):=by
 have hs:=h.Bif;have hck:=(h.check ho (by omega)).1;have hb:=Ac9 (o:=o) (p:=p) (f:=f) (c:=c) (w:=w) (r:=r) (n:=n) (g:=g) (a:=a) (x:=x) (u:=false) (v:=e) (by omega) (by omega) (by omega) hck;rw[Aab (by decide)]at hb;cases h with
 |wt W hl hB=>
  obtain⟨e1,d1,d2⟩:=Alz (o:=o) (p:=p) (f:=f) (c:=c) (w:=w) (r:=r) (n:=n) (a:=a) (u:=false) (v:=0) (g:=g) (x:=x) hp;have hcd:=At8 hp d2;rw[Tv,hb,Aa];simp only;rw[Aab (by decide),d1,Aa];by_cases he:Bi e1 0=true
  ·rw[Aah he];refine⟨false,e1,e1,rfl, .inl ⟨rfl,rfl,?_,hcd,by simp⟩⟩;have:=hcd.nn;rw[Ak]at he;simp only[Bk6]at he;omega
  ·rw[Aab he];exact⟨true,0,0,rfl, .inr ⟨rfl,rfl,rfl⟩⟩
 |er h0 hc hx hB=>
  have hne:Bi e 0=true:=by rw[Ak];simp;omega
  rw[Tv,hb,Aa];simp only;rw[Aah (show e≠0 by omega),Aah hne];exact⟨false,e,e,rfl, .inl ⟨rfl,rfl,h0,hc, .inr rfl⟩⟩
end
section
variable {o p:LB} {f c w r n:Int} {g:LI} {a:Int} {x:LB} {q:Nat}
theorem NG(hp:p.length<=100000)(hg:g.length<=1000)(hx:x.length<=13000000)(h:Ag o p f c w r n g a x false 0=some (o,p,f,c,w,r,n,g,a,x,false,0, -1)):Kt (q+1) o p f c w r n g a x=some (o,p,f,c,w,r,n,g,a,x,false,0,0):=by
 rw[Kt,Bc,Bz,h,Aa];simp only;rw[Aah (by decide),XS hp (by omega) hx,Aa]
theorem cY(hx:x.length<=13000000){e:Int}(he:0<e){t2:LB}{t3 t4 t5 t6 t7:Int}{t8:LI}{t9:Int}{t11:Bool}{t12:Int}(h:Ag o p f c w r n g a x false 0=some (o,t2,t3,t4,t5,t6,t7,t8,t9,x,t11,t12,e)):Kt (q+1) o p f c w r n g a x=some (o,[],0,0,0,0,0,[],0,x,false,e,e):=by
 rw[Kt,Bc,Bz,h,Aa];simp only;rw[Aab (by rw[eT (by omega)];decide),Aah (by rw[Ak];simp;omega),rM hx,Aa]
theorem vP{p':LB}{f' c' w' r' n':Int}{g':LI}{a':Int}{x':LB}(h:Ag o p f c w r n g a x false 0=some (o,p',f',c',w',r',n',g',a',x',false,0,0)):Kt (q+1) o p f c w r n g a x=Kt q o p' f' c' w' r' n' g' a' x':=by
 rw[Kt,Bc,Bz,h,Aa];simp only;rw[Aab (by decide),Aab (by decide)]
end
def Ends(o:LB)(R:Option Bh6)(x:LB)(e:Int):Prop:=(0<e/\R=some (o,[],0,0,0,0,0,[],0,x,false,e,e))\/ (∃(p:LB) (f c w r n:Int) (g:LI) (a:Int),p.length<=100000/\R=some (o,p,f,c,w,r,n,g,a,x,false,0,0)/\Du o p f c w r n g a x false 0=some e)
theorem Ape(b p:LB)(hb:b.length<=20000)(hp:p.length<=64)(q:Nat):
  (∃e:Int,e≠0/\Es b p=some (zS e)/\Ends p (Kt (q+2) p b 0 0 0 0 0 [] 0 []) [] e)\/ (∃f c w r n A l,Opn b p f c w r n A l/\Kt (q+2) p b 0 0 0 0 0 [] 0 []=Kt q p (b.drop A) (f:Int) (c:Int) (w:Int) (r:Int) (n:Int) l 0 []):=by
 have hx0:([]:LB).length<=13000000:=by simp
 have hg0:([]:LI).length<=1000:=by simp
 have hT:Ag p b 0 0 0 0 0 [] 0 [] false 0=Ag p b 0 0 0 0 0 [] 0 [] false 0:=rfl
 conv at hT=>rhs;rw[Ag,Bl,Aah (by decide),Zg b (by omega),Aa,stS]
 have hE:Du p b 0 0 0 0 0 [] 0 [] false 0=Du p b 0 0 0 0 0 [] 0 [] false 0:=rfl
 conv at hE=>rhs;rw[Du,Aah (by decide),Vp b (by omega),Aa]
 have hP:Es b p=Es b p:=rfl
 conv at hP=>rhs;rw[Es,AJ,Aab (by rw[Aq,Ac];simp;omega),Aab (by rw[Aq,Ac];simp;omega),Qf b (by omega),Aa]
 have hfn:=wY b;have hrn:=Aa3 (Eg b);have hopen:=Ar3 b p (by omega) hp;simp only at hE;by_cases h2:(Az b).2=0
 ·obtain⟨p0,p1,p2⟩:=Xh h2;have hc:=Ca (l:=b) p0 p1;have hlen:(Eg b).length=b.length-(Az b).1.toNat:=by simp[Eg]
  simp only[h2]at hP hE;rw[Aab (show ¬(Az b).2=24 by omega),Aab (show ¬(Az b).2≠0 by omega)]at hT;rw[Aab (by rw[Ak];simp),hc,Aa,show b.drop (Az b).1.toNat=Eg b from rfl,NY _ (by simp[Eg];omega),Aa]at hP;rw[Aab (by rw[Ak];simp),hc,Aa,show b.drop (Az b).1.toNat=Eg b from rfl,XJ _ (by simp[Eg];omega),Aa]at hE;by_cases h3:(Dt (Eg b)).2.2.2.2.2=0
  ·obtain⟨g1,g2,g3,g4⟩:=dR h3;have Bea:¬((Pa (Eg b) xW||Pa (Eg b) zO)=true):=by
    have i1:Pa (Eg b) xW=false:=by rw[Pa,Bei (by simp[xW];omega)];rfl
    have i2:Pa (Eg b) zO=false:=by rw[Pa,Bei (by simp[zO];omega)];rfl
    rw[i1,i2];decide
   rw[Aab Bea,Aab (show ¬(Dt (Eg b)).2.2.2.2.2=24 by omega),h3]at hT;simp only at hT;rw[Aab (by decide)]at hT;have hd:HdI (f0 (Eg b):Int) (f1 (Eg b):Int) (f2 (Eg b):Int) (f3 (Eg b):Int) (f4 (Eg b):Int) (f0 (Eg b)) (f1 (Eg b)) (f2 (Eg b)) (f3 (Eg b)) (f4 (Eg b)):=⟨rfl,rfl,rfl,rfl,rfl,g3,g4⟩;generalize hF:(Az b).1.toNat=F at*
   have hF':(Az b).1=(F:Int):=by omega
   rw[g1,hF']at hP hT;simp only at hP hT;generalize f0 (Eg b)=f at*
   generalize f1 (Eg b)=c at*
   generalize f2 (Eg b)=w at*
   generalize f3 (Eg b)=r at*
   generalize f4 (Eg b)=n at*
   have t22:Ad (F:Int) 22=((F+22:Nat):Int):=by rw[Aj (by omega) (by omega)];omega
   have t30:Ad ((F+22:Nat):Int) 8=((F+30:Nat):Int):=by rw[Aj (by omega) (by omega)];omega
   have Bjc:f=1\/f=2:=by simp only[Gf,Abv]at g3;omega
   have hf1:geq (f:Int) 1=decide (f=1):=by rw[Ar,Amo];simp;omega
   rw[Aab (by rw[Ak];simp),t22,t30]at hP;rw[Ca (by omega) (by omega),Aa,Hg,He,Ej,show((F:Int)+22).toNat=F+22 by omega]at hT;by_cases qV:((p==([]:List UInt8)) !=(geq (f:Int) (1:Int)))=true
   ·rw[Aah qV]at hP hT;rw[Aa]at hT;exact .inl ⟨26,by omega,hP, .inl ⟨by omega,cY (q:=q+1) hx0 (by decide) hT⟩⟩
   ·rw[Aab qV]at hP hT;rw[Aa]at hT;have hl1:=vP (q:=q+1) hT;have hpf:(p=[]↔f=1):=by
     rw[Ar]at qV;have h5:(p==([]:List UInt8))=((f:Int)==1):=by simpa using qV
     have h6:(p==([]:List UInt8))=true↔((f:Int)==1)=true:=by rw[h5]
     rw[Av2,Av2]at h6;rw[h6];omega
    have hpw:(p==([]:LB))=decide (f=1):=by rw[<-hf1];simpa using qV
    have hdl:(b.drop (F+22)).length=b.length-(F+22):=Akm;have hE2:Du p (b.drop (F+22)) (f:Int) (c:Int) (w:Int) (r:Int) (n:Int) [] 0 [] false 0=some 24:=by
     rw[Du,Aab (by rw[Ar];simp;omega),Aah (by decide)]
    have hT2:Ag p (b.drop (F+22)) (f:Int) (c:Int) (w:Int) (r:Int) (n:Int) [] 0 [] false 0=Ag p (b.drop (F+22)) (f:Int) (c:Int) (w:Int) (r:Int) (n:Int) [] 0 [] false 0:=rfl
    conv at hT2=>rhs;rw[Ag,Bl,Aab (by rw[Ar];simp;omega),Bq,Br,Aah (by decide),Et,Ht]
    have hend:∀D:Nat,F+22+D<=b.length->D=(if f=2 then 8 else 0)->Es b p=Un b (f:Int) (c:Int) (w:Int) (r:Int) (n:Int) ((F+22+D:Nat):Int)->
      Ag p (b.drop (F+22)) (f:Int) (c:Int) (w:Int) (r:Int) (n:Int) [] 0 [] false 0=((Dk (b.drop (F+22)) (f:Int) (c:Int) (w:Int) (r:Int) (n:Int) (D:Int)).bind (λ(ag,ak,w1)=>if(Bi w1 0)then some (p,b.drop (F+22),(f:Int),(c:Int),(w:Int),(r:Int),(n:Int),([]:LI),(0:Int),([]:LB),false,(0:Int),w1)else(Bk (b.drop (F+22)) ag (Ac (b.drop (F+22)))).bind λal=>some (p,al,(f:Int),(c:Int),(w:Int),(r:Int),(n:Int),ak,(0:Int),([]:LB),false,(0:Int),(0:Int))))->
      (∃e:Int,e≠0/\Es b p=some (zS e)/\Ends p (Kt (q+2) p b 0 0 0 0 0 [] 0 []) [] e)\/ (∃f c w r n A l,Opn b p f c w r n A l/\Kt (q+2) p b 0 0 0 0 0 [] 0 []=Kt q p (b.drop A) (f:Int) (c:Int) (w:Int) (r:Int) (n:Int) l 0 []):=by
     intro D hD hD2 e1 e2;obtain⟨_,k2,k3⟩:=xR hd p (b.drop (F+22)) (by omega) D (by omega) 0 [] false 0;rw[xF g3 g4 b (by omega) (F+22+D) hD]at e1;rw[k2,Aa]at e2;have hnn:=Aen ((b.drop (F+22)).drop D) (Ah (Ao r) n).length;have hok:=dF (b:=(b.drop (F+22)).drop D) (n:=(Ah (Ao r) n).length);rw[Biu]at e2 hnn hok k3;generalize hz:Er (b.drop (F+22+D)) (Ah (Ao r) n).length=z at*
     obtain⟨z1,z2⟩:=z;simp only at e1 e2 hnn hok k3;by_cases h:z2≠0
     ·rw[Aah h]at e1;refine .inl ⟨z2,h,e1,?_⟩;by_cases h24:z2=24
      ·rw[Aah h24]at e2;simp only at e2;rw[Aah (by decide)]at e2;rw[h24];exact .inr ⟨_,_,_,_,_,_,_,_,by omega,hl1.trans (NG (by omega) hg0 hx0 e2),hE2⟩
      ·rw[Aab h24]at e2;simp only at e2;rw[Aah (by rw[Ak];simpa using h)]at e2;exact .inl ⟨by omega,hl1.trans (cY hx0 (by omega) e2)⟩
     ·have h0:z2=0:=by simpa using h
      subst h0;obtain⟨k1,m2,m3,m4,m5,m6⟩:=hok rfl;have hk3:=k3 rfl;simp only[Ajt,Bll]at k1;have gl:z1.length=(Ah (Ao r) n).length:=by rw[k1];exact Ty _ _
      rw[Aab (show ¬((0:Int)≠0) by decide)]at e1;rw[Aab (show ¬((0:Int)=24) by decide)]at e2;simp only at e2;rw[Aab (by decide),Ca (by omega) (by omega),Aa,Biu]at e2;rcases hopen with⟨e,he,h1,_⟩|⟨f',c',w',r',n',A',l',o'⟩
      ·rw[e1]at h1;have:=Bhg h1;simp only[zS,Ajt]at this;exact absurd this.2.2.2.2.2.2.2.symm he
      ·have hpr:=o'.prog;rw[e1]at hpr;simp only[Afk,Ajt]at hpr;obtain⟨v1,v2,v3,v4,v5,v6,v7,_⟩:=hpr;refine .inr ⟨f',c',w',r',n',A',l',o',?_⟩;rw[<-v1,<-v2,<-v3,<-v4,<-v5,<-v7];refine hl1.trans ((vP e2).trans ?_);congr 2;omega
    by_cases h5:f=2
    ·have Bg5:p≠ []:=λe=>by have:=hpf.1 e;omega
     have h64:(p !=([]:List UInt8))=true:=by simpa using Bg5
     rw[Aah h64]at hP;rw[Aah (by rw[Ar,h5];rfl)]at hT2;by_cases h6:b.length<F+30
     ·rw[Aah (by rw[Ae,Ac];simp;omega)]at hP hT2;rw[Aa]at hT2;simp only at hT2;rw[Aah (by decide)]at hT2;exact .inl ⟨24,by omega,hP, .inr ⟨_,_,_,_,_,_,_,_,by omega,hl1.trans (NG (by omega) hg0 hx0 hT2),hE2⟩⟩
     ·have hseg:((b.take (F+30)).drop (F+22)).length=8:=by simp;omega
      have Bk0:(b.drop (F+22)).take 8=(b.take (F+30)).drop (F+22):=by rw[Bli];congr 1;omega
      rw[Aab (by rw[Ae,Ac];simp;omega),Ut (by omega) (by omega) (by omega),Aa]at hP;rw[Aab (by rw[Ae,Ac,hdl];simp;omega),Da (by omega) (by omega),Aa,oG p hp,Aa,show(8:Int).toNat=8 from rfl,Bk0]at hT2;rw[Rq,oV p hp,Aa]at hP;simp only at hP;rw[Aab (by rw[Ak,Ak,Ac,Ac,Cf,show((F+30:Nat):Int).toNat=F+30 from rfl,show((F+22:Nat):Int).toNat=F+22 from rfl,hseg];simp),Ii,Aa,Aa]at hP;simp only at hP;rw[Aab (by rw[Ak];simp),show((F+30:Nat):Int).toNat=F+30 from rfl,show((F+22:Nat):Int).toNat=F+22 from rfl]at hP;generalize(b.take (F+30)).drop (F+22)=qU at*
      by_cases h7:qU=Te (Wv p).toNat 8
      ·rw[Aab (by simp[h7])]at hP hT2;exact hend 8 (by omega) (by rw[Aah h5]) hP hT2
      ·rw[Aah (by simpa using h7)]at hP;rw[Aah (by simpa using h7),Aa]at hT2;simp only at hT2;rw[Aah (by decide)]at hT2;exact .inl ⟨26,by omega,hP, .inl ⟨by omega,hl1.trans (cY hx0 (by decide) hT2)⟩⟩
    ·have hpe:p=[]:=hpf.2 (by omega);rw[Aab (by rw[hpe];simp)]at hP;rw[Aab (by rw[Ar];simp;omega)]at hT2;exact hend 0 (by omega) (by rw[Aab h5]) hP hT2
  ·have h3':=h3;generalize Dt (Eg b)=v at*
   obtain⟨v1,v2,v3,v4,v5,v6⟩:=v;simp only at h3 hP hE hrn;rw[Aah (by rw[Ak];simpa using h3)]at hP;refine .inl ⟨v6,h3,hP,?_⟩;by_cases Bea:(Pa (Eg b) xW||Pa (Eg b) zO)=true
   ·rw[Aah Bea]at hT;simp only at hT;rw[Aah (by decide)]at hT;exact .inr ⟨_,_,_,_,_,_,_,_,by omega,NG (by omega) hg0 hx0 hT,hE⟩
   ·rw[Aab Bea]at hT;by_cases h24:v6=24
    ·rw[Aah h24]at hT;simp only at hT;rw[Aah (by decide)]at hT;exact .inr ⟨_,_,_,_,_,_,_,_,by omega,NG (by omega) hg0 hx0 hT,hE⟩
    ·rw[Aab h24]at hT;simp only at hT;rw[Aah (by rw[Ak];simpa using h3)]at hT;exact .inl ⟨by omega,cY hx0 (by omega) hT⟩
 ·have h2':=h2;generalize Az b=v at*
  obtain⟨v,e⟩:=v;simp only at h2 hP hT hE hfn;rw[Aah (by rw[Ak];simpa using h2)]at hP hE;refine .inl ⟨e,h2,hP,?_⟩;by_cases h24:e=24
  ·rw[Aah h24]at hT;simp only at hT;rw[Aah (by decide)]at hT;exact .inr ⟨_,_,_,_,_,_,_,_,by omega,NG (by omega) hg0 hx0 hT,hE⟩
  ·rw[Aab h24,Aah h2]at hT;simp only at hT;rw[Aah (by rw[Ak];simpa using h2)]at hT;exact .inl ⟨by omega,cY hx0 (by omega) hT⟩
section
variable {b p:List UInt8} {f c w r n A:Nat} {l:List Int} (o:Opn b p f c w r n A l) (hb:b.length<=20000)
include o hb
theorem Ae3{k:Nat}(hk:k<l.length)(h0:(A:Int)+(l.take k).sum<=b.length)(acc:LB)(hacc:acc.length<=12000*k):
  (b.length<(A:Int)+(l.take (k+1)).sum->∀q,Kt (q+1) p (b.drop ((A:Int)+(l.take k).sum).toNat) (f:Int) (c:Int) (w:Int) (r:Int) (n:Int) l (k:Int) acc=some (p,b.drop ((A:Int)+(l.take k).sum).toNat,(f:Int),(c:Int),(w:Int),(r:Int),(n:Int),l,(k:Int),acc,false,0,0))/\
  ((A:Int)+(l.take (k+1)).sum<=b.length-> ((KP b p f c w r n A l k).2=0->∀q,Kt (q+1) p (b.drop ((A:Int)+(l.take k).sum).toNat) (f:Int) (c:Int) (w:Int) (r:Int) (n:Int) l (k:Int) acc=Kt q p (b.drop ((A:Int)+(l.take (k+1)).sum).toNat) (f:Int) (c:Int) (w:Int) (r:Int) (n:Int) l ((k+1:Nat):Int) (acc++(KP b p f c w r n A l k).1))/\
   ((KP b p f c w r n A l k).2≠0->∀q,Kt (q+1) p (b.drop ((A:Int)+(l.take k).sum).toNat) (f:Int) (c:Int) (w:Int) (r:Int) (n:Int) l (k:Int) acc=some (p,[],0,0,0,0,0,[],0,acc,false,(KP b p f c w r n A l k).2,(KP b p f c w r n A l k).2))):=by
 have hd:HdI (f:Int) (c:Int) (w:Int) (r:Int) (n:Int) f c w r n:=⟨rfl,rfl,rfl,rfl,rfl,o.shape,o.fit⟩;have hs1:=o.some1;have hsum:=o.sum;have KT:=hd.num;have hlen:=o.len;have b1:=Nw o.five k;have hfn:¬(geq (f:Int) 0=true):=by rw[Ar];simp;omega
 have hgl:¬(geq (Ac l) 0=true):=by rw[Ar,Ac,Av2];omega
 generalize hIn:b.drop ((A:Int)+(l.take k).sum).toNat=In;have Bk1:In.length=b.length-((A:Int)+(l.take k).sum).toNat:=by rw[<-hIn,Akm]
 have hT:Ag p In (f:Int) (c:Int) (w:Int) (r:Int) (n:Int) l (k:Int) acc false 0=Ag p In (f:Int) (c:Int) (w:Int) (r:Int) (n:Int) l (k:Int) acc false 0:=rfl
 conv at hT=>rhs;rw[Ag,Bl,Aab hfn,Bq,Br,Aab hgl]
 have hlt2:k<(Ah (Ao r) n).length:=by omega
 obtain⟨m,x,s,e,g⟩:=NR o k hk;have hw:Bt (w:Int):=(AI o.shape).2.1;have Beb:=g.lens hw;have b2:=Nw o.five (k+1);have e1:=Hj hk;have h5:=o.five l[k] (Am7 _);have hm:=g.mom;rw[Aab (by rw[Ar,Ac];simp;omega),Dh,Fp,Bu hk,Aa]at hT;rw[g.eq];simp only;refine⟨λhlt q=>?_,λhge=>?_⟩
 ·rw[Aah (by rw[Ae,Ac];simp;omega),Aa]at hT;simp only at hT;rw[Aah (by decide)]at hT;exact NG (by omega) hs1.2 (by omega) hT
 rcases g.way with⟨w1,_⟩|⟨w1,_,w2⟩
 ·omega
 have hseg:In.take l[k].toNat=wD b A l k:=by
  rw[wD,<-hIn,Bli];congr 1;omega
 have hnn:=vX hw (Qb p) KT.2.1.1 KT.2.1.2 g.pos.1 (by
  have hlt3:=Bu hlt2;rw[hlt3]at hm;have hm':=Bhg hm;obtain⟨m',hm2,m1,m2⟩:=Zi (Fh r) KT.2.2.2.2.1 (Am7 hlt2);omega) w2
 rw[Aab (by rw[Ae,Ac];simp;omega),dS p o.pass,Aa]at hT;simp only at hT;rw[Da (by omega) (by omega),Aa,hseg,Gs,Aa]at hT;simp only at hT;rw[hd.Ak8,Aa,hm,Aa,Aa,w2,Aa]at hT;simp only at hT;rw[Fk,Fm]at hT;refine⟨λhe q=>?_,λhe q=>?_⟩
 ·obtain⟨q1,q2,q3,q4,q5⟩:=g.some' he;rw[Aab (by rw[Ak];simpa using he),UF hw (by omega) q3,<-q1,Aa,Aa]at hT;simp only at hT;rw[Aab (by decide),By (by simp;omega),Aa,Aqd,By (by omega),Aa,Aa,Ca (by omega) (by omega),Aa,Aj (by omega) (by omega)]at hT;rw[vP hT];have Bk2:In.drop l[k].toNat=b.drop ((A:Int)+(l.take (k+1)).sum).toNat:=by rw[<-hIn,Biu];congr 1;omega
  rw[Bk2];rfl
 ·rw[Aah (by rw[Ak];simpa using he),Aa]at hT;simp only at hT;rw[Aah (by rw[Ak];simpa using he)]at hT;exact cY (by omega) (by omega) hT
theorem Ab8:∀(j k q:Nat) (acc:LB),k+j<=l.length-> (A:Int)+(l.take (k+j)).sum<=b.length-> (∀i,k<=i->i<k+j-> (KP b p f c w r n A l i).2=0)->acc.length<=12000*k->
  Kt (q+j) p (b.drop ((A:Int)+(l.take k).sum).toNat) (f:Int) (c:Int) (w:Int) (r:Int) (n:Int) l (k:Int) acc=Kt q p (b.drop ((A:Int)+(l.take (k+j)).sum).toNat) (f:Int) (c:Int) (w:Int) (r:Int) (n:Int) l ((k+j:Nat):Int) (acc++TZ (λi=>(KP b p f c w r n A l i).1) j k)
 |0,k,q,acc,_,_,_,_=>by simp[TZ]
 |j+1,k,q,acc,hk,hA,hg,hacc=>by
  have hnn:∀z∈l,0<=z:=λz hz=>by have:=o.five z hz;omega
  have m0:=uC hnn (show k<=k+(j+1) by omega);have m1:=uC hnn (show k+1<=k+(j+1) by omega);obtain⟨_,h2⟩:=Ae3 (hb:=hb) o (k:=k) (by omega) (by omega) acc hacc;have h3:=(h2 (by omega)).1 (hg k (by omega) (by omega)) (q+j);obtain⟨m,x,s,e,g⟩:=NR o k (by omega);have Beb:=g.lens (AI o.shape).2.1;have hs:(KP b p f c w r n A l k).1.length<=12000:=by rw[g.eq];exact Beb.1
  have ih:=Ab8 j (k+1) q (acc++(KP b p f c w r n A l k).1) (by omega) (by rw[show k+1+j=k+(j+1) by omega];exact hA) (λi h1 h2=>hg i (by omega) (by omega)) (by rw[Aav];omega);rw[show q+(j+1)=q+j+1 by omega,h3,ih,show k+1+j=k+(j+1) by omega,TZ,Agm]
theorem Awr{acc:LB}(hacc:acc.length<=13000000)(h0:(A:Int)+l.sum<=b.length)(h4:b.length<= (A:Int)+l.sum+4000)(q:Nat):Kt (q+1) p (b.drop ((A:Int)+l.sum).toNat) (f:Int) (c:Int) (w:Int) (r:Int) (n:Int) l (l.length:Int) acc=some (p,b.drop ((A:Int)+l.sum).toNat,(f:Int),(c:Int),(w:Int),(r:Int),(n:Int),l,(l.length:Int),acc,false,0,0):=by
 have hd:HdI (f:Int) (c:Int) (w:Int) (r:Int) (n:Int) f c w r n:=⟨rfl,rfl,rfl,rfl,rfl,o.shape,o.fit⟩;have hs1:=o.some1;have KT:=hd.num;have hfn:¬(geq (f:Int) 0=true):=by rw[Ar];simp;omega
 have hgl:¬(geq (Ac l) 0=true):=by rw[Ar,Ac,Av2];omega
 have hl0:0<=l.sum:=Aj7 l o.five;generalize hIn:b.drop ((A:Int)+l.sum).toNat=In;have Bk1:In.length=b.length-((A:Int)+l.sum).toNat:=by rw[<-hIn,Akm]
 have hT:Ag p In (f:Int) (c:Int) (w:Int) (r:Int) (n:Int) l (l.length:Int) acc false 0=Ag p In (f:Int) (c:Int) (w:Int) (r:Int) (n:Int) l (l.length:Int) acc false 0:=rfl
 conv at hT=>rhs;rw[Ag,Bl,Aab hfn,Bq,Br,Aab hgl]
 rw[Aah (by rw[Ar,Ac];simp),Aab (by rw[Aq,Ac];simp;omega)]at hT;exact NG (by omega) hs1.2 hacc hT
theorem Auy(q:Nat):Kt (q+2) p b 0 0 0 0 0 [] 0 []=Kt q p (b.drop A) (f:Int) (c:Int) (w:Int) (r:Int) (n:Int) l 0 []:=by
 rcases Ape b p hb o.pass q with⟨e,he,h1,_⟩|⟨f',c',w',r',n',A',l',o',h2⟩
 ·have:=o.prog;rw[h1]at this;have:=Bhg this;simp only[zS,Ajt]at this;exact absurd this.2.2.2.2.2.2.2 he
 ·have hpr:=o'.prog;rw[o.prog]at hpr;simp only[Afk,Ajt]at hpr;obtain⟨v1,v2,v3,v4,v5,v6,v7,_⟩:=hpr;obtain rfl:f=f':=by omega
  obtain rfl:c=c':=by omega
  obtain rfl:w=w':=by omega
  obtain rfl:r=r':=by omega
  obtain rfl:n=n':=by omega
  obtain rfl:A=A':=by omega
  subst v7;exact h2
theorem Bav{K:Nat}(hK:K<=l.length)(hA:(A:Int)+(l.take K).sum<=b.length)(hg:∀i,i<K-> (KP b p f c w r n A l i).2=0)(hend:(K<l.length/\b.length<(A:Int)+(l.take (K+1)).sum)\/ (K=l.length/\b.length<= (A:Int)+l.sum+4000)):
  Fd p b=some (p,b.drop ((A:Int)+(l.take K).sum).toNat,(f:Int),(c:Int),(w:Int),(r:Int),(n:Int),l,(K:Int),TZ (λi=>(KP b p f c w r n A l i).1) K 0,false,0,0):=by
 obtain⟨q,hq⟩:∃q,Ay=(q+1+K)+2:=⟨Ay-(K+3),by have:=Au;have:=o.some1;omega⟩;have hr:=Ab8 o hb K 0 (q+1) [] (by omega) (by rw[Bar];exact hA) (λi _ h2=>hg i (by omega)) (by simp);rw[Bey,Bkf,Int.add_zero,Ahr,Bar,Aqd,show((0:Nat):Int)=0 from rfl]at hr;have hcl:(TZ (λi=>(KP b p f c w r n A l i).1) K 0).length<=12000*K:=by
  have:∀j,j<=l.length-> (TZ (λi=>(KP b p f c w r n A l i).1) j 0).length<=12000*j:=by
   intro j
   induction j with
   |zero=>intro _;simp[TZ]
   |succ j ih=>
    intro hj;obtain⟨m,x,s,e,g⟩:=NR o j (by omega);have Beb:=g.lens (AI o.shape).2.1;have:=ih (by omega);have hs:(KP b p f c w r n A l j).1.length<=12000:=by rw[g.eq];exact Beb.1
    rw[Ath,Aav,Bar];omega
  exact this K hK
 rw[Fd,hq,Auy o hb,hr];rcases hend with⟨h1,h2⟩|⟨rfl,h2⟩
 ·exact(Ae3 o hb h1 hA _ hcl).1 h2 q
 ·rw[Bgh]at hA⊢;exact Awr o hb (by have:=o.some1;omega) hA h2 q
end
theorem Awk{b b' p:LB}{f c w r n A:Nat}{l:LI}(o:Opn b p f c w r n A l)(o':Opn b' p f c w r n A l){k:Nat}(hk:k<l.length)(h1:(A:Int)+(l.take (k+1)).sum<=b.length)(h2:(A:Int)+(l.take (k+1)).sum<=b'.length)(hs:wD b A l k=wD b' A l k):KP b p f c w r n A l k=KP b' p f c w r n A l k:=by
 obtain⟨m,x,s,e,g⟩:=NR o k hk;obtain⟨m',x',s',e',g'⟩:=NR o' k hk;have hm:=g.mom;rw[g'.mom]at hm;have hm:=Bhg hm;obtain rfl:m'=m:=by omega
 rcases g.way with⟨w1,_⟩|⟨_,w2,_⟩
 ·omega
 rcases g'.way with⟨w1,_⟩|⟨_,w2',_⟩
 ·omega
 rw[hs,w2']at w2;simp only[Afk,Ajt]at w2;obtain⟨rfl,rfl⟩:=w2;rw[g.eq,g'.eq];by_cases he:e'=0
 ·rw[(g.some' he).1,(g'.some' he).1]
 ·rw[(g.none' he).1,(g'.none' he).1]
theorem Anm{c w r n:Nat}{x:List Int32}(h:ClipOk c w r n x){p:LB}(hp:p.length<=64){t:Nat}(ht:MS 0 p (Wy c w r n x p).length<=t):Opn ((Tf c w r n x p).take t) p (Ks p) c w r n (MS 0 p (Wy c w r n x p).length) (Cu (Wy c w r n x p)):=by
 have fo:=oK h hp;have hl:(Cu (Wy c w r n x p)).length=(Ah (Ao r) n).length:=by rw[Jb];exact iK p
 have e2:(GG (Ks p) c w r n++(iM p++aR (Cu (Wy c w r n x p)))).length=MS 0 p (Wy c w r n x p).length:=by
  rw[Aav,Aav,dI,nR,nJ,Jb];unfold MS;omega
 have e1:(Tf c w r n x p).take t=GG (Ks p) c w r n++(iM p++(aR (Cu (Wy c w r n x p))++(Wy c w r n x p).flatten.take (t-MS 0 p (Wy c w r n x p).length))):=by
  have:Tf c w r n x p=(GG (Ks p) c w r n++(iM p++aR (Cu (Wy c w r n x p))))++(Wy c w r n x p).flatten:=by simp[Tf]
  rw[this,List.take_append,Ars (by omega),e2];simp
 have hA4:4<=t:=by unfold MS at ht;omega
 have:=Ang (b:=(Tf c w r n x p).take t) (T:=0) (z:=(Wy c w r n x p).flatten.take (t-MS 0 p (Wy c w r n x p).length)) hp rfl (h.shape _ (uH p)) h.fit (zE (by
  rw[Bjb,show min 4 t=4 by omega,Tf,GD];rfl)) (by rw[Ajr];have:=fo.le;omega) (by rw[Bka];exact e1) hl (Acn h p)
 rw[Jb]at this;exact this
theorem Bbo{c w r n:Nat}{x:List Int32}(h:ClipOk c w r n x){p:LB}(hp:p.length<=64){t:Nat}(ht:MS 0 p (Wy c w r n x p).length<=t)(ht2:t<= (Tf c w r n x p).length){k:Nat}(hk:k<(Wy c w r n x p).length)(hin:(MS 0 p (Wy c w r n x p).length:Int)+((Cu (Wy c w r n x p)).take (k+1)).sum<=t):
  KP ((Tf c w r n x p).take t) p (Ks p) c w r n (MS 0 p (Wy c w r n x p).length) (Cu (Wy c w r n x p)) k=(Cy (w:Int) ((Wx c r n x).getD k []),0):=by
 have fo:=oK h hp;have hg:=(fo.Bj4 hk rfl).1;rw[<-hg];refine Awk (Anm h hp ht) fo.Gc (by rw[Jb];exact hk) (by rw[Ajr];omega) (by omega) ?_;rw[wD,wD,Bjb];congr 2;omega
theorem tA{α:Type}{l m z:List α}(h:Dy l m=some z):z=l++m:=by
 rw[Dy]at h;split at h
 ·exact(Bhg h).symm
 ·cases h
theorem Aw9{o p:LB}{f c w r n:Int}{g:LI}{a:Int}{x:LB}{u:Bool}{v:Int}(hf:f≠0)(hg:g≠ []){t1 t2:LB}{t3 t4 t5 t6 t7:Int}{t8:LI}{t9:Int}{t10:LB}{t11:Bool}{t12 e:Int}
  (h:Ag o p f c w r n g a x u v=some (t1,t2,t3,t4,t5,t6,t7,t8,t9,t10,t11,t12,e)):e≠0\/ (t3=f/\t8=g/\∃y,t10=x++y):=by
 rw[Ag,Bl,Aab (by rw[Ar];simpa using hf),Bq,Br,Aab (by
  rw[Ar,Ac,Av2];intro e;exact hg (Bee (by omega)))]at h
 by_cases he:geq a (Ac g)=true
 ·rw[Aah he]at h;by_cases hm:Ez (Ac p) 4000=true
  ·rw[Aah hm]at h;simp only[Afk,Ajt]at h;left;rw[<-h.2.2.2.2.2.2.2.2.2.2.2.2];decide
  ·rw[Aab hm]at h;simp only[Afk,Ajt]at h;left;rw[<-h.2.2.2.2.2.2.2.2.2.2.2.2];decide
 ·rw[Aab he]at h;obtain⟨⟨z1,z2⟩,hz1,h⟩:=KS h;simp only at h;by_cases h7:Bi z2 0=true
  ·rw[Aah h7]at h;simp only[Afk,Ajt]at h;left;rw[<-h.2.2.2.2.2.2.2.2.2.2.2.2];rw[Ak]at h7;simpa using h7
  ·rw[Aab h7]at h;obtain⟨an,h2,h⟩:=KS h;obtain⟨ah,h3,h⟩:=KS h;obtain⟨ad,h4,h⟩:=KS h;obtain⟨ae,h5,h⟩:=KS h;simp only[Afk,Ajt]at h;have e1:=tA h2;have e2:=tA h3;rw[Aqd]at e1;right;exact⟨h.2.2.1.symm,h.2.2.2.2.2.2.2.1.symm,z1,by rw[<-h.2.2.2.2.2.2.2.2.2.1,e2,e1]⟩
theorem Amu:∀(q:Nat) (o p:LB) (f c w r n:Int) (g:LI) (a:Int) (x:LB) (u:Bool) (v:Int),f≠0->g≠ []->∀(t1 t2:LB) (t3 t4 t5 t6 t7:Int) (t8:LI) (t9:Int) (t10:LB) (t11:Bool) (t12 e:Int),Bc q o p f c w r n g a x u v=some (t1,t2,t3,t4,t5,t6,t7,t8,t9,t10,t11,t12,e)->∃y,t10=x++y
 |0,o,p,f,c,w,r,n,g,a,x,u,v,_,_,t1,t2,t3,t4,t5,t6,t7,t8,t9,t10,t11,t12,e,h=>by cases h
 |q+1,o,p,f,c,w,r,n,g,a,x,u,v,hf,hg,t1,t2,t3,t4,t5,t6,t7,t8,t9,t10,t11,t12,e,h=>by
  rw[Bc,Bz]at h;obtain⟨⟨z1,z2,z3,z4,z5,z6,z7,z8,z9,z10,z11,z12,z⟩,hz,h⟩:=KS h;simp only at h;by_cases h1:geq z (-1)=true
  ·rw[Aah h1]at h;obtain⟨⟨y1,y2,y3,y4,y5,y6,y7,y8,y9,y10,y11,y12⟩,hy,h⟩:=KS h;simp only[Afk,Ajt]at h;rw[Ro,AN]at hy;obtain⟨a1,k1,hy⟩:=KS hy;obtain⟨a2,k2,hy⟩:=KS hy;rw[AE,Zp]at hy;obtain⟨a3,k3,hy⟩:=KS hy;simp only[Afk,Ajt]at hy;have e2:=tA k2;exact⟨[],by rw[Aot,<-h.2.2.2.2.2.2.2.2.2.1,<-hy.2.2.2.2.2.2.2.2.2.1,e2,Aqd]⟩
  ·rw[Aab h1]at h;by_cases h2:Bi z 0=true
   ·rw[Aah h2]at h;obtain⟨⟨y1,y2,y3,y4,y5,y6,y7,y8,y9,y10,y11,y12,y13⟩,hy,h⟩:=KS h;simp only[Afk,Ajt]at h;rw[To]at hy;obtain⟨⟨x1,x2,x3,x4,x5,x6,x7,x8,x9,x10,x11,x12⟩,hx,hy⟩:=KS hy;simp only[Afk,Ajt]at hy;rw[IG]at hx;obtain⟨a2,k2,hx⟩:=KS hx;simp only[Afk,Ajt]at hx;have e2:=tA k2;exact⟨[],by rw[Aot,<-h.2.2.2.2.2.2.2.2.2.1,<-hy.2.2.2.2.2.2.2.2.2.1,<-hx.2.2.2.2.2.2.2.2.2.1,e2,Aqd]⟩
   ·rw[Aab h2]at h;have hz0:z=0:=by rw[Ak]at h2;simpa using h2
    rcases Aw9 hf hg hz with h3|⟨h3,h4,y,h5⟩
    ·exact absurd hz0 h3
    ·obtain⟨y2,h6⟩:=Amu q z1 z2 z3 z4 z5 z6 z7 z8 z9 z10 z11 z12 (by rw[h3];exact hf) (by rw[h4];exact hg) _ _ _ _ _ _ _ _ _ _ _ _ _ h;exact⟨y++y2,by rw[h6,h5,Agm]⟩
theorem Bh.Awx{o s p:LB}{f c w r n:Int}{g:LI}{a:Int}{x:LB}{e:Int}(ho:o.length<=64)(h:Bh o s p f c w r n g a x e)(hp:p.length<=20000)(b:LB)(hb:b.length<=20000)(hs:(s++b).length<=100000)
  {p':LB} {f' c' w' r' n':Int} {g':LI} {a':Int} {x':LB} {e':Int} (hk:Fd o (s++b)=some (o,p',f',c',w',r',n',g',a',x',false,e',e')):
  Ds o p f c w r n g a x false e b=some (o,p',f',c',w',r',n',g',a',x',false,e',e')/\Bh o (s++b) p' f' c' w' r' n' g' a' x' e':=by
 obtain⟨p2,f2,c2,w2,r2,n2,g2,a2,x2,e2,h1,_,h3⟩:=h.feed ho hp b hb hs;have h4:=h3.fd hs;rw[hk]at h4;simp only[Afk,Ajt]at h4;obtain⟨_,rfl,rfl,rfl,rfl,rfl,rfl,rfl,rfl,rfl,_,rfl,_⟩:=h4;exact⟨h1,h3⟩
theorem Bh.Bh2{o s p:LB}{f c w r n:Int}{g:LI}{a:Int}{x:LB}{e:Int}(h:Bh o s p f c w r n g a x e)(hf:f≠0):Wt o p f c w r n g a x/\p.length<=s.length:=by
 cases h with
 |wt W hl _=>exact⟨W,hl⟩
 |er=>exact absurd rfl hf
theorem Ac3{w:Nat}(hw:Bt (w:Int)){X:LX}(hl:X.length<=4000)(hr:inR (w:Int) X):Jg (w:Int) X=some (Cy (w:Int) X,0):=gD hw hl (xN hw hl hr)
theorem Agc(w:Nat)(ys:List LX):∀(j k:Nat),k+j<=ys.length->TZ (λi=>Cy (w:Int) (ys.getD i [])) j k=Cy (w:Int) ((ys.drop k).take j).flatten
 |0,k,_=>by simp[TZ,Cy]
 |j+1,k,h=>by
  have e:ys.getD k []=ys[k]:=by rw[List.getD_eq_getElem?_getD,List.getElem?_eq_getElem (by omega)];rfl
  rw[TZ,Agc w ys j (k+1) (by omega),drop_cons (show k<ys.length by omega),List.take_succ_cons,Bja,Apk,e]
section
variable {c w r n:Nat} {x:List Int32} (h:ClipOk c w r n x) {p:LB} (hp:p.length<=64) (h4:x.length<=400)
include h hp h4
omit hp in
theorem Ab0:(Tf c w r n x p).length<=8000:=by
 have h1:=Amc h p;have h2:=iK (c:=c) (w:=w) (r:=r) (n:=n) (x:=x) p;rw[AB]at h2;have h3:(n-1)/Ao r<=n-1:=As2 _ _;have h5:n*1<=n*c:=Nat.mul_le_mul_left n h.ch.1;have h6:=h.len;have:=h.cnt;omega
theorem Ao3{t K:Nat}(ht:MS 0 p (Wy c w r n x p).length<=t)(ht2:t<= (Tf c w r n x p).length)(hK:K<= (Wy c w r n x p).length)(h1:(MS 0 p (Wy c w r n x p).length:Int)+((Cu (Wy c w r n x p)).take K).sum<=t)(h2:K<(Wy c w r n x p).length-> (t:Int)<(MS 0 p (Wy c w r n x p).length:Int)+((Cu (Wy c w r n x p)).take (K+1)).sum):
  Fd p ((Tf c w r n x p).take t)=some (p,((Tf c w r n x p).take t).drop ((MS 0 p (Wy c w r n x p).length:Int)+((Cu (Wy c w r n x p)).take K).sum).toNat,(Ks p:Int),(c:Int),(w:Int),(r:Int),(n:Int),Cu (Wy c w r n x p),(K:Int),Cy (w:Int) (((Wx c r n x).take K).flatten),false,0,0):=by
 have hsm:=Ab0 h (p:=p) h4;have fo:=oK h hp;have o:=Anm h hp ht;have hll:=Jb (Wy c w r n x p);have hlt:((Tf c w r n x p).take t).length=t:=by rw[Ajr];omega
 have hmono:∀i,i<K-> (MS 0 p (Wy c w r n x p).length:Int)+((Cu (Wy c w r n x p)).take (i+1)).sum<=t:=λi hi=>by
  have:=uC (Bbu (Wy c w r n x p)) (show i+1<=K by omega);omega
 have hg:∀i,i<K->KP ((Tf c w r n x p).take t) p (Ks p) c w r n (MS 0 p (Wy c w r n x p).length) (Cu (Wy c w r n x p)) i=(Cy (w:Int) ((Wx c r n x).getD i []),0):=λi hi=>Bbo h hp ht ht2 (by omega) (hmono i hi);have hfd:=Bav o (by omega) (K:=K) (by omega) (by omega) (λi hi=>by rw[hg i hi]) (by
  by_cases hk:K<(Wy c w r n x p).length
  ·exact .inl ⟨by omega,by rw[hlt];exact h2 hk⟩
  ·have hd:=fo.Ayz;have hlen:=congrArg List.length hd;rw[Akm,Aot]at hlen;have hs:=EP (Wy c w r n x p);exact .inr ⟨by omega,by rw[hlt,hs];omega⟩)
 rw[hfd,Agh (λi=>(KP ((Tf c w r n x p).take t) p (Ks p) c w r n (MS 0 p (Wy c w r n x p).length) (Cu (Wy c w r n x p)) i).1) (λi=>Cy (w:Int) ((Wx c r n x).getD i [])) K 0 (λi _ hi=>by rw[hg i (by omega)]),Agc w _ K 0 (by have:=nB (c:=c) (r:=r) (n:=n) (x:=x);have:=iK (c:=c) (w:=w) (r:=r) (n:=n) (x:=x) p;omega),Bka]
end
theorem Asn{c w r K A:Nat}{l fr:LI}{x:LX}{b junk:LB}(hlen:l.length=fr.length)(hl3:l.length<=1000)(hK:K<l.length)(h5:∀z∈l,5<=z)(hsum:(A:Int)+l.sum<=b.length)(hb:b.length<=100000)(hfr:∀z∈fr,0<=z)(hfs:fr.sum*(c:Int)<=4000)(hc1:1<=c)
  (aa ab ac ad:Int) (ae:LB) (af ag ah ai aj ak:Int) (y:LB) (al:Bool) (am:Int) (an:LB)
  (hfin:Ey (K:Int) junk true b ((A:Int)+(l.take (K+1)).sum) ((fr.take (K+1)).sum*(c:Int)) (c:Int) (w:Int) (r:Int) x aa ab ac (A:Int) ad fr ae af ag ah ai aj ak y al am an l=some true):
  ∀(j i q:Nat),i+j=K+1->j<q->Db (K:Int) junk true b (c:Int) (w:Int) (r:Int) x aa ab ac (A:Int) ad fr ae af ag ah ai aj ak y al am an l q ((A:Int)+(l.take i).sum) ((fr.take i).sum*(c:Int)) (i:Int)=some true
 |j,i,0,_,h=>absurd h (Bhc _)
 |0,i,q+1,hi,_=>by
  obtain rfl:i=K+1:=by omega
  rw[Db,Hr,Aab (by rw[ZJ];simp;omega)];exact hfin
 |j+1,i,q+1,hi,hq=>by
  have hil:i<l.length:=by omega
  have hif:i<fr.length:=by omega
  have ih:=Asn hlen hl3 hK h5 hsum hb hfr hfs hc1 aa ab ac ad ae af ag ah ai aj ak y al am an hfin j (i+1) q (by omega) (by omega);have hs1:=Hj hil;have hs2:=Hj hif;have hx5:=h5 l[i] (Am7 _);have b1:=Nw h5 (i+1);have b0:=Nw h5 i;have t1:=OK hfr i;have t2:=OK hfr (i+1);have hf0:=hfr fr[i] (Am7 _);have hi1:Ad (i:Int) 1=((i+1:Nat):Int):=by rw[Aj (by omega) (by omega)];omega
  have hmono:∀z:Int,0<=z->z<=fr.sum->z*(c:Int)<=4000/\0<=z*(c:Int):=λz h0 hz=>⟨Int.le_trans (Int.mul_le_mul_of_nonneg_right hz (by omega)) hfs,Int.mul_nonneg h0 (by omega)⟩;have u1:=hmono _ t1.1 t1.2;have u2:=hmono _ t2.1 t2.2;have u3:=hmono _ hf0 (by omega);have e1:Bn fr[i] (c:Int)=fr[i]*(c:Int):=Hh (by omega) (by omega);have e3:(fr.take (i+1)).sum*(c:Int)=(fr.take i).sum*(c:Int)+fr[i]*(c:Int):=by rw[hs2,Int.add_mul]
  have e2:Ad ((fr.take i).sum*(c:Int)) (fr[i]*(c:Int))=(fr.take (i+1)).sum*(c:Int):=by rw[Aj (by omega) (by omega),e3]
  have e4:Ad ((A:Int)+(l.take i).sum) l[i]=(A:Int)+(l.take (i+1)).sum:=by rw[Aj (by omega) (by omega)];omega
  have e5:Am (Ac b) ((A:Int)+(l.take i).sum)=(b.length:Int)-((A:Int)+(l.take i).sum):=by rw[Ac,Bp (by omega) (by omega)]
  rw[Db,Hr,Aah (by rw[ZJ];simp;omega),Bu hil,Aa,Aa,Aab (by rw[Ae];simp;omega),Aa,Aa,e5,Aab (by rw[Aq];simp;omega),Mk,Uo,Bu hil,Aa,Aa,Bu hif,Aa,Aa,e1,e2,e4,hi1];exact ih
theorem An4(hal:Vx=some true)(C W R:Int)(x:List Int32)(p:LB)(frame:Int)(junk:LB):Js C W R x p frame junk=some true:=by
 rw[Js,Mu,hal,Aa];rcases Am0 C W R x with⟨e8,_⟩|⟨c,w,r,n,rfl,rfl,rfl,h,e24,eck⟩
 ·rw[e8,Aa,Aah (by simp[Ak])]
 rw[e24,Aa];by_cases hc:(((((Bi (0:Int) 0||Ez (Ac x) 400)||Ez (Ac p) 64)||Cr frame 0)||Ez (Ac junk) 100)|| !true)=true
 ·rw[Aah hc]
 rw[Aab hc];simp only[Bat,not_or,Aq,Ae,Ac,Abv]at hc;obtain⟨⟨⟨⟨⟨_,c2⟩,c3⟩,c4⟩,c5⟩,_⟩:=hc;obtain⟨K,rfl⟩:=Aju (show 0<=frame by omega);have hp:p.length<=64:=by omega
 have hx4:x.length<=400:=by omega
 have hle:=h.le;have hcc:=h.ch;have hsm:=Ab0 h (p:=p) hx4;have fo:=oK h hp;have o:=fo.Gc;have hd:=fo.Ayz;have hfn:=Aqo h p;have Bnr:=iK (c:=c) (w:=w) (r:=r) (n:=n) (x:=x) p;have hPl:=nB (c:=c) (r:=r) (n:=n) (x:=x);have hlen:=congrArg List.length hd;rw[Akm,Aot]at hlen;have hA:=o.at';have hll:=Jb (Wy c w r n x p);have Bl8:=EP (Wy c w r n x p);have hq:Cv (Ac x) (c:Int)=(n:Int):=by rw[Ac,mF (by omega),h.len,Nat.mul_div_cancel _ (by omega)]
 have hvp:=(An3 o (by omega)).1;have Bg8:=fo.front;rw[Bg8]at hvp;have hw3:=h.w3;have Bjc:=uH p;rw[Al2 h eck p hp,Aa];simp only;rw[hvp,Aa];simp only;rw[Bo (by rw[Ak];simp;omega),Aa,hq,XV h.rate.2 h.cnt.1 hle.1,Aa,Aab (by simp[Ak,Ae,Aq,Ac];omega)];by_cases hKl:(Om (K:Int) (Ac (Ah (Ao r) n)))=true
 ·rw[Aah hKl]
 rw[Aab hKl];simp only[Dq,Ac,Abv]at hKl;have hK:K<(Wy c w r n x p).length:=by omega
 have Be3:=Ao3 h hp hx4 (t:=MS 0 p (Wy c w r n x p).length) (K:=0) (An0 _) (by omega) (by omega) (by simp) (λ_=>by
  have h5:=o.five ((Cu (Wy c w r n x p))[0]'(by omega)) (Am7 _);have h1:=Hj (l:=Cu (Wy c w r n x p)) (i:=0) (by omega);rw[Bey,Bkf]at h1;omega)
 rw[Bey,Bkf,Bey,List.flatten_nil,Int.add_zero,Ahr,Bkk (by rw[Ajr];omega)]at Be3;generalize hF:Tf c w r n x p=F at*
 generalize hL:Cu (Wy c w r n x p)=l at*
 have hAA:MS 0 p (Wy c w r n x p).length=MS 0 p (Wy c w r n x p).length:=rfl;generalize hAg:MS 0 p (Wy c w r n x p).length=A at*
 have h5:=o.five;have hnn:∀z∈l,0<=z:=λz hz=>by have:=h5 z hz;omega
 have Bec:K<l.length:=by omega
 have hs1:=Hj Bec;have hx5:=h5 l[K] (Am7 _);have hm1:=uC hnn (show K+1<=l.length by omega);rw[Bgh]at hm1;have hm0:=Nw h5 K;obtain⟨e,he⟩:=Aju (show 0<= (A:Int)+(l.take (K+1)).sum by omega);have heF:e<=F.length:=by omega
 have hb0:=Bh.new (o:=p) hp;obtain⟨f1,hb1⟩:=hb0.Awx hp (by simp) (F.take A) (by rw[Ajr];omega) (by rw[Aqd,Ajr];omega) (by rw[Aqd];exact Be3);rw[Aqd]at hb1;have Be4:=Ao3 h hp hx4 (t:=e-1) (K:=K) (by omega) (by rw[hF];omega) (by omega) (by rw[hL,hAg];omega) (λ_=>by rw[hL,hAg];omega);have Be5:=Ao3 h hp hx4 (t:=e) (K:=K+1) (by omega) (by rw[hF];omega) (by omega) (by rw[hL,hAg];omega) (λhh=>by
  rw[hL,hAg];have:=Hj (l:=l) (i:=K+1) (by omega);have:=h5 (l[K+1]'(by omega)) (Am7 _);omega)
 rw[hF,hL,hAg]at Be4 Be5;have Bao:F.take A++(F.take (e-1)).drop A=F.take (e-1):=by
  conv=>rhs;rw[<-Bax A (F.take (e-1)),Bjb,show min A (e-1)=A by omega]
 have Bap:F.take (e-1)++(F.take e).drop (e-1)=F.take e:=by
  conv=>rhs;rw[<-Bax (e-1) (F.take e),Bjb,show min (e-1) e=e-1 by omega]
 obtain⟨f2,hb2⟩:=hb1.Awx hp (by simp) ((F.take (e-1)).drop A) (by simp;omega) (by rw[Bao];simp;omega) (by rw[Bao];exact Be4);rw[Bao]at hb2;obtain⟨f3,hb3⟩:=hb2.Awx hp (by simp;omega) ((F.take e).drop (e-1)) (by simp;omega) (by rw[Bap];simp;omega) (by rw[Bap];exact Be5);rw[Bap]at hb3;have hKf:K<(Ah (Ao r) n).length:=by omega
 have hKp:K<(Wx c r n x).length:=by omega
 have Bk4:=Pf (Fh r) h.cnt.1;have Bg9:∀z∈Ah (Ao r) n,0<=z:=λz hz=>by have:=Bk4 z hz;omega
 have hP0:=aV h K (by omega);have hP1:=aV h (K+1) (by omega);have ht0:=OK Bg9 K;have ht1:=OK Bg9 (K+1);have hts:=Hj hKf;rw[h.sum]at ht0 ht1;have hpre:∀j,j<= (Wx c r n x).length-> ((Wx c r n x).take j).flatten=x.take (((Wx c r n x).take j).flatten.length):=λj hj=>by
  have:((Wx c r n x).take j).flatten++((Wx c r n x).drop j).flatten=x:=by rw[<-Bjo,Bax,Afw h]
  generalize((Wx c r n x).take j).flatten=X at this⊢;rw[<-this,Blj]
 have hp0:=hpre K (by omega);have hp1:=hpre (K+1) (by omega);have hle0:((Wx c r n x).take K).flatten.length<=x.length:=by
  have:=congrArg List.length hp0;rw[Ajr]at this;omega
 have hle1:((Wx c r n x).take (K+1)).flatten.length<=x.length:=by
  have:=congrArg List.length hp1;rw[Ajr]at this;omega
 generalize hX0:((Wx c r n x).take K).flatten=X0 at*
 generalize hX1:((Wx c r n x).take (K+1)).flatten=X1 at*
 have hin:∀k,inR (w:Int) (x.take k):=λk v hv=>h.rng v (Bjy hv);have hw0:Jg (w:Int) X0=some (Cy (w:Int) X0,0):=Ac3 h.bits (by omega) (by rw[hp0];exact hin _);have hw1:Jg (w:Int) X1=some (Cy (w:Int) X1,0):=Ac3 h.bits (by omega) (by rw[hp1];exact hin _);have hX1i:((Ah (Ao r) n).take (K+1)).sum*(c:Int)=(X1.length:Int):=by
  obtain⟨z,hz⟩:=Aju ht1.1;rw[hz,Ahr]at hP1;rw[hz,hP1,Av5]
 have hX0i:((Ah (Ao r) n).take K).sum*(c:Int)=(X0.length:Int):=by
  obtain⟨z,hz⟩:=Aju ht0.1;rw[hz,Ahr]at hP0;rw[hz,hP0,Av5]
 have hmi:(Ah (Ao r) n)[K]*(c:Int)=(X1.length:Int)-(X0.length:Int):=by
  rw[<-hX1i,<-hX0i,hts,Int.add_mul];omega
 rw[QC,Aab (by rw[Aq,Ac];simp;omega),Aa];simp only;rw[Md,Hy,Da (by omega) (by omega),Aa,Ahr,f1,Aa];simp only;rw[Mq,Mn,Aab (by simp[Ak,Ac,Cy];omega),Lz];have hfin:∀aa ab ac ad:Int,Ey (K:Int) junk true F ((A:Int)+(l.take (K+1)).sum) (((Ah (Ao r) n).take (K+1)).sum*(c:Int)) (c:Int) (w:Int) (r:Int) x aa ab ac (A:Int) ad (Ah (Ao r) n) p (Ks p:Int) (c:Int) (w:Int) (r:Int) (n:Int) ((0:Nat):Int) (Cy (w:Int) []) false 0 [] l=some true:=by
  intro aa ab ac ad;have g1:Am (e:Int) 1=((e-1:Nat):Int):=by rw[Bp (by omega) (by omega)];omega
  rw[Ey,Hq,he,hX1i,g1,Ut (by omega) (by omega) (by omega),Aa,Ahr,Ahr,f2,Aa];simp only;have g2:Bn (Ah (Ao r) n)[K] (c:Int)=(X1.length:Int)-(X0.length:Int):=by rw[<-hmi];exact Hh (by rw[hmi];omega) (by rw[hmi];omega)
  have g3:Am (X1.length:Int) ((X1.length:Int)-(X0.length:Int))=(X0.length:Int):=by rw[Bp (by omega) (by omega)];omega
  rw[Ml,Hv,g1,Ut (by omega) (by omega) (by omega),Aa,Ahr,Ahr,f3,Aa];simp only;rw[Lu,Lw,Bu hKf,Aa,Aa,g2,g3,Da (by omega) (by omega),Aa,Ahr,<-hp0,hw0,Aa];simp only;rw[Lr,Mb,Da (by omega) (by omega),Aa,Ahr,<-hp1,hw1,Aa];simp only;have hk1:Ad (K:Int) 1=((K+1:Nat):Int):=by rw[Aj (by omega) (by omega)];omega
  rw[Lt,Uh,hk1,Aab (by simp[Ak])];obtain⟨p4,f4,c4,w4,r4,n4,g4,a4,x4,e4,k1,_,hb4⟩:=hb3.feed hp (by simp;omega) junk (by omega) (by simp;omega);have Bjh:∃y,x4=Cy (w:Int) X1++y:=by
   obtain⟨W3,hl3⟩:=hb3.Bh2 (by omega);have h6:=(Ar7 hp W3 junk (by simp;omega) (by omega)).1;rw[k1]at h6;exact Amu Ay _ _ _ _ _ _ _ _ _ _ _ _ (by omega) (by intro hh;rw[hh]at Bec;simp at Bec) _ _ _ _ _ _ _ _ _ _ _ _ _ h6.symm
  obtain⟨y4,hy4⟩:=Bjh;have Bns:x4.length<=13000000:=by
   cases hb4 with
   |wt W4=>have:=W4.sz.hx;omega
   |er _ _ h12=>omega
  have hp4:p4.length<=20000:=by
   cases hb4 with
   |wt W4 hl4=>
    rw[Aav,Ajr]at hl4;omega
   |er=>simp
  obtain⟨u5,v5,k5,hf5,_⟩:=hb4.finish hp hp4;rw[k1,Aa];simp only;rw[hf5,Aa];simp only;have hlx:(Cy (w:Int) X1).length<=x4.length:=by rw[hy4,Aav];omega
  rw[Aah (by rw[Dq,Ac,Ac];simp;omega),Ac,Da (by omega) (by omega),Aa,Ahr,hy4,Blj];simp
 have Bnt:((Wx c r n x).take 0).flatten=[]:=by simp
 suffices hlp:∀aa ab ac ad:Int,Db (K:Int) junk true F (c:Int) (w:Int) (r:Int) x aa ab ac (A:Int) ad (Ah (Ao r) n) p (Ks p:Int) (c:Int) (w:Int) (r:Int) (n:Int) ((0:Nat):Int) (Cy (w:Int) []) false 0 [] l Ay (A:Int) 0 ((0:Nat):Int)=some true from hlp _ _ _ _
 intro aa ab ac ad;have hlp:=Asn (c:=c) (w:=w) (r:=r) (K:=K) (A:=A) (l:=l) (fr:=Ah (Ao r) n) (x:=x) (b:=F) (junk:=junk) (by omega) (by omega) Bec h5 (by omega) (by omega) Bg9 (by rw[h.sum];have:=h.le;rw[<-Av5];omega) hcc.1 aa ab ac ad p (Ks p:Int) (c:Int) (w:Int) (r:Int) (n:Int) ((0:Nat):Int) (Cy (w:Int) []) false 0 [] (hfin aa ab ac ad) (K+1) 0 Ay (by omega) (by have:=Au;omega);rw[Bey,Bey,Bkf,Int.add_zero,Int.zero_mul]at hlp;exact hlp
theorem law_PushdecFrames(C W R:Int)(x:List Int32)(p:LB)(frame:Int)(junk:LB):Js C W R x p frame junk=some true:=An4 Bcq C W R x p frame junk
end Go.Pl
